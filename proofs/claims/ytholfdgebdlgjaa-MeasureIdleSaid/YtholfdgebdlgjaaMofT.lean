/- Tapes that were made of measures and pulls have these as a truth. No conditions. -/
import Derived.Test.YtholfdgebdlgjaaMofL
namespace Go.Proofs.Ytholfdgebdlgjaa
open Go.RowKit
set_option linter.unusedVariables false
/-- The numbers of measures and pulls at their nodes. -/
def mkX (ms : List (List Int)) (ps : List Int) : Nat → Int := fun i =>
  if i = 0 then 0 else if i < 10 then (ms.getD ((i - 1) / 3) []).getD ((i - 1) % 3) 0 else -(ps.getD (i - 10) 0)
theorem mkX_0 (ms : List (List Int)) (ps : List Int) : mkX ms ps 0 = 0 := rfl
theorem mkX_C (ms : List (List Int)) (ps : List Int) {s a : Nat} (hs : s < 3) (ha : a < 3) : mkX ms ps (nodeC s a) = (ms.getD s []).getD a 0 := by
  unfold mkX nodeC
  rw [if_neg (by omega), if_pos (by omega), show ((1 + (s : Int) * 3 + a).toNat - 1) / 3 = s by omega, show ((1 + (s : Int) * 3 + a).toNat - 1) % 3 = a by omega]
theorem mkX_T (ms : List (List Int)) (ps : List Int) {i : Nat} (hi : i < 3) : mkX ms ps (nodeT i) = -(ps.getD i 0) := by
  unfold mkX nodeT
  rw [if_neg (by omega), if_neg (by omega), show (10 + (i : Int)).toNat - 10 = i by omega]
/-- A reading, and a link, that are right for measures and pulls. -/
structure RdOk (S A T sl : Int) (ms : List (List Int)) (ps : List Int) (r : Int × Int × Int × Int) : Prop where
  s0 : 0 ≤ r.1
  s1 : r.1 < S
  a0 : 0 ≤ r.2.1
  a1 : r.2.1 < A
  t0 : 0 ≤ r.2.2.1
  t1 : r.2.2.1 < T
  lo : (ms.getD r.1.toNat []).getD r.2.1.toNat 0 + ps.getD r.2.2.1.toNat 0 - sl ≤ r.2.2.2
  hi : r.2.2.2 ≤ (ms.getD r.1.toNat []).getD r.2.1.toNat 0 + ps.getD r.2.2.1.toNat 0 + sl
structure LkOk (S A : Int) (ms : List (List Int)) (l : Int × Int × Int × Int × Int × Int) : Prop where
  s0 : 0 ≤ l.1
  s1 : l.1 < S
  a0 : 0 ≤ l.2.1
  a1 : l.2.1 < A
  o0 : 0 ≤ l.2.2.1
  o1 : l.2.2.1 < S
  h0 : 0 ≤ l.2.2.2.1
  h1 : l.2.2.2.1 < A
  ne : ¬ (l.1 = l.2.2.1 ∧ l.2.1 = l.2.2.2.1)
  lo : l.2.2.2.2.1 ≤ (ms.getD l.1.toNat []).getD l.2.1.toNat 0 - (ms.getD l.2.2.1.toNat []).getD l.2.2.2.1.toNat 0
  lo3 : (ms.getD l.1.toNat []).getD l.2.1.toNat 0 - (ms.getD l.2.2.1.toNat []).getD l.2.2.2.1.toNat 0 - 3 ≤ l.2.2.2.2.1
  hi : (ms.getD l.1.toNat []).getD l.2.1.toNat 0 - (ms.getD l.2.2.1.toNat []).getD l.2.2.2.1.toNat 0 ≤ l.2.2.2.2.2
  hi3 : l.2.2.2.2.2 ≤ (ms.getD l.1.toNat []).getD l.2.1.toNat 0 - (ms.getD l.2.2.1.toNat []).getD l.2.2.2.1.toNat 0 + 3
/-- Tapes that are right for measures and pulls. -/
structure Made (t : Tp) (ms : List (List Int)) (ps : List Int) : Prop where
  S1 : 1 ≤ t.S
  S3 : t.S ≤ 3
  A1 : 1 ≤ t.A
  A3 : t.A ≤ 3
  T1 : 1 ≤ t.T
  T3 : t.T ≤ 3
  bl1 : 60 ≤ t.bl
  bl2 : t.bl ≤ 100
  b : t.bl ≤ t.bm
  bm1 : t.bm ≤ t.bl + 60
  pl1 : -3 ≤ t.pl
  pl2 : t.pl ≤ 0
  pm1 : 0 ≤ t.pm
  pm2 : t.pm ≤ 3
  sl0 : 0 ≤ t.sl
  sl2 : t.sl ≤ 2
  grl : (t.gr.length : Int) = t.S
  rows : RowsOk t.bl t.bm t.A ms t.gr
  psl : (ps.length : Int) = t.T
  pls : ∀ p ∈ ps, t.pl ≤ p ∧ p ≤ t.pm
  rdl : t.rd.length ≤ 5
  rd : ∀ r ∈ t.rd, RdOk t.S t.A t.T t.sl ms ps r
  lkl : t.lk.length ≤ 2
  lk : ∀ l ∈ t.lk, LkOk t.S t.A ms l
theorem RowsOk.at {bl bm A : Int} {ms : List (List Int)} {gs : List (Int × Int)} (h : RowsOk bl bm A ms gs) {s a : Nat} (hs : s < gs.length) (ha : (a : Int) < A) : RowOk bl bm A (ms.getD s []) (gs.getD s (0, 0)) ∧ bl ≤ (ms.getD s []).getD a 0 ∧ (ms.getD s []).getD a 0 ≤ bm := by
  have hs' : s < ms.length := by rw [h.len]; exact hs
  have e : ms[s]? = some (ms.getD s []) := by simp [hs']
  have r := h.row s _ e
  refine ⟨r, ?_⟩
  have hl := r.len
  generalize ms.getD s [] = row at r hl ⊢
  exact r.b _ (getD_mem _ (by omega))
theorem Made.meas {t : Tp} {ms : List (List Int)} {ps : List Int} (h : Made t ms ps) {s a : Int} (hs0 : 0 ≤ s) (hs : s < t.S) (ha0 : 0 ≤ a) (ha : a < t.A) : t.bl ≤ (ms.getD s.toNat []).getD a.toNat 0 ∧ (ms.getD s.toNat []).getD a.toNat 0 ≤ t.bm :=
  (h.rows.at (s := s.toNat) (a := a.toNat) (by have := h.grl; omega) (by omega)).2
theorem Made.pull {t : Tp} {ms : List (List Int)} {ps : List Int} (h : Made t ms ps) {i : Int} (h0 : 0 ≤ i) (hi : i < t.T) : t.pl ≤ ps.getD i.toNat 0 ∧ ps.getD i.toNat 0 ≤ t.pm :=
  h.pls _ (getD_mem _ (by have := h.psl; omega))
theorem Made.ok {t : Tp} {ms : List (List Int)} {ps : List Int} (h : Made t ms ps) : t.Ok := by
  obtain ⟨S1, S3, A1, A3, T1, T3, bl1, bl2, b, bm1, pl1, pl2, pm1, pm2, sl0, sl2, grl, rows, psl, hps, rdl, rd, lkl, lk⟩ := h
  have H : Made t ms ps := ⟨S1, S3, A1, A3, T1, T3, bl1, bl2, b, bm1, pl1, pl2, pm1, pm2, sl0, sl2, grl, rows, psl, hps, rdl, rd, lkl, lk⟩
  refine ⟨S1, S3, A1, A3, T1, T3, by omega, by omega, b, by omega, by omega, by omega, sl0, by omega, grl, fun g hg => ?_, by omega, fun r hr => ?_, by omega, fun l hl => ?_⟩
  · obtain ⟨i, hi, rfl⟩ := List.getElem_of_mem hg
    have r := (rows.at (s := i) (a := 0) hi (by omega)).1
    have e : t.gr.getD i (0, 0) = t.gr[i] := by simp [hi]
    rw [e] at r
    exact ⟨r.g1, r.g3, r.g2⟩
  · have q := rd r hr
    have m := H.meas q.s0 q.s1 q.a0 q.a1
    have p := H.pull q.t0 q.t1
    have l := q.lo
    have u := q.hi
    exact ⟨q.s0, q.s1, q.a0, q.a1, q.t0, q.t1, by omega, by omega⟩
  · have q := lk l hl
    have m := H.meas q.s0 q.s1 q.a0 q.a1
    have m2 := H.meas q.o0 q.o1 q.h0 q.h1
    have c1 := q.lo
    have c2 := q.lo3
    have c3 := q.hi
    have c4 := q.hi3
    exact ⟨q.s0, q.s1, q.a0, q.a1, q.o0, q.o1, q.h0, q.h1, q.ne, by omega, by omega, by omega⟩
theorem Made.tr {t : Tp} {ms : List (List Int)} {ps : List Int} (h : Made t ms ps) (out : Int) : Tr t out (mkX ms ps) := by
  have o1 := h.S3
  have o2 := h.A3
  have o3 := h.T3
  have o4 := h.grl
  refine ⟨fun s a hs ha => ?_, fun i hi => ?_, fun i hi hb => ?_, fun i hi => ?_⟩
  · obtain ⟨r, r1, r2⟩ := h.rows.at (s := s) (a := a) (by omega) ha
    have e1 := mkX_C ms ps (s := s) (a := a) (by omega) (by omega)
    refine ⟨by rw [e1, mkX_0]; omega, by rw [e1, mkX_0]; omega, fun h0 => ?_, fun h0 => ?_⟩
    all_goals
      have e2 := mkX_C ms ps (s := s) (a := a - 1) (by omega) (by omega)
      rw [show ((a - 1 : Nat) : Int) = (a : Int) - 1 by omega] at e2
      rw [e1, e2]
      have d := r.d (a - 1) (by have := r.len; omega)
      rw [show a - 1 + 1 = a by omega] at d
      first | exact d.1 | exact d.2
  · have p := h.pull (i := i) (by omega) hi
    have e1 := mkX_T ms ps (i := i) (by omega)
    rw [Int.toNat_natCast] at p
    exact ⟨by rw [e1, mkX_0]; omega, by rw [e1, mkX_0]; omega⟩
  · have q := h.rd _ (getD_mem (0, 0, 0, 0) hi)
    generalize t.rd.getD i (0, 0, 0, 0) = r at q ⊢
    obtain ⟨r1, r2, r3, r4⟩ := r
    have hs0 := q.s0; have hs1 := q.s1; have ha0 := q.a0; have ha1 := q.a1; have ht0 := q.t0; have ht1 := q.t1; have l := q.lo; have u := q.hi
    simp only at hs0 hs1 ha0 ha1 ht0 ht1 l u
    obtain ⟨r1, rfl⟩ := Int.eq_ofNat_of_zero_le hs0
    obtain ⟨r2, rfl⟩ := Int.eq_ofNat_of_zero_le ha0
    obtain ⟨r3, rfl⟩ := Int.eq_ofNat_of_zero_le ht0
    have e1 := mkX_C ms ps (s := r1) (a := r2) (by omega) (by omega)
    have e2 := mkX_T ms ps (i := r3) (by omega)
    rw [Int.toNat_natCast, Int.toNat_natCast, Int.toNat_natCast] at l u
    exact ⟨by show _ ≤ mkX ms ps (nodeC r1 r2) - mkX ms ps (nodeT r3); rw [e1, e2]; show r4 - t.sl ≤ _; omega, by show mkX ms ps (nodeC r1 r2) - mkX ms ps (nodeT r3) ≤ _; rw [e1, e2]; show _ ≤ r4 + t.sl; omega⟩
  · have q := h.lk _ (getD_mem (0, 0, 0, 0, 0, 0) hi)
    generalize t.lk.getD i (0, 0, 0, 0, 0, 0) = r at q ⊢
    obtain ⟨r1, r2, r3, r4, r5, r6⟩ := r
    have hs0 := q.s0; have hs1 := q.s1; have ha0 := q.a0; have ha1 := q.a1; have ho0 := q.o0; have ho1 := q.o1; have hh0 := q.h0; have hh1 := q.h1; have l := q.lo; have u := q.hi
    simp only at hs0 hs1 ha0 ha1 ho0 ho1 hh0 hh1 l u
    obtain ⟨r1, rfl⟩ := Int.eq_ofNat_of_zero_le hs0
    obtain ⟨r2, rfl⟩ := Int.eq_ofNat_of_zero_le ha0
    obtain ⟨r3, rfl⟩ := Int.eq_ofNat_of_zero_le ho0
    obtain ⟨r4, rfl⟩ := Int.eq_ofNat_of_zero_le hh0
    have e1 := mkX_C ms ps (s := r1) (a := r2) (by omega) (by omega)
    have e2 := mkX_C ms ps (s := r3) (a := r4) (by omega) (by omega)
    simp only [Int.toNat_natCast] at l u
    exact ⟨by show _ ≤ mkX ms ps (nodeC r1 r2) - mkX ms ps (nodeC r3 r4); rw [e1, e2]; exact l, by show mkX ms ps (nodeC r1 r2) - mkX ms ps (nodeC r3 r4) ≤ _; rw [e1, e2]; exact u⟩
theorem res_ctt {P : Program} {fn : Func} {tmps : Array Value} {w : World} {t s s2 : Tmp} {ty : TypeId} {b : Nat} {cs : Array Value} {T : TypeId} {d : TypeDesc} {fz : Nat × Nat} {v v2 : Value} (hr : fn.results = #[.cell t ty, .tmp s, .tmp s2]) (ht : tmps.getD t undef = .pointer (some ⟨b, 0, none⟩)) (hd : P.underlying ty = some d) (ha : d.isRow = true) (hi : (P.info? ty).map (·.size) = some cs.size) (H : w.heap[b]? = some (.cells cs T fz))
    (hv : tmps.getD s undef = v) (hv2 : tmps.getD s2 undef = v2) : (results fn tmps).run P w = .ok (.tuple #[.agg cs, v, v2]) w := by
  have hl := load_block (P := P) hd ha hi H
  have ht' : tmps[t]?.getD undef = .pointer (some ⟨b, 0, none⟩) := by simpa using ht
  have hv' : tmps[s]?.getD undef = v := by simpa using hv
  have hv2' : tmps[s2]?.getD undef = v2 := by simpa using hv2
  simp [results, hr, ht', hv', hv2', asAddr, hl, Result.andThen]
/-- What MeasuredOf returns: tapes that are right for the measures and pulls beside them; all in memory of their own. -/
def MofPost (w0 w : World) (b k : Nat) (nv : Value) (S0 A0 wd : Int) (e : Ending) (w' : World) : Prop :=
  ∃ (t : Tp) (ms : List (List Int)) (ps : List Int) (vs : List Value) (gv rv lv mv pv : Value), e = .returned (.tuple #[tpV t gv rv lv, mv, pv]) ∧ Made t ms ps ∧ t.S ≤ S0 ∧ t.A ≤ A0 ∧ t.bm = t.bl + wd ∧
    w'.ownsRow w.heap.size 23 2 gv t.gr.length (flatG t.gr) ∧ w'.ownsRow w.heap.size 66 4 rv t.rd.length (flatR t.rd) ∧ w'.ownsRow w.heap.size 75 6 lv t.lk.length (flatK t.lk) ∧
    w'.ownsRow w.heap.size 29 1 mv ms.length vs ∧ ListsAt w' w.heap.size vs ms ∧ w'.ownsRow w.heap.size 3 1 pv ps.length (ivs ps) ∧ LotsOk w0 w' b (k + 100) nv ∧ Ext [b] w w'
end Go.Proofs.Ytholfdgebdlgjaa
