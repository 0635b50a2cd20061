/- The law MeasureAll: all truths are gone through. No conditions. -/
import Derived.Test.YtholfdgebdlgjaaV1
import Derived.Test.YtholfdgebdlgjaaMof
import Derived.Test.YtholfdgebdlgjaaVd
import Derived.Test.YtholfdgebdlgjaaVr0
import Derived.Test.YtholfdgebdlgjaaVo
import Derived.Laws.OwnMore
import Derived.Test.YtholfdgebdlgjaaVg
namespace Go.Proofs.Ytholfdgebdlgjaa
open Go.RowKit
set_option linter.unusedVariables false
set_option linter.unusedSimpArgs false
theorem gr_one (x : Int × Int) : ∀ u ∈ grRow x, u.oneCell' = true := by simp [grRow, Value.oneCell']
theorem rd_one (x : Int × Int × Int × Int) : ∀ u ∈ rdRow x, u.oneCell' = true := by simp [rdRow, Value.oneCell']
theorem lk_one (x : Int × Int × Int × Int × Int × Int) : ∀ u ∈ lkRow x, u.oneCell' = true := by simp [lkRow, Value.oneCell']
/-- Tapes in memory of one's own. -/
def OwnTp (w : World) (base : Nat) (gv rv lv : Value) (t : Tp) : Prop :=
  w.ownsRow base 23 2 gv t.gr.length (flatG t.gr) ∧ w.ownsRow base 66 4 rv t.rd.length (flatR t.rd) ∧ w.ownsRow base 75 6 lv t.lk.length (flatK t.lk)
theorem flatR_set (u : Int) : ∀ (rd : List (Int × Int × Int × Int)) (i : Nat), i < rd.length → (flatR rd).set (i * 4 + 3) (.int .i64 u) = flatR (rd.set i ((rd.getD i (0, 0, 0, 0)).1, (rd.getD i (0, 0, 0, 0)).2.1, (rd.getD i (0, 0, 0, 0)).2.2.1, u))
  | [], i, h => by simp at h
  | r :: rd, 0, _ => by simp [flatR, rdRow]
  | r :: rd, i + 1, h => by
    have := flatR_set u rd i (by simpa using h)
    simp only [flatR] at this
    simp only [flatR, List.map_cons, List.flatten_cons, List.set_cons_succ, List.getD_cons_succ]
    rw [← this, List.set_append_right _ _ (by simp [rdRow]; omega)]
    congr 2
    simp [rdRow]; omega
end Go.Proofs.Ytholfdgebdlgjaa
namespace Go.Proofs.Ytholfdgebdlgjaa
open Go.RowKit
set_option linter.unusedVariables false
set_option linter.unusedSimpArgs false
theorem Tp.Live.between {t : Tp} (h : t.Live) {i j : Nat} (hi : i < 13) (hj : j < 13) {n : Int} (h1 : -(bdV t 0 j i) ≤ n) (h2 : n ≤ bdV t 0 i j) : ∃ x, Tr t 0 x ∧ x j - x i = n := by
  obtain ⟨y, hy⟩ := h.some
  rw [bdV_some hy] at h1 h2
  have hc := closed_of_round (fun p _ => by rw [(small_loose h.ok 0).2 p]; exact Int.le_refl _) hy
  have zi := (bd_reach h.ok hy hi).2
  have zj := (bd_reach h.ok hy hj).2
  refine ⟨fun k => min (y i k) (n + y j k), ((sol_loose h.ok 0).1 (sol_back hy (fun p q hp hq => ?_))).2, ?_⟩
  · have a := hc.2 p i q hp hi hq
    have b := hc.2 p j q hp hj hq
    show min (y i q) (n + y j q) - min (y i p) (n + y j p) ≤ y p q
    omega
  · show min (y i j) (n + y j j) - min (y i i) (n + y j i) = n
    omega
/-- The same with the point zero at zero. -/
theorem Tr.shift {t : Tp} {x : Nat → Int} (h : Tr t 0 x) (c : Int) : Tr t 0 (fun k => x k + c) :=
  ⟨fun s a hs ha => by
    have q := h.cell s a hs ha
    have q1 := q.lo
    have q2 := q.hi
    refine ⟨by show _ ≤ (x _ + c) - (x _ + c); omega, by show (x _ + c) - (x _ + c) ≤ _; omega, fun h0 => ?_, fun h0 => ?_⟩
    · have := q.glo h0
      show _ ≤ (x _ + c) - (x _ + c)
      omega
    · have := q.ghi h0
      show (x _ + c) - (x _ + c) ≤ _
      omega,
  fun i hi => by
    have q := h.tail i hi
    have q1 := q.lo
    have q2 := q.hi
    exact ⟨by show _ ≤ (x _ + c) - (x _ + c); omega, by show (x _ + c) - (x _ + c) ≤ _; omega⟩,
  fun i hi hb => by
    have q := h.read i hi hb
    have q1 := q.lo
    have q2 := q.hi
    exact ⟨by show _ ≤ (x _ + c) - (x _ + c); omega, by show (x _ + c) - (x _ + c) ≤ _; omega⟩,
  fun i hi => by
    have q := h.link i hi
    have q1 := q.lo
    have q2 := q.hi
    exact ⟨by show _ ≤ (x _ + c) - (x _ + c); omega, by show (x _ + c) - (x _ + c) ≤ _; omega⟩⟩
end Go.Proofs.Ytholfdgebdlgjaa
namespace Go.Proofs.Ytholfdgebdlgjaa
open Go.RowKit
set_option linter.unusedVariables false
set_option linter.unusedSimpArgs false
/-- The numbers of all nodes, of measures and pulls. -/
def ofM (t : Tp) (m : List Int) (p : Nat → Int) : Nat → Int := fun n => if n = 0 then 0 else if n < 10 then m.getD ((((n - 1) / 3 : Nat) : Int) * t.A + (((n - 1) % 3 : Nat) : Int)).toNat 0 else -(p (n - 10))
theorem ofM_C (t : Tp) (m : List Int) (p : Nat → Int) {s a : Int} (s0 : 0 ≤ s) (s3 : s < 3) (a0 : 0 ≤ a) (a3 : a < 3) : ofM t m p (nodeC s a) = m.getD (s * t.A + a).toNat 0 := by
  have e : nodeC s a = (1 + s * 3 + a).toNat := rfl
  rw [ofM, if_neg (by omega), if_pos (by omega), show (((nodeC s a - 1) / 3 : Nat) : Int) = s by omega, show (((nodeC s a - 1) % 3 : Nat) : Int) = a by omega]
theorem ofM_T (t : Tp) (m : List Int) (p : Nat → Int) (i : Nat) : ofM t m p (nodeT i) = -(p i) := by
  have e : nodeT i = (10 + (i : Int)).toNat := rfl
  rw [ofM, if_neg (by omega), if_neg (by omega), show nodeT i - 10 = i by omega]
theorem ofM_tr {t : Tp} (ok : t.Ok) {m : List Int} {p : Nat → Int} (hg : growP t m) (hp : ∀ i : Nat, (i : Int) < t.T → t.pl ≤ p i ∧ p i ≤ t.pm ∧ pullP t m i (p i)) : Tr t 0 (ofM t m p) := by
  have o1 := ok.S3
  have o2 := ok.A3
  have h0 : ofM t m p 0 = 0 := rfl
  refine ⟨fun s a hs ha => ?_, fun i hi => ?_, fun j hj _ => ?_, fun i hi => ?_⟩
  · obtain ⟨g1, g2, g3⟩ := hg.1 s a hs ha
    have e := ofM_C t m p (s := (s : Int)) (a := (a : Int)) (by omega) (by omega) (by omega) (by omega)
    refine ⟨by rw [e, h0]; omega, by rw [e, h0]; omega, fun hp => ?_, fun hp => ?_⟩
    · have e2 := ofM_C t m p (s := (s : Int)) (a := (a : Int) - 1) (by omega) (by omega) (by omega) (by omega)
      have q := (g3 (by omega)).1
      rw [e, e2, show (s : Int) * t.A + ((a : Int) - 1) = (s : Int) * t.A + (a : Int) - 1 by omega]
      rwa [Int.toNat_natCast] at q
    · have e2 := ofM_C t m p (s := (s : Int)) (a := (a : Int) - 1) (by omega) (by omega) (by omega) (by omega)
      have q := (g3 (by omega)).2
      rw [e, e2, show (s : Int) * t.A + ((a : Int) - 1) = (s : Int) * t.A + (a : Int) - 1 by omega]
      rwa [Int.toNat_natCast] at q
  · obtain ⟨p1, p2, -⟩ := hp i hi
    have e := ofM_T t m p i
    exact ⟨by rw [e, h0]; omega, by rw [e, h0]; omega⟩
  · have hr := ok.rd _ (getD_mem (0, 0, 0, 0) hj)
    have hq := fun i hi => (hp i hi).2.2 j hj
    generalize t.rd.getD j (0, 0, 0, 0) = l at hr hq
    have q := hq l.2.2.1.toNat (by omega) (by omega)
    have e := ofM_C t m p (s := l.1) (a := l.2.1) (by omega) (by omega) (by omega) (by omega)
    have e2 := ofM_T t m p l.2.2.1.toNat
    rw [Int.toNat_of_nonneg (by omega)] at e2
    exact ⟨by rw [e, e2]; omega, by rw [e, e2]; omega⟩
  · have hr := ok.lk _ (getD_mem (0, 0, 0, 0, 0, 0) hi)
    have q := hg.2 i hi
    unfold LinkG at q
    generalize t.lk.getD i (0, 0, 0, 0, 0, 0) = l at hr q
    have e := ofM_C t m p (s := l.1) (a := l.2.1) (by omega) (by omega) (by omega) (by omega)
    have e2 := ofM_C t m p (s := l.2.2.1) (a := l.2.2.2.1) (by omega) (by omega) (by omega) (by omega)
    exact ⟨by rw [e, e2]; exact q.1, by rw [e, e2]; exact q.2⟩
theorem truth_grow {t : Tp} (ok : t.Ok) {x : Nat → Int} (hx : Tr t 0 x) (h0 : x 0 = 0) {m : List Int} (hm : ∀ s a : Nat, (s : Int) < t.S → (a : Int) < t.A → m.getD ((s : Int) * t.A + (a : Int)).toNat 0 = x (nodeC s a)) : growP t m := by
  refine ⟨fun s a hs ha => ?_, fun i hi => ?_⟩
  · have q := hx.cell s a hs ha
    have q1 := q.lo
    have q2 := q.hi
    have e := hm s a hs ha
    refine ⟨by rw [e]; omega, by rw [e]; omega, fun hp => ?_⟩
    have q3 := q.glo (by omega)
    have q4 := q.ghi (by omega)
    obtain ⟨b, rfl⟩ : ∃ b, a = b + 1 := ⟨a - 1, by omega⟩
    have e2 := hm s b hs (by omega)
    rw [show (s : Int) * t.A + ((b + 1 : Nat) : Int) - 1 = (s : Int) * t.A + (b : Int) by omega, e, e2, Int.toNat_natCast]
    rw [show ((b + 1 : Nat) : Int) - 1 = (b : Int) by omega] at q3 q4
    exact ⟨q3, q4⟩
  · have q := hx.link i hi
    have hr := ok.lk _ (getD_mem (0, 0, 0, 0, 0, 0) hi)
    unfold LinkG
    generalize t.lk.getD i (0, 0, 0, 0, 0, 0) = l at q hr
    have q1 := q.lo
    have q2 := q.hi
    have e1 := hm l.1.toNat l.2.1.toNat (by omega) (by omega)
    have e2 := hm l.2.2.1.toNat l.2.2.2.1.toNat (by omega) (by omega)
    rw [Int.toNat_of_nonneg (by omega), Int.toNat_of_nonneg (by omega)] at e1 e2
    rw [e1, e2]
    exact ⟨q1, q2⟩
theorem truth_pull {t : Tp} (ok : t.Ok) {x : Nat → Int} (hx : Tr t 0 x) (h0 : x 0 = 0) {m : List Int} (hm : ∀ s a : Nat, (s : Int) < t.S → (a : Int) < t.A → m.getD ((s : Int) * t.A + (a : Int)).toNat 0 = x (nodeC s a)) {i : Nat} (hi : (i : Int) < t.T) :
    t.pl ≤ -(x (nodeT i)) ∧ -(x (nodeT i)) ≤ t.pm ∧ pullP t m i (-(x (nodeT i))) := by
  have q := hx.tail i hi
  have q1 := q.lo
  have q2 := q.hi
  refine ⟨by omega, by omega, fun j hj e => ?_⟩
  have r := hx.read j hj (by simp [hasB])
  have hr := ok.rd _ (getD_mem (0, 0, 0, 0) hj)
  generalize t.rd.getD j (0, 0, 0, 0) = l at e r hr
  have r1 := r.lo
  have r2 := r.hi
  have e1 := hm l.1.toNat l.2.1.toNat (by omega) (by omega)
  rw [Int.toNat_of_nonneg (by omega), Int.toNat_of_nonneg (by omega)] at e1
  rw [e1]
  rw [e] at r1 r2
  omega
/-- Measures with which there is a truth. -/
def isT (t : Tp) (v : List Int) : Prop := v.length = (t.S * t.A).toNat ∧ growP t v ∧ ∀ k : Nat, (k : Int) < t.T → ∃ p, t.pl ≤ p ∧ p ≤ t.pm ∧ pullP t v k p
theorem isT_tr {t : Tp} (ok : t.Ok) {v : List Int} (h : isT t v) {k : Nat} {p : Int} (hp : t.pl ≤ p ∧ p ≤ t.pm ∧ pullP t v k p) : ∃ x, Tr t 0 x ∧ x 0 = 0 ∧ x (nodeT k) = -p ∧ ∀ s a : Nat, (s : Int) < t.S → (a : Int) < t.A → v.getD ((s : Int) * t.A + (a : Int)).toNat 0 = x (nodeC s a) := by
  have o1 := ok.S3
  have o2 := ok.A3
  have hc : ∀ i : Nat, ∃ q, (i : Int) < t.T → t.pl ≤ q ∧ q ≤ t.pm ∧ pullP t v i q := fun i => by
    by_cases hi : (i : Int) < t.T
    · obtain ⟨q, hq⟩ := h.2.2 i hi
      exact ⟨q, fun _ => hq⟩
    · exact ⟨0, fun h => absurd h hi⟩
  obtain ⟨f, hf⟩ := Classical.axiomOfChoice hc
  refine ⟨ofM t v (fun i => if i = k then p else f i), ofM_tr ok h.2.1 fun i hi => ?_, rfl, by rw [ofM_T, if_pos rfl], fun s a hs ha => (ofM_C t v _ (by omega) (by omega) (by omega) (by omega)).symm⟩
  by_cases e : i = k
  · subst e
    simp only [if_true]
    exact hp
  · simp only [if_neg e]
    exact hf i hi
theorem tr_isT {t : Tp} (ok : t.Ok) {x : Nat → Int} (hx : Tr t 0 x) (h0 : x 0 = 0) : ∃ v, isT t v ∧ (∀ s a : Nat, (s : Int) < t.S → (a : Int) < t.A → v.getD ((s : Int) * t.A + (a : Int)).toNat 0 = x (nodeC s a)) ∧
    ∀ k : Nat, (k : Int) < t.T → t.pl ≤ -(x (nodeT k)) ∧ -(x (nodeT k)) ≤ t.pm ∧ pullP t v k (-(x (nodeT k))) := by
  have o1 := ok.A1
  have o2 := ok.A3
  have o3 := ok.S1
  have o4 := ok.S3
  have hv : ∀ s a : Nat, (s : Int) < t.S → (a : Int) < t.A → ((List.range (t.S * t.A).toNat).map fun i => x (nodeC ((i / t.A.toNat : Nat) : Int) ((i % t.A.toNat : Nat) : Int))).getD ((s : Int) * t.A + (a : Int)).toNat 0 = x (nodeC s a) := fun s a hs ha => by
    obtain ⟨x1, x2, x3, x4⟩ := idx_in (S := t.S) (A := t.A) (s := (s : Int)) (a := (a : Int)) (by omega) hs (by omega) ha o4 o2
    have e : ((s : Int) * t.A + (a : Int)).toNat = s * t.A.toNat + a := by
      have : (s : Int) * t.A = ((s * t.A.toNat : Nat) : Int) := by rw [Int.natCast_mul, Int.toNat_of_nonneg (by omega)]
      omega
    have hlt : s * t.A.toNat + a < (t.S * t.A).toNat := by omega
    have d1 : (s * t.A.toNat + a) / t.A.toNat = s := by rw [Nat.mul_comm, Nat.mul_add_div (by omega), Nat.div_eq_of_lt (by omega), Nat.add_zero]
    have d2 : (s * t.A.toNat + a) % t.A.toNat = a := by rw [Nat.mul_comm, Nat.mul_add_mod, Nat.mod_eq_of_lt (by omega)]
    rw [e, List.getD_eq_getElem?_getD, List.getElem?_map, List.getElem?_range hlt]
    show x (nodeC (((s * t.A.toNat + a) / t.A.toNat : Nat) : Int) (((s * t.A.toNat + a) % t.A.toNat : Nat) : Int)) = _
    rw [d1, d2]
  have hp := fun (k : Nat) (hk : (k : Int) < t.T) => truth_pull ok hx h0 hv hk
  exact ⟨_, ⟨by simp, truth_grow ok hx h0 hv, fun k hk => ⟨_, hp k hk⟩⟩, hv, hp⟩
end Go.Proofs.Ytholfdgebdlgjaa
namespace Go.Proofs.Ytholfdgebdlgjaa
open Go.RowKit
set_option linter.unusedVariables false
set_option linter.unusedSimpArgs false
structure Small (t : Tp) : Prop where
  ok : t.Ok
  S2 : t.S ≤ 2
  A2 : t.A ≤ 2
  rdl : t.rd.length ≤ 5
  bm : t.bm = t.bl + 3
  bl1 : 60 ≤ t.bl
  bl2 : t.bl ≤ 100
theorem small_set {t : Tp} {ms : List (List Int)} {ps : List Int} (h : Made t ms ps) (hS : t.S ≤ 2) (hA : t.A ≤ 2) (hb : t.bm = t.bl + 3) : Small t := ⟨h.ok, hS, hA, h.rdl, hb, h.bl1, h.bl2⟩
theorem Small.put {t : Tp} (h : Small t) {j : Nat} (hj : j < t.rd.length) {u : Int} (h0 : 0 ≤ u) (h1 : u ≤ 250) : Small { t with rd := t.rd.set j ((t.rd.getD j (0, 0, 0, 0)).1, (t.rd.getD j (0, 0, 0, 0)).2.1, (t.rd.getD j (0, 0, 0, 0)).2.2.1, u) } := by
  have ok := h.ok
  refine ⟨⟨ok.S1, ok.S3, ok.A1, ok.A3, ok.T1, ok.T3, ok.bl1, ok.bm1, ok.b, ok.pl1, ok.pm1, ok.p, ok.sl0, ok.sl5, ok.grl, ok.gr, by simpa using ok.rdl, fun r hr => ?_, ok.lkl, ok.lk⟩, h.S2, h.A2, by simpa using h.rdl, h.bm, h.bl1, h.bl2⟩
  have q := ok.rd _ (getD_mem (0, 0, 0, 0) hj)
  rcases List.mem_or_eq_of_mem_set hr with hr | rfl
  · exact ok.rd r hr
  · simp only
    omega
def SmallPost (w0 w : World) (b k : Nat) (nv : Value) (e : Ending) (w' : World) : Prop := ∃ t gv rv lv, e = .returned (tpV t gv rv lv) ∧ Small t ∧ OwnTp w' w.heap.size gv rv lv t ∧ Ext [b] w w'
set_option maxRecDepth 100000 in
theorem small_any (w0 w : World) (b k : Nat) (nv : Value) (HL : LotsOk w0 w b k nv) (hk : k ≤ 1000) :
    Calls Try.prog 40 #[.pointer (some ⟨b, 0, none⟩)] w (SmallPost w0 w b k nv) := by
  have hb := HL.1
  have hws : w0.heap.size ≤ w.heap.size := HL.2.2.1.size
  have E : Ext [b] w w := Ext.refl _ _
  have hbw : b < w.heap.size := lots_lt HL
  refine calls_has 37 Try.func40 rfl Try.ntmps40 (Nat.le_of_ble_eq_true rfl) ?_
  intro fa F
  refine wp_seq_k fun K1 hK1 => ?_
  refine wp_region_lit ?_
  refine sq_new F rfl (by decide) rfl (R_alloc rfl Try.zeroValue28) ?_; clear F fa; intro fa w1 F hw
  obtain ⟨n2, hn⟩ : ∃ n, n = w.heap.size := ⟨_, rfl⟩
  rw [← hn] at F
  have s2 : w.heap.size ≤ n2 := Nat.le_of_eq hn.symm
  have l2_E : w.heap.size ≤ n2 := by rw [hn]; exact E.size
  have b2_HL := Nat.lt_of_lt_of_eq (lots_lt HL) hn.symm
  replace E := ext_alloc E hw
  replace HL := lots_alloc hw HL
  have q2 := new_row hw hn
  clear hw hn
  refine wpList_nil ?_
  refine hK1 _ _ ?_
  clear hK1
  refine wp_seq_k fun K2 hK2 => ?_
  refine wp_region_lit ?_
  refine F.mv ?_; clear F fa; intro fa F
  have hle := E.size
  refine sq_call F rfl (by decide) rfl (R_callV rfl rfl Try.call44 (mpS (F.at rfl) (mpS (ev_c fa _) (mpS (ev_c fa _) (mpS (ev_c fa _) mp0))))) (measuredOf_any w0 _ b _ _ 2 2 3 HL (by omega) (by omega) (by omega) (by omega) (by omega) (by omega) (by omega)) fun e w2 hR => ?_
  obtain ⟨t, ms, ps, vs, gv, rv, lv, mv, pv, rfl, hM, hS, hA, hbm, og, orr, olk, om, hms, op, HL, e2⟩ := hR
  refine ⟨_, rfl, ?_⟩; clear F fa; intro fa F
  replace q2 := (e2).keep q2 (by simp; omega)
  replace E := E.trans' e2 (fun i hi hl => by simp only [List.mem_cons, List.not_mem_nil, or_false] at hi ⊢; omega)
  obtain ⟨ga, gc, rfl⟩ := owns_slice og
  obtain ⟨ra, rc, rfl⟩ := owns_slice orr
  obtain ⟨la, lc, rfl⟩ := owns_slice olk
  obtain ⟨ma, mc, rfl⟩ := owns_slice om
  obtain ⟨pa, pc, rfl⟩ := owns_slice op
  clear om hms op e2
  replace og := owns_lower og hle
  replace orr := owns_lower orr hle
  replace olk := owns_lower olk hle
  refine F.mv ?_; clear F fa; intro fa F
  refine F.vl (R_extract rfl (F.at rfl) (get0)) ?_; clear F fa; intro fa F
  refine F.vl (R_extract rfl (F.at rfl) (getS (get0))) ?_; clear F fa; intro fa F
  refine F.vl (R_extract rfl (F.at rfl) (getS (getS (get0)))) ?_; clear F fa; intro fa F
  refine sq_new F rfl (by decide) rfl (R_alloc rfl Try.zeroValue28) ?_; clear F fa; intro fa w3 F hw
  obtain ⟨n3, hn⟩ : ∃ n, n = w2.heap.size := ⟨_, rfl⟩
  rw [← hn] at F
  have s3 : w2.heap.size ≤ n3 := Nat.le_of_eq hn.symm
  have l3_E : w.heap.size ≤ n3 := by rw [hn]; exact E.size
  have b3_HL := Nat.lt_of_lt_of_eq (lots_lt HL) hn.symm
  have m3_2 : n2 < n3 := by rw [hn]; exact blk_lt q2
  have o3_og := Lib.hid (own_ne_new og hn)
  have o3_olk := Lib.hid (own_ne_new olk hn)
  have o3_orr := Lib.hid (own_ne_new orr hn)
  replace og := owns_alloc hw og
  replace olk := owns_alloc hw olk
  replace orr := owns_alloc hw orr
  replace q2 := keep_alloc hw q2
  replace E := ext_alloc E hw
  replace HL := lots_alloc hw HL
  have q3 := new_row hw hn
  clear hw hn
  refine sq_to rfl rfl (R_storeRow rfl (F.at rfl) (F.at rfl) (by kernel_rfl) (by first | (simp [Value.oneCell']; done) | (simp [Value.oneCell', grRow, rdRow, lkRow]; done)) q3 rfl) ?_; intro w4 hw
  replace og := owns_cellsX hw og (own_ne_type og q3 (by decide))
  replace olk := owns_cellsX hw olk (own_ne_type olk q3 (by decide))
  replace orr := owns_cellsX hw orr (own_ne_type orr q3 (by decide))
  replace q2 := keep_cells hw q2 (by omega)
  replace q3 := put_row hw q3 rfl
  replace E := ext_cells E hw (fun h => by first | exact absurd h (by omega) | simp)
  replace HL := lots_cells hw HL (by omega) (by omega)
  clear hw
  refine F.as ?_; clear F fa; intro fa F
  refine F.as ?_; clear F fa; intro fa F
  refine wpList_nil ?_
  have hSm := small_set hM hS hA hbm
  have hrl := hSm.rdl
  have hb1 := hSm.bl1
  have hb2 := hSm.bl2
  refine hK2 _ _ ?_
  clear hK2
  refine wp_seq_k fun K3 hK3 => ?_
  refine wp_seq_k fun K4 hK4 => ?_
  refine wp_region_lit ?_
  refine F.vl (R_field rfl (F.at rfl) Try.underlying28 rfl (n := 9) (sz := 1) rfl (by kernel_rfl) (by decide)) ?_; clear F fa; intro fa F
  refine F.vl (R_load rfl (F.at rfl) Try.underlying25 rfl ((cells_of_block q3 9).trans (getS (getS (getS (getS (getS (getS (getS (getS (getS (get0)))))))))))) ?_; clear F fa; intro fa F
  refine F.vl (R_len rfl rfl (F.at rfl) Try.underlying25) ?_; clear F fa; intro fa F
  refine F.as ?_; clear F fa; intro fa F
  refine wpList_nil ?_
  refine hK4 _ _ ?_
  clear hK4
  refine wp_seq_k fun K5 hK5 => ?_
  refine wp_region_lit ?_
  refine F.mv ?_; clear F fa; intro fa F
  refine F.vl (R_gtr rfl (F.at rfl) (ev_c fa _)) ?_; clear F fa; intro fa F
  refine F.mv ?_; clear F fa; intro fa F
  by_cases hg1 : (0 < ((t.rd.length : Nat) : Int))
  · skip
    replace F := F.re (k := 18) rfl (congrArg Value.bool (decide_eq_true hg1))
    refine F.mv ?_ (hw := (wantT F rfl rfl (by decide) rfl)); clear F fa; intro fa F
    refine sq_call F rfl (by decide) (wantT F rfl rfl (by decide) rfl) (R_callV rfl rfl Try.call69 (mpS (F.at rfl) (mpS (ev_c fa _) mp0))) (rare_any w0 _ b _ nv 3 HL (by omega) (by omega) (by omega)) fun e w5 hR => ?_
    obtain ⟨r, rfl, HL, e3⟩ := hR
    refine ⟨_, rfl, ?_⟩; clear F fa; intro fa F
    replace og := owns_ext og (e3) (by simp; omega)
    replace olk := owns_ext olk (e3) (by simp; omega)
    replace orr := owns_ext orr (e3) (by simp; omega)
    replace q2 := (e3).keep q2 (by simp; omega)
    replace q3 := (e3).keep q3 (by simp; omega)
    replace E := E.trans' e3 (fun i hi hl => by simp only [List.mem_cons, List.not_mem_nil, or_false] at hi ⊢; omega)
    refine F.vl (R_pickT rfl (F.at rfl) (F.at rfl)) ?_; clear F fa; intro fa F
    refine wpList_nil ?_
    refine hK5 _ _ ?_
    clear hK5
    refine cd_b F rfl (fun hc21 => ?_) (fun hc21 => ?_)
    · skip
      have EX : Ext [b] w5 w5 := Ext.refl _ _
      have HX := Lib.hid (slAt_of_owns orr rfl (fun _ => rfl) [b] (by simp; omega) (0, 0, 0, 0))
      have hfl : (flatR t.rd).length = t.rd.length * 4 := flat_len (row := rdRow) (sz := 4) (fun _ => rfl) t.rd
      refine region_x (Ext [b] w5) (some 14) follows fun w6 hh eh => ?_
      have q2_ := q2
      replace q2 := keep_same hh q2
      have q3_ := q3
      replace q3 := keep_same hh q3
      have E_ := E
      have zEw6 := E.size
      replace E := ext_same E eh
      have EX_ := EX
      have zEXw6 := EX.size
      replace EX := ext_same EX eh
      have zbw6 := lots_lt HL
      replace HL := lots_ext eh HL
      replace og := owns_same hh og
      replace olk := owns_same hh olk
      replace orr := owns_same hh orr
      have eT := eh.mono (Y := [b]) (by simp)
      clear hh eh
      refine F.x (i := 0) rfl (fun w' => R_field rfl (F.at rfl) Try.underlying28 rfl (n := 9) (sz := 1) rfl (by kernel_rfl) (by decide)) (fun _ => eT) ?_; clear F fa; intro fa F
      refine F.xr (i := 1) rfl (fun w' hS => R_load rfl (F.at rfl) Try.underlying25 rfl ((cells_of_block (hS.keep q3_ (by simp; omega)) 9).trans (getS (getS (getS (getS (getS (getS (getS (getS (getS (get0)))))))))))) (fun _ => eT) ?_; clear F fa; intro fa F
      refine F.x (i := 2) rfl (fun w' => R_move rfl (F.at rfl)) (fun _ => eT) ?_; clear F fa; intro fa F
      refine F.x (i := 3) rfl (fun w' => R_move rfl (F.at rfl)) (fun _ => eT) ?_; clear F fa; intro fa F
      refine F.x (i := 4) rfl (fun w' => R_sub rfl (F.at rfl) (ev_c fa _) (by omega) (by omega)) (fun _ => eT) ?_; clear F fa; intro fa F
      refine F.x (i := 6) rfl (fun w' => R_field rfl (F.at rfl) Try.underlying28 rfl (n := 3) (sz := 2) rfl (by kernel_rfl) (by decide)) (fun _ => eT) ?_; clear F fa; intro fa F
      refine F.x (i := 7) rfl (fun w' => R_field rfl (F.at rfl) Try.underlying23 rfl (n := 3) (sz := 1) rfl (by kernel_rfl) (by decide)) (fun _ => eT) ?_; clear F fa; intro fa F
      refine F.xr (i := 8) rfl (fun w' hS => R_load rfl (F.at rfl) Try.underlying3 rfl ((cells_of_block (hS.keep q3_ (by simp; omega)) 3).trans (getS (getS (getS (get0)))))) (fun _ => eT) ?_; clear F fa; intro fa F
      refine F.x (i := 9) rfl (fun w' => R_move rfl (F.at rfl)) (fun _ => eT) ?_; clear F fa; intro fa F
      refine ax_only (i := 5) (by kernel_rfl) (op_call F rfl rfl (by decide) rfl (R_callV rfl rfl Try.call51 (mpS (F.at rfl) (mpS (F.at rfl) mp0))) (upto_any w0 _ b _ nv ((t.rd.length : Int) - 1) HL (by omega) (by omega) (by omega)) fun e w7 hR => ?_)
      obtain ⟨u, rfl, hu1, hu2, HL, e4⟩ := hR
      refine ⟨_, rfl, ?_⟩; clear F fa; intro fa F
      replace og := owns_ext og (e4) (by simp; omega)
      replace olk := owns_ext olk (e4) (by simp; omega)
      replace orr := owns_ext orr (e4) (by simp; omega)
      replace q2 := (e4).keep q2 (by simp; omega)
      replace q3 := (e4).keep q3 (by simp; omega)
      replace E := E.trans' e4 (fun i hi hl => by simp only [List.mem_cons, List.not_mem_nil, or_false] at hi ⊢; omega)
      replace EX := EX.trans' e4 (fun i hi hl => by simp only [List.mem_cons, List.not_mem_nil, or_false] at hi ⊢; omega)
      replace eT := eT.trans' e4 (fun i hi hl => by simp only [List.mem_cons, List.not_mem_nil, or_false] at hi ⊢; omega)
      refine ⟨fun _ => eT, ?_⟩
      refine ax_only (i := 10) (by kernel_rfl) (op_call F rfl rfl (by decide) rfl (R_callV rfl rfl Try.call51 (mpS (F.at rfl) (mpS (ev_c fa _) mp0))) (upto_any w0 _ b _ nv 5 HL (by omega) (by omega) (by omega)) fun e w8 hR => ?_)
      obtain ⟨v, rfl, hv1, hv2, HL, e4⟩ := hR
      refine ⟨_, rfl, ?_⟩; clear F fa; intro fa F
      replace og := owns_ext og (e4) (by simp; omega)
      replace olk := owns_ext olk (e4) (by simp; omega)
      replace orr := owns_ext orr (e4) (by simp; omega)
      replace q2 := (e4).keep q2 (by simp; omega)
      replace q3 := (e4).keep q3 (by simp; omega)
      replace E := E.trans' e4 (fun i hi hl => by simp only [List.mem_cons, List.not_mem_nil, or_false] at hi ⊢; omega)
      replace EX := EX.trans' e4 (fun i hi hl => by simp only [List.mem_cons, List.not_mem_nil, or_false] at hi ⊢; omega)
      replace eT := eT.trans' e4 (fun i hi hl => by simp only [List.mem_cons, List.not_mem_nil, or_false] at hi ⊢; omega)
      refine ⟨fun _ => eT, ?_⟩
      refine F.x (i := 11) rfl (fun w' => R_add rfl (F.at rfl) (F.at rfl) (by omega) (by omega)) (fun _ => eT) ?_; clear F fa; intro fa F
      obtain ⟨xb6, xo6, xa6, xr6⟩ := HX.out u.toNat (by omega)
      refine F.x (i := 12) rfl (fun w' => R_ixSlice (sz := 4) rfl ((F.at rfl).trans (xa6 _ _)) (F.at rfl) Try.underlying25 (by kernel_rfl) (by omega) (by omega)) (fun _ => eT) ?_; clear F fa; intro fa F
      refine F.x (i := 13) rfl (fun w' => R_field rfl (F.at rfl) Try.underlying66 rfl (n := xo6 + u.toNat * 4 + 3) (sz := 1) rfl (by kernel_rfl) (by decide)) (fun _ => eT) ?_; clear F fa; intro fa F
      obtain ⟨⟨u0, hcu⟩, hfu, hst⟩ := owns_at orr xa6 (j := u.toNat * 4 + 3) (p := xo6 + u.toNat * 4 + 3) (by first | omega | (simp; omega)) (by omega)
      refine ax_only (i := 14) (by kernel_rfl) (op_to rfl rfl rfl (R_store rfl (F.at rfl) (F.at rfl) rfl (by kernel_rfl) hcu hfu) ?_); intro w9 hw
      obtain ⟨hown', hg⟩ := hst _ _ hw
      clear hst hcu hfu hw
      replace q2 := keep_type orr hg q2 (by decide)
      replace q3 := (hg.block n3 (blk_lt q3) o3_orr.out).trans q3
      replace HL := lots_append HL orr hg (by omega) (by decide)
      replace og := owns_other og orr hg (by decide)
      replace olk := owns_other olk orr hg (by decide)
      replace E := ext_appendX E orr hg (by omega)
      replace orr := hown'
      clear hg
      refine ⟨gone (by kernel_rfl), ?_⟩
      rw [flatR_set _ _ _ (by omega)] at orr
      have hSm2 := hSm.put (j := u.toNat) (by omega) (u := t.bl + v) (by omega) (by omega)
      refine ax_done (by kernel_rfl) ?_ _
      clear eT q2_ q3_ E_ EX_
      refine hK3 _ _ ?_
      clear hK3
      refine wp_seq_k fun K7 hK7 => ?_
      refine wp_region_lit ?_
      refine F.vl (R_loadBlk rfl (F.at rfl) Try.underlying28 rfl (by kernel_rfl) q3) ?_; clear F fa; intro fa F
      refine sq_to rfl rfl (R_storeRow rfl (F.at rfl) (F.at rfl) (by kernel_rfl) (by first | (simp [Value.oneCell']; done) | (simp [Value.oneCell', grRow, rdRow, lkRow]; done)) q2 rfl) ?_; intro w10 hw
      replace og := owns_cellsX hw og (own_ne_type og q2 (by decide))
      replace olk := owns_cellsX hw olk (own_ne_type olk q2 (by decide))
      replace orr := owns_cellsX hw orr (own_ne_type orr q2 (by decide))
      replace q2 := put_row hw q2 rfl
      replace q3 := keep_cells hw q3 (by omega)
      replace E := ext_cells E hw (fun h => by first | exact absurd h (by omega) | simp)
      replace HL := lots_cells hw HL (by omega) (by omega)
      clear hw
      refine wpList_nil ?_
      refine hK7 _ _ ?_
      clear hK7
      refine wp_ret ?_
      (try simp only [Exit.inBlock, Exit.then])
      refine rt_v F (rs_c F rfl rfl Try.underlying28 rfl (by kernel_rfl) q2) ?_
      first | exact ⟨{ t with rd := t.rd.set u.toNat ((t.rd.getD u.toNat (0, 0, 0, 0)).1, (t.rd.getD u.toNat (0, 0, 0, 0)).2.1, (t.rd.getD u.toNat (0, 0, 0, 0)).2.2.1, t.bl + v) }, _, _, _, rfl, hSm2, ⟨og, (by simp only [List.length_set]; exact orr), olk⟩, E⟩ | exact ⟨t, _, _, _, rfl, hSm, ⟨og, orr, olk⟩, E⟩
    · skip
      refine wp_skip ?_
      refine hK3 _ _ ?_
      clear hK3
      refine wp_seq_k fun K8 hK8 => ?_
      refine wp_region_lit ?_
      refine F.vl (R_loadBlk rfl (F.at rfl) Try.underlying28 rfl (by kernel_rfl) q3) ?_; clear F fa; intro fa F
      refine sq_to rfl rfl (R_storeRow rfl (F.at rfl) (F.at rfl) (by kernel_rfl) (by first | (simp [Value.oneCell']; done) | (simp [Value.oneCell', grRow, rdRow, lkRow]; done)) q2 rfl) ?_; intro w11 hw
      replace og := owns_cellsX hw og (own_ne_type og q2 (by decide))
      replace olk := owns_cellsX hw olk (own_ne_type olk q2 (by decide))
      replace orr := owns_cellsX hw orr (own_ne_type orr q2 (by decide))
      replace q2 := put_row hw q2 rfl
      replace q3 := keep_cells hw q3 (by omega)
      replace E := ext_cells E hw (fun h => by first | exact absurd h (by omega) | simp)
      replace HL := lots_cells hw HL (by omega) (by omega)
      clear hw
      refine wpList_nil ?_
      refine hK8 _ _ ?_
      clear hK8
      refine wp_ret ?_
      (try simp only [Exit.inBlock, Exit.then])
      refine rt_v F (rs_c F rfl rfl Try.underlying28 rfl (by kernel_rfl) q2) ?_
      first | exact ⟨{ t with rd := t.rd.set u.toNat ((t.rd.getD u.toNat (0, 0, 0, 0)).1, (t.rd.getD u.toNat (0, 0, 0, 0)).2.1, (t.rd.getD u.toNat (0, 0, 0, 0)).2.2.1, t.bl + v) }, _, _, _, rfl, hSm2, ⟨og, (by simp only [List.length_set]; exact orr), olk⟩, E⟩ | exact ⟨t, _, _, _, rfl, hSm, ⟨og, orr, olk⟩, E⟩
  · skip
    replace F := F.re (k := 18) rfl (congrArg Value.bool (decide_eq_false hg1))
    refine sq_no F rfl (by decide) (wantF F rfl rfl (by decide) rfl (by decide)) ?_; clear F fa; intro fa F
    refine sq_no F rfl (by decide) (wantF F rfl rfl (by decide) rfl (by decide)) ?_; clear F fa; intro fa F
    refine F.vl (R_pickF rfl (F.at rfl) (ev_c fa _)) ?_; clear F fa; intro fa F
    refine wpList_nil ?_
    refine hK5 _ _ ?_
    clear hK5
    refine cd_F F rfl ?_
    refine wp_skip ?_
    refine hK3 _ _ ?_
    clear hK3
    refine wp_seq_k fun K9 hK9 => ?_
    refine wp_region_lit ?_
    refine F.vl (R_loadBlk rfl (F.at rfl) Try.underlying28 rfl (by kernel_rfl) q3) ?_; clear F fa; intro fa F
    refine sq_to rfl rfl (R_storeRow rfl (F.at rfl) (F.at rfl) (by kernel_rfl) (by first | (simp [Value.oneCell']; done) | (simp [Value.oneCell', grRow, rdRow, lkRow]; done)) q2 rfl) ?_; intro w12 hw
    replace og := owns_cellsX hw og (own_ne_type og q2 (by decide))
    replace olk := owns_cellsX hw olk (own_ne_type olk q2 (by decide))
    replace orr := owns_cellsX hw orr (own_ne_type orr q2 (by decide))
    replace q2 := put_row hw q2 rfl
    replace q3 := keep_cells hw q3 (by omega)
    replace E := ext_cells E hw (fun h => by first | exact absurd h (by omega) | simp)
    replace HL := lots_cells hw HL (by omega) (by omega)
    clear hw
    refine wpList_nil ?_
    refine hK9 _ _ ?_
    clear hK9
    refine wp_ret ?_
    (try simp only [Exit.inBlock, Exit.then])
    refine rt_v F (rs_c F rfl rfl Try.underlying28 rfl (by kernel_rfl) q2) ?_
    first | exact ⟨{ t with rd := t.rd.set u.toNat ((t.rd.getD u.toNat (0, 0, 0, 0)).1, (t.rd.getD u.toNat (0, 0, 0, 0)).2.1, (t.rd.getD u.toNat (0, 0, 0, 0)).2.2.1, t.bl + v) }, _, _, _, rfl, hSm2, ⟨og, (by simp only [List.length_set]; exact orr), olk⟩, E⟩ | exact ⟨t, _, _, _, rfl, hSm, ⟨og, orr, olk⟩, E⟩
end Go.Proofs.Ytholfdgebdlgjaa
namespace Go.Proofs.Ytholfdgebdlgjaa
open Go.RowKit
set_option linter.unusedVariables false
set_option linter.unusedSimpArgs false
theorem made_one (z : Value) (n : Nat) : (madeCells #[z] n).toList = List.replicate n z := by
  apply List.ext_getElem
  · simp [madeCells]
  · intro i h1 h2
    simp [madeCells, Nat.mod_one]
theorem make_run {P : Program} {o : Oper} {w : World} {a : Act} {x y : Operand} {t : TypeId} (ho : o.op = .makeSlice t x y) (base : Nat) {e : TypeId} {bytes : Nat} {z : Value} (ht : P.underlying t = some (.slice e))
    (hi : (P.info? e).map (fun i => (i.size, i.bytes, i.zero)) = some (1, bytes, some z)) (hz : z.cells = #[z]) {kl kc : IntKind} {n : Nat} (hx : a.eval x = .int kl n) (hy : a.eval y = .int kc n) (hn : n ≤ 1000) (hb : bytes ≤ 1000) (hbase : base ≤ w.heap.size) :
    ∃ v' w', (execOp a.eval o).run P w = .ok (.value v') w' ∧ w'.ownsRow base e 1 v' n (List.replicate n z) ∧ w.grownBy w' none ∧ v' = .slice (some ⟨w.heap.size, 0, none⟩) n n := by
  cases hq : P.info? e with
  | none => simp [hq] at hi
  | some i =>
    simp only [hq, Option.map_some, Option.some.injEq, Prod.mk.injEq] at hi
    obtain ⟨h1, h2, h3⟩ := hi
    obtain ⟨w', hr, ho2, hg⟩ := run_makeSlice_full (P := P) w base t e i z 1 ht hq h3 h1 kl kc n (by omega) (by rw [h2]; exact Nat.le_trans (Nat.mul_le_mul hb hn) (by decide)) (by simp only [maxLen]; omega) hbase
    rw [hz, Nat.mul_one, made_one] at ho2
    refine ⟨_, w', ?_, ho2, hg, rfl⟩
    unfold execOp
    simp only [ho, hx, hy, Sem.run_bind, Sem.run_pure, Result.andThen_ok, hr]
theorem keep_none {w w' : World} {b : Nat} {o : Obj} (hg : w.grownBy w' none) (q : w.heap[b]? = some o) : w'.heap[b]? = some o := by
  rw [hg.block b (blk_lt q) (by simp), q]
theorem owns_none {w w' : World} {base n size : Nat} {e : TypeId} {v : Value} {xs : List Value} (hg : w.grownBy w' none) (h : w.ownsRow base e size v n xs) : w'.ownsRow base e size v n xs :=
  h.kept hg (by cases v.ownBlock with | none => exact .inl rfl | some b => exact .inr (by simp))
theorem ext_none {X : List Nat} {w0 w w' : World} (E : Ext X w0 w) (hg : w.grownBy w' none) : Ext X w0 w' :=
  ⟨hg.os.trans E.os, hg.tape.trans E.tape, hg.output.trans E.output, Nat.le_trans E.size hg.size, fun k hk hx => (hg.block k (Nat.lt_of_lt_of_le hk E.size) (by simp)).trans (E.block k hk hx)⟩
/-- Slices of one's own of one element type, each with its own block. -/
def FamG (w : World) (base : Nat) (e : TypeId) (L : List (Value × Nat × List Value)) : Prop := (∀ p ∈ L, w.ownsRow base e 1 p.1 p.2.1 p.2.2) ∧ L.Pairwise fun p q => ∀ b, p.1.ownBlock = some b → q.1.ownBlock ≠ some b
theorem famG_put {w w' : World} {base n n' : Nat} {e : TypeId} {x v : Value} {m m' : List Value} {R : List (Value × Nat × List Value)} (h : FamG w base e ((x, n, m) :: R)) (hv : w'.ownsRow base e 1 v n' m') (hg : w.grownBy w' x.ownBlock) (hb : v.ownBlock = x.ownBlock ∨ v.ownBlock = some w.heap.size) :
    FamG w' base e ((v, n', m') :: R) := by
  obtain ⟨h1, h2⟩ := h
  obtain ⟨h3, h4⟩ := List.pairwise_cons.1 h2
  refine ⟨fun p hp => ?_, List.pairwise_cons.2 ⟨fun q hq b e => ?_, h4⟩⟩
  · rcases List.mem_cons.1 hp with rfl | hp
    · exact hv
    · refine (h1 p (List.mem_cons_of_mem _ hp)).kept hg ?_
      cases hx : x.ownBlock with
      | none =>
        cases hq : p.1.ownBlock with
        | none => exact .inl rfl
        | some c => exact .inr (by simp)
      | some b => exact .inr (h3 p hp b hx)
  · rcases hb with hb | hb
    · rw [hb] at e
      exact h3 q hq b e
    · intro hc
      have := (h1 q (List.mem_cons_of_mem _ hq)).lt b hc
      rw [hb] at e
      cases e
      omega
theorem famG_perm {w : World} {base : Nat} {e : TypeId} {L M : List (Value × Nat × List Value)} (h : FamG w base e L) (hp : M.Perm L) : FamG w base e M :=
  ⟨fun p hm => h.1 p (hp.mem_iff.1 hm), (hp.pairwise_iff (fun {x y} hxy b hb hx => hxy b hx hb)).2 h.2⟩
theorem famG_lift {w w' : World} {base base' : Nat} {e : TypeId} {L : List (Value × Nat × List Value)} (h : FamG w base e L) (k : ∀ v n xs, w.ownsRow base e 1 v n xs → w'.ownsRow base' e 1 v n xs) : FamG w' base' e L :=
  ⟨fun p hp => k _ _ _ (h.1 p hp), h.2⟩
theorem perm4_2 {α : Type} (a b c d : α) : [b, a, c, d].Perm [a, b, c, d] := (List.perm_middle (l₁ := [a]) (a := b) (l₂ := [c, d])).symm
theorem perm4_3 {α : Type} (a b c d : α) : [c, a, b, d].Perm [a, b, c, d] := (List.perm_middle (l₁ := [a, b]) (a := c) (l₂ := [d])).symm
theorem perm4_4 {α : Type} (a b c d : α) : [d, a, b, c].Perm [a, b, c, d] := (List.perm_middle (l₁ := [a, b, c]) (a := d) (l₂ := [])).symm
theorem appends_runB {P : Program} {o : Oper} {w : World} {a : Act} {s x : Operand} {t : TypeId} (ho : o.op = .call { callee := .builtin .append, args := #[s, x], argTypes := #[t, t] })
    (base : Nat) {e : TypeId} {size bytes : Nat} (ht : P.underlying t = some (.slice e)) (hi : (P.info? e).map (fun i => (i.size, i.bytes, i.zero.map (·.cells.size))) = some (size, bytes, some size)) (hsz : 0 < size)
    {v : Value} {n : Nat} {xs : List Value} (hs : a.eval s = v) (hown : w.ownsRow base e size v n xs)
    {sa : Option Addr} {m c : Nat} {news : List Value} (hx : a.eval x = .slice sa m c) (hsrc : SrcAt w size sa m news)
    (hn : n + m ≤ 1000000) (hbytes : (n + m) * bytes ≤ 140737488355328) (hbase : base ≤ w.heap.size) :
    ∃ v' w', (execOp a.eval o).run P w = .ok (.value v') w' ∧ w'.ownsRow base e size v' (n + m) (xs ++ news) ∧ w.grownBy w' v.ownBlock ∧ (v'.ownBlock = v.ownBlock ∨ v'.ownBlock = some w.heap.size) := by
  cases hq : P.info? e with
  | none => simp [hq] at hi
  | some i =>
    simp only [hq, Option.map_some, Option.some.injEq, Prod.mk.injEq, Option.map_eq_some_iff] at hi
    obtain ⟨hi1, hi2, z, hz, hz2⟩ := hi
    have key : ∃ v' w', (Builtin.append_ #[t, t] o.type #[v, .slice sa m c]).run P w = .ok v' w' ∧ w'.ownsRow base e size v' (n + m) (xs ++ news) ∧ w.grownBy w' v.ownBlock ∧ (v'.ownBlock = v.ownBlock ∨ v'.ownBlock = some w.heap.size) := by
      cases sa with
      | none =>
        have hm := hsrc.nil rfl
        subst hm
        have hnl := hsrc.len
        rw [Nat.zero_mul] at hnl
        obtain rfl := List.eq_nil_of_length_eq_zero hnl
        refine ⟨v, w, ?_, by simpa using hown, ⟨rfl, rfl, rfl, Nat.le_refl _, fun _ _ _ => rfl⟩, .inl rfl⟩
        rcases hown.2 with ⟨rfl, rfl⟩ | ⟨g, cap, cur, rfl, hbg, hg, hnc, hcm, hcs, htake⟩
        · simp [Builtin.append_, run_underlying ht, sizeOf, typeInfo, hq, Builtin.lenOf, Builtin.firstCells, loadCells, loadCellsFrom]
        · simp [Builtin.append_, run_underlying ht, sizeOf, typeInfo, hq, Builtin.lenOf, Builtin.firstCells, loadCells, loadCellsFrom, hnc, storeCells]
      | some ad =>
        obtain ⟨v', w', hr, h2, h3, -, h5⟩ := run_append_own_at (P := P) w base t o.type e i z size bytes ht hq hz hi1 hi2 hz2 hsz v n xs hown ad m c news hsrc.len (hsrc.cells ad rfl) hsrc.one (by simp only [maxLen]; omega) hbytes hbase
        exact ⟨v', w', hr, h2, h3, h5⟩
    obtain ⟨v', w', hr, h2, h3, h5⟩ := key
    refine ⟨v', w', ?_, h2, h3, h5⟩
    unfold execOp
    simp only [ho, resolve, invoke, builtin, Sem.run_bind, Sem.run_pure, Result.andThen_ok, List.map_toArray, List.map_cons, List.map_nil, hs, hx, hr]
end Go.Proofs.Ytholfdgebdlgjaa
namespace Go.Proofs.Ytholfdgebdlgjaa
open Go.RowKit
set_option linter.unusedVariables false
set_option linter.unusedSimpArgs false
abbrev dft : Value × List Int := (.bool true, [])
def shf (t : Tp) (l : List Int) : List Int := l.map fun x => x + t.bl
/-- What truths has gone through. -/
structure TruTo (t : Tp) (A : List (List Int)) (i : Nat) (O M : List (List Int)) : Prop where
  out : ∀ v, v ∈ O ↔ ∃ j, j < i ∧ shf t (A.getD j []) = v ∧ isT t v
  met : ∀ k : Nat, (k : Int) < t.T → ∀ p, p ∈ M.getD k [] ↔ ∃ j, j < i ∧ isT t (shf t (A.getD j [])) ∧ t.pl ≤ p ∧ p ≤ t.pm ∧ pullP t (shf t (A.getD j [])) k p
  ol : O.length ≤ i
  ml : ∀ k : Nat, (M.getD k []).length ≤ i * 100
theorem TruTo.init (t : Tp) (A : List (List Int)) (n : Nat) : TruTo t A 0 [] (List.replicate n []) := by
  have e : ∀ k : Nat, (List.replicate n ([] : List Int)).getD k [] = [] := fun k => by
    rw [List.getD_eq_getElem?_getD, List.getElem?_replicate]
    split <;> rfl
  refine ⟨fun v => ⟨fun h => (by simp at h), fun ⟨j, hj, _⟩ => absurd hj (by omega)⟩, fun k hk p => ?_, Nat.le_refl _, fun k => by rw [e]; simp⟩
  rw [e]
  exact ⟨fun h => (by simp at h), fun ⟨j, hj, _⟩ => absurd hj (by omega)⟩
theorem TruTo.no {t : Tp} {A : List (List Int)} {i : Nat} {O M : List (List Int)} (h : TruTo t A i O M) (hn : ¬ isT t (shf t (A.getD i []))) : TruTo t A (i + 1) O M := by
  refine ⟨fun v => (h.out v).trans ⟨fun ⟨j, a, b⟩ => ⟨j, by omega, b⟩, fun ⟨j, a, b, c⟩ => ⟨j, ?_, b, c⟩⟩, fun k hk p => (h.met k hk p).trans ⟨fun ⟨j, a, b⟩ => ⟨j, by omega, b⟩, fun ⟨j, a, b, c⟩ => ⟨j, ?_, b, c⟩⟩, by have := h.ol; omega, fun k => by have := h.ml k; omega⟩
  · by_cases e : j = i
    · subst e
      rw [b] at hn
      exact absurd c hn
    · omega
  · by_cases e : j = i
    · subst e
      exact absurd b hn
    · omega
theorem TruTo.yes {t : Tp} {A : List (List Int)} {i : Nat} {O M M' K : List (List Int)} (h : TruTo t A i O M) (hy : isT t (shf t (A.getD i []))) (hK : ∀ k : Nat, (k : Int) < t.T → (∀ p, p ∈ K.getD k [] ↔ (t.pl ≤ p ∧ p ≤ t.pm ∧ pullP t (shf t (A.getD i [])) k p)) ∧ (K.getD k []).length ≤ 100)
    (hM : ∀ k : Nat, (k : Int) < t.T → M'.getD k [] = M.getD k [] ++ K.getD k []) (hM2 : ∀ k : Nat, ¬ (k : Int) < t.T → M'.getD k [] = []) : TruTo t A (i + 1) (O ++ [shf t (A.getD i [])]) M' := by
  refine ⟨fun v => ?_, fun k hk p => ?_, by have := h.ol; rw [List.length_append, List.length_singleton]; omega, fun k => ?_⟩
  · rw [List.mem_append, List.mem_singleton, h.out v]
    constructor
    · rintro (⟨j, a, b⟩ | e)
      · exact ⟨j, by omega, b⟩
      · exact ⟨i, by omega, e.symm, e ▸ hy⟩
    · rintro ⟨j, a, b, c⟩
      by_cases e : j = i
      · subst e
        exact .inr b.symm
      · exact .inl ⟨j, by omega, b, c⟩
  · rw [hM k hk, List.mem_append, h.met k hk p, (hK k hk).1 p]
    constructor
    · rintro (⟨j, a, b⟩ | e)
      · exact ⟨j, by omega, b⟩
      · exact ⟨i, by omega, hy, e⟩
    · rintro ⟨j, a, b, c⟩
      by_cases e : j = i
      · subst e
        exact .inr c
      · exact .inl ⟨j, by omega, b, c⟩
  · by_cases hk : (k : Int) < t.T
    · have := h.ml k
      have := (hK k hk).2
      rw [hM k hk, List.length_append]
      omega
    · rw [hM2 k hk]
      simp
theorem fam_mid {w w' : World} {base : Nat} {A M R : List (Value × List Int)} {k : Nat} {v : Value} {m' : List Int} (h : FamT w base (A ++ (M ++ R))) (hk : k < M.length) (hv : w'.ownsRow base 3 1 v m'.length (ivs m')) (hg : w.grownBy w' (M.getD k dft).1.ownBlock) (hb : v.ownBlock = (M.getD k dft).1.ownBlock ∨ v.ownBlock = some w.heap.size) :
    FamT w' base (A ++ (M.set k (v, m') ++ R)) := by
  have e : M = M.take k ++ (M.getD k dft :: M.drop (k + 1)) := by rw [← drop_cons dft hk, List.take_append_drop]
  have hl : (M.take k).length = k := by rw [List.length_take]; omega
  have e2 : M.set k (v, m') = M.take k ++ ((v, m') :: M.drop (k + 1)) := by
    conv => lhs; rw [e]
    rw [List.set_append_right _ _ (by omega), hl, Nat.sub_self, List.set_cons_zero]
  have p : ∀ x : Value × List Int, (x :: ((A ++ M.take k) ++ (M.drop (k + 1) ++ R))).Perm (A ++ ((M.take k ++ (x :: M.drop (k + 1))) ++ R)) := fun x => by
    have := (List.perm_middle (l₁ := A ++ M.take k) (a := x) (l₂ := M.drop (k + 1) ++ R)).symm
    simpa [List.append_assoc] using this
  rw [e2]
  refine fam_perm ?_ (p (v, m')).symm
  refine fam_put (x := (M.getD k dft).1) (m := (M.getD k dft).2) ?_ hv hg hb
  refine fam_perm h ?_
  conv => rhs; rw [e]
  exact p _
/-- The four outer slices of truths. -/
def Outs (w : World) (base : Nat) (l : List (Value × List (Value × List Int))) : Prop := FamG w base 29 (l.map fun p => (p.1, p.2.length, p.2.map (·.1)))
theorem famG_nil {w : World} {base : Nat} {e : TypeId} {L : List (Value × Nat × List Value)} (h : FamG w base e L) : FamG w base e (L ++ [(.slice none 0 0, 0, [])]) :=
  ⟨fun p hp => by
    rcases List.mem_append.1 hp with hp | hp
    · exact h.1 p hp
    · obtain rfl := List.mem_singleton.1 hp
      exact World.ownsRow_nil _ _ _ _, List.pairwise_append.2 ⟨h.2, List.pairwise_singleton _ _, fun p hp q hq b e hc => by obtain rfl := List.mem_singleton.1 hq; cases hc⟩⟩
theorem famG_left {w : World} {base : Nat} {e : TypeId} {L M : List (Value × Nat × List Value)} (h : FamG w base e (L ++ M)) : FamG w base e L :=
  ⟨fun p hp => h.1 p (List.mem_append_left _ hp), (List.pairwise_append.1 h.2).1⟩
theorem famG_two {w : World} {b1 b2 n m : Nat} {e : TypeId} {u v : Value} {xs ys : List Value} (hu : w.ownsRow b1 e 1 u n xs) (hv : w.ownsRow b2 e 1 v m ys) (hlt : ∀ b, v.ownBlock = some b → b < b1) (hb : b2 ≤ b1) : FamG w b2 e [(u, n, xs), (v, m, ys)] := by
  refine ⟨fun p hp => ?_, List.pairwise_cons.2 ⟨fun q hq b e hc => ?_, List.pairwise_singleton _ _⟩⟩
  · simp only [List.mem_cons, List.not_mem_nil, or_false] at hp
    rcases hp with rfl | rfl
    · exact owns_lower hu hb
    · exact hv
  · obtain rfl := List.mem_singleton.1 hq
    have := (hu.lt b e).1
    have := hlt b hc
    omega
theorem fam_nils {w : World} {base n : Nat} : FamT w base (List.replicate n (.slice none 0 0, [])) := by
  refine ⟨fun p hp => ?_, ?_⟩
  · obtain rfl := List.eq_of_mem_replicate hp
    exact World.ownsRow_nil _ _ _ _
  · exact List.pairwise_replicate.2 (.inr fun b hb => by cases hb)
theorem fam_drop3 {w : World} {base : Nat} {A M R S : List (Value × List Int)} (h : FamT w base (A ++ (M ++ (R ++ S)))) : FamT w base (A ++ (M ++ R)) := by
  rw [← List.append_assoc, ← List.append_assoc] at h
  rw [← List.append_assoc]
  exact ⟨fun p hp => h.1 p (List.mem_append_left _ hp), (List.pairwise_append.1 h.2).1⟩
theorem fam_rows {w : World} {base : Nat} {L : List (Value × List Int)} {xs : List Int} {a : Option Addr} {c : Nat} (h : FamT w base L) (hm : (Value.slice a xs.length c, xs) ∈ L) : IsRows w (.slice a xs.length c) 1 (xs.map intRow) := by
  have o := h.1 _ hm
  simp only at o
  rw [ivs_flat] at o
  exact rows_of_owns (row := intRow) o (fun _ => rfl)
theorem shf_len (t : Tp) (l : List Int) : (shf t l).length = l.length := by simp [shf]
theorem isT_no_grow {t : Tp} {v : List Int} (h : ¬ growP t v) : ¬ isT t v := fun k => h k.2.1
/-- All measures of four numbers are gone through. -/
theorem tru_all {t : Tp} (hs : Small t) {m : Nat} (hm : (m : Int) = t.S * t.A) {O M : List (List Int)} (h : TruTo t (tupL 4 m) (tupL 4 m).length O M) :
    (∀ v, v ∈ O ↔ isT t v) ∧ ∀ k : Nat, (k : Int) < t.T → ∀ p, p ∈ M.getD k [] ↔ ∃ v, isT t v ∧ t.pl ≤ p ∧ p ≤ t.pm ∧ pullP t v k p := by
  have o1 := hs.ok.A1
  have o2 := hs.ok.A3
  have o3 := hs.ok.S1
  have o4 := hs.ok.S3
  have hbm := hs.bm
  have key : ∀ v, isT t v → ∃ j, j < (tupL 4 m).length ∧ shf t ((tupL 4 m).getD j []) = v := fun v hv => by
    have hmem : (v.map fun x => x - t.bl) ∈ tupL 4 m := by
      refine (mem_tupL 4 m _).2 ⟨by rw [List.length_map, hv.1]; omega, fun x hx => ?_⟩
      obtain ⟨y, hy, rfl⟩ := List.mem_map.1 hx
      obtain ⟨j, hj, e⟩ := List.getElem_of_mem hy
      have hj2 : (j : Int) < t.S * t.A := by rw [hv.1] at hj; omega
      obtain ⟨i1, i2, i3, i4⟩ := nd_in2 (S := t.S) (A := t.A) (x := j) (by omega) hj2
      obtain ⟨g1, g2, -⟩ := hv.2.1.1 (((j : Int) / t.A).toNat) (((j : Int) % t.A).toNat) (by omega) (by omega)
      rw [Int.toNat_of_nonneg i1, Int.toNat_of_nonneg i3, show (j : Int) / t.A * t.A + (j : Int) % t.A = (j : Int) by rw [Int.mul_comm]; exact Int.mul_ediv_add_emod _ _, Int.toNat_natCast, show v.getD j 0 = y by rw [← e]; simp [hj]] at g1 g2
      omega
    obtain ⟨j, hj, e⟩ := List.getElem_of_mem hmem
    refine ⟨j, hj, ?_⟩
    rw [show (tupL 4 m).getD j [] = v.map fun x => x - t.bl by rw [← e]; simp [hj], shf, List.map_map]
    conv => rhs; rw [← List.map_id v]
    exact List.map_congr_left fun x _ => show x - t.bl + t.bl = x by omega
  refine ⟨fun v => (h.out v).trans ⟨fun ⟨j, _, _, c⟩ => c, fun c => ?_⟩, fun k hk p => (h.met k hk p).trans ⟨fun ⟨j, _, b, c⟩ => ⟨_, b, c⟩, fun ⟨v, b, c⟩ => ?_⟩⟩
  · obtain ⟨j, hj, e⟩ := key v c
    exact ⟨j, hj, e, c⟩
  · obtain ⟨j, hj, e⟩ := key v b
    exact ⟨j, hj, by rw [e]; exact b, by rw [e]; exact c⟩
def TruthsPost (t : Tp) (w : World) (e : Ending) (w' : World) : Prop :=
  ∃ (O M : List (Value × List Int)) (a b : Option Addr) (c d : Nat), e = .returned (.tuple #[.slice a O.length c, .slice b M.length d]) ∧ (∀ v, v ∈ O.map (·.2) ↔ isT t v) ∧ (M.length : Int) = t.T ∧
    (∀ k : Nat, (k : Int) < t.T → ∀ p, p ∈ (M.getD k dft).2 ↔ ∃ v, isT t v ∧ t.pl ≤ p ∧ p ≤ t.pm ∧ pullP t v k p) ∧ O.length ≤ 1000 ∧ (∀ k, k < M.length → (M.getD k dft).2.length ≤ 100000) ∧
    SlAt [] w' a 1 O.length (fun i => [(O.getD i dft).1]) ∧ (∀ p ∈ O, RowOf w' p.1 p.2) ∧ SlAt [] w' b 1 M.length (fun i => [(M.getD i dft).1]) ∧ (∀ p ∈ M, RowOf w' p.1 p.2) ∧ Ext [] w w'
theorem ivs_lenZ (xs : List Int) : (ivs xs).length = xs.length := by simp [ivs]
theorem ivs_setZ (xs : List Int) (i : Nat) (v : Int) : (ivs xs).set i (.int .i64 v) = ivs (xs.set i v) := by simp [ivs, List.map_set]
theorem famG_left4 {w : World} {base : Nat} {e : TypeId} {a b c d : Value × Nat × List Value} (h : FamG w base e [a, b, c, d]) : FamG w base e [a, b, c] := famG_left (L := [a, b, c]) (M := [d]) h
theorem getD_snoc_at {α : Type} (d : α) (K : List α) (x : α) : (K ++ [x]).getD K.length d = x := by simp
theorem getD_snoc_lt {α : Type} (d : α) (K : List α) (x : α) {j : Nat} (h : j < K.length) : (K ++ [x]).getD j d = K.getD j d := by
  rw [List.getD_eq_getElem?_getD, List.getElem?_append_left h, ← List.getD_eq_getElem?_getD]
theorem perm4_r {α : Type} (a b c d : α) : [b, c, d, a].Perm [a, b, c, d] := List.perm_append_comm (l₁ := [b, c, d]) (l₂ := [a])
theorem getD_set_eq {α : Type} (d : α) {K : List α} {k : Nat} (x : α) (h : k < K.length) : (K.set k x).getD k d = x := by simp [h]
theorem getD_set_neq {α : Type} (d : α) {K : List α} {k j : Nat} (x : α) (h : j ≠ k) : (K.set k x).getD j d = K.getD j d := by
  rw [List.getD_eq_getElem?_getD, List.getElem?_set_ne (Ne.symm h), ← List.getD_eq_getElem?_getD]
theorem getD_key2 (L : List (Value × List Int)) (j : Nat) : (L.map (·.2)).getD j [] = (L.getD j dft).2 := by
  rw [List.getD_eq_getElem?_getD, List.getD_eq_getElem?_getD, List.getElem?_map]
  cases L[j]? <;> rfl
set_option maxRecDepth 100000 in
set_option maxHeartbeats 4000000 in
theorem truths_any {t : Tp} (hsm : Small t) (ga ra la : Option Addr) (gc rc lc : Nat) (w : World) (ht : IsTp w (.slice ga t.gr.length gc) (.slice ra t.rd.length rc) (.slice la t.lk.length lc) t) :
    Calls Try.prog 41 #[tpV t (.slice ga t.gr.length gc) (.slice ra t.rd.length rc) (.slice la t.lk.length lc)] w (TruthsPost t w) := by
  have E : Ext [] w w := Ext.refl _ _
  have HT := Lib.hid ht
  have ok := hsm.ok
  have o1 := ok.S1
  have o3 := ok.A1
  have o5 := ok.T1
  have o6 := ok.T3
  have o7 := hsm.S2
  have o8 := hsm.A2
  have o9 := hsm.bm
  have p1 := hsm.bl1
  have p2 := hsm.bl2
  obtain ⟨Tn, hTn⟩ : ∃ n : Nat, t.T = n := ⟨t.T.toNat, by omega⟩
  obtain ⟨mm, hmm⟩ : ∃ n : Nat, (n : Int) = t.S * t.A := ⟨(t.S * t.A).toNat, by have := (ok_prod ok).1; omega⟩
  have hmm4 : mm ≤ 4 := by
    have := Int.mul_le_mul o7 o8 (by omega) (by omega)
    omega
  clear ht
  unfold tpV
  refine calls_has 111 Try.func41 rfl Try.ntmps41 (Nat.le_of_ble_eq_true rfl) ?_
  intro fa F
  refine wp_seq_k fun K1 hK1 => ?_
  refine wp_region_lit ?_
  refine sq_new F rfl (by decide) rfl (R_box rfl (F.at rfl)) ?_; clear F fa; intro fa w1 F hw
  obtain ⟨n1, hn⟩ : ∃ n, n = w.heap.size := ⟨_, rfl⟩
  rw [← hn] at F
  have s1 : w.heap.size ≤ n1 := Nat.le_of_eq hn.symm
  have l1_E : w.heap.size ≤ n1 := by rw [hn]; exact E.size
  replace E := ext_alloc E hw
  have q1 := new_row hw hn
  clear hw hn
  refine F.vl (R_assign rfl (ev_c fa _)) ?_; clear F fa; intro fa F
  refine F.vl (R_assign rfl (ev_c fa _)) ?_; clear F fa; intro fa F
  refine wpList_nil ?_
  refine hK1 _ _ ?_
  clear hK1
  refine wp_seq_k fun K2 hK2 => ?_
  refine wp_region_lit ?_
  refine F.vl (R_assign rfl (ev_c fa _)) ?_; clear F fa; intro fa F
  refine wpList_nil ?_
  refine hK2 _ _ ?_
  clear hK2
  refine wp_seq_k fun K3 hK3 => ?_
  refine wp_region_lit ?_
  refine F.vl (R_field rfl (F.at rfl) Try.underlying28 rfl (n := 2) (sz := 1) rfl (by kernel_rfl) (by decide)) ?_; clear F fa; intro fa F
  refine F.vl (R_load rfl (F.at rfl) Try.underlying3 rfl ((cells_of_block q1 2).trans (getS (getS (get0))))) ?_; clear F fa; intro fa F
  replace F := F.re (k := 15) rfl (congrArg (Value.int .i64) hTn)
  have hEs0 := E.size
  refine sq_some F rfl (by decide) rfl (make_run rfl (w.heap.size) (e := 29) (bytes := 24) (z := .slice none 0 0) Try.underlying50 (by kernel_rfl) rfl (F.at rfl) (F.at rfl) (n := Tn) (by omega) (by decide) (by omega)) ?_; clear F fa; rintro fa v' w2 F ⟨hm, hg, rfl⟩
  obtain ⟨n16, hn⟩ : ∃ n, n = w1.heap.size := ⟨_, rfl⟩
  rw [← hn] at F hm
  have s16 : w1.heap.size ≤ n16 := Nat.le_of_eq hn.symm
  replace q1 := keep_none hg q1
  replace E := ext_none E hg
  clear hg hn
  refine F.as ?_; clear F fa; intro fa F
  refine wpList_nil ?_
  refine hK3 _ _ ?_
  clear hK3
  refine wp_seq_k fun K4 hK4 => ?_
  refine wp_region_lit ?_
  refine F.vl (R_field rfl (F.at rfl) Try.underlying28 rfl (n := 3) (sz := 2) rfl (by kernel_rfl) (by decide)) ?_; clear F fa; intro fa F
  refine F.vl (R_field rfl (F.at rfl) Try.underlying23 rfl (n := 4) (sz := 1) rfl (by kernel_rfl) (by decide)) ?_; clear F fa; intro fa F
  refine F.vl (R_load rfl (F.at rfl) Try.underlying3 rfl ((cells_of_block q1 4).trans (getS (getS (getS (getS (get0))))))) ?_; clear F fa; intro fa F
  refine F.vl (R_field rfl (F.at rfl) Try.underlying28 rfl (n := 3) (sz := 2) rfl (by kernel_rfl) (by decide)) ?_; clear F fa; intro fa F
  refine F.vl (R_field rfl (F.at rfl) Try.underlying23 rfl (n := 3) (sz := 1) rfl (by kernel_rfl) (by decide)) ?_; clear F fa; intro fa F
  refine F.vl (R_load rfl (F.at rfl) Try.underlying3 rfl ((cells_of_block q1 3).trans (getS (getS (getS (get0)))))) ?_; clear F fa; intro fa F
  refine F.vl (R_sub rfl (F.at rfl) (F.at rfl) (by omega) (by omega)) ?_; clear F fa; intro fa F
  refine F.vl (R_add rfl (F.at rfl) (ev_c fa _) (by omega) (by omega)) ?_; clear F fa; intro fa F
  replace F := F.re (k := 24) rfl (congrArg (Value.int .i64) (show t.bm - t.bl + 1 = ((4 : Nat) : Int) by omega))
  refine F.vl (R_field rfl (F.at rfl) Try.underlying28 rfl (n := 0) (sz := 1) rfl (by kernel_rfl) (by decide)) ?_; clear F fa; intro fa F
  refine F.vl (R_load rfl (F.at rfl) Try.underlying3 rfl ((cells_of_block q1 0).trans (get0))) ?_; clear F fa; intro fa F
  refine F.vl (R_field rfl (F.at rfl) Try.underlying28 rfl (n := 1) (sz := 1) rfl (by kernel_rfl) (by decide)) ?_; clear F fa; intro fa F
  refine F.vl (R_load rfl (F.at rfl) Try.underlying3 rfl ((cells_of_block q1 1).trans (getS (get0)))) ?_; clear F fa; intro fa F
  refine F.vl (R_mul rfl (F.at rfl) (F.at rfl) (by omega) (by omega)) ?_; clear F fa; intro fa F
  replace F := F.re (k := 29) rfl (congrArg (Value.int .i64) hmm.symm)
  obtain ⟨B0, hB0⟩ : ∃ B0, B0 = w2.heap.size := ⟨_, rfl⟩
  have hB0w : w.heap.size ≤ B0 := by rw [hB0]; exact E.size
  have hnB : n16 < B0 := by rw [hB0]; exact own_lt' hm _ rfl
  refine sq_call F rfl (by decide) rfl (R_callV rfl rfl Try.call105 (mpS (F.at rfl) (mpS (F.at rfl) mp0))) (tuples_any 4 mm (by omega) hmm4 _) fun e w3 hR => ?_
  obtain ⟨A, aa, ac, rfl, hA, oa, fama, eX⟩ := hR
  refine ⟨_, rfl, ?_⟩; clear F fa; intro fa F
  replace hm := owns_ext hm (eX) (by simp)
  replace q1 := (eX).keep0 q1
  replace E := ext_same E (eX)
  rw [← hB0] at oa fama
  refine F.as ?_; clear F fa; intro fa F
  refine wpList_nil ?_
  obtain ⟨M0, hM0⟩ : ∃ M0 : List (Value × List Int), M0 = List.replicate Tn (.slice none 0 0, []) := ⟨_, rfl⟩
  have hM0l : M0.length = Tn := by rw [hM0, List.length_replicate]
  have hM0m : M0.map (·.1) = List.replicate Tn (.slice none 0 0) := by rw [hM0, List.map_replicate]
  have hM0s : M0.map (·.2) = List.replicate Tn [] := by rw [hM0, List.map_replicate]
  have fag := famG_nil (famG_two oa hm (fun b hb => by cases hb; omega) hB0w)
  rw [← hM0m] at fag
  have fam : FamT w3 w.heap.size (A ++ (M0 ++ [])) := by rw [List.append_nil]; exact fam_join fama (by rw [hM0]; exact fam_nils) (fun q hq b hb => by rw [hM0] at hq; obtain rfl := List.eq_of_mem_replicate hq; cases hb) hB0w
  clear oa fama hm
  have hAl : A.length ≤ 256 := by rw [← List.length_map (f := fun p : Value × List Int => p.2), hA, tupL_len]; exact Nat.le_trans (Nat.pow_le_pow_right (by decide) hmm4) (by decide)
  refine hK4 _ _ ?_
  clear hK4
  refine wp_seq_k fun K5 hK5 => ?_
  refine wp_seq_k fun K6 hK6 => ?_
  refine wp_region_lit ?_
  refine F.vl (R_assign rfl (ev_c fa _)) ?_; clear F fa; intro fa F
  refine wpList_nil ?_
  refine hK6 _ _ ?_
  clear hK6
  refine wp_block ?_
  have F0 := F.sub (.c 1 rfl (.c 5 rfl (.c 6 rfl .n)))
  refine lp_for F0 (A.length) (fun i Lv W => ∃ va : Option Addr, ∃ vc : Nat, ∃ O M : List (Value × List Int), Lv = [(4, .slice va O.length vc), (7, .int .i64 ((i : Nat) : Int))] ∧ Ext [] w W ∧ W.heap[n1]? = some (.cells #[.int .i64 t.S, .int .i64 t.A, .int .i64 t.T, .int .i64 t.bl, .int .i64 t.bm, .int .i64 t.pl, .int .i64 t.pm, .int .i64 t.sl, .slice ga t.gr.length gc, .slice ra t.rd.length rc, .slice la t.lk.length lc] 28 (0, 0)) ∧ FamG W w.heap.size 29 [(.slice aa A.length ac, A.length, A.map (·.1)), (.slice (some ⟨n16, 0, none⟩) Tn Tn, Tn, M.map (·.1)), (.slice va O.length vc, O.length, O.map (·.1))] ∧ FamT W w.heap.size (A ++ (M ++ O)) ∧ M.length = Tn ∧ TruTo t (A.map (·.2)) i (O.map (·.2)) (M.map (·.2))) ⟨_, ⟨none, 0, [], M0, rfl, E, q1, fag, fam, hM0l, (by rw [hM0s]; exact TruTo.init _ _ _)⟩, F.sub (.c 4 rfl (.c 7 rfl (.c 1 rfl (.c 5 rfl (.c 6 rfl .n)))))⟩ ?_
  clear F F0
  clear E q1
  clear fag
  clear fam
  rintro i _ fa w4 hi1 ⟨va, vc, O, M, rfl, E, q1, fag, fam, hMl, hTr⟩ F
  obtain ⟨xs, hxs⟩ : ∃ xs, xs = (A.getD i dft).2 := ⟨_, rfl⟩
  refine wp_seq_k fun K7 hK7 => ?_
  refine wp_seq_k fun K8 hK8 => ?_
  refine wp_region_lit ?_
  refine F.mv ?_; clear F fa; intro fa F
  refine F.mv ?_; clear F fa; intro fa F
  refine F.vl (R_len rfl rfl (F.at rfl) Try.underlying50) ?_; clear F fa; intro fa F
  refine F.vl (R_lss rfl (F.at rfl) (F.at rfl)) ?_; clear F fa; intro fa F
  refine wpList_nil ?_
  refine hK8 _ _ ?_
  clear hK8
  refine cd_if F rfl (fun hc34 => ?_) (fun hc34 => ?_)
  · skip
    refine wp_skip ?_
    refine hK7 _ _ ?_
    clear hK7
    refine wp_seq_k fun K9 hK9 => ?_
    refine wp_block ?_
    refine wp_seq_k fun K10 hK10 => ?_
    have hxA : (A.map (·.2)).getD i [] = xs := by rw [getD_key (fun p : Value × List Int => p.2) dft A (by omega), hxs]
    obtain ⟨hxl0, hxb0⟩ := (mem_tupL 4 mm xs).1 (by rw [← hxA, ← hA]; exact getD_mem _ (by rw [List.length_map]; omega))
    have hxb := Lib.hid hxb0
    clear hxb0
    have EX : Ext [] w4 w4 := Ext.refl _ _
    have HS := Lib.hid (slAt_of_outer (fag.1 (.slice aa A.length ac, A.length, A.map (·.1)) (by simp)) rfl)
    have hmA : A.getD i dft ∈ A ++ (M ++ O) := List.mem_append_left _ (getD_mem _ (by omega))
    refine wp_region_lit ?_
    refine F.mv ?_; clear F fa; intro fa F
    refine F.mv ?_; clear F fa; intro fa F
    obtain ⟨xb11, xo11, xa11, xr11⟩ := HS.out i (by omega)
    refine F.vl (R_ixSlice (sz := 1) rfl ((F.at rfl).trans (xa11 _ _)) (F.at rfl) Try.underlying50 (by kernel_rfl) (by omega) (by omega)) ?_; clear F fa; intro fa F
    refine F.vl (R_load rfl (F.at rfl) Try.underlying29 rfl (xr11 _ EX 0 _ rfl)) ?_; clear F fa; intro fa F
    have hflt := Lib.hid (fam_lt fam)
    obtain ⟨B1, hB1⟩ : ∃ B1, B1 = w4.heap.size := ⟨_, rfl⟩
    rw [← hB1] at hflt
    have hB1w : w.heap.size ≤ B1 := by rw [hB1]; exact E.size
    refine sq_call F rfl (by decide) rfl (R_callV rfl rfl Try.call106 (mpS (F.at rfl) mp0)) (copyInts_any (xs := xs) (by rw [hxs]; exact fam_row fam hmA) (by omega)) fun e w5 hR => ?_
    obtain ⟨ma, mc, rfl, om, eX⟩ := hR
    refine ⟨_, rfl, ?_⟩; clear F fa; intro fa F
    replace fag := famG_lift fag fun _ _ _ h => owns_ext h (eX) (by simp)
    replace fam := fam_lift fam fun _ _ _ h => owns_ext h (eX) (by simp)
    replace q1 := (eX).keep0 q1
    replace E := ext_same E (eX)
    rw [← hB1] at om
    refine F.as ?_; clear F fa; intro fa F
    refine wpList_nil ?_
    refine hK10 _ _ ?_
    clear hK10
    refine wp_seq_k fun K12 hK12 => ?_
    refine wp_seq_k fun K13 hK13 => ?_
    refine wp_region_lit ?_
    refine F.vl (R_assign rfl (ev_c fa _)) ?_; clear F fa; intro fa F
    refine wpList_nil ?_
    refine hK13 _ _ ?_
    clear hK13
    refine wp_block ?_
    have F0 := F.sub (.c 1 rfl (.c 4 rfl (.c 5 rfl (.c 6 rfl (.c 7 rfl (.c 8 rfl .n))))))
    refine lp_for F0 (xs.length) (fun k Lv W => Lv = [(9, .int .i64 ((k : Nat) : Int))] ∧ Ext [] w W ∧ W.heap[n1]? = some (.cells #[.int .i64 t.S, .int .i64 t.A, .int .i64 t.T, .int .i64 t.bl, .int .i64 t.bm, .int .i64 t.pl, .int .i64 t.pm, .int .i64 t.sl, .slice ga t.gr.length gc, .slice ra t.rd.length rc, .slice la t.lk.length lc] 28 (0, 0)) ∧ FamG W w.heap.size 29 [(.slice aa A.length ac, A.length, A.map (·.1)), (.slice (some ⟨n16, 0, none⟩) Tn Tn, Tn, M.map (·.1)), (.slice va O.length vc, O.length, O.map (·.1))] ∧ FamT W w.heap.size (A ++ (M ++ O)) ∧ W.ownsRow B1 3 1 (.slice ma xs.length mc) xs.length (ivs (mapTo (fun x => x + t.bl) k xs))) ⟨_, ⟨rfl, E, q1, fag, fam, (by rw [mapTo_0]; exact om)⟩, F.sub (.c 9 rfl (.c 1 rfl (.c 4 rfl (.c 5 rfl (.c 6 rfl (.c 7 rfl (.c 8 rfl .n)))))))⟩ ?_
    clear F F0
    clear E q1 fag fam
    clear om
    rintro k _ fa w6 hi2 ⟨rfl, E, q1, fag, fam, om⟩ F
    refine wp_seq_k fun K14 hK14 => ?_
    refine wp_seq_k fun K15 hK15 => ?_
    refine wp_region_lit ?_
    refine F.mv ?_; clear F fa; intro fa F
    refine F.mv ?_; clear F fa; intro fa F
    refine F.vl (R_len rfl rfl (F.at rfl) Try.underlying29) ?_; clear F fa; intro fa F
    refine F.vl (R_lss rfl (F.at rfl) (F.at rfl)) ?_; clear F fa; intro fa F
    refine wpList_nil ?_
    refine hK15 _ _ ?_
    clear hK15
    refine cd_if F rfl (fun hc45 => ?_) (fun hc45 => ?_)
    · skip
      refine wp_skip ?_
      refine hK14 _ _ ?_
      clear hK14
      refine wp_seq_k fun K16 hK16 => ?_
      refine wp_block ?_
      have hml := mapTo_len (fun x => x + t.bl) k xs
      have hmk := mapTo_get (fun x => x + t.bl) 0 xs (i := k) (by omega)
      have hxk := hxb.out _ (getD_mem 0 (show k < xs.length by omega))
      have hst : (mapTo (fun x => x + t.bl) k xs).set k (xs.getD k 0 + t.bl) = mapTo (fun x => x + t.bl) (k + 1) xs := mapTo_step _ 0 xs (by omega)
      have EX : Ext [] w6 w6 := Ext.refl _ _
      have HS := Lib.hid (slAt_of_ivs om hml.symm [] (by simp))
      have hil := ivs_lenZ (mapTo (fun x => x + t.bl) k xs)
      refine wp_region_st 11 follows (by kernel_rfl) fun w7 hh eh => ?_
      replace q1 := keep_same hh q1
      replace E := ext_same E eh
      replace EX := ext_same EX eh
      replace fag := famG_lift fag fun _ _ _ h => owns_same hh h
      replace fam := fam_lift fam fun _ _ _ h => owns_same hh h
      replace om := owns_same hh om
      clear hh eh
      refine F.smv ?_; clear F fa; intro fa F
      refine F.smv ?_; clear F fa; intro fa F
      refine F.smv ?_; clear F fa; intro fa F
      refine F.smv ?_; clear F fa; intro fa F
      obtain ⟨xb17, xo17, xa17, xr17⟩ := HS.out k (by omega)
      refine F.sv (R_ixSlice (sz := 1) rfl ((F.at rfl).trans (xa17 _ _)) (F.at rfl) Try.underlying29 (by kernel_rfl) (by omega) (by omega)) ?_; clear F fa; intro fa F
      refine F.sv (R_load rfl (F.at rfl) Try.underlying3 rfl (xr17 _ EX 0 _ rfl)) ?_; clear F fa; intro fa F
      refine F.sv (R_field rfl (F.at rfl) Try.underlying28 rfl (n := 3) (sz := 2) rfl (by kernel_rfl) (by decide)) ?_; clear F fa; intro fa F
      refine F.sv (R_field rfl (F.at rfl) Try.underlying23 rfl (n := 3) (sz := 1) rfl (by kernel_rfl) (by decide)) ?_; clear F fa; intro fa F
      refine F.sv (R_load rfl (F.at rfl) Try.underlying3 rfl ((cells_of_block q1 3).trans (getS (getS (getS (get0)))))) ?_; clear F fa; intro fa F
      refine F.sv (R_add rfl (F.at rfl) (F.at rfl) (by omega) (by omega)) ?_; clear F fa; intro fa F
      obtain ⟨xb18, xo18, xa18, xr18⟩ := HS.out k (by omega)
      refine F.sv (R_ixSlice (sz := 1) rfl ((F.at rfl).trans (xa18 _ _)) (F.at rfl) Try.underlying29 (by kernel_rfl) (by omega) (by omega)) ?_; clear F fa; intro fa F
      refine wpStill_nil ?_
      obtain ⟨⟨u0, hcu⟩, hfu, hst⟩ := owns_at om xa18 (j := k) (p := xo18 + ((k : Nat) : Int).toNat * 1) (by first | omega | (simp; omega)) (by omega)
      refine sq_to rfl rfl (R_store rfl (F.at rfl) (F.at rfl) rfl (by kernel_rfl) hcu hfu) ?_; intro w8 hw
      obtain ⟨hown', hg⟩ := hst _ _ hw
      clear hst hcu hfu hw
      replace q1 := keep_type om hg q1 (by decide)
      replace fag := famG_lift fag fun _ _ _ h => owns_other h om hg (by decide)
      replace fam := fam_below fam hflt.out om hg
      replace E := ext_appendX E om hg (by omega)
      replace om := hown'
      clear hg
      rw [ivs_setZ, hmk, hst] at om
      refine wpList_nil ?_
      refine hK16 _ _ ?_
      clear hK16
      refine wp_region_lit ?_
      refine F.mv ?_; clear F fa; intro fa F
      refine F.vl (R_add rfl (F.at rfl) (ev_c fa _) (by omega) (by omega)) ?_; clear F fa; intro fa F
      refine F.as ?_; clear F fa; intro fa F
      refine wpList_nil ?_
      show _ ∧ _
      exact ⟨by omega, _, ⟨rfl, E, q1, fag, fam, om⟩, F.sub (.c 9 rfl (.c 1 rfl (.c 4 rfl (.c 5 rfl (.c 6 rfl (.c 7 rfl (.c 8 rfl .n)))))))⟩
    · skip
      refine wp_exit ?_
      rw [mapTo_all _ _ (show xs.length ≤ k by omega)] at om
      obtain ⟨ys, hys⟩ : ∃ ys, ys = shf t xs := ⟨_, rfl⟩
      rw [show List.map (fun x => x + t.bl) xs = ys from hys.symm] at om
      have hyl : xs.length = ys.length := by rw [hys, shf_len]
      rw [hyl] at om F
      have hyl2 : (ys.length : Int) = t.S * t.A := by omega
      have hyb : Hid (∀ x ∈ ys, -100000 ≤ x ∧ x ≤ 100000) := Lib.hid fun x hx => by rw [hys] at hx; obtain ⟨y, hy, rfl⟩ := List.mem_map.1 hx; have := hxb.out y hy; omega
      refine hK12 _ _ ?_
      clear hK12
      refine wp_seq_k fun K19 hK19 => ?_
      refine wp_seq_k fun K20 hK20 => ?_
      refine wp_region_lit ?_
      refine F.vl (R_loadBlk rfl (F.at rfl) Try.underlying28 rfl (by kernel_rfl) q1) ?_; clear F fa; intro fa F
      refine F.mv ?_; clear F fa; intro fa F
      refine sq_call F rfl (by decide) rfl (R_callV rfl rfl Try.call107 (mpS (F.at rfl) (mpS (F.at rfl) mp0))) (grown_any ok ys hyl2 hyb.out ga ra la ma gc rc lc mc _ (HT.out.ext E (by simp)) (rows_of_owns (xs := ys) (row := intRow) (by rw [← ivs_flat]; exact om) (fun _ => rfl))) fun e w9 hR => ?_
      obtain ⟨gb, rfl, hgb, e12⟩ := hR
      refine ⟨_, rfl, ?_⟩; clear F fa; intro fa F
      replace fag := famG_lift fag fun _ _ _ h => owns_ext h (e12) (by simp)
      replace fam := fam_lift fam fun _ _ _ h => owns_ext h (e12) (by simp)
      replace om := owns_ext om (e12) (by simp)
      replace q1 := (e12).keep0 q1
      replace E := ext_same E (e12)
      clear e12
      refine F.vl (R_not rfl (F.at rfl)) ?_; clear F fa; intro fa F
      refine wpList_nil ?_
      refine hK20 _ _ ?_
      clear hK20
      refine cd_b F rfl (fun hc62 => ?_) (fun hc62 => ?_)
      · skip
        have hTr2 := hTr.no (by rw [hxA, ← hys]; exact isT_no_grow fun h => by rw [hgb.2 h] at hc62; cases hc62)
        have hMl2 := hMl
        refine wp_exit ?_
        refine hK9 _ _ ?_
        clear hK9
        refine wp_region_lit ?_
        refine F.mv ?_; clear F fa; intro fa F
        refine F.vl (R_add rfl (F.at rfl) (ev_c fa _) (by omega) (by omega)) ?_; clear F fa; intro fa F
        refine F.as ?_; clear F fa; intro fa F
        refine wpList_nil ?_
        show _ ∧ _
        exact ⟨by omega, _, ⟨_, _, _, _, rfl, E, q1, fag, fam, hMl2, hTr2⟩, F.sub (.c 4 rfl (.c 7 rfl (.c 1 rfl (.c 5 rfl (.c 6 rfl .n)))))⟩
      · skip
        refine wp_skip ?_
        refine hK19 _ _ ?_
        clear hK19
        refine wp_seq_k fun K21 hK21 => ?_
        have hgt : growP t ys := hgb.1 (by simpa using hc62)
        obtain ⟨O2, hO2⟩ : ∃ O2, O2 = O ++ [(Value.slice ma ys.length mc, ys)] := ⟨_, rfl⟩
        have fam2 := fam_perm (fam_join (b1 := B1) (L := [(Value.slice ma ys.length mc, ys)]) ⟨fun p hp => (by obtain rfl : p = (Value.slice ma ys.length mc, ys) := (by simpa using hp); exact om), List.pairwise_singleton _ _⟩ fam hflt.out hB1w) (M := (A ++ (M ++ O)) ++ [(Value.slice ma ys.length mc, ys)]) List.perm_append_comm
        rw [show (A ++ (M ++ O)) ++ [(Value.slice ma ys.length mc, ys)] = A ++ (M ++ O2) by rw [hO2]; simp only [List.append_assoc]] at fam2
        clear fam om
        have fam := fam2
        clear fam2
        refine wp_region_lit ?_
        refine F.vl (R_assign rfl (ev_c fa _)) ?_; clear F fa; intro fa F
        refine wpList_nil ?_
        refine hK21 _ _ ?_
        clear hK21
        refine wp_seq_k fun K22 hK22 => ?_
        refine wp_region_lit ?_
        refine F.vl (R_assign rfl (ev_c fa _)) ?_; clear F fa; intro fa F
        refine wpList_nil ?_
        refine hK22 _ _ ?_
        clear hK22
        refine wp_seq_k fun K23 hK23 => ?_
        refine wp_seq_k fun K24 hK24 => ?_
        refine wp_region_lit ?_
        refine F.vl (R_assign rfl (ev_c fa _)) ?_; clear F fa; intro fa F
        refine wpList_nil ?_
        replace fag := famG_perm (famG_nil fag) (perm4_4 _ _ _ _)
        refine hK24 _ _ ?_
        clear hK24
        refine wp_block ?_
        have F0 := F.sub (.c 1 rfl (.c 4 rfl (.c 5 rfl (.c 6 rfl (.c 7 rfl (.c 8 rfl .n))))))
        refine lp_for F0 (Tn) (fun k Lv W => ∃ cb : Bool, ∃ vb : Option Addr, ∃ vd : Nat, ∃ K : List (Value × List Int), Lv = [(10, .bool cb), (11, .slice vb K.length vd), (12, .int .i64 ((k : Nat) : Int))] ∧ Ext [] w W ∧ W.heap[n1]? = some (.cells #[.int .i64 t.S, .int .i64 t.A, .int .i64 t.T, .int .i64 t.bl, .int .i64 t.bm, .int .i64 t.pl, .int .i64 t.pm, .int .i64 t.sl, .slice ga t.gr.length gc, .slice ra t.rd.length rc, .slice la t.lk.length lc] 28 (0, 0)) ∧ FamG W w.heap.size 29 [(.slice vb K.length vd, K.length, K.map (·.1)), (.slice aa A.length ac, A.length, A.map (·.1)), (.slice (some ⟨n16, 0, none⟩) Tn Tn, Tn, M.map (·.1)), (.slice va O.length vc, O.length, O.map (·.1))] ∧ FamT W w.heap.size (A ++ (M ++ (O2 ++ K))) ∧ K.length = k ∧ Hid (∀ j, j < k → (∀ p, p ∈ (K.getD j dft).2 ↔ (t.pl ≤ p ∧ p ≤ t.pm ∧ pullP t ys j p)) ∧ (K.getD j dft).2.length ≤ 100) ∧ Hid (cb = true ↔ ∀ j, j < k → 0 < (K.getD j dft).2.length)) ⟨_, ⟨true, none, 0, [], rfl, E, q1, fag, (by rw [List.append_nil]; exact fam), rfl, Lib.hid fun j hj => absurd hj (by omega), Lib.hid (iff_of_true rfl fun j hj => absurd hj (by omega))⟩, F.sub (.c 10 rfl (.c 11 rfl (.c 12 rfl (.c 1 rfl (.c 4 rfl (.c 5 rfl (.c 6 rfl (.c 7 rfl (.c 8 rfl .n)))))))))⟩ ?_
        clear F F0
        clear E q1
        clear fag
        clear fam
        rintro k _ fa w10 hi3 ⟨cb, vb, vd, K, rfl, E, q1, fag, fam, hKl, hKv, hcb⟩ F
        refine wp_seq_k fun K25 hK25 => ?_
        refine wp_seq_k fun K26 hK26 => ?_
        refine wp_region_lit ?_
        refine F.mv ?_; clear F fa; intro fa F
        refine F.vl (R_field rfl (F.at rfl) Try.underlying28 rfl (n := 2) (sz := 1) rfl (by kernel_rfl) (by decide)) ?_; clear F fa; intro fa F
        refine F.vl (R_load rfl (F.at rfl) Try.underlying3 rfl ((cells_of_block q1 2).trans (getS (getS (get0))))) ?_; clear F fa; intro fa F
        refine F.vl (R_lss rfl (F.at rfl) (F.at rfl)) ?_; clear F fa; intro fa F
        refine wpList_nil ?_
        refine hK26 _ _ ?_
        clear hK26
        refine cd_if F rfl (fun hc66 => ?_) (fun hc66 => ?_)
        · skip
          refine wp_skip ?_
          refine hK25 _ _ ?_
          clear hK25
          refine wp_seq_k fun K27 hK27 => ?_
          refine wp_block ?_
          refine wp_seq_k fun K28 hK28 => ?_
          refine wp_region_lit ?_
          refine F.mv ?_; clear F fa; intro fa F
          refine F.vl (R_loadBlk rfl (F.at rfl) Try.underlying28 rfl (by kernel_rfl) q1) ?_; clear F fa; intro fa F
          refine F.mv ?_; clear F fa; intro fa F
          refine F.mv ?_; clear F fa; intro fa F
          have hflt2 := Lib.hid (fam_lt fam)
          obtain ⟨B2, hB2⟩ : ∃ B2, B2 = w10.heap.size := ⟨_, rfl⟩
          rw [← hB2] at hflt2
          have hB2w : w.heap.size ≤ B2 := by rw [hB2]; exact E.size
          refine sq_call F rfl (by decide) rfl (R_callV rfl rfl Try.call108 (mpS (F.at rfl) (mpS (F.at rfl) (mpS (F.at rfl) mp0)))) (pulls_any ok ys (k : Int) hyl2 hyb.out ga ra la ma gc rc lc mc _ (HT.out.ext E (by simp)) (fam_rows fam (by rw [hO2]; simp))) fun e w11 hR => ?_
          obtain ⟨R, ka, kc, rfl, hR, hRl, oR, eX⟩ := hR
          refine ⟨_, rfl, ?_⟩; clear F fa; intro fa F
          replace fag := famG_lift fag fun _ _ _ h => owns_ext h (eX) (by simp)
          replace fam := fam_lift fam fun _ _ _ h => owns_ext h (eX) (by simp)
          replace q1 := (eX).keep0 q1
          replace E := ext_same E (eX)
          rw [← hB2] at oR
          have fam2 := fam_perm (fam_join (b1 := B2) (L := [(Value.slice ka R.length kc, R)]) ⟨fun p hp => (by obtain rfl : p = (Value.slice ka R.length kc, R) := (by simpa using hp); exact oR), List.pairwise_singleton _ _⟩ fam hflt2.out hB2w) (M := (A ++ (M ++ (O2 ++ K))) ++ [(Value.slice ka R.length kc, R)]) List.perm_append_comm
          obtain ⟨K2, hK2⟩ : ∃ K2, K2 = K ++ [(Value.slice ka R.length kc, R)] := ⟨_, rfl⟩
          rw [show (A ++ (M ++ (O2 ++ K))) ++ [(Value.slice ka R.length kc, R)] = A ++ (M ++ (O2 ++ K2)) by rw [hK2]; simp only [List.append_assoc]] at fam2
          clear fam oR
          have fam := fam2
          clear fam2
          refine sq_new F rfl (by decide) rfl (R_buildSliceV rfl (prS (F.at rfl) pr0) Try.underlying50 (size := 1) (by kernel_rfl) (by decide) (by decide) Try.zeroValue29 (cells := #[.slice ka R.length kc]) (by kernel_rfl)) ?_; clear F fa; intro fa w12 F hw
          obtain ⟨n74, hn⟩ : ∃ n, n = w11.heap.size := ⟨_, rfl⟩
          rw [← hn] at F
          have s74 : w11.heap.size ≤ n74 := Nat.le_of_eq hn.symm
          have l74_E : w.heap.size ≤ n74 := by rw [hn]; exact E.size
          have m74_1 : n1 < n74 := by rw [hn]; exact blk_lt q1
          replace fag := famG_lift fag fun _ _ _ h => owns_alloc hw h
          replace fam := fam_lift fam fun _ _ _ h => owns_alloc hw h
          replace q1 := keep_alloc hw q1
          replace E := ext_alloc E hw
          have q74 := new_block hw hn
          clear hw hn
          have oo : w12.ownsRow w.heap.size 29 1 (.slice vb K.length vd) K.length (K.map (·.1)) := fag.1 (.slice vb K.length vd, K.length, K.map (·.1)) (by simp)
          have hEs := E.size
          refine sq_some F rfl (by decide) rfl (append_runB rfl (w.heap.size) (e := 29) (size := 1) (bytes := 24) Try.underlying50 (by kernel_rfl) (by decide) (F.at rfl) oo (F.at rfl) q74 rfl (by simp [Value.oneCell']) (by omega) (by omega) (by omega)) ?_; clear F fa; rintro fa v' w13 F ⟨hown', ⟨hg, hblk⟩⟩
          obtain ⟨va75, vc75, rfl⟩ := owns_slice hown'
          replace q1 := keep_type oo hg q1 (by decide)
          replace fag := famG_put fag hown' hg hblk
          replace fam := fam_lift fam fun _ _ _ h => owns_other h oo hg (by decide)
          replace E := ext_appendX E oo hg (by omega)
          replace oo := hown'
          clear hg
          have hKl3 : K.length + 1 = K2.length := by rw [hK2, List.length_append]; rfl
          rw [show K.map (·.1) ++ [Value.slice ka R.length kc] = K2.map (·.1) by rw [hK2, List.map_append]; rfl, hKl3] at fag
          rw [hKl3] at F
          clear oo hblk
          have hKl2 : K2.length = k + 1 := by omega
          have hKk : K2.getD k dft = (Value.slice ka R.length kc, R) := by rw [hK2, ← hKl]; exact getD_snoc_at _ _ _
          have hKj : Hid (∀ j, j < k → K2.getD j dft = K.getD j dft) := Lib.hid fun j hj => by rw [hK2]; exact getD_snoc_lt _ _ _ (by omega)
          have hKv2 : Hid (∀ j, j < k + 1 → (∀ p, p ∈ (K2.getD j dft).2 ↔ (t.pl ≤ p ∧ p ≤ t.pm ∧ pullP t ys j p)) ∧ (K2.getD j dft).2.length ≤ 100) := Lib.hid fun j hj => if e : j = k then (by subst e; rw [hKk]; exact ⟨hR, hRl⟩) else (by rw [hKj.out j (by omega)]; exact hKv.out j (by omega))
          refine F.as ?_; clear F fa; intro fa F
          refine wpList_nil ?_
          refine hK28 _ _ ?_
          clear hK28
          have EX : Ext [] w13 w13 := Ext.refl _ _
          have HS := Lib.hid (slAt_of_outer (fag.1 (.slice va75 K2.length vc75, K2.length, K2.map (·.1)) (by simp)) rfl)
          refine wp_region_lit ?_
          refine F.mv ?_; clear F fa; intro fa F
          refine F.mv ?_; clear F fa; intro fa F
          cases hg1 : cb
          · skip
            replace F := F.re (k := 77) rfl (congrArg Value.bool hg1)
            refine sq_no F rfl (by decide) (wantF F rfl rfl (by decide) rfl (by decide)) ?_; clear F fa; intro fa F
            refine sq_no F rfl (by decide) (wantF F rfl rfl (by decide) rfl (by decide)) ?_; clear F fa; intro fa F
            refine sq_no F rfl (by decide) (wantF F rfl rfl (by decide) rfl (by decide)) ?_; clear F fa; intro fa F
            refine sq_no F rfl (by decide) (wantF F rfl rfl (by decide) rfl (by decide)) ?_; clear F fa; intro fa F
            refine sq_no F rfl (by decide) (wantF F rfl rfl (by decide) rfl (by decide)) ?_; clear F fa; intro fa F
            refine sq_no F rfl (by decide) (wantF F rfl rfl (by decide) rfl (by decide)) ?_; clear F fa; intro fa F
            refine F.vl (R_pickF rfl (F.at rfl) (ev_c fa _)) ?_; clear F fa; intro fa F
            refine F.as ?_; clear F fa; intro fa F
            refine wpList_nil ?_
            first | have hcb2 : Hid (false = true ↔ ∀ j, j < k + 1 → 0 < (K2.getD j dft).2.length) := Lib.hid (iff_of_false (by decide) fun h => by have h9 := hcb.out.2 (fun j hj => by have := h j (by omega); rwa [hKj.out j hj] at this); rw [hg1] at h9; exact absurd h9 (by decide)) | have hcb2 : Hid (decide ((0 : Int) < ((R.length : Nat) : Int)) = true ↔ ∀ j, j < k + 1 → 0 < (K2.getD j dft).2.length) := Lib.hid (decide_eq_true_iff.trans ⟨fun h j hj => if e : j = k then (by subst e; rw [hKk]; show 0 < R.length; omega) else (by rw [hKj.out j (by omega)]; exact hcb.out.1 hg1 j (by omega)), fun h => by have := h k (by omega); rw [hKk] at this; have h2 : 0 < R.length := this; omega⟩)
            refine hK27 _ _ ?_
            clear hK27
            refine wp_region_lit ?_
            refine F.mv ?_; clear F fa; intro fa F
            refine F.vl (R_add rfl (F.at rfl) (ev_c fa _) (by omega) (by omega)) ?_; clear F fa; intro fa F
            refine F.as ?_; clear F fa; intro fa F
            refine wpList_nil ?_
            show _ ∧ _
            exact ⟨by omega, _, ⟨_, _, _, _, rfl, E, q1, fag, fam, hKl2, hKv2, hcb2⟩, F.sub (.c 10 rfl (.c 11 rfl (.c 12 rfl (.c 1 rfl (.c 4 rfl (.c 5 rfl (.c 6 rfl (.c 7 rfl (.c 8 rfl .n)))))))))⟩
          · skip
            replace F := F.re (k := 77) rfl (congrArg Value.bool hg1)
            refine F.mv ?_ (hw := (wantT F rfl rfl (by decide) rfl)); clear F fa; intro fa F
            refine F.mv ?_ (hw := (wantT F rfl rfl (by decide) rfl)); clear F fa; intro fa F
            obtain ⟨xb29, xo29, xa29, xr29⟩ := HS.out k (by omega)
            refine F.vl (R_ixSlice (sz := 1) rfl ((F.at rfl).trans (xa29 _ _)) (F.at rfl) Try.underlying50 (by kernel_rfl) (by omega) (by omega)) ?_ (hw := (wantT F rfl rfl (by decide) rfl)); clear F fa; intro fa F
            refine F.vl (R_load rfl (F.at rfl) Try.underlying29 rfl (xr29 _ EX 0 _ rfl)) ?_ (hw := (wantT F rfl rfl (by decide) rfl)); clear F fa; intro fa F
            replace F := F.re (k := 81) rfl (show (K2.getD k dft).1 = Value.slice ka R.length kc by rw [hKk])
            refine F.vl (R_len rfl rfl (F.at rfl) Try.underlying29) ?_ (hw := (wantT F rfl rfl (by decide) rfl)); clear F fa; intro fa F
            refine F.vl (R_gtr rfl (F.at rfl) (ev_c fa _)) ?_ (hw := (wantT F rfl rfl (by decide) rfl)); clear F fa; intro fa F
            refine F.vl (R_pickT rfl (F.at rfl) (F.at rfl)) ?_; clear F fa; intro fa F
            refine F.as ?_; clear F fa; intro fa F
            refine wpList_nil ?_
            first | have hcb2 : Hid (false = true ↔ ∀ j, j < k + 1 → 0 < (K2.getD j dft).2.length) := Lib.hid (iff_of_false (by decide) fun h => by have h9 := hcb.out.2 (fun j hj => by have := h j (by omega); rwa [hKj.out j hj] at this); rw [hg1] at h9; exact absurd h9 (by decide)) | have hcb2 : Hid (decide ((0 : Int) < ((R.length : Nat) : Int)) = true ↔ ∀ j, j < k + 1 → 0 < (K2.getD j dft).2.length) := Lib.hid (decide_eq_true_iff.trans ⟨fun h j hj => if e : j = k then (by subst e; rw [hKk]; show 0 < R.length; omega) else (by rw [hKj.out j (by omega)]; exact hcb.out.1 hg1 j (by omega)), fun h => by have := h k (by omega); rw [hKk] at this; have h2 : 0 < R.length := this; omega⟩)
            refine hK27 _ _ ?_
            clear hK27
            refine wp_region_lit ?_
            refine F.mv ?_; clear F fa; intro fa F
            refine F.vl (R_add rfl (F.at rfl) (ev_c fa _) (by omega) (by omega)) ?_; clear F fa; intro fa F
            refine F.as ?_; clear F fa; intro fa F
            refine wpList_nil ?_
            show _ ∧ _
            exact ⟨by omega, _, ⟨_, _, _, _, rfl, E, q1, fag, fam, hKl2, hKv2, hcb2⟩, F.sub (.c 10 rfl (.c 11 rfl (.c 12 rfl (.c 1 rfl (.c 4 rfl (.c 5 rfl (.c 6 rfl (.c 7 rfl (.c 8 rfl .n)))))))))⟩
        · skip
          refine wp_exit ?_
          have hkT : k = Tn := by omega
          refine hK23 _ _ ?_
          clear hK23
          refine wp_seq_k fun K30 hK30 => ?_
          refine wp_seq_k fun K31 hK31 => ?_
          refine wp_region_lit ?_
          refine F.mv ?_; clear F fa; intro fa F
          refine F.vl (R_not rfl (F.at rfl)) ?_; clear F fa; intro fa F
          refine wpList_nil ?_
          refine hK31 _ _ ?_
          clear hK31
          refine cd_b F rfl (fun hc86 => ?_) (fun hc86 => ?_)
          · skip
            have hTr2 := hTr.no (by rw [hxA, ← hys]; intro h; have h9 := hcb.out.2 (fun j hj => by obtain ⟨p, hp⟩ := h.2.2 j (by omega); exact List.length_pos_of_mem (((hKv.out j hj).1 p).2 hp)); rw [h9] at hc86; cases hc86)
            have hMl2 := hMl
            replace fag := famG_left4 (famG_perm fag (perm4_r _ _ _ _))
            replace fam := fam_drop3 fam
            rw [hO2] at fam
            replace fam := fam_drop3 fam
            refine wp_exit ?_
            refine hK9 _ _ ?_
            clear hK9
            refine wp_region_lit ?_
            refine F.mv ?_; clear F fa; intro fa F
            refine F.vl (R_add rfl (F.at rfl) (ev_c fa _) (by omega) (by omega)) ?_; clear F fa; intro fa F
            refine F.as ?_; clear F fa; intro fa F
            refine wpList_nil ?_
            show _ ∧ _
            exact ⟨by omega, _, ⟨_, _, _, _, rfl, E, q1, fag, fam, hMl2, hTr2⟩, F.sub (.c 4 rfl (.c 7 rfl (.c 1 rfl (.c 5 rfl (.c 6 rfl .n)))))⟩
          · skip
            refine wp_skip ?_
            refine hK30 _ _ ?_
            clear hK30
            refine wp_seq_k fun K32 hK32 => ?_
            replace fag := famG_perm fag (perm4_4 _ _ _ _)
            refine wp_region_lit ?_
            refine F.mv ?_; clear F fa; intro fa F
            refine F.mv ?_; clear F fa; intro fa F
            refine sq_new F rfl (by decide) rfl (R_buildSliceV rfl (prS (F.at rfl) pr0) Try.underlying50 (size := 1) (by kernel_rfl) (by decide) (by decide) Try.zeroValue29 (cells := #[.slice ma ys.length mc]) (by kernel_rfl)) ?_; clear F fa; intro fa w14 F hw
            obtain ⟨n89, hn⟩ : ∃ n, n = w10.heap.size := ⟨_, rfl⟩
            rw [← hn] at F
            have s89 : w10.heap.size ≤ n89 := Nat.le_of_eq hn.symm
            have l89_E : w.heap.size ≤ n89 := by rw [hn]; exact E.size
            have m89_1 : n1 < n89 := by rw [hn]; exact blk_lt q1
            replace fag := famG_lift fag fun _ _ _ h => owns_alloc hw h
            replace fam := fam_lift fam fun _ _ _ h => owns_alloc hw h
            replace q1 := keep_alloc hw q1
            replace E := ext_alloc E hw
            have q89 := new_block hw hn
            clear hw hn
            have oo : w14.ownsRow w.heap.size 29 1 (.slice va O.length vc) O.length (O.map (·.1)) := fag.1 (.slice va O.length vc, O.length, O.map (·.1)) (by simp)
            have hOl := hTr.ol
            rw [List.length_map] at hOl
            have hEs := E.size
            refine sq_some F rfl (by decide) rfl (append_runB rfl (w.heap.size) (e := 29) (size := 1) (bytes := 24) Try.underlying50 (by kernel_rfl) (by decide) (F.at rfl) oo (F.at rfl) q89 rfl (by simp [Value.oneCell']) (by omega) (by omega) (by omega)) ?_; clear F fa; rintro fa v' w15 F ⟨hown', ⟨hg, hblk⟩⟩
            obtain ⟨va90, vc90, rfl⟩ := owns_slice hown'
            replace q1 := keep_type oo hg q1 (by decide)
            replace fag := famG_put fag hown' hg hblk
            replace fam := fam_lift fam fun _ _ _ h => owns_other h oo hg (by decide)
            replace E := ext_appendX E oo hg (by omega)
            replace oo := hown'
            clear hg
            have hOl3 : O.length + 1 = O2.length := by rw [hO2, List.length_append]; rfl
            rw [show O.map (·.1) ++ [Value.slice ma ys.length mc] = O2.map (·.1) by rw [hO2, List.map_append]; rfl, hOl3] at fag
            rw [hOl3] at F
            clear oo hblk
            replace fag := famG_perm fag (perm4_4 _ _ _ _)
            refine F.as ?_; clear F fa; intro fa F
            refine wpList_nil ?_
            refine hK32 _ _ ?_
            clear hK32
            refine wp_seq_k fun K33 hK33 => ?_
            refine wp_region_lit ?_
            refine F.vl (R_assign rfl (ev_c fa _)) ?_; clear F fa; intro fa F
            refine wpList_nil ?_
            refine hK33 _ _ ?_
            clear hK33
            refine wp_block ?_
            have F0 := F.sub (.c 1 rfl (.c 4 rfl (.c 5 rfl (.c 6 rfl (.c 7 rfl (.c 11 rfl .n))))))
            refine lp_for F0 (Tn) (fun kk Lv W => ∃ M2 : List (Value × List Int), Lv = [(13, .int .i64 ((kk : Nat) : Int))] ∧ Ext [] w W ∧ W.heap[n1]? = some (.cells #[.int .i64 t.S, .int .i64 t.A, .int .i64 t.T, .int .i64 t.bl, .int .i64 t.bm, .int .i64 t.pl, .int .i64 t.pm, .int .i64 t.sl, .slice ga t.gr.length gc, .slice ra t.rd.length rc, .slice la t.lk.length lc] 28 (0, 0)) ∧ FamG W w.heap.size 29 [(.slice (some ⟨n16, 0, none⟩) Tn Tn, Tn, M2.map (·.1)), (.slice va90 O2.length vc90, O2.length, O2.map (·.1)), (.slice vb K.length vd, K.length, K.map (·.1)), (.slice aa A.length ac, A.length, A.map (·.1))] ∧ FamT W w.heap.size (A ++ (M2 ++ (O2 ++ K))) ∧ M2.length = Tn ∧ Hid (∀ j, (M2.getD j dft).2 = if j < kk then (M.getD j dft).2 ++ (K.getD j dft).2 else (M.getD j dft).2)) ⟨_, ⟨M, rfl, E, q1, fag, fam, hMl, Lib.hid fun j => (if_neg (by omega)).symm⟩, F.sub (.c 13 rfl (.c 1 rfl (.c 4 rfl (.c 5 rfl (.c 6 rfl (.c 7 rfl (.c 11 rfl .n)))))))⟩ ?_
            clear F F0
            clear E q1
            clear fag
            clear fam
            rintro kk _ fa w16 hi4 ⟨M2, rfl, E, q1, fag, fam, hM2l, hM2⟩ F
            refine wp_seq_k fun K34 hK34 => ?_
            refine wp_seq_k fun K35 hK35 => ?_
            refine wp_region_lit ?_
            refine F.mv ?_; clear F fa; intro fa F
            refine F.vl (R_field rfl (F.at rfl) Try.underlying28 rfl (n := 2) (sz := 1) rfl (by kernel_rfl) (by decide)) ?_; clear F fa; intro fa F
            refine F.vl (R_load rfl (F.at rfl) Try.underlying3 rfl ((cells_of_block q1 2).trans (getS (getS (get0))))) ?_; clear F fa; intro fa F
            refine F.vl (R_lss rfl (F.at rfl) (F.at rfl)) ?_; clear F fa; intro fa F
            refine wpList_nil ?_
            refine hK35 _ _ ?_
            clear hK35
            refine cd_if F rfl (fun hc94 => ?_) (fun hc94 => ?_)
            · skip
              refine wp_skip ?_
              refine hK34 _ _ ?_
              clear hK34
              refine wp_seq_k fun K36 hK36 => ?_
              refine wp_block ?_
              have hm1 : M2.getD kk dft ∈ A ++ (M2 ++ (O2 ++ K)) := List.mem_append_right _ (List.mem_append_left _ (getD_mem _ (by omega)))
              have hm2 : K.getD kk dft ∈ A ++ (M2 ++ (O2 ++ K)) := List.mem_append_right _ (List.mem_append_right _ (List.mem_append_right _ (getD_mem _ (by omega))))
              have hk100 := (hKv.out kk (by omega)).2
              have hm100 : (M2.getD kk dft).2.length ≤ 100000 := by rw [hM2.out kk, if_neg (by omega), ← getD_key2]; have := hTr.ml kk; omega
              have EX : Ext [] w16 w16 := Ext.refl _ _
              have HS1 := Lib.hid (slAt_of_outer (fag.1 (.slice (some ⟨n16, 0, none⟩) Tn Tn, Tn, M2.map (·.1)) (by simp)) hM2l.symm)
              have HS2 := Lib.hid (slAt_of_outer (fag.1 (.slice vb K.length vd, K.length, K.map (·.1)) (by simp)) rfl)
              refine region_x (Ext [] w16) (some 10) follows fun w17 hh eh => ?_
              have q1_ := q1
              replace q1 := keep_same hh q1
              have E_ := E
              have zEw17 := E.size
              replace E := ext_same E eh
              have EX_ := EX
              have zEXw17 := EX.size
              replace EX := ext_same EX eh
              replace fag := famG_lift fag fun _ _ _ h => owns_same hh h
              replace fam := fam_lift fam fun _ _ _ h => owns_same hh h
              have eT := eh
              clear hh eh
              refine F.x (i := 0) rfl (fun w' => R_move rfl (F.at rfl)) (fun _ => eT) ?_; clear F fa; intro fa F
              refine F.x (i := 1) rfl (fun w' => R_move rfl (F.at rfl)) (fun _ => eT) ?_; clear F fa; intro fa F
              refine F.x (i := 2) rfl (fun w' => R_move rfl (F.at rfl)) (fun _ => eT) ?_; clear F fa; intro fa F
              refine F.x (i := 3) rfl (fun w' => R_move rfl (F.at rfl)) (fun _ => eT) ?_; clear F fa; intro fa F
              obtain ⟨xb37, xo37, xa37, xr37⟩ := HS1.out kk (by omega)
              refine F.x (i := 4) rfl (fun w' => R_ixSlice (sz := 1) rfl ((F.at rfl).trans (xa37 _ _)) (F.at rfl) Try.underlying50 (by kernel_rfl) (by omega) (by omega)) (fun _ => eT) ?_; clear F fa; intro fa F
              refine F.xr (i := 5) rfl (fun w' hS => R_load rfl (F.at rfl) Try.underlying29 rfl (xr37 _ (EX_.nil hS) 0 _ rfl)) (fun _ => eT) ?_; clear F fa; intro fa F
              obtain ⟨xa, xc, hx1, hx2⟩ := fam_row fam hm1
              replace F := F.re (k := 102) rfl hx1
              refine F.x (i := 6) rfl (fun w' => R_move rfl (F.at rfl)) (fun _ => eT) ?_; clear F fa; intro fa F
              refine F.x (i := 7) rfl (fun w' => R_move rfl (F.at rfl)) (fun _ => eT) ?_; clear F fa; intro fa F
              obtain ⟨xb38, xo38, xa38, xr38⟩ := HS2.out kk (by omega)
              refine F.x (i := 8) rfl (fun w' => R_ixSlice (sz := 1) rfl ((F.at rfl).trans (xa38 _ _)) (F.at rfl) Try.underlying50 (by kernel_rfl) (by omega) (by omega)) (fun _ => eT) ?_; clear F fa; intro fa F
              refine F.xr (i := 9) rfl (fun w' hS => R_load rfl (F.at rfl) Try.underlying29 rfl (xr38 _ (EX_.nil hS) 0 _ rfl)) (fun _ => eT) ?_; clear F fa; intro fa F
              obtain ⟨ka2, kc2, hk1, hk2⟩ := fam_row fam hm2
              replace F := F.re (k := 106) rfl hk1
              have orow := fam.1 _ hm1
              rw [hx1] at orow
              have hEs := E.size
              refine ax_only (i := 10) (by kernel_rfl) (op_some F rfl rfl (by decide) rfl (appends_runB rfl (w.heap.size) (e := 3) (size := 1) (bytes := 8) Try.underlying29 (by kernel_rfl) (by decide) (F.at rfl) orow (F.at rfl) (srcAt_of_rows hk2 (by decide) (fun _ => rfl) intRow_one) (by omega) (by omega) (by omega)) ?_); clear F fa; rintro fa v' w18 F ⟨hown', ⟨hg, hblk⟩⟩
              obtain ⟨va107, vc107, rfl⟩ := owns_slice hown'
              obtain ⟨Rn, hRn⟩ : ∃ Rn, Rn = (M2.getD kk dft).2 ++ (K.getD kk dft).2 := ⟨_, rfl⟩
              have hRnl : (M2.getD kk dft).2.length + (K.getD kk dft).2.length = Rn.length := by rw [hRn, List.length_append]
              rw [← ivs_flat, show ivs (M2.getD kk dft).2 ++ ivs (K.getD kk dft).2 = ivs Rn by rw [hRn]; simp [ivs], hRnl] at hown'
              rw [hRnl] at hblk
              replace q1 := keep_type orow hg q1 (by decide)
              replace fag := famG_lift fag fun _ _ _ h => owns_other h orow hg (by decide)
              replace fam := fam_mid (M := M2) (k := kk) fam (by omega) hown' (by rw [hx1]; exact hg) (by rw [hx1]; exact hblk)
              replace E := ext_appendX E orow hg (by omega)
              replace orow := hown'
              clear hg
              refine ⟨gone (by kernel_rfl), ?_⟩
              rw [hRnl] at F
              clear orow hblk
              have hmet : w18.ownsRow w.heap.size 29 1 (.slice (some ⟨n16, 0, none⟩) Tn Tn) Tn (M2.map (·.1)) := fag.1 (.slice (some ⟨n16, 0, none⟩) Tn Tn, Tn, M2.map (·.1)) (by simp)
              obtain ⟨xb39, xo39, xa39, xr39⟩ := HS1.out kk (by omega)
              refine F.x (i := 11) rfl (fun w' => R_ixSlice (sz := 1) rfl ((F.at rfl).trans (xa39 _ _)) (F.at rfl) Try.underlying50 (by kernel_rfl) (by omega) (by omega)) (gone (by kernel_rfl)) ?_; clear F fa; intro fa F
              have hM2ml : (M2.map (·.1)).length = M2.length := by simp
              obtain ⟨⟨u0, hcu⟩, hfu, hst⟩ := owns_at hmet xa39 (j := kk) (p := xo39 + ((kk : Nat) : Int).toNat * 1) (by first | omega | (simp; omega)) (by omega)
              refine ax_only (i := 12) (by kernel_rfl) (op_to rfl rfl rfl (R_store rfl (F.at rfl) (F.at rfl) rfl (by kernel_rfl) hcu hfu) ?_); intro w19 hw
              obtain ⟨hown', hg⟩ := hst _ _ hw
              clear hst hcu hfu hw
              replace q1 := keep_type hmet hg q1 (by decide)
              replace fag := famG_put fag hown' hg (.inl rfl)
              replace fam := fam_lift fam fun _ _ _ h => owns_other h hmet hg (by decide)
              replace E := ext_appendX E hmet hg (by omega)
              replace hmet := hown'
              clear hg
              refine ⟨gone (by kernel_rfl), ?_⟩
              obtain ⟨M3, hM3e⟩ : ∃ M3, M3 = M2.set kk (Value.slice va107 Rn.length vc107, Rn) := ⟨_, rfl⟩
              rw [show (M2.map (·.1)).set kk (Value.slice va107 Rn.length vc107) = M3.map (·.1) by rw [hM3e, List.map_set]] at fag
              rw [← hM3e] at fam
              clear hmet
              have hM3l : M3.length = Tn := by rw [hM3e, List.length_set]; exact hM2l
              have hM3 : Hid (∀ j, (M3.getD j dft).2 = if j < kk + 1 then (M.getD j dft).2 ++ (K.getD j dft).2 else (M.getD j dft).2) := Lib.hid fun j => if e : j = kk then (by subst e; rw [hM3e, getD_set_eq _ _ (by omega), if_pos (by omega)]; show Rn = _; rw [hRn, hM2.out, if_neg (by omega)]) else (by rw [hM3e, getD_set_neq _ _ e, hM2.out j]; exact if h : j < kk then (by rw [if_pos h, if_pos (by omega)]) else (by rw [if_neg h, if_neg (by omega)]))
              refine ax_done (by kernel_rfl) ?_ _
              clear eT q1_ E_ EX_
              refine hK36 _ _ ?_
              clear hK36
              refine wp_region_lit ?_
              refine F.mv ?_; clear F fa; intro fa F
              refine F.vl (R_add rfl (F.at rfl) (ev_c fa _) (by omega) (by omega)) ?_; clear F fa; intro fa F
              refine F.as ?_; clear F fa; intro fa F
              refine wpList_nil ?_
              show _ ∧ _
              exact ⟨by omega, _, ⟨_, rfl, E, q1, fag, fam, hM3l, hM3⟩, F.sub (.c 13 rfl (.c 1 rfl (.c 4 rfl (.c 5 rfl (.c 6 rfl (.c 7 rfl (.c 11 rfl .n)))))))⟩
            · skip
              refine wp_exit ?_
              have hMl2 := hM2l
              replace fag := famG_left4 (famG_perm fag (perm4_4 _ _ _ _))
              replace fam := fam_drop3 fam
              have hsk := getD_key2
              have hTr2 := hTr.yes (M' := M2.map (·.2)) (K := K.map (·.2)) (by rw [hxA, ← hys]; exact ⟨by omega, hgt, fun j hj => by obtain ⟨p, hp⟩ := List.exists_mem_of_length_pos (hcb.out.1 (by simpa using hc86) j (by omega)); exact ⟨p, ((hKv.out j (by omega)).1 p).1 hp⟩⟩) (fun j hj => by rw [hxA, ← hys, hsk]; exact hKv.out j (by omega)) (fun j hj => by rw [hsk, hsk, hsk, hM2.out j, if_pos (by omega)]) (fun j hj => by rw [hsk, List.getD_eq_getElem?_getD, List.getElem?_eq_none (by omega)]; rfl)
              rw [hxA, ← hys, show O.map (·.2) ++ [ys] = O2.map (·.2) by rw [hO2, List.map_append]; rfl] at hTr2
              refine hK9 _ _ ?_
              clear hK9
              refine wp_region_lit ?_
              refine F.mv ?_; clear F fa; intro fa F
              refine F.vl (R_add rfl (F.at rfl) (ev_c fa _) (by omega) (by omega)) ?_; clear F fa; intro fa F
              refine F.as ?_; clear F fa; intro fa F
              refine wpList_nil ?_
              show _ ∧ _
              exact ⟨by omega, _, ⟨_, _, _, _, rfl, E, q1, fag, fam, hMl2, hTr2⟩, F.sub (.c 4 rfl (.c 7 rfl (.c 1 rfl (.c 5 rfl (.c 6 rfl .n)))))⟩
  · skip
    refine wp_exit ?_
    have hiA : i = A.length := by omega
    refine hK5 _ _ ?_
    clear hK5
    refine wp_seq_k fun K40 hK40 => ?_
    obtain ⟨ha1, ha2⟩ := tru_all hsm hmm (by rw [← hA, List.length_map, ← hiA]; exact hTr)
    refine wp_region_lit ?_
    refine F.mv ?_; clear F fa; intro fa F
    refine F.mv ?_; clear F fa; intro fa F
    refine F.as ?_; clear F fa; intro fa F
    refine F.as ?_; clear F fa; intro fa F
    refine wpList_nil ?_
    refine hK40 _ _ ?_
    clear hK40
    refine wp_ret ?_
    (try simp only [Exit.inBlock, Exit.then])
    refine rt_v F (rs_2 F rfl rfl rfl) ?_
    exact ⟨O, M, va, some ⟨n16, 0, none⟩, vc, Tn, by rw [hMl], ha1, by omega, fun k hk p => by rw [← getD_key2]; exact ha2 k hk p, by have := hTr.ol; rw [List.length_map] at this; omega, fun k hk => by have := hTr.ml k; rw [getD_key2] at this; omega, slAt_of_outer (fag.1 (.slice va O.length vc, O.length, O.map (·.1)) (by simp)) rfl, fun p hp => fam_row fam (List.mem_append_right _ (List.mem_append_right _ hp)), slAt_of_outer (fag.1 (.slice (some ⟨n16, 0, none⟩) Tn Tn, Tn, M.map (·.1)) (by simp)) hMl.symm, fun p hp => fam_row fam (List.mem_append_right _ (List.mem_append_left _ hp)), E⟩
end Go.Proofs.Ytholfdgebdlgjaa
namespace Go.Proofs.Ytholfdgebdlgjaa
open Go.RowKit
set_option linter.unusedVariables false
set_option linter.unusedSimpArgs false
theorem R_neqZ {P : Program} {ρ : Operand → Value} {o : Oper} {w : World} {x y : Operand} {t t' : TypeId} {a b : Bool} (ho : o.op = .binOp .neq t x y t') (hx : ρ x = .bool a) (hy : ρ y = .bool b) (hu : P.underlying t = some .bool) : (execOp ρ o).run P w = .ok (.value (.bool (a != b))) w := by
  unfold execOp
  cases a <;> cases b <;> simp [ho, hx, hy, eqGuard, binOp, Op.equal, go_sem, run_equalIn_bool w 9999 t _ _ hu, Op.maxDepth]
theorem fam_ne_new {w : World} {base n : Nat} {L : List (Value × List Int)} (h : FamT w base L) (hn : n = w.heap.size) : ∀ p : Value × List Int, p ∈ L → some n ≠ p.1.ownBlock := fun p hp e => by
  have := fam_lt h p hp n e.symm
  omega
theorem isT_live {t : Tp} (ok : t.Ok) : (∃ v, isT t v) ↔ bdB t 0 = true := by
  rw [bdB_iff ok]
  have o1 := ok.T1
  constructor
  · rintro ⟨v, hv⟩
    obtain ⟨p, hp⟩ := hv.2.2 0 (by omega)
    obtain ⟨x, hx, -⟩ := isT_tr ok hv hp
    exact ⟨x, hx⟩
  · rintro ⟨x, hx⟩
    obtain ⟨v, hv, -⟩ := tr_isT ok (hx.shift (-(x 0))) (by show x 0 + -(x 0) = 0; omega)
    exact ⟨v, hv⟩
theorem idx_sa {t : Tp} (ok : t.Ok) {x : Nat} (hx : (x : Int) < t.S * t.A) : ∃ s a : Nat, (s : Int) < t.S ∧ (a : Int) < t.A ∧ (x : Int) / t.A = s ∧ (x : Int) % t.A = a ∧ ((s : Int) * t.A + (a : Int)).toNat = x := by
  have o1 := ok.A1
  obtain ⟨i1, i2, i3, i4⟩ := nd_in2 (S := t.S) (A := t.A) (x := x) (by omega) hx
  refine ⟨((x : Int) / t.A).toNat, ((x : Int) % t.A).toNat, by omega, by omega, by omega, by omega, ?_⟩
  rw [Int.toNat_of_nonneg i1, Int.toNat_of_nonneg i3, show (x : Int) / t.A * t.A + (x : Int) % t.A = (x : Int) by rw [Int.mul_comm]; exact Int.mul_ediv_add_emod _ _, Int.toNat_natCast]
theorem own_mem {t : Tp} (hL : t.Live) {O : List (List Int)} (hO : ∀ v, v ∈ O ↔ isT t v) {x : Nat} (hx : (x : Int) < t.S * t.A) (n : Int) : n ∈ O.map (fun v => v.getD x 0) ↔ mlo t ((x : Int) / t.A) ((x : Int) % t.A) ≤ n ∧ n ≤ mhi t ((x : Int) / t.A) ((x : Int) % t.A) := by
  have ok := hL.ok
  have o1 := ok.T1
  obtain ⟨s, a, h1, h2, e1, e2, e3⟩ := idx_sa ok hx
  have lc := live_cellI (t := t) (s := s) (a := a) (by omega) h1 (by omega) h2
  have lz := live_zero t
  rw [e1, e2, mlo, mhi]
  constructor
  · intro h
    obtain ⟨v, hv, rfl⟩ := List.mem_map.1 h
    have hv := (hO v).1 hv
    obtain ⟨p, hp⟩ := hv.2.2 0 (by omega)
    obtain ⟨y, hy, y0, -, hm⟩ := isT_tr ok hv hp
    have e := hm s a h1 h2
    rw [e3] at e
    have a1 := (hL.top lz lc).1 y hy
    have a2 := (hL.top lc lz).1 y hy
    show _ ≤ v.getD x 0 ∧ v.getD x 0 ≤ _
    omega
  · rintro ⟨h3, h4⟩
    obtain ⟨y, hy, e⟩ := hL.between (i := 0) (j := nodeC s a) (by omega) (live_lt ok lc) h3 h4
    obtain ⟨v, hv, hm, -⟩ := tr_isT ok (hy.shift (-(y 0))) (by show y 0 + -(y 0) = 0; omega)
    refine List.mem_map.2 ⟨v, (hO v).2 hv, ?_⟩
    have e4 := hm s a h1 h2
    rw [e3] at e4
    have e5 : v.getD x 0 = y (nodeC s a) + -(y 0) := e4
    omega
theorem dif_mem {t : Tp} (hL : t.Live) {O : List (List Int)} (hO : ∀ v, v ∈ O ↔ isT t v) {x z : Nat} (hx : (x : Int) < t.S * t.A) (hz : (z : Int) < t.S * t.A) (n : Int) :
    n ∈ O.map (fun v => v.getD x 0 - v.getD z 0) ↔ dlo t ((x : Int) / t.A) ((x : Int) % t.A) ((z : Int) / t.A) ((z : Int) % t.A) ≤ n ∧ n ≤ dhi t ((x : Int) / t.A) ((x : Int) % t.A) ((z : Int) / t.A) ((z : Int) % t.A) := by
  have ok := hL.ok
  have o1 := ok.T1
  obtain ⟨s, a, h1, h2, e1, e2, e3⟩ := idx_sa ok hx
  obtain ⟨o, b, k1, k2, f1, f2, f3⟩ := idx_sa ok hz
  have lc := live_cellI (t := t) (s := s) (a := a) (by omega) h1 (by omega) h2
  have ld := live_cellI (t := t) (s := o) (a := b) (by omega) k1 (by omega) k2
  rw [e1, e2, f1, f2, dlo, dhi]
  constructor
  · intro h
    obtain ⟨v, hv, rfl⟩ := List.mem_map.1 h
    have hv := (hO v).1 hv
    obtain ⟨p, hp⟩ := hv.2.2 0 (by omega)
    obtain ⟨y, hy, y0, -, hm⟩ := isT_tr ok hv hp
    have e := hm s a h1 h2
    rw [e3] at e
    have f := hm o b k1 k2
    rw [f3] at f
    have a1 := (hL.top ld lc).1 y hy
    have a2 := (hL.top lc ld).1 y hy
    show _ ≤ v.getD x 0 - v.getD z 0 ∧ v.getD x 0 - v.getD z 0 ≤ _
    omega
  · rintro ⟨h3, h4⟩
    obtain ⟨y, hy, e⟩ := hL.between (i := nodeC o b) (j := nodeC s a) (live_lt ok ld) (live_lt ok lc) h3 h4
    obtain ⟨v, hv, hm, -⟩ := tr_isT ok (hy.shift (-(y 0))) (by show y 0 + -(y 0) = 0; omega)
    refine List.mem_map.2 ⟨v, (hO v).2 hv, ?_⟩
    have e4 := hm s a h1 h2
    rw [e3] at e4
    have f4 := hm o b k1 k2
    rw [f3] at f4
    have e5 : v.getD x 0 = y (nodeC s a) + -(y 0) := e4
    have f5 : v.getD z 0 = y (nodeC o b) + -(y 0) := f4
    omega
theorem pul_mem {t : Tp} (hL : t.Live) {M : List Int} {k : Nat} (hk : (k : Int) < t.T) (hM : ∀ p, p ∈ M ↔ ∃ v, isT t v ∧ t.pl ≤ p ∧ p ≤ t.pm ∧ pullP t v k p) (n : Int) : n ∈ M ↔ plo t k ≤ n ∧ n ≤ phi t k := by
  have ok := hL.ok
  have lt := live_tailI (t := t) (i := k) (by omega) hk
  have lz := live_zero t
  rw [hM n, plo, phi]
  constructor
  · rintro ⟨v, hv, hp⟩
    obtain ⟨y, hy, y0, e, -⟩ := isT_tr ok hv hp
    have a1 := (hL.top lz lt).1 y hy
    have a2 := (hL.top lt lz).1 y hy
    omega
  · rintro ⟨h3, h4⟩
    obtain ⟨y, hy, e⟩ := hL.between (i := nodeT k) (j := 0) (live_lt ok lt) (by omega) h3 h4
    obtain ⟨v, hv, -, hq⟩ := tr_isT ok (hy.shift (-(y 0))) (by show y 0 + -(y 0) = 0; omega)
    have q := hq k hk
    refine ⟨v, hv, ?_⟩
    have e5 : -(y (nodeT k) + -(y 0)) = n := by
      have e6 : y 0 - y (nodeT k) = n := e
      omega
    have q2 : t.pl ≤ -(y (nodeT k) + -(y 0)) ∧ -(y (nodeT k) + -(y 0)) ≤ t.pm ∧ pullP t v k (-(y (nodeT k) + -(y 0))) := q
    rwa [e5] at q2
theorem range_eq {l : List Int} {lo hi a b : Int} {bb : Bool} (h0 : 0 < l.length) (h : ∀ n, n ∈ l ↔ a ≤ n ∧ n ≤ b) (k1 : lo ∈ l) (k2 : hi ∈ l) (k3 : ∀ x ∈ l, lo ≤ x ∧ x ≤ hi) (k4 : bb = true ↔ ∀ n, lo ≤ n → n ≤ hi → n ∈ l) : lo = a ∧ hi = b ∧ bb = true := by
  have c1 := (h lo).1 k1
  have c2 := (h hi).1 k2
  have c3 := k3 a ((h a).2 (by omega))
  have c4 := k3 b ((h b).2 (by omega))
  exact ⟨by omega, by omega, k4.2 fun n h1 h2 => (h n).2 (by omega)⟩
def colL (O : List (Value × List Int)) (x : Nat) : List Int := O.map fun p => p.2.getD x 0
def difL (O : List (Value × List Int)) (x y : Nat) : List Int := O.map fun p => p.2.getD x 0 - p.2.getD y 0
theorem colL_eq (O : List (Value × List Int)) (x : Nat) : colL O x = (O.map (·.2)).map fun v => v.getD x 0 := by rw [colL, List.map_map]; rfl
theorem difL_eq (O : List (Value × List Int)) (x y : Nat) : difL O x y = (O.map (·.2)).map fun v => v.getD x 0 - v.getD y 0 := by rw [difL, List.map_map]; rfl
theorem isT_bd {t : Tp} (hs : Small t) {v : List Int} (h : isT t v) {x : Nat} (hx : (x : Int) < t.S * t.A) : 60 ≤ v.getD x 0 ∧ v.getD x 0 ≤ 103 ∧ x < v.length := by
  have h1 := hs.bm
  have h2 := hs.bl1
  have h3 := hs.bl2
  obtain ⟨s, a, k1, k2, -, -, e3⟩ := idx_sa hs.ok hx
  obtain ⟨g1, g2, -⟩ := h.2.1.1 s a k1 k2
  rw [e3] at g1 g2
  have := h.1
  omega
theorem snoc_eq {α β : Type} (f : α → β) (d : α) {O : List α} {i : Nat} (h : i < O.length) {L : List β} (hL : L = (O.take i).map f) : L ++ [f (O.getD i d)] = (O.take (i + 1)).map f := by
  rw [take_snoc d h, List.map_append, hL]
  rfl
set_option maxRecDepth 100000 in
set_option maxHeartbeats 4000000 in
theorem all_walk (a0 : Option Addr) (len0 cap0 : Nat) (z0 : List Int) (w : World) (h0 : IsRow .i64 w a0 len0 cap0 z0) :
    Calls Try.prog 5 #[.slice a0 len0 cap0] w fun e w' => e = .returned (.bool true) ∧ Ext [] w w' := by
  have HN := Lib.hid (newLots_any w a0 len0 cap0 z0 h0)
  clear h0
  have E : Ext [] w w := Ext.refl _ _
  refine calls_has 209 Try.func5 rfl Try.ntmps5 (Nat.le_of_ble_eq_true rfl) ?_
  intro fa F
  refine wp_seq_k fun K1 hK1 => ?_
  refine wp_region_lit ?_
  refine F.vl (R_assign rfl (ev_c fa _)) ?_; clear F fa; intro fa F
  refine wpList_nil ?_
  refine hK1 _ _ ?_
  clear hK1
  refine wp_seq_k fun K2 hK2 => ?_
  refine wp_region_lit ?_
  refine F.mv ?_; clear F fa; intro fa F
  refine sq_call F rfl (by decide) rfl (R_callV rfl rfl Try.call27 (mpS (F.at rfl) mp0)) (HN.out) fun e w1 hR => ?_
  obtain ⟨b, rfl, hb, hb2, HL, e1⟩ := hR
  refine ⟨_, rfl, ?_⟩; clear F fa; intro fa F
  replace E := ext_same E (e1)
  clear e1
  have hbB := lots_lt HL
  obtain ⟨B0, hB0⟩ : ∃ B0, B0 = w1.heap.size := ⟨_, rfl⟩
  rw [← hB0] at hbB
  have hwB : w.heap.size ≤ B0 := by rw [hB0]; exact E.size
  refine sq_call F rfl (by decide) rfl (R_callV rfl rfl Try.call40 (mpS (F.at rfl) mp0)) (small_any w _ b _ _ HL (by omega)) fun e w2 hR => ?_
  obtain ⟨t, gv, rv, lv, rfl, hSm, ⟨og, orr, olk⟩, e2⟩ := hR
  refine ⟨_, rfl, ?_⟩; clear F fa; intro fa F
  replace E := E.trans' e2 (fun i hi hl => by simp only [List.mem_cons, List.not_mem_nil, or_false] at hi ⊢; omega)
  rw [← hB0] at og orr olk
  have hB1 : B0 ≤ w2.heap.size := by rw [hB0]; exact e2.size
  clear hB0 e2
  obtain ⟨ga, gc, rfl⟩ := owns_slice og
  obtain ⟨ra, rc, rfl⟩ := owns_slice orr
  obtain ⟨la, lc, rfl⟩ := owns_slice olk
  have HT := Lib.hid (tp_of_owns og orr olk)
  clear og orr olk
  have EO : Ext [] w2 w2 := Ext.refl _ _
  have hokT := hSm.ok
  have hS1 := hokT.S1
  have hS3 := hokT.S3
  have hA1 := hokT.A1
  have hA3 := hokT.A3
  have hT1 := hokT.T1
  have hT3 := hokT.T3
  obtain ⟨hP1, hP2⟩ := ok_prod hokT
  have t8 : t.rd.length ≤ 8 := by have := hSm.rdl; omega
  refine sq_new F rfl (by decide) rfl (R_alloc rfl Try.zeroValue28) ?_; clear F fa; intro fa w3 F hw
  obtain ⟨n3, hn⟩ : ∃ n, n = w2.heap.size := ⟨_, rfl⟩
  rw [← hn] at F
  have s3 : w2.heap.size ≤ n3 := Nat.le_of_eq hn.symm
  have l3_E : w.heap.size ≤ n3 := by rw [hn]; exact E.size
  have l3_EO : w2.heap.size ≤ n3 := by rw [hn]; exact EO.size
  replace E := ext_alloc E hw
  replace EO := ext_alloc EO hw
  have q3 := new_row hw hn
  clear hw hn
  refine sq_to rfl rfl (R_storeRow rfl (F.at rfl) (F.at rfl) (by kernel_rfl) (by first | (simp [Value.oneCell']; done) | (simp [Value.oneCell', grRow, rdRow, lkRow]; done)) q3 rfl) ?_; intro w4 hw
  replace q3 := put_row hw q3 rfl
  replace E := ext_cells E hw (fun h => by first | exact absurd h (by omega) | simp)
  replace EO := ext_cells EO hw (fun h => by first | exact absurd h (by omega) | simp)
  clear hw
  refine wpList_nil ?_
  refine hK2 _ _ ?_
  clear hK2
  refine wp_seq_k fun K3 hK3 => ?_
  refine wp_region_lit ?_
  refine F.vl (R_loadBlk rfl (F.at rfl) Try.underlying28 rfl (by kernel_rfl) q3) ?_; clear F fa; intro fa F
  refine sq_call F rfl (by decide) rfl (R_callV rfl rfl Try.call41 (mpS (F.at rfl) mp0)) (truths_any hSm ga ra la gc rc lc _ (HT.out.ext EO (by simp))) fun e w5 hR => ?_
  obtain ⟨O, M, oa, ma, oc, mc, rfl, hO, hMl, hM, hOl, hMb, HOs, HOr, HMs, HMr, eX⟩ := hR
  refine ⟨_, rfl, ?_⟩; clear F fa; intro fa F
  replace q3 := (eX).keep0 q3
  replace E := ext_same E (eX)
  replace EO := ext_same EO (eX)
  have EA : Ext [] w5 w5 := Ext.refl _ _
  replace hO := Lib.hid hO
  replace hM := Lib.hid hM
  replace hMb := Lib.hid hMb
  replace HOs := Lib.hid HOs
  replace HOr := Lib.hid HOr
  replace HMs := Lib.hid HMs
  replace HMr := Lib.hid HMr
  clear eX
  refine F.mv ?_; clear F fa; intro fa F
  refine F.vl (R_extract rfl (F.at rfl) (get0)) ?_; clear F fa; intro fa F
  refine F.vl (R_extract rfl (F.at rfl) (getS (get0))) ?_; clear F fa; intro fa F
  refine F.as ?_; clear F fa; intro fa F
  refine F.as ?_; clear F fa; intro fa F
  refine wpList_nil ?_
  refine hK3 _ _ ?_
  clear hK3
  refine wp_seq_k fun K4 hK4 => ?_
  by_cases hB : bdB t 0 = true
  · skip
    have hLv := live_of hokT t8 hB
    have hO1 : 0 < O.length := by obtain ⟨v, hv⟩ := (isT_live hokT).2 hB; have := List.length_pos_of_mem ((hO.out v).2 hv); rwa [List.length_map] at this
    refine wp_region_lit ?_
    refine F.vl (R_loadBlk rfl (F.at rfl) Try.underlying28 rfl (by kernel_rfl) q3) ?_; clear F fa; intro fa F
    refine sq_call F rfl (by decide) rfl (R_callV rfl rfl Try.call29 (mpS (F.at rfl) mp0)) (can_ok hokT t8 (HT.out.ext EO (by simp))) fun e w6 hR => ?_
    obtain ⟨rfl, e9⟩ := hR
    refine ⟨_, rfl, ?_⟩; clear F fa; intro fa F
    replace q3 := (e9).keep0 q3
    replace E := ext_same E (e9)
    replace EO := ext_same EO (e9)
    replace EA := ext_same EA (e9)
    clear e9
    rw [hB] at F
    refine F.mv ?_; clear F fa; intro fa F
    refine F.vl (R_extract rfl (F.at rfl) (get0)) ?_; clear F fa; intro fa F
    refine F.vl (R_extract rfl (F.at rfl) (getS (get0))) ?_; clear F fa; intro fa F
    refine F.as ?_; clear F fa; intro fa F
    refine F.as ?_; clear F fa; intro fa F
    refine wpList_nil ?_
    refine hK4 _ _ ?_
    clear hK4
    refine wp_seq_k fun K5 hK5 => ?_
    refine wp_seq_k fun K6 hK6 => ?_
    refine wp_region_lit ?_
    refine F.mv ?_; clear F fa; intro fa F
    refine F.vl (R_neqB (b := false) rfl (F.at rfl) (ev_c fa _) (by decide)) ?_; clear F fa; intro fa F
    refine F.mv ?_; clear F fa; intro fa F
    refine F.mv ?_ (hw := (wantT F rfl rfl (by decide) rfl)); clear F fa; intro fa F
    refine F.mv ?_ (hw := (wantT F rfl rfl (by decide) rfl)); clear F fa; intro fa F
    refine F.vl (R_len rfl rfl (F.at rfl) Try.underlying50) ?_ (hw := (wantT F rfl rfl (by decide) rfl)); clear F fa; intro fa F
    refine F.vl (R_gtrB (b := true) rfl (F.at rfl) (ev_c fa _) (decide_eq_true ((by omega)))) ?_ (hw := (wantT F rfl rfl (by decide) rfl)); clear F fa; intro fa F
    refine F.vl ((R_neqZ rfl (F.at rfl) (F.at rfl) Try.underlying4)) ?_ (hw := (wantT F rfl rfl (by decide) rfl)); clear F fa; intro fa F
    refine F.vl (R_pickF rfl (F.at rfl) (F.at rfl)) ?_; clear F fa; intro fa F
    refine wpList_nil ?_
    refine hK6 _ _ ?_
    clear hK6
    refine cd_F F rfl ?_
    refine wp_skip ?_
    refine hK5 _ _ ?_
    clear hK5
    refine wp_seq_k fun K7 hK7 => ?_
    refine wp_seq_k fun K8 hK8 => ?_
    refine wp_region_lit ?_
    refine F.mv ?_; clear F fa; intro fa F
    refine F.vl (R_len rfl rfl (F.at rfl) Try.underlying50) ?_; clear F fa; intro fa F
    refine F.vl (R_eqlB (b := false) rfl (F.at rfl) (ev_c fa _) (decide_eq_false ((by omega)))) ?_; clear F fa; intro fa F
    refine wpList_nil ?_
    refine hK8 _ _ ?_
    clear hK8
    refine cd_F F rfl ?_
    refine wp_skip ?_
    refine hK7 _ _ ?_
    clear hK7
    refine wp_seq_k fun K9 hK9 => ?_
    refine wp_seq_k fun K10 hK10 => ?_
    refine wp_region_lit ?_
    refine F.vl (R_assign rfl (ev_c fa _)) ?_; clear F fa; intro fa F
    refine wpList_nil ?_
    refine hK10 _ _ ?_
    clear hK10
    refine wp_block ?_
    have F0 := F.sub (.c 3 rfl (.c 4 rfl (.c 5 rfl .n)))
    refine lp_for F0 ((t.S * t.A).toNat) (fun x Lv W => Lv = [(10, .int .i64 ((x : Nat) : Int))] ∧ Ext [] w6 W) ⟨_, ⟨rfl, Ext.refl _ _⟩, F.sub (.c 10 rfl (.c 3 rfl (.c 4 rfl (.c 5 rfl .n))))⟩ ?_
    clear F F0
    rintro x _ fa w7 hi1 ⟨rfl, EL1⟩ F
    have q3 := EL1.keep0 q3
    have E := E.nil EL1
    have EO := EO.nil EL1
    have EA := EA.nil EL1
    refine wp_seq_k fun K11 hK11 => ?_
    refine wp_seq_k fun K12 hK12 => ?_
    refine wp_region_lit ?_
    refine F.mv ?_; clear F fa; intro fa F
    refine F.vl (R_field rfl (F.at rfl) Try.underlying28 rfl (n := 0) (sz := 1) rfl (by kernel_rfl) (by decide)) ?_; clear F fa; intro fa F
    refine F.vl (R_load rfl (F.at rfl) Try.underlying3 rfl ((cells_of_block q3 0).trans (get0))) ?_; clear F fa; intro fa F
    refine F.vl (R_field rfl (F.at rfl) Try.underlying28 rfl (n := 1) (sz := 1) rfl (by kernel_rfl) (by decide)) ?_; clear F fa; intro fa F
    refine F.vl (R_load rfl (F.at rfl) Try.underlying3 rfl ((cells_of_block q3 1).trans (getS (get0)))) ?_; clear F fa; intro fa F
    refine F.vl (R_mul rfl (F.at rfl) (F.at rfl) (by omega) (by omega)) ?_; clear F fa; intro fa F
    refine F.vl (R_lss rfl (F.at rfl) (F.at rfl)) ?_; clear F fa; intro fa F
    refine wpList_nil ?_
    refine hK12 _ _ ?_
    clear hK12
    refine cd_if F rfl (fun hc65 => ?_) (fun hc65 => ?_)
    · skip
      refine wp_skip ?_
      refine hK11 _ _ ?_
      clear hK11
      refine wp_seq_k fun K13 hK13 => ?_
      refine wp_block ?_
      refine wp_seq_k fun K14 hK14 => ?_
      refine wp_region_lit ?_
      refine F.vl (R_assign rfl (ev_c fa _)) ?_; clear F fa; intro fa F
      refine wpList_nil ?_
      refine hK14 _ _ ?_
      clear hK14
      refine wp_block ?_
      have F0 := F.sub (.c 3 rfl (.c 4 rfl (.c 5 rfl (.c 10 rfl .n))))
      refine lp_for F0 ((t.S * t.A).toNat) (fun y Lv W => Lv = [(11, .int .i64 ((y : Nat) : Int))] ∧ Ext [] w7 W) ⟨_, ⟨rfl, Ext.refl _ _⟩, F.sub (.c 11 rfl (.c 3 rfl (.c 4 rfl (.c 5 rfl (.c 10 rfl .n)))))⟩ ?_
      clear F F0
      rintro y _ fa w8 hi2 ⟨rfl, EL2⟩ F
      have q3 := EL2.keep0 q3
      have E := E.nil EL2
      have EO := EO.nil EL2
      have EA := EA.nil EL2
      have EL1 := EL1.nil EL2
      refine wp_seq_k fun K15 hK15 => ?_
      refine wp_seq_k fun K16 hK16 => ?_
      refine wp_region_lit ?_
      refine F.mv ?_; clear F fa; intro fa F
      refine F.vl (R_field rfl (F.at rfl) Try.underlying28 rfl (n := 0) (sz := 1) rfl (by kernel_rfl) (by decide)) ?_; clear F fa; intro fa F
      refine F.vl (R_load rfl (F.at rfl) Try.underlying3 rfl ((cells_of_block q3 0).trans (get0))) ?_; clear F fa; intro fa F
      refine F.vl (R_field rfl (F.at rfl) Try.underlying28 rfl (n := 1) (sz := 1) rfl (by kernel_rfl) (by decide)) ?_; clear F fa; intro fa F
      refine F.vl (R_load rfl (F.at rfl) Try.underlying3 rfl ((cells_of_block q3 1).trans (getS (get0)))) ?_; clear F fa; intro fa F
      refine F.vl (R_mul rfl (F.at rfl) (F.at rfl) (by omega) (by omega)) ?_; clear F fa; intro fa F
      refine F.vl (R_lss rfl (F.at rfl) (F.at rfl)) ?_; clear F fa; intro fa F
      refine wpList_nil ?_
      refine hK16 _ _ ?_
      clear hK16
      refine cd_if F rfl (fun hc74 => ?_) (fun hc74 => ?_)
      · skip
        refine wp_skip ?_
        refine hK15 _ _ ?_
        clear hK15
        refine wp_seq_k fun K17 hK17 => ?_
        refine wp_block ?_
        refine wp_seq_k fun K18 hK18 => ?_
        refine wp_region_lit ?_
        refine F.vl (R_assign rfl (ev_c fa _)) ?_; clear F fa; intro fa F
        refine F.vl (R_assign rfl (ev_c fa _)) ?_; clear F fa; intro fa F
        refine wpList_nil ?_
        have hx : (x : Int) < t.S * t.A := by omega
        have hy : (y : Int) < t.S * t.A := by omega
        obtain ⟨Bx, hBx⟩ : ∃ B, B = w8.heap.size := ⟨_, rfl⟩
        have z1 := E.size
        have z2 := EO.size
        have z3 := EA.size
        have z4 := EL1.size
        have z5 := EL2.size
        rw [← hBx] at z1 z2 z3 z4 z5
        have EW : Ext [] w8 w8 := Ext.refl _ _
        have EAc_ := EA
        have fam : FamT w8 Bx [(.slice none 0 0, []), (.slice none 0 0, [])] := fam_nils (n := 2)
        refine hK18 _ _ ?_
        clear hK18
        refine wp_seq_k fun K19 hK19 => ?_
        refine wp_seq_k fun K20 hK20 => ?_
        refine wp_region_lit ?_
        refine F.vl (R_assign rfl (ev_c fa _)) ?_; clear F fa; intro fa F
        refine wpList_nil ?_
        refine hK20 _ _ ?_
        clear hK20
        refine wp_block ?_
        have F0 := F.sub (.c 3 rfl (.c 4 rfl (.c 5 rfl (.c 10 rfl (.c 11 rfl .n)))))
        refine lp_for F0 (O.length) (fun j Lv W => ∃ va : Option Addr, ∃ vc : Nat, ∃ vb : Option Addr, ∃ vd : Nat, ∃ Lo La : List Int, Lv = [(12, .slice va Lo.length vc), (13, .slice vb La.length vd), (14, .int .i64 ((j : Nat) : Int))] ∧ Ext [] w W ∧ Ext [] w2 W ∧ Ext [] w5 W ∧ Ext [] w6 W ∧ Ext [] w7 W ∧ Ext [] w8 W ∧ W.heap[n3]? = some (.cells #[.int .i64 t.S, .int .i64 t.A, .int .i64 t.T, .int .i64 t.bl, .int .i64 t.bm, .int .i64 t.pl, .int .i64 t.pm, .int .i64 t.sl, .slice ga t.gr.length gc, .slice ra t.rd.length rc, .slice la t.lk.length lc] 28 (0, 0)) ∧ FamT W Bx [(.slice va Lo.length vc, Lo), (.slice vb La.length vd, La)] ∧ Lo = colL (O.take j) x ∧ La = difL (O.take j) x y) ⟨_, ⟨none, 0, none, 0, [], [], rfl, E, EO, EA, EL1, EL2, EW, q3, fam, rfl, rfl⟩, F.sub (.c 12 rfl (.c 13 rfl (.c 14 rfl (.c 3 rfl (.c 4 rfl (.c 5 rfl (.c 10 rfl (.c 11 rfl .n))))))))⟩ ?_
        clear F F0
        clear E EO EA EL1 EL2 EW q3
        clear fam
        rintro j _ fa w9 hi3 ⟨va, vc, vb, vd, Lo, La, rfl, E, EO, EA, EL1, EL2, EW, q3, fam, hLo, hLa⟩ F
        refine wp_seq_k fun K21 hK21 => ?_
        refine wp_seq_k fun K22 hK22 => ?_
        refine wp_region_lit ?_
        refine F.mv ?_; clear F fa; intro fa F
        refine F.mv ?_; clear F fa; intro fa F
        refine F.vl (R_len rfl rfl (F.at rfl) Try.underlying50) ?_; clear F fa; intro fa F
        refine F.vl (R_lss rfl (F.at rfl) (F.at rfl)) ?_; clear F fa; intro fa F
        refine wpList_nil ?_
        refine hK22 _ _ ?_
        clear hK22
        refine cd_if F rfl (fun hc80 => ?_) (fun hc80 => ?_)
        · skip
          refine wp_skip ?_
          refine hK21 _ _ ?_
          clear hK21
          refine wp_seq_k fun K23 hK23 => ?_
          refine wp_block ?_
          have hmO : O.getD j dft ∈ O := getD_mem _ (by omega)
          obtain ⟨ra1, rc1, hr1, hr2⟩ := HOr.out _ hmO
          have HI := Lib.hid (slAt_of_rows hr2 0)
          have hvx := isT_bd hSm ((hO.out _).1 (List.mem_map_of_mem hmO)) hx
          have hvy := isT_bd hSm ((hO.out _).1 (List.mem_map_of_mem hmO)) hy
          have hLol : Lo.length = j := by rw [hLo, colL, List.length_map, List.length_take]; omega
          have hLal : La.length = j := by rw [hLa, difL, List.length_map, List.length_take]; omega
          suffices hcut : ∀ (va92 : Option Addr) (vc92 : Nat) (va110 : Option Addr) (vc110 : Nat) (Lo2 La2 : List Int) (fa : Act) (w22 : World), Has 209 fa [(3, .pointer (some ⟨n3, 0, none⟩)), (4, .slice oa O.length oc), (5, .slice ma M.length mc), (10, .int .i64 ((x : Nat) : Int)), (11, .int .i64 ((y : Nat) : Int)), (12, .slice va92 Lo2.length vc92), (13, .slice va110 La2.length vc110), (14, .int .i64 ((j : Nat) : Int))] → w22.heap[n3]? = some (.cells #[.int .i64 t.S, .int .i64 t.A, .int .i64 t.T, .int .i64 t.bl, .int .i64 t.bm, .int .i64 t.pl, .int .i64 t.pm, .int .i64 t.sl, .slice ga t.gr.length gc, .slice ra t.rd.length rc, .slice la t.lk.length lc] 28 (0, 0)) → Ext [] w w22 → Ext [] w2 w22 → Ext [] w5 w22 → Ext [] w6 w22 → Ext [] w7 w22 → Ext [] w8 w22 → FamT w22 Bx [(.slice va92 Lo2.length vc92, Lo2), (.slice va110 La2.length vc110, La2)] → Lo2 = colL (O.take (j + 1)) x → La2 = difL (O.take (j + 1)) x y → K23 fa w22 by
            refine region_x (Ext [] w8) none follows fun w10 hh eh => ?_
            have q3_ := q3
            replace q3 := keep_same hh q3
            have E_ := E
            have zEw10 := E.size
            replace E := ext_same E eh
            have EO_ := EO
            have zEOw10 := EO.size
            replace EO := ext_same EO eh
            have EA_ := EA
            have zEAw10 := EA.size
            replace EA := ext_same EA eh
            have EL1_ := EL1
            have zEL1w10 := EL1.size
            replace EL1 := ext_same EL1 eh
            have EL2_ := EL2
            have zEL2w10 := EL2.size
            replace EL2 := ext_same EL2 eh
            have EW_ := EW
            have zEWw10 := EW.size
            replace EW := ext_same EW eh
            replace fam := fam_lift fam fun _ _ _ h => owns_same hh h
            have eT := EW
            clear hh eh
            refine F.x (i := 0) rfl (fun w' => R_move rfl (F.at rfl)) (fun _ => eT) ?_; clear F fa; intro fa F
            refine F.x (i := 1) rfl (fun w' => R_move rfl (F.at rfl)) (fun _ => eT) ?_; clear F fa; intro fa F
            refine F.x (i := 2) rfl (fun w' => R_move rfl (F.at rfl)) (fun _ => eT) ?_; clear F fa; intro fa F
            obtain ⟨xb24, xo24, xa24, xr24⟩ := HOs.out j (by omega)
            refine F.x (i := 3) rfl (fun w' => R_ixSlice (sz := 1) rfl ((F.at rfl).trans (xa24 _ _)) (F.at rfl) Try.underlying50 (by kernel_rfl) (by omega) (by omega)) (fun _ => eT) ?_; clear F fa; intro fa F
            refine F.xr (i := 4) rfl (fun w' hS => R_load rfl (F.at rfl) Try.underlying29 rfl (xr24 _ (EAc_.nil hS) 0 _ rfl)) (fun _ => eT) ?_; clear F fa; intro fa F
            replace F := F.re (k := 87) rfl hr1
            refine F.x (i := 5) rfl (fun w' => R_move rfl (F.at rfl)) (fun _ => eT) ?_; clear F fa; intro fa F
            obtain ⟨xb25, xo25, xa25, xr25⟩ := HI.out x (by omega)
            refine F.x (i := 6) rfl (fun w' => R_ixSlice (sz := 1) rfl ((F.at rfl).trans (xa25 _ _)) (F.at rfl) Try.underlying29 (by kernel_rfl) (by omega) (by omega)) (fun _ => eT) ?_; clear F fa; intro fa F
            refine F.xr (i := 7) rfl (fun w' hS => R_load rfl (F.at rfl) Try.underlying3 rfl (xr25 _ (EAc_.nil hS) 0 _ rfl)) (fun _ => eT) ?_; clear F fa; intro fa F
            refine F.x (i := 10) rfl (fun w' => R_move rfl (F.at rfl)) (fun _ => eT) ?_; clear F fa; intro fa F
            refine F.x (i := 11) rfl (fun w' => R_move rfl (F.at rfl)) (fun _ => eT) ?_; clear F fa; intro fa F
            refine F.x (i := 12) rfl (fun w' => R_move rfl (F.at rfl)) (fun _ => eT) ?_; clear F fa; intro fa F
            obtain ⟨xb26, xo26, xa26, xr26⟩ := HOs.out j (by omega)
            refine F.x (i := 13) rfl (fun w' => R_ixSlice (sz := 1) rfl ((F.at rfl).trans (xa26 _ _)) (F.at rfl) Try.underlying50 (by kernel_rfl) (by omega) (by omega)) (fun _ => eT) ?_; clear F fa; intro fa F
            refine F.xr (i := 14) rfl (fun w' hS => R_load rfl (F.at rfl) Try.underlying29 rfl (xr26 _ (EAc_.nil hS) 0 _ rfl)) (fun _ => eT) ?_; clear F fa; intro fa F
            replace F := F.re (k := 97) rfl hr1
            refine F.x (i := 15) rfl (fun w' => R_move rfl (F.at rfl)) (fun _ => eT) ?_; clear F fa; intro fa F
            obtain ⟨xb27, xo27, xa27, xr27⟩ := HI.out x (by omega)
            refine F.x (i := 16) rfl (fun w' => R_ixSlice (sz := 1) rfl ((F.at rfl).trans (xa27 _ _)) (F.at rfl) Try.underlying29 (by kernel_rfl) (by omega) (by omega)) (fun _ => eT) ?_; clear F fa; intro fa F
            refine F.xr (i := 17) rfl (fun w' hS => R_load rfl (F.at rfl) Try.underlying3 rfl (xr27 _ (EAc_.nil hS) 0 _ rfl)) (fun _ => eT) ?_; clear F fa; intro fa F
            refine F.x (i := 18) rfl (fun w' => R_move rfl (F.at rfl)) (fun _ => eT) ?_; clear F fa; intro fa F
            refine F.x (i := 19) rfl (fun w' => R_move rfl (F.at rfl)) (fun _ => eT) ?_; clear F fa; intro fa F
            obtain ⟨xb28, xo28, xa28, xr28⟩ := HOs.out j (by omega)
            refine F.x (i := 20) rfl (fun w' => R_ixSlice (sz := 1) rfl ((F.at rfl).trans (xa28 _ _)) (F.at rfl) Try.underlying50 (by kernel_rfl) (by omega) (by omega)) (fun _ => eT) ?_; clear F fa; intro fa F
            refine F.xr (i := 21) rfl (fun w' hS => R_load rfl (F.at rfl) Try.underlying29 rfl (xr28 _ (EAc_.nil hS) 0 _ rfl)) (fun _ => eT) ?_; clear F fa; intro fa F
            replace F := F.re (k := 104) rfl hr1
            refine F.x (i := 22) rfl (fun w' => R_move rfl (F.at rfl)) (fun _ => eT) ?_; clear F fa; intro fa F
            obtain ⟨xb29, xo29, xa29, xr29⟩ := HI.out y (by omega)
            refine F.x (i := 23) rfl (fun w' => R_ixSlice (sz := 1) rfl ((F.at rfl).trans (xa29 _ _)) (F.at rfl) Try.underlying29 (by kernel_rfl) (by omega) (by omega)) (fun _ => eT) ?_; clear F fa; intro fa F
            refine F.xr (i := 24) rfl (fun w' hS => R_load rfl (F.at rfl) Try.underlying3 rfl (xr29 _ (EAc_.nil hS) 0 _ rfl)) (fun _ => eT) ?_; clear F fa; intro fa F
            refine F.x (i := 25) rfl (fun w' => R_sub rfl (F.at rfl) (F.at rfl) (by omega) (by omega)) (fun _ => eT) ?_; clear F fa; intro fa F
            refine ax_pair (i := 8) (j := 26) (by kernel_rfl) ?_ ?_
            · skip
              refine (op_new F rfl rfl (by decide) rfl (R_buildSliceV rfl (prS (F.at rfl) pr0) Try.underlying29 (size := 1) (by kernel_rfl) (by decide) (by decide) Try.zeroValue3 (cells := #[.int .i64 ((O.getD j dft).2.getD x 0)]) (by kernel_rfl)) ?_); clear F fa; intro fa w11 F hw
              obtain ⟨n91, hn⟩ : ∃ n, n = w10.heap.size := ⟨_, rfl⟩
              rw [← hn] at F
              have s91 : w10.heap.size ≤ n91 := Nat.le_of_eq hn.symm
              have l91_E : w.heap.size ≤ n91 := by rw [hn]; exact E.size
              have l91_EO : w2.heap.size ≤ n91 := by rw [hn]; exact EO.size
              have l91_EA : w5.heap.size ≤ n91 := by rw [hn]; exact EA.size
              have l91_EL1 : w6.heap.size ≤ n91 := by rw [hn]; exact EL1.size
              have l91_EL2 : w7.heap.size ≤ n91 := by rw [hn]; exact EL2.size
              have l91_EW : w8.heap.size ≤ n91 := by rw [hn]; exact EW.size
              have lT91 : w8.heap.size ≤ n91 := by rw [hn]; exact eT.size
              have m91_3 : n3 < n91 := by rw [hn]; exact blk_lt q3
              have o91_fam := Lib.hid (fam_ne_new fam hn)
              replace fam := fam_lift fam fun _ _ _ h => owns_alloc hw h
              replace q3 := keep_alloc hw q3
              replace E := ext_alloc E hw
              replace EO := ext_alloc EO hw
              replace EA := ext_alloc EA hw
              replace EL1 := ext_alloc EL1 hw
              replace EL2 := ext_alloc EL2 hw
              replace EW := ext_alloc EW hw
              replace eT := ext_alloc eT hw
              have q91 := new_block hw hn
              clear hw hn
              refine ⟨fun _ => eT, ?_⟩
              refine ax_pair (i := 9) (j := 26) (by kernel_rfl) ?_ ?_
              · skip
                have ow : w11.ownsRow Bx 3 1 (.slice va Lo.length vc) Lo.length (ivs Lo) := fam.1 (.slice va Lo.length vc, Lo) (by simp)
                have o91_ow := Lib.hid (o91_fam.out (.slice va Lo.length vc, Lo) (by simp))
                have hTs := eT.size
                refine (op_some F rfl rfl (by decide) rfl (append_runB rfl (Bx) (e := 3) (size := 1) (bytes := 8) Try.underlying29 (by kernel_rfl) (by decide) (F.at rfl) ow (F.at rfl) q91 rfl (by simp [Value.oneCell']) (by omega) (by omega) (by omega)) ?_); clear F fa; rintro fa v' w12 F ⟨hown', ⟨hg, hblk⟩⟩
                obtain ⟨va92, vc92, rfl⟩ := owns_slice hown'
                obtain ⟨Lo2, hLo2e⟩ : ∃ L, L = Lo ++ [(O.getD j dft).2.getD x 0] := ⟨_, rfl⟩
                have hLo2l : Lo.length + 1 = Lo2.length := by rw [hLo2e, List.length_append]; rfl
                rw [ivs_snoc1, ← hLo2e, hLo2l] at hown'
                rw [hLo2l] at F hblk
                replace q3 := keep_type ow hg q3 (by decide)
                replace fam := fam_put fam hown' hg hblk
                replace E := ext_appendX E ow hg (by omega)
                replace EO := ext_appendX EO ow hg (by omega)
                replace EA := ext_appendX EA ow hg (by omega)
                replace EL1 := ext_appendX EL1 ow hg (by omega)
                replace EL2 := ext_appendX EL2 ow hg (by omega)
                replace EW := ext_appendX EW ow hg (by omega)
                replace eT := ext_appendX eT ow hg (by omega)
                replace ow := hown'
                clear hg
                refine ⟨fun _ => eT, ?_⟩
                clear ow hblk
                have hLo2 : Lo2 = colL (O.take (j + 1)) x := hLo2e.trans (snoc_eq (fun p : Value × List Int => p.2.getD x 0) dft (by omega) hLo)
                refine ax_only (i := 26) (by kernel_rfl) (op_new F rfl rfl (by decide) rfl (R_buildSliceV rfl (prS (F.at rfl) pr0) Try.underlying29 (size := 1) (by kernel_rfl) (by decide) (by decide) Try.zeroValue3 (cells := #[.int .i64 (((O.getD j dft).2.getD x 0) - ((O.getD j dft).2.getD y 0))]) (by kernel_rfl)) ?_); clear F fa; intro fa w13 F hw
                obtain ⟨n109, hn⟩ : ∃ n, n = w12.heap.size := ⟨_, rfl⟩
                rw [← hn] at F
                have s109 : w12.heap.size ≤ n109 := Nat.le_of_eq hn.symm
                have l109_E : w.heap.size ≤ n109 := by rw [hn]; exact E.size
                have l109_EO : w2.heap.size ≤ n109 := by rw [hn]; exact EO.size
                have l109_EA : w5.heap.size ≤ n109 := by rw [hn]; exact EA.size
                have l109_EL1 : w6.heap.size ≤ n109 := by rw [hn]; exact EL1.size
                have l109_EL2 : w7.heap.size ≤ n109 := by rw [hn]; exact EL2.size
                have l109_EW : w8.heap.size ≤ n109 := by rw [hn]; exact EW.size
                have lT109 : w8.heap.size ≤ n109 := by rw [hn]; exact eT.size
                have m109_3 : n3 < n109 := by rw [hn]; exact blk_lt q3
                have o109_fam := Lib.hid (fam_ne_new fam hn)
                replace fam := fam_lift fam fun _ _ _ h => owns_alloc hw h
                replace q3 := keep_alloc hw q3
                replace E := ext_alloc E hw
                replace EO := ext_alloc EO hw
                replace EA := ext_alloc EA hw
                replace EL1 := ext_alloc EL1 hw
                replace EL2 := ext_alloc EL2 hw
                replace EW := ext_alloc EW hw
                replace eT := ext_alloc eT hw
                have q109 := new_block hw hn
                clear hw hn
                refine ⟨fun _ => eT, ?_⟩
                have ow : w13.ownsRow Bx 3 1 (.slice vb La.length vd) La.length (ivs La) := fam.1 (.slice vb La.length vd, La) (by simp)
                replace fam := fam_perm fam (List.Perm.swap _ _ _)
                have o109_ow := Lib.hid (o109_fam.out (.slice vb La.length vd, La) (by simp))
                have hTs := eT.size
                refine ax_only (i := 27) (by kernel_rfl) (op_some F rfl rfl (by decide) rfl (append_runB rfl (Bx) (e := 3) (size := 1) (bytes := 8) Try.underlying29 (by kernel_rfl) (by decide) (F.at rfl) ow (F.at rfl) q109 rfl (by simp [Value.oneCell']) (by omega) (by omega) (by omega)) ?_); clear F fa; rintro fa v' w14 F ⟨hown', ⟨hg, hblk⟩⟩
                obtain ⟨va110, vc110, rfl⟩ := owns_slice hown'
                obtain ⟨La2, hLa2e⟩ : ∃ L, L = La ++ [(O.getD j dft).2.getD x 0 - (O.getD j dft).2.getD y 0] := ⟨_, rfl⟩
                have hLa2l : La.length + 1 = La2.length := by rw [hLa2e, List.length_append]; rfl
                rw [ivs_snoc1, ← hLa2e, hLa2l] at hown'
                rw [hLa2l] at F hblk
                replace q3 := keep_type ow hg q3 (by decide)
                replace fam := fam_put fam hown' hg hblk
                replace E := ext_appendX E ow hg (by omega)
                replace EO := ext_appendX EO ow hg (by omega)
                replace EA := ext_appendX EA ow hg (by omega)
                replace EL1 := ext_appendX EL1 ow hg (by omega)
                replace EL2 := ext_appendX EL2 ow hg (by omega)
                replace EW := ext_appendX EW ow hg (by omega)
                replace eT := ext_appendX eT ow hg (by omega)
                replace ow := hown'
                clear hg
                refine ⟨fun _ => eT, ?_⟩
                clear ow hblk
                replace fam := fam_perm fam (List.Perm.swap _ _ _)
                have hLa2 : La2 = difL (O.take (j + 1)) x y := hLa2e.trans (snoc_eq (fun p : Value × List Int => p.2.getD x 0 - p.2.getD y 0) dft (by omega) hLa)
                refine F.x (i := 28) rfl (fun w' => R_assign rfl (F.at rfl)) (fun _ => eT) ?_; clear F fa; intro fa F
                refine F.x (i := 29) rfl (fun w' => R_assign rfl (F.at rfl)) (fun _ => eT) ?_; clear F fa; intro fa F
                refine ax_done (by kernel_rfl) ?_ _
                exact hcut _ _ _ _ _ _ _ _ (F.sub (.c 3 rfl (.c 4 rfl (.c 5 rfl (.c 10 rfl (.c 11 rfl (.c 12 rfl (.c 13 rfl (.c 14 rfl .n))))))))) q3 E EO EA EL1 EL2 EW fam hLo2 hLa2
              · skip
                refine (op_new F rfl rfl (by decide) rfl (R_buildSliceV rfl (prS (F.at rfl) pr0) Try.underlying29 (size := 1) (by kernel_rfl) (by decide) (by decide) Try.zeroValue3 (cells := #[.int .i64 (((O.getD j dft).2.getD x 0) - ((O.getD j dft).2.getD y 0))]) (by kernel_rfl)) ?_); clear F fa; intro fa w15 F hw
                obtain ⟨n109, hn⟩ : ∃ n, n = w11.heap.size := ⟨_, rfl⟩
                rw [← hn] at F
                have s109 : w11.heap.size ≤ n109 := Nat.le_of_eq hn.symm
                have l109_E : w.heap.size ≤ n109 := by rw [hn]; exact E.size
                have l109_EO : w2.heap.size ≤ n109 := by rw [hn]; exact EO.size
                have l109_EA : w5.heap.size ≤ n109 := by rw [hn]; exact EA.size
                have l109_EL1 : w6.heap.size ≤ n109 := by rw [hn]; exact EL1.size
                have l109_EL2 : w7.heap.size ≤ n109 := by rw [hn]; exact EL2.size
                have l109_EW : w8.heap.size ≤ n109 := by rw [hn]; exact EW.size
                have lT109 : w8.heap.size ≤ n109 := by rw [hn]; exact eT.size
                have m109_3 : n3 < n109 := by rw [hn]; exact blk_lt q3
                have m109_91 : n91 < n109 := by rw [hn]; exact blk_lt q91
                have o109_fam := Lib.hid (fam_ne_new fam hn)
                replace fam := fam_lift fam fun _ _ _ h => owns_alloc hw h
                replace q3 := keep_alloc hw q3
                replace q91 := keep_alloc hw q91
                replace E := ext_alloc E hw
                replace EO := ext_alloc EO hw
                replace EA := ext_alloc EA hw
                replace EL1 := ext_alloc EL1 hw
                replace EL2 := ext_alloc EL2 hw
                replace EW := ext_alloc EW hw
                replace eT := ext_alloc eT hw
                have q109 := new_block hw hn
                clear hw hn
                refine ⟨fun _ => eT, ?_⟩
                have ow : w15.ownsRow Bx 3 1 (.slice va Lo.length vc) Lo.length (ivs Lo) := fam.1 (.slice va Lo.length vc, Lo) (by simp)
                have o109_ow := Lib.hid (o109_fam.out (.slice va Lo.length vc, Lo) (by simp))
                have o91_ow := Lib.hid (o91_fam.out (.slice va Lo.length vc, Lo) (by simp))
                have hTs := eT.size
                refine ax_only (i := 9) (by kernel_rfl) (op_some F rfl rfl (by decide) rfl (append_runB rfl (Bx) (e := 3) (size := 1) (bytes := 8) Try.underlying29 (by kernel_rfl) (by decide) (F.at rfl) ow (F.at rfl) q91 rfl (by simp [Value.oneCell']) (by omega) (by omega) (by omega)) ?_); clear F fa; rintro fa v' w16 F ⟨hown', ⟨hg, hblk⟩⟩
                obtain ⟨va92, vc92, rfl⟩ := owns_slice hown'
                obtain ⟨Lo2, hLo2e⟩ : ∃ L, L = Lo ++ [(O.getD j dft).2.getD x 0] := ⟨_, rfl⟩
                have hLo2l : Lo.length + 1 = Lo2.length := by rw [hLo2e, List.length_append]; rfl
                rw [ivs_snoc1, ← hLo2e, hLo2l] at hown'
                rw [hLo2l] at F hblk
                replace q3 := keep_type ow hg q3 (by decide)
                replace q109 := (hg.block n109 (blk_lt q109) o109_ow.out).trans q109
                replace fam := fam_put fam hown' hg hblk
                replace E := ext_appendX E ow hg (by omega)
                replace EO := ext_appendX EO ow hg (by omega)
                replace EA := ext_appendX EA ow hg (by omega)
                replace EL1 := ext_appendX EL1 ow hg (by omega)
                replace EL2 := ext_appendX EL2 ow hg (by omega)
                replace EW := ext_appendX EW ow hg (by omega)
                replace eT := ext_appendX eT ow hg (by omega)
                replace ow := hown'
                clear hg
                refine ⟨fun _ => eT, ?_⟩
                clear ow hblk
                have hLo2 : Lo2 = colL (O.take (j + 1)) x := hLo2e.trans (snoc_eq (fun p : Value × List Int => p.2.getD x 0) dft (by omega) hLo)
                have ow : w16.ownsRow Bx 3 1 (.slice vb La.length vd) La.length (ivs La) := fam.1 (.slice vb La.length vd, La) (by simp)
                replace fam := fam_perm fam (List.Perm.swap _ _ _)
                have hTs := eT.size
                refine ax_only (i := 27) (by kernel_rfl) (op_some F rfl rfl (by decide) rfl (append_runB rfl (Bx) (e := 3) (size := 1) (bytes := 8) Try.underlying29 (by kernel_rfl) (by decide) (F.at rfl) ow (F.at rfl) q109 rfl (by simp [Value.oneCell']) (by omega) (by omega) (by omega)) ?_); clear F fa; rintro fa v' w17 F ⟨hown', ⟨hg, hblk⟩⟩
                obtain ⟨va110, vc110, rfl⟩ := owns_slice hown'
                obtain ⟨La2, hLa2e⟩ : ∃ L, L = La ++ [(O.getD j dft).2.getD x 0 - (O.getD j dft).2.getD y 0] := ⟨_, rfl⟩
                have hLa2l : La.length + 1 = La2.length := by rw [hLa2e, List.length_append]; rfl
                rw [ivs_snoc1, ← hLa2e, hLa2l] at hown'
                rw [hLa2l] at F hblk
                replace q3 := keep_type ow hg q3 (by decide)
                replace fam := fam_put fam hown' hg hblk
                replace E := ext_appendX E ow hg (by omega)
                replace EO := ext_appendX EO ow hg (by omega)
                replace EA := ext_appendX EA ow hg (by omega)
                replace EL1 := ext_appendX EL1 ow hg (by omega)
                replace EL2 := ext_appendX EL2 ow hg (by omega)
                replace EW := ext_appendX EW ow hg (by omega)
                replace eT := ext_appendX eT ow hg (by omega)
                replace ow := hown'
                clear hg
                refine ⟨fun _ => eT, ?_⟩
                clear ow hblk
                replace fam := fam_perm fam (List.Perm.swap _ _ _)
                have hLa2 : La2 = difL (O.take (j + 1)) x y := hLa2e.trans (snoc_eq (fun p : Value × List Int => p.2.getD x 0 - p.2.getD y 0) dft (by omega) hLa)
                refine F.x (i := 28) rfl (fun w' => R_assign rfl (F.at rfl)) (fun _ => eT) ?_; clear F fa; intro fa F
                refine F.x (i := 29) rfl (fun w' => R_assign rfl (F.at rfl)) (fun _ => eT) ?_; clear F fa; intro fa F
                refine ax_done (by kernel_rfl) ?_ _
                exact hcut _ _ _ _ _ _ _ _ (F.sub (.c 3 rfl (.c 4 rfl (.c 5 rfl (.c 10 rfl (.c 11 rfl (.c 12 rfl (.c 13 rfl (.c 14 rfl .n))))))))) q3 E EO EA EL1 EL2 EW fam hLo2 hLa2
            · skip
              refine (op_new F rfl rfl (by decide) rfl (R_buildSliceV rfl (prS (F.at rfl) pr0) Try.underlying29 (size := 1) (by kernel_rfl) (by decide) (by decide) Try.zeroValue3 (cells := #[.int .i64 (((O.getD j dft).2.getD x 0) - ((O.getD j dft).2.getD y 0))]) (by kernel_rfl)) ?_); clear F fa; intro fa w18 F hw
              obtain ⟨n109, hn⟩ : ∃ n, n = w10.heap.size := ⟨_, rfl⟩
              rw [← hn] at F
              have s109 : w10.heap.size ≤ n109 := Nat.le_of_eq hn.symm
              have l109_E : w.heap.size ≤ n109 := by rw [hn]; exact E.size
              have l109_EO : w2.heap.size ≤ n109 := by rw [hn]; exact EO.size
              have l109_EA : w5.heap.size ≤ n109 := by rw [hn]; exact EA.size
              have l109_EL1 : w6.heap.size ≤ n109 := by rw [hn]; exact EL1.size
              have l109_EL2 : w7.heap.size ≤ n109 := by rw [hn]; exact EL2.size
              have l109_EW : w8.heap.size ≤ n109 := by rw [hn]; exact EW.size
              have lT109 : w8.heap.size ≤ n109 := by rw [hn]; exact eT.size
              have m109_3 : n3 < n109 := by rw [hn]; exact blk_lt q3
              have o109_fam := Lib.hid (fam_ne_new fam hn)
              replace fam := fam_lift fam fun _ _ _ h => owns_alloc hw h
              replace q3 := keep_alloc hw q3
              replace E := ext_alloc E hw
              replace EO := ext_alloc EO hw
              replace EA := ext_alloc EA hw
              replace EL1 := ext_alloc EL1 hw
              replace EL2 := ext_alloc EL2 hw
              replace EW := ext_alloc EW hw
              replace eT := ext_alloc eT hw
              have q109 := new_block hw hn
              clear hw hn
              refine ⟨fun _ => eT, ?_⟩
              refine ax_only (i := 8) (by kernel_rfl) (op_new F rfl rfl (by decide) rfl (R_buildSliceV rfl (prS (F.at rfl) pr0) Try.underlying29 (size := 1) (by kernel_rfl) (by decide) (by decide) Try.zeroValue3 (cells := #[.int .i64 ((O.getD j dft).2.getD x 0)]) (by kernel_rfl)) ?_); clear F fa; intro fa w19 F hw
              obtain ⟨n91, hn⟩ : ∃ n, n = w18.heap.size := ⟨_, rfl⟩
              rw [← hn] at F
              have s91 : w18.heap.size ≤ n91 := Nat.le_of_eq hn.symm
              have l91_E : w.heap.size ≤ n91 := by rw [hn]; exact E.size
              have l91_EO : w2.heap.size ≤ n91 := by rw [hn]; exact EO.size
              have l91_EA : w5.heap.size ≤ n91 := by rw [hn]; exact EA.size
              have l91_EL1 : w6.heap.size ≤ n91 := by rw [hn]; exact EL1.size
              have l91_EL2 : w7.heap.size ≤ n91 := by rw [hn]; exact EL2.size
              have l91_EW : w8.heap.size ≤ n91 := by rw [hn]; exact EW.size
              have lT91 : w8.heap.size ≤ n91 := by rw [hn]; exact eT.size
              have m91_3 : n3 < n91 := by rw [hn]; exact blk_lt q3
              have m91_109 : n109 < n91 := by rw [hn]; exact blk_lt q109
              have o91_fam := Lib.hid (fam_ne_new fam hn)
              replace fam := fam_lift fam fun _ _ _ h => owns_alloc hw h
              replace q3 := keep_alloc hw q3
              replace q109 := keep_alloc hw q109
              replace E := ext_alloc E hw
              replace EO := ext_alloc EO hw
              replace EA := ext_alloc EA hw
              replace EL1 := ext_alloc EL1 hw
              replace EL2 := ext_alloc EL2 hw
              replace EW := ext_alloc EW hw
              replace eT := ext_alloc eT hw
              have q91 := new_block hw hn
              clear hw hn
              refine ⟨fun _ => eT, ?_⟩
              have ow : w19.ownsRow Bx 3 1 (.slice va Lo.length vc) Lo.length (ivs Lo) := fam.1 (.slice va Lo.length vc, Lo) (by simp)
              have o109_ow := Lib.hid (o109_fam.out (.slice va Lo.length vc, Lo) (by simp))
              have o91_ow := Lib.hid (o91_fam.out (.slice va Lo.length vc, Lo) (by simp))
              have hTs := eT.size
              refine ax_only (i := 9) (by kernel_rfl) (op_some F rfl rfl (by decide) rfl (append_runB rfl (Bx) (e := 3) (size := 1) (bytes := 8) Try.underlying29 (by kernel_rfl) (by decide) (F.at rfl) ow (F.at rfl) q91 rfl (by simp [Value.oneCell']) (by omega) (by omega) (by omega)) ?_); clear F fa; rintro fa v' w20 F ⟨hown', ⟨hg, hblk⟩⟩
              obtain ⟨va92, vc92, rfl⟩ := owns_slice hown'
              obtain ⟨Lo2, hLo2e⟩ : ∃ L, L = Lo ++ [(O.getD j dft).2.getD x 0] := ⟨_, rfl⟩
              have hLo2l : Lo.length + 1 = Lo2.length := by rw [hLo2e, List.length_append]; rfl
              rw [ivs_snoc1, ← hLo2e, hLo2l] at hown'
              rw [hLo2l] at F hblk
              replace q3 := keep_type ow hg q3 (by decide)
              replace q109 := (hg.block n109 (blk_lt q109) o109_ow.out).trans q109
              replace fam := fam_put fam hown' hg hblk
              replace E := ext_appendX E ow hg (by omega)
              replace EO := ext_appendX EO ow hg (by omega)
              replace EA := ext_appendX EA ow hg (by omega)
              replace EL1 := ext_appendX EL1 ow hg (by omega)
              replace EL2 := ext_appendX EL2 ow hg (by omega)
              replace EW := ext_appendX EW ow hg (by omega)
              replace eT := ext_appendX eT ow hg (by omega)
              replace ow := hown'
              clear hg
              refine ⟨fun _ => eT, ?_⟩
              clear ow hblk
              have hLo2 : Lo2 = colL (O.take (j + 1)) x := hLo2e.trans (snoc_eq (fun p : Value × List Int => p.2.getD x 0) dft (by omega) hLo)
              have ow : w20.ownsRow Bx 3 1 (.slice vb La.length vd) La.length (ivs La) := fam.1 (.slice vb La.length vd, La) (by simp)
              replace fam := fam_perm fam (List.Perm.swap _ _ _)
              have hTs := eT.size
              refine ax_only (i := 27) (by kernel_rfl) (op_some F rfl rfl (by decide) rfl (append_runB rfl (Bx) (e := 3) (size := 1) (bytes := 8) Try.underlying29 (by kernel_rfl) (by decide) (F.at rfl) ow (F.at rfl) q109 rfl (by simp [Value.oneCell']) (by omega) (by omega) (by omega)) ?_); clear F fa; rintro fa v' w21 F ⟨hown', ⟨hg, hblk⟩⟩
              obtain ⟨va110, vc110, rfl⟩ := owns_slice hown'
              obtain ⟨La2, hLa2e⟩ : ∃ L, L = La ++ [(O.getD j dft).2.getD x 0 - (O.getD j dft).2.getD y 0] := ⟨_, rfl⟩
              have hLa2l : La.length + 1 = La2.length := by rw [hLa2e, List.length_append]; rfl
              rw [ivs_snoc1, ← hLa2e, hLa2l] at hown'
              rw [hLa2l] at F hblk
              replace q3 := keep_type ow hg q3 (by decide)
              replace fam := fam_put fam hown' hg hblk
              replace E := ext_appendX E ow hg (by omega)
              replace EO := ext_appendX EO ow hg (by omega)
              replace EA := ext_appendX EA ow hg (by omega)
              replace EL1 := ext_appendX EL1 ow hg (by omega)
              replace EL2 := ext_appendX EL2 ow hg (by omega)
              replace EW := ext_appendX EW ow hg (by omega)
              replace eT := ext_appendX eT ow hg (by omega)
              replace ow := hown'
              clear hg
              refine ⟨fun _ => eT, ?_⟩
              clear ow hblk
              replace fam := fam_perm fam (List.Perm.swap _ _ _)
              have hLa2 : La2 = difL (O.take (j + 1)) x y := hLa2e.trans (snoc_eq (fun p : Value × List Int => p.2.getD x 0 - p.2.getD y 0) dft (by omega) hLa)
              refine F.x (i := 28) rfl (fun w' => R_assign rfl (F.at rfl)) (fun _ => eT) ?_; clear F fa; intro fa F
              refine F.x (i := 29) rfl (fun w' => R_assign rfl (F.at rfl)) (fun _ => eT) ?_; clear F fa; intro fa F
              refine ax_done (by kernel_rfl) ?_ _
              exact hcut _ _ _ _ _ _ _ _ (F.sub (.c 3 rfl (.c 4 rfl (.c 5 rfl (.c 10 rfl (.c 11 rfl (.c 12 rfl (.c 13 rfl (.c 14 rfl .n))))))))) q3 E EO EA EL1 EL2 EW fam hLo2 hLa2
          clear F q3 E EO EA EL1 EL2 EW fam fa
          intro  va92 vc92 va110 vc110 Lo2 La2 fa w22 F q3 E EO EA EL1 EL2 EW fam hLo2 hLa2
          refine hK23 _ _ ?_
          clear hK23
          refine wp_region_lit ?_
          refine F.mv ?_; clear F fa; intro fa F
          refine F.vl (R_add rfl (F.at rfl) (ev_c fa _) (by omega) (by omega)) ?_; clear F fa; intro fa F
          refine F.as ?_; clear F fa; intro fa F
          refine wpList_nil ?_
          show _ ∧ _
          exact ⟨by omega, _, ⟨_, _, _, _, _, _, rfl, E, EO, EA, EL1, EL2, EW, q3, fam, hLo2, hLa2⟩, F.sub (.c 12 rfl (.c 13 rfl (.c 14 rfl (.c 3 rfl (.c 4 rfl (.c 5 rfl (.c 10 rfl (.c 11 rfl .n))))))))⟩
        · skip
          refine wp_exit ?_
          rw [List.take_of_length_le (by omega)] at hLo hLa
          have hLol : Lo.length = O.length := by rw [hLo, colL, List.length_map]
          have hLal : La.length = O.length := by rw [hLa, difL, List.length_map]
          have hLob : Hid (∀ n ∈ Lo, -100000 ≤ n ∧ n ≤ 100000) := Lib.hid fun n hn => by rw [hLo, colL] at hn; obtain ⟨p, hp, rfl⟩ := List.mem_map.1 hn; have := isT_bd hSm ((hO.out _).1 (List.mem_map_of_mem hp)) hx; omega
          have hLab : Hid (∀ n ∈ La, -100000 ≤ n ∧ n ≤ 100000) := Lib.hid fun n hn => by rw [hLa, difL] at hn; obtain ⟨p, hp, rfl⟩ := List.mem_map.1 hn; have h1 := isT_bd hSm ((hO.out _).1 (List.mem_map_of_mem hp)) hx; have h2 := isT_bd hSm ((hO.out _).1 (List.mem_map_of_mem hp)) hy; omega
          have EF : Ext [] w9 w9 := Ext.refl _ _
          have HFo := Lib.hid (fam_rows (xs := Lo) (a := va) (c := vc) fam (by simp))
          have HFa := Lib.hid (fam_rows (xs := La) (a := vb) (c := vd) fam (by simp))
          clear fam
          refine hK19 _ _ ?_
          clear hK19
          refine wp_seq_k fun K30 hK30 => ?_
          obtain ⟨d1, d2, d3, d4⟩ := nd_in2 (S := t.S) (A := t.A) (x := x) (by omega) hx
          obtain ⟨d5, d6, d7, d8⟩ := nd_in2 (S := t.S) (A := t.A) (x := y) (by omega) hy
          refine wp_region_lit ?_
          refine F.mv ?_; clear F fa; intro fa F
          refine sq_call F rfl (by decide) rfl (R_callV rfl rfl Try.call42 (mpS (F.at rfl) mp0)) (rangeOf_any (HFo.out.ext EF (by simp)) (by omega) (by omega) hLob.out) fun e w23 hR => ?_
          obtain ⟨lo, hi, bb, rfl, k1, k2, k3, k4, eX⟩ := hR
          refine ⟨_, rfl, ?_⟩; clear F fa; intro fa F
          replace q3 := (eX).keep0 q3
          replace E := ext_same E (eX)
          replace EO := ext_same EO (eX)
          replace EA := ext_same EA (eX)
          replace EL1 := ext_same EL1 (eX)
          replace EL2 := ext_same EL2 (eX)
          replace EW := ext_same EW (eX)
          replace EF := ext_same EF (eX)
          obtain ⟨rfl, rfl, rfl⟩ := range_eq (by omega) (fun n => by rw [hLo, colL_eq]; exact own_mem hLv hO.out hx n) k1 k2 k3 k4
          clear k1 k2 k3 k4
          refine F.mv ?_; clear F fa; intro fa F
          refine F.vl (R_extract rfl (F.at rfl) (get0)) ?_; clear F fa; intro fa F
          refine F.vl (R_extract rfl (F.at rfl) (getS (get0))) ?_; clear F fa; intro fa F
          refine sq_new F rfl (by decide) rfl (R_alloc rfl Try.zeroValue23) ?_; clear F fa; intro fa w24 F hw
          obtain ⟨n15, hn⟩ : ∃ n, n = w23.heap.size := ⟨_, rfl⟩
          rw [← hn] at F
          have s15 : w23.heap.size ≤ n15 := Nat.le_of_eq hn.symm
          have l15_E : w.heap.size ≤ n15 := by rw [hn]; exact E.size
          have l15_EO : w2.heap.size ≤ n15 := by rw [hn]; exact EO.size
          have l15_EA : w5.heap.size ≤ n15 := by rw [hn]; exact EA.size
          have l15_EL1 : w6.heap.size ≤ n15 := by rw [hn]; exact EL1.size
          have l15_EL2 : w7.heap.size ≤ n15 := by rw [hn]; exact EL2.size
          have l15_EW : w8.heap.size ≤ n15 := by rw [hn]; exact EW.size
          have l15_EF : w9.heap.size ≤ n15 := by rw [hn]; exact EF.size
          have m15_3 : n3 < n15 := by rw [hn]; exact blk_lt q3
          replace q3 := keep_alloc hw q3
          replace E := ext_alloc E hw
          replace EO := ext_alloc EO hw
          replace EA := ext_alloc EA hw
          replace EL1 := ext_alloc EL1 hw
          replace EL2 := ext_alloc EL2 hw
          replace EW := ext_alloc EW hw
          replace EF := ext_alloc EF hw
          have q15 := new_row hw hn
          clear hw hn
          refine sq_to rfl rfl (R_storeRow rfl (F.at rfl) (F.at rfl) (by kernel_rfl) (by first | (simp [Value.oneCell']; done) | (simp [Value.oneCell', grRow, rdRow, lkRow]; done)) q15 rfl) ?_; intro w25 hw
          replace q3 := keep_cells hw q3 (by omega)
          replace q15 := put_row hw q15 rfl
          replace E := ext_cells E hw (fun h => by first | exact absurd h (by omega) | simp)
          replace EO := ext_cells EO hw (fun h => by first | exact absurd h (by omega) | simp)
          replace EA := ext_cells EA hw (fun h => by first | exact absurd h (by omega) | simp)
          replace EL1 := ext_cells EL1 hw (fun h => by first | exact absurd h (by omega) | simp)
          replace EL2 := ext_cells EL2 hw (fun h => by first | exact absurd h (by omega) | simp)
          replace EW := ext_cells EW hw (fun h => by first | exact absurd h (by omega) | simp)
          replace EF := ext_cells EF hw (fun h => by first | exact absurd h (by omega) | simp)
          clear hw
          refine F.as ?_; clear F fa; intro fa F
          refine wpList_nil ?_
          refine hK30 _ _ ?_
          clear hK30
          refine wp_seq_k fun K31 hK31 => ?_
          suffices hcut : ∀ (n17 : Nat) (fa : Act) (w33 : World), Has 209 fa [(3, .pointer (some ⟨n3, 0, none⟩)), (4, .slice oa O.length oc), (5, .slice ma M.length mc), (10, .int .i64 ((x : Nat) : Int)), (11, .int .i64 ((y : Nat) : Int)), (13, .slice vb La.length vd), (15, .pointer (some ⟨n15, 0, none⟩)), (16, .bool true), (17, .pointer (some ⟨n17, 0, none⟩)), (18, .int .i64 0)] → w33.heap[n3]? = some (.cells #[.int .i64 t.S, .int .i64 t.A, .int .i64 t.T, .int .i64 t.bl, .int .i64 t.bm, .int .i64 t.pl, .int .i64 t.pm, .int .i64 t.sl, .slice ga t.gr.length gc, .slice ra t.rd.length rc, .slice la t.lk.length lc] 28 (0, 0)) → w33.heap[n15]? = some (.cells #[.int .i64 (mlo t ((x : Int) / t.A) ((x : Int) % t.A)), .int .i64 (mhi t ((x : Int) / t.A) ((x : Int) % t.A))] 23 (0, 0)) → w33.heap[n17]? = some (.cells #[.int .i64 (mlo t ((x : Int) / t.A) ((x : Int) % t.A)), .int .i64 (mhi t ((x : Int) / t.A) ((x : Int) % t.A))] 23 (0, 0)) → Ext [] w w33 → Ext [] w2 w33 → Ext [] w5 w33 → Ext [] w6 w33 → Ext [] w7 w33 → Ext [] w8 w33 → Ext [] w9 w33 → w.heap.size ≤ n17 → w2.heap.size ≤ n17 → w5.heap.size ≤ n17 → w6.heap.size ≤ n17 → w7.heap.size ≤ n17 → w8.heap.size ≤ n17 → w9.heap.size ≤ n17 → n3 ≠ n17 → n15 ≠ n17 → K31 fa w33 by
            refine region_x (Ext [] w25) none follows fun w26 hh eh => ?_
            have q3_ := q3
            replace q3 := keep_same hh q3
            have q15_ := q15
            replace q15 := keep_same hh q15
            have E_ := E
            have zEw26 := E.size
            replace E := ext_same E eh
            have EO_ := EO
            have zEOw26 := EO.size
            replace EO := ext_same EO eh
            have EA_ := EA
            have zEAw26 := EA.size
            replace EA := ext_same EA eh
            have EL1_ := EL1
            have zEL1w26 := EL1.size
            replace EL1 := ext_same EL1 eh
            have EL2_ := EL2
            have zEL2w26 := EL2.size
            replace EL2 := ext_same EL2 eh
            have EW_ := EW
            have zEWw26 := EW.size
            replace EW := ext_same EW eh
            have EF_ := EF
            have zEFw26 := EF.size
            replace EF := ext_same EF eh
            have eT := eh
            clear hh eh
            refine F.xr (i := 0) rfl (fun w' hS => R_loadBlk rfl (F.at rfl) Try.underlying28 rfl (by kernel_rfl) (hS.keep q3_ (by simp))) (fun _ => eT) ?_; clear F fa; intro fa F
            refine F.x (i := 1) rfl (fun w' => R_move rfl (F.at rfl)) (fun _ => eT) ?_; clear F fa; intro fa F
            refine F.x (i := 2) rfl (fun w' => R_field rfl (F.at rfl) Try.underlying28 rfl (n := 1) (sz := 1) rfl (by kernel_rfl) (by decide)) (fun _ => eT) ?_; clear F fa; intro fa F
            refine F.xr (i := 3) rfl (fun w' hS => R_load rfl (F.at rfl) Try.underlying3 rfl ((cells_of_block (hS.keep q3_ (by simp)) 1).trans (getS (get0)))) (fun _ => eT) ?_; clear F fa; intro fa F
            refine F.x (i := 4) rfl (fun w' => R_quoP rfl (F.at rfl) (F.at rfl) (by omega) (by omega) (by omega)) (fun _ => eT) ?_; clear F fa; intro fa F
            refine F.x (i := 5) rfl (fun w' => R_move rfl (F.at rfl)) (fun _ => eT) ?_; clear F fa; intro fa F
            refine F.x (i := 6) rfl (fun w' => R_field rfl (F.at rfl) Try.underlying28 rfl (n := 1) (sz := 1) rfl (by kernel_rfl) (by decide)) (fun _ => eT) ?_; clear F fa; intro fa F
            refine F.xr (i := 7) rfl (fun w' hS => R_load rfl (F.at rfl) Try.underlying3 rfl ((cells_of_block (hS.keep q3_ (by simp)) 1).trans (getS (get0)))) (fun _ => eT) ?_; clear F fa; intro fa F
            refine F.x (i := 8) rfl (fun w' => R_remP rfl (F.at rfl) (F.at rfl) (by omega) (by omega)) (fun _ => eT) ?_; clear F fa; intro fa F
            refine ax_pair (i := 9) (j := 13) (by kernel_rfl) ?_ ?_
            · skip
              refine (op_call F rfl rfl (by decide) rfl (R_callV rfl rfl Try.call33 (mpS (F.at rfl) (mpS (F.at rfl) (mpS (F.at rfl) mp0)))) (meas_live hLv ((HT).out.ext EO (by simp)) (by omega) (by omega) (by omega) (by omega)) fun e w27 hR => ?_)
              obtain ⟨rfl, e9⟩ := hR
              refine ⟨_, rfl, ?_⟩; clear F fa; intro fa F
              replace q3 := (e9).keep0 q3
              replace q15 := (e9).keep0 q15
              replace E := ext_same E (e9)
              replace EO := ext_same EO (e9)
              replace EA := ext_same EA (e9)
              replace EL1 := ext_same EL1 (e9)
              replace EL2 := ext_same EL2 (e9)
              replace EW := ext_same EW (e9)
              replace EF := ext_same EF (e9)
              replace eT := ext_same eT (e9)
              clear e9
              refine ⟨fun _ => eT, ?_⟩
              refine F.x (i := 10) rfl (fun w' => R_move rfl (F.at rfl)) (fun _ => eT) ?_; clear F fa; intro fa F
              refine F.x (i := 11) rfl (fun w' => R_extract rfl (F.at rfl) (get0)) (fun _ => eT) ?_; clear F fa; intro fa F
              refine F.x (i := 12) rfl (fun w' => R_extract rfl (F.at rfl) (getS (get0))) (fun _ => eT) ?_; clear F fa; intro fa F
              refine ax_only (i := 13) (by kernel_rfl) (op_new F rfl rfl (by decide) rfl (R_alloc rfl Try.zeroValue23) ?_); clear F fa; intro fa w28 F hw
              obtain ⟨n17, hn⟩ : ∃ n, n = w27.heap.size := ⟨_, rfl⟩
              rw [← hn] at F
              have s17 : w27.heap.size ≤ n17 := Nat.le_of_eq hn.symm
              have l17_E : w.heap.size ≤ n17 := by rw [hn]; exact E.size
              have l17_EO : w2.heap.size ≤ n17 := by rw [hn]; exact EO.size
              have l17_EA : w5.heap.size ≤ n17 := by rw [hn]; exact EA.size
              have l17_EL1 : w6.heap.size ≤ n17 := by rw [hn]; exact EL1.size
              have l17_EL2 : w7.heap.size ≤ n17 := by rw [hn]; exact EL2.size
              have l17_EW : w8.heap.size ≤ n17 := by rw [hn]; exact EW.size
              have l17_EF : w9.heap.size ≤ n17 := by rw [hn]; exact EF.size
              have lT17 : w25.heap.size ≤ n17 := by rw [hn]; exact eT.size
              have m17_3 : n3 < n17 := by rw [hn]; exact blk_lt q3
              have m17_15 : n15 < n17 := by rw [hn]; exact blk_lt q15
              replace q3 := keep_alloc hw q3
              replace q15 := keep_alloc hw q15
              replace E := ext_alloc E hw
              replace EO := ext_alloc EO hw
              replace EA := ext_alloc EA hw
              replace EL1 := ext_alloc EL1 hw
              replace EL2 := ext_alloc EL2 hw
              replace EW := ext_alloc EW hw
              replace EF := ext_alloc EF hw
              replace eT := ext_alloc eT hw
              have q17 := new_row hw hn
              clear hw hn
              refine ⟨fun _ => eT, ?_⟩
              refine ax_only (i := 14) (by kernel_rfl) (op_to rfl rfl rfl (R_storeRow rfl (F.at rfl) (F.at rfl) (by kernel_rfl) (by first | (simp [Value.oneCell']; done) | (simp [Value.oneCell', grRow, rdRow, lkRow]; done)) q17 rfl) ?_); intro w29 hw
              replace q3 := keep_cells hw q3 (by omega)
              replace q15 := keep_cells hw q15 (by omega)
              replace q17 := put_row hw q17 rfl
              replace E := ext_cells E hw (fun h => by first | exact absurd h (by omega) | simp)
              replace EO := ext_cells EO hw (fun h => by first | exact absurd h (by omega) | simp)
              replace EA := ext_cells EA hw (fun h => by first | exact absurd h (by omega) | simp)
              replace EL1 := ext_cells EL1 hw (fun h => by first | exact absurd h (by omega) | simp)
              replace EL2 := ext_cells EL2 hw (fun h => by first | exact absurd h (by omega) | simp)
              replace EW := ext_cells EW hw (fun h => by first | exact absurd h (by omega) | simp)
              replace EF := ext_cells EF hw (fun h => by first | exact absurd h (by omega) | simp)
              replace eT := ext_cells eT hw (fun h => by first | exact absurd h (by omega) | simp)
              clear hw
              refine ⟨fun _ => eT, ?_⟩
              refine F.x (i := 15) rfl (fun w' => R_assign rfl (F.at rfl)) (fun _ => eT) ?_; clear F fa; intro fa F
              refine ax_done (by kernel_rfl) ?_ _
              exact hcut _ _ _ (F.sub (.c 3 rfl (.c 4 rfl (.c 5 rfl (.c 10 rfl (.c 11 rfl (.c 13 rfl (.c 15 rfl (.c 16 rfl (.c 17 rfl (.c 18 rfl .n))))))))))) q3 q15 q17 E EO EA EL1 EL2 EW EF (by omega) (by omega) (by omega) (by omega) (by omega) (by omega) (by omega) (by omega) (by omega)
            · skip
              refine (op_new F rfl rfl (by decide) rfl (R_alloc rfl Try.zeroValue23) ?_); clear F fa; intro fa w30 F hw
              obtain ⟨n17, hn⟩ : ∃ n, n = w26.heap.size := ⟨_, rfl⟩
              rw [← hn] at F
              have s17 : w26.heap.size ≤ n17 := Nat.le_of_eq hn.symm
              have l17_E : w.heap.size ≤ n17 := by rw [hn]; exact E.size
              have l17_EO : w2.heap.size ≤ n17 := by rw [hn]; exact EO.size
              have l17_EA : w5.heap.size ≤ n17 := by rw [hn]; exact EA.size
              have l17_EL1 : w6.heap.size ≤ n17 := by rw [hn]; exact EL1.size
              have l17_EL2 : w7.heap.size ≤ n17 := by rw [hn]; exact EL2.size
              have l17_EW : w8.heap.size ≤ n17 := by rw [hn]; exact EW.size
              have l17_EF : w9.heap.size ≤ n17 := by rw [hn]; exact EF.size
              have lT17 : w25.heap.size ≤ n17 := by rw [hn]; exact eT.size
              have m17_3 : n3 < n17 := by rw [hn]; exact blk_lt q3
              have m17_15 : n15 < n17 := by rw [hn]; exact blk_lt q15
              replace q3 := keep_alloc hw q3
              replace q15 := keep_alloc hw q15
              replace E := ext_alloc E hw
              replace EO := ext_alloc EO hw
              replace EA := ext_alloc EA hw
              replace EL1 := ext_alloc EL1 hw
              replace EL2 := ext_alloc EL2 hw
              replace EW := ext_alloc EW hw
              replace EF := ext_alloc EF hw
              replace eT := ext_alloc eT hw
              have q17 := new_row hw hn
              clear hw hn
              refine ⟨fun _ => eT, ?_⟩
              refine ax_only (i := 9) (by kernel_rfl) (op_call F rfl rfl (by decide) rfl (R_callV rfl rfl Try.call33 (mpS (F.at rfl) (mpS (F.at rfl) (mpS (F.at rfl) mp0)))) (meas_live hLv ((HT).out.ext EO (by simp)) (by omega) (by omega) (by omega) (by omega)) fun e w31 hR => ?_)
              obtain ⟨rfl, e9⟩ := hR
              refine ⟨_, rfl, ?_⟩; clear F fa; intro fa F
              replace q3 := (e9).keep0 q3
              replace q15 := (e9).keep0 q15
              replace q17 := (e9).keep0 q17
              replace E := ext_same E (e9)
              replace EO := ext_same EO (e9)
              replace EA := ext_same EA (e9)
              replace EL1 := ext_same EL1 (e9)
              replace EL2 := ext_same EL2 (e9)
              replace EW := ext_same EW (e9)
              replace EF := ext_same EF (e9)
              replace eT := ext_same eT (e9)
              clear e9
              refine ⟨fun _ => eT, ?_⟩
              refine F.x (i := 10) rfl (fun w' => R_move rfl (F.at rfl)) (fun _ => eT) ?_; clear F fa; intro fa F
              refine F.x (i := 11) rfl (fun w' => R_extract rfl (F.at rfl) (get0)) (fun _ => eT) ?_; clear F fa; intro fa F
              refine F.x (i := 12) rfl (fun w' => R_extract rfl (F.at rfl) (getS (get0))) (fun _ => eT) ?_; clear F fa; intro fa F
              refine ax_only (i := 14) (by kernel_rfl) (op_to rfl rfl rfl (R_storeRow rfl (F.at rfl) (F.at rfl) (by kernel_rfl) (by first | (simp [Value.oneCell']; done) | (simp [Value.oneCell', grRow, rdRow, lkRow]; done)) q17 rfl) ?_); intro w32 hw
              replace q3 := keep_cells hw q3 (by omega)
              replace q15 := keep_cells hw q15 (by omega)
              replace q17 := put_row hw q17 rfl
              replace E := ext_cells E hw (fun h => by first | exact absurd h (by omega) | simp)
              replace EO := ext_cells EO hw (fun h => by first | exact absurd h (by omega) | simp)
              replace EA := ext_cells EA hw (fun h => by first | exact absurd h (by omega) | simp)
              replace EL1 := ext_cells EL1 hw (fun h => by first | exact absurd h (by omega) | simp)
              replace EL2 := ext_cells EL2 hw (fun h => by first | exact absurd h (by omega) | simp)
              replace EW := ext_cells EW hw (fun h => by first | exact absurd h (by omega) | simp)
              replace EF := ext_cells EF hw (fun h => by first | exact absurd h (by omega) | simp)
              replace eT := ext_cells eT hw (fun h => by first | exact absurd h (by omega) | simp)
              clear hw
              refine ⟨fun _ => eT, ?_⟩
              refine F.x (i := 15) rfl (fun w' => R_assign rfl (F.at rfl)) (fun _ => eT) ?_; clear F fa; intro fa F
              refine ax_done (by kernel_rfl) ?_ _
              exact hcut _ _ _ (F.sub (.c 3 rfl (.c 4 rfl (.c 5 rfl (.c 10 rfl (.c 11 rfl (.c 13 rfl (.c 15 rfl (.c 16 rfl (.c 17 rfl (.c 18 rfl .n))))))))))) q3 q15 q17 E EO EA EL1 EL2 EW EF (by omega) (by omega) (by omega) (by omega) (by omega) (by omega) (by omega) (by omega) (by omega)
          clear F q3 q15 E EO EA EL1 EL2 EW EF fa
          intro n17  fa w33 F q3 q15 q17 E EO EA EL1 EL2 EW EF l17_E l17_EO l17_EA l17_EL1 l17_EL2 l17_EW l17_EF m17_3 m17_15
          refine hK31 _ _ ?_
          clear hK31
          refine wp_seq_k fun K32 hK32 => ?_
          refine wp_seq_k fun K33 hK33 => ?_
          refine wp_region_lit ?_
          refine F.mv ?_; clear F fa; intro fa F
          refine F.vl (R_neqB (b := false) rfl (F.at rfl) (ev_c fa _) (by decide)) ?_; clear F fa; intro fa F
          refine F.mv ?_; clear F fa; intro fa F
          refine F.vl (R_loadBlk rfl (F.at rfl) Try.underlying23 rfl (by kernel_rfl) q17) ?_ (hw := (wantT F rfl rfl (by decide) rfl)); clear F fa; intro fa F
          refine F.vl (R_loadBlk rfl (F.at rfl) Try.underlying23 rfl (by kernel_rfl) q15) ?_ (hw := (wantT F rfl rfl (by decide) rfl)); clear F fa; intro fa F
          refine F.vl (R_neqBt (r := false) rfl (F.at rfl) (F.at rfl) (by simp)) ?_ (hw := (wantT F rfl rfl (by decide) rfl)); clear F fa; intro fa F
          refine F.vl (R_pickF rfl (F.at rfl) (F.at rfl)) ?_; clear F fa; intro fa F
          refine F.mv ?_; clear F fa; intro fa F
          refine F.mv ?_ (hw := (wantT F rfl rfl (by decide) rfl)); clear F fa; intro fa F
          refine F.vl (R_not rfl (F.at rfl)) ?_ (hw := (wantT F rfl rfl (by decide) rfl)); clear F fa; intro fa F
          refine F.vl (R_pickF rfl (F.at rfl) (F.at rfl)) ?_; clear F fa; intro fa F
          refine wpList_nil ?_
          refine hK33 _ _ ?_
          clear hK33
          refine cd_F F rfl ?_
          refine wp_skip ?_
          refine hK32 _ _ ?_
          clear hK32
          refine wp_seq_k fun K34 hK34 => ?_
          refine wp_region_lit ?_
          refine F.mv ?_; clear F fa; intro fa F
          refine sq_call F rfl (by decide) rfl (R_callV rfl rfl Try.call42 (mpS (F.at rfl) mp0)) (rangeOf_any (HFa.out.ext EF (by simp)) (by omega) (by omega) hLab.out) fun e w34 hR => ?_
          obtain ⟨lo, hi, bb, rfl, k1, k2, k3, k4, eX⟩ := hR
          refine ⟨_, rfl, ?_⟩; clear F fa; intro fa F
          replace q3 := (eX).keep0 q3
          replace q15 := (eX).keep0 q15
          replace q17 := (eX).keep0 q17
          replace E := ext_same E (eX)
          replace EO := ext_same EO (eX)
          replace EA := ext_same EA (eX)
          replace EL1 := ext_same EL1 (eX)
          replace EL2 := ext_same EL2 (eX)
          replace EW := ext_same EW (eX)
          replace EF := ext_same EF (eX)
          obtain ⟨rfl, rfl, rfl⟩ := range_eq (by omega) (fun n => by rw [hLa, difL_eq]; exact dif_mem hLv hO.out hx hy n) k1 k2 k3 k4
          clear k1 k2 k3 k4
          refine F.mv ?_; clear F fa; intro fa F
          refine F.vl (R_extract rfl (F.at rfl) (get0)) ?_; clear F fa; intro fa F
          refine F.vl (R_extract rfl (F.at rfl) (getS (get0))) ?_; clear F fa; intro fa F
          refine sq_to rfl rfl (R_storeRow rfl (F.at rfl) (F.at rfl) (by kernel_rfl) (by first | (simp [Value.oneCell']; done) | (simp [Value.oneCell', grRow, rdRow, lkRow]; done)) q15 rfl) ?_; intro w35 hw
          replace q3 := keep_cells hw q3 (by omega)
          replace q15 := put_row hw q15 rfl
          replace q17 := keep_cells hw q17 (by omega)
          replace E := ext_cells E hw (fun h => by first | exact absurd h (by omega) | simp)
          replace EO := ext_cells EO hw (fun h => by first | exact absurd h (by omega) | simp)
          replace EA := ext_cells EA hw (fun h => by first | exact absurd h (by omega) | simp)
          replace EL1 := ext_cells EL1 hw (fun h => by first | exact absurd h (by omega) | simp)
          replace EL2 := ext_cells EL2 hw (fun h => by first | exact absurd h (by omega) | simp)
          replace EW := ext_cells EW hw (fun h => by first | exact absurd h (by omega) | simp)
          replace EF := ext_cells EF hw (fun h => by first | exact absurd h (by omega) | simp)
          clear hw
          refine F.as ?_; clear F fa; intro fa F
          refine wpList_nil ?_
          refine hK34 _ _ ?_
          clear hK34
          refine wp_seq_k fun K35 hK35 => ?_
          refine region_x (Ext [] w35) (some 21) follows fun w36 hh eh => ?_
          have q3_ := q3
          replace q3 := keep_same hh q3
          have q15_ := q15
          replace q15 := keep_same hh q15
          have q17_ := q17
          replace q17 := keep_same hh q17
          have E_ := E
          have zEw36 := E.size
          replace E := ext_same E eh
          have EO_ := EO
          have zEOw36 := EO.size
          replace EO := ext_same EO eh
          have EA_ := EA
          have zEAw36 := EA.size
          replace EA := ext_same EA eh
          have EL1_ := EL1
          have zEL1w36 := EL1.size
          replace EL1 := ext_same EL1 eh
          have EL2_ := EL2
          have zEL2w36 := EL2.size
          replace EL2 := ext_same EL2 eh
          have EW_ := EW
          have zEWw36 := EW.size
          replace EW := ext_same EW eh
          have EF_ := EF
          have zEFw36 := EF.size
          replace EF := ext_same EF eh
          have eT := eh
          clear hh eh
          refine F.xr (i := 0) rfl (fun w' hS => R_loadBlk rfl (F.at rfl) Try.underlying28 rfl (by kernel_rfl) (hS.keep q3_ (by simp))) (fun _ => eT) ?_; clear F fa; intro fa F
          refine F.x (i := 1) rfl (fun w' => R_move rfl (F.at rfl)) (fun _ => eT) ?_; clear F fa; intro fa F
          refine F.x (i := 2) rfl (fun w' => R_field rfl (F.at rfl) Try.underlying28 rfl (n := 1) (sz := 1) rfl (by kernel_rfl) (by decide)) (fun _ => eT) ?_; clear F fa; intro fa F
          refine F.xr (i := 3) rfl (fun w' hS => R_load rfl (F.at rfl) Try.underlying3 rfl ((cells_of_block (hS.keep q3_ (by simp)) 1).trans (getS (get0)))) (fun _ => eT) ?_; clear F fa; intro fa F
          refine F.x (i := 4) rfl (fun w' => R_quoP rfl (F.at rfl) (F.at rfl) (by omega) (by omega) (by omega)) (fun _ => eT) ?_; clear F fa; intro fa F
          refine F.x (i := 5) rfl (fun w' => R_move rfl (F.at rfl)) (fun _ => eT) ?_; clear F fa; intro fa F
          refine F.x (i := 6) rfl (fun w' => R_field rfl (F.at rfl) Try.underlying28 rfl (n := 1) (sz := 1) rfl (by kernel_rfl) (by decide)) (fun _ => eT) ?_; clear F fa; intro fa F
          refine F.xr (i := 7) rfl (fun w' hS => R_load rfl (F.at rfl) Try.underlying3 rfl ((cells_of_block (hS.keep q3_ (by simp)) 1).trans (getS (get0)))) (fun _ => eT) ?_; clear F fa; intro fa F
          refine F.x (i := 8) rfl (fun w' => R_remP rfl (F.at rfl) (F.at rfl) (by omega) (by omega)) (fun _ => eT) ?_; clear F fa; intro fa F
          refine F.x (i := 9) rfl (fun w' => R_move rfl (F.at rfl)) (fun _ => eT) ?_; clear F fa; intro fa F
          refine F.x (i := 10) rfl (fun w' => R_field rfl (F.at rfl) Try.underlying28 rfl (n := 1) (sz := 1) rfl (by kernel_rfl) (by decide)) (fun _ => eT) ?_; clear F fa; intro fa F
          refine F.xr (i := 11) rfl (fun w' hS => R_load rfl (F.at rfl) Try.underlying3 rfl ((cells_of_block (hS.keep q3_ (by simp)) 1).trans (getS (get0)))) (fun _ => eT) ?_; clear F fa; intro fa F
          refine F.x (i := 12) rfl (fun w' => R_quoP rfl (F.at rfl) (F.at rfl) (by omega) (by omega) (by omega)) (fun _ => eT) ?_; clear F fa; intro fa F
          refine F.x (i := 13) rfl (fun w' => R_move rfl (F.at rfl)) (fun _ => eT) ?_; clear F fa; intro fa F
          refine F.x (i := 14) rfl (fun w' => R_field rfl (F.at rfl) Try.underlying28 rfl (n := 1) (sz := 1) rfl (by kernel_rfl) (by decide)) (fun _ => eT) ?_; clear F fa; intro fa F
          refine F.xr (i := 15) rfl (fun w' hS => R_load rfl (F.at rfl) Try.underlying3 rfl ((cells_of_block (hS.keep q3_ (by simp)) 1).trans (getS (get0)))) (fun _ => eT) ?_; clear F fa; intro fa F
          refine F.x (i := 16) rfl (fun w' => R_remP rfl (F.at rfl) (F.at rfl) (by omega) (by omega)) (fun _ => eT) ?_; clear F fa; intro fa F
          refine ax_only (i := 17) (by kernel_rfl) (op_call F rfl rfl (by decide) rfl (R_callV rfl rfl Try.call43 (mpS (F.at rfl) (mpS (F.at rfl) (mpS (F.at rfl) (mpS (F.at rfl) (mpS (F.at rfl) mp0)))))) (apart_live hLv ((HT).out.ext EO (by simp)) (by omega) (by omega) (by omega) (by omega) (by omega) (by omega) (by omega) (by omega)) fun e w37 hR => ?_)
          obtain ⟨rfl, e9⟩ := hR
          refine ⟨_, rfl, ?_⟩; clear F fa; intro fa F
          replace q3 := (e9).keep0 q3
          replace q15 := (e9).keep0 q15
          replace q17 := (e9).keep0 q17
          replace E := ext_same E (e9)
          replace EO := ext_same EO (e9)
          replace EA := ext_same EA (e9)
          replace EL1 := ext_same EL1 (e9)
          replace EL2 := ext_same EL2 (e9)
          replace EW := ext_same EW (e9)
          replace EF := ext_same EF (e9)
          replace eT := ext_same eT (e9)
          clear e9
          refine ⟨fun _ => eT, ?_⟩
          refine F.x (i := 18) rfl (fun w' => R_move rfl (F.at rfl)) (fun _ => eT) ?_; clear F fa; intro fa F
          refine F.x (i := 19) rfl (fun w' => R_extract rfl (F.at rfl) (get0)) (fun _ => eT) ?_; clear F fa; intro fa F
          refine F.x (i := 20) rfl (fun w' => R_extract rfl (F.at rfl) (getS (get0))) (fun _ => eT) ?_; clear F fa; intro fa F
          refine ax_only (i := 21) (by kernel_rfl) (op_to rfl rfl rfl (R_storeRow rfl (F.at rfl) (F.at rfl) (by kernel_rfl) (by first | (simp [Value.oneCell']; done) | (simp [Value.oneCell', grRow, rdRow, lkRow]; done)) q17 rfl) ?_); intro w38 hw
          replace q3 := keep_cells hw q3 (by omega)
          replace q15 := keep_cells hw q15 (by omega)
          replace q17 := put_row hw q17 rfl
          replace E := ext_cells E hw (fun h => by first | exact absurd h (by omega) | simp)
          replace EO := ext_cells EO hw (fun h => by first | exact absurd h (by omega) | simp)
          replace EA := ext_cells EA hw (fun h => by first | exact absurd h (by omega) | simp)
          replace EL1 := ext_cells EL1 hw (fun h => by first | exact absurd h (by omega) | simp)
          replace EL2 := ext_cells EL2 hw (fun h => by first | exact absurd h (by omega) | simp)
          replace EW := ext_cells EW hw (fun h => by first | exact absurd h (by omega) | simp)
          replace EF := ext_cells EF hw (fun h => by first | exact absurd h (by omega) | simp)
          clear hw
          refine ⟨gone (by kernel_rfl), ?_⟩
          refine F.x (i := 22) rfl (fun w' => R_assign rfl (F.at rfl)) (gone (by kernel_rfl)) ?_; clear F fa; intro fa F
          refine ax_done (by kernel_rfl) ?_ _
          clear eT q3_ q15_ q17_ E_ EO_ EA_ EL1_ EL2_ EW_ EF_
          refine hK35 _ _ ?_
          clear hK35
          refine wp_seq_k fun K36 hK36 => ?_
          refine wp_region_lit ?_
          refine F.mv ?_; clear F fa; intro fa F
          refine F.vl (R_neqB (b := false) rfl (F.at rfl) (ev_c fa _) (by decide)) ?_; clear F fa; intro fa F
          refine F.mv ?_; clear F fa; intro fa F
          refine F.vl (R_loadBlk rfl (F.at rfl) Try.underlying23 rfl (by kernel_rfl) q17) ?_ (hw := (wantT F rfl rfl (by decide) rfl)); clear F fa; intro fa F
          refine F.vl (R_loadBlk rfl (F.at rfl) Try.underlying23 rfl (by kernel_rfl) q15) ?_ (hw := (wantT F rfl rfl (by decide) rfl)); clear F fa; intro fa F
          refine F.vl (R_neqBt (r := false) rfl (F.at rfl) (F.at rfl) (by simp)) ?_ (hw := (wantT F rfl rfl (by decide) rfl)); clear F fa; intro fa F
          refine F.vl (R_pickF rfl (F.at rfl) (F.at rfl)) ?_; clear F fa; intro fa F
          refine F.mv ?_; clear F fa; intro fa F
          refine F.mv ?_ (hw := (wantT F rfl rfl (by decide) rfl)); clear F fa; intro fa F
          refine F.vl (R_not rfl (F.at rfl)) ?_ (hw := (wantT F rfl rfl (by decide) rfl)); clear F fa; intro fa F
          refine F.vl (R_pickF rfl (F.at rfl) (F.at rfl)) ?_; clear F fa; intro fa F
          refine wpList_nil ?_
          refine hK36 _ _ ?_
          clear hK36
          refine cd_F F rfl ?_
          refine wp_skip ?_
          refine hK17 _ _ ?_
          clear hK17
          refine wp_region_lit ?_
          refine F.mv ?_; clear F fa; intro fa F
          refine F.vl (R_add rfl (F.at rfl) (ev_c fa _) (by omega) (by omega)) ?_; clear F fa; intro fa F
          refine F.as ?_; clear F fa; intro fa F
          refine wpList_nil ?_
          show _ ∧ _
          exact ⟨by omega, _, ⟨rfl, EL2⟩, F.sub (.c 11 rfl (.c 3 rfl (.c 4 rfl (.c 5 rfl (.c 10 rfl .n)))))⟩
      · skip
        refine wp_exit ?_
        refine hK13 _ _ ?_
        clear hK13
        refine wp_region_lit ?_
        refine F.mv ?_; clear F fa; intro fa F
        refine F.vl (R_add rfl (F.at rfl) (ev_c fa _) (by omega) (by omega)) ?_; clear F fa; intro fa F
        refine F.as ?_; clear F fa; intro fa F
        refine wpList_nil ?_
        show _ ∧ _
        exact ⟨by omega, _, ⟨rfl, EL1⟩, F.sub (.c 10 rfl (.c 3 rfl (.c 4 rfl (.c 5 rfl .n))))⟩
    · skip
      refine wp_exit ?_
      refine hK9 _ _ ?_
      clear hK9
      refine wp_seq_k fun K37 hK37 => ?_
      refine wp_seq_k fun K38 hK38 => ?_
      refine wp_region_lit ?_
      refine F.vl (R_assign rfl (ev_c fa _)) ?_; clear F fa; intro fa F
      refine wpList_nil ?_
      refine hK38 _ _ ?_
      clear hK38
      refine wp_block ?_
      have F0 := F.sub (.c 3 rfl (.c 5 rfl .n))
      refine lp_for F0 (t.T.toNat) (fun k Lv W => Lv = [(19, .int .i64 ((k : Nat) : Int))] ∧ Ext [] w7 W) ⟨_, ⟨rfl, Ext.refl _ _⟩, F.sub (.c 19 rfl (.c 3 rfl (.c 5 rfl .n)))⟩ ?_
      clear F F0
      rintro k _ fa w39 hi4 ⟨rfl, EL4⟩ F
      have q3 := EL4.keep0 q3
      have E := E.nil EL4
      have EO := EO.nil EL4
      have EA := EA.nil EL4
      refine wp_seq_k fun K39 hK39 => ?_
      refine wp_seq_k fun K40 hK40 => ?_
      refine wp_region_lit ?_
      refine F.mv ?_; clear F fa; intro fa F
      refine F.vl (R_field rfl (F.at rfl) Try.underlying28 rfl (n := 2) (sz := 1) rfl (by kernel_rfl) (by decide)) ?_; clear F fa; intro fa F
      refine F.vl (R_load rfl (F.at rfl) Try.underlying3 rfl ((cells_of_block q3 2).trans (getS (getS (get0))))) ?_; clear F fa; intro fa F
      refine F.vl (R_lss rfl (F.at rfl) (F.at rfl)) ?_; clear F fa; intro fa F
      refine wpList_nil ?_
      refine hK40 _ _ ?_
      clear hK40
      refine cd_if F rfl (fun hc180 => ?_) (fun hc180 => ?_)
      · skip
        refine wp_skip ?_
        refine hK39 _ _ ?_
        clear hK39
        refine wp_seq_k fun K41 hK41 => ?_
        refine wp_block ?_
        refine wp_seq_k fun K42 hK42 => ?_
        have hkT : (k : Int) < t.T := by omega
        have hmM : M.getD k dft ∈ M := getD_mem _ (by omega)
        obtain ⟨ra1, rc1, hr1, hr2⟩ := HMr.out _ hmM
        have hpm := pul_mem hLv hkT (hM.out k hkT)
        have hpb := pbd hLv (i := k) (by omega) hkT
        have hm0 := List.length_pos_of_mem ((hpm (plo t k)).2 (by omega))
        have hm9 := hMb.out k (by omega)
        replace hpm := Lib.hid hpm
        refine wp_region_lit ?_
        refine F.mv ?_; clear F fa; intro fa F
        refine F.mv ?_; clear F fa; intro fa F
        obtain ⟨xb43, xo43, xa43, xr43⟩ := HMs.out k (by omega)
        refine F.vl (R_ixSlice (sz := 1) rfl ((F.at rfl).trans (xa43 _ _)) (F.at rfl) Try.underlying50 (by kernel_rfl) (by omega) (by omega)) ?_; clear F fa; intro fa F
        refine F.vl (R_load rfl (F.at rfl) Try.underlying29 rfl (xr43 _ EA 0 _ rfl)) ?_; clear F fa; intro fa F
        replace F := F.re (k := 187) rfl hr1
        refine sq_call F rfl (by decide) rfl (R_callV rfl rfl Try.call42 (mpS (F.at rfl) mp0)) (rangeOf_any (l := (M.getD k dft).2) (hr2.ext EA (by simp)) (by omega) hm0 (fun n hn => by have := (hpm.out n).1 hn; omega)) fun e w40 hR => ?_
        obtain ⟨lo, hi, bb, rfl, k1, k2, k3, k4, eX⟩ := hR
        refine ⟨_, rfl, ?_⟩; clear F fa; intro fa F
        replace q3 := (eX).keep0 q3
        replace E := ext_same E (eX)
        replace EO := ext_same EO (eX)
        replace EA := ext_same EA (eX)
        replace EL4 := ext_same EL4 (eX)
        obtain ⟨rfl, rfl, rfl⟩ := range_eq hm0 hpm.out k1 k2 k3 k4
        clear k1 k2 k3 k4
        refine F.mv ?_; clear F fa; intro fa F
        refine F.vl (R_extract rfl (F.at rfl) (get0)) ?_; clear F fa; intro fa F
        refine F.vl (R_extract rfl (F.at rfl) (getS (get0))) ?_; clear F fa; intro fa F
        refine sq_new F rfl (by decide) rfl (R_alloc rfl Try.zeroValue23) ?_; clear F fa; intro fa w41 F hw
        obtain ⟨n20, hn⟩ : ∃ n, n = w40.heap.size := ⟨_, rfl⟩
        rw [← hn] at F
        have s20 : w40.heap.size ≤ n20 := Nat.le_of_eq hn.symm
        have l20_E : w.heap.size ≤ n20 := by rw [hn]; exact E.size
        have l20_EO : w2.heap.size ≤ n20 := by rw [hn]; exact EO.size
        have l20_EA : w5.heap.size ≤ n20 := by rw [hn]; exact EA.size
        have l20_EL4 : w7.heap.size ≤ n20 := by rw [hn]; exact EL4.size
        have m20_3 : n3 < n20 := by rw [hn]; exact blk_lt q3
        replace q3 := keep_alloc hw q3
        replace E := ext_alloc E hw
        replace EO := ext_alloc EO hw
        replace EA := ext_alloc EA hw
        replace EL4 := ext_alloc EL4 hw
        have q20 := new_row hw hn
        clear hw hn
        refine sq_to rfl rfl (R_storeRow rfl (F.at rfl) (F.at rfl) (by kernel_rfl) (by first | (simp [Value.oneCell']; done) | (simp [Value.oneCell', grRow, rdRow, lkRow]; done)) q20 rfl) ?_; intro w42 hw
        replace q3 := keep_cells hw q3 (by omega)
        replace q20 := put_row hw q20 rfl
        replace E := ext_cells E hw (fun h => by first | exact absurd h (by omega) | simp)
        replace EO := ext_cells EO hw (fun h => by first | exact absurd h (by omega) | simp)
        replace EA := ext_cells EA hw (fun h => by first | exact absurd h (by omega) | simp)
        replace EL4 := ext_cells EL4 hw (fun h => by first | exact absurd h (by omega) | simp)
        clear hw
        refine F.as ?_; clear F fa; intro fa F
        refine wpList_nil ?_
        refine hK42 _ _ ?_
        clear hK42
        refine wp_seq_k fun K44 hK44 => ?_
        refine wp_region_lit ?_
        refine F.vl (R_loadBlk rfl (F.at rfl) Try.underlying28 rfl (by kernel_rfl) q3) ?_; clear F fa; intro fa F
        refine F.mv ?_; clear F fa; intro fa F
        refine sq_call F rfl (by decide) rfl (R_callV rfl rfl Try.call35 (mpS (F.at rfl) (mpS (F.at rfl) mp0))) (pull_live hLv ((HT).out.ext EO (by simp)) (by omega) (by omega)) fun e w43 hR => ?_
        obtain ⟨rfl, e9⟩ := hR
        refine ⟨_, rfl, ?_⟩; clear F fa; intro fa F
        replace q3 := (e9).keep0 q3
        replace q20 := (e9).keep0 q20
        replace E := ext_same E (e9)
        replace EO := ext_same EO (e9)
        replace EA := ext_same EA (e9)
        replace EL4 := ext_same EL4 (e9)
        clear e9
        refine F.mv ?_; clear F fa; intro fa F
        refine F.vl (R_extract rfl (F.at rfl) (get0)) ?_; clear F fa; intro fa F
        refine F.vl (R_extract rfl (F.at rfl) (getS (get0))) ?_; clear F fa; intro fa F
        refine sq_new F rfl (by decide) rfl (R_alloc rfl Try.zeroValue23) ?_; clear F fa; intro fa w44 F hw
        obtain ⟨n22, hn⟩ : ∃ n, n = w43.heap.size := ⟨_, rfl⟩
        rw [← hn] at F
        have s22 : w43.heap.size ≤ n22 := Nat.le_of_eq hn.symm
        have l22_E : w.heap.size ≤ n22 := by rw [hn]; exact E.size
        have l22_EO : w2.heap.size ≤ n22 := by rw [hn]; exact EO.size
        have l22_EA : w5.heap.size ≤ n22 := by rw [hn]; exact EA.size
        have l22_EL4 : w7.heap.size ≤ n22 := by rw [hn]; exact EL4.size
        have m22_3 : n3 < n22 := by rw [hn]; exact blk_lt q3
        have m22_20 : n20 < n22 := by rw [hn]; exact blk_lt q20
        replace q3 := keep_alloc hw q3
        replace q20 := keep_alloc hw q20
        replace E := ext_alloc E hw
        replace EO := ext_alloc EO hw
        replace EA := ext_alloc EA hw
        replace EL4 := ext_alloc EL4 hw
        have q22 := new_row hw hn
        clear hw hn
        refine sq_to rfl rfl (R_storeRow rfl (F.at rfl) (F.at rfl) (by kernel_rfl) (by first | (simp [Value.oneCell']; done) | (simp [Value.oneCell', grRow, rdRow, lkRow]; done)) q22 rfl) ?_; intro w45 hw
        replace q3 := keep_cells hw q3 (by omega)
        replace q20 := keep_cells hw q20 (by omega)
        replace q22 := put_row hw q22 rfl
        replace E := ext_cells E hw (fun h => by first | exact absurd h (by omega) | simp)
        replace EO := ext_cells EO hw (fun h => by first | exact absurd h (by omega) | simp)
        replace EA := ext_cells EA hw (fun h => by first | exact absurd h (by omega) | simp)
        replace EL4 := ext_cells EL4 hw (fun h => by first | exact absurd h (by omega) | simp)
        clear hw
        refine F.as ?_; clear F fa; intro fa F
        refine wpList_nil ?_
        refine hK44 _ _ ?_
        clear hK44
        refine wp_seq_k fun K45 hK45 => ?_
        refine wp_region_lit ?_
        refine F.mv ?_; clear F fa; intro fa F
        refine F.vl (R_neqB (b := false) rfl (F.at rfl) (ev_c fa _) (by decide)) ?_; clear F fa; intro fa F
        refine F.mv ?_; clear F fa; intro fa F
        refine F.vl (R_loadBlk rfl (F.at rfl) Try.underlying23 rfl (by kernel_rfl) q22) ?_ (hw := (wantT F rfl rfl (by decide) rfl)); clear F fa; intro fa F
        refine F.vl (R_loadBlk rfl (F.at rfl) Try.underlying23 rfl (by kernel_rfl) q20) ?_ (hw := (wantT F rfl rfl (by decide) rfl)); clear F fa; intro fa F
        refine F.vl (R_neqBt (r := false) rfl (F.at rfl) (F.at rfl) (by simp)) ?_ (hw := (wantT F rfl rfl (by decide) rfl)); clear F fa; intro fa F
        refine F.vl (R_pickF rfl (F.at rfl) (F.at rfl)) ?_; clear F fa; intro fa F
        refine F.mv ?_; clear F fa; intro fa F
        refine F.mv ?_ (hw := (wantT F rfl rfl (by decide) rfl)); clear F fa; intro fa F
        refine F.vl (R_not rfl (F.at rfl)) ?_ (hw := (wantT F rfl rfl (by decide) rfl)); clear F fa; intro fa F
        refine F.vl (R_pickF rfl (F.at rfl) (F.at rfl)) ?_; clear F fa; intro fa F
        refine wpList_nil ?_
        refine hK45 _ _ ?_
        clear hK45
        refine cd_F F rfl ?_
        refine wp_skip ?_
        refine hK41 _ _ ?_
        clear hK41
        refine wp_region_lit ?_
        refine F.mv ?_; clear F fa; intro fa F
        refine F.vl (R_add rfl (F.at rfl) (ev_c fa _) (by omega) (by omega)) ?_; clear F fa; intro fa F
        refine F.as ?_; clear F fa; intro fa F
        refine wpList_nil ?_
        show _ ∧ _
        exact ⟨by omega, _, ⟨rfl, EL4⟩, F.sub (.c 19 rfl (.c 3 rfl (.c 5 rfl .n)))⟩
      · skip
        refine wp_exit ?_
        refine hK37 _ _ ?_
        clear hK37
        refine wp_seq_k fun K46 hK46 => ?_
        refine wp_region_lit ?_
        refine sq_call F rfl (by decide) rfl (R_callV rfl rfl Try.call25 mp0) (taken_any _) fun e w46 hR => ?_
        obtain ⟨rfl, e9⟩ := hR
        refine ⟨_, rfl, ?_⟩; clear F fa; intro fa F
        replace q3 := (e9).keep0 q3
        replace E := ext_same E (e9)
        replace EO := ext_same EO (e9)
        replace EA := ext_same EA (e9)
        clear e9
        refine F.as ?_; clear F fa; intro fa F
        refine wpList_nil ?_
        refine hK46 _ _ ?_
        clear hK46
        refine wp_ret ?_
        (try simp only [Exit.inBlock, Exit.then])
        refine rt_v F (rs_1 F rfl rfl) ?_
        exact ⟨rfl, E⟩
  · skip
    have hO1 : O.length = 0 := by cases hl : O with | nil => rfl | cons p l => exact absurd ((isT_live hokT).1 ⟨_, (hO.out p.2).1 (by rw [hl]; simp)⟩) hB
    refine wp_region_lit ?_
    refine F.vl (R_loadBlk rfl (F.at rfl) Try.underlying28 rfl (by kernel_rfl) q3) ?_; clear F fa; intro fa F
    refine sq_call F rfl (by decide) rfl (R_callV rfl rfl Try.call29 (mpS (F.at rfl) mp0)) (can_ok hokT t8 (HT.out.ext EO (by simp))) fun e w47 hR => ?_
    obtain ⟨rfl, e9⟩ := hR
    refine ⟨_, rfl, ?_⟩; clear F fa; intro fa F
    replace q3 := (e9).keep0 q3
    replace E := ext_same E (e9)
    replace EO := ext_same EO (e9)
    replace EA := ext_same EA (e9)
    clear e9
    rw [show bdB t 0 = false by simpa using hB] at F
    refine F.mv ?_; clear F fa; intro fa F
    refine F.vl (R_extract rfl (F.at rfl) (get0)) ?_; clear F fa; intro fa F
    refine F.vl (R_extract rfl (F.at rfl) (getS (get0))) ?_; clear F fa; intro fa F
    refine F.as ?_; clear F fa; intro fa F
    refine F.as ?_; clear F fa; intro fa F
    refine wpList_nil ?_
    refine hK4 _ _ ?_
    clear hK4
    refine wp_seq_k fun K47 hK47 => ?_
    refine wp_seq_k fun K48 hK48 => ?_
    refine wp_region_lit ?_
    refine F.mv ?_; clear F fa; intro fa F
    refine F.vl (R_neqB (b := false) rfl (F.at rfl) (ev_c fa _) (by decide)) ?_; clear F fa; intro fa F
    refine F.mv ?_; clear F fa; intro fa F
    refine F.mv ?_ (hw := (wantT F rfl rfl (by decide) rfl)); clear F fa; intro fa F
    refine F.mv ?_ (hw := (wantT F rfl rfl (by decide) rfl)); clear F fa; intro fa F
    refine F.vl (R_len rfl rfl (F.at rfl) Try.underlying50) ?_ (hw := (wantT F rfl rfl (by decide) rfl)); clear F fa; intro fa F
    refine F.vl (R_gtrB (b := false) rfl (F.at rfl) (ev_c fa _) (decide_eq_false ((by omega)))) ?_ (hw := (wantT F rfl rfl (by decide) rfl)); clear F fa; intro fa F
    refine F.vl ((R_neqZ rfl (F.at rfl) (F.at rfl) Try.underlying4)) ?_ (hw := (wantT F rfl rfl (by decide) rfl)); clear F fa; intro fa F
    refine F.vl (R_pickF rfl (F.at rfl) (F.at rfl)) ?_; clear F fa; intro fa F
    refine wpList_nil ?_
    refine hK48 _ _ ?_
    clear hK48
    refine cd_F F rfl ?_
    refine wp_skip ?_
    refine hK47 _ _ ?_
    clear hK47
    refine wp_seq_k fun K49 hK49 => ?_
    refine wp_seq_k fun K50 hK50 => ?_
    refine wp_region_lit ?_
    refine F.mv ?_; clear F fa; intro fa F
    refine F.vl (R_len rfl rfl (F.at rfl) Try.underlying50) ?_; clear F fa; intro fa F
    refine F.vl (R_eqlB (b := true) rfl (F.at rfl) (ev_c fa _) (decide_eq_true ((by omega)))) ?_; clear F fa; intro fa F
    refine wpList_nil ?_
    refine hK50 _ _ ?_
    clear hK50
    refine cd_T F rfl ?_
    refine wp_seq_k fun K51 hK51 => ?_
    refine wp_region_lit ?_
    refine F.vl (R_loadBlk rfl (F.at rfl) Try.underlying28 rfl (by kernel_rfl) q3) ?_; clear F fa; intro fa F
    refine sq_call F rfl (by decide) rfl (R_callV rfl rfl Try.call33 (mpS (F.at rfl) (mpS (ev_c fa _) (mpS (ev_c fa _) mp0)))) (meas_q hokT t8 (s := 0) (a := 0) (HT.out.ext EO (by simp)) (by omega) (by omega) (by omega) (by omega)) fun e w48 hR => ?_
    obtain ⟨rfl, e9⟩ := hR
    refine ⟨_, rfl, ?_⟩; clear F fa; intro fa F
    replace q3 := (e9).keep0 q3
    replace E := ext_same E (e9)
    replace EO := ext_same EO (e9)
    replace EA := ext_same EA (e9)
    clear e9
    rw [show qe t = 9 from if_neg hB] at F
    refine F.mv ?_; clear F fa; intro fa F
    refine F.vl (R_extract rfl (F.at rfl) (get0)) ?_; clear F fa; intro fa F
    refine F.vl (R_extract rfl (F.at rfl) (getS (get0))) ?_; clear F fa; intro fa F
    refine sq_new F rfl (by decide) rfl (R_alloc rfl Try.zeroValue23) ?_; clear F fa; intro fa w49 F hw
    obtain ⟨n8, hn⟩ : ∃ n, n = w48.heap.size := ⟨_, rfl⟩
    rw [← hn] at F
    have s8 : w48.heap.size ≤ n8 := Nat.le_of_eq hn.symm
    have l8_E : w.heap.size ≤ n8 := by rw [hn]; exact E.size
    have l8_EO : w2.heap.size ≤ n8 := by rw [hn]; exact EO.size
    have l8_EA : w5.heap.size ≤ n8 := by rw [hn]; exact EA.size
    have m8_3 : n3 < n8 := by rw [hn]; exact blk_lt q3
    replace q3 := keep_alloc hw q3
    replace E := ext_alloc E hw
    replace EO := ext_alloc EO hw
    replace EA := ext_alloc EA hw
    have q8 := new_row hw hn
    clear hw hn
    refine sq_to rfl rfl (R_storeRow rfl (F.at rfl) (F.at rfl) (by kernel_rfl) (by first | (simp [Value.oneCell']; done) | (simp [Value.oneCell', grRow, rdRow, lkRow]; done)) q8 rfl) ?_; intro w50 hw
    replace q3 := keep_cells hw q3 (by omega)
    replace q8 := put_row hw q8 rfl
    replace E := ext_cells E hw (fun h => by first | exact absurd h (by omega) | simp)
    replace EO := ext_cells EO hw (fun h => by first | exact absurd h (by omega) | simp)
    replace EA := ext_cells EA hw (fun h => by first | exact absurd h (by omega) | simp)
    clear hw
    refine F.as ?_; clear F fa; intro fa F
    refine wpList_nil ?_
    refine hK51 _ _ ?_
    clear hK51
    refine wp_seq_k fun K52 hK52 => ?_
    refine wp_region_lit ?_
    refine F.mv ?_; clear F fa; intro fa F
    refine F.vl (R_eqlB (b := true) rfl (F.at rfl) (ev_c fa _) (by decide)) ?_; clear F fa; intro fa F
    refine F.mv ?_; clear F fa; intro fa F
    refine sq_call F rfl (by decide) (wantT F rfl rfl (by decide) rfl) (R_callV rfl rfl Try.call25 mp0) (taken_any _) fun e w51 hR => ?_
    obtain ⟨rfl, e9⟩ := hR
    refine ⟨_, rfl, ?_⟩; clear F fa; intro fa F
    replace q3 := (e9).keep0 q3
    replace q8 := (e9).keep0 q8
    replace E := ext_same E (e9)
    replace EO := ext_same EO (e9)
    replace EA := ext_same EA (e9)
    clear e9
    refine F.vl (R_pickT rfl (F.at rfl) (F.at rfl)) ?_; clear F fa; intro fa F
    refine F.as ?_; clear F fa; intro fa F
    refine wpList_nil ?_
    refine hK52 _ _ ?_
    clear hK52
    refine wp_ret ?_
    (try simp only [Exit.inBlock, Exit.then])
    refine rt_v F (rs_1 F rfl rfl) ?_
    exact ⟨rfl, E⟩
end Go.Proofs.Ytholfdgebdlgjaa
