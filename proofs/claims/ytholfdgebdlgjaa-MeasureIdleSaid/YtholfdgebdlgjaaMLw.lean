/- What is asked of tapes that have a truth: plain facts. The tapes are valid and have a truth. -/
import Derived.Test.YtholfdgebdlgjaaTknP
import Derived.Test.YtholfdgebdlgjaaWid
import Derived.Test.YtholfdgebdlgjaaMofT
namespace Go.Proofs.Ytholfdgebdlgjaa
open Go.RowKit
set_option linter.unusedVariables false
theorem check_of {t : Tp} (ok : t.Ok) (h : t.rd.length ≤ 8) : checkE t = 0 := checkE_zero.2 ⟨ok, h⟩
theorem open_known {t : Tp} (hc : checkE t = 0) {xs : Nat → List Int} (h : ∀ i, i < 3 → ∀ n ∈ xs i, 0 ≤ n ∧ n < lim t i) : openE t xs = 0 := by
  refine open_of hc (firstE_zero.2 fun e he => ?_)
  obtain ⟨i, hi, rfl⟩ := List.mem_map.1 he
  refine firstE_zero.2 fun e he => ?_
  obtain ⟨n, hn, rfl⟩ := List.mem_map.1 he
  exact knownE_zero.2 (h i (List.mem_range.1 hi) n hn)
theorem known_sel {t : Tp} {x y z : List Int} (h0 : ∀ n ∈ x, 0 ≤ n ∧ n < t.S) (h1 : ∀ n ∈ y, 0 ≤ n ∧ n < t.A) (h2 : ∀ n ∈ z, 0 ≤ n ∧ n < t.T) : ∀ i, i < 3 → ∀ n ∈ sel3 x y z i, 0 ≤ n ∧ n < lim t i := by
  intro i hi n hn
  rcases i with _ | _ | _ | i
  · exact h0 n hn
  · exact h1 n hn
  · exact h2 n hn
  · omega
/-- Tapes that are valid and have a truth. -/
structure Tp.Live (t : Tp) : Prop where
  ok : t.Ok
  rd8 : t.rd.length ≤ 8
  tr : ∃ x, Tr t 0 x
theorem Made.live {t : Tp} {ms : List (List Int)} {ps : List Int} (h : Made t ms ps) : t.Live := ⟨h.ok, by have := h.rdl; omega, _, h.tr 0⟩
theorem Tp.Live.check {t : Tp} (h : t.Live) : checkE t = 0 := check_of h.ok h.rd8
theorem Tp.Live.some {t : Tp} (h : t.Live) : ∃ y, kTo (looseM t 0) 13 = some y := by
  obtain ⟨x, hx⟩ := h.tr
  exact bd_some h.ok hx
theorem Tp.Live.bdB {t : Tp} (h : t.Live) : bdB t 0 = true := by
  obtain ⟨y, hy⟩ := h.some
  exact bdB_some hy
theorem Tp.Live.can {t : Tp} (h : t.Live) : canB t = true := by rw [canB, if_pos h.check, h.bdB]
theorem Tp.Live.closed {t : Tp} (h : t.Live) : closedM (bdV t 0) ∧ ∀ i, i < 13 → bdV t 0 i i = 0 := by
  obtain ⟨y, hy⟩ := h.some
  rw [bdV_some hy]
  exact ⟨closed_of_round (fun p _ => by rw [(small_loose h.ok 0).2 p]; exact Int.le_refl _) hy, fun i hi => (bd_reach h.ok hy hi).2⟩
theorem Tp.Live.tri {t : Tp} (h : t.Live) (i j k : Nat) (hi : i < 13) (hj : j < 13) (hk : k < 13) : bdV t 0 i j ≤ bdV t 0 i k + bdV t 0 k j := h.closed.1.2 k i j hk hi hj
theorem Tp.Live.diag {t : Tp} (h : t.Live) (i : Nat) (hi : i < 13) : bdV t 0 i i = 0 := h.closed.2 i hi
theorem Tp.Live.solved {t : Tp} (h : t.Live) {x y z : List Int} (h0 : ∀ n ∈ x, 0 ≤ n ∧ n < t.S) (h1 : ∀ n ∈ y, 0 ≤ n ∧ n < t.A) (h2 : ∀ n ∈ z, 0 ≤ n ∧ n < t.T) : solvedE t (sel3 x y z) = 0 :=
  solved_of (open_known h.check (known_sel h0 h1 h2)) h.bdB
theorem Tp.Ok.nodeC_lt {t : Tp} (h : t.Ok) {s a : Int} (hs0 : 0 ≤ s) (hs : s < t.S) (ha0 : 0 ≤ a) (ha : a < t.A) : nodeC s a < 13 ∧ 0 < nodeC s a := by
  have := h.S3
  have := h.A3
  unfold nodeC; omega
theorem Tp.Ok.nodeT_lt {t : Tp} (h : t.Ok) {i : Int} (h0 : 0 ≤ i) (hi : i < t.T) : nodeT i < 13 ∧ 0 < nodeT i := by
  have := h.T3
  unfold nodeT; omega
theorem Tp.Live.meas {t : Tp} (h : t.Live) {s a : Int} (hs0 : 0 ≤ s) (hs : s < t.S) (ha0 : 0 ≤ a) (ha : a < t.A) : measE t s a = 0 ∧ measV t s a = (-(bdV t 0 (nodeC s a) 0), bdV t 0 0 (nodeC s a)) := by
  have e : measE t s a = 0 := h.solved (by simp; omega) (by simp; omega) (by simp)
  exact ⟨e, by rw [measV, if_pos e]⟩
theorem Tp.Live.pull {t : Tp} (h : t.Live) {i : Int} (h0 : 0 ≤ i) (hi : i < t.T) : pullE t i = 0 ∧ pullV t i = (-(bdV t 0 0 (nodeT i)), bdV t 0 (nodeT i) 0) := by
  have e : pullE t i = 0 := h.solved (by simp) (by simp) (by simp; omega)
  exact ⟨e, by rw [pullV, if_pos e]⟩
theorem Tp.Live.apart {t : Tp} (h : t.Live) {s a o b : Int} (hs0 : 0 ≤ s) (hs : s < t.S) (ha0 : 0 ≤ a) (ha : a < t.A) (ho0 : 0 ≤ o) (ho : o < t.S) (hb0 : 0 ≤ b) (hb : b < t.A) :
    apartE t s a o b = 0 ∧ apartV t s a o b = (-(bdV t 0 (nodeC s a) (nodeC o b)), bdV t 0 (nodeC o b) (nodeC s a)) := by
  have e : apartE t s a o b = 0 := h.solved (by simp; omega) (by simp; omega) (by simp)
  exact ⟨e, by rw [apartV, if_pos e]⟩
theorem Tp.Live.wid_eq {t : Tp} (h : t.Live) {s a : Int} (hs0 : 0 ≤ s) (hs : s < t.S) (ha0 : 0 ≤ a) (ha : a < t.A) : widE t s s a = 4 ∧ widV t s s a = 0 := by
  have e : openE t (sel3 [s, s] [a] []) = 0 := open_known h.check (known_sel (by simp; omega) (by simp; omega) (by simp))
  have e2 : widE t s s a = 4 := by rw [widE, if_neg (by rw [e]; decide), if_pos rfl]
  exact ⟨e2, by rw [widV, e2]; rfl⟩
theorem Tp.Live.wid {t : Tp} (h : t.Live) {s o a : Int} (hs0 : 0 ≤ s) (hs : s < t.S) (ho0 : 0 ≤ o) (ho : o < t.S) (ha0 : 0 ≤ a) (ha : a < t.A) (hne : s ≠ o) :
    widE t s o a = 0 ∧ widV t s o a = if 0 < (apartV t s a o a).1 then 1 else if (apartV t s a o a).2 ≤ 0 then 2 else 3 := by
  have e : openE t (sel3 [s, o] [a] []) = 0 := open_known h.check (known_sel (by simp; omega) (by simp; omega) (by simp))
  have e2 : widE t s o a = 0 := by rw [widE, if_neg (by rw [e]; decide), if_neg hne]; exact (h.apart hs0 hs ha0 ha ho0 ho ha0 ha).1
  exact ⟨e2, by rw [widV, if_pos e2]⟩
theorem live_cellI {t : Tp} {s a : Int} (hs0 : 0 ≤ s) (hs : s < t.S) (ha0 : 0 ≤ a) (ha : a < t.A) : live t (nodeC s a) := by
  obtain ⟨s, rfl⟩ := Int.eq_ofNat_of_zero_le hs0
  obtain ⟨a, rfl⟩ := Int.eq_ofNat_of_zero_le ha0
  exact live_cell hs ha
theorem live_tailI {t : Tp} {i : Int} (h0 : 0 ≤ i) (hi : i < t.T) : live t (nodeT i) := by
  obtain ⟨i, rfl⟩ := Int.eq_ofNat_of_zero_le h0
  exact live_tail hi
theorem Tp.Live.near {t : Tp} (h : t.Live) {i j : Nat} (hi : live t i) (hj : live t j) : -2000 ≤ bdV t 0 i j ∧ bdV t 0 i j ≤ 2000 := by
  obtain ⟨y, hy⟩ := h.some
  rw [bdV_some hy]
  obtain ⟨r1, r2⟩ := bd_reach h.ok hy (live_lt h.ok hi)
  have a := r1.near h.ok hj
  have b := r1.near h.ok hi
  try simp only at a b
  omega
/-- The rows of lists of one's own. -/
theorem tp_of_owns {w : World} {b1 b2 b3 : Nat} {t : Tp} {gv rv lv : Value} (og : w.ownsRow b1 23 2 gv t.gr.length (flatG t.gr)) (orr : w.ownsRow b2 66 4 rv t.rd.length (flatR t.rd)) (olk : w.ownsRow b3 75 6 lv t.lk.length (flatK t.lk)) : IsTp w gv rv lv t :=
  ⟨rows_of_owns (row := grRow) og (fun _ => rfl), rows_of_owns (row := rdRow) orr (fun _ => rfl), rows_of_owns (row := lkRow) olk (fun _ => rfl)⟩
theorem rows_of_isRow {w : World} {a : Option Addr} {n c : Nat} {zs : List Int} (h : IsRow .i64 w a n c zs) : ∃ xs : List Int, xs.length = n ∧ IsRows w (.slice a n c) 1 (xs.map intRow) := by
  rcases h with ⟨rfl, rfl, rfl, rfl⟩ | ⟨x, rfl, hl, hm, hz, hc, hw⟩
  · exact ⟨[], rfl, rows_nil _ _ _⟩
  · have hlen : (zs.take n).length = n := by rw [List.length_take]; omega
    refine ⟨zs.take n, hlen, some x, c, by rw [List.length_map, hlen], fun r hr => ?_, fun hne => ?_⟩
    · obtain ⟨y, -, rfl⟩ := List.mem_map.1 hr; rfl
    · have hn : 0 < n := by
        rcases Nat.eq_zero_or_pos n with h | h
        · subst h; simp at hne
        · exact h
      obtain ⟨b, off, sp⟩ := x
      have h0 := hc 0 (by omega)
      have hsp : sp = none := by
        cases sp with
        | none => rfl
        | some k =>
          simp only [World.cell?, Addr.add] at h0
          split at h0 <;> simp at h0
      subst hsp
      refine ⟨b, off, rfl, World.block_lt_of_cell? w _ h0, fun i j r hi hj => ?_⟩
      have hil : i < n := by
        have := (List.getElem?_eq_some_iff.1 hi).1
        rw [List.length_map, hlen] at this; exact this
      obtain rfl : j = 0 := by omega
      have hci := hc i (by omega)
      rw [Addr.add_lit] at hci
      rw [Nat.mul_one, Nat.add_zero, hci]
      rw [List.getElem?_map, List.getElem?_take_of_lt hil] at hi
      cases hz' : zs[i]? with
      | none => rw [hz'] at hi; simp at hi
      | some v =>
        rw [hz'] at hi
        simp only [Option.map_some, Option.some.injEq] at hi
        subst hi
        simp [intRow, List.getD, hz']
end Go.Proofs.Ytholfdgebdlgjaa
