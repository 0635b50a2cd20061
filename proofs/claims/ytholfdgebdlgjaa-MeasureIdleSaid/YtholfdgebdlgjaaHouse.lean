/- The chapter's examples: what the bounds of their tapes are. No conditions. -/
import Derived.Test.YtholfdgebdlgjaaTru
namespace Go.Proofs.Ytholfdgebdlgjaa
open Go.RowKit
set_option linter.unusedVariables false
def cellB (t : Tp) (x : Nat → Int) (s a : Nat) : Bool :=
  decide (t.bl ≤ x (nodeC s a) - x 0) && decide (x (nodeC s a) - x 0 ≤ t.bm) && (decide (a = 0) || (decide ((t.gr.getD s (0, 0)).1 ≤ x (nodeC s a) - x (nodeC s ((a : Int) - 1))) && decide (x (nodeC s a) - x (nodeC s ((a : Int) - 1)) ≤ (t.gr.getD s (0, 0)).2)))
def tailB (t : Tp) (x : Nat → Int) (i : Nat) : Bool := decide (-t.pm ≤ x (nodeT i) - x 0) && decide (x (nodeT i) - x 0 ≤ -t.pl)
def readB (t : Tp) (x : Nat → Int) (r : Int × Int × Int × Int) : Bool := decide (r.2.2.2 - t.sl ≤ x (nodeC r.1 r.2.1) - x (nodeT r.2.2.1)) && decide (x (nodeC r.1 r.2.1) - x (nodeT r.2.2.1) ≤ r.2.2.2 + t.sl)
def linkB (x : Nat → Int) (l : Int × Int × Int × Int × Int × Int) : Bool := decide (l.2.2.2.2.1 ≤ x (nodeC l.1 l.2.1) - x (nodeC l.2.2.1 l.2.2.2.1)) && decide (x (nodeC l.1 l.2.1) - x (nodeC l.2.2.1 l.2.2.2.1) ≤ l.2.2.2.2.2)
theorem cellB_iff {t : Tp} {x : Nat → Int} {s a : Nat} : cellB t x s a = true ↔ CellOk t s a x := by
  unfold cellB
  simp only [Bool.and_eq_true, Bool.or_eq_true, decide_eq_true_eq]
  constructor
  · rintro ⟨⟨h1, h2⟩, h3⟩
    exact ⟨h1, h2, fun h => by rcases h3 with h3 | h3; (omega); exact h3.1, fun h => by rcases h3 with h3 | h3; (omega); exact h3.2⟩
  · rintro ⟨h1, h2, h3, h4⟩
    refine ⟨⟨h1, h2⟩, ?_⟩
    by_cases h : a = 0
    · exact .inl h
    · exact .inr ⟨h3 (by omega), h4 (by omega)⟩
theorem tailB_iff {t : Tp} {x : Nat → Int} {i : Nat} : tailB t x i = true ↔ TailOk t i x := by
  unfold tailB
  simp only [Bool.and_eq_true, decide_eq_true_eq]
  exact ⟨fun h => ⟨h.1, h.2⟩, fun h => ⟨h.lo, h.hi⟩⟩
theorem readB_iff {t : Tp} {x : Nat → Int} {r : Int × Int × Int × Int} : readB t x r = true ↔ ReadOk t r x := by
  unfold readB
  simp only [Bool.and_eq_true, decide_eq_true_eq]
  exact ⟨fun h => ⟨h.1, h.2⟩, fun h => ⟨h.lo, h.hi⟩⟩
theorem linkB_iff {x : Nat → Int} {l : Int × Int × Int × Int × Int × Int} : linkB x l = true ↔ LinkOk l x := by
  unfold linkB
  simp only [Bool.and_eq_true, decide_eq_true_eq]
  exact ⟨fun h => ⟨h.1, h.2⟩, fun h => ⟨h.lo, h.hi⟩⟩
/-- Whether x is a truth, by going through all that is asked. -/
def trB (t : Tp) (out : Int) (x : Nat → Int) : Bool :=
  ((List.range t.S.toNat).all fun s => (List.range t.A.toNat).all fun a => cellB t x s a) &&
  ((List.range t.T.toNat).all fun i => tailB t x i) &&
  ((List.range t.rd.length).all fun i => hasB out i || readB t x (t.rd.getD i (0, 0, 0, 0))) &&
  ((List.range t.lk.length).all fun i => linkB x (t.lk.getD i (0, 0, 0, 0, 0, 0)))
theorem trB_iff {t : Tp} {out : Int} {x : Nat → Int} : trB t out x = true ↔ Tr t out x := by
  unfold trB
  simp only [Bool.and_eq_true, Bool.or_eq_true, List.all_eq_true, List.mem_range, cellB_iff, tailB_iff, readB_iff, linkB_iff]
  constructor
  · rintro ⟨⟨⟨h1, h2⟩, h3⟩, h4⟩
    refine ⟨fun s a hs ha => h1 s (by omega) a (by omega), fun i hi => h2 i (by omega), fun i hi hb => ?_, h4⟩
    rcases h3 i hi with h | h
    · rw [hb] at h; cases h
    · exact h
  · rintro ⟨h1, h2, h3, h4⟩
    refine ⟨⟨⟨fun s hs a ha => h1 s a (by omega) (by omega), fun i hi => h2 i (by omega)⟩, fun i hi => ?_⟩, h4⟩
    cases hb : hasB out i
    · exact .inr (h3 i hi hb)
    · exact .inl rfl
/-- The tapes S of the chapter's examples, with readings more. -/
def houseT (more : List (Int × Int × Int × Int)) : Tp :=
  { S := 2, A := 2, T := 2, bl := 60, bm := 120, pl := -3, pm := 3, sl := 1, gr := [(0, 4), (-2, 2)], rd := [(0, 0, 0, 90), (0, 1, 1, 97), (1, 0, 0, 84), (1, 1, 1, 88)] ++ more, lk := [] }
/-- The tapes U of the chapter's examples, with readings. -/
def aloneT (rd : List (Int × Int × Int × Int)) : Tp :=
  { S := 1, A := 1, T := 2, bl := 60, bm := 120, pl := -3, pm := 3, sl := 1, gr := [(0, 0)], rd := rd, lk := [] }
theorem house_ok : (houseT []).Ok := by
  constructor <;> simp [houseT]
theorem house9_ok : (houseT [(0, 0, 1, 99)]).Ok := by
  constructor <;> simp [houseT]
theorem alone_ok : (aloneT []).Ok := by
  constructor <;> simp [aloneT]
theorem alone1_ok (i tape : Int) (h1 : 0 ≤ i) (h2 : i < 2) (h3 : 0 ≤ tape) (h4 : tape ≤ 250) : (aloneT [(0, 0, i, tape)]).Ok := by
  constructor <;> simp [aloneT, *]
/-- A list of numbers as a valuation of the nodes. -/
def val (l : List Int) : Nat → Int := fun i => l.getD i 0
theorem house_le {x : Nat → Int} (h : Tr (houseT []) 0 x) : 89 ≤ x 1 - x 0 ∧ x 1 - x 0 ≤ 94 ∧ x 10 - x 0 ≤ 3 ∧ -2 ≤ x 10 - x 0 ∧ 4 ≤ x 1 - x 4 ∧ x 1 - x 4 ≤ 8 := by
  have c1 := h.cell 0 0 (by decide) (by decide)
  have c2 := h.cell 0 1 (by decide) (by decide)
  have c3 := h.cell 1 0 (by decide) (by decide)
  have c4 := h.cell 1 1 (by decide) (by decide)
  have d1 := h.tail 0 (by decide)
  have d2 := h.tail 1 (by decide)
  have r1 := h.read 0 (by decide) (by decide)
  have r2 := h.read 1 (by decide) (by decide)
  have r3 := h.read 2 (by decide) (by decide)
  have r4 := h.read 3 (by decide) (by decide)
  have a1 : (60 : Int) ≤ x 1 - x 0 := c1.lo
  have a2 : x 1 - x 0 ≤ 120 := c1.hi
  have a3 : (0 : Int) ≤ x 2 - x 1 := c2.glo (by decide)
  have a4 : x 2 - x 1 ≤ 4 := c2.ghi (by decide)
  have a5 : (-2 : Int) ≤ x 5 - x 4 := c4.glo (by decide)
  have a6 : x 5 - x 4 ≤ 2 := c4.ghi (by decide)
  have b1 : (-3 : Int) ≤ x 10 - x 0 := d1.lo
  have b2 : x 10 - x 0 ≤ 3 := d1.hi
  have b3 : (-3 : Int) ≤ x 11 - x 0 := d2.lo
  have b4 : x 11 - x 0 ≤ 3 := d2.hi
  have e1 : (90 : Int) - 1 ≤ x 1 - x 10 := r1.lo
  have e2 : x 1 - x 10 ≤ 90 + 1 := r1.hi
  have e3 : (97 : Int) - 1 ≤ x 2 - x 11 := r2.lo
  have e4 : x 2 - x 11 ≤ 97 + 1 := r2.hi
  have e5 : (84 : Int) - 1 ≤ x 4 - x 10 := r3.lo
  have e6 : x 4 - x 10 ≤ 84 + 1 := r3.hi
  have e7 : (88 : Int) - 1 ≤ x 5 - x 11 := r4.lo
  have e8 : x 5 - x 11 ≤ 88 + 1 := r4.hi
  omega
def xa : Nat → Int := val [0, 94, 94, 0, 86, 84, 0, 0, 0, 0, 3, -3]
def xb : Nat → Int := val [0, 89, 93, 0, 82, 84, 0, 0, 0, 0, -2, -3]
def xc : Nat → Int := val [0, 90, 93, 0, 82, 84, 0, 0, 0, 0, -1, -3]
def xd : Nat → Int := val [0, 89, 93, 0, 85, 84, 0, 0, 0, 0, 0, -3]
def xe : Nat → Int := val [0, 98, 98, 0, 90, 90, 0, 0, 0, 0, 0, 0]
theorem tr_a : Tr (houseT []) 0 xa := trB_iff.1 (by decide +kernel)
theorem tr_b : Tr (houseT []) 0 xb := trB_iff.1 (by decide +kernel)
theorem tr_c : Tr (houseT []) 0 xc := trB_iff.1 (by decide +kernel)
theorem tr_d : Tr (houseT []) 0 xd := trB_iff.1 (by decide +kernel)
theorem lv0 : live (houseT []) 0 := live_zero _
theorem lv1 : live (houseT []) 1 := live_cell (t := houseT []) (s := 0) (a := 0) (by decide) (by decide)
theorem lv4 : live (houseT []) 4 := live_cell (t := houseT []) (s := 1) (a := 0) (by decide) (by decide)
theorem lv10 : live (houseT []) 10 := live_tail (t := houseT []) (k := 0) (by decide)
/-- The bounds of the example's tapes. -/
theorem house_bd : ∃ y, kTo (looseM (houseT []) 0) 13 = some y ∧ y 0 1 = 94 ∧ y 1 0 = -89 ∧ y 10 0 = 2 ∧ y 0 10 = 3 ∧ y 4 1 = 8 ∧ y 1 4 = -4 := by
  obtain ⟨y, hy⟩ := bd_some house_ok tr_a
  refine ⟨y, hy, ?_, ?_, ?_, ?_, ?_, ?_⟩
  · exact bd_eq house_ok hy lv0 lv1 (fun x h => (house_le h).2.1) tr_a (by decide +kernel)
  · exact bd_eq house_ok hy lv1 lv0 (fun x h => by have := (house_le h).1; omega) tr_b (by decide +kernel)
  · exact bd_eq house_ok hy lv10 lv0 (fun x h => by have := house_le h; omega) tr_b (by decide +kernel)
  · exact bd_eq house_ok hy lv0 lv10 (fun x h => by have := house_le h; omega) tr_a (by decide +kernel)
  · exact bd_eq house_ok hy lv4 lv1 (fun x h => by have := house_le h; omega) tr_c (by decide +kernel)
  · exact bd_eq house_ok hy lv1 lv4 (fun x h => by have := house_le h; omega) tr_d (by decide +kernel)
/-- Which readings alone leave no truth, in the example of a ring: the sets that come before have one. -/
theorem ring_no (s : Int) (hs : s ∈ [0, 1, 2, 4, 8, 16, 3, 5, 9]) : ∃ y, kTo (looseM (houseT [(0, 0, 1, 99)]) (31 - s)) 13 = some y := by
  simp only [List.mem_cons, List.not_mem_nil, or_false] at hs
  rcases hs with rfl | rfl | rfl | rfl | rfl | rfl | rfl | rfl | rfl
  · exact bd_some house9_ok (x := xa) (trB_iff.1 (by decide +kernel))
  · exact bd_some house9_ok (x := xa) (trB_iff.1 (by decide +kernel))
  · exact bd_some house9_ok (x := xa) (trB_iff.1 (by decide +kernel))
  · exact bd_some house9_ok (x := xa) (trB_iff.1 (by decide +kernel))
  · exact bd_some house9_ok (x := xa) (trB_iff.1 (by decide +kernel))
  · exact bd_some house9_ok (x := xe) (trB_iff.1 (by decide +kernel))
  · exact bd_some house9_ok (x := xa) (trB_iff.1 (by decide +kernel))
  · exact bd_some house9_ok (x := xa) (trB_iff.1 (by decide +kernel))
  · exact bd_some house9_ok (x := xa) (trB_iff.1 (by decide +kernel))
theorem ring_yes : kTo (looseM (houseT [(0, 0, 1, 99)]) 14) 13 = none := by
  refine (bd_none house9_ok).2 ?_
  rintro ⟨x, h⟩
  have d1 := h.tail 0 (by decide)
  have d2 := h.tail 1 (by decide)
  have r1 := h.read 0 (by decide) (by decide)
  have r5 := h.read 4 (by decide) (by decide)
  have b1 : (-3 : Int) ≤ x 10 - x 0 := d1.lo
  have b2 : x 10 - x 0 ≤ 3 := d1.hi
  have b3 : (-3 : Int) ≤ x 11 - x 0 := d2.lo
  have b4 : x 11 - x 0 ≤ 3 := d2.hi
  have e1 : (90 : Int) - 1 ≤ x 1 - x 10 := r1.lo
  have e2 : x 1 - x 10 ≤ 90 + 1 := r1.hi
  have e3 : (99 : Int) - 1 ≤ x 1 - x 11 := r5.lo
  have e4 : x 1 - x 11 ≤ 99 + 1 := r5.hi
  omega
theorem alone_bd : ∃ y, kTo (looseM (aloneT []) 0) 13 = some y ∧ y 0 1 = 120 ∧ y 1 0 = -60 ∧ (∀ i : Nat, i < 2 → y 1 (10 + i) = -57 ∧ y (10 + i) 1 = 123) := by
  have t1 : Tr (aloneT []) 0 (val [0, 120, 0, 0, 0, 0, 0, 0, 0, 0, -3, -3]) := trB_iff.1 (by decide +kernel)
  have t2 : Tr (aloneT []) 0 (val [0, 60, 0, 0, 0, 0, 0, 0, 0, 0, 3, 3]) := trB_iff.1 (by decide +kernel)
  have l0 : live (aloneT []) 0 := live_zero _
  have l1 : live (aloneT []) 1 := live_cell (t := aloneT []) (s := 0) (a := 0) (by decide) (by decide)
  have lt : ∀ i : Nat, i < 2 → live (aloneT []) (10 + i) := fun i hi => by
    have := live_tail (t := aloneT []) (k := i) (by simp [aloneT]; omega)
    rwa [show nodeT (i : Int) = 10 + i by unfold nodeT; omega] at this
  have le : ∀ x, Tr (aloneT []) 0 x → 60 ≤ x 1 - x 0 ∧ x 1 - x 0 ≤ 120 ∧ ∀ i : Nat, i < 2 → -3 ≤ x (10 + i) - x 0 ∧ x (10 + i) - x 0 ≤ 3 := fun x h => by
    have c := h.cell 0 0 (by decide) (by decide)
    refine ⟨c.lo, c.hi, fun i hi => ?_⟩
    have d := h.tail i (by simp [aloneT]; omega)
    have d1 := d.lo
    have d2 := d.hi
    rw [show nodeT (i : Int) = 10 + i by unfold nodeT; omega] at d1 d2
    exact ⟨d1, d2⟩
  obtain ⟨y, hy⟩ := bd_some alone_ok t1
  refine ⟨y, hy, ?_, ?_, fun i hi => ⟨?_, ?_⟩⟩
  · exact bd_eq alone_ok hy l0 l1 (fun x h => (le x h).2.1) t1 (by decide +kernel)
  · exact bd_eq alone_ok hy l1 l0 (fun x h => by have := le x h; omega) t2 (by decide +kernel)
  · exact bd_eq alone_ok hy l1 (lt i hi) (fun x h => by have := le x h; have := this.2.2 i hi; omega) t2 (by rcases i with _ | _ | i; (decide +kernel); (decide +kernel); omega)
  · exact bd_eq alone_ok hy (lt i hi) l1 (fun x h => by have := le x h; have := this.2.2 i hi; omega) t1 (by rcases i with _ | _ | i; (decide +kernel); (decide +kernel); omega)
/-- A tape more, in the example of a next reading. -/
theorem alone_tape (i : Nat) (hi : i < 2) (tape : Int) (h1 : 56 ≤ tape) (h2 : tape ≤ 124) :
    ∃ y, kTo (looseM (aloneT [(0, 0, i, tape)]) 0) 13 = some y ∧ y 0 1 = min 120 (tape + 4) ∧ y 1 0 = -(max 60 (tape - 4)) := by
  have ok := alone1_ok i tape (by omega) (by omega) (by omega) (by omega)
  have l0 : live (aloneT [(0, 0, i, tape)]) 0 := live_zero _
  have l1 : live (aloneT [(0, 0, i, tape)]) 1 := live_cell (t := aloneT [(0, 0, i, tape)]) (s := 0) (a := 0) (by simp [aloneT]) (by simp [aloneT])
  have le : ∀ x, Tr (aloneT [(0, 0, i, tape)]) 0 x → 60 ≤ x 1 - x 0 ∧ x 1 - x 0 ≤ 120 ∧ tape - 4 ≤ x 1 - x 0 ∧ x 1 - x 0 ≤ tape + 4 := fun x h => by
    have c := h.cell 0 0 (by simp [aloneT]) (by simp [aloneT])
    have d := h.tail i (by simp [aloneT]; omega)
    have r := h.read 0 (by simp [aloneT]) (by decide)
    have c1 : (60 : Int) ≤ x 1 - x 0 := c.lo
    have c2 : x 1 - x 0 ≤ 120 := c.hi
    have d1 : (-3 : Int) ≤ x (nodeT i) - x 0 := d.lo
    have d2 : x (nodeT i) - x 0 ≤ 3 := d.hi
    have r1 : tape - 1 ≤ x 1 - x (nodeT i) := r.lo
    have r2 : x 1 - x (nodeT i) ≤ tape + 1 := r.hi
    omega
  have mk : ∀ n p : Int, 60 ≤ n → n ≤ 120 → -3 ≤ p → p ≤ 3 → tape - 1 ≤ n - p → n - p ≤ tape + 1 → Tr (aloneT [(0, 0, i, tape)]) 0 (fun k => if k = 1 then n else if k < 10 then 0 else p) := fun n p a1 a2 a3 a4 a5 a6 => by
    refine ⟨fun s a hs ha => ?_, fun k hk => ?_, fun k hk _ => ?_, fun k hk => ?_⟩
    · simp only [aloneT] at hs ha
      obtain rfl : s = 0 := by omega
      obtain rfl : a = 0 := by omega
      constructor <;> simp [aloneT, nodeC] <;> omega
    · simp only [aloneT] at hk
      have e : nodeT (k : Int) = 10 + k := by unfold nodeT; omega
      constructor <;> simp [aloneT, e] <;> omega
    · simp only [aloneT, List.length_cons, List.length_nil] at hk
      obtain rfl : k = 0 := by omega
      have e : nodeT (i : Int) = 10 + i := by unfold nodeT; omega
      constructor <;> simp [aloneT, nodeC, e] <;> omega
    · simp [aloneT] at hk
  obtain ⟨y, hy⟩ := bd_some ok (mk (max 60 (tape - 4)) (max 60 (tape - 4) - tape + min 1 (tape - max 60 (tape - 4) + 3)) (by omega) (by omega) (by omega) (by omega) (by omega) (by omega))
  refine ⟨y, hy, ?_, ?_⟩
  · exact bd_eq ok hy l0 l1 (fun x h => by have := le x h; omega) (mk (min 120 (tape + 4)) (min 3 (min 120 (tape + 4) - tape + 1)) (by omega) (by omega) (by omega) (by omega) (by omega) (by omega)) (by simp)
  · exact bd_eq ok hy l1 l0 (fun x h => by have := le x h; omega) (mk (max 60 (tape - 4)) (max (-3) (max 60 (tape - 4) - tape - 1)) (by omega) (by omega) (by omega) (by omega) (by omega) (by omega)) (by simp)
end Go.Proofs.Ytholfdgebdlgjaa
