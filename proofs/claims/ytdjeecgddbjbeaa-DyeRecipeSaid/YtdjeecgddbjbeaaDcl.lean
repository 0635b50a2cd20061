/- The plain law of DyeCorrect: what has to be added is the first of the least mixtures that make the bath match. Conditions: at most three dyes. -/
import Derived.Test.YtdjeecgddbjbeaaDrl
namespace Go.Proofs.Ytdjeecgddbjbeaa
open Go.RowKit
set_option linter.unusedVariables false
set_option linter.unusedSimpArgs false
theorem mem_rec : ∀ nd, nd < 5 → ∀ l ∈ tupL 7 nd, 1 ≤ l.sum → l.sum ≤ 6 → l ∈ recL nd := by decide +kernel
theorem RcpOk.mem {x : Vm} {t : List Int} (h : RcpOk x t) (hd : x.D.length ≤ 4) : t ∈ recL x.D.length := mem_rec _ (by omega) t ((mem_tupL 7 _ t).2 ⟨h.len, fun n hn => by have := h.bd n hn; omega⟩) h.s1 h.s6
def leB (t q : List Int) : Bool := (List.range 4).all fun k => decide (0 ≤ mrG t q k)
theorem cor_mix : ∀ nd, nd < 4 → ∀ t ∈ recL nd, ((recL nd).filter (leB t)).map (fun q => cutL (mrG t q) nd) = mixL nd (6 - t.sum.toNat) := by decide +kernel
def cS (m : List Int) : Int × Int := (m.sum, 0)
theorem cmpL2 (a b : Int) : cmpL [a, 0] [b, 0] < 0 ↔ a < b := by
  simp only [cmpL, cmpE]
  by_cases h : a < b
  · simp [h]
  · by_cases h2 : b < a
    · simp [h, h2]
    · simp [h, h2]
theorem pick_map {α β : Type} (g : α → β) (c : β → Int × Int) (l : List α) : pickO c (l.map g) = (pickO (fun a => c (g a)) l).map g := by
  have key : ∀ (l : List α) (o : Option α), (l.map g).foldl (offO c) (o.map g) = (l.foldl (offO fun a => c (g a)) o).map g := by
    intro l
    induction l with
    | nil => intro o; rfl
    | cons x l ih =>
      intro o
      rw [List.map_cons, List.foldl_cons, List.foldl_cons, ← ih]
      congr 1
      cases o with
      | none => rfl
      | some u =>
        simp only [Option.map_some, offO]
        split <;> rfl
  exact key l none
theorem pick_congr {α : Type} {c c' : α → Int × Int} {l : List α} (h : ∀ t ∈ l, c t = c' t) : pickO c l = pickO c' l := by
  have key : ∀ (m : List α) (o : Option α), (∀ t ∈ m, t ∈ l) → (∀ t, o = some t → t ∈ l) → m.foldl (offO c) o = m.foldl (offO c') o := by
    intro m
    induction m with
    | nil => intro o _ _; rfl
    | cons x m ih =>
      intro o hm ho
      have hx := hm x (by simp)
      have e : offO c o x = offO c' o x := by
        cases o with
        | none => rfl
        | some u => simp only [offO, h x hx, h u (ho u rfl)]
      rw [List.foldl_cons, List.foldl_cons, e]
      refine ih _ (fun t ht => hm t (by simp [ht])) fun t ht => ?_
      cases o with
      | none => simp only [offO, Option.some.injEq] at ht; rw [← ht]; exact hx
      | some u =>
        rw [offO] at ht
        split at ht
        · obtain rfl := Option.some.inj ht; exact hx
        · obtain rfl := Option.some.inj ht; exact ho _ rfl
  exact key l none (fun _ h => h) (fun t h => by cases h)
/-- The sum of two lists. -/
def addL (t m : List Int) (n : Nat) : List Int := (List.range n).map fun k => val t k + val m k
theorem addL_val {t m : List Int} {n k : Nat} (h : k < n) : val (addL t m n) k = val t k + val m k := by simp [addL, val, h]
def phiB (x : Vm) (t : List Int) (s : Nat → Int) (ls : List Int) (m : List Int) : Bool := matE x (val (addL t m x.D.length)) s ls
theorem val_zero {l : List Int} {k : Nat} (h : l.length ≤ k) : val l k = 0 := by simp [val, List.getElem?_eq_none h]
theorem prt_cut {f : Nat → Int} {n : Nat} (hn : n ≤ 4) (h : ∀ k, n ≤ k → f k = 0) : (cutL f n).sum = prt f := by
  rw [← sumTo_list (cutL f n) 4 (by simp [cutL]; omega), prt]
  refine sumTo_congr fun k _ => ?_
  by_cases hk : k < n
  · simp [cutL, val, hk]
  · rw [val_zero (by simp [cutL]; omega), h k (by omega)]
/-- What Correct adds, by the mixtures. -/
theorem cor_law {x : Vm} (hd : x.D.length ≤ 3) {t : List Int} (ht : RcpOk x t) (s : Nat → Int) (ls : List Int) :
    pickO cS ((mixL x.D.length (6 - t.sum.toNat)).filter (phiB x t s ls)) = (corO x t s ls (recL x.D.length)).map fun q => cutL (mrG t q) x.D.length := by
  have hrl := (recL_all x.D.length (by omega)).2
  rw [← cor_mix x.D.length (by omega) t (ht.mem (by omega)), List.filter_map, pick_map, corO, List.filter_filter]
  have hmr : ∀ q ∈ recL x.D.length, ∀ k, x.D.length ≤ k → mrG t q k = 0 := fun q hq k hk => by
    rw [mrG, val_zero (by rw [(hrl q hq).1]; exact hk), val_zero (by rw [ht.len]; exact hk)]; rfl
  have h1 : (recL x.D.length).filter (fun q => ((phiB x t s ls) ∘ fun q => cutL (mrG t q) x.D.length) q && leB t q) = (recL x.D.length).filter (corB x t s ls) := by
    refine List.filter_congr fun q hq => ?_
    have e : matE x (val (addL t (cutL (mrG t q) x.D.length) x.D.length)) s ls = matE x (val q) s ls := by
      have hql := (hrl q hq).1
      have : addL t (cutL (mrG t q) x.D.length) x.D.length = q := by
        refine List.ext_getElem (by simp [addL, hql]) fun k h1 h2 => ?_
        have hk : k < x.D.length := by omega
        simp [addL, cutL, val, hk, mrG, h2]
        omega
      rw [this]
    simp only [Function.comp, phiB, corB]
    rw [e, Bool.and_comm]
    rfl
  rw [h1]
  congr 1
  refine pick_congr fun q hq => ?_
  rw [cS, mrC, prt_cut (by omega) (hmr q (List.mem_filter.1 hq).1)]
/-- How far the law has come. -/
def BestAt (M : List (List Int)) (p : List Int → Bool) (i : Nat) (best least : Int) : Prop :=
  (pickO cS ((M.take i).filter p) = none ∧ best = -1) ∨ ∃ j : Nat, j < i ∧ best = j ∧ least = (M.getD j []).sum ∧ pickO cS ((M.take i).filter p) = some (M.getD j [])
theorem best_zero (M : List (List Int)) (p : List Int → Bool) : BestAt M p 0 (-1) 0 := .inl ⟨rfl, rfl⟩
theorem take_filterL {M : List (List Int)} {p : List Int → Bool} {i : Nat} (h : i < M.length) : (M.take (i + 1)).filter p = (M.take i).filter p ++ if p (M.getD i []) then [M.getD i []] else [] := by
  rw [take_getD M [] h, List.filter_append, List.filter_cons, List.filter_nil]
theorem best_skip {M : List (List Int)} {p : List Int → Bool} {i : Nat} {best least : Int} (hi : i < M.length) (h : BestAt M p i best least) (hp : p (M.getD i []) = false ∨ (0 ≤ best ∧ ¬ (M.getD i []).sum < least)) : BestAt M p (i + 1) best least := by
  by_cases hb : p (M.getD i []) = true
  · obtain ⟨h0, hl⟩ := hp.resolve_left (by rw [hb]; decide)
    rcases h with ⟨-, h2⟩ | ⟨j, h1, h2, h3, h4⟩
    · omega
    · refine .inr ⟨j, by omega, h2, h3, ?_⟩
      rw [take_filterL hi, hb, if_pos rfl, pick_snoc, h4, offO, cS, cS, if_neg]
      rw [cmpL2, ← h3]; exact hl
  · rcases h with ⟨h1, h2⟩ | ⟨j, h1, h2, h3, h4⟩
    · exact .inl ⟨by rw [take_filterL hi, if_neg hb, List.append_nil]; exact h1, h2⟩
    · exact .inr ⟨j, by omega, h2, h3, by rw [take_filterL hi, if_neg hb, List.append_nil]; exact h4⟩
theorem best_take {M : List (List Int)} {p : List Int → Bool} {i : Nat} {best least : Int} (hi : i < M.length) (h : BestAt M p i best least) (hb : p (M.getD i []) = true) (hl : best < 0 ∨ (M.getD i []).sum < least) : BestAt M p (i + 1) ((i : Nat) : Int) (M.getD i []).sum := by
  refine .inr ⟨i, by omega, rfl, rfl, ?_⟩
  rw [take_filterL hi, hb, if_pos rfl, pick_snoc]
  rcases h with ⟨h1, h2⟩ | ⟨j, h1, h2, h3, h4⟩
  · rw [h1]; rfl
  · rw [h4, offO, cS, cS, if_pos]
    rw [cmpL2, ← h3]; omega
theorem best_end {M : List (List Int)} {p : List Int → Bool} {i : Nat} {best least : Int} (hi : M.length ≤ i) (h : BestAt M p i best least) : (pickO cS (M.filter p) = none ∧ best = -1) ∨ ∃ j : Nat, j < i ∧ best = j ∧ pickO cS (M.filter p) = some (M.getD j []) := by
  rw [BestAt, List.take_of_length_le hi] at h
  rcases h with h | ⟨j, h1, h2, h3, h4⟩
  · exact .inl h
  · exact .inr ⟨j, h1, h2, h4⟩
end Go.Proofs.Ytdjeecgddbjbeaa
