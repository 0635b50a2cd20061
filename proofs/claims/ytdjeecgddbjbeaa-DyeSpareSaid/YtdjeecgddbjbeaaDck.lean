/- The program's Check of a vat. Conditions: lists of at most 1000. -/
import Derived.Test.YtdjeecgddbjbeaaDcp
namespace Go.Proofs.Ytdjeecgddbjbeaa
open Go.RowKit
set_option linter.unusedVariables false
set_option linter.unusedSimpArgs false
def dyeE (B : Int) : List (List Int) → List (List Int) → Int
  | _, [] => 0
  | met, d :: ds => if numE d B 9 ≠ 0 then numE d B 9 else if d ∈ met then 4 else dyeE B (met ++ [d]) ds
def lampE (B : Int) : List (List Int) → Int
  | [] => 0
  | l :: ls => if numE l B 3 ≠ 0 then numE l B 3 else if l.sum = 0 then 7 else lampE B ls
def chkE (B : Int) (ds ls : List (List Int)) (tol : Int) : Int :=
  if outB B 1 3 = true then 1 else if sizE ds.length 4 ≠ 0 then sizE ds.length 4 else if dyeE B [] ds ≠ 0 then dyeE B [] ds
  else if sizE ls.length 3 ≠ 0 then sizE ls.length 3 else if lampE B ls ≠ 0 then lampE B ls else if outB tol 0 12 = true then 1 else 0
theorem drop_getD {α : Type} (l : List α) (d : α) {i : Nat} (h : i < l.length) : l.drop i = l.getD i d :: l.drop (i + 1) := by
  rw [List.drop_eq_getElem_cons h]; simp [List.getD_eq_getElem?_getD, List.getElem?_eq_getElem h]
theorem take_getD {α : Type} (l : List α) (d : α) {i : Nat} (h : i < l.length) : l.take (i + 1) = l.take i ++ [l.getD i d] := by
  rw [List.take_add_one, List.getElem?_eq_getElem h]; simp [List.getD_eq_getElem?_getD, List.getElem?_eq_getElem h]
theorem numE_zero {l : List Int} {m h : Int} (e : numE l m h = 0) : (l.length : Int) = m ∧ ∀ n ∈ l, 0 ≤ n ∧ n ≤ h := by
  unfold numE at e
  split at e
  · cases e
  · rename_i hlen
    split at e
    · rename_i ha
      refine ⟨by omega, fun n hn => ?_⟩
      have := List.all_eq_true.1 ha n hn
      exact outB_no.1 (by simpa using this)
    · cases e
theorem dye_bad {B : Int} {ds : List (List Int)} {i : Nat} (hi : i < ds.length) (h : numE (ds.getD i []) B 9 ≠ 0) : dyeE B (ds.take i) (ds.drop i) = numE (ds.getD i []) B 9 := by
  rw [drop_getD ds [] hi, dyeE, if_pos h]
theorem dye_twice {B : Int} {ds : List (List Int)} {i j : Nat} (hi : i < ds.length) (h : numE (ds.getD i []) B 9 = 0) (hj : j < i) (e : ds.getD j [] = ds.getD i []) : dyeE B (ds.take i) (ds.drop i) = 4 := by
  rw [drop_getD ds [] hi, dyeE, if_neg (by rw [h]; simp), if_pos]
  rw [← e, List.getD_eq_getElem?_getD, List.getElem?_eq_getElem (show j < ds.length by omega)]
  exact List.mem_take_iff_getElem.2 ⟨j, by omega, rfl⟩
theorem dye_go {B : Int} {ds : List (List Int)} {i : Nat} (hi : i < ds.length) (h : numE (ds.getD i []) B 9 = 0) (hn : ∀ j, j < i → ds.getD j [] ≠ ds.getD i []) : dyeE B (ds.take i) (ds.drop i) = dyeE B (ds.take (i + 1)) (ds.drop (i + 1)) := by
  rw [drop_getD ds [] hi, dyeE, if_neg (by rw [h]; simp), if_neg, ← take_getD ds [] hi]
  intro hm
  obtain ⟨j, hj, e⟩ := List.mem_take_iff_getElem.1 hm
  have hj' : j < i := by omega
  refine hn j hj' ?_
  rw [List.getD_eq_getElem?_getD, List.getElem?_eq_getElem (show j < ds.length by omega)]
  exact e
theorem lamp_bad {B : Int} {ls : List (List Int)} {i : Nat} (hi : i < ls.length) (h : numE (ls.getD i []) B 3 ≠ 0) : lampE B (ls.drop i) = numE (ls.getD i []) B 3 := by
  rw [drop_getD ls [] hi, lampE, if_pos h]
theorem lamp_dark {B : Int} {ls : List (List Int)} {i : Nat} (hi : i < ls.length) (h : numE (ls.getD i []) B 3 = 0) (h0 : (ls.getD i []).sum = 0) : lampE B (ls.drop i) = 7 := by
  rw [drop_getD ls [] hi, lampE, if_neg (by rw [h]; simp), if_pos h0]
theorem lamp_go {B : Int} {ls : List (List Int)} {i : Nat} (hi : i < ls.length) (h : numE (ls.getD i []) B 3 = 0) (h0 : (ls.getD i []).sum ≠ 0) : lampE B (ls.drop i) = lampE B (ls.drop (i + 1)) := by
  rw [drop_getD ls [] hi, lampE, if_neg (by rw [h]; simp), if_neg h0]
/-- Rows of tones. -/
def toneR (l : List Int) : List Value := [.int .i64 (l.getD 0 0), .int .i64 (l.getD 1 0), .int .i64 (l.getD 2 0)]
end Go.Proofs.Ytdjeecgddbjbeaa
