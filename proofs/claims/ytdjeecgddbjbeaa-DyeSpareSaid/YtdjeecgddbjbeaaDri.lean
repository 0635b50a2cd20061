/- Walks within a round of a range over a function; functions that defer, or range over a function. No conditions. -/
import Derived.Test.YtdjeecgddbjbeaaDvg
import Derived.RangeFuncNested
import Derived.RangeFuncBound
import Derived.RangeFuncCalls
import Derived.RangeFuncLeaves
import Derived.RangeFuncKeeps
import Derived.RangeFuncFrom
import Derived.TacticsIn
import Derived.OrdersIn
import Derived.Defers
import Derived.DefersIn
import Derived.Recover
namespace Go.Proofs.Ytdjeecgddbjbeaa
open Go.RowKit
set_option linter.unusedVariables false
set_option linter.unusedSimpArgs false
section
variable {P : Program} {r n : Nat}
def noDef (o : Oper) : Bool := match o.op with | .defer _ => false | _ => true
theorem noDef_ne {o : Oper} (h : noDef o = true) : ∀ c, o.op ≠ .defer c := fun c e => by rw [noDef, e] at h; cases h
theorem rows_inR {row : String} {args : Array Value} {w : World} {R : Value → World → Prop} (h : Rows P row args w R) : RowsIn (Fence.wide.inRound r) n P row args w R := by
  intro c cs _
  obtain ⟨v, w', h1, h2⟩ := h c cs
  exact ⟨v, w', h1, stepsIn_wide.2 h2⟩
theorem calls_inR {f : FuncId} {args : Array Value} {w : World} {R : Ending → World → Prop} (h : Calls P f args w R) : CallsIn (Fence.wide.inRound r) n P f args w R := CallsIn.inRound r (callsIn_wide.2 h)
theorem oper_inR {o : Oper} {a : Act} {w : World} {K : Act → World → Prop} {Q : Exit → Act → World → Prop} (hd : noDef o = true) (h : o.wp P a w K Q) : o.wpIn (Fence.wide.inRound r) n P a w K Q := by
  refine ⟨fun _ _ => trivial, ?_⟩
  rw [Fence.inRound_round, Oper.semAt_some r _ _ (noDef_ne hd)]
  unfold Oper.wp at h
  generalize (execOp a.eval o).run P w = x at h
  have h0 : ((Fence.wide.inRound r).depth.isSome = true → 1 ≤ n) := fun h => by cases h
  cases x with
  | ok x w' =>
    cases x <;> simp only [Oper.upon, Oper.uponIn] at h ⊢ <;> first
      | exact h
      | exact ⟨h0, CallsIn.mono (calls_inR h) fun e w'' he => by cases e <;> exact he⟩
      | exact ⟨h0, RowsIn.mono (rows_inR h) fun _ _ he => he⟩
      | exact h.elim
  | halt x w' => cases x <;> simp only [Oper.upon, Oper.uponIn] at h ⊢ <;> exact h
theorem oper_inR_mono {o : Oper} {a : Act} {w : World} {K K' : Act → World → Prop} {Q : Exit → Act → World → Prop} (hd : noDef o = true) (hK : ∀ a w, K a w → K' a w) (h : o.wp P a w K Q) : o.wpIn (Fence.wide.inRound r) n P a w K' Q := Oper.wpIn_mono hK (oper_inR hd h)
theorem list_inR {ops : Array Oper} {Q : Exit → Act → World → Prop} (hQ : ¬ LetsOut Q) : ∀ (l : List Oper) (a : Act) (w : World), l.all noDef = true → wpList P ops Q l a w → wpListIn (Fence.wide.inRound r) n P ops Q l a w
  | [], _, _, _, h => h
  | o :: l, a, w, hd, h => by
    simp only [List.all_cons, Bool.and_eq_true] at hd
    unfold wpListIn
    unfold wpList at h
    by_cases hw : Region.wanted o (yielded ops a.tmps) = true
    · simp only [hw, if_true] at h ⊢
      exact oper_inR_mono hd.1 (fun a w => list_inR hQ l a w hd.2) (h.resolve_right fun h => hQ h.2)
    · simp only [hw] at h ⊢
      exact ⟨fun _ _ => trivial, list_inR hQ l _ w hd.2 h⟩
theorem wpI_region_lit {l : List Oper} {id : Nat} {Q : Exit → Act → World → Prop} {a : Act} {w : World} (hd : l.all noDef = true) (hQ : ¬ LetsOut Q) (h : wpList P l.toArray Q l a w) : (Code.region id l.toArray false).wpIn (Fence.wide.inRound r) n P Q a w :=
  wpIn_region_lit (list_inR hQ l a w hd h)
theorem any_inR {ops : Array Oper} {md : Region.Mode} {Q : Exit → Act → World → Prop} (hQ : ¬ LetsOut Q) (hd : ops.toList.all noDef = true) : ∀ (fuel : Nat) (listed : Array Bool) (a : Act) (w : World), wpAny P md ops Q fuel listed a w → wpAnyIn (Fence.wide.inRound r) n P md ops Q fuel listed a w
  | 0, _, _, _, h => h
  | fuel + 1, listed, a, w, h => by
    refine ⟨h.1, fun i hi => ?_⟩
    have h2 := h.2 i hi
    unfold wpOp at h2
    unfold wpOpIn
    cases ho : ops[i]? with
    | none => simp only [ho] at h2 ⊢; exact any_inR hQ hd fuel _ a w h2
    | some o =>
      have hdo : noDef o = true := List.all_eq_true.1 hd o (by
        obtain ⟨h3, h4⟩ := Array.getElem?_eq_some_iff.1 ho
        rw [← h4]; simp)
      simp only [ho] at h2 ⊢
      by_cases hw : Region.wanted o (yielded ops a.tmps) = true
      · simp only [hw, if_true] at h2 ⊢
        exact oper_inR_mono hdo (fun a w => any_inR hQ hd fuel _ a w) (h2.resolve_right fun h => hQ h.2)
      · simp only [hw] at h2 ⊢
        exact ⟨fun _ _ => trivial, any_inR hQ hd fuel _ _ w h2⟩
theorem region_xI {Q : Exit → Act → World → Prop} {a : Act} {l : List Oper} {id : Nat} {w : World} (T : World → Prop) (stop : Option Nat) (hm : P.follows .mixedOrders = true) (hd : l.all noDef = true) (hQ : ¬ LetsOut Q)
    (h : ∀ W : World, W.heap = w.heap → Ext [] w W → wpAnyX P .any l.toArray Q T stop l.toArray.size (Array.replicate l.toArray.size false) a W) : (Code.region id l.toArray true).wpIn (Fence.wide.inRound r) n P Q a w :=
  wpIn_region_any hm (any_inR hQ (by simpa using hd) _ _ _ _ (anyX_any _ _ _ _ (h _ rfl ⟨rfl, rfl, rfl, Nat.le_refl _, fun _ _ _ => rfl⟩)))
end
section
variable {P : Program} {G : Fence} {n : Nat} {Q : Exit → Act → World → Prop} {N : Nat} {D : List Deferred} {a : Act} {L : List (Nat × Value)} {w : World}
theorem cdI_T (F : Has N D a L) {k : Nat} {x y : Code} (hc : L.lookup k = some (.bool true)) (h : x.wpIn G n P Q a w) : (Code.cond (.tmp k) x y).wpIn G n P Q a w := wpIn_cond_true (F.at hc) h
theorem cdI_F (F : Has N D a L) {k : Nat} {x y : Code} (hc : L.lookup k = some (.bool false)) (h : y.wpIn G n P Q a w) : (Code.cond (.tmp k) x y).wpIn G n P Q a w := wpIn_cond_false (F.at hc) h
theorem cdI_Fb (F : Has N D a L) {k : Nat} {x y : Code} {b : Bool} (hc : L.lookup k = some (.bool b)) (hb : b = false) (h : y.wpIn G n P Q a w) : (Code.cond (.tmp k) x y).wpIn G n P Q a w := wpIn_cond_false (by rw [F.at hc, hb]) h
theorem cdI_Tb (F : Has N D a L) {k : Nat} {x y : Code} {b : Bool} (hc : L.lookup k = some (.bool b)) (hb : b = true) (h : x.wpIn G n P Q a w) : (Code.cond (.tmp k) x y).wpIn G n P Q a w := wpIn_cond_true (by rw [F.at hc, hb]) h
theorem cdI_if (F : Has N D a L) {k : Nat} {x y : Code} {p : Prop} [Decidable p] (hc : L.lookup k = some (.bool (decide p))) (ht : p → x.wpIn G n P Q a w) (hf : ¬ p → y.wpIn G n P Q a w) : (Code.cond (.tmp k) x y).wpIn G n P Q a w := by
  by_cases h : p
  · exact wpIn_cond_true (by rw [F.at hc, decide_eq_true h]) (ht h)
  · exact wpIn_cond_false (by rw [F.at hc, decide_eq_false h]) (hf h)
theorem cdI_b (F : Has N D a L) {k : Nat} {x y : Code} {b : Bool} (hc : L.lookup k = some (.bool b)) (ht : b = true → x.wpIn G n P Q a w) (hf : b = false → y.wpIn G n P Q a w) : (Code.cond (.tmp k) x y).wpIn G n P Q a w := by
  cases b
  · exact wpIn_cond_false (F.at hc) (hf rfl)
  · exact wpIn_cond_true (F.at hc) (ht rfl)
theorem lpI_nat {c : Code} (M : Nat) (I : Nat → Act → World → Prop) (h0 : I 0 a w) (round : ∀ i a w, i ≤ M → I i a w → c.wpIn G n P (Exit.then (fun a' w' => i < M ∧ I (i + 1) a' w') Q) a w) : (Code.loop c).wpIn G n P Q a w := by
  intro b k cs hro hb hr
  have key : ∀ m i a w, m = M - i → i ≤ M → I i a w → ∃ e a' w', Q e a' w' ∧ ArrivesIn (Machine.fenced P G) P (lone (b.atR a (.code c :: .inLoop c :: k)) cs w) b k cs e a' w' := by
    intro m
    induction m with
    | zero =>
      intro i a w hn hi hI
      obtain ⟨e, a₁, w₁, hq, harr⟩ := round i a w hi hI b (.inLoop c :: k) cs hro hb hr
      cases e with
      | normal => exact absurd hq.1 (by omega)
      | _ => exact ⟨_, a₁, w₁, hq, .pass (x := .inLoop c) rfl (fun _ _ => .inl (by simp)) harr⟩
    | succ m ih =>
      intro i a w hn hi hI
      obtain ⟨e, a₁, w₁, hq, harr⟩ := round i a w hi hI b (.inLoop c :: k) cs hro hb hr
      cases e with
      | normal =>
        obtain ⟨hlt, hI₁⟩ := hq
        obtain ⟨e₂, a₂, w₂, hq₂, harr₂⟩ := ih (i + 1) a₁ w₁ (by omega) hlt hI₁
        exact ⟨e₂, a₂, w₂, hq₂, .of_steps (StepsIn.trans harr (.one (fenced_calm hb hr rfl) stepR_inLoop)) harr₂⟩
      | _ => exact ⟨_, a₁, w₁, hq, .pass (x := .inLoop c) rfl (fun _ _ => .inl (by simp)) harr⟩
  obtain ⟨e, a', w', hq, harr⟩ := key _ 0 a w rfl (Nat.zero_le _) h0
  exact ⟨e, a', w', hq, .of_steps (.one (fenced_calm hb hr rfl) stepR_loop) harr⟩
theorem lpI_for {c : Code} {L0 : List (Nat × Value)} (F : Has N D a L0) (M : Nat) (J : Nat → List (Nat × Value) → World → Prop) (h0 : ∃ Lv, J 0 Lv w ∧ Has N D a (Lv ++ L0))
    (round : ∀ i Lv a w, i ≤ M → J i Lv w → Has N D a (Lv ++ L0) → c.wpIn G n P (Exit.then (fun a' w' => i < M ∧ ∃ Lv', J (i + 1) Lv' w' ∧ Has N D a' (Lv' ++ L0)) Q) a w) : (Code.loop c).wpIn G n P Q a w :=
  lpI_nat M (fun i a w => ∃ Lv, J i Lv w ∧ Has N D a (Lv ++ L0)) h0 fun i a w hi ⟨Lv, hJ, hF⟩ => round i Lv a w hi hJ hF
end
end Go.Proofs.Ytdjeecgddbjbeaa
