/- A scope whose label is jumped back to: what holds at the label is said at the label. -/
import Derived.Test.YtdjeecgddbjbeaaBase
import Derived.ScopeJumps
namespace Go.Proofs.Ytdjeecgddbjbeaa
open Go.RowKit
set_option linter.unusedVariables false
theorem least_nat {p : Nat → Prop} (h : ∃ n, p n) : ∃ n, p n ∧ ∀ m, p m → n ≤ m := by
  obtain ⟨n, hn⟩ := h
  induction n using Nat.strongRecOn with
  | _ n ih =>
    by_cases hm : ∃ m, m < n ∧ p m
    · obtain ⟨m, h1, h2⟩ := hm
      exact ih m h1 h2
    · exact ⟨n, hn, fun m h2 => by
        apply Classical.byContradiction
        intro h3
        exact hm ⟨m, by omega, h2⟩⟩
section
variable {P : Program} {c rest : Code} {a : Act} {w : World} {Q : Exit → Act → World → Prop}
open Classical in
theorem wp_scope_late (l : Nat) (hf : findLabel c l = some (.seq .skip rest))
    (h : ∀ JJ : Act → World → Prop, (∀ J : Nat → Act → World → Prop, (∀ n a w, J n a w → rest.wp P (Exit.jump l (fun a' w' => ∃ m, m < n ∧ J m a' w') Q) a w) → ∀ n a w, J n a w → rest.wp P (Exit.jump l JJ Q) a w) → c.wp P (Exit.jump l JJ Q) a w) : (Code.scope c).wp P Q a w := by
  let good := fun (J : Nat → Act → World → Prop) => ∀ n a w, J n a w → rest.wp P (Exit.jump l (fun a' w' => ∃ m, m < n ∧ J m a' w') Q) a w
  let JJ := fun a w => ∃ n : Nat, ∃ J, good J ∧ J n a w
  let mu := fun (a : Act) (w : World) => if e : ∃ n : Nat, ∃ J, good J ∧ J n a w then Classical.choose (least_nat e) else 0
  have hmu : ∀ a w, JJ a w → (∃ J, good J ∧ J (mu a w) a w) ∧ ∀ m, (∃ J, good J ∧ J m a w) → mu a w ≤ m := by
    intro a w e
    have := Classical.choose_spec (least_nat (p := fun n => ∃ J, good J ∧ J n a w) e)
    simp only [mu, dif_pos (show ∃ n : Nat, ∃ J, good J ∧ J n a w from e)]
    exact this
  refine wp_scope_jumps l JJ mu hf (h JJ ?_) ?_
  · intro J hp n a w hJ
    refine Go.wp_mono (hp n a w hJ) fun e a' w' hq => ?_
    cases e with
    | goto l' => obtain ⟨h1, m, h2, h3⟩ := hq; exact ⟨h1, m, J, hp, h3⟩
    | _ => exact hq
  · intro a w e
    obtain ⟨⟨J, hp, hJ⟩, hle⟩ := hmu a w e
    refine wp_seq_k fun K hK => wp_skip ?_
    refine hK _ _ (Go.wp_mono (hp _ a w hJ) fun e a' w' hq => ?_)
    cases e with
    | goto l' =>
      obtain ⟨h1, m, h2, h3⟩ := hq
      have hj : JJ a' w' := ⟨m, J, hp, h3⟩
      exact ⟨h1, hj, Nat.lt_of_le_of_lt ((hmu a' w' hj).2 m ⟨J, hp, h3⟩) h2⟩
    | _ => exact hq
end
end Go.Proofs.Ytdjeecgddbjbeaa
