/- The frame of the law 'DyeSpare' (written by a program of ours): if the walk holds, so does the statement. No conditions. -/
import Derived.Test.YtdjeecgddbjbeaaEnter
import Derived.WalkKit
import Derived.ProofKit
import Derived.OpenShut
import Derived.ShutString
import Derived.ChangeOld
import Derived.Below
import Derived.Conc.Holds
import Derived.Leaving
namespace Go.Proofs.Ytdjeecgddbjbeaa.dyeSpare
open Go.ChangeShapes Go.WideShapes Go.ChangeAt Go.RowKit
open Go.ChangeMaps (open_string shut_string)
set_option linter.unusedVariables false
set_option linter.unusedSimpArgs false

theorem k1 : (Rows.dyeSpareRow.wf (OpenSpec.ofChange Rows.dyeSpareSpec) : Bool) = true := by kernel_rfl
theorem k4 : (Try.f10.params.all (Try.pinned.checked.prog.readableRec ·) : Bool) = true := by kernel_rfl
theorem k5 : (namedTie Try.pinned.checked.prog Rows.dyeSpareRow.named Rows.dyeSpareSpec.vars : Bool) = true := by kernel_rfl
theorem k6 : ((Rows.dyeSpareRow.stops == []) : Bool) = true := by kernel_rfl
theorem k8 : ((Rows.dyeSpareRow.knobs == []) : Bool) = true := by kernel_rfl
theorem k10 : ((Rows.dyeSpareRow.inPlace == Try.pinned.checked.prog.inPlace 10) : Bool) = true := by kernel_rfl
theorem k11 : ((Rows.dyeSpareRow.unfollowed == Try.pinned.checked.prog.unfollowed 10) : Bool) = true := by kernel_rfl
theorem k12 : ((Rows.dyeSpareRow.recurses == Try.pinned.checked.prog.recurses 10) : Bool) = true := by kernel_rfl
theorem k13 : ((Rows.dyeSpareRow.named == Try.pinned.checked.prog.varsNamed 10) : Bool) = true := by kernel_rfl
theorem k14 : ((Rows.dyeSpareRow.maps == (Try.f10.params.toList ++ Rows.dyeSpareSpec.plain.varTypes Try.pinned.checked.prog).any (Try.pinned.checked.prog.mapsRec ·)) : Bool) = true := by kernel_rfl
theorem k15 : ((Rows.dyeSpareRow.ifaces == (Try.f10.params.toList ++ Rows.dyeSpareSpec.plain.varTypes Try.pinned.checked.prog).any (Try.pinned.checked.prog.ifacesRec ·)) : Bool) = true := by kernel_rfl
theorem k16 : ((Rows.dyeSpareRow.mapsOut == Try.pinned.checked.prog.mapsAmong Try.f10.resultTypes.toList) : Bool) = true := by kernel_rfl
theorem k17 : ((Rows.dyeSpareRow.loops == (Try.f10.params.toList ++ Rows.dyeSpareSpec.plain.varTypes Try.pinned.checked.prog).any (Try.pinned.checked.prog.loopsFrom ·)) : Bool) = true := by kernel_rfl
theorem k18 : ((Rows.dyeSpareRow.wideKeys == (Try.f10.params.toList ++ Rows.dyeSpareSpec.plain.varTypes Try.pinned.checked.prog ++ Try.f10.resultTypes.toList).any (Try.pinned.checked.prog.wideKeysFrom ·)) : Bool) = true := by kernel_rfl
theorem k19 : (Rows.dyeSpareSpec.vars.all (Try.pinned.checked.prog.varReadable ·) : Bool) = true := by kernel_rfl
theorem k20 : (Try.f10.resultTypes.all (fun t => Try.pinned.checked.prog.readableRec t && decide (t < Try.pinned.checked.prog.types.size)) : Bool) = true := by kernel_rfl
theorem k21 : ((Rows.dyeSpareRow.ifacesOut == Try.f10.resultTypes.toList.any (Try.pinned.checked.prog.ifacesRec ·)) : Bool) = true := by kernel_rfl
theorem k22 : ((Rows.dyeSpareRow.loopsOut == Try.f10.resultTypes.toList.any (Try.pinned.checked.prog.loopsFrom ·)) : Bool) = true := by kernel_rfl
theorem k23 : ((Rows.dyeSpareRow.plainKeys == Try.pinned.checked.prog.plainKeys) : Bool) = true := by kernel_rfl
theorem k24 : (Rows.dyeSpareRow.shortTexts.isNone : Bool) = true := by kernel_rfl
theorem k27 : ((Rows.dyeSpareRow.lifted == Try.pinned.checked.prog.liftsFinal) : Bool) = true := (congrArg (fun x => (Rows.dyeSpareRow.lifted == x)) liftsFinal).trans (by kernel_rfl)
theorem k28 : ((Try.pinned.checked.prog.make == some Rows.dyeSpareRow.make) : Bool) = true := (congrArg (fun x => (x == some Rows.dyeSpareRow.make)) made).trans (by kernel_rfl)
theorem k29 : ((Rows.dyeSpareRow.domain.isEmpty && Rows.dyeSpareRow.kinds == []) : Bool) = true := by kernel_rfl
theorem k30 : ((Rows.dyeSpareRow.pinned == Rows.dyeSpareRow.pinnedBy) : Bool) = true := by kernel_rfl
theorem k31 : ((Rows.dyeSpareRow.veiled == (Try.f10.params.toList ++ Rows.dyeSpareSpec.plain.varTypes Try.pinned.checked.prog ++ Try.f10.resultTypes.toList).any (Try.pinned.checked.prog.veiledRec ·)) : Bool) = true := by kernel_rfl
theorem k32 : (Rows.dyeSpareRow.veiledFits Try.pinned.checked.prog Try.f10.params.toList (Try.f10.params.toList ++ Rows.dyeSpareSpec.plain.varTypes Try.pinned.checked.prog ++ Try.f10.resultTypes.toList) : Bool) = true := by kernel_rfl

theorem closed : joinedFacts Try.pinned.checked.prog 10 Try.f10 Rows.dyeSpareSpec Rows.dyeSpareRow = true := joinedFacts_of k1 laidAll mapsAll k4 k5 k6 stopsNone k8 knobsNone k10 k11 k12 k13 k14 k15 k16 k17 k18 k19 k20 k21 k22 k23 k24 stopsHeard mayEnter k27 k28 k29 k30 k31 k32
theorem named : Try.pinned.checked.prog.funcNamed Rows.dyeSpareRow.func = some 10 := by kernel_rfl
theorem inst : Try.f10.isInstance Try.pinned.checked.prog Rows.dyeSpareRow.origin Rows.dyeSpareRow.targs := of_decide_eq_true (by kernel_rfl)
theorem wrap : Try.f10.isWrapper Try.pinned.checked.prog Rows.dyeSpareRow.wrapper Rows.dyeSpareRow.mainSum := by unfold Func.isWrapper; first | (rw [if_pos (by decide +kernel)]; kernel_rfl) | (rw [if_neg (by decide +kernel)]; exact ⟨rfl, rfl⟩)
theorem laidOut : laidOutB Try.prog = true := laidAll
theorem noInit : Try.prog.inits.idxOf? 10 = none := by kernel_rfl
theorem sliceInt : Try.prog.cellsOf 3 = 1 := by kernel_rfl


set_option maxRecDepth 100000 in
theorem lifted (walk : ∀ (a0 : Option Addr) (len0 cap0 : Nat) (z0 : List Int) (w : World), IsRow .i64 w a0 len0 cap0 z0 →
    Calls Try.prog 10 #[.slice a0 len0 cap0] w fun e w' => e = .returned (.bool true) ∧ Below w.heap.size w w') (os : Os) (started : os.Started) (H : Type) (enc : TypeId × Value → H) :
    ReturnsInHanded {} Try.checked os 10 .any (Rows.dyeSpareSpec.pre6 enc Try.prog Try.f10 Rows.dyeSpareRow.domain false) (Rows.dyeSpareSpec.post enc Try.prog Try.f10 false true false false) := by
  refine returnsInHanded_of_change (C := Try.checked) own started noInit Try.func10
    (ChangeSpec.witness6 (enc := enc) (C := Try.checked) false ⟨#[], #[.slice none 0 0], []⟩ 8 (by as_aux_lemma => kernel_rfl) (by as_aux_lemma => kernel_rfl) (by as_aux_lemma => kernel_rfl) (by as_aux_lemma => kernel_rfl)) ?_
  intro W base args ds gs before hval0 hW hcnd _
  have hval : ∀ (j : Nat) t v, Try.f10.params[j]? = some t → args[j]? = some v → Value.okWide Try.prog W .any base t v := hval0
  have hW' := hW
  obtain ⟨p, q, hA0, hV, rfl, hfz, hnd⟩ := hW
  have hA : DataW.TrodAll enc Try.prog W 0 (fun _ => true) true Try.f10.params.toList args.toList ds p := hA0
  rw [Try.params10] at hA hval
  obtain ⟨v0, vs0, d0, ds0, p0, q0, hargs, rfl, rfl, h0, r0⟩ := trodAll_cons hA
  obtain ⟨rfl, rfl, rfl⟩ := trodAll_nil r0
  obtain rfl : args = #[v0] := by cases args; simp_all
  obtain ⟨rfl, rfl⟩ := trodVars_none hV
  obtain ⟨a0, len0, cap0, rfl⟩ := okWide_slice Try.underlying25 (hval 0 25 v0 rfl rfl)
  have k0 := h0
  have lt0 : ∀ x ∈ p0, x.block < W.heap.size := by obtain ⟨m, hm⟩ := k0; exact DataW.trod_lt m _ _ _ hm
  obtain ⟨z0, w0⟩ : ∃ zs, IsRow .i64 W a0 len0 cap0 zs := by
    obtain ⟨fuel, hf⟩ := h0
    rcases open_ints Try.underlying25 Try.underlying3 sliceInt hf with ⟨hcs, _⟩ | ⟨x, l, c, zs, hcs, _, hl, hm, hz, _, hcell, hwz⟩
    · simp [Value.cells] at hcs
      obtain ⟨rfl, rfl, rfl⟩ := hcs
      exact ⟨[], .inl ⟨rfl, rfl, rfl, rfl⟩⟩
    · simp [Value.cells] at hcs
      obtain ⟨rfl, rfl, rfl⟩ := hcs
      exact ⟨zs, .inr ⟨_, rfl, hl, hm, by simpa using hz, hcell, hwz⟩⟩
  clear hA0 hval0
  refine (walk a0 len0 cap0 z0 W w0).mono fun e W' ⟨he, bel⟩ => ?_
  subst he
  exact ⟨_, rfl, _, _, _, [], _, [], hW', trodAll_mk1 (shut_bool Try.underlying4 _), (trodAll_cons_mk (Below.trod laidOut (by as_aux_lemma => kernel_rfl) (of_decide_eq_true (by as_aux_lemma => kernel_rfl)) k0 bel lt0) trodAll_mk0), rfl, bel.frame _, fun h => by cases h⟩

theorem said_of_walk (walk : ∀ (a0 : Option Addr) (len0 cap0 : Nat) (z0 : List Int) (w : World), IsRow .i64 w a0 len0 cap0 z0 →
    Calls Try.prog 10 #[.slice a0 len0 cap0] w fun e w' => e = .returned (.bool true) ∧ Below w.heap.size w w') : Rows.DyeSpareSaid :=
  OpenClaim.holds_of_wide 10 Try.f10 rfl rfl rfl rfl rfl rfl rfl ⟨rfl, rfl, rfl, rfl, rfl⟩ rfl rfl rfl rfl rfl named Try.func10 closed
    inst wrap (fun os started H enc _ => lifted walk os started H enc)
end Go.Proofs.Ytdjeecgddbjbeaa.dyeSpare

