/- The frame of the law 'MeasureWrong' (written by a program of ours): if the walk holds, so does the statement. No conditions. -/
import Derived.Test.YtholfdgebdlgjaaEnter
import Derived.WalkKit
import Derived.ProofKit
import Derived.OpenShut
import Derived.ShutString
import Derived.ChangeOld
import Derived.Below
import Derived.Conc.Holds
import Derived.Leaving
namespace Go.Proofs.Ytholfdgebdlgjaa.measureWrong
open Go.ChangeShapes Go.WideShapes Go.ChangeAt Go.RowKit
open Go.ChangeMaps (open_string shut_string)
set_option linter.unusedVariables false
set_option linter.unusedSimpArgs false

theorem k1 : (Rows.measureWrongRow.wf (OpenSpec.ofChange Rows.measureWrongSpec) : Bool) = true := by kernel_rfl
theorem k4 : (Try.f14.params.all (Try.pinned.checked.prog.readableRec ·) : Bool) = true := by kernel_rfl
theorem k5 : (namedTie Try.pinned.checked.prog Rows.measureWrongRow.named Rows.measureWrongSpec.vars : Bool) = true := by kernel_rfl
theorem k6 : ((Rows.measureWrongRow.stops == []) : Bool) = true := by kernel_rfl
theorem k8 : ((Rows.measureWrongRow.knobs == []) : Bool) = true := by kernel_rfl
theorem k10 : ((Rows.measureWrongRow.inPlace == Try.pinned.checked.prog.inPlace 14) : Bool) = true := by kernel_rfl
theorem k11 : ((Rows.measureWrongRow.unfollowed == Try.pinned.checked.prog.unfollowed 14) : Bool) = true := by kernel_rfl
theorem k12 : ((Rows.measureWrongRow.recurses == Try.pinned.checked.prog.recurses 14) : Bool) = true := by kernel_rfl
theorem k13 : ((Rows.measureWrongRow.named == Try.pinned.checked.prog.varsNamed 14) : Bool) = true := by kernel_rfl
theorem k14 : ((Rows.measureWrongRow.maps == (Try.f14.params.toList ++ Rows.measureWrongSpec.plain.varTypes Try.pinned.checked.prog).any (Try.pinned.checked.prog.mapsRec ·)) : Bool) = true := by kernel_rfl
theorem k15 : ((Rows.measureWrongRow.ifaces == (Try.f14.params.toList ++ Rows.measureWrongSpec.plain.varTypes Try.pinned.checked.prog).any (Try.pinned.checked.prog.ifacesRec ·)) : Bool) = true := by kernel_rfl
theorem k16 : ((Rows.measureWrongRow.mapsOut == Try.pinned.checked.prog.mapsAmong Try.f14.resultTypes.toList) : Bool) = true := by kernel_rfl
theorem k17 : ((Rows.measureWrongRow.loops == (Try.f14.params.toList ++ Rows.measureWrongSpec.plain.varTypes Try.pinned.checked.prog).any (Try.pinned.checked.prog.loopsFrom ·)) : Bool) = true := by kernel_rfl
theorem k18 : ((Rows.measureWrongRow.wideKeys == (Try.f14.params.toList ++ Rows.measureWrongSpec.plain.varTypes Try.pinned.checked.prog ++ Try.f14.resultTypes.toList).any (Try.pinned.checked.prog.wideKeysFrom ·)) : Bool) = true := by kernel_rfl
theorem k19 : (Rows.measureWrongSpec.vars.all (Try.pinned.checked.prog.varReadable ·) : Bool) = true := by kernel_rfl
theorem k20 : (Try.f14.resultTypes.all (fun t => Try.pinned.checked.prog.readableRec t && decide (t < Try.pinned.checked.prog.types.size)) : Bool) = true := by kernel_rfl
theorem k21 : ((Rows.measureWrongRow.ifacesOut == Try.f14.resultTypes.toList.any (Try.pinned.checked.prog.ifacesRec ·)) : Bool) = true := by kernel_rfl
theorem k22 : ((Rows.measureWrongRow.loopsOut == Try.f14.resultTypes.toList.any (Try.pinned.checked.prog.loopsFrom ·)) : Bool) = true := by kernel_rfl
theorem k23 : ((Rows.measureWrongRow.plainKeys == Try.pinned.checked.prog.plainKeys) : Bool) = true := by kernel_rfl
theorem k24 : (Rows.measureWrongRow.shortTexts.isNone : Bool) = true := by kernel_rfl
theorem k27 : ((Rows.measureWrongRow.lifted == Try.pinned.checked.prog.liftsFinal) : Bool) = true := (congrArg (fun x => (Rows.measureWrongRow.lifted == x)) liftsFinal).trans (by kernel_rfl)
theorem k28 : ((Try.pinned.checked.prog.make == some Rows.measureWrongRow.make) : Bool) = true := (congrArg (fun x => (x == some Rows.measureWrongRow.make)) made).trans (by kernel_rfl)
theorem k29 : ((Rows.measureWrongRow.domain.isEmpty && Rows.measureWrongRow.kinds == []) : Bool) = true := by kernel_rfl
theorem k30 : ((Rows.measureWrongRow.pinned == Rows.measureWrongRow.pinnedBy) : Bool) = true := by kernel_rfl
theorem k31 : ((Rows.measureWrongRow.veiled == (Try.f14.params.toList ++ Rows.measureWrongSpec.plain.varTypes Try.pinned.checked.prog ++ Try.f14.resultTypes.toList).any (Try.pinned.checked.prog.veiledRec ·)) : Bool) = true := by kernel_rfl
theorem k32 : (Rows.measureWrongRow.veiledFits Try.pinned.checked.prog Try.f14.params.toList (Try.f14.params.toList ++ Rows.measureWrongSpec.plain.varTypes Try.pinned.checked.prog ++ Try.f14.resultTypes.toList) : Bool) = true := by kernel_rfl

theorem closed : joinedFacts Try.pinned.checked.prog 14 Try.f14 Rows.measureWrongSpec Rows.measureWrongRow = true := joinedFacts_of k1 laidAll mapsAll k4 k5 k6 stopsNone k8 knobsNone k10 k11 k12 k13 k14 k15 k16 k17 k18 k19 k20 k21 k22 k23 k24 stopsHeard mayEnter k27 k28 k29 k30 k31 k32
theorem named : Try.pinned.checked.prog.funcNamed Rows.measureWrongRow.func = some 14 := by kernel_rfl
theorem inst : Try.f14.isInstance Try.pinned.checked.prog Rows.measureWrongRow.origin Rows.measureWrongRow.targs := of_decide_eq_true (by kernel_rfl)
theorem wrap : Try.f14.isWrapper Try.pinned.checked.prog Rows.measureWrongRow.wrapper Rows.measureWrongRow.mainSum := by unfold Func.isWrapper; first | (rw [if_pos (by decide +kernel)]; kernel_rfl) | (rw [if_neg (by decide +kernel)]; exact ⟨rfl, rfl⟩)
theorem laidOut : laidOutB Try.prog = true := laidAll
theorem noInit : Try.prog.inits.idxOf? 14 = none := by kernel_rfl
theorem sliceInt : Try.prog.cellsOf 3 = 1 := by kernel_rfl


set_option maxRecDepth 100000 in
theorem lifted (walk : ∀ (a0 : Option Addr) (len0 cap0 : Nat) (z0 : List Int) (w : World), IsRow .i64 w a0 len0 cap0 z0 →
    Calls Try.prog 14 #[.slice a0 len0 cap0] w fun e w' => e = .returned (.bool true) ∧ Below w.heap.size w w') (os : Os) (started : os.Started) (H : Type) (enc : TypeId × Value → H) :
    ReturnsInHanded {} Try.checked os 14 .any (Rows.measureWrongSpec.pre6 enc Try.prog Try.f14 Rows.measureWrongRow.domain false) (Rows.measureWrongSpec.post enc Try.prog Try.f14 false true false false) := by
  refine returnsInHanded_of_change (C := Try.checked) own started noInit Try.func14
    (ChangeSpec.witness6 (enc := enc) (C := Try.checked) false ⟨#[], #[.slice none 0 0], []⟩ 8 (by as_aux_lemma => kernel_rfl) (by as_aux_lemma => kernel_rfl) (by as_aux_lemma => kernel_rfl) (by as_aux_lemma => kernel_rfl)) ?_
  intro W base args ds gs before hval0 hW hcnd _
  have hval : ∀ (j : Nat) t v, Try.f14.params[j]? = some t → args[j]? = some v → Value.okWide Try.prog W .any base t v := hval0
  have hW' := hW
  obtain ⟨p, q, hA0, hV, rfl, hfz, hnd⟩ := hW
  have hA : DataW.TrodAll enc Try.prog W 0 (fun _ => true) true Try.f14.params.toList args.toList ds p := hA0
  rw [Try.params14] at hA hval
  obtain ⟨v0, vs0, d0, ds0, p0, q0, hargs, rfl, rfl, h0, r0⟩ := trodAll_cons hA
  obtain ⟨rfl, rfl, rfl⟩ := trodAll_nil r0
  obtain rfl : args = #[v0] := by cases args; simp_all
  obtain ⟨rfl, rfl⟩ := trodVars_none hV
  obtain ⟨a0, len0, cap0, rfl⟩ := okWide_slice Try.underlying29 (hval 0 29 v0 rfl rfl)
  have k0 := h0
  have lt0 : ∀ x ∈ p0, x.block < W.heap.size := by obtain ⟨m, hm⟩ := k0; exact DataW.trod_lt m _ _ _ hm
  obtain ⟨z0, w0⟩ : ∃ zs, IsRow .i64 W a0 len0 cap0 zs := by
    obtain ⟨fuel, hf⟩ := h0
    rcases open_ints Try.underlying29 Try.underlying3 sliceInt hf with ⟨hcs, _⟩ | ⟨x, l, c, zs, hcs, _, hl, hm, hz, _, hcell, hwz⟩
    · simp [Value.cells] at hcs
      obtain ⟨rfl, rfl, rfl⟩ := hcs
      exact ⟨[], .inl ⟨rfl, rfl, rfl, rfl⟩⟩
    · simp [Value.cells] at hcs
      obtain ⟨rfl, rfl, rfl⟩ := hcs
      exact ⟨zs, .inr ⟨_, rfl, hl, hm, by simpa using hz, hcell, hwz⟩⟩
  clear hA0 hval0
  refine (walk a0 len0 cap0 z0 W w0).mono fun e W' ⟨he, bel⟩ => ?_
  subst he
  exact ⟨_, rfl, _, _, _, [], _, [], hW', trodAll_mk1 (shut_bool Try.underlying4 _), (trodAll_cons_mk (Below.trod laidOut (by as_aux_lemma => kernel_rfl) (of_decide_eq_true (by as_aux_lemma => kernel_rfl)) k0 bel lt0) trodAll_mk0), rfl, bel.frame _, fun h => by cases h⟩

theorem said_of_walk (walk : ∀ (a0 : Option Addr) (len0 cap0 : Nat) (z0 : List Int) (w : World), IsRow .i64 w a0 len0 cap0 z0 →
    Calls Try.prog 14 #[.slice a0 len0 cap0] w fun e w' => e = .returned (.bool true) ∧ Below w.heap.size w w') : Rows.MeasureWrongSaid :=
  OpenClaim.holds_of_wide_leaving 14 Try.f14 rfl rfl rfl rfl rfl rfl rfl ⟨rfl, rfl, rfl, rfl, rfl⟩ rfl rfl rfl rfl rfl named Try.func14 closed
    inst wrap (fun os started H enc _ => leaving_of_handed (lifted walk os started H enc))
end Go.Proofs.Ytholfdgebdlgjaa.measureWrong

