/- Parts of a proof: FrDyeRecipes, ClDyeRecipes. No conditions. -/
import Derived.Below
import Derived.ChangeOld
import Derived.Conc.Holds
import Derived.Leaving
import Derived.OpenShut
import Derived.ProofKit
import Derived.ShutString
import Derived.WalkKit
import Derived.Test.YtdjeecgddbjbeaaGreatKr1
import Derived.Test.YtdjeecgddbjbeaaGreatKr17
set_option linter.unusedVariables false
set_option linter.unusedSimpArgs false
namespace Go.Proofs.YtdjeecgddbjbeaaGreat.dyeRecipes
open Go.ChangeShapes Go.WideShapes Go.ChangeAt Go.RowKit
open Go.ChangeMaps (open_string shut_string)
theorem k1 : (Rows.dyeRecipesRow.wf (OpenSpec.ofChange Rows.dyeRecipesSpec) : Bool) = true:=by kernel_rfl
theorem k4 : (Tryz.f3.params.all (Tryz.pinned.checked.prog.readableRec ·) : Bool) = true:=by kernel_rfl
theorem k5 : (namedTie Tryz.pinned.checked.prog Rows.dyeRecipesRow.named Rows.dyeRecipesSpec.vars : Bool) = true:=by kernel_rfl
theorem k6 : ((Rows.dyeRecipesRow.stops == []) : Bool) = true:=by kernel_rfl
theorem k8 : ((Rows.dyeRecipesRow.knobs == []) : Bool) = true:=by kernel_rfl
theorem k10 : ((Rows.dyeRecipesRow.inPlace == Tryz.pinned.checked.prog.inPlace 3) : Bool) = true:=by kernel_rfl
theorem k11 : ((Rows.dyeRecipesRow.unfollowed == Tryz.pinned.checked.prog.unfollowed 3) : Bool) = true:=by kernel_rfl
theorem k12 : ((Rows.dyeRecipesRow.recurses == Tryz.pinned.checked.prog.recurses 3) : Bool) = true:=by kernel_rfl
theorem k13 : ((Rows.dyeRecipesRow.named == Tryz.pinned.checked.prog.varsNamed 3) : Bool) = true:=by kernel_rfl
theorem k14 : ((Rows.dyeRecipesRow.maps == (Tryz.f3.params.toList ++ Rows.dyeRecipesSpec.plain.varTypes Tryz.pinned.checked.prog).any (Tryz.pinned.checked.prog.mapsRec ·)) : Bool) = true:=by kernel_rfl
theorem k15 : ((Rows.dyeRecipesRow.ifaces == (Tryz.f3.params.toList ++ Rows.dyeRecipesSpec.plain.varTypes Tryz.pinned.checked.prog).any (Tryz.pinned.checked.prog.ifacesRec ·)) : Bool) = true:=by kernel_rfl
theorem k16 : ((Rows.dyeRecipesRow.mapsOut == Tryz.pinned.checked.prog.mapsAmong Tryz.f3.resultTypes.toList) : Bool) = true:=by kernel_rfl
theorem k17 : ((Rows.dyeRecipesRow.loops == (Tryz.f3.params.toList ++ Rows.dyeRecipesSpec.plain.varTypes Tryz.pinned.checked.prog).any (Tryz.pinned.checked.prog.loopsFrom ·)) : Bool) = true:=by kernel_rfl
theorem k18 : ((Rows.dyeRecipesRow.wideKeys == (Tryz.f3.params.toList ++ Rows.dyeRecipesSpec.plain.varTypes Tryz.pinned.checked.prog ++ Tryz.f3.resultTypes.toList).any (Tryz.pinned.checked.prog.wideKeysFrom ·)) : Bool) = true:=by kernel_rfl
theorem k19 : (Rows.dyeRecipesSpec.vars.all (Tryz.pinned.checked.prog.varReadable ·) : Bool) = true:=by kernel_rfl
theorem k20 : (Tryz.f3.resultTypes.all (fun t=>Tryz.pinned.checked.prog.readableRec t && decide (t < Tryz.pinned.checked.prog.types.size)) : Bool) = true:=by kernel_rfl
theorem k21 : ((Rows.dyeRecipesRow.ifacesOut == Tryz.f3.resultTypes.toList.any (Tryz.pinned.checked.prog.ifacesRec ·)) : Bool) = true:=by kernel_rfl
theorem k22 : ((Rows.dyeRecipesRow.loopsOut == Tryz.f3.resultTypes.toList.any (Tryz.pinned.checked.prog.loopsFrom ·)) : Bool) = true:=by kernel_rfl
theorem k23 : ((Rows.dyeRecipesRow.plainKeys == Tryz.pinned.checked.prog.plainKeys) : Bool) = true:=by kernel_rfl
theorem k24 : (Rows.dyeRecipesRow.shortTexts.isNone : Bool) = true:=by kernel_rfl
theorem k27 : ((Rows.dyeRecipesRow.lifted == Tryz.pinned.checked.prog.liftsFinal) : Bool) = true:=(congrArg (fun x=>(Rows.dyeRecipesRow.lifted == x)) liftsFinal).trans (by kernel_rfl)
theorem k28 : ((Tryz.pinned.checked.prog.make == some Rows.dyeRecipesRow.make) : Bool) = true:=(congrArg (fun x=>(x == some Rows.dyeRecipesRow.make)) made).trans (by kernel_rfl)
theorem k29 : ((Rows.dyeRecipesRow.domain.isEmpty && Rows.dyeRecipesRow.kinds == []) : Bool) = true:=by kernel_rfl
theorem k30 : ((Rows.dyeRecipesRow.pinned == Rows.dyeRecipesRow.pinnedBy) : Bool) = true:=by kernel_rfl
theorem k31 : ((Rows.dyeRecipesRow.veiled == (Tryz.f3.params.toList ++ Rows.dyeRecipesSpec.plain.varTypes Tryz.pinned.checked.prog ++ Tryz.f3.resultTypes.toList).any (Tryz.pinned.checked.prog.veiledRec ·)) : Bool) = true:=by kernel_rfl
theorem k32 : (Rows.dyeRecipesRow.veiledFits Tryz.pinned.checked.prog Tryz.f3.params.toList (Tryz.f3.params.toList ++ Rows.dyeRecipesSpec.plain.varTypes Tryz.pinned.checked.prog ++ Tryz.f3.resultTypes.toList) : Bool) = true:=by kernel_rfl
theorem closed : joinedFacts Tryz.pinned.checked.prog 3 Tryz.f3 Rows.dyeRecipesSpec Rows.dyeRecipesRow = true:=joinedFacts_of k1 laidAll mapsAll k4 k5 k6 stopsNone k8 knobsNone k10 k11 k12 k13 k14 k15 k16 k17 k18 k19 k20 k21 k22 k23 k24 stopsHeard mayEnter k27 k28 k29 k30 k31 k32
theorem named : Tryz.pinned.checked.prog.funcNamed Rows.dyeRecipesRow.func = some 3:=by kernel_rfl
theorem inst : Tryz.f3.isInstance Tryz.pinned.checked.prog Rows.dyeRecipesRow.origin Rows.dyeRecipesRow.targs:=of_decide_eq_true (by kernel_rfl)
theorem wrap : Tryz.f3.isWrapper Tryz.pinned.checked.prog Rows.dyeRecipesRow.wrapper Rows.dyeRecipesRow.mainSum:=by unfold Func.isWrapper;first | (rw [if_pos (by decide +kernel)];kernel_rfl) | (rw [if_neg (by decide +kernel)];exact ⟨rfl,rfl⟩)
theorem laidOut : laidOutB Tryz.prog = true:=laidAll
theorem noInit : Tryz.prog.inits.idxOf? 3 = none:=by kernel_rfl
theorem sliceInt : Tryz.prog.cellsOf 3 = 1:=by kernel_rfl
set_option maxRecDepth 100000 in
theorem lifted (walk : ∀ (x0 : Vm) (a1 : Option Addr) (len1 cap1 : Nat) (z1 : List Int) (a2 : Option Addr) (len2 cap2 : Nat) (z2 : List Int) (a3 : Option Addr) (len3 cap3 : Nat) (z3 : List Int) (w : World),x0.At w → IsRow .i64 w a1 len1 cap1 z1 → IsRow .i64 w a2 len2 cap2 z2 → IsRow .i64 w a3 len3 cap3 z3 →
  Calls Tryz.prog 3 #[.agg #[.int .i64 x0.B,.slice x0.da x0.D.length x0.dc,.slice x0.la x0.L.length x0.lc,.int .i64 x0.tol],.slice a1 len1 cap1,.slice a2 len2 cap2,.slice a3 len3 cap3] w fun e w'=>e = .returned (.bool true) ∧ Below w.heap.size w w') (os : Os) (started : os.Started) (H : Type) (enc : TypeId × Value → H) :
  ReturnsInHanded {} Tryz.checked os 3 .any (Rows.dyeRecipesSpec.pre6 enc Tryz.prog Tryz.f3 Rows.dyeRecipesRow.domain false) (Rows.dyeRecipesSpec.post enc Tryz.prog Tryz.f3 false true false false):=by
 refine returnsInHanded_of_change (C:=Tryz.checked) own started noInit Tryz.func3
  (ChangeSpec.witness6 (enc:=enc) (C:=Tryz.checked) false ⟨#[],#[.agg #[.int .i64 0,.slice none 0 0,.slice none 0 0,.int .i64 0],.slice none 0 0,.slice none 0 0,.slice none 0 0],[]⟩ 8 (by as_aux_lemma=>kernel_rfl) (by as_aux_lemma=>kernel_rfl) (by as_aux_lemma=>kernel_rfl) (by as_aux_lemma=>kernel_rfl)) ?_
 intro W base args ds gs before hval0 hW hcnd _
 have hval : ∀ (j : Nat) t v,Tryz.f3.params[j]? = some t → args[j]? = some v → Value.okWide Tryz.prog W .any base t v:=hval0
 have hW':=hW
 obtain ⟨p,q,hA0,hV,rfl,hfz,hnd⟩:=hW
 have hA : DataW.TrodAll enc Tryz.prog W 0 (fun _=>true) true Tryz.f3.params.toList args.toList ds p:=hA0
 rw [Tryz.params3] at hA hval
 obtain ⟨v0,vs0,d0,ds0,p0,q0,hargs,rfl,rfl,h0,r0⟩:=trodAll_cons hA
 obtain ⟨v1,vs1,d1,ds1,p1,q1,rfl,rfl,rfl,h1,r1⟩:=trodAll_cons r0
 obtain ⟨v2,vs2,d2,ds2,p2,q2,rfl,rfl,rfl,h2,r2⟩:=trodAll_cons r1
 obtain ⟨v3,vs3,d3,ds3,p3,q3,rfl,rfl,rfl,h3,r3⟩:=trodAll_cons r2
 obtain ⟨rfl,rfl,rfl⟩:=trodAll_nil r3
 obtain rfl : args = #[v0,v1,v2,v3]:=by cases args;simp_all
 obtain ⟨rfl,rfl⟩:=trodVars_none hV
 have k0':=h0
 have lt0 : ∀ x ∈ p0,x.block < W.heap.size:=by obtain ⟨m,hm⟩:=k0';exact DataW.trod_lt m _ _ _ hm
 have k1':=h1
 have lt1 : ∀ x ∈ p1,x.block < W.heap.size:=by obtain ⟨m,hm⟩:=k1';exact DataW.trod_lt m _ _ _ hm
 have k2':=h2
 have lt2 : ∀ x ∈ p2,x.block < W.heap.size:=by obtain ⟨m,hm⟩:=k2';exact DataW.trod_lt m _ _ _ hm
 have k3':=h3
 have lt3 : ∀ x ∈ p3,x.block < W.heap.size:=by obtain ⟨m,hm⟩:=k3';exact DataW.trod_lt m _ _ _ hm
 obtain ⟨cs0,rfl,hcs0⟩:=okWide_struct Tryz.underlying24 (hval 0 24 v0 rfl rfl)
 obtain ⟨x0,hl0,w0⟩ : ∃ x : Vm,cs0.toList = [.int .i64 x.B,.slice x.da x.D.length x.dc,.slice x.la x.L.length x.lc,.int .i64 x.tol] ∧ x.At W:=by
  obtain ⟨fuel,hf⟩:=h0
  exact open_vat hf
 obtain rfl : cs0 = #[.int .i64 x0.B,.slice x0.da x0.D.length x0.dc,.slice x0.la x0.L.length x0.lc,.int .i64 x0.tol]:=Array.toList_inj.1 hl0
 obtain ⟨a1,len1,cap1,rfl⟩:=okWide_slice Tryz.underlying25 (hval 1 25 v1 rfl rfl)
 obtain ⟨z1,w1⟩ : ∃ zs,IsRow .i64 W a1 len1 cap1 zs:=by
  obtain ⟨fuel,hf⟩:=h1
  rcases open_ints Tryz.underlying25 Tryz.underlying3 sliceInt hf with ⟨hcs,_⟩ | ⟨x,l,c,zs,hcs,_,hl,hm,hz,_,hcell,hwz⟩
  ·simp [Value.cells] at hcs
   obtain ⟨rfl,rfl,rfl⟩:=hcs
   exact ⟨[],.inl ⟨rfl,rfl,rfl,rfl⟩⟩
  ·simp [Value.cells] at hcs
   obtain ⟨rfl,rfl,rfl⟩:=hcs
   exact ⟨zs,.inr ⟨_,rfl,hl,hm,by simpa using hz,hcell,hwz⟩⟩
 obtain ⟨a2,len2,cap2,rfl⟩:=okWide_slice Tryz.underlying25 (hval 2 25 v2 rfl rfl)
 obtain ⟨z2,w2⟩ : ∃ zs,IsRow .i64 W a2 len2 cap2 zs:=by
  obtain ⟨fuel,hf⟩:=h2
  rcases open_ints Tryz.underlying25 Tryz.underlying3 sliceInt hf with ⟨hcs,_⟩ | ⟨x,l,c,zs,hcs,_,hl,hm,hz,_,hcell,hwz⟩
  ·simp [Value.cells] at hcs
   obtain ⟨rfl,rfl,rfl⟩:=hcs
   exact ⟨[],.inl ⟨rfl,rfl,rfl,rfl⟩⟩
  ·simp [Value.cells] at hcs
   obtain ⟨rfl,rfl,rfl⟩:=hcs
   exact ⟨zs,.inr ⟨_,rfl,hl,hm,by simpa using hz,hcell,hwz⟩⟩
 obtain ⟨a3,len3,cap3,rfl⟩:=okWide_slice Tryz.underlying25 (hval 3 25 v3 rfl rfl)
 obtain ⟨z3,w3⟩ : ∃ zs,IsRow .i64 W a3 len3 cap3 zs:=by
  obtain ⟨fuel,hf⟩:=h3
  rcases open_ints Tryz.underlying25 Tryz.underlying3 sliceInt hf with ⟨hcs,_⟩ | ⟨x,l,c,zs,hcs,_,hl,hm,hz,_,hcell,hwz⟩
  ·simp [Value.cells] at hcs
   obtain ⟨rfl,rfl,rfl⟩:=hcs
   exact ⟨[],.inl ⟨rfl,rfl,rfl,rfl⟩⟩
  ·simp [Value.cells] at hcs
   obtain ⟨rfl,rfl,rfl⟩:=hcs
   exact ⟨zs,.inr ⟨_,rfl,hl,hm,by simpa using hz,hcell,hwz⟩⟩
 clear hA0 hval0
 refine (walk x0 a1 len1 cap1 z1 a2 len2 cap2 z2 a3 len3 cap3 z3 W w0 w1 w2 w3).mono fun e W' ⟨he,bel⟩=>?_
 subst he
 exact ⟨_,rfl,_,_,_,[],_,[],hW',trodAll_mk1 (shut_bool Tryz.underlying4 _),(trodAll_cons_mk (Below.trod laidOut (by as_aux_lemma=>kernel_rfl) (of_decide_eq_true (by as_aux_lemma=>kernel_rfl)) k0' bel lt0) (trodAll_cons_mk (Below.trod laidOut (by as_aux_lemma=>kernel_rfl) (of_decide_eq_true (by as_aux_lemma=>kernel_rfl)) k1' bel lt1) (trodAll_cons_mk (Below.trod laidOut (by as_aux_lemma=>kernel_rfl) (of_decide_eq_true (by as_aux_lemma=>kernel_rfl)) k2' bel lt2) (trodAll_cons_mk (Below.trod laidOut (by as_aux_lemma=>kernel_rfl) (of_decide_eq_true (by as_aux_lemma=>kernel_rfl)) k3' bel lt3) trodAll_mk0)))),rfl,bel.frame _,fun h=>by cases h⟩
theorem said_of_walk (walk : ∀ (x0 : Vm) (a1 : Option Addr) (len1 cap1 : Nat) (z1 : List Int) (a2 : Option Addr) (len2 cap2 : Nat) (z2 : List Int) (a3 : Option Addr) (len3 cap3 : Nat) (z3 : List Int) (w : World),x0.At w → IsRow .i64 w a1 len1 cap1 z1 → IsRow .i64 w a2 len2 cap2 z2 → IsRow .i64 w a3 len3 cap3 z3 →
  Calls Tryz.prog 3 #[.agg #[.int .i64 x0.B,.slice x0.da x0.D.length x0.dc,.slice x0.la x0.L.length x0.lc,.int .i64 x0.tol],.slice a1 len1 cap1,.slice a2 len2 cap2,.slice a3 len3 cap3] w fun e w'=>e = .returned (.bool true) ∧ Below w.heap.size w w') : Rows.DyeRecipesSaid:=
 OpenClaim.holds_of_wide 3 Tryz.f3 rfl rfl rfl rfl rfl rfl rfl ⟨rfl,rfl,rfl,rfl,rfl⟩ rfl rfl rfl rfl rfl named Tryz.func3 closed
  inst wrap (fun os started H enc _=>lifted walk os started H enc)
end Go.Proofs.YtdjeecgddbjbeaaGreat.dyeRecipes
namespace Go.Proofs.YtdjeecgddbjbeaaGreat
open Go.RowKit
theorem dyeRecipes_said : Rows.DyeRecipesSaid:=
 dyeRecipes.said_of_walk fun x a1 n1 c1 z1 a2 n2 c2 z2 a3 n3 c3 z3 w hx h1 h2 h3=>by
  obtain ⟨s,rfl,hs⟩:=rows_of_isRow h1
  obtain ⟨l,rfl,hl⟩:=rows_of_isRow h2
  exact (dyeRecipes_walk x s l a1 a2 a3 c1 c2 n3 c3 z3 w hx hs hl h3).mono fun _ _ ⟨h1,h2⟩=>⟨h1,h2.below⟩
end Go.Proofs.YtdjeecgddbjbeaaGreat
