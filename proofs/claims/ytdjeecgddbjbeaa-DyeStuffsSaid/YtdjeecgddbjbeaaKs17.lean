/- Parts of a proof: Dfk, FrDyeStuffs, ClDyeStuffs. No conditions. -/
import Derived.Below
import Derived.ChangeOld
import Derived.ChangeSlices
import Derived.Conc.Holds
import Derived.Leaving
import Derived.OpenShut
import Derived.ProofKit
import Derived.ShutString
import Derived.WalkKit
import Derived.WideShapes
import Derived.Test.YtdjeecgddbjbeaaKs1
import Derived.Test.YtdjeecgddbjbeaaKs3
import Derived.Test.YtdjeecgddbjbeaaKs16
set_option linter.unusedVariables false
set_option linter.unusedSimpArgs false
namespace Go.Proofs.Ytdjeecgddbjbeaa
open Go.ChangeShapes Go.WideShapes Go.RowKit
section
variable {H : Type} {enc : TypeId × Value → H} {P : Program} {w : World}
theorem open_vals {Q : Value → Prop} {t e : TypeId} {fuel : Nat} {cs : List Value} {x : DataW H × List MemPlace} (ht : P.underlying t = some (.slice e)) (hsz : P.cellsOf e = 1)
  (hE : ∀ n v y,DataW.trod enc P w 0 (fun _=>true) true n e [v] = some y → Q v)
  (h : DataW.trod enc P w 0 (fun _=>true) true fuel t cs = some x) :
  ∃ (a : Option Addr) (c : Nat) (vs : List Value),cs = [.slice a vs.length c] ∧ (∀ v ∈ vs,Q v) ∧ IsRows w (.slice a vs.length c) 1 (vs.map fun v=>[v]):=by
 rcases DataW.trod_slice ht h with ⟨rfl,-⟩ | ⟨a,len,cap,elems,rest,n,-,rfl,-,-,-,-,hlen,hel,-,-⟩
 ·exact ⟨none,0,[],rfl,by simp,⟨none,0,rfl,by simp,fun h=>absurd rfl h⟩⟩
 have each : ∀ i,∃ v : Value,i < len → Q v ∧ w.cell? (a.add i) = some v:=by
  intro i
  by_cases hi : i < len
  ·have hq:=hel i hi
   rw [List.getElem?_eq_getElem (by omega),Option.bind_eq_some_iff] at hq
   obtain ⟨ci,h1,h2⟩:=hq
   rw [hsz] at h1
   obtain ⟨-,hl,hc⟩:=World.cells?_some h1
   match ci,hl with
   | [v],_ =>
    refine ⟨v,fun _=>⟨hE _ _ _ h2,?_⟩⟩
    have:=hc 0 (by omega)
    rw [Nat.mul_one] at this
    have h00 : (a.add i).add 0 = a.add i:=rfl
    rw [h00] at this
    simpa using this
  ·exact ⟨.bool true,fun h=>absurd h hi⟩
 obtain ⟨f,hf⟩ : ∃ f : Nat → Value,∀ i,i < len → Q (f i) ∧ w.cell? (a.add i) = some (f i):=⟨fun i=>Classical.choose (each i),fun i=>Classical.choose_spec (each i)⟩
 have hL : ((List.range len).map f).length = len:=by simp
 refine ⟨some a,cap,(List.range len).map f,by rw [hL],?_,?_⟩
 ·intro r hr
  obtain ⟨i,hi,rfl⟩:=List.mem_map.1 hr
  exact (hf i (List.mem_range.1 hi)).1
 ·refine ⟨some a,cap,by simp,?_,fun hne=>?_⟩
  ·intro r hr
   obtain ⟨r',hr',rfl⟩:=List.mem_map.1 hr
   rfl
  ·have hp : 0 < len:=by
    rcases Nat.eq_zero_or_pos len with rfl | h
    ·exact absurd rfl hne
    ·exact h
   have c0:=(hf 0 hp).2
   have ha0 : a.add 0 = a:=rfl
   rw [ha0] at c0
   obtain ⟨b,off,spot⟩:=a
   have hs : spot = none:=by
    cases spot with
    | none=>rfl
    | some k =>
     unfold World.cell? at c0
     split at c0 <;> simp at c0
   subst hs
   have hb : b < w.heap.size:=by
    unfold World.cell? at c0
    cases hq : w.heap[b]? with
    | none=>simp [hq] at c0
    | some o=>exact (Array.getElem?_eq_some_iff.1 hq).1
   refine ⟨b,off,rfl,hb,fun i j r hi hj=>?_⟩
   have hil : i < len:=by have:=(List.getElem?_eq_some_iff.1 hi).1;simpa using this
   have hr : r = [f i]:=by simpa [hil] using hi.symm
   subst hr
   have hj0 : j = 0:=by simpa using hj
   subst hj0
   have:=(hf i hil).2
   rw [add_plain] at this
   simpa using this
end
theorem vals_ints : ∀ (vs : List Value),(∀ v ∈ vs,∃ k : Int,v = .int .i64 k) → ∃ xs : List Int,xs.length = vs.length ∧ (vs.map fun v=>[v]) = xs.map intRow
 | [],_=>⟨[],rfl,rfl⟩
 | v :: vs,h=>by
  obtain ⟨xs,h1,h2⟩:=vals_ints vs fun x hx=>h x (List.mem_cons_of_mem _ hx)
  obtain ⟨k,rfl⟩:=h v (List.mem_cons_self ..)
  exact ⟨k :: xs,by simp [h1],by simp [h2,intRow]⟩
theorem vals_rows {w : World} : ∀ (vs : List Value),(∀ v ∈ vs,∃ xs : List Int,RowOf w v xs) → ∃ L : List (Value × List Int),L.length = vs.length ∧ (vs.map fun v=>[v]) = L.map (fun p=>[p.1]) ∧ ∀ p ∈ L,RowOf w p.1 p.2
 | [],_=>⟨[],rfl,rfl,by simp⟩
 | v :: vs,h=>by
  obtain ⟨L,h1,h2,h3⟩:=vals_rows vs fun x hx=>h x (List.mem_cons_of_mem _ hx)
  obtain ⟨xs,hx⟩:=h v (List.mem_cons_self ..)
  exact ⟨(v,xs) :: L,by simp [h1],by simp [h2],fun p hp=>by rcases List.mem_cons.1 hp with rfl | hp;(· exact hx);(· exact h3 p hp)⟩
theorem fk_int1 : Try.prog.cellsOf 3 = 1:=by kernel_rfl
theorem fk_sl1 : Try.prog.cellsOf 25 = 1:=by kernel_rfl
theorem fk_ll1 : Try.prog.cellsOf 22 = 1:=by kernel_rfl
section
variable {H : Type} {enc : TypeId × Value → H} {w : World}
theorem open_one (n : Nat) (c : Value) (y : DataW H × List MemPlace) (h : DataW.trod enc Try.prog w 0 (fun _=>true) true n 3 [c] = some y) : ∃ k : Int,c = .int .i64 k:=by
 obtain ⟨k,hk,-,-⟩:=DataW.trod_int Try.underlying3 h
 simp at hk
 exact ⟨k,hk⟩
theorem open_row (n : Nat) (v : Value) (y : DataW H × List MemPlace) (h : DataW.trod enc Try.prog w 0 (fun _=>true) true n 25 [v] = some y) : ∃ xs : List Int,RowOf w v xs:=by
 obtain ⟨a,c,vs,h1,h2,h3⟩:=open_vals (Q:=fun v=>∃ k : Int,v = .int .i64 k) Try.underlying25 fk_int1 open_one h
 obtain ⟨xs,hx1,hx2⟩:=vals_ints vs h2
 simp only [List.cons.injEq,and_true] at h1
 subst h1
 rw [hx2,← hx1] at h3
 exact ⟨xs,a,c,by rw [hx1],h3⟩
theorem open_lists {n : Nat} {cs : List Value} {y : DataW H × List MemPlace} (h : DataW.trod enc Try.prog w 0 (fun _=>true) true n 22 cs = some y) : ∃ (a : Option Addr) (c : Nat) (L : List (Value × List Int)),cs = [.slice a L.length c] ∧ LolAt w a L:=by
 obtain ⟨a,c,vs,h1,h2,h3⟩:=open_vals (Q:=fun v=>∃ xs : List Int,RowOf w v xs) Try.underlying22 fk_sl1 open_row h
 obtain ⟨L,hl1,hl2,hl3⟩:=vals_rows vs h2
 subst h1
 rw [hl2,← hl1] at h3
 exact ⟨a,c,L,by rw [hl1],slAt_of_rows (row:=fun p : Value × List Int=>[p.1]) h3 (.bool true,[]),hl3⟩
theorem list4 {l : List Value} (h : l.length = 4) : ∃ c0 c1 c2 c3,l = [c0,c1,c2,c3]:=by
 match l,h with
 | [c0,c1,c2,c3],_=>exact ⟨_,_,_,_,rfl⟩
theorem open_vat {n : Nat} {cs : List Value} {y : DataW H × List MemPlace} (h : DataW.trod enc Try.prog w 0 (fun _=>true) true n 24 cs = some y) :
  ∃ x : Vm,cs = [.int .i64 x.B,.slice x.da x.D.length x.dc,.slice x.la x.L.length x.lc,.int .i64 x.tol] ∧ x.At w:=by
 obtain ⟨xs,m,-,-,hl,hxl,hx⟩:=DataW.trod_struct Try.underlying24 h
 obtain ⟨c0,c1,c2,c3,rfl⟩:=list4 (hl.trans (by kernel_rfl))
 have get : ∀ i : Nat,i < 4 → ∃ y,xs[i]? = some y:=fun i hi=>⟨_,List.getElem?_eq_getElem (by rw [hxl];exact hi)⟩
 obtain ⟨y0,e0⟩:=get 0 (by omega)
 obtain ⟨y1,e1⟩:=get 1 (by omega)
 obtain ⟨y2,e2⟩:=get 2 (by omega)
 obtain ⟨y3,e3⟩:=get 3 (by omega)
 have u0 : DataW.trod enc Try.prog w 0 (fun _=>true) true m 3 (([c0,c1,c2,c3].drop 0).take (Try.prog.cellsOf 3)) = some y0:=(hx 0 _ rfl).trans e0
 have u1 : DataW.trod enc Try.prog w 0 (fun _=>true) true m 22 (([c0,c1,c2,c3].drop 1).take (Try.prog.cellsOf 22)) = some y1:=(hx 1 _ rfl).trans e1
 have u2 : DataW.trod enc Try.prog w 0 (fun _=>true) true m 22 (([c0,c1,c2,c3].drop 2).take (Try.prog.cellsOf 22)) = some y2:=(hx 2 _ rfl).trans e2
 have u3 : DataW.trod enc Try.prog w 0 (fun _=>true) true m 3 (([c0,c1,c2,c3].drop 3).take (Try.prog.cellsOf 3)) = some y3:=(hx 3 _ rfl).trans e3
 simp only [fk_int1,fk_ll1,List.drop_succ_cons,List.drop_zero,List.take_succ_cons,List.take_zero] at u0 u1 u2 u3
 obtain ⟨B,rfl⟩:=open_one _ _ _ u0
 obtain ⟨T,rfl⟩:=open_one _ _ _ u3
 obtain ⟨a,c,D,hD,hA⟩:=open_lists u1
 obtain ⟨a',c',L,hL,hB⟩:=open_lists u2
 simp only [List.cons.injEq,and_true] at hD hL
 subst hD hL
 exact ⟨⟨B,D,a,c,L,a',c',T⟩,rfl,⟨hA,hB⟩⟩
end
end Go.Proofs.Ytdjeecgddbjbeaa
namespace Go.Proofs.Ytdjeecgddbjbeaa.dyeStuffs
open Go.ChangeShapes Go.WideShapes Go.ChangeAt Go.RowKit
open Go.ChangeMaps (open_string shut_string)
theorem k1 : (Rows.dyeStuffsRow.wf (OpenSpec.ofChange Rows.dyeStuffsSpec) : Bool) = true:=by kernel_rfl
theorem k4 : (Try.f4.params.all (Try.pinned.checked.prog.readableRec ·) : Bool) = true:=by kernel_rfl
theorem k5 : (namedTie Try.pinned.checked.prog Rows.dyeStuffsRow.named Rows.dyeStuffsSpec.vars : Bool) = true:=by kernel_rfl
theorem k6 : ((Rows.dyeStuffsRow.stops == []) : Bool) = true:=by kernel_rfl
theorem k8 : ((Rows.dyeStuffsRow.knobs == []) : Bool) = true:=by kernel_rfl
theorem k10 : ((Rows.dyeStuffsRow.inPlace == Try.pinned.checked.prog.inPlace 4) : Bool) = true:=by kernel_rfl
theorem k11 : ((Rows.dyeStuffsRow.unfollowed == Try.pinned.checked.prog.unfollowed 4) : Bool) = true:=by kernel_rfl
theorem k12 : ((Rows.dyeStuffsRow.recurses == Try.pinned.checked.prog.recurses 4) : Bool) = true:=by kernel_rfl
theorem k13 : ((Rows.dyeStuffsRow.named == Try.pinned.checked.prog.varsNamed 4) : Bool) = true:=by kernel_rfl
theorem k14 : ((Rows.dyeStuffsRow.maps == (Try.f4.params.toList ++ Rows.dyeStuffsSpec.plain.varTypes Try.pinned.checked.prog).any (Try.pinned.checked.prog.mapsRec ·)) : Bool) = true:=by kernel_rfl
theorem k15 : ((Rows.dyeStuffsRow.ifaces == (Try.f4.params.toList ++ Rows.dyeStuffsSpec.plain.varTypes Try.pinned.checked.prog).any (Try.pinned.checked.prog.ifacesRec ·)) : Bool) = true:=by kernel_rfl
theorem k16 : ((Rows.dyeStuffsRow.mapsOut == Try.pinned.checked.prog.mapsAmong Try.f4.resultTypes.toList) : Bool) = true:=by kernel_rfl
theorem k17 : ((Rows.dyeStuffsRow.loops == (Try.f4.params.toList ++ Rows.dyeStuffsSpec.plain.varTypes Try.pinned.checked.prog).any (Try.pinned.checked.prog.loopsFrom ·)) : Bool) = true:=by kernel_rfl
theorem k18 : ((Rows.dyeStuffsRow.wideKeys == (Try.f4.params.toList ++ Rows.dyeStuffsSpec.plain.varTypes Try.pinned.checked.prog ++ Try.f4.resultTypes.toList).any (Try.pinned.checked.prog.wideKeysFrom ·)) : Bool) = true:=by kernel_rfl
theorem k19 : (Rows.dyeStuffsSpec.vars.all (Try.pinned.checked.prog.varReadable ·) : Bool) = true:=by kernel_rfl
theorem k20 : (Try.f4.resultTypes.all (fun t=>Try.pinned.checked.prog.readableRec t && decide (t < Try.pinned.checked.prog.types.size)) : Bool) = true:=by kernel_rfl
theorem k21 : ((Rows.dyeStuffsRow.ifacesOut == Try.f4.resultTypes.toList.any (Try.pinned.checked.prog.ifacesRec ·)) : Bool) = true:=by kernel_rfl
theorem k22 : ((Rows.dyeStuffsRow.loopsOut == Try.f4.resultTypes.toList.any (Try.pinned.checked.prog.loopsFrom ·)) : Bool) = true:=by kernel_rfl
theorem k23 : ((Rows.dyeStuffsRow.plainKeys == Try.pinned.checked.prog.plainKeys) : Bool) = true:=by kernel_rfl
theorem k24 : (Rows.dyeStuffsRow.shortTexts.isNone : Bool) = true:=by kernel_rfl
theorem k27 : ((Rows.dyeStuffsRow.lifted == Try.pinned.checked.prog.liftsFinal) : Bool) = true:=(congrArg (fun x=>(Rows.dyeStuffsRow.lifted == x)) liftsFinal).trans (by kernel_rfl)
theorem k28 : ((Try.pinned.checked.prog.make == some Rows.dyeStuffsRow.make) : Bool) = true:=(congrArg (fun x=>(x == some Rows.dyeStuffsRow.make)) made).trans (by kernel_rfl)
theorem k29 : ((Rows.dyeStuffsRow.domain.isEmpty && Rows.dyeStuffsRow.kinds == []) : Bool) = true:=by kernel_rfl
theorem k30 : ((Rows.dyeStuffsRow.pinned == Rows.dyeStuffsRow.pinnedBy) : Bool) = true:=by kernel_rfl
theorem k31 : ((Rows.dyeStuffsRow.veiled == (Try.f4.params.toList ++ Rows.dyeStuffsSpec.plain.varTypes Try.pinned.checked.prog ++ Try.f4.resultTypes.toList).any (Try.pinned.checked.prog.veiledRec ·)) : Bool) = true:=by kernel_rfl
theorem k32 : (Rows.dyeStuffsRow.veiledFits Try.pinned.checked.prog Try.f4.params.toList (Try.f4.params.toList ++ Rows.dyeStuffsSpec.plain.varTypes Try.pinned.checked.prog ++ Try.f4.resultTypes.toList) : Bool) = true:=by kernel_rfl
theorem closed : joinedFacts Try.pinned.checked.prog 4 Try.f4 Rows.dyeStuffsSpec Rows.dyeStuffsRow = true:=joinedFacts_of k1 laidAll mapsAll k4 k5 k6 stopsNone k8 knobsNone k10 k11 k12 k13 k14 k15 k16 k17 k18 k19 k20 k21 k22 k23 k24 stopsHeard mayEnter k27 k28 k29 k30 k31 k32
theorem named : Try.pinned.checked.prog.funcNamed Rows.dyeStuffsRow.func = some 4:=by kernel_rfl
theorem inst : Try.f4.isInstance Try.pinned.checked.prog Rows.dyeStuffsRow.origin Rows.dyeStuffsRow.targs:=of_decide_eq_true (by kernel_rfl)
theorem wrap : Try.f4.isWrapper Try.pinned.checked.prog Rows.dyeStuffsRow.wrapper Rows.dyeStuffsRow.mainSum:=by unfold Func.isWrapper;first | (rw [if_pos (by decide +kernel)];kernel_rfl) | (rw [if_neg (by decide +kernel)];exact ⟨rfl,rfl⟩)
theorem laidOut : laidOutB Try.prog = true:=laidAll
theorem noInit : Try.prog.inits.idxOf? 4 = none:=by kernel_rfl
theorem sliceInt : Try.prog.cellsOf 3 = 1:=by kernel_rfl
set_option maxRecDepth 100000 in
theorem lifted (walk : ∀ (x0 : Vm) (x1 : Int) (L2 : List (Value × List Int)) (a2 : Option Addr) (c2 : Nat) (a3 : Option Addr) (len3 cap3 : Nat) (z3 : List Int) (a4 : Option Addr) (len4 cap4 : Nat) (z4 : List Int) (w : World),x0.At w → LolAt w a2 L2 → IsRow .i64 w a3 len3 cap3 z3 → IsRow .i64 w a4 len4 cap4 z4 →
  Calls Try.prog 4 #[.agg #[.int .i64 x0.B,.slice x0.da x0.D.length x0.dc,.slice x0.la x0.L.length x0.lc,.int .i64 x0.tol],.int .i64 x1,.slice a2 L2.length c2,.slice a3 len3 cap3,.slice a4 len4 cap4] w fun e w'=>e = .returned (.bool true) ∧ Below w.heap.size w w') (os : Os) (started : os.Started) (H : Type) (enc : TypeId × Value → H) :
  ReturnsInHanded {} Try.checked os 4 .any (Rows.dyeStuffsSpec.pre6 enc Try.prog Try.f4 Rows.dyeStuffsRow.domain false) (Rows.dyeStuffsSpec.post enc Try.prog Try.f4 false true false false):=by
 refine returnsInHanded_of_change (C:=Try.checked) own started noInit Try.func4
  (ChangeSpec.witness6 (enc:=enc) (C:=Try.checked) false ⟨#[],#[.agg #[.int .i64 0,.slice none 0 0,.slice none 0 0,.int .i64 0],.int .i64 0,.slice none 0 0,.slice none 0 0,.slice none 0 0],[]⟩ 8 (by as_aux_lemma=>kernel_rfl) (by as_aux_lemma=>kernel_rfl) (by as_aux_lemma=>kernel_rfl) (by as_aux_lemma=>kernel_rfl)) ?_
 intro W base args ds gs before hval0 hW hcnd _
 have hval : ∀ (j : Nat) t v,Try.f4.params[j]? = some t → args[j]? = some v → Value.okWide Try.prog W .any base t v:=hval0
 have hW':=hW
 obtain ⟨p,q,hA0,hV,rfl,hfz,hnd⟩:=hW
 have hA : DataW.TrodAll enc Try.prog W 0 (fun _=>true) true Try.f4.params.toList args.toList ds p:=hA0
 rw [Try.params4] at hA hval
 obtain ⟨v0,vs0,d0,ds0,p0,q0,hargs,rfl,rfl,h0,r0⟩:=trodAll_cons hA
 obtain ⟨v1,vs1,d1,ds1,p1,q1,rfl,rfl,rfl,h1,r1⟩:=trodAll_cons r0
 obtain ⟨v2,vs2,d2,ds2,p2,q2,rfl,rfl,rfl,h2,r2⟩:=trodAll_cons r1
 obtain ⟨v3,vs3,d3,ds3,p3,q3,rfl,rfl,rfl,h3,r3⟩:=trodAll_cons r2
 obtain ⟨v4,vs4,d4,ds4,p4,q4,rfl,rfl,rfl,h4,r4⟩:=trodAll_cons r3
 obtain ⟨rfl,rfl,rfl⟩:=trodAll_nil r4
 obtain rfl : args = #[v0,v1,v2,v3,v4]:=by cases args;simp_all
 obtain ⟨rfl,rfl⟩:=trodVars_none hV
 have k0':=h0
 have lt0 : ∀ x ∈ p0,x.block < W.heap.size:=by obtain ⟨m,hm⟩:=k0';exact DataW.trod_lt m _ _ _ hm
 have k1':=h1
 have lt1 : ∀ x ∈ p1,x.block < W.heap.size:=by obtain ⟨m,hm⟩:=k1';exact DataW.trod_lt m _ _ _ hm
 have k2':=h2
 have lt2 : ∀ x ∈ p2,x.block < W.heap.size:=by obtain ⟨m,hm⟩:=k2';exact DataW.trod_lt m _ _ _ hm
 have k3':=h3
 have lt3 : ∀ x ∈ p3,x.block < W.heap.size:=by obtain ⟨m,hm⟩:=k3';exact DataW.trod_lt m _ _ _ hm
 have k4':=h4
 have lt4 : ∀ x ∈ p4,x.block < W.heap.size:=by obtain ⟨m,hm⟩:=k4';exact DataW.trod_lt m _ _ _ hm
 obtain ⟨cs0,rfl,hcs0⟩:=okWide_struct Try.underlying24 (hval 0 24 v0 rfl rfl)
 obtain ⟨x0,hl0,w0⟩ : ∃ x : Vm,cs0.toList = [.int .i64 x.B,.slice x.da x.D.length x.dc,.slice x.la x.L.length x.lc,.int .i64 x.tol] ∧ x.At W:=by
  obtain ⟨fuel,hf⟩:=h0
  exact open_vat hf
 obtain rfl : cs0 = #[.int .i64 x0.B,.slice x0.da x0.D.length x0.dc,.slice x0.la x0.L.length x0.lc,.int .i64 x0.tol]:=Array.toList_inj.1 hl0
 obtain ⟨x1,rfl⟩:=okWide_int Try.underlying3 (hval 1 3 v1 rfl rfl)
 obtain ⟨a2',len2',cap2',rfl⟩:=okWide_slice Try.underlying22 (hval 2 22 v2 rfl rfl)
 obtain ⟨a2,c2,L2,hl2,w2⟩ : ∃ (a : Option Addr) (c : Nat) (L : List (Value × List Int)),(Value.slice a2' len2' cap2').cells.toList = [.slice a L.length c] ∧ LolAt W a L:=by
  obtain ⟨fuel,hf⟩:=h2
  exact open_lists hf
 obtain ⟨rfl,rfl,rfl⟩ : a2' = a2 ∧ len2' = L2.length ∧ cap2' = c2:=by simpa [Value.cells] using hl2
 obtain ⟨a3,len3,cap3,rfl⟩:=okWide_slice Try.underlying25 (hval 3 25 v3 rfl rfl)
 obtain ⟨z3,w3⟩ : ∃ zs,IsRow .i64 W a3 len3 cap3 zs:=by
  obtain ⟨fuel,hf⟩:=h3
  rcases open_ints Try.underlying25 Try.underlying3 sliceInt hf with ⟨hcs,_⟩ | ⟨x,l,c,zs,hcs,_,hl,hm,hz,_,hcell,hwz⟩
  ·simp [Value.cells] at hcs
   obtain ⟨rfl,rfl,rfl⟩:=hcs
   exact ⟨[],.inl ⟨rfl,rfl,rfl,rfl⟩⟩
  ·simp [Value.cells] at hcs
   obtain ⟨rfl,rfl,rfl⟩:=hcs
   exact ⟨zs,.inr ⟨_,rfl,hl,hm,by simpa using hz,hcell,hwz⟩⟩
 obtain ⟨a4,len4,cap4,rfl⟩:=okWide_slice Try.underlying25 (hval 4 25 v4 rfl rfl)
 obtain ⟨z4,w4⟩ : ∃ zs,IsRow .i64 W a4 len4 cap4 zs:=by
  obtain ⟨fuel,hf⟩:=h4
  rcases open_ints Try.underlying25 Try.underlying3 sliceInt hf with ⟨hcs,_⟩ | ⟨x,l,c,zs,hcs,_,hl,hm,hz,_,hcell,hwz⟩
  ·simp [Value.cells] at hcs
   obtain ⟨rfl,rfl,rfl⟩:=hcs
   exact ⟨[],.inl ⟨rfl,rfl,rfl,rfl⟩⟩
  ·simp [Value.cells] at hcs
   obtain ⟨rfl,rfl,rfl⟩:=hcs
   exact ⟨zs,.inr ⟨_,rfl,hl,hm,by simpa using hz,hcell,hwz⟩⟩
 clear hA0 hval0
 refine (walk x0 x1 L2 a2' cap2' a3 len3 cap3 z3 a4 len4 cap4 z4 W w0 w2 w3 w4).mono fun e W' ⟨he,bel⟩=>?_
 subst he
 exact ⟨_,rfl,_,_,_,[],_,[],hW',trodAll_mk1 (shut_bool Try.underlying4 _),(trodAll_cons_mk (Below.trod laidOut (by as_aux_lemma=>kernel_rfl) (of_decide_eq_true (by as_aux_lemma=>kernel_rfl)) k0' bel lt0) (trodAll_cons_mk (Below.trod laidOut (by as_aux_lemma=>kernel_rfl) (of_decide_eq_true (by as_aux_lemma=>kernel_rfl)) k1' bel lt1) (trodAll_cons_mk (Below.trod laidOut (by as_aux_lemma=>kernel_rfl) (of_decide_eq_true (by as_aux_lemma=>kernel_rfl)) k2' bel lt2) (trodAll_cons_mk (Below.trod laidOut (by as_aux_lemma=>kernel_rfl) (of_decide_eq_true (by as_aux_lemma=>kernel_rfl)) k3' bel lt3) (trodAll_cons_mk (Below.trod laidOut (by as_aux_lemma=>kernel_rfl) (of_decide_eq_true (by as_aux_lemma=>kernel_rfl)) k4' bel lt4) trodAll_mk0))))),rfl,bel.frame _,fun h=>by cases h⟩
theorem said_of_walk (walk : ∀ (x0 : Vm) (x1 : Int) (L2 : List (Value × List Int)) (a2 : Option Addr) (c2 : Nat) (a3 : Option Addr) (len3 cap3 : Nat) (z3 : List Int) (a4 : Option Addr) (len4 cap4 : Nat) (z4 : List Int) (w : World),x0.At w → LolAt w a2 L2 → IsRow .i64 w a3 len3 cap3 z3 → IsRow .i64 w a4 len4 cap4 z4 →
  Calls Try.prog 4 #[.agg #[.int .i64 x0.B,.slice x0.da x0.D.length x0.dc,.slice x0.la x0.L.length x0.lc,.int .i64 x0.tol],.int .i64 x1,.slice a2 L2.length c2,.slice a3 len3 cap3,.slice a4 len4 cap4] w fun e w'=>e = .returned (.bool true) ∧ Below w.heap.size w w') : Rows.DyeStuffsSaid:=
 OpenClaim.holds_of_wide 4 Try.f4 rfl rfl rfl rfl rfl rfl rfl ⟨rfl,rfl,rfl,rfl,rfl⟩ rfl rfl rfl rfl rfl named Try.func4 closed
  inst wrap (fun os started H enc _=>lifted walk os started H enc)
end Go.Proofs.Ytdjeecgddbjbeaa.dyeStuffs
namespace Go.Proofs.Ytdjeecgddbjbeaa
open Go.RowKit
theorem dyeStuffs_said : Rows.DyeStuffsSaid:=
 dyeStuffs.said_of_walk fun x n T a2 c2 a3 n3 c3 z3 a4 n4 c4 z4 w hx hT h3 h4=>by
  obtain ⟨l,rfl,hl⟩:=rows_of_isRow h3
  exact (dyeStuffs_walk x n T l a2 a3 a4 c2 c3 n4 c4 z4 w hx hT hl h4).mono fun _ _ ⟨h1,h2⟩=>⟨h1,h2.below⟩
end Go.Proofs.Ytdjeecgddbjbeaa
