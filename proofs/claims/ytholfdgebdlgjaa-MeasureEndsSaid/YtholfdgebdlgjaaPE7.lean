/- Parts of a proof: V1, Mea2, House. No conditions. -/
import Derived.Test.YtholfdgebdlgjaaPE3
import Derived.Test.YtholfdgebdlgjaaPE4
import Derived.Test.YtholfdgebdlgjaaPE6
set_option linter.unusedVariables false
set_option linter.unusedSimpArgs false
namespace Go.Proofs.Ytholfdgebdlgjaa
open Go.RowKit
structure Has (N:Nat) (a:Act) (L:List (Nat × Value)):Prop where
 ds:a.defers = []
 sz:a.tmps.size = N
 get:∀ k v,L.lookup k = some v → a.tmps.getD k undef = v
theorem Has.at {N:Nat} {a:Act} {L:List (Nat × Value)} (F:Has N a L) {k:Nat} {v:Value} (e:L.lookup k = some v):a.eval (.tmp k) = v:=F.get k v e
theorem Has.put {N:Nat} {a:Act} {L:List (Nat × Value)} (F:Has N a L) {d:Nat} (hd:d < N) (v:Value):Has N (a.put (some d) v) ((d,v) :: L):=by
 refine ⟨F.ds,by simp [Act.put,F.sz],fun k u e=>?_⟩
 simp only [List.lookup] at e
 by_cases h:k = d
 ·subst h
  simp only [beq_self_eq_true,Option.some.injEq] at e
  subst e
  have hs:=F.sz
  simp [Act.put,hs,hd]
 ·rw [show (k == d) = false by simpa using h] at e
  have:=F.get k u e
  simpa [Act.put,Array.getElem?_setIfInBounds_ne (Ne.symm h)] using this
def Z5A (L:List (Nat × Value)):List (Nat × Value) → Prop
 | []=>True
 | p :: R=>L.lookup p.1 = some p.2 ∧ Z5A L R
theorem Z5A.n {L:List (Nat × Value)}:Z5A L []:=trivial
theorem Z5A.c {L R:List (Nat × Value)} (k:Nat) {v:Value} (h:L.lookup k = some v) (r:Z5A L R):Z5A L ((k,v) :: R):=⟨h,r⟩
theorem Z5A.get {L:List (Nat × Value)}:∀ {R:List (Nat × Value)},Z5A L R → ∀ k v,R.lookup k = some v → L.lookup k = some v
 | [],_,k,v,e=>by simp [List.lookup] at e
 | p :: R,h,k,v,e=>by
  simp only [List.lookup] at e
  split at e
  ·rename_i hk
   obtain rfl:k = p.1:=by simpa using hk
   cases e
   exact h.1
  ·exact h.2.get k v e
theorem Has.sub {N:Nat} {a:Act} {L R:List (Nat × Value)} (F:Has N a L) (h:Z5A L R):Has N a R:=⟨F.ds,F.sz,fun k v e=>F.get k v (h.get k v e)⟩
def argL:Nat → List Value → List (Nat × Value)
 | _,[]=>[]
 | i,v :: vs=>(i,v) :: argL (i + 1) vs
theorem Z7l:∀ (vs:List Value) (i k:Nat) (v:Value),(argL i vs).lookup k = some v → ∃ j,k = i + j ∧ vs[j]? = some v
 | [],i,k,v,e=>by simp [argL,List.lookup] at e
 | u :: vs,i,k,v,e=>by
  simp only [argL,List.lookup] at e
  split at e
  ·rename_i hk
   cases e
   exact ⟨0,by simpa using hk,by simp⟩
  ·obtain ⟨j,h1,h2⟩:=Z7l vs (i + 1) k v e
   exact ⟨j + 1,by omega,by simpa using h2⟩
theorem Z01 {P:Program} {f:FuncId} {fn:Func} {c:Code} {args:List Value} {w:World} {R:Ending → World → Prop} (N:Nat) (hf:P.funcs[f]? = some fn) (hb:fn.body = some c) (hN:fn.ntmps = N) (hle:args.length ≤ N)
  (h:∀ a,Has N a (argL 0 args) → c.wp P (bodyPost P fn R) a w):Calls P f args.toArray w R:=by
 refine calls_of_wp hf hb (h _ ⟨rfl,by simp;omega,fun k v e=>?_⟩)
 obtain ⟨j,h1,h2⟩:=Z7l _ _ _ _ e
 obtain rfl:k = j:=by omega
 have hj:=(List.getElem?_eq_some_iff.1 h2).1
 simp only [Array.getD_eq_getD_getElem?]
 rw [Array.getElem?_append_left (by simpa using hj)]
 simp [h2]
section
variable {P:Program} {ρ:Operand → Value} {o:Oper} {w:World}
theorem Zbs {f:FuncId} {args:Array Operand} {ts:Array TypeId} {vs:Array Value} (ho:o.op = .call { callee:=.value (.func f),args:=args,argTypes:=ts }) (hf:ρ (.func f) = .func (.func f) #[] #[]) (hc:∀ args w,(callFunc f args).run P w = .ok (.enter f args) w) (ha:args.map ρ = vs):(execOp ρ o).run P w = .ok (.enter f vs) w:=by
 subst ha
 unfold execOp
 simp [ho,resolve,hf,invoke,hc,go_sem]
end
section
variable {P:Program} {ops:Array Oper} {Q:Exit → Act → World → Prop} {o:Oper} {rest:List Oper} {N:Nat} {a:Act} {L:List (Nat × Value)} {w w':World} {v:Value}
theorem ZQ (F:Has N a L) {j s:Nat} {b:Bool} (hg:o.guard = some (j,b)) (hj:(ops[j]?).bind (·.dst) = some s) (hs:s < N) (hl:L.lookup s = some (.bool b)):Region.wanted o (yielded ops a.tmps) = true:=by
 have h1:=F.get _ _ hl
 have h2:a.tmps[s]? = some (.bool b):=by
  have hsz:=F.sz
  rw [Array.getElem?_eq_getElem (by omega)]
  rw [Array.getD_eq_getD_getElem?,Array.getElem?_eq_getElem (by omega)] at h1
  simpa using h1
 unfold Region.wanted yielded
 simp [hg,hj,h2]
theorem Z04 (F:Has N a L) {j s:Nat} {b c:Bool} (hg:o.guard = some (j,b)) (hj:(ops[j]?).bind (·.dst) = some s) (hs:s < N) (hl:L.lookup s = some (.bool c)) (hbc:(c == b) = false):Region.wanted o (yielded ops a.tmps) = false:=by
 have h1:=F.get _ _ hl
 have h2:a.tmps[s]? = some (.bool c):=by
  have hsz:=F.sz
  rw [Array.getElem?_eq_getElem (by omega)]
  rw [Array.getD_eq_getD_getElem?,Array.getElem?_eq_getElem (by omega)] at h1
  simpa using h1
 unfold Region.wanted yielded
 simp [hg,hj,h2,hbc]
theorem Z00 (F:Has N a L) {d:Nat} (hd:o.dst = some d) (hN:d < N) (hw:Region.wanted o (yielded ops a.tmps) = true) (hr:(execOp a.eval o).run P w = .ok (.value v) w') (h:∀ a2 w2,Has N a2 ((d,v) :: L) → w2 = w' → wpList P ops Q rest a2 w2):wpList P ops Q (o :: rest) a w:=by
 unfold wpList
 simp only [hw,if_true,Oper.wp,hr,Oper.upon,hd]
 exact .inl (h _ _ (F.put hN v) rfl)
theorem Z8t (F:Has N a L) {d:Nat} (hd:o.dst = some d) (hN:d < N) (hw:Region.wanted o (yielded ops a.tmps) = true) (hr:(execOp a.eval o).run P w = .ok (.value v) w) (h:∀ a2,Has N a2 ((d,v) :: L) → wpList P ops Q rest a2 w):wpList P ops Q (o :: rest) a w:=
 Z00 F hd hN hw hr fun a2 w2 F2 e=>by subst e;exact h a2 F2
theorem Z03 (F:Has N a L) {d:Nat} (hd:o.dst = some d) (hN:d < N) (hw:Region.wanted o (yielded ops a.tmps) = false) (h:∀ a2,Has N a2 ((d,undef) :: L) → wpList P ops Q rest a2 w):wpList P ops Q (o :: rest) a w:=by
 unfold wpList
 simp only [hw,Bool.false_eq_true,if_false,hd]
 exact h _ (F.put hN undef)
theorem Z1L (hd:o.dst = none) (hw:Region.wanted o (yielded ops a.tmps) = true) (hr:(execOp a.eval o).run P w = .ok .skip w') (h:∀ w2,w2 = w' → wpList P ops Q rest a w2):wpList P ops Q (o :: rest) a w:=by
 unfold wpList
 simp only [hw,if_true,Oper.wp,hr,Oper.upon,hd,Act.put]
 exact .inl (h _ rfl)
theorem ZX (F:Has N a L) {d:Nat} {f:FuncId} {args:Array Value} {R:Ending → World → Prop} (hd:o.dst = some d) (hN:d < N) (hw:Region.wanted o (yielded ops a.tmps) = true) (hr:(execOp a.eval o).run P w = .ok (.enter f args) w) (hc:Calls P f args w R)
  (h:∀ e w',R e w' → ∃ v,e = .returned v ∧ ∀ a2,Has N a2 ((d,v) :: L) → wpList P ops Q rest a2 w'):wpList P ops Q (o :: rest) a w:=by
 unfold wpList
 simp only [hw,if_true,Oper.wp,hr,Oper.upon]
 refine .inl (hc.mono fun e w' hR=>?_)
 obtain ⟨v,rfl,h1⟩:=h e w' hR
 show wpList _ _ _ _ _ _
 rw [hd]
 exact h1 _ (F.put hN v)
end
def held (stop:Option Nat) (listed:Array Bool):Bool:=match stop with
 | none=>true
 | some l=>!(listed.getD l true)
theorem Z2Z {stop:Option Nat} {listed:Array Bool} {i:Nat} (h:stop ≠ some i):held stop (listed.setIfInBounds i true) = held stop listed:=by
 cases stop with
 | none=>rfl
 | some l=>simp only [held];rw [getD_set_ne true (fun e=>h (by rw [e]))]
section
variable {P:Program} {md:Region.Mode} {ops:Array Oper} {Q:Exit → Act → World → Prop} {T:World → Prop} {stop:Option Nat}
def Z17 (P:Program) (md:Region.Mode) (ops:Array Oper) (Q:Exit → Act → World → Prop) (T:World → Prop) (stop:Option Nat):Nat → Array Bool → Act → World → Prop
 | 0,listed,a,w=>Region.ready md ops listed = [] ∧ Q .normal a w
 | fuel + 1,listed,a,w =>
  (Region.ready md ops listed = [] → Q .normal a w) ∧
  ∀ i ∈ Region.ready md ops listed,wpOp P ops Q i (fun a' w'=>(held stop (listed.setIfInBounds i true) = true → T w') ∧ Z17 P md ops Q T stop fuel (listed.setIfInBounds i true) a' w') a w
theorem Z7j:∀ (fuel:Nat) (listed:Array Bool) (a:Act) (w:World),Z17 P md ops Q T stop fuel listed a w → wpAny P md ops Q fuel listed a w
 | 0,_,_,_,h=>h
 | fuel + 1,_,_,_,h=>⟨h.1,fun i hi=>wpOp_mono (fun a' w' h'=>Z7j fuel _ a' w' h'.2) (h.2 i hi)⟩
def Zat (b:Bool) (T:World → Prop) (w:World):Prop:=b = true → T w
theorem Z7J {b:Bool} {i:Nat} {oi:Oper} {v:Value} (hi:ops[i]? = some oi) (hil:stop ≠ some i) (hwait:b = true → ∀ l,stop = some l → ∃ ol,ops[l]? = some ol ∧ ∃ e ∈ ol.after,Region.binds md e = true ∧ e.on = i)
  (hsel:∀ (j:Nat) (o:Oper) cs b,ops[j]? = some o → o.op ≠ .select cs b) (hQ:∀ c a w,Q (.panic c) (a.put oi.dst v) w → Q (.panic c) a w) :
  ∀ (fuel:Nat) (listed:Array Bool) (a:Act) (w:World),
   (∀ j oj,ops[j]? = some oj → j ≠ i → listed.getD j true = false → (∀ e ∈ oj.after,Region.binds md e = true → e.on ≠ i) → oi.apart ops oj = true) →
   i ∈ Region.ready md ops listed → YieldsIf P ops (Zat b T) oi v a → (held stop listed = true → T w) → (b = true → held stop listed = true) →
   Z17 P md ops Q T stop fuel (listed.setIfInBounds i true) (a.put oi.dst v) w → Z17 P md ops Q T stop (fuel + 1) listed a w:=by
 intro fuel
 induction fuel with
 | zero =>
  intro listed a w _ hr hy hT hb H
  refine ⟨fun h=>(by rw [h] at hr;cases hr),fun j hj=>?_⟩
  by_cases hji:j = i
  ·subst hji
   exact hy.wpOp hi (fun h=>hT (hb h)) ⟨fun h=>hT (by rwa [Z2Z hil] at h),H⟩
  ·have:=ready_mono hj hji
   rw [H.1] at this
   cases this
 | succ fuel ih =>
  intro listed a w hfree hr hy hT hb H
  refine ⟨fun h=>(by rw [h] at hr;cases hr),fun j hj=>?_⟩
  by_cases hji:j = i
  ·subst hji
   exact hy.wpOp hi (fun h=>hT (hb h)) ⟨fun h=>hT (by rwa [Z2Z hil] at h),H⟩
  ·have h1:=H.2 j (ready_mono hj hji)
   obtain ⟨hjun,oj,hoj,hall⟩:=mem_ready.1 hj
   have hnot:∀ e ∈ oj.after,Region.binds md e = true → e.on ≠ i:=fun e he hb heq=>by
    have h1:=hall e he hb
    have h0:=(mem_ready.1 hr).1
    rw [heq] at h1
    rcases Nat.lt_or_ge i listed.size with h' | h'
    ·simp [h'] at h0 h1;rw [h0] at h1;cases h1
    ·simp [Array.getElem?_eq_none h'] at h1
   have h2:=wpOp_putIf hoj (hfree j oj hoj hji hjun hnot) (fun cs b=>hsel i oi cs b hi) (fun cs b=>hsel j oj cs b hoj) hQ hy h1
   have hfree':∀ k ok,ops[k]? = some ok → k ≠ i → (listed.setIfInBounds j true).getD k true = false →
     (∀ e ∈ ok.after,Region.binds md e = true → e.on ≠ i) → oi.apart ops ok = true:=fun k ok hk hki hun hno=>by
    refine hfree k ok hk hki ?_ hno
    by_cases hjk:j = k
    ·subst hjk;exact hjun
    ·rw [getD_set_ne true hjk] at hun;exact hun
   have key:held stop ((listed.setIfInBounds i true).setIfInBounds j true) = held stop (listed.setIfInBounds j true):=by
    rw [Array.setIfInBounds_comm _ _ (Ne.symm hji),Z2Z hil]
   have hb':b = true → held stop (listed.setIfInBounds j true) = true:=fun hbt=>by
    rw [Z2Z (fun e=>?_)]
    ·exact hb hbt
    ·obtain ⟨ol,hol,ee,he,hbd,heq⟩:=hwait hbt j e
     rw [hoj] at hol
     cases hol
     exact hnot ee he hbd heq
   refine wpOp_mono (fun a' w' h3=>⟨fun hh=>h3.2.1 (by rw [key];exact hh),ih (listed.setIfInBounds j true) a' w' hfree' (ready_mono hr (Ne.symm hji)) h3.1 (fun hh=>h3.2.1 (by rw [key];exact hh)) hb' ?_⟩) h2
   rw [Array.setIfInBounds_comm _ _ hji]
   exact h3.2.2
variable {N:Nat} {a:Act} {L:List (Nat × Value)} {w w':World} {fuel:Nat} {listed:Array Bool}
def Z50 (md:Region.Mode) (ops:Array Oper) (stop:Option Nat) (b:Bool) (listed:Array Bool) (i:Nat):Bool:=
 Region.noSelect ops && Region.free md ops listed i && (Region.ready md ops listed).contains i && (stop != some i) &&
 (!b || ((match stop with | none=>true | some l=>((ops[l]?).map fun ol=>ol.after.any fun e=>Region.binds md e && e.on == i).getD false) && held stop listed))
theorem Zag {b:Bool} (F:Has N a L) {i d:Nat} {oi:Oper} {v:Value} (hi:ops[i]? = some oi) (hd:oi.dst = some d) (hN:d < N) (hk:Z50 md ops stop b listed i = true)
  (hQ:∀ c a w,Q (.panic c) (a.put oi.dst v) w → Q (.panic c) a w) (hy:YieldsIf P ops (Zat b T) oi v a) (hT:held stop listed = true → T w)
  (h:∀ a2,Has N a2 ((d,v) :: L) → Z17 P md ops Q T stop fuel (listed.setIfInBounds i true) a2 w):Z17 P md ops Q T stop (fuel + 1) listed a w:=by
 simp only [Z50,Bool.and_eq_true,Bool.or_eq_true,Bool.not_eq_true'] at hk
 obtain ⟨⟨⟨⟨k1,k2⟩,k3⟩,k4⟩,k5⟩:=hk
 refine Z7J hi (by simpa using k4) (fun hb l hl=>?_) (Region.noSelect_spec k1) hQ fuel listed a w (Region.free_spec hi k2) (by simpa using k3) hy hT (fun hb=>?_) (by rw [hd];exact h _ (F.put hN v))
 ·rcases k5 with k5 | k5
  ·rw [hb] at k5;cases k5
  ·subst hl
   have k6:=k5.1
   cases ho:ops[l]? with
   | none=>simp [ho] at k6
   | some ol =>
    simp only [ho,Option.map_some,Option.getD_some] at k6
    obtain ⟨e,he,hbd⟩:=Array.any_eq_true'.1 k6
    simp only [Bool.and_eq_true,beq_iff_eq] at hbd
    exact ⟨ol,rfl,e,he,hbd.1,hbd.2⟩
 ·rcases k5 with k5 | k5
  ·rw [hb] at k5;cases k5
  ·exact k5.2
theorem Zbo (F:Has N a L) {i d:Nat} {oi:Oper} {v:Value} (hi:ops[i]? = some oi) (hd:oi.dst = some d) (hN:d < N) (hk:Z50 md ops stop false listed i = true)
  (hQ:∀ c a w,Q (.panic c) (a.put oi.dst v) w → Q (.panic c) a w) (hw:Region.wanted oi (yielded ops a.tmps) = true) (hr:∀ w,(execOp a.eval oi).run P w = .ok (.value v) w) (hT:held stop listed = true → T w)
  (h:∀ a2,Has N a2 ((d,v) :: L) → Z17 P md ops Q T stop fuel (listed.setIfInBounds i true) a2 w):Z17 P md ops Q T stop (fuel + 1) listed a w:=
 Zag (b:=false) F hi hd hN hk hQ (.inl ⟨hw,fun w _=>hr w⟩) hT h
theorem ZaS (F:Has N a L) {i d:Nat} {oi:Oper} {v:Value} (hi:ops[i]? = some oi) (hd:oi.dst = some d) (hN:d < N) (hk:Z50 md ops stop true listed i = true)
  (hQ:∀ c a w,Q (.panic c) (a.put oi.dst v) w → Q (.panic c) a w) (hw:Region.wanted oi (yielded ops a.tmps) = true) (hr:∀ w,T w → (execOp a.eval oi).run P w = .ok (.value v) w) (hT:held stop listed = true → T w)
  (h:∀ a2,Has N a2 ((d,v) :: L) → Z17 P md ops Q T stop fuel (listed.setIfInBounds i true) a2 w):Z17 P md ops Q T stop (fuel + 1) listed a w:=
 Zag (b:=true) F hi hd hN hk hQ (.inl ⟨hw,fun w hw=>hr w (hw rfl)⟩) hT h
theorem Zv {i:Nat} (hr:Region.ready md ops listed = [i]) (h:wpOp P ops Q i (fun a' w'=>(held stop (listed.setIfInBounds i true) = true → T w') ∧ Z17 P md ops Q T stop fuel (listed.setIfInBounds i true) a' w') a w):Z17 P md ops Q T stop (fuel + 1) listed a w:=by
 refine ⟨fun h0=>(by rw [hr] at h0;cases h0),fun j hj=>?_⟩
 rw [hr] at hj
 obtain rfl:j = i:=by simpa using hj
 exact h
theorem Z19 {i j:Nat} (hr:Region.ready md ops listed = [i,j])
  (h1:wpOp P ops Q i (fun a' w'=>(held stop (listed.setIfInBounds i true) = true → T w') ∧ Z17 P md ops Q T stop fuel (listed.setIfInBounds i true) a' w') a w)
  (h2:wpOp P ops Q j (fun a' w'=>(held stop (listed.setIfInBounds j true) = true → T w') ∧ Z17 P md ops Q T stop fuel (listed.setIfInBounds j true) a' w') a w):Z17 P md ops Q T stop (fuel + 1) listed a w:=by
 refine ⟨fun h0=>(by rw [hr] at h0;cases h0),fun k hk=>?_⟩
 rw [hr] at hk
 simp only [List.mem_cons,List.not_mem_nil,or_false] at hk
 rcases hk with rfl | rfl
 ·exact h1
 ·exact h2
theorem Z7z {i j k:Nat} (hr:Region.ready md ops listed = [i,j,k])
  (h1:wpOp P ops Q i (fun a' w'=>(held stop (listed.setIfInBounds i true) = true → T w') ∧ Z17 P md ops Q T stop fuel (listed.setIfInBounds i true) a' w') a w)
  (h2:wpOp P ops Q j (fun a' w'=>(held stop (listed.setIfInBounds j true) = true → T w') ∧ Z17 P md ops Q T stop fuel (listed.setIfInBounds j true) a' w') a w)
  (h3:wpOp P ops Q k (fun a' w'=>(held stop (listed.setIfInBounds k true) = true → T w') ∧ Z17 P md ops Q T stop fuel (listed.setIfInBounds k true) a' w') a w):Z17 P md ops Q T stop (fuel + 1) listed a w:=by
 refine ⟨fun h0=>(by rw [hr] at h0;cases h0),fun n hn=>?_⟩
 rw [hr] at hn
 simp only [List.mem_cons,List.not_mem_nil,or_false] at hn
 rcases hn with rfl | rfl | rfl
 ·exact h1
 ·exact h2
 ·exact h3
theorem Z0w {i d:Nat} {o:Oper} {v:Value} {K:Act → World → Prop} (F:Has N a L) (hi:ops[i]? = some o) (hd:o.dst = some d) (hN:d < N) (hw:Region.wanted o (yielded ops a.tmps) = true) (hr:(execOp a.eval o).run P w = .ok (.value v) w')
  (h:∀ a2 w2,Has N a2 ((d,v) :: L) → w2 = w' → K a2 w2):wpOp P ops Q i K a w:=by
 unfold wpOp
 simp only [hi,hw,if_true,Oper.wp,hr,Oper.upon,hd]
 exact .inl (h _ _ (F.put hN v) rfl)
theorem Zap {i d:Nat} {o:Oper} {v:Value} {K:Act → World → Prop} (F:Has N a L) (hi:ops[i]? = some o) (hd:o.dst = some d) (hN:d < N) (hw:Region.wanted o (yielded ops a.tmps) = true) (hr:(execOp a.eval o).run P w = .ok (.value v) w)
  (h:∀ a2,Has N a2 ((d,v) :: L) → K a2 w):wpOp P ops Q i K a w:=
 Z0w F hi hd hN hw hr fun a2 w2 F2 e=>by subst e;exact h a2 F2
theorem Z0u {i:Nat} {o:Oper} {K:Act → World → Prop} (hi:ops[i]? = some o) (hd:o.dst = none) (hw:Region.wanted o (yielded ops a.tmps) = true) (hr:(execOp a.eval o).run P w = .ok .skip w')
  (h:∀ w2,w2 = w' → K a w2):wpOp P ops Q i K a w:=by
 unfold wpOp
 simp only [hi,hw,if_true,Oper.wp,hr,Oper.upon,hd,Act.put]
 exact .inl (h _ rfl)
theorem Z07 {i d:Nat} {o:Oper} {f:FuncId} {args:Array Value} {R:Ending → World → Prop} {K:Act → World → Prop} (F:Has N a L) (hi:ops[i]? = some o) (hd:o.dst = some d) (hN:d < N) (hw:Region.wanted o (yielded ops a.tmps) = true)
  (hr:(execOp a.eval o).run P w = .ok (.enter f args) w) (hc:Calls P f args w R) (h:∀ e w',R e w' → ∃ v,e = .returned v ∧ ∀ a2,Has N a2 ((d,v) :: L) → K a2 w'):wpOp P ops Q i K a w:=by
 unfold wpOp
 simp only [hi,hw,if_true,Oper.wp,hr,Oper.upon]
 refine .inl (hc.mono fun e w' hR=>?_)
 obtain ⟨v,rfl,h1⟩:=h e w' hR
 show K _ _
 rw [hd]
 exact h1 _ (F.put hN v)
theorem Z0a (hr:Region.ready md ops listed = []) (h:Q .normal a w):∀ fuel,Z17 P md ops Q T stop fuel listed a w
 | 0=>⟨hr,h⟩
 | _ + 1=>⟨fun _=>h,by rw [hr];simp⟩
theorem Z0P {l:List Oper} {id:Nat} {w:World} (T:World → Prop) (stop:Option Nat) (hm:P.follows .mixedOrders = true)
  (h:∀ W:World,W.heap = w.heap → Ext [] w W → Z17 P .any l.toArray Q T stop l.toArray.size (Array.replicate l.toArray.size false) a W):(Code.region id l.toArray true).wp P Q a w:=
 wp_region_any hm (Z7j _ _ _ _ (h _ rfl ⟨rfl,rfl,rfl,Nat.le_refl _,fun _ _ _=>rfl⟩))
end
section
variable {P:Program} {o:Oper} {w:World} {a:Act}
theorem Z0T {s x:Operand} {t:TypeId} (ho:o.op = .call { callee:=.builtin .append,args:=#[s,x],argTypes:=#[t,t] })
  (base:Nat) {e:TypeId} {size bytes:Nat} (ht:P.underlying t = some (.slice e)) (hi:(P.info? e).map (fun i=>(i.size,i.bytes,i.zero.map (·.cells.size))) = some (size,bytes,some size)) (hsz:0 < size)
  {v:Value} {n:Nat} {xs:List Value} (hs:a.eval s = v) (hown:w.ownsRow base e size v n xs)
  {g c:Nat} {T:TypeId} {fz:Nat × Nat} {news:List Value} (hx:a.eval x = .slice (some ⟨g,0,none⟩) 1 c) (hg:w.heap[g]? = some (.cells news.toArray T fz)) (hl:news.length = size) (h1:∀ u ∈ news,u.oneCell' = true)
  (hn:n ≤ 1000000) (hbytes:(n + 1) * bytes ≤ 140737488355328) (hbase:base ≤ w.heap.size) :
  ∃ v' w',(execOp a.eval o).run P w = .ok (.value v') w' ∧ w'.ownsRow base e size v' (n + 1) (xs ++ news) ∧ w.grownBy w' v.ownBlock:=by
 cases hq:P.info? e with
 | none=>simp [hq] at hi
 | some i =>
  simp only [hq,Option.map_some,Option.some.injEq,Prod.mk.injEq,Option.map_eq_some_iff] at hi
  obtain ⟨hi1,hi2,z,hz,hz2⟩:=hi
  obtain ⟨v',w',hr,h2,h3,-⟩:=run_append_own (P:=P) w base t o.type e i z size bytes ht hq hz hi1 hi2 hz2 hsz v n xs hown ⟨g,0,none⟩ 1 c news (by omega) (fun j u hu=>by
   rw [Addr.add_lit,Nat.zero_add,Z0 hg];simpa using hu) h1 (by simp only [maxLen];omega) hbytes hbase
  refine ⟨v',w',?_,h2,h3⟩
  unfold execOp
  simp only [ho,resolve,invoke,builtin,Sem.run_bind,Sem.run_pure,Result.andThen_ok,List.map_toArray,List.map_cons,List.map_nil,hs,hx,hr]
end
section
variable {P:Program} {Q:Exit → Act → World → Prop} {N:Nat} {a:Act} {L:List (Nat × Value)} {w:World}
theorem cd_T (F:Has N a L) {k:Nat} {x y:Code} (hc:L.lookup k = some (.bool true)) (h:x.wp P Q a w):(Code.cond (.tmp k) x y).wp P Q a w:=wp_cond_true (F.at hc) h
theorem cd_F (F:Has N a L) {k:Nat} {x y:Code} (hc:L.lookup k = some (.bool false)) (h:y.wp P Q a w):(Code.cond (.tmp k) x y).wp P Q a w:=wp_cond_false (F.at hc) h
theorem Z0J (F:Has N a L) {k:Nat} {x y:Code} {p:Prop} [Decidable p] (hc:L.lookup k = some (.bool (decide p))) (ht:p → x.wp P Q a w) (hf:¬ p → y.wp P Q a w):(Code.cond (.tmp k) x y).wp P Q a w:=by
 by_cases h:p
 ·exact wp_cond_true (by rw [F.at hc,decide_eq_true h]) (ht h)
 ·exact wp_cond_false (by rw [F.at hc,decide_eq_false h]) (hf h)
theorem cd_b (F:Has N a L) {k:Nat} {x y:Code} {b:Bool} (hc:L.lookup k = some (.bool b)) (ht:b = true → x.wp P Q a w) (hf:b = false → y.wp P Q a w):(Code.cond (.tmp k) x y).wp P Q a w:=by
 cases b
 ·exact wp_cond_false (F.at hc) (hf rfl)
 ·exact wp_cond_true (F.at hc) (ht rfl)
theorem Zb9 {c:Code} (M:Nat) (I:Nat → Act → World → Prop) (h0:I 0 a w) (round:∀ i a w,i ≤ M → I i a w → c.wp P (Exit.then (fun a' w'=>i < M ∧ I (i + 1) a' w') Q) a w):(Code.loop c).wp P Q a w:=by
 intro b k cs
 have key:∀ n i a w,n = M - i → i ≤ M → I i a w → ∃ e a' w',Q e a' w' ∧ Arrives P (lone (b.at a (.code c :: .inLoop c :: k)) cs w) b k cs e a' w':=by
  intro n
  induction n with
  | zero =>
   intro i a w hn hi hI
   obtain ⟨e,a₁,w₁,hq,harr⟩:=round i a w hi hI b (.inLoop c :: k) cs
   cases e with
   | normal=>exact absurd hq.1 (by omega)
   | exit id=>exact ⟨_,a₁,w₁,hq,.pass (x:=.inLoop c) rfl (fun _ _=>.inl (by simp)) harr⟩
   | goto l=>exact ⟨_,a₁,w₁,hq,.pass (x:=.inLoop c) rfl (fun _ _=>.inl (by simp)) harr⟩
   | ret=>exact ⟨_,a₁,w₁,hq,.pass (x:=.inLoop c) rfl (fun _ _=>.inl (by simp)) harr⟩
   | panic ch=>exact ⟨_,a₁,w₁,hq,.pass (x:=.inLoop c) rfl (fun _ _=>.inl (by simp)) harr⟩
   | outgrown=>exact ⟨_,a₁,w₁,hq,.pass (x:=.inLoop c) rfl (fun _ _=>.inl (by simp)) harr⟩
  | succ n ih =>
   intro i a w hn hi hI
   obtain ⟨e,a₁,w₁,hq,harr⟩:=round i a w hi hI b (.inLoop c :: k) cs
   cases e with
   | normal =>
    obtain ⟨hlt,hI₁⟩:=hq
    obtain ⟨e₂,a₂,w₂,hq₂,harr₂⟩:=ih (i + 1) a₁ w₁ (by omega) hlt hI₁
    exact ⟨e₂,a₂,w₂,hq₂,.of_steps (Steps.trans harr (.one step_inLoop)) harr₂⟩
   | exit id=>exact ⟨_,a₁,w₁,hq,.pass (x:=.inLoop c) rfl (fun _ _=>.inl (by simp)) harr⟩
   | goto l=>exact ⟨_,a₁,w₁,hq,.pass (x:=.inLoop c) rfl (fun _ _=>.inl (by simp)) harr⟩
   | ret=>exact ⟨_,a₁,w₁,hq,.pass (x:=.inLoop c) rfl (fun _ _=>.inl (by simp)) harr⟩
   | panic ch=>exact ⟨_,a₁,w₁,hq,.pass (x:=.inLoop c) rfl (fun _ _=>.inl (by simp)) harr⟩
   | outgrown=>exact ⟨_,a₁,w₁,hq,.pass (x:=.inLoop c) rfl (fun _ _=>.inl (by simp)) harr⟩
 obtain ⟨e,a',w',hq,harr⟩:=key _ 0 a w rfl (Nat.zero_le _) h0
 exact ⟨e,a',w',hq,.of_steps (.one step_loop) harr⟩
theorem Z0U {c:Code} {L0:List (Nat × Value)} (F:Has N a L0) (M:Nat) (J:Nat → List (Nat × Value) → World → Prop) (h0:∃ Lv,J 0 Lv w ∧ Has N a (Lv ++ L0))
  (round:∀ i Lv a w,i ≤ M → J i Lv w → Has N a (Lv ++ L0) → c.wp P (Exit.then (fun a' w'=>i < M ∧ ∃ Lv',J (i + 1) Lv' w' ∧ Has N a' (Lv' ++ L0)) Q) a w):(Code.loop c).wp P Q a w:=
 Zb9 M (fun i a w=>∃ Lv,J i Lv w ∧ Has N a (Lv ++ L0)) h0 fun i a w hi ⟨Lv,hJ,hF⟩=>round i Lv a w hi hJ hF
end
section
variable {P:Program} {ops:Array Oper} {o:Oper} {rest:List Oper} {N:Nat} {a:Act} {L:List (Nat × Value)} {w w':World} {v:Value}
theorem Zam {K:Act → Prop} (F:Has N a L) {d:Nat} (hd:o.dst = some d) (hN:d < N) (hw:Region.wanted o (yielded ops a.tmps) = true) (hr:(execOp a.eval o).run P w = .ok (.value v) w) (h:∀ a2,Has N a2 ((d,v) :: L) → wpStill P ops w K rest a2):wpStill P ops w K (o :: rest) a:=by
 unfold wpStill
 simp only [hw,if_true,Oper.still,hr,Oper.stillUpon_value,hd]
 exact h _ (F.put hN v)
end
theorem gone {T:World → Prop} {w:World} {b:Bool} (h:b = false):b = true → T w:=fun e=>by rw [h] at e;cases e
section
variable {P:Program} {ρ:Operand → Value} {o:Oper} {w:World}
theorem pr0:([]:List (Nat × Operand)).map (fun p=>(p.1,ρ p.2)) = []:=rfl
theorem prS {i:Nat} {x:Operand} {v:Value} {l:List (Nat × Operand)} {vs:List (Nat × Value)} (h:ρ x = v) (k:l.map (fun p=>(p.1,ρ p.2)) = vs):((i,x) :: l).map (fun p=>(p.1,ρ p.2)) = (i,v) :: vs:=by simp [h,k]
theorem Z3O {t:TypeId} {l:List (Nat × Operand)} {vs:List (Nat × Value)} {cells:Array Value} (ho:o.op = .build t l.toArray) (hp:l.map (fun p=>(p.1,ρ p.2)) = vs) (h:P.built t vs = some cells):(execOp ρ o).run P w = .ok (.value (.agg cells)) w:=
 ZZ ho (by
  have:(l.toArray.map fun (i,x)=>(i,ρ x)).toList = vs:=by rw [← hp];simp
  rw [this];exact h)
theorem Z09 {t e:TypeId} {n size:Nat} {l:List (Nat × Operand)} {vs:List (Nat × Value)} {z:Value} {cells:Array Value} (ho:o.op = .buildSlice t n l.toArray) (hp:l.map (fun p=>(p.1,ρ p.2)) = vs) (hu:P.underlying t = some (.slice e)) (hs:(P.info? e).map (·.size) = some size) (hn:n * size ≤ 2 ^ 24) (hn0:n * size ≠ 0) (hz:∀ w,(zeroValue e).run P w = .ok z w)
  (hf:Instr.fill (fun i=>some (i * size,size)) ((Array.range (n * size)).map (z.cells[· % z.cells.size]!)) vs = some cells) :
  (execOp ρ o).run P w = .ok (.value (.slice (some ⟨w.heap.size,0,none⟩) n n)) (w.alloc (.cells cells e)):=
 ZE ho hu hs hn hn0 hz (by
  have:(l.toArray.map fun (i,x)=>(i,ρ x)).toList = vs:=by rw [← hp];simp
  rw [this];exact hf)
theorem Zb7 {l:List Operand} {vs:List Value} (h:l.map ρ = vs):l.toArray.map ρ = vs.toArray:=by subst h;simp
theorem mp0:([]:List Operand).map ρ = []:=rfl
theorem mpS {x:Operand} {v:Value} {l:List Operand} {vs:List Value} (h:ρ x = v) (k:l.map ρ = vs):(x :: l).map ρ = v :: vs:=by simp [h,k]
theorem ZG {f:FuncId} {l:List Operand} {ts:Array TypeId} {vs:List Value} (ho:o.op = .call { callee:=.value (.func f),args:=l.toArray,argTypes:=ts }) (hf:ρ (.func f) = .func (.func f) #[] #[]) (hc:∀ args w,(callFunc f args).run P w = .ok (.enter f args) w) (ha:l.map ρ = vs):(execOp ρ o).run P w = .ok (.enter f vs.toArray) w:=
 Zbs ho hf hc (Zb7 ha)
end
section
variable {P:Program} {fn:Func} {R:Ending → World → Prop} {N:Nat} {a:Act} {L:List (Nat × Value)} {w:World}
theorem rt_v (F:Has N a L) {v:Value} (hr:(results fn a.tmps).run P w = .ok v w) (h:R (.returned v) w):bodyPost P fn R .ret a w:=bodyPost_ret hr F.ds h
theorem Zbx (F:Has N a L) {v:Value} (hr:(results fn a.tmps).run P w = .ok v w) (h:R (.returned v) w):bodyPost P fn R .normal a w:=bodyPost_end hr F.ds h
theorem rs_0 (hr:fn.results = #[]):(results fn a.tmps).run P w = .ok (.tuple #[]) w:=results_none hr _ _ _
theorem rs_1 (F:Has N a L) {t:Nat} {v:Value} (hr:fn.results = #[.tmp t]) (hv:L.lookup t = some v):(results fn a.tmps).run P w = .ok v w:=by
 rw [results_tmp hr,F.get _ _ hv]
theorem rs_2 (F:Has N a L) {t s:Nat} {v u:Value} (hr:fn.results = #[.tmp t,.tmp s]) (hv:L.lookup t = some v) (hu:L.lookup s = some u):(results fn a.tmps).run P w = .ok (.tuple #[v,u]) w:=by
 rw [results_tmp2 hr,F.get _ _ hv,F.get _ _ hu]
theorem rs_3 (F:Has N a L) {t s r:Nat} {v u x:Value} (hr:fn.results = #[.tmp t,.tmp s,.tmp r]) (hv:L.lookup t = some v) (hu:L.lookup s = some u) (hx:L.lookup r = some x):(results fn a.tmps).run P w = .ok (.tuple #[v,u,x]) w:=by
 have h1:=F.get _ _ hv
 have h2:=F.get _ _ hu
 have h3:=F.get _ _ hx
 simp only [Array.getD_eq_getD_getElem?] at h1 h2 h3
 simp [results,hr,h1,h2,h3]
theorem rs_c (F:Has N a L) {t ty b:Nat} {cs:Array Value} {T:TypeId} {d:TypeDesc} {fz:Nat × Nat} (hr:fn.results = #[.cell t ty]) (ht:L.lookup t = some (.pointer (some ⟨b,0,none⟩))) (hd:P.underlying ty = some d) (ha:d.isRow = true) (hi:(P.info? ty).map (·.size) = some cs.size) (H:w.heap[b]? = some (.cells cs T fz)):(results fn a.tmps).run P w = .ok (.agg cs) w:=by
 have hl:=Z2e (P:=P) hd ha hi H
 have h1:=F.get _ _ ht
 simp only [Array.getD_eq_getD_getElem?] at h1
 simp [results,hr,h1,asAddr,hl,Result.andThen]
theorem Z7N (F:Has N a L) {t ty b s:Nat} {cs:Array Value} {T:TypeId} {d:TypeDesc} {fz:Nat × Nat} {v:Value} (hr:fn.results = #[.cell t ty,.tmp s]) (ht:L.lookup t = some (.pointer (some ⟨b,0,none⟩))) (hv:L.lookup s = some v) (hd:P.underlying ty = some d) (ha:d.isRow = true) (hi:(P.info? ty).map (·.size) = some cs.size) (H:w.heap[b]? = some (.cells cs T fz)):(results fn a.tmps).run P w = .ok (.tuple #[.agg cs,v]) w:=by
 have hl:=Z2e (P:=P) hd ha hi H
 have h1:=F.get _ _ ht
 have h2:=F.get _ _ hv
 simp only [Array.getD_eq_getD_getElem?] at h1 h2
 simp [results,hr,h1,h2,asAddr,hl,Result.andThen]
end
theorem ev_c (a:Act) (v:Value):a.eval (.const v) = v:=rfl
theorem Has.re {N:Nat} {a:Act} {L:List (Nat × Value)} (F:Has N a L) {k:Nat} {v v':Value} (e:L.lookup k = some v) (h:v = v'):Has N a ((k,v') :: L):=⟨F.ds,F.sz,fun j u hj=>by
 simp only [List.lookup] at hj
 split at hj
 ·rename_i hk
  obtain rfl:j = k:=by simpa using hk
  cases hj
  rw [← h];exact F.get _ _ e
 ·exact F.get j u hj⟩
section
variable {P:Program} {ρ:Operand → Value} {o:Oper} {w:World}
theorem Z5T {x y:Operand} {t t':TypeId} {k:IntKind} {n m:Int} (ho:o.op = .binOp .eql t x y t') (hx:ρ x = .int k n) (hy:ρ y = .int k m):(execOp ρ o).run P w = .ok (.value (.bool (decide (n = m)))) w:=Zb8 ho hx hy rfl
theorem Z3v {x y:Operand} {t t':TypeId} {k:IntKind} {n m:Int} (ho:o.op = .binOp .neq t x y t') (hx:ρ x = .int k n) (hy:ρ y = .int k m):(execOp ρ o).run P w = .ok (.value (.bool (decide (¬ (n = m))))) w:=Z2l ho hx hy (by simp)
theorem Z1m {c x y:Operand} {v:Value} (ho:o.op = .pick c x y) (hc:ρ c = .bool true) (hx:ρ x = v):(execOp ρ o).run P w = .ok (.value v) w:=Zak ho hc (by simpa using hx)
theorem Z0H {c x y:Operand} {v:Value} (ho:o.op = .pick c x y) (hc:ρ c = .bool false) (hy:ρ y = v):(execOp ρ o).run P w = .ok (.value v) w:=Zak ho hc (by simpa using hy)
theorem Z2t {x:Operand} {t:TypeId} {p:Prop} [Decidable p] (ho:o.op = .unOp .not t x) (hx:ρ x = .bool (decide p)):(execOp ρ o).run P w = .ok (.value (.bool (decide (¬ p)))) w:=by
 rw [Z45 ho hx]
 simp
end
def SlAt (X:List Nat) (w:World) (a:Option Addr) (sz n:Nat) (row:Nat → List Value):Prop:=
 ∀ i,i < n → ∃ b off,(∀ m c,Value.slice a m c = .slice (some ⟨b,off,none⟩) m c) ∧ ∀ W,Ext X w W → W.rangeAt b (off + i * sz) (row i)
theorem Z0C {α:Type} {w:World} {a:Option Addr} {n c sz:Nat} {xs:List α} {row:α → List Value} (h:Z0E w (.slice a n c) sz (xs.map row)) (d:α):SlAt [] w a sz xs.length (fun i=>row (xs.getD i d)):=fun i hi=>by
 obtain ⟨b,off,h1,h2⟩:=h.range rfl (by intro e;have:=congrArg List.length e;simp at this;rw [this] at hi;simp at hi)
 obtain ⟨hlt,h2⟩:=h2
 refine ⟨b,off,fun m c=>by rw [h1],fun W E j v hv=>?_⟩
 rw [E.cell (a:=⟨b,off + i * sz + j,none⟩) hlt (by simp)]
 exact h2 i (row (xs.getD i d)) (by simp [hi]) j v hv
section
variable {P:Program} {ops:Array Oper} {Q:Exit → Act → World → Prop} {o:Oper} {rest:List Oper} {N:Nat} {a:Act} {L:List (Nat × Value)} {w w':World} {v:Value}
theorem Has.vl (F:Has N a L) {d:Nat} (hr:(execOp a.eval o).run P w = .ok (.value v) w) (h:∀ a2,Has N a2 ((d,v) :: L) → wpList P ops Q rest a2 w) (hd:o.dst = some d:=by rfl) (hN:d < N:=by decide) (hw:Region.wanted o (yielded ops a.tmps) = true:=by rfl):wpList P ops Q (o :: rest) a w:=
 Z8t F hd hN hw hr h
theorem Has.mv (F:Has N a L) {d k:Nat} (h:∀ a2,Has N a2 ((d,v) :: L) → wpList P ops Q rest a2 w) (ho:o.op = .move (.tmp k):=by rfl) (hl:L.lookup k = some v:=by rfl) (hd:o.dst = some d:=by rfl) (hN:d < N:=by decide) (hw:Region.wanted o (yielded ops a.tmps) = true:=by rfl):wpList P ops Q (o :: rest) a w:=
 Z8t F hd hN hw (Zi ho (F.at hl)) h
theorem Has.as (F:Has N a L) {d k:Nat} (h:∀ a2,Has N a2 ((d,v) :: L) → wpList P ops Q rest a2 w) (ho:o.op = .assign (.tmp k):=by rfl) (hl:L.lookup k = some v:=by rfl) (hd:o.dst = some d:=by rfl) (hN:d < N:=by decide) (hw:Region.wanted o (yielded ops a.tmps) = true:=by rfl):wpList P ops Q (o :: rest) a w:=
 Z8t F hd hN hw (Z8 ho (F.at hl)) h
theorem Has.sv {K:Act → Prop} (F:Has N a L) {d:Nat} (hr:(execOp a.eval o).run P w = .ok (.value v) w) (h:∀ a2,Has N a2 ((d,v) :: L) → wpStill P ops w K rest a2) (hd:o.dst = some d:=by rfl) (hN:d < N:=by decide) (hw:Region.wanted o (yielded ops a.tmps) = true:=by rfl):wpStill P ops w K (o :: rest) a:=
 Zam F hd hN hw hr h
theorem Has.smv {K:Act → Prop} (F:Has N a L) {d k:Nat} (h:∀ a2,Has N a2 ((d,v) :: L) → wpStill P ops w K rest a2) (ho:o.op = .move (.tmp k):=by rfl) (hl:L.lookup k = some v:=by rfl) (hd:o.dst = some d:=by rfl) (hN:d < N:=by decide) (hw:Region.wanted o (yielded ops a.tmps) = true:=by rfl):wpStill P ops w K (o :: rest) a:=
 Zam F hd hN hw (Zi ho (F.at hl)) h
variable {md:Region.Mode} {T:World → Prop} {stop:Option Nat} {fuel:Nat} {listed:Array Bool}
theorem Has.x (F:Has N a L) {i d:Nat} {oi:Oper} (hi:ops[i]? = some oi) (hr:∀ w,(execOp a.eval oi).run P w = .ok (.value v) w) (hT:held stop listed = true → T w) (h:∀ a2,Has N a2 ((d,v) :: L) → Z17 P md ops Q T stop fuel (listed.setIfInBounds i true) a2 w)
  (hd:oi.dst = some d:=by rfl) (hN:d < N:=by decide) (hk:Z50 md ops stop false listed i = true:=by kernel_rfl) (hQ:∀ c a w,Q (.panic c) (a.put oi.dst v) w → Q (.panic c) a w:=by exact fun _ _ _ h=>h) (hw:Region.wanted oi (yielded ops a.tmps) = true:=by rfl):Z17 P md ops Q T stop (fuel + 1) listed a w:=
 Zbo F hi hd hN hk hQ hw hr hT h
theorem Has.xr (F:Has N a L) {i d:Nat} {oi:Oper} (hi:ops[i]? = some oi) (hr:∀ w,T w → (execOp a.eval oi).run P w = .ok (.value v) w) (hT:held stop listed = true → T w) (h:∀ a2,Has N a2 ((d,v) :: L) → Z17 P md ops Q T stop fuel (listed.setIfInBounds i true) a2 w)
  (hd:oi.dst = some d:=by rfl) (hN:d < N:=by decide) (hk:Z50 md ops stop true listed i = true:=by kernel_rfl) (hQ:∀ c a w,Q (.panic c) (a.put oi.dst v) w → Q (.panic c) a w:=by exact fun _ _ _ h=>h) (hw:Region.wanted oi (yielded ops a.tmps) = true:=by rfl):Z17 P md ops Q T stop (fuel + 1) listed a w:=
 ZaS F hi hd hN hk hQ hw hr hT h
end
structure SrcAt (w:World) (sz:Nat) (sa:Option Addr) (m:Nat) (news:List Value):Prop where
 len:news.length = m * sz
 nil:sa = none → m = 0
 cells:∀ a0,sa = some a0 → ∀ (j:Nat) (v:Value),news[j]? = some v → w.cell? (a0.add j) = some v
 one:∀ u ∈ news,u.oneCell' = true
theorem Z2R {α:Type} {w:World} {a:Option Addr} {n c sz:Nat} {xs:List α} {row:α → List Value} (h:Z0E w (.slice a n c) sz (xs.map row)) (h0:0 < sz) (hr:∀ x,(row x).length = sz) (h1:∀ x,∀ u ∈ row x,u.oneCell' = true):SrcAt w sz a n ((xs.map row).flatten):=by
 have hn:n = xs.length:=by
  obtain ⟨a',c',hv,-⟩:=h
  cases hv
  simp
 refine ⟨by rw [Z3i hr,hn],fun ha=>?_,Z65 h0 hr h,fun u hu=>?_⟩
 ·by_cases hne:xs.map row = []
  ·rw [hn];simpa using hne
  ·obtain ⟨b,off,h1,-⟩:=h.range rfl hne
   rw [ha] at h1;cases h1
 ·obtain ⟨l,hl,hu⟩:=List.mem_flatten.1 hu
  obtain ⟨x,-,rfl⟩:=List.mem_map.1 hl
  exact h1 x u hu
section
variable {P:Program} {ops:Array Oper} {Q:Exit → Act → World → Prop} {o:Oper} {rest:List Oper} {N:Nat} {a:Act} {L:List (Nat × Value)} {w:World}
theorem Z27 {C:Value → World → Prop} (F:Has N a L) {d:Nat} (hd:o.dst = some d) (hN:d < N) (hw:Region.wanted o (yielded ops a.tmps) = true) (hr:∃ v w',(execOp a.eval o).run P w = .ok (.value v) w' ∧ C v w') (h:∀ a2 v w2,Has N a2 ((d,v) :: L) → C v w2 → wpList P ops Q rest a2 w2):wpList P ops Q (o :: rest) a w:=by
 obtain ⟨v,w',h1,h2⟩:=hr
 exact Z00 F hd hN hw h1 fun a2 w2 F2 e=>by subst e;exact h a2 v w2 F2 h2
theorem Z0f {C:Value → World → Prop} {i d:Nat} {K:Act → World → Prop} (F:Has N a L) (hi:ops[i]? = some o) (hd:o.dst = some d) (hN:d < N) (hw:Region.wanted o (yielded ops a.tmps) = true) (hr:∃ v w',(execOp a.eval o).run P w = .ok (.value v) w' ∧ C v w')
  (h:∀ a2 v w2,Has N a2 ((d,v) :: L) → C v w2 → K a2 w2):wpOp P ops Q i K a w:=by
 obtain ⟨v,w',h1,h2⟩:=hr
 exact Z0w F hi hd hN hw h1 fun a2 w2 F2 e=>by subst e;exact h a2 v w2 F2 h2
end
theorem ZN {P:Program} {o:Oper} {w:World} {a:Act} {s x:Operand} {t:TypeId} (ho:o.op = .call { callee:=.builtin .append,args:=#[s,x],argTypes:=#[t,t] })
  (base:Nat) {e:TypeId} {size bytes:Nat} (ht:P.underlying t = some (.slice e)) (hi:(P.info? e).map (fun i=>(i.size,i.bytes,i.zero.map (·.cells.size))) = some (size,bytes,some size)) (hsz:0 < size)
  {v:Value} {n:Nat} {xs:List Value} (hs:a.eval s = v) (hown:w.ownsRow base e size v n xs)
  {sa:Option Addr} {m c:Nat} {news:List Value} (hx:a.eval x = .slice sa m c) (hsrc:SrcAt w size sa m news)
  (hn:n + m ≤ 1000000) (hbytes:(n + m) * bytes ≤ 140737488355328) (hbase:base ≤ w.heap.size) :
  ∃ v' w',(execOp a.eval o).run P w = .ok (.value v') w' ∧ w'.ownsRow base e size v' (n + m) (xs ++ news) ∧ w.grownBy w' v.ownBlock:=by
 cases hq:P.info? e with
 | none=>simp [hq] at hi
 | some i =>
  simp only [hq,Option.map_some,Option.some.injEq,Prod.mk.injEq,Option.map_eq_some_iff] at hi
  obtain ⟨hi1,hi2,z,hz,hz2⟩:=hi
  have key:∃ v' w',(Builtin.append_ #[t,t] o.type #[v,.slice sa m c]).run P w = .ok v' w' ∧ w'.ownsRow base e size v' (n + m) (xs ++ news) ∧ w.grownBy w' v.ownBlock:=by
   cases sa with
   | none =>
    have hm:=hsrc.nil rfl
    subst hm
    have hnl:=hsrc.len
    rw [Nat.zero_mul] at hnl
    obtain rfl:=List.eq_nil_of_length_eq_zero hnl
    refine ⟨v,w,?_,by simpa using hown,⟨rfl,rfl,rfl,Nat.le_refl _,fun _ _ _=>rfl⟩⟩
    rcases hown.2 with ⟨rfl,rfl⟩ | ⟨g,cap,cur,rfl,hbg,hg,hnc,hcm,hcs,htake⟩
    ·simp [Builtin.append_,run_underlying ht,sizeOf,typeInfo,hq,Builtin.lenOf,Builtin.firstCells,loadCells,loadCellsFrom]
    ·simp [Builtin.append_,run_underlying ht,sizeOf,typeInfo,hq,Builtin.lenOf,Builtin.firstCells,loadCells,loadCellsFrom,hnc,storeCells]
   | some ad =>
    obtain ⟨v',w',hr,h2,h3,-⟩:=run_append_own (P:=P) w base t o.type e i z size bytes ht hq hz hi1 hi2 hz2 hsz v n xs hown ad m c news hsrc.len (hsrc.cells ad rfl) hsrc.one (by simp only [maxLen];omega) hbytes hbase
    exact ⟨v',w',hr,h2,h3⟩
  obtain ⟨v',w',hr,h2,h3⟩:=key
  refine ⟨v',w',?_,h2,h3⟩
  unfold execOp
  simp only [ho,resolve,invoke,builtin,Sem.run_bind,Sem.run_pure,Result.andThen_ok,List.map_toArray,List.map_cons,List.map_nil,hs,hx,hr]
theorem ZT {P:Program} {ρ:Operand → Value} {o:Oper} {w:World} {t e:TypeId} {size:Nat} (ho:o.op = .buildSlice t 0 #[]) (hu:P.underlying t = some (.slice e)) (hs:(P.info? e).map (·.size) = some size) :
  (execOp ρ o).run P w = .ok (.value (.slice (some ⟨w.heap.size,0,none⟩) 0 0)) (w.alloc (.cells #[] e)):=by
 unfold execOp
 cases hq:P.info? e with
 | none=>simp [hq] at hs
 | some i =>
  simp [ho,Instr.buildSlice,run_underlying hu,sizeOf,typeInfo,hq,newRow,newObj,go_sem,Instr.fill]
  rfl
theorem ZS {w:World} {base b size:Nat} {e:TypeId} (h:w.heap[b]? = some (.cells #[] e (0,0))) (hb:base ≤ b):w.ownsRow base e size (.slice (some ⟨b,0,none⟩) 0 0) 0 []:=
 ⟨by simp,.inr ⟨b,0,#[],rfl,hb,h,Nat.le_refl _,Nat.zero_le _,by simp,by simp⟩⟩
theorem Z5p {w:World} {base n c size:Nat} {e:TypeId} {a:Option Addr} {xs:List Value} (h:w.ownsRow base e size (.slice a n c) n xs) {xb xo:Nat} (xa:∀ m c,Value.slice a m c = .slice (some ⟨xb,xo,none⟩) m c) {j p:Nat} (hj:j < xs.length) (hp:p = xo + j) :
  (∃ u,w.cell? ⟨xb,p,none⟩ = some u) ∧ w.frozen? ⟨xb,p,none⟩ = false ∧ ∀ u w2,w2 = w.setCell ⟨xb,p,none⟩ u → w2.ownsRow base e size (.slice a n c) n (xs.set j u) ∧ w.grownBy w2 (Value.ownBlock (.slice a n c)):=by
 obtain ⟨hl,⟨hv,hn⟩ | ⟨g,cap,cur,hv,hb,hg,h1,h2,h3,h4⟩⟩:=h
 ·subst hn
  rw [Nat.zero_mul] at hl
  omega
 ·have hv2:=(xa n c).symm.trans hv
  simp only [Value.slice.injEq,Option.some.injEq,Addr.mk.injEq,and_true,true_and] at hv2
  obtain ⟨⟨rfl,rfl⟩,rfl⟩:=hv2
  rw [Nat.zero_add] at hp
  subst hp
  have hlt:=Z7 hg
  have hjc:p < cur.size:=by
   have:=congrArg List.length h4
   rw [List.length_take] at this
   have h5:cur.toList.length = cur.size:=by simp
   omega
  have ha:a = some ⟨xb,0,none⟩:=by have:=xa 0 0;cases this;rfl
  subst ha
  refine ⟨⟨cur[p],by rw [Z0 hg];simp [hjc]⟩,Zl hg _,fun u w2 e2=>⟨⟨by simpa using hl,.inr ⟨xb,c,cur.setIfInBounds p u,rfl,hb,ZK e2 hg rfl,h1,h2,by simpa using h3,?_⟩⟩,?_⟩⟩
  ·rw [← h4,Array.toList_setIfInBounds,List.take_set]
  ·subst e2
   exact ⟨rfl,rfl,rfl,by rw [Z2x];exact Nat.le_refl _,fun k hk hne=>Below.heap_setCell _ _ _ _ (fun e=>hne (by rw [e];rfl))⟩
theorem Z2B {α:Type} {w:World} {base n c sz:Nat} {e:TypeId} {a:Option Addr} {xs:List α} {row:α → List Value} (h:w.ownsRow base e sz (.slice a n c) n ((xs.map row).flatten)) (hn:n = xs.length) (hr:∀ x,(row x).length = sz) (X:List Nat) (hX:∀ b ∈ X,b < base) (d:α):SlAt X w a sz xs.length (fun i=>row (xs.getD i d)):=fun i hi=>by
 subst hn
 rcases h.2 with ⟨hv,hn⟩ | ⟨g,cap,cur,hv,hb,hg,h1,h2,h3,h4⟩
 ·omega
 ·have ha:a = some ⟨g,0,none⟩:=by cases hv;rfl
  refine ⟨g,0,fun m c=>by rw [ha],fun W E j v hv=>?_⟩
  have hjs:j < sz:=by
   have:=(List.getElem?_eq_some_iff.1 hv).1
   rwa [hr] at this
  have hf:=Z3H hr xs i j (row (xs.getD i d)) (by simp [hi]) hjs
  have hil:i * sz + j < xs.length * sz:=
   calc i * sz + j < i * sz + sz:=by omega
    _ = (i + 1) * sz:=by rw [Nat.add_mul];omega
    _ ≤ xs.length * sz:=Nat.mul_le_mul_right _ hi
  rw [E.cell (a:=⟨g,0 + i * sz + j,none⟩) (Z7 hg) (fun hm=>by have:=hX g hm;omega),Z0 hg,Nat.zero_add,← Array.getElem?_toList]
  have:=congrArg (fun l=>l[i * sz + j]?) h4
  simp only [List.getElem?_take] at this
  rw [if_pos hil] at this
  rw [this,hf,hv]
theorem Z7m (w0 w:World) (b k:Nat) (nv:Value) (n:Int) (h:Z0v w0 w b k nv) (hk:k ≤ 1000000) (h0:1 ≤ n) (hn:n ≤ 1000000) :
  Calls Try.prog 69 #[.pointer (some ⟨b,0,none⟩),.int .i64 n] w fun e w'=>∃ r,e = .returned (.bool r) ∧ Z0v w0 w' b (k + 1) nv ∧ Ext [b] w w':=by
 have E:Ext [b] w w:=Ext.refl _ _
 refine Z01 10 Try.func69 rfl Try.ntmps69 (Nat.le_of_ble_eq_true rfl) ?_
 intro fa F
 refine wp_seq_k fun K1 hK1=>?_
 refine wp_region_lit ?_
 refine F.vl (Z8 rfl (ev_c fa _)) ?_;clear F fa;intro fa F
 refine wpList_nil ?_
 refine hK1 _ _ ?_
 clear hK1
 refine wp_seq_k fun K2 hK2=>?_
 refine wp_region_lit ?_
 refine F.mv ?_;clear F fa;intro fa F
 refine F.mv ?_;clear F fa;intro fa F
 refine F.vl (Z1I rfl (F.at rfl) (ev_c fa _) (by omega) (by omega)) ?_;clear F fa;intro fa F
 refine ZX F rfl (by decide) rfl (ZG rfl rfl Try.call51 (mpS (F.at rfl) (mpS (F.at rfl) mp0))) (Z0l w0 _ b k nv (n - 1) h hk (by omega) (by omega)) fun e w1 hR=>?_
 obtain ⟨v,rfl,hv0,hv1,HL,e1⟩:=hR
 refine ⟨_,rfl,?_⟩;clear F fa;intro fa F
 replace E:=E.trans' e1 (fun i hi hl=>by simp only [List.mem_cons,List.not_mem_nil,or_false] at hi ⊢;omega)
 refine F.vl (Z5T rfl (F.at rfl) (ev_c fa _)) ?_;clear F fa;intro fa F
 refine F.as ?_;clear F fa;intro fa F
 refine wpList_nil ?_
 refine hK2 _ _ ?_
 clear hK2
 refine wp_ret ?_
 (try simp only [Exit.inBlock,Exit.then])
 refine rt_v F (rs_1 F rfl rfl) ?_
 exact ⟨_,rfl,HL,E⟩
def Z5x (t:Tp) (k:Int):Int:=Z0j t (sel3 [] [] [k])
def Z5W (t:Tp) (k:Int):Int × Int:=if Z5x t k = 0 then (-(bdV t 0 0 (Z0q k)),bdV t 0 (Z0q k) 0) else (0,0)
def Z3M (t:Tp) (s a o h:Int):Int:=Z0j t (sel3 [s,o] [a,h] [])
def Z4f (t:Tp) (s a o h:Int):Int × Int:=if Z3M t s a o h = 0 then (-(bdV t 0 (ZO s a) (ZO o h)),bdV t 0 (ZO o h) (ZO s a)) else (0,0)
set_option maxRecDepth 100000 in
set_option maxHeartbeats 2000000 in
theorem Z9z (t:Tp) (gv rv lv:Value) (k:Int) (w:World) (ht:IsTp w gv rv lv t) (hl1:t.gr.length ≤ 1000) (hl2:t.rd.length ≤ 1000) (hl3:t.lk.length ≤ 1000) :
  Calls Try.prog 35 #[tpV t gv rv lv,.int .i64 k] w fun e w'=>e = .returned (.tuple #[.agg #[.int .i64 (Z5W t k).1,.int .i64 (Z5W t k).2],.int .i64 (Z5x t k)]) ∧ Ext [] w w':=by
 have hone:=Z3E ht
 have HK:Hid (∀ (W:World) (b1:Nat),Ext [] w W → W.heap[b1]? = some (.cells #[.int .i64 k] 3 (0,0)) → Calls Try.prog 90 #[tpV t gv rv lv,.slice none 0 0,.slice none 0 0,.slice (some ⟨b1,0,none⟩) 1 1] W fun e w'=>e = .returned (.tuple #[.agg (Z2E t (sel3 [] [] [k]) gv rv lv),.agg (ZD (Z1g t (sel3 [] [] [k]))),.int .i64 (Z5x t k)]) ∧ Ext [] W w'):=
  fun W b1 e h1=>Z1R t gv rv lv (sel3 [] [] [k]) (sel3 none none (some ⟨b1,0,none⟩)) (sel3 0 0 1) W (ht.ext e (by simp)) hl1 hl2 hl3 (Za7 (Z0M _ _ _) (Z0M _ _ _) (Z2b [k] 1 h1)) (fun i hi=>by rcases i with _ | _ | i <;> simp [sel3])
 clear ht
 have E:Ext [] w w:=Ext.refl _ _
 have hVs:=Z2G t (sel3 [] [] [k]) gv rv lv
 have hVo:=Z32 (t:=t) (xs:=sel3 [] [] [k]) hone
 generalize Z2E t (sel3 [] [] [k]) gv rv lv = X at HK hVs hVo
 by_cases h:Z5x t k = 0
 ·obtain ⟨h1,h2⟩:=Z2q h
  have ok:=(Z0x.1 (Z1B h1)).1
  have ks:=Z1O h1 (i:=2) (by omega) (n:=k) (by simp [sel3])
  have k1:=ok.T3
  rw [show lim t 2 = t.T from rfl] at ks
  rw [show Z1g t (sel3 [] [] [k]) = bdV t 0 from if_pos h1,h] at HK
  rw [show Z5W t k = (-(bdV t 0 0 (Z0q k)),bdV t 0 (Z0q k) 0) from if_pos h,h]
  have big:=Z47 ok 0 (p:=0) (q:=Z0q k) (by omega) (by unfold Z0q;omega)
  clear h h1 h2 ok
  obtain ⟨m,hm⟩:∃ m,m = bdV t 0:=⟨_,rfl⟩
  rw [← hm] at HK big ⊢
  clear hm
  unfold Z0q at big ⊢
  unfold tpV at HK ⊢
  go_enter Try.func35,Try.ntmps35
  go_upto_region 0 with (fail)
  refine wp_region_lit ?_
  refine Zy rfl rfl (Z0z (v:=.agg _) rfl rfl) (by simp only [ls,lz];exact rfl) fun w1 hw=>?_
  obtain ⟨n2,hn⟩:∃ n,n = w.heap.size:=⟨_,rfl⟩
  rw [← hn]
  have l2:w.heap.size ≤ n2:=by rw [hn];exact E.size
  have q2:=Zr hw hn
  replace E:=Z2 E hw
  clear hw hn
  refine Zy rfl rfl (ZB rfl Try.zeroValue23) (by simp only [ls,lz];exact rfl) fun w2 hw=>?_
  obtain ⟨n4,hn⟩:∃ n,n = w1.heap.size:=⟨_,rfl⟩
  rw [← hn]
  have l4:w.heap.size ≤ n4:=by rw [hn];exact E.size
  have m4_2:n2 < n4:=by rw [hn];exact Z7 q2
  replace q2:=Z1 hw q2
  have q4:=Zr hw hn
  replace E:=Z2 E hw
  clear hw hn
  refine Z3 rfl rfl (Z8 (v:=.int .i64 _) rfl rfl) (by simp only [ls,lz];exact rfl) ?_
  refine wpList_nil ?_
  go_upto_region 1 with (fail)
  refine wp_region_lit ?_
  refine Z3 rfl rfl (Zt rfl rfl Try.underlying28 rfl (by kernel_rfl) q2) (by simp only [ls,lz];exact rfl) ?_
  refine Z3 rfl rfl (Zi (v:=.int .i64 _) rfl rfl) (by simp only [ls,lz];exact rfl) ?_
  refine Zy rfl rfl (ZE rfl Try.underlying29 (size:=1) (by kernel_rfl) (by decide) (by decide) Try.zeroValue3 (cells:=#[.int .i64 k]) (by kernel_rfl)) (by simp only [ls,lz];exact rfl) fun w3 hw=>?_
  obtain ⟨n12,hn⟩:∃ n,n = w2.heap.size:=⟨_,rfl⟩
  rw [← hn]
  have l12:w.heap.size ≤ n12:=by rw [hn];exact E.size
  have m12_2:n2 < n12:=by rw [hn];exact Z7 q2
  have m12_4:n4 < n12:=by rw [hn];exact Z7 q4
  replace q2:=Z1 hw q2
  replace q4:=Z1 hw q4
  have q12:=Zw hw hn
  replace E:=Z2 E hw
  clear hw hn
  refine ZC rfl rfl (by kernel_rfl) (HK.out _ n12 E q12) fun e w4 hR=>?_
  obtain ⟨rfl,e1⟩:=hR
  refine ⟨_,_,rfl,(by simp only [ls,lz];exact rfl),?_⟩
  replace q2:=(e1).keep0 q2
  replace q4:=(e1).keep0 q4
  replace q12:=(e1).keep0 q12
  replace E:=Z4 E (e1)
  refine Z3 rfl rfl (Zi (v:=.tuple _) rfl rfl) (by simp only [ls,lz];exact rfl) ?_
  refine Z3 rfl rfl (Zm rfl rfl (get0)) (by simp only [ls,lz];exact rfl) ?_
  refine Z3 rfl rfl (Zm rfl rfl (getS (get0))) (by simp only [ls,lz];exact rfl) ?_
  refine Z3 rfl rfl (Zm rfl rfl (getS (getS (get0)))) (by simp only [ls,lz];exact rfl) ?_
  refine Zy rfl rfl (ZB rfl Try.zeroValue100) (by simp only [ls,lz];exact rfl) fun w5 hw=>?_
  obtain ⟨n6,hn⟩:∃ n,n = w4.heap.size:=⟨_,rfl⟩
  rw [← hn]
  have l6:w.heap.size ≤ n6:=by rw [hn];exact E.size
  have m6_2:n2 < n6:=by rw [hn];exact Z7 q2
  have m6_4:n4 < n6:=by rw [hn];exact Z7 q4
  have m6_12:n12 < n6:=by rw [hn];exact Z7 q12
  replace q2:=Z1 hw q2
  replace q4:=Z1 hw q4
  replace q12:=Z1 hw q12
  have q6:=Zr hw hn
  replace E:=Z2 E hw
  clear hw hn
  refine Zy rfl rfl (ZB rfl Try.zeroValue105) (by simp only [ls,lz];exact rfl) fun w6 hw=>?_
  obtain ⟨n7,hn⟩:∃ n,n = w5.heap.size:=⟨_,rfl⟩
  rw [← hn]
  have l7:w.heap.size ≤ n7:=by rw [hn];exact E.size
  have m7_2:n2 < n7:=by rw [hn];exact Z7 q2
  have m7_4:n4 < n7:=by rw [hn];exact Z7 q4
  have m7_12:n12 < n7:=by rw [hn];exact Z7 q12
  have m7_6:n6 < n7:=by rw [hn];exact Z7 q6
  replace q2:=Z1 hw q2
  replace q4:=Z1 hw q4
  replace q12:=Z1 hw q12
  replace q6:=Z1 hw q6
  have q7:=Zr hw hn
  replace E:=Z2 E hw
  clear hw hn
  refine ZY rfl rfl (Zg rfl rfl rfl (by rw [hVs];kernel_rfl) hVo q6 (by rw [hVs];rfl)) fun w7 hw=>?_
  replace q2:=Z5 hw q2 (by omega)
  replace q4:=Z5 hw q4 (by omega)
  replace q12:=Z5 hw q12 (by omega)
  replace q6:=Zz hw q6 (by rw [hVs];rfl)
  replace q7:=Z5 hw q7 (by omega)
  replace E:=Za E hw (fun h=>by first | exact absurd h (by omega) | simp)
  clear hw
  refine ZY rfl rfl (Zg rfl rfl rfl (by rw [Zj];kernel_rfl) (by rw [← ZI];exact all_oneCell_toArray (Z05 _)) q7 (by show Try.zeroCells105.size = _;rw [Try.zeroCells105_size,Zj])) fun w8 hw=>?_
  replace q2:=Z5 hw q2 (by omega)
  replace q4:=Z5 hw q4 (by omega)
  replace q12:=Z5 hw q12 (by omega)
  replace q6:=Z5 hw q6 (by omega)
  replace q7:=Zz hw q7 (by show Try.zeroCells105.size = _;rw [Try.zeroCells105_size,Zj])
  replace E:=Za E hw (fun h=>by first | exact absurd h (by omega) | simp)
  clear hw
  refine Z3 rfl rfl (Z8 (v:=.int .i64 _) rfl rfl) (by simp only [ls,lz];exact rfl) ?_
  refine wpList_nil ?_
  clear e1
  go_upto_region 4 with (fail)
  refine wp_region_lit ?_
  refine Z3 rfl rfl (Zt rfl rfl Try.underlying105 rfl (by rw [Zj];kernel_rfl) q7) (by simp only [ls,lz];exact rfl) ?_
  refine Z3 rfl rfl (Zi (v:=.int .i64 _) rfl rfl) (by simp only [ls,lz];exact rfl) ?_
  refine ZC rfl rfl (by kernel_rfl) (Z7p m k _ (by omega) (by omega) big.1 big.2) fun e w9 hR=>?_
  obtain ⟨rfl,hb⟩:=hR
  refine ⟨_,_,rfl,(by simp only [ls,lz];exact rfl),?_⟩
  replace q2:=(Ext.of_below hb).keep0 q2
  replace q4:=(Ext.of_below hb).keep0 q4
  replace q12:=(Ext.of_below hb).keep0 q12
  replace q6:=(Ext.of_below hb).keep0 q6
  replace q7:=(Ext.of_below hb).keep0 q7
  replace E:=Z4 E (Ext.of_below hb)
  refine ZY rfl rfl (Zg rfl rfl rfl (by kernel_rfl) (by simp [Value.oneCell']) q4 rfl) fun w10 hw=>?_
  replace q2:=Z5 hw q2 (by omega)
  replace q4:=Zz hw q4 rfl
  replace q12:=Z5 hw q12 (by omega)
  replace q6:=Z5 hw q6 (by omega)
  replace q7:=Z5 hw q7 (by omega)
  replace E:=Za E hw (fun h=>by first | exact absurd h (by omega) | simp)
  clear hw
  refine Z3 rfl rfl (Z8 (v:=.int .i64 _) rfl rfl) (by simp only [ls,lz];exact rfl) ?_
  refine wpList_nil ?_
  go_wp2
  refine bodyPost_ret (Z3T rfl rfl Try.underlying23 rfl (by kernel_rfl) q4 rfl) rfl ⟨rfl,E⟩
 ·rw [show Z5W t k = (0,0) from if_neg h]
  obtain ⟨ce,hce⟩:∃ ce,ce = Z5x t k:=⟨_,rfl⟩
  rw [← hce] at h HK ⊢
  clear hce
  have hb:(ce != 0) = true:=by simpa using h
  generalize Z1g t (sel3 [] [] [k]) = m at HK
  unfold tpV at HK ⊢
  go_enter Try.func35,Try.ntmps35
  go_upto_region 0 with (fail)
  refine wp_region_lit ?_
  refine Zy rfl rfl (Z0z (v:=.agg _) rfl rfl) (by simp only [ls,lz];exact rfl) fun w1 hw=>?_
  obtain ⟨n2,hn⟩:∃ n,n = w.heap.size:=⟨_,rfl⟩
  rw [← hn]
  have l2:w.heap.size ≤ n2:=by rw [hn];exact E.size
  have q2:=Zr hw hn
  replace E:=Z2 E hw
  clear hw hn
  refine Zy rfl rfl (ZB rfl Try.zeroValue23) (by simp only [ls,lz];exact rfl) fun w2 hw=>?_
  obtain ⟨n4,hn⟩:∃ n,n = w1.heap.size:=⟨_,rfl⟩
  rw [← hn]
  have l4:w.heap.size ≤ n4:=by rw [hn];exact E.size
  have m4_2:n2 < n4:=by rw [hn];exact Z7 q2
  replace q2:=Z1 hw q2
  have q4:=Zr hw hn
  replace E:=Z2 E hw
  clear hw hn
  refine Z3 rfl rfl (Z8 (v:=.int .i64 _) rfl rfl) (by simp only [ls,lz];exact rfl) ?_
  refine wpList_nil ?_
  go_upto_region 1 with (fail)
  refine wp_region_lit ?_
  refine Z3 rfl rfl (Zt rfl rfl Try.underlying28 rfl (by kernel_rfl) q2) (by simp only [ls,lz];exact rfl) ?_
  refine Z3 rfl rfl (Zi (v:=.int .i64 _) rfl rfl) (by simp only [ls,lz];exact rfl) ?_
  refine Zy rfl rfl (ZE rfl Try.underlying29 (size:=1) (by kernel_rfl) (by decide) (by decide) Try.zeroValue3 (cells:=#[.int .i64 k]) (by kernel_rfl)) (by simp only [ls,lz];exact rfl) fun w3 hw=>?_
  obtain ⟨n12,hn⟩:∃ n,n = w2.heap.size:=⟨_,rfl⟩
  rw [← hn]
  have l12:w.heap.size ≤ n12:=by rw [hn];exact E.size
  have m12_2:n2 < n12:=by rw [hn];exact Z7 q2
  have m12_4:n4 < n12:=by rw [hn];exact Z7 q4
  replace q2:=Z1 hw q2
  replace q4:=Z1 hw q4
  have q12:=Zw hw hn
  replace E:=Z2 E hw
  clear hw hn
  refine ZC rfl rfl (by kernel_rfl) (HK.out _ n12 E q12) fun e w4 hR=>?_
  obtain ⟨rfl,e1⟩:=hR
  refine ⟨_,_,rfl,(by simp only [ls,lz];exact rfl),?_⟩
  replace q2:=(e1).keep0 q2
  replace q4:=(e1).keep0 q4
  replace q12:=(e1).keep0 q12
  replace E:=Z4 E (e1)
  refine Z3 rfl rfl (Zi (v:=.tuple _) rfl rfl) (by simp only [ls,lz];exact rfl) ?_
  refine Z3 rfl rfl (Zm rfl rfl (get0)) (by simp only [ls,lz];exact rfl) ?_
  refine Z3 rfl rfl (Zm rfl rfl (getS (get0))) (by simp only [ls,lz];exact rfl) ?_
  refine Z3 rfl rfl (Zm rfl rfl (getS (getS (get0)))) (by simp only [ls,lz];exact rfl) ?_
  refine Zy rfl rfl (ZB rfl Try.zeroValue100) (by simp only [ls,lz];exact rfl) fun w5 hw=>?_
  obtain ⟨n6,hn⟩:∃ n,n = w4.heap.size:=⟨_,rfl⟩
  rw [← hn]
  have l6:w.heap.size ≤ n6:=by rw [hn];exact E.size
  have m6_2:n2 < n6:=by rw [hn];exact Z7 q2
  have m6_4:n4 < n6:=by rw [hn];exact Z7 q4
  have m6_12:n12 < n6:=by rw [hn];exact Z7 q12
  replace q2:=Z1 hw q2
  replace q4:=Z1 hw q4
  replace q12:=Z1 hw q12
  have q6:=Zr hw hn
  replace E:=Z2 E hw
  clear hw hn
  refine Zy rfl rfl (ZB rfl Try.zeroValue105) (by simp only [ls,lz];exact rfl) fun w6 hw=>?_
  obtain ⟨n7,hn⟩:∃ n,n = w5.heap.size:=⟨_,rfl⟩
  rw [← hn]
  have l7:w.heap.size ≤ n7:=by rw [hn];exact E.size
  have m7_2:n2 < n7:=by rw [hn];exact Z7 q2
  have m7_4:n4 < n7:=by rw [hn];exact Z7 q4
  have m7_12:n12 < n7:=by rw [hn];exact Z7 q12
  have m7_6:n6 < n7:=by rw [hn];exact Z7 q6
  replace q2:=Z1 hw q2
  replace q4:=Z1 hw q4
  replace q12:=Z1 hw q12
  replace q6:=Z1 hw q6
  have q7:=Zr hw hn
  replace E:=Z2 E hw
  clear hw hn
  refine ZY rfl rfl (Zg rfl rfl rfl (by rw [hVs];kernel_rfl) hVo q6 (by rw [hVs];rfl)) fun w7 hw=>?_
  replace q2:=Z5 hw q2 (by omega)
  replace q4:=Z5 hw q4 (by omega)
  replace q12:=Z5 hw q12 (by omega)
  replace q6:=Zz hw q6 (by rw [hVs];rfl)
  replace q7:=Z5 hw q7 (by omega)
  replace E:=Za E hw (fun h=>by first | exact absurd h (by omega) | simp)
  clear hw
  refine ZY rfl rfl (Zg rfl rfl rfl (by rw [Zj];kernel_rfl) (by rw [← ZI];exact all_oneCell_toArray (Z05 _)) q7 (by show Try.zeroCells105.size = _;rw [Try.zeroCells105_size,Zj])) fun w8 hw=>?_
  replace q2:=Z5 hw q2 (by omega)
  replace q4:=Z5 hw q4 (by omega)
  replace q12:=Z5 hw q12 (by omega)
  replace q6:=Z5 hw q6 (by omega)
  replace q7:=Zz hw q7 (by show Try.zeroCells105.size = _;rw [Try.zeroCells105_size,Zj])
  replace E:=Za E hw (fun h=>by first | exact absurd h (by omega) | simp)
  clear hw
  refine Z3 rfl rfl (Z8 (v:=.int .i64 _) rfl rfl) (by simp only [ls,lz];exact rfl) ?_
  refine wpList_nil ?_
  clear e1
  go_upto_region 3 with (fail)
  refine wp_region_lit ?_
  refine Z3 rfl rfl (ZZ rfl (cells:=#[.int .i64 0,.int .i64 0]) (by kernel_rfl)) (by simp only [ls,lz];exact rfl) ?_
  refine Z3 rfl rfl (Zi (v:=.int .i64 _) rfl rfl) (by simp only [ls,lz];exact rfl) ?_
  refine ZY rfl rfl (Zg rfl rfl rfl (by kernel_rfl) (by simp [Value.oneCell']) q4 rfl) fun w9 hw=>?_
  replace q2:=Z5 hw q2 (by omega)
  replace q4:=Zz hw q4 rfl
  replace q12:=Z5 hw q12 (by omega)
  replace q6:=Z5 hw q6 (by omega)
  replace q7:=Z5 hw q7 (by omega)
  replace E:=Za E hw (fun h=>by first | exact absurd h (by omega) | simp)
  clear hw
  refine Z3 rfl rfl (Z8 (v:=.int .i64 _) rfl rfl) (by simp only [ls,lz];exact rfl) ?_
  refine wpList_nil ?_
  go_wp2
  refine bodyPost_ret (Z3T rfl rfl Try.underlying23 rfl (by kernel_rfl) q4 rfl) rfl ⟨rfl,E⟩
set_option maxRecDepth 100000 in
set_option maxHeartbeats 2000000 in
theorem Z8r (t:Tp) (gv rv lv:Value) (s a o h:Int) (w:World) (ht:IsTp w gv rv lv t) (hl1:t.gr.length ≤ 1000) (hl2:t.rd.length ≤ 1000) (hl3:t.lk.length ≤ 1000) :
  Calls Try.prog 43 #[tpV t gv rv lv,.int .i64 s,.int .i64 a,.int .i64 o,.int .i64 h] w fun e w'=>e = .returned (.tuple #[.agg #[.int .i64 (Z4f t s a o h).1,.int .i64 (Z4f t s a o h).2],.int .i64 (Z3M t s a o h)]) ∧ Ext [] w w':=by
 have hone:=Z3E ht
 have HK:Hid (∀ (W:World) (b1 b2:Nat),Ext [] w W → W.heap[b1]? = some (.cells #[.int .i64 s,.int .i64 o] 3 (0,0)) → W.heap[b2]? = some (.cells #[.int .i64 a,.int .i64 h] 3 (0,0)) → Calls Try.prog 90 #[tpV t gv rv lv,.slice (some ⟨b1,0,none⟩) 2 2,.slice (some ⟨b2,0,none⟩) 2 2,.slice none 0 0] W fun e w'=>e = .returned (.tuple #[.agg (Z2E t (sel3 [s,o] [a,h] []) gv rv lv),.agg (ZD (Z1g t (sel3 [s,o] [a,h] []))),.int .i64 (Z3M t s a o h)]) ∧ Ext [] W w'):=
  fun W b1 b2 e h1 h2=>Z1R t gv rv lv (sel3 [s,o] [a,h] []) (sel3 (some ⟨b1,0,none⟩) (some ⟨b2,0,none⟩) none) (sel3 2 2 0) W (ht.ext e (by simp)) hl1 hl2 hl3 (Za7 (Z2b [s,o] 2 h1) (Z2b [a,h] 2 h2) (Z0M _ _ _)) (fun i hi=>by rcases i with _ | _ | i <;> simp [sel3])
 clear ht
 have E:Ext [] w w:=Ext.refl _ _
 have hVs:=Z2G t (sel3 [s,o] [a,h] []) gv rv lv
 have hVo:=Z32 (t:=t) (xs:=sel3 [s,o] [a,h] []) hone
 generalize Z2E t (sel3 [s,o] [a,h] []) gv rv lv = X at HK hVs hVo
 by_cases hE:Z3M t s a o h = 0
 ·obtain ⟨h1,h2⟩:=Z2q hE
  have ok:=(Z0x.1 (Z1B h1)).1
  have ks:=Z1O h1 (i:=0) (by omega) (n:=s) (by simp [sel3])
  have ka:=Z1O h1 (i:=1) (by omega) (n:=a) (by simp [sel3])
  have ks2:=Z1O h1 (i:=0) (by omega) (n:=o) (by simp [sel3])
  have ka2:=Z1O h1 (i:=1) (by omega) (n:=h) (by simp [sel3])
  have k1:=ok.S3
  have k2:=ok.A3
  rw [show lim t 0 = t.S from rfl] at ks ks2
  rw [show lim t 1 = t.A from rfl] at ka ka2
  rw [show Z1g t (sel3 [s,o] [a,h] []) = bdV t 0 from if_pos h1,hE] at HK
  rw [show Z4f t s a o h = (-(bdV t 0 (ZO s a) (ZO o h)),bdV t 0 (ZO o h) (ZO s a)) from if_pos hE,hE]
  have big:=Z47 ok 0 (p:=ZO s a) (q:=ZO o h) (by unfold ZO;omega) (by unfold ZO;omega)
  clear hE h1 h2 ok
  obtain ⟨m,hm⟩:∃ m,m = bdV t 0:=⟨_,rfl⟩
  rw [← hm] at HK big ⊢
  clear hm
  unfold ZO at big ⊢
  unfold tpV at HK ⊢
  go_enter Try.func43,Try.ntmps43
  go_upto_region 0 with (fail)
  refine wp_region_lit ?_
  refine Zy rfl rfl (Z0z (v:=.agg _) rfl rfl) (by simp only [ls,lz];exact rfl) fun w1 hw=>?_
  obtain ⟨n5,hn⟩:∃ n,n = w.heap.size:=⟨_,rfl⟩
  rw [← hn]
  have l5:w.heap.size ≤ n5:=by rw [hn];exact E.size
  have q5:=Zr hw hn
  replace E:=Z2 E hw
  clear hw hn
  refine Zy rfl rfl (ZB rfl Try.zeroValue23) (by simp only [ls,lz];exact rfl) fun w2 hw=>?_
  obtain ⟨n10,hn⟩:∃ n,n = w1.heap.size:=⟨_,rfl⟩
  rw [← hn]
  have l10:w.heap.size ≤ n10:=by rw [hn];exact E.size
  have m10_5:n5 < n10:=by rw [hn];exact Z7 q5
  replace q5:=Z1 hw q5
  have q10:=Zr hw hn
  replace E:=Z2 E hw
  clear hw hn
  refine Z3 rfl rfl (Z8 (v:=.int .i64 _) rfl rfl) (by simp only [ls,lz];exact rfl) ?_
  refine wpList_nil ?_
  go_upto_region 1 with (fail)
  refine wp_region_lit ?_
  refine Z3 rfl rfl (Zt rfl rfl Try.underlying28 rfl (by kernel_rfl) q5) (by simp only [ls,lz];exact rfl) ?_
  refine Z3 rfl rfl (Zi (v:=.int .i64 _) rfl rfl) (by simp only [ls,lz];exact rfl) ?_
  refine Z3 rfl rfl (Zi (v:=.int .i64 _) rfl rfl) (by simp only [ls,lz];exact rfl) ?_
  refine Zy rfl rfl (ZE rfl Try.underlying29 (size:=1) (by kernel_rfl) (by decide) (by decide) Try.zeroValue3 (cells:=#[.int .i64 s,.int .i64 o]) (by kernel_rfl)) (by simp only [ls,lz];exact rfl) fun w3 hw=>?_
  obtain ⟨n19,hn⟩:∃ n,n = w2.heap.size:=⟨_,rfl⟩
  rw [← hn]
  have l19:w.heap.size ≤ n19:=by rw [hn];exact E.size
  have m19_5:n5 < n19:=by rw [hn];exact Z7 q5
  have m19_10:n10 < n19:=by rw [hn];exact Z7 q10
  replace q5:=Z1 hw q5
  replace q10:=Z1 hw q10
  have q19:=Zw hw hn
  replace E:=Z2 E hw
  clear hw hn
  refine Z3 rfl rfl (Zi (v:=.int .i64 _) rfl rfl) (by simp only [ls,lz];exact rfl) ?_
  refine Z3 rfl rfl (Zi (v:=.int .i64 _) rfl rfl) (by simp only [ls,lz];exact rfl) ?_
  refine Zy rfl rfl (ZE rfl Try.underlying29 (size:=1) (by kernel_rfl) (by decide) (by decide) Try.zeroValue3 (cells:=#[.int .i64 a,.int .i64 h]) (by kernel_rfl)) (by simp only [ls,lz];exact rfl) fun w4 hw=>?_
  obtain ⟨n22,hn⟩:∃ n,n = w3.heap.size:=⟨_,rfl⟩
  rw [← hn]
  have l22:w.heap.size ≤ n22:=by rw [hn];exact E.size
  have m22_5:n5 < n22:=by rw [hn];exact Z7 q5
  have m22_10:n10 < n22:=by rw [hn];exact Z7 q10
  have m22_19:n19 < n22:=by rw [hn];exact Z7 q19
  replace q5:=Z1 hw q5
  replace q10:=Z1 hw q10
  replace q19:=Z1 hw q19
  have q22:=Zw hw hn
  replace E:=Z2 E hw
  clear hw hn
  refine ZC rfl rfl (by kernel_rfl) (HK.out _ n19 n22 E q19 q22) fun e w5 hR=>?_
  obtain ⟨rfl,e1⟩:=hR
  refine ⟨_,_,rfl,(by simp only [ls,lz];exact rfl),?_⟩
  replace q5:=(e1).keep0 q5
  replace q10:=(e1).keep0 q10
  replace q19:=(e1).keep0 q19
  replace q22:=(e1).keep0 q22
  replace E:=Z4 E (e1)
  refine Z3 rfl rfl (Zi (v:=.tuple _) rfl rfl) (by simp only [ls,lz];exact rfl) ?_
  refine Z3 rfl rfl (Zm rfl rfl (get0)) (by simp only [ls,lz];exact rfl) ?_
  refine Z3 rfl rfl (Zm rfl rfl (getS (get0))) (by simp only [ls,lz];exact rfl) ?_
  refine Z3 rfl rfl (Zm rfl rfl (getS (getS (get0)))) (by simp only [ls,lz];exact rfl) ?_
  refine Zy rfl rfl (ZB rfl Try.zeroValue100) (by simp only [ls,lz];exact rfl) fun w6 hw=>?_
  obtain ⟨n12,hn⟩:∃ n,n = w5.heap.size:=⟨_,rfl⟩
  rw [← hn]
  have l12:w.heap.size ≤ n12:=by rw [hn];exact E.size
  have m12_5:n5 < n12:=by rw [hn];exact Z7 q5
  have m12_10:n10 < n12:=by rw [hn];exact Z7 q10
  have m12_19:n19 < n12:=by rw [hn];exact Z7 q19
  have m12_22:n22 < n12:=by rw [hn];exact Z7 q22
  replace q5:=Z1 hw q5
  replace q10:=Z1 hw q10
  replace q19:=Z1 hw q19
  replace q22:=Z1 hw q22
  have q12:=Zr hw hn
  replace E:=Z2 E hw
  clear hw hn
  refine Zy rfl rfl (ZB rfl Try.zeroValue105) (by simp only [ls,lz];exact rfl) fun w7 hw=>?_
  obtain ⟨n13,hn⟩:∃ n,n = w6.heap.size:=⟨_,rfl⟩
  rw [← hn]
  have l13:w.heap.size ≤ n13:=by rw [hn];exact E.size
  have m13_5:n5 < n13:=by rw [hn];exact Z7 q5
  have m13_10:n10 < n13:=by rw [hn];exact Z7 q10
  have m13_19:n19 < n13:=by rw [hn];exact Z7 q19
  have m13_22:n22 < n13:=by rw [hn];exact Z7 q22
  have m13_12:n12 < n13:=by rw [hn];exact Z7 q12
  replace q5:=Z1 hw q5
  replace q10:=Z1 hw q10
  replace q19:=Z1 hw q19
  replace q22:=Z1 hw q22
  replace q12:=Z1 hw q12
  have q13:=Zr hw hn
  replace E:=Z2 E hw
  clear hw hn
  refine ZY rfl rfl (Zg rfl rfl rfl (by rw [hVs];kernel_rfl) hVo q12 (by rw [hVs];rfl)) fun w8 hw=>?_
  replace q5:=Z5 hw q5 (by omega)
  replace q10:=Z5 hw q10 (by omega)
  replace q19:=Z5 hw q19 (by omega)
  replace q22:=Z5 hw q22 (by omega)
  replace q12:=Zz hw q12 (by rw [hVs];rfl)
  replace q13:=Z5 hw q13 (by omega)
  replace E:=Za E hw (fun h=>by first | exact absurd h (by omega) | simp)
  clear hw
  refine ZY rfl rfl (Zg rfl rfl rfl (by rw [Zj];kernel_rfl) (by rw [← ZI];exact all_oneCell_toArray (Z05 _)) q13 (by show Try.zeroCells105.size = _;rw [Try.zeroCells105_size,Zj])) fun w9 hw=>?_
  replace q5:=Z5 hw q5 (by omega)
  replace q10:=Z5 hw q10 (by omega)
  replace q19:=Z5 hw q19 (by omega)
  replace q22:=Z5 hw q22 (by omega)
  replace q12:=Z5 hw q12 (by omega)
  replace q13:=Zz hw q13 (by show Try.zeroCells105.size = _;rw [Try.zeroCells105_size,Zj])
  replace E:=Za E hw (fun h=>by first | exact absurd h (by omega) | simp)
  clear hw
  refine Z3 rfl rfl (Z8 (v:=.int .i64 _) rfl rfl) (by simp only [ls,lz];exact rfl) ?_
  refine wpList_nil ?_
  clear e1
  go_upto_region 4 with (fail)
  refine Z0g 7 follows (by kernel_rfl) fun w10 hw10 ew10=>?_
  replace q5:=Zn hw10 q5
  replace q10:=Zn hw10 q10
  replace q19:=Zn hw10 q19
  replace q22:=Zn hw10 q22
  replace q12:=Zn hw10 q12
  replace q13:=Zn hw10 q13
  replace E:=Z4 E ew10
  clear hw10 ew10
  refine Zp rfl rfl (Zt rfl rfl Try.underlying105 rfl (by rw [Zj];kernel_rfl) q13) (by simp only [ls,lz];exact rfl) ?_
  refine Zp rfl rfl (Zi (v:=.int .i64 _) rfl rfl) (by simp only [ls,lz];exact rfl) ?_
  refine Zp rfl rfl (Zi (v:=.int .i64 _) rfl rfl) (by simp only [ls,lz];exact rfl) ?_
  refine Z0Z rfl rfl (by kernel_rfl) (Z1W o h _ (by omega) (by omega) (by omega) (by omega)) (by simp only [ls,lz];exact rfl) ?_
  refine Zp rfl rfl (Zi (v:=.int .i64 _) rfl rfl) (by simp only [ls,lz];exact rfl) ?_
  refine Zp rfl rfl (Zi (v:=.int .i64 _) rfl rfl) (by simp only [ls,lz];exact rfl) ?_
  refine Z0Z rfl rfl (by kernel_rfl) (Z1W s a _ (by omega) (by omega) (by omega) (by omega)) (by simp only [ls,lz];exact rfl) ?_
  refine wpStill_nil ?_
  refine ZC rfl rfl (by kernel_rfl) (Z3N m (1 + o * 3 + h) (1 + s * 3 + a) _ (by omega) (by omega) (by omega) (by omega) big.1 big.2) fun e w11 hR=>?_
  obtain ⟨rfl,hb⟩:=hR
  refine ⟨_,_,rfl,(by simp only [ls,lz];exact rfl),?_⟩
  replace q5:=(Ext.of_below hb).keep0 q5
  replace q10:=(Ext.of_below hb).keep0 q10
  replace q19:=(Ext.of_below hb).keep0 q19
  replace q22:=(Ext.of_below hb).keep0 q22
  replace q12:=(Ext.of_below hb).keep0 q12
  replace q13:=(Ext.of_below hb).keep0 q13
  replace E:=Z4 E (Ext.of_below hb)
  refine ZY rfl rfl (Zg rfl rfl rfl (by kernel_rfl) (by simp [Value.oneCell']) q10 rfl) fun w12 hw=>?_
  replace q5:=Z5 hw q5 (by omega)
  replace q10:=Zz hw q10 rfl
  replace q19:=Z5 hw q19 (by omega)
  replace q22:=Z5 hw q22 (by omega)
  replace q12:=Z5 hw q12 (by omega)
  replace q13:=Z5 hw q13 (by omega)
  replace E:=Za E hw (fun h=>by first | exact absurd h (by omega) | simp)
  clear hw
  refine Z3 rfl rfl (Z8 (v:=.int .i64 _) rfl rfl) (by simp only [ls,lz];exact rfl) ?_
  refine wpList_nil ?_
  go_wp2
  refine bodyPost_ret (Z3T rfl rfl Try.underlying23 rfl (by kernel_rfl) q10 rfl) rfl ⟨rfl,E⟩
 ·rw [show Z4f t s a o h = (0,0) from if_neg hE]
  obtain ⟨ce,hce⟩:∃ ce,ce = Z3M t s a o h:=⟨_,rfl⟩
  rw [← hce] at hE HK ⊢
  clear hce
  have hb:(ce != 0) = true:=by simpa using hE
  generalize Z1g t (sel3 [s,o] [a,h] []) = m at HK
  unfold tpV at HK ⊢
  go_enter Try.func43,Try.ntmps43
  go_upto_region 0 with (fail)
  refine wp_region_lit ?_
  refine Zy rfl rfl (Z0z (v:=.agg _) rfl rfl) (by simp only [ls,lz];exact rfl) fun w1 hw=>?_
  obtain ⟨n5,hn⟩:∃ n,n = w.heap.size:=⟨_,rfl⟩
  rw [← hn]
  have l5:w.heap.size ≤ n5:=by rw [hn];exact E.size
  have q5:=Zr hw hn
  replace E:=Z2 E hw
  clear hw hn
  refine Zy rfl rfl (ZB rfl Try.zeroValue23) (by simp only [ls,lz];exact rfl) fun w2 hw=>?_
  obtain ⟨n10,hn⟩:∃ n,n = w1.heap.size:=⟨_,rfl⟩
  rw [← hn]
  have l10:w.heap.size ≤ n10:=by rw [hn];exact E.size
  have m10_5:n5 < n10:=by rw [hn];exact Z7 q5
  replace q5:=Z1 hw q5
  have q10:=Zr hw hn
  replace E:=Z2 E hw
  clear hw hn
  refine Z3 rfl rfl (Z8 (v:=.int .i64 _) rfl rfl) (by simp only [ls,lz];exact rfl) ?_
  refine wpList_nil ?_
  go_upto_region 1 with (fail)
  refine wp_region_lit ?_
  refine Z3 rfl rfl (Zt rfl rfl Try.underlying28 rfl (by kernel_rfl) q5) (by simp only [ls,lz];exact rfl) ?_
  refine Z3 rfl rfl (Zi (v:=.int .i64 _) rfl rfl) (by simp only [ls,lz];exact rfl) ?_
  refine Z3 rfl rfl (Zi (v:=.int .i64 _) rfl rfl) (by simp only [ls,lz];exact rfl) ?_
  refine Zy rfl rfl (ZE rfl Try.underlying29 (size:=1) (by kernel_rfl) (by decide) (by decide) Try.zeroValue3 (cells:=#[.int .i64 s,.int .i64 o]) (by kernel_rfl)) (by simp only [ls,lz];exact rfl) fun w3 hw=>?_
  obtain ⟨n19,hn⟩:∃ n,n = w2.heap.size:=⟨_,rfl⟩
  rw [← hn]
  have l19:w.heap.size ≤ n19:=by rw [hn];exact E.size
  have m19_5:n5 < n19:=by rw [hn];exact Z7 q5
  have m19_10:n10 < n19:=by rw [hn];exact Z7 q10
  replace q5:=Z1 hw q5
  replace q10:=Z1 hw q10
  have q19:=Zw hw hn
  replace E:=Z2 E hw
  clear hw hn
  refine Z3 rfl rfl (Zi (v:=.int .i64 _) rfl rfl) (by simp only [ls,lz];exact rfl) ?_
  refine Z3 rfl rfl (Zi (v:=.int .i64 _) rfl rfl) (by simp only [ls,lz];exact rfl) ?_
  refine Zy rfl rfl (ZE rfl Try.underlying29 (size:=1) (by kernel_rfl) (by decide) (by decide) Try.zeroValue3 (cells:=#[.int .i64 a,.int .i64 h]) (by kernel_rfl)) (by simp only [ls,lz];exact rfl) fun w4 hw=>?_
  obtain ⟨n22,hn⟩:∃ n,n = w3.heap.size:=⟨_,rfl⟩
  rw [← hn]
  have l22:w.heap.size ≤ n22:=by rw [hn];exact E.size
  have m22_5:n5 < n22:=by rw [hn];exact Z7 q5
  have m22_10:n10 < n22:=by rw [hn];exact Z7 q10
  have m22_19:n19 < n22:=by rw [hn];exact Z7 q19
  replace q5:=Z1 hw q5
  replace q10:=Z1 hw q10
  replace q19:=Z1 hw q19
  have q22:=Zw hw hn
  replace E:=Z2 E hw
  clear hw hn
  refine ZC rfl rfl (by kernel_rfl) (HK.out _ n19 n22 E q19 q22) fun e w5 hR=>?_
  obtain ⟨rfl,e1⟩:=hR
  refine ⟨_,_,rfl,(by simp only [ls,lz];exact rfl),?_⟩
  replace q5:=(e1).keep0 q5
  replace q10:=(e1).keep0 q10
  replace q19:=(e1).keep0 q19
  replace q22:=(e1).keep0 q22
  replace E:=Z4 E (e1)
  refine Z3 rfl rfl (Zi (v:=.tuple _) rfl rfl) (by simp only [ls,lz];exact rfl) ?_
  refine Z3 rfl rfl (Zm rfl rfl (get0)) (by simp only [ls,lz];exact rfl) ?_
  refine Z3 rfl rfl (Zm rfl rfl (getS (get0))) (by simp only [ls,lz];exact rfl) ?_
  refine Z3 rfl rfl (Zm rfl rfl (getS (getS (get0)))) (by simp only [ls,lz];exact rfl) ?_
  refine Zy rfl rfl (ZB rfl Try.zeroValue100) (by simp only [ls,lz];exact rfl) fun w6 hw=>?_
  obtain ⟨n12,hn⟩:∃ n,n = w5.heap.size:=⟨_,rfl⟩
  rw [← hn]
  have l12:w.heap.size ≤ n12:=by rw [hn];exact E.size
  have m12_5:n5 < n12:=by rw [hn];exact Z7 q5
  have m12_10:n10 < n12:=by rw [hn];exact Z7 q10
  have m12_19:n19 < n12:=by rw [hn];exact Z7 q19
  have m12_22:n22 < n12:=by rw [hn];exact Z7 q22
  replace q5:=Z1 hw q5
  replace q10:=Z1 hw q10
  replace q19:=Z1 hw q19
  replace q22:=Z1 hw q22
  have q12:=Zr hw hn
  replace E:=Z2 E hw
  clear hw hn
  refine Zy rfl rfl (ZB rfl Try.zeroValue105) (by simp only [ls,lz];exact rfl) fun w7 hw=>?_
  obtain ⟨n13,hn⟩:∃ n,n = w6.heap.size:=⟨_,rfl⟩
  rw [← hn]
  have l13:w.heap.size ≤ n13:=by rw [hn];exact E.size
  have m13_5:n5 < n13:=by rw [hn];exact Z7 q5
  have m13_10:n10 < n13:=by rw [hn];exact Z7 q10
  have m13_19:n19 < n13:=by rw [hn];exact Z7 q19
  have m13_22:n22 < n13:=by rw [hn];exact Z7 q22
  have m13_12:n12 < n13:=by rw [hn];exact Z7 q12
  replace q5:=Z1 hw q5
  replace q10:=Z1 hw q10
  replace q19:=Z1 hw q19
  replace q22:=Z1 hw q22
  replace q12:=Z1 hw q12
  have q13:=Zr hw hn
  replace E:=Z2 E hw
  clear hw hn
  refine ZY rfl rfl (Zg rfl rfl rfl (by rw [hVs];kernel_rfl) hVo q12 (by rw [hVs];rfl)) fun w8 hw=>?_
  replace q5:=Z5 hw q5 (by omega)
  replace q10:=Z5 hw q10 (by omega)
  replace q19:=Z5 hw q19 (by omega)
  replace q22:=Z5 hw q22 (by omega)
  replace q12:=Zz hw q12 (by rw [hVs];rfl)
  replace q13:=Z5 hw q13 (by omega)
  replace E:=Za E hw (fun h=>by first | exact absurd h (by omega) | simp)
  clear hw
  refine ZY rfl rfl (Zg rfl rfl rfl (by rw [Zj];kernel_rfl) (by rw [← ZI];exact all_oneCell_toArray (Z05 _)) q13 (by show Try.zeroCells105.size = _;rw [Try.zeroCells105_size,Zj])) fun w9 hw=>?_
  replace q5:=Z5 hw q5 (by omega)
  replace q10:=Z5 hw q10 (by omega)
  replace q19:=Z5 hw q19 (by omega)
  replace q22:=Z5 hw q22 (by omega)
  replace q12:=Z5 hw q12 (by omega)
  replace q13:=Zz hw q13 (by show Try.zeroCells105.size = _;rw [Try.zeroCells105_size,Zj])
  replace E:=Za E hw (fun h=>by first | exact absurd h (by omega) | simp)
  clear hw
  refine Z3 rfl rfl (Z8 (v:=.int .i64 _) rfl rfl) (by simp only [ls,lz];exact rfl) ?_
  refine wpList_nil ?_
  clear e1
  go_upto_region 3 with (fail)
  refine wp_region_lit ?_
  refine Z3 rfl rfl (ZZ rfl (cells:=#[.int .i64 0,.int .i64 0]) (by kernel_rfl)) (by simp only [ls,lz];exact rfl) ?_
  refine Z3 rfl rfl (Zi (v:=.int .i64 _) rfl rfl) (by simp only [ls,lz];exact rfl) ?_
  refine ZY rfl rfl (Zg rfl rfl rfl (by kernel_rfl) (by simp [Value.oneCell']) q10 rfl) fun w10 hw=>?_
  replace q5:=Z5 hw q5 (by omega)
  replace q10:=Zz hw q10 rfl
  replace q19:=Z5 hw q19 (by omega)
  replace q22:=Z5 hw q22 (by omega)
  replace q12:=Z5 hw q12 (by omega)
  replace q13:=Z5 hw q13 (by omega)
  replace E:=Za E hw (fun h=>by first | exact absurd h (by omega) | simp)
  clear hw
  refine Z3 rfl rfl (Z8 (v:=.int .i64 _) rfl rfl) (by simp only [ls,lz];exact rfl) ?_
  refine wpList_nil ?_
  go_wp2
  refine bodyPost_ret (Z3T rfl rfl Try.underlying23 rfl (by kernel_rfl) q10 rfl) rfl ⟨rfl,E⟩
def ZaP (t:Tp) (x:Nat → Int) (s a:Nat):Bool:=
 decide (t.bl ≤ x (ZO s a) - x 0) && decide (x (ZO s a) - x 0 ≤ t.bm) && (decide (a = 0) || (decide ((t.gr.getD s (0,0)).1 ≤ x (ZO s a) - x (ZO s ((a:Int) - 1))) && decide (x (ZO s a) - x (ZO s ((a:Int) - 1)) ≤ (t.gr.getD s (0,0)).2)))
def ZaR (t:Tp) (x:Nat → Int) (i:Nat):Bool:=decide (-t.pm ≤ x (Z0q i) - x 0) && decide (x (Z0q i) - x 0 ≤ -t.pl)
def ZaM (t:Tp) (x:Nat → Int) (r:Int × Int × Int × Int):Bool:=decide (r.2.2.2 - t.sl ≤ x (ZO r.1 r.2.1) - x (Z0q r.2.2.1)) && decide (x (ZO r.1 r.2.1) - x (Z0q r.2.2.1) ≤ r.2.2.2 + t.sl)
def ZaE (x:Nat → Int) (l:Int × Int × Int × Int × Int × Int):Bool:=decide (l.2.2.2.2.1 ≤ x (ZO l.1 l.2.1) - x (ZO l.2.2.1 l.2.2.2.1)) && decide (x (ZO l.1 l.2.1) - x (ZO l.2.2.1 l.2.2.2.1) ≤ l.2.2.2.2.2)
theorem Z9l {t:Tp} {x:Nat → Int} {s a:Nat}:ZaP t x s a = true ↔ CellOk t s a x:=by
 unfold ZaP
 simp only [Bool.and_eq_true,Bool.or_eq_true,decide_eq_true_eq]
 constructor
 ·rintro ⟨⟨h1,h2⟩,h3⟩
  exact ⟨h1,h2,fun h=>by rcases h3 with h3 | h3;(omega);exact h3.1,fun h=>by rcases h3 with h3 | h3;(omega);exact h3.2⟩
 ·rintro ⟨h1,h2,h3,h4⟩
  refine ⟨⟨h1,h2⟩,?_⟩
  by_cases h:a = 0
  ·exact .inl h
  ·exact .inr ⟨h3 (by omega),h4 (by omega)⟩
theorem Z97 {t:Tp} {x:Nat → Int} {i:Nat}:ZaR t x i = true ↔ TailOk t i x:=by
 unfold ZaR
 simp only [Bool.and_eq_true,decide_eq_true_eq]
 exact ⟨fun h=>⟨h.1,h.2⟩,fun h=>⟨h.lo,h.hi⟩⟩
theorem Z89 {t:Tp} {x:Nat → Int} {r:Int × Int × Int × Int}:ZaM t x r = true ↔ ReadOk t r x:=by
 unfold ZaM
 simp only [Bool.and_eq_true,decide_eq_true_eq]
 exact ⟨fun h=>⟨h.1,h.2⟩,fun h=>⟨h.lo,h.hi⟩⟩
theorem Z9m {x:Nat → Int} {l:Int × Int × Int × Int × Int × Int}:ZaE x l = true ↔ LinkOk l x:=by
 unfold ZaE
 simp only [Bool.and_eq_true,decide_eq_true_eq]
 exact ⟨fun h=>⟨h.1,h.2⟩,fun h=>⟨h.lo,h.hi⟩⟩
def trB (t:Tp) (out:Int) (x:Nat → Int):Bool:=
 ((List.range t.S.toNat).all fun s=>(List.range t.A.toNat).all fun a=>ZaP t x s a) &&
 ((List.range t.T.toNat).all fun i=>ZaR t x i) &&
 ((List.range t.rd.length).all fun i=>hasB out i || ZaM t x (t.rd.getD i (0,0,0,0))) &&
 ((List.range t.lk.length).all fun i=>ZaE x (t.lk.getD i (0,0,0,0,0,0)))
theorem Z1C {t:Tp} {out:Int} {x:Nat → Int}:trB t out x = true ↔ Tr t out x:=by
 unfold trB
 simp only [Bool.and_eq_true,Bool.or_eq_true,List.all_eq_true,List.mem_range,Z9l,Z97,Z89,Z9m]
 constructor
 ·rintro ⟨⟨⟨h1,h2⟩,h3⟩,h4⟩
  refine ⟨fun s a hs ha=>h1 s (by omega) a (by omega),fun i hi=>h2 i (by omega),fun i hi hb=>?_,h4⟩
  rcases h3 i hi with h | h
  ·rw [hb] at h;cases h
  ·exact h
 ·rintro ⟨h1,h2,h3,h4⟩
  refine ⟨⟨⟨fun s hs a ha=>h1 s a (by omega) (by omega),fun i hi=>h2 i (by omega)⟩,fun i hi=>?_⟩,h4⟩
  cases hb:hasB out i
  ·exact .inr (h3 i hi hb)
  ·exact .inl rfl
def Z02 (more:List (Int × Int × Int × Int)):Tp:=
 { S:=2,A:=2,T:=2,bl:=60,bm:=120,pl:=-3,pm:=3,sl:=1,gr:=[(0,4),(-2,2)],rd:=[(0,0,0,90),(0,1,1,97),(1,0,0,84),(1,1,1,88)] ++ more,lk:=[] }
def Z0b (rd:List (Int × Int × Int × Int)):Tp:=
 { S:=1,A:=1,T:=2,bl:=60,bm:=120,pl:=-3,pm:=3,sl:=1,gr:=[(0,0)],rd:=rd,lk:=[] }
theorem Z2A:(Z02 []).Ok:=by
 constructor <;> simp [Z02]
theorem Z1s:(Z02 [(0,0,1,99)]).Ok:=by
 constructor <;> simp [Z02]
theorem Z3l:(Z0b []).Ok:=by
 constructor <;> simp [Z0b]
theorem Z8f (i tape:Int) (h1:0 ≤ i) (h2:i < 2) (h3:0 ≤ tape) (h4:tape ≤ 250):(Z0b [(0,0,i,tape)]).Ok:=by
 constructor <;> simp [Z0b, *]
def val (l:List Int):Nat → Int:=fun i=>l.getD i 0
theorem Z3f {x:Nat → Int} (h:Tr (Z02 []) 0 x):89 ≤ x 1 - x 0 ∧ x 1 - x 0 ≤ 94 ∧ x 10 - x 0 ≤ 3 ∧ -2 ≤ x 10 - x 0 ∧ 4 ≤ x 1 - x 4 ∧ x 1 - x 4 ≤ 8:=by
 have c1:=h.cell 0 0 (by decide) (by decide)
 have c2:=h.cell 0 1 (by decide) (by decide)
 have c3:=h.cell 1 0 (by decide) (by decide)
 have c4:=h.cell 1 1 (by decide) (by decide)
 have d1:=h.tail 0 (by decide)
 have d2:=h.tail 1 (by decide)
 have r1:=h.read 0 (by decide) (by decide)
 have r2:=h.read 1 (by decide) (by decide)
 have r3:=h.read 2 (by decide) (by decide)
 have r4:=h.read 3 (by decide) (by decide)
 have a1:(60:Int) ≤ x 1 - x 0:=c1.lo
 have a2:x 1 - x 0 ≤ 120:=c1.hi
 have a3:(0:Int) ≤ x 2 - x 1:=c2.glo (by decide)
 have a4:x 2 - x 1 ≤ 4:=c2.ghi (by decide)
 have a5:(-2:Int) ≤ x 5 - x 4:=c4.glo (by decide)
 have a6:x 5 - x 4 ≤ 2:=c4.ghi (by decide)
 have b1:(-3:Int) ≤ x 10 - x 0:=d1.lo
 have b2:x 10 - x 0 ≤ 3:=d1.hi
 have b3:(-3:Int) ≤ x 11 - x 0:=d2.lo
 have b4:x 11 - x 0 ≤ 3:=d2.hi
 have e1:(90:Int) - 1 ≤ x 1 - x 10:=r1.lo
 have e2:x 1 - x 10 ≤ 90 + 1:=r1.hi
 have e3:(97:Int) - 1 ≤ x 2 - x 11:=r2.lo
 have e4:x 2 - x 11 ≤ 97 + 1:=r2.hi
 have e5:(84:Int) - 1 ≤ x 4 - x 10:=r3.lo
 have e6:x 4 - x 10 ≤ 84 + 1:=r3.hi
 have e7:(88:Int) - 1 ≤ x 5 - x 11:=r4.lo
 have e8:x 5 - x 11 ≤ 88 + 1:=r4.hi
 omega
def xa:Nat → Int:=val [0,94,94,0,86,84,0,0,0,0,3,-3]
def xb:Nat → Int:=val [0,89,93,0,82,84,0,0,0,0,-2,-3]
def xc:Nat → Int:=val [0,90,93,0,82,84,0,0,0,0,-1,-3]
def xd:Nat → Int:=val [0,89,93,0,85,84,0,0,0,0,0,-3]
def xe:Nat → Int:=val [0,98,98,0,90,90,0,0,0,0,0,0]
theorem tr_a:Tr (Z02 []) 0 xa:=Z1C.1 (by decide +kernel)
theorem tr_b:Tr (Z02 []) 0 xb:=Z1C.1 (by decide +kernel)
theorem tr_c:Tr (Z02 []) 0 xc:=Z1C.1 (by decide +kernel)
theorem tr_d:Tr (Z02 []) 0 xd:=Z1C.1 (by decide +kernel)
theorem lv0:live (Z02 []) 0:=Z2H _
theorem lv1:live (Z02 []) 1:=Z1r (t:=Z02 []) (s:=0) (a:=0) (by decide) (by decide)
theorem lv4:live (Z02 []) 4:=Z1r (t:=Z02 []) (s:=1) (a:=0) (by decide) (by decide)
theorem lv10:live (Z02 []) 10:=Z2K (t:=Z02 []) (k:=0) (by decide)
theorem Z4m:∃ y,kTo (Z0D (Z02 []) 0) 13 = some y ∧ y 0 1 = 94 ∧ y 1 0 = -89 ∧ y 10 0 = 2 ∧ y 0 10 = 3 ∧ y 4 1 = 8 ∧ y 1 4 = -4:=by
 obtain ⟨y,hy⟩:=Z1N Z2A tr_a
 refine ⟨y,hy,?_,?_,?_,?_,?_,?_⟩
 ·exact Z4h Z2A hy lv0 lv1 (fun x h=>(Z3f h).2.1) tr_a (by decide +kernel)
 ·exact Z4h Z2A hy lv1 lv0 (fun x h=>by have:=(Z3f h).1;omega) tr_b (by decide +kernel)
 ·exact Z4h Z2A hy lv10 lv0 (fun x h=>by have:=Z3f h;omega) tr_b (by decide +kernel)
 ·exact Z4h Z2A hy lv0 lv10 (fun x h=>by have:=Z3f h;omega) tr_a (by decide +kernel)
 ·exact Z4h Z2A hy lv4 lv1 (fun x h=>by have:=Z3f h;omega) tr_c (by decide +kernel)
 ·exact Z4h Z2A hy lv1 lv4 (fun x h=>by have:=Z3f h;omega) tr_d (by decide +kernel)
theorem ZaH (s:Int) (hs:s ∈ [0,1,2,4,8,16,3,5,9]):∃ y,kTo (Z0D (Z02 [(0,0,1,99)]) (31 - s)) 13 = some y:=by
 simp only [List.mem_cons,List.not_mem_nil,or_false] at hs
 rcases hs with rfl | rfl | rfl | rfl | rfl | rfl | rfl | rfl | rfl
 ·exact Z1N Z1s (x:=xa) (Z1C.1 (by decide +kernel))
 ·exact Z1N Z1s (x:=xa) (Z1C.1 (by decide +kernel))
 ·exact Z1N Z1s (x:=xa) (Z1C.1 (by decide +kernel))
 ·exact Z1N Z1s (x:=xa) (Z1C.1 (by decide +kernel))
 ·exact Z1N Z1s (x:=xa) (Z1C.1 (by decide +kernel))
 ·exact Z1N Z1s (x:=xe) (Z1C.1 (by decide +kernel))
 ·exact Z1N Z1s (x:=xa) (Z1C.1 (by decide +kernel))
 ·exact Z1N Z1s (x:=xa) (Z1C.1 (by decide +kernel))
 ·exact Z1N Z1s (x:=xa) (Z1C.1 (by decide +kernel))
theorem Za0:kTo (Z0D (Z02 [(0,0,1,99)]) 14) 13 = none:=by
 refine (Z5y Z1s).2 ?_
 rintro ⟨x,h⟩
 have d1:=h.tail 0 (by decide)
 have d2:=h.tail 1 (by decide)
 have r1:=h.read 0 (by decide) (by decide)
 have r5:=h.read 4 (by decide) (by decide)
 have b1:(-3:Int) ≤ x 10 - x 0:=d1.lo
 have b2:x 10 - x 0 ≤ 3:=d1.hi
 have b3:(-3:Int) ≤ x 11 - x 0:=d2.lo
 have b4:x 11 - x 0 ≤ 3:=d2.hi
 have e1:(90:Int) - 1 ≤ x 1 - x 10:=r1.lo
 have e2:x 1 - x 10 ≤ 90 + 1:=r1.hi
 have e3:(99:Int) - 1 ≤ x 1 - x 11:=r5.lo
 have e4:x 1 - x 11 ≤ 99 + 1:=r5.hi
 omega
theorem Z9X:∃ y,kTo (Z0D (Z0b []) 0) 13 = some y ∧ y 0 1 = 120 ∧ y 1 0 = -60 ∧ (∀ i:Nat,i < 2 → y 1 (10 + i) = -57 ∧ y (10 + i) 1 = 123):=by
 have t1:Tr (Z0b []) 0 (val [0,120,0,0,0,0,0,0,0,0,-3,-3]):=Z1C.1 (by decide +kernel)
 have t2:Tr (Z0b []) 0 (val [0,60,0,0,0,0,0,0,0,0,3,3]):=Z1C.1 (by decide +kernel)
 have l0:live (Z0b []) 0:=Z2H _
 have l1:live (Z0b []) 1:=Z1r (t:=Z0b []) (s:=0) (a:=0) (by decide) (by decide)
 have lt:∀ i:Nat,i < 2 → live (Z0b []) (10 + i):=fun i hi=>by
  have:=Z2K (t:=Z0b []) (k:=i) (by simp [Z0b];omega)
  rwa [show Z0q (i:Int) = 10 + i by unfold Z0q;omega] at this
 have le:∀ x,Tr (Z0b []) 0 x → 60 ≤ x 1 - x 0 ∧ x 1 - x 0 ≤ 120 ∧ ∀ i:Nat,i < 2 → -3 ≤ x (10 + i) - x 0 ∧ x (10 + i) - x 0 ≤ 3:=fun x h=>by
  have c:=h.cell 0 0 (by decide) (by decide)
  refine ⟨c.lo,c.hi,fun i hi=>?_⟩
  have d:=h.tail i (by simp [Z0b];omega)
  have d1:=d.lo
  have d2:=d.hi
  rw [show Z0q (i:Int) = 10 + i by unfold Z0q;omega] at d1 d2
  exact ⟨d1,d2⟩
 obtain ⟨y,hy⟩:=Z1N Z3l t1
 refine ⟨y,hy,?_,?_,fun i hi=>⟨?_,?_⟩⟩
 ·exact Z4h Z3l hy l0 l1 (fun x h=>(le x h).2.1) t1 (by decide +kernel)
 ·exact Z4h Z3l hy l1 l0 (fun x h=>by have:=le x h;omega) t2 (by decide +kernel)
 ·exact Z4h Z3l hy l1 (lt i hi) (fun x h=>by have:=le x h;have:=this.2.2 i hi;omega) t2 (by rcases i with _ | _ | i;(decide +kernel);(decide +kernel);omega)
 ·exact Z4h Z3l hy (lt i hi) l1 (fun x h=>by have:=le x h;have:=this.2.2 i hi;omega) t1 (by rcases i with _ | _ | i;(decide +kernel);(decide +kernel);omega)
theorem Z7S (i:Nat) (hi:i < 2) (tape:Int) (h1:56 ≤ tape) (h2:tape ≤ 124) :
  ∃ y,kTo (Z0D (Z0b [(0,0,i,tape)]) 0) 13 = some y ∧ y 0 1 = min 120 (tape + 4) ∧ y 1 0 = -(max 60 (tape - 4)):=by
 have ok:=Z8f i tape (by omega) (by omega) (by omega) (by omega)
 have l0:live (Z0b [(0,0,i,tape)]) 0:=Z2H _
 have l1:live (Z0b [(0,0,i,tape)]) 1:=Z1r (t:=Z0b [(0,0,i,tape)]) (s:=0) (a:=0) (by simp [Z0b]) (by simp [Z0b])
 have le:∀ x,Tr (Z0b [(0,0,i,tape)]) 0 x → 60 ≤ x 1 - x 0 ∧ x 1 - x 0 ≤ 120 ∧ tape - 4 ≤ x 1 - x 0 ∧ x 1 - x 0 ≤ tape + 4:=fun x h=>by
  have c:=h.cell 0 0 (by simp [Z0b]) (by simp [Z0b])
  have d:=h.tail i (by simp [Z0b];omega)
  have r:=h.read 0 (by simp [Z0b]) (by decide)
  have c1:(60:Int) ≤ x 1 - x 0:=c.lo
  have c2:x 1 - x 0 ≤ 120:=c.hi
  have d1:(-3:Int) ≤ x (Z0q i) - x 0:=d.lo
  have d2:x (Z0q i) - x 0 ≤ 3:=d.hi
  have r1:tape - 1 ≤ x 1 - x (Z0q i):=r.lo
  have r2:x 1 - x (Z0q i) ≤ tape + 1:=r.hi
  omega
 have mk:∀ n p:Int,60 ≤ n → n ≤ 120 → -3 ≤ p → p ≤ 3 → tape - 1 ≤ n - p → n - p ≤ tape + 1 → Tr (Z0b [(0,0,i,tape)]) 0 (fun k=>if k = 1 then n else if k < 10 then 0 else p):=fun n p a1 a2 a3 a4 a5 a6=>by
  refine ⟨fun s a hs ha=>?_,fun k hk=>?_,fun k hk _=>?_,fun k hk=>?_⟩
  ·simp only [Z0b] at hs ha
   obtain rfl:s = 0:=by omega
   obtain rfl:a = 0:=by omega
   constructor <;> simp [Z0b,ZO] <;> omega
  ·simp only [Z0b] at hk
   have e:Z0q (k:Int) = 10 + k:=by unfold Z0q;omega
   constructor <;> simp [Z0b,e] <;> omega
  ·simp only [Z0b,List.length_cons,List.length_nil] at hk
   obtain rfl:k = 0:=by omega
   have e:Z0q (i:Int) = 10 + i:=by unfold Z0q;omega
   constructor <;> simp [Z0b,ZO,e] <;> omega
  ·simp [Z0b] at hk
 obtain ⟨y,hy⟩:=Z1N ok (mk (max 60 (tape - 4)) (max 60 (tape - 4) - tape + min 1 (tape - max 60 (tape - 4) + 3)) (by omega) (by omega) (by omega) (by omega) (by omega) (by omega))
 refine ⟨y,hy,?_,?_⟩
 ·exact Z4h ok hy l0 l1 (fun x h=>by have:=le x h;omega) (mk (min 120 (tape + 4)) (min 3 (min 120 (tape + 4) - tape + 1)) (by omega) (by omega) (by omega) (by omega) (by omega) (by omega)) (by simp)
 ·exact Z4h ok hy l1 l0 (fun x h=>by have:=le x h;omega) (mk (max 60 (tape - 4)) (max (-3) (max 60 (tape - 4) - tape - 1)) (by omega) (by omega) (by omega) (by omega) (by omega) (by omega)) (by simp)
end Go.Proofs.Ytholfdgebdlgjaa
