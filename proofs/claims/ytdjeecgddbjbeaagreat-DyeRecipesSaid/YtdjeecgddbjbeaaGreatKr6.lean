/- Parts of a proof: Dri, Drj, Drc, Drd, Dre, Drf, Dkm, Drk. No conditions. -/
import Derived.DeepKeys4
import Derived.Defers
import Derived.DefersIn
import Derived.Maps.Keyed
import Derived.Maps.Own
import Derived.Maps.Views
import Derived.OrdersIn
import Derived.RangeFuncBound
import Derived.RangeFuncCalls
import Derived.RangeFuncFrom
import Derived.RangeFuncKeeps
import Derived.RangeFuncLeaves
import Derived.RangeFuncNested
import Derived.Recover
import Derived.RecoverIn
import Derived.TacticsIn
import Derived.WideKeyArr
import Derived.Test.YtdjeecgddbjbeaaGreatKr5
set_option linter.unusedVariables false
set_option linter.unusedSimpArgs false
namespace Go.Proofs.YtdjeecgddbjbeaaGreat
open Go.RowKit
section
variable {P : Program} {r n : Nat}
def noDef (o : Oper) : Bool:=match o.op with | .defer _=>false | _=>true
theorem noDef_ne {o : Oper} (h : noDef o = true) : ∀ c,o.op ≠ .defer c:=fun c e=>by rw [noDef,e] at h;cases h
theorem rows_inR {row : String} {args : Array Value} {w : World} {R : Value → World → Prop} (h : Rows P row args w R) : RowsIn (Fence.wide.inRound r) n P row args w R:=by
 intro c cs _
 obtain ⟨v,w',h1,h2⟩:=h c cs
 exact ⟨v,w',h1,stepsIn_wide.2 h2⟩
theorem calls_inR {f : FuncId} {args : Array Value} {w : World} {R : Ending → World → Prop} (h : Calls P f args w R) : CallsIn (Fence.wide.inRound r) n P f args w R:=CallsIn.inRound r (callsIn_wide.2 h)
theorem oper_inR {o : Oper} {a : Act} {w : World} {K : Act → World → Prop} {Q : Exit → Act → World → Prop} (hd : noDef o = true) (h : o.wp P a w K Q) : o.wpIn (Fence.wide.inRound r) n P a w K Q:=by
 refine ⟨fun _ _=>trivial,?_⟩
 rw [Fence.inRound_round,Oper.semAt_some r _ _ (noDef_ne hd)]
 unfold Oper.wp at h
 generalize (execOp a.eval o).run P w = x at h
 have h0 : ((Fence.wide.inRound r).depth.isSome = true → 1 ≤ n):=fun h=>by cases h
 cases x with
 | ok x w' =>
  cases x <;> simp only [Oper.upon,Oper.uponIn] at h ⊢ <;> first
   | exact h
   | exact ⟨h0,CallsIn.mono (calls_inR h) fun e w'' he=>by cases e <;> exact he⟩
   | exact ⟨h0,RowsIn.mono (rows_inR h) fun _ _ he=>he⟩
   | exact h.elim
 | halt x w'=>cases x <;> simp only [Oper.upon,Oper.uponIn] at h ⊢ <;> exact h
theorem oper_inR_mono {o : Oper} {a : Act} {w : World} {K K' : Act → World → Prop} {Q : Exit → Act → World → Prop} (hd : noDef o = true) (hK : ∀ a w,K a w → K' a w) (h : o.wp P a w K Q) : o.wpIn (Fence.wide.inRound r) n P a w K' Q:=Oper.wpIn_mono hK (oper_inR hd h)
theorem list_inR {ops : Array Oper} {Q : Exit → Act → World → Prop} (hQ : ¬ LetsOut Q) : ∀ (l : List Oper) (a : Act) (w : World),l.all noDef = true → wpList P ops Q l a w → wpListIn (Fence.wide.inRound r) n P ops Q l a w
 | [],_,_,_,h=>h
 | o :: l,a,w,hd,h=>by
  simp only [List.all_cons,Bool.and_eq_true] at hd
  unfold wpListIn
  unfold wpList at h
  by_cases hw : Region.wanted o (yielded ops a.tmps) = true
  ·simp only [hw,if_true] at h ⊢
   exact oper_inR_mono hd.1 (fun a w=>list_inR hQ l a w hd.2) (h.resolve_right fun h=>hQ h.2)
  ·simp only [hw] at h ⊢
   exact ⟨fun _ _=>trivial,list_inR hQ l _ w hd.2 h⟩
theorem wpI_region_lit {l : List Oper} {id : Nat} {Q : Exit → Act → World → Prop} {a : Act} {w : World} (hd : l.all noDef = true) (hQ : ¬ LetsOut Q) (h : wpList P l.toArray Q l a w) : (Code.region id l.toArray false).wpIn (Fence.wide.inRound r) n P Q a w:=
 wpIn_region_lit (list_inR hQ l a w hd h)
theorem any_inR {ops : Array Oper} {md : Region.Mode} {Q : Exit → Act → World → Prop} (hQ : ¬ LetsOut Q) (hd : ops.toList.all noDef = true) : ∀ (fuel : Nat) (listed : Array Bool) (a : Act) (w : World),wpAny P md ops Q fuel listed a w → wpAnyIn (Fence.wide.inRound r) n P md ops Q fuel listed a w
 | 0,_,_,_,h=>h
 | fuel + 1,listed,a,w,h=>by
  refine ⟨h.1,fun i hi=>?_⟩
  have h2:=h.2 i hi
  unfold wpOp at h2
  unfold wpOpIn
  cases ho : ops[i]? with
  | none=>simp only [ho] at h2 ⊢;exact any_inR hQ hd fuel _ a w h2
  | some o =>
   have hdo : noDef o = true:=List.all_eq_true.1 hd o (by
    obtain ⟨h3,h4⟩:=Array.getElem?_eq_some_iff.1 ho
    rw [← h4];simp)
   simp only [ho] at h2 ⊢
   by_cases hw : Region.wanted o (yielded ops a.tmps) = true
   ·simp only [hw,if_true] at h2 ⊢
    exact oper_inR_mono hdo (fun a w=>any_inR hQ hd fuel _ a w) (h2.resolve_right fun h=>hQ h.2)
   ·simp only [hw] at h2 ⊢
    exact ⟨fun _ _=>trivial,any_inR hQ hd fuel _ _ w h2⟩
theorem region_xI {Q : Exit → Act → World → Prop} {a : Act} {l : List Oper} {id : Nat} {w : World} (T : World → Prop) (stop : Option Nat) (hm : P.follows .mixedOrders = true) (hd : l.all noDef = true) (hQ : ¬ LetsOut Q)
  (h : ∀ W : World,W.heap = w.heap → Ext [] w W → wpAnyX P .any l.toArray Q T stop l.toArray.size (Array.replicate l.toArray.size false) a W) : (Code.region id l.toArray true).wpIn (Fence.wide.inRound r) n P Q a w:=
 wpIn_region_any hm (any_inR hQ (by simpa using hd) _ _ _ _ (anyX_any _ _ _ _ (h _ rfl ⟨rfl,rfl,rfl,Nat.le_refl _,fun _ _ _=>rfl⟩)))
end
section
variable {P : Program} {G : Fence} {n : Nat} {Q : Exit → Act → World → Prop} {N : Nat} {D : List Deferred} {a : Act} {L : List (Nat × Value)} {w : World}
theorem cdI_T (F : Has N D a L) {k : Nat} {x y : Code} (hc : L.lookup k = some (.bool true)) (h : x.wpIn G n P Q a w) : (Code.cond (.tmp k) x y).wpIn G n P Q a w:=wpIn_cond_true (F.at hc) h
theorem cdI_Tb (F : Has N D a L) {k : Nat} {x y : Code} {b : Bool} (hc : L.lookup k = some (.bool b)) (hb : b = true) (h : x.wpIn G n P Q a w) : (Code.cond (.tmp k) x y).wpIn G n P Q a w:=wpIn_cond_true (by rw [F.at hc,hb]) h
theorem cdI_if (F : Has N D a L) {k : Nat} {x y : Code} {p : Prop} [Decidable p] (hc : L.lookup k = some (.bool (decide p))) (ht : p → x.wpIn G n P Q a w) (hf : ¬ p → y.wpIn G n P Q a w) : (Code.cond (.tmp k) x y).wpIn G n P Q a w:=by
 by_cases h : p
 ·exact wpIn_cond_true (by rw [F.at hc,decide_eq_true h]) (ht h)
 ·exact wpIn_cond_false (by rw [F.at hc,decide_eq_false h]) (hf h)
theorem cdI_b (F : Has N D a L) {k : Nat} {x y : Code} {b : Bool} (hc : L.lookup k = some (.bool b)) (ht : b = true → x.wpIn G n P Q a w) (hf : b = false → y.wpIn G n P Q a w) : (Code.cond (.tmp k) x y).wpIn G n P Q a w:=by
 cases b
 ·exact wpIn_cond_false (F.at hc) (hf rfl)
 ·exact wpIn_cond_true (F.at hc) (ht rfl)
theorem lpI_nat {c : Code} (M : Nat) (I : Nat → Act → World → Prop) (h0 : I 0 a w) (round : ∀ i a w,i ≤ M → I i a w → c.wpIn G n P (Exit.then (fun a' w'=>i < M ∧ I (i + 1) a' w') Q) a w) : (Code.loop c).wpIn G n P Q a w:=by
 intro b k cs hro hb hr
 have key : ∀ m i a w,m = M - i → i ≤ M → I i a w → ∃ e a' w',Q e a' w' ∧ ArrivesIn (Machine.fenced P G) P (lone (b.atR a (.code c :: .inLoop c :: k)) cs w) b k cs e a' w':=by
  intro m
  induction m with
  | zero =>
   intro i a w hn hi hI
   obtain ⟨e,a₁,w₁,hq,harr⟩:=round i a w hi hI b (.inLoop c :: k) cs hro hb hr
   cases e with
   | normal=>exact absurd hq.1 (by omega)
   | _=>exact ⟨_,a₁,w₁,hq,.pass (x:=.inLoop c) rfl (fun _ _=>.inl (by simp)) harr⟩
  | succ m ih =>
   intro i a w hn hi hI
   obtain ⟨e,a₁,w₁,hq,harr⟩:=round i a w hi hI b (.inLoop c :: k) cs hro hb hr
   cases e with
   | normal =>
    obtain ⟨hlt,hI₁⟩:=hq
    obtain ⟨e₂,a₂,w₂,hq₂,harr₂⟩:=ih (i + 1) a₁ w₁ (by omega) hlt hI₁
    exact ⟨e₂,a₂,w₂,hq₂,.of_steps (StepsIn.trans harr (.one (fenced_calm hb hr rfl) stepR_inLoop)) harr₂⟩
   | _=>exact ⟨_,a₁,w₁,hq,.pass (x:=.inLoop c) rfl (fun _ _=>.inl (by simp)) harr⟩
 obtain ⟨e,a',w',hq,harr⟩:=key _ 0 a w rfl (Nat.zero_le _) h0
 exact ⟨e,a',w',hq,.of_steps (.one (fenced_calm hb hr rfl) stepR_loop) harr⟩
theorem lpI_for {c : Code} {L0 : List (Nat × Value)} (F : Has N D a L0) (M : Nat) (J : Nat → List (Nat × Value) → World → Prop) (h0 : ∃ Lv,J 0 Lv w ∧ Has N D a (Lv ++ L0))
  (round : ∀ i Lv a w,i ≤ M → J i Lv w → Has N D a (Lv ++ L0) → c.wpIn G n P (Exit.then (fun a' w'=>i < M ∧ ∃ Lv',J (i + 1) Lv' w' ∧ Has N D a' (Lv' ++ L0)) Q) a w) : (Code.loop c).wpIn G n P Q a w:=
 lpI_nat M (fun i a w=>∃ Lv,J i Lv w ∧ Has N D a (Lv ++ L0)) h0 fun i a w hi ⟨Lv,hJ,hF⟩=>round i Lv a w hi hJ hF
end
section
variable {P : Program} {fn : Func} {R : Ending → World → Prop} {N : Nat} {D : List Deferred} {a : Act} {L : List (Nat × Value)} {w : World}
theorem calls_hasM {f : FuncId} {c : Code} {args : List Value} (N : Nat) (hf : P.funcs[f]? = some fn) (hb : fn.body = some c) (hN : fn.ntmps = N) (hle : args.length ≤ N)
  (h : ∀ a,Has N [] a (argL 0 args) → c.wp P (bodyPostM Fence.wide 9 P fn R) a w) : Calls P f args.toArray w R:=by
 refine (callsIn_wide (n:=9)).1 (callsIn_of_wp_marks hf hb trivial (wpIn_wide.2 (h _ ⟨rfl,by simp;omega,fun k v e=>?_⟩)))
 obtain ⟨j,h1,h2⟩:=argL_get _ _ _ _ e
 obtain rfl : k = j:=by omega
 have hj:=(List.getElem?_eq_some_iff.1 h2).1
 simp only [Array.getD_eq_getD_getElem?]
 rw [Array.getElem?_append_left (by simpa using hj)]
 simp [h2]
theorem rtM_v (F : Has N D a L) (h : LeavesInM Fence.wide 9 P fn a.tmps R D .returning w) : bodyPostM Fence.wide 9 P fn R .ret a w:=by
 show LeavesInM _ _ _ _ _ _ a.defers _ _
 rw [F.ds];exact h
theorem lv_nil {tmps : Array Value} {v : Value} (hr : (results fn tmps).run P w = .ok v w) (h : R (.returned v) w) : LeavesInM Fence.wide 9 P fn tmps R [] .returning w:=⟨v,hr,h⟩
theorem lv_mark {tmps : Array Value} {b : Nat} {args : Array Value} {ds : List Deferred} (hk : w.heap[b]? = some (.deferred (some []))) (h : ∀ w2,w2 = w.putObj b (.deferred none) → LeavesInM Fence.wide 9 P fn tmps R ds .returning w2) : LeavesInM Fence.wide 9 P fn tmps R ({ target:=.collected b,args:=args } :: ds) .returning w:=
 ⟨by simp,.inl ⟨b,_,rfl,run_takeDeferred hk,h _ rfl⟩⟩
end
theorem fault_no (xT : TypeId) (w : World) : (Instr.typeAssert Value.nilIface xT 108 true).run Tryz.prog w = .ok (.tuple #[.int .i64 0,.bool false]) w:=by
 simp [Instr.typeAssert,run_underlying Tryz.underlying108,Tryz.zeroValue108,go_sem,Result.andThen]
set_option maxRecDepth 20000 in
set_option maxHeartbeats 400000 in
theorem caught_idle (n : Nat) (p : Addr) (w : World) :
  CallsDIn Fence.wide n Tryz.prog 39 #[.pointer (some p)] .returning w fun e u' w'=>e = .returned (.tuple #[]) ∧ u' = .returning ∧ w' = w:=by
 refine callsDIn_of_wpSIn Tryz.func39 rfl trivial fun c₀ cs hu=>?_
 apply wpSIn_seq
 apply wpSIn_region
 simp [wpOpsSIn,Fence.wide,go_sem,recoverD,hu,Tryz.ntmps39,Exit.thenS,fault_no,Result.andThen]
 apply wpSIn_seq
 apply wpSIn_region
 simp [wpOpsSIn,Fence.wide,go_sem,Exit.thenS,Array.replicate]
 refine wpSIn_cond (t:=false) (by simp [Act.eval]) ?_
 simp only [Bool.false_eq_true,if_false]
 refine wpSIn_of_wpIn rfl (wpIn_skip ?_)
 cases c₀
 simp_all [bodyPostS,results,Tryz.results39]
theorem lv_caught {fn : Func} {R : Ending → World → Prop} {tmps : Array Value} {w : World} {b : Nat} {ds : List Deferred} (h : LeavesInM Fence.wide 9 Tryz.prog fn tmps R ds .returning w) : LeavesInM Fence.wide 9 Tryz.prog fn tmps R ({ target:=.fn (.func 39) #[],args:=#[.pointer (some ⟨b,0,none⟩)] } :: ds) .returning w:=by
 refine ⟨by simp,.inr ⟨(fun h=>by cases h),_,_,39,#[.pointer (some ⟨b,0,none⟩)],rfl,(by simp [go_sem]),(fun _ _=>trivial),?_⟩⟩
 refine CallsDIn.mono (caught_idle 8 ⟨b,0,none⟩ w) ?_
 rintro e u' w' ⟨rfl,rfl,rfl⟩
 exact h
section
variable {P : Program} {ops : Array Oper} {Q : Exit → Act → World → Prop} {o : Oper} {rest : List Oper} {N : Nat} {D : List Deferred} {a : Act} {L : List (Nat × Value)} {w w' : World} {v : Value}
theorem sq_defer (F : Has N D a L) {d : Deferred} (hd : o.dst = none) (hw : Region.wanted o (yielded ops a.tmps) = true) (hr : (execOp a.eval o).run P w = .ok (.defer d) w) (h : ∀ a2,Has N (d :: D) a2 L → wpList P ops Q rest a2 w) : wpList P ops Q (o :: rest) a w:=by
 unfold wpList
 simp only [hw,if_true,Oper.wp,hr,Oper.upon,hd,Act.put]
 exact .inl (h _ ⟨by simp [F.ds],F.sz,F.get⟩)
theorem R_defer {ρ : Operand → Value} {f : FuncId} {l : List Operand} {ts : Array TypeId} {vs : List Value} (ho : o.op = .defer { callee:=.value (.func f),args:=l.toArray,argTypes:=ts }) (hf : ρ (.func f) = .func (.func f) #[] #[]) (ha : l.map ρ = vs) : (execOp ρ o).run P w = .ok (.defer { target:=.fn (.func f) #[],args:=vs.toArray }) w:=by
 have ha:=mapsN ha
 rw [← ha]
 unfold execOp
 simp [ho,resolve,hf,go_sem]
end
theorem Has.mark {N : Nat} {D : List Deferred} {a : Act} {L : List (Nat × Value)} (F : Has N D a L) {d : Deferred} : Has N (d :: D) { a with defers:=d :: a.defers } L:=⟨by simp [F.ds],F.sz,F.get⟩
theorem keep_putW {w w2 : World} {D k : Nat} {o o' : Obj} (e : w2 = w.putObj D o') (hD : w.heap[D]? = some o) (hc : o.isCells = false) {cs : Array Value} {T : TypeId} {fz : Nat × Nat} (h : w.heap[k]? = some (.cells cs T fz)) : w2.heap[k]? = some (.cells cs T fz):=by
 have : k ≠ D:=fun e=>by subst e;rw [hD] at h;cases h;cases hc
 rw [e,World.putObj_heap_other this];exact h
theorem ext_putW {X : List Nat} {w W w2 : World} {D : Nat} {o' : Obj} (h : Ext X w W) (e : w2 = W.putObj D o') (hD : w.heap.size ≤ D) : Ext X w w2:=by
 rw [e]
 exact ⟨h.os,h.tape,h.output,by simpa [World.putObj] using h.size,fun k hk hx=>(World.putObj_heap_other (by omega)).trans (h.block k hk hx)⟩
theorem owns_put {w w2 : World} {base : Nat} {e : TypeId} {size n : Nat} {v : Value} {xs : List Value} {D : Nat} {o o' : Obj} (hw : w2 = w.putObj D o') (hD : w.heap[D]? = some o) (hc : o.isCells = false) (h : w.ownsRow base e size v n xs) : w2.ownsRow base e size v n xs:=by
 rw [hw]
 refine h.kept (grownBy_putObj' w D o') ?_
 rcases h.2 with ⟨rfl,_⟩ | ⟨g,cap,cur,rfl,_,hgb,_⟩
 ·exact .inl rfl
 ·refine .inr fun e=>?_
  obtain rfl : g = D:=by simpa [Value.ownBlock] using e
  rw [hD] at hgb;cases hgb;cases hc
section
variable {P : Program} {fn : Func} {N : Nat} {D : List Deferred} {a : Act} {L : List (Nat × Value)} {w : World}
theorem loadVar_cell {P : Program} {t : TypeId} {b off : Nat} {v : Value} {d : TypeDesc} {w : World} (hd : P.underlying t = some d) (ha : d.isRow = false) (hc : w.cell? ⟨b,off,none⟩ = some v) : (loadVar t ⟨b,off,none⟩).run P w = .ok v w:=by
 cases d <;> first | (simp [TypeDesc.isRow] at ha;done) | simp [loadVar,isAgg,underlying,hd,load,hc,Sem.run,go_sem]
theorem rs_tc (F : Has N D a L) {t s ty b : Nat} {u v : Value} {T : TypeId} {d : TypeDesc} {fz : Nat × Nat} (hr : fn.results = #[.tmp t,.cell s ty]) (hv : L.lookup t = some v) (hs : L.lookup s = some (.pointer (some ⟨b,0,none⟩))) (hd : P.underlying ty = some d) (ha : d.isRow = false) (H : w.heap[b]? = some (.cells #[u] T fz)) : (results fn a.tmps).run P w = .ok (.tuple #[v,u]) w:=by
 have hl:=loadVar_cell (P:=P) (t:=ty) hd ha ((cells_of_block H 0).trans get0)
 have h1:=F.get _ _ hv
 have h2:=F.get _ _ hs
 simp only [Array.getD_eq_getD_getElem?] at h1 h2
 simp [results,hr,h1,h2,asAddr,hl,Result.andThen]
theorem rs_ttc (F : Has N D a L) {t r s ty b : Nat} {u v x : Value} {T : TypeId} {d : TypeDesc} {fz : Nat × Nat} (hr : fn.results = #[.tmp t,.tmp r,.cell s ty]) (hv : L.lookup t = some v) (hx : L.lookup r = some x) (hs : L.lookup s = some (.pointer (some ⟨b,0,none⟩))) (hd : P.underlying ty = some d) (ha : d.isRow = false) (H : w.heap[b]? = some (.cells #[u] T fz)) : (results fn a.tmps).run P w = .ok (.tuple #[v,x,u]) w:=by
 have hl:=loadVar_cell (P:=P) (t:=ty) hd ha ((cells_of_block H 0).trans get0)
 have h1:=F.get _ _ hv
 have h2:=F.get _ _ hs
 have h3:=F.get _ _ hx
 simp only [Array.getD_eq_getD_getElem?] at h1 h2 h3
 simp [results,hr,h1,h2,h3,asAddr,hl,Result.andThen]
end
def rowOf (ob : Nat) (W : World) : Option Nat:=match W.heap[ob]? with
 | some (.cells cs _ _)=>(cs[0]?).bind Value.ownBlock
 | _=>none
def Safe (X : List Nat) (ob k : Nat) (W : World) : Prop:=k ∉ X ∧ k ≠ ob ∧ rowOf ob W ≠ some k
structure KeepR (X : List Nat) (ob : Nat) (A B : World) : Prop where
 size : A.heap.size ≤ B.heap.size
 cells : ∀ (k : Nat) (cs : Array Value) (T : TypeId) (fz : Nat × Nat),A.heap[k]? = some (.cells cs T fz) → Safe X ob k A → B.heap[k]? = some (.cells cs T fz)
 row : rowOf ob B = rowOf ob A ∨ ∀ r,rowOf ob B = some r → A.heap.size ≤ r
section
variable {X : List Nat} {ob k : Nat} {A B C : World}
theorem Safe.keep (h : Safe X ob k A) (hk : k < A.heap.size) (K : KeepR X ob A B) : Safe X ob k B:=by
 refine ⟨h.1,h.2.1,fun e=>?_⟩
 rcases K.row with h1 | h1
 ·exact h.2.2 (by rw [← h1];exact e)
 ·have:=h1 _ e;omega
theorem Safe.same (h : Safe X ob k A) (e : B.heap[ob]? = A.heap[ob]?) : Safe X ob k B:=⟨h.1,h.2.1,by rw [rowOf,e];exact h.2.2⟩
theorem KeepR.refl : KeepR X ob A A:=⟨Nat.le_refl _,fun _ _ _ _ h _=>h,.inl rfl⟩
theorem KeepR.trans (h : KeepR X ob A B) (k : KeepR X ob B C) : KeepR X ob A C:=by
 refine ⟨Nat.le_trans h.size k.size,fun i cs T fz hi hs=>k.cells i cs T fz (h.cells i cs T fz hi hs) (hs.keep (blk_lt hi) h),?_⟩
 rcases k.row with h1 | h1
 ·rw [h1];exact h.row
 ·exact .inr fun r e=>Nat.le_trans h.size (h1 r e)
theorem KeepR.put {l : Nat} {o o' : Obj} (hl : A.heap[l]? = some o) (ho : o.isCells = false) (hne : ob ≠ l) : KeepR X ob A (A.putObj l o'):=by
 have h0 : (A.putObj l o').heap[ob]? = A.heap[ob]?:=World.putObj_heap_other hne
 refine ⟨by simp [World.putObj],fun i cs T fz hi _=>?_,.inl (by rw [rowOf,h0];rfl)⟩
 have : i ≠ l:=fun e=>by subst e;rw [hl] at hi;cases hi;cases ho
 rw [World.putObj_heap_other this];exact hi
end
def SeqR {α : Type} (P : Program) (gf : Nat) (lb : Array Value) (encs : α → Array Value) (X : List Nat) (ob : Nat) (xs : List α) (w : World) : Prop:=
 ∀ (l : Nat) (J : List α → World → Prop) (W : World),w.heap.size ≤ W.heap.size → (∀ k,k < w.heap.size → W.heap[k]? = w.heap[k]?) →
  (∀ s U V,J s U → U.grownBy V none → J s V) →
  (∀ s U V r,J s U → Safe X ob r U → W.heap.size ≤ r → (∃ o : Obj,U.heap[r]? = some o ∧ o.isCells = true) → U.grownBy V (some r) → J s V) →
  (∀ pre x V,J pre V → pre ++ [x] <+: xs → YieldAt Fence.wide 0 P l (encs x) V fun e V'=>e = .returned (.bool true) ∧ J (pre ++ [x]) V' ∧ KeepR X ob V V') →
  J [] W → Calls P gf (#[.func (.yield l) #[] #[]] ++ lb) W fun e W'=>(∃ v,e = .returned v) ∧ J xs W'
def postR {α : Type} (B : Nat) (X : List Nat) (ob : Nat) (I : List α → World → Prop) (xs : List α) (W : World) : Exit → Act → World → Prop
 | .normal,_,W'=>KeepsFrom B W W' ∧ KeepR X ob W W' ∧ I xs W'
 | _,_,_=>False
theorem wide_round {l : Nat} {f : FuncId} {tmps : Array Value} {assign body : Code} {w : World} {R : Ending → World → Prop} {P : Program} {m m' : Nat} (h : RoundIn Fence.wide m P l f tmps assign body w R) : RoundIn Fence.wide m' P l f tmps assign body w R:=⟨h.1,fun c cs _=>h.2 c cs (fun d h=>by cases h)⟩
theorem range_R {α : Type} {P : Program} {g : Operand} {ps : Array Tmp} {assign body : Code} {Q : Exit → Act → World → Prop} {a : Act} {w : World} {gf : Nat} {lb : Array Value} (hg : a.eval g = .func (.func gf) #[] lb) (eg : ∀ args w,(callFunc gf args).run P w = .ok (.enter gf args) w)
  {encs : α → Array Value} {X : List Nat} {ob : Nat} {xs : List α} (hseq : SeqR P gf lb encs X ob xs w) (hps : ∀ x,(encs x).size = ps.size) (hob : ob < w.heap.size)
  (I : List α → World → Prop) (hI1 : ∀ s U V,I s U → U.grownBy V none → I s V)
  (hIo : ∀ s U V r,I s U → w.heap.size ≤ r → (∃ o : Obj,U.heap[r]? = some o ∧ o.isCells = false) → U.grownBy V (some r) → I s V)
  (hIc : ∀ s U V r,I s U → w.heap.size ≤ r → Safe X ob r U → (∃ o : Obj,U.heap[r]? = some o ∧ o.isCells = true) → U.grownBy V (some r) → I s V)
  (h0 : I [] w) (Ax : List α → α → Act → World → Prop) (hAx : ∀ pre x a' U V r,Ax pre x a' U → w.heap.size ≤ r → (∃ o : Obj,U.heap[r]? = some o ∧ o.isCells = false) → U.grownBy V (some r) → Ax pre x a' V)
  (hassign : ∀ (l : Nat) (pre : List α) (x : α) (W : World) (K : Act → World → Prop),I pre W → (∀ a' W',KeepsFrom w.heap.size W W' → KeepR X ob W W' → Ax pre x a' W' → K a' W') →
   assign.wpIn (Fence.wide.inRound l) 0 P (Exit.then K (fun _ _ _=>False)) { tmps:=(ps.zip (encs x)).foldl (fun t (p,v)=>t.setIfInBounds p v) a.tmps,defers:=[] } W)
  (hbody : ∀ (l : Nat) (pre : List α) (x : α) (a' : Act) (W : World),Ax pre x a' W → pre ++ [x] <+: xs → body.wpIn (Fence.wide.inRound l) 0 P (postR w.heap.size X ob I (pre ++ [x]) W) a' W)
  (hdone : ∀ (D : Nat) (W : World),w.heap.size ≤ D → I xs W → W.heap[D]? = some (.deferred (some [])) → Q .normal { a with defers:={ target:=.collected D,args:=#[] } :: a.defers } W) :
  (Code.rangeFunc g ps assign body).wp P Q a w:=by
 refine (wpIn_wide (n:=1)).1 (wpIn_rangeFunc fun fn hfn=>?_)
 obtain ⟨rec,hrec⟩ : ∃ rec : LoopState → Option Code → Loop,rec = fun st pe=>{ state:=st,pending:=pe,fn,tmps:=a.tmps,params:=ps,assign,body,defers:=w.heap.size }:=⟨_,rfl⟩
 have hput : ∀ {s : List α} {U : World} {l : Nat} {o : Obj} (o' : Obj),I s U → w.heap.size ≤ l → U.heap[l]? = some o → o.isCells = false → I s (U.putObj l o'):=
  fun o' hi hl hu ho=>hIo _ _ _ _ hi hl ⟨_,hu,ho⟩ (grownBy_putObj' _ _ _)
 have hn : ∀ {l : Nat},w.heap.size ≤ l → ob ≠ l:=fun h e=>by omega
 have sD : ∀ (o : Obj),(w.alloc o).heap.size = w.heap.size + 1:=fun o=>by simp
 obtain ⟨W1,hW1⟩ : ∃ W1,W1 = (w.alloc (.deferred (some []))).alloc (.loop (rec .ready none)):=⟨_,rfl⟩
 have hs1 : W1.heap.size = w.heap.size + 1 + 1:=by rw [hW1];simp
 have hL1 : W1.heap[w.heap.size + 1]? = some (.loop (rec .ready none)):=by rw [hW1];exact blk_new (by simp)
 have hD1 : W1.heap[w.heap.size]? = some (.deferred (some [])):=by rw [hW1];exact (Below.heap_alloc _ _ _ (by simp)).trans (World.alloc_heap_new w _)
 have hb1 : ∀ k,k < w.heap.size → W1.heap[k]? = w.heap[k]?:=fun k hk=>by
  rw [hW1];exact (Below.heap_alloc _ _ _ (by simp;omega)).trans (Below.heap_alloc _ _ _ hk)
 have hI0 : I [] W1:=by rw [hW1];exact hI1 _ _ _ (hI1 _ _ _ h0 (World.grownBy_alloc _ _ _)) (World.grownBy_alloc _ _ _)
 refine ⟨w.heap.size + 1,[{ target:=.collected w.heap.size,args:=#[] }],W1,{ target:=.fn (.func gf) lb,args:=#[.func (.yield (w.heap.size + 1)) #[] #[]] },W1,gf,
  #[.func (.yield (w.heap.size + 1)) #[] #[]] ++ lb,W1,?_,?_,fun _ _=>trivial,?_,(fun h=>by cases h),?_⟩
 ·rw [hW1,hrec];exact run_enterLoop_outer _ _ _ _ _
 ·simp only [resolve,hg]
  simp [go_sem]
 ·simp [invoke,go_sem,eg]
 ·refine (callsIn_wide.2 (hseq (w.heap.size + 1) (fun pre W=>I pre W ∧ W.heap[w.heap.size + 1]? = some (.loop (rec .ready none)) ∧ W.heap[w.heap.size]? = some (.deferred (some [])))
   W1 (by omega) hb1 (fun s U V h hg'=>⟨hI1 _ _ _ h.1 hg',(hg'.block _ (blk_lt h.2.1) (by simp)).trans h.2.1,(hg'.block _ (blk_lt h.2.2) (by simp)).trans h.2.2⟩)
   (fun s U V r h hsf hr hc hg'=>⟨hIc _ _ _ _ h.1 (by omega) hsf hc hg',(hg'.block _ (blk_lt h.2.1) (fun e=>by cases e;omega)).trans h.2.1,(hg'.block _ (blk_lt h.2.2) (fun e=>by cases e;omega)).trans h.2.2⟩)
   ?_ ⟨hI0,hL1,hD1⟩)).mono ?_
  ·rintro pre x W ⟨hi,hl,hk⟩ hpx
   have hy:=run_yield (P:=P) (args:=encs x) hl (by rw [hrec];exact hps x)
   rw [hrec] at hy
   refine ⟨fn,_,assign,body,hy,roundIn_of_wpIn hfn (hassign _ pre x W _ hi ?_)⟩
   clear hy
   intro a' Wa hkf hkr hax
   have hla:=hkf.same _ _ (by omega) hl rfl
   have hka:=hkf.same _ _ (Nat.le_refl _) hk rfl
   refine ⟨_,run_beginRound hla (by rw [hrec]),?_⟩
   obtain ⟨Wb,hWb⟩ : ∃ Wb,Wb = Wa.putObj (w.heap.size + 1) (.loop { rec .ready none with state:=.busy }):=⟨_,rfl⟩
   have hlb : Wb.heap[w.heap.size + 1]? = some (.loop { rec .ready none with state:=.busy }):=by rw [hWb];exact World.putObj_heap_same (blk_lt hla)
   have hkb : Wb.heap[w.heap.size]? = some (.deferred (some [])):=by rw [hWb];exact (World.putObj_heap_other (by omega)).trans hka
   have hrb : KeepR X ob Wa Wb:=by rw [hWb];exact KeepR.put hla rfl (hn (by omega))
   have haxb : Ax pre x a' Wb:=by rw [hWb];exact hAx _ _ _ _ _ _ hax (by omega) ⟨_,hla,rfl⟩ (grownBy_putObj' _ _ _)
   rw [← hWb]
   refine wpIn_mono (hbody _ pre x a' Wb haxb hpx) ?_
   rintro e a3 W3 hp
   cases e with
   | normal =>
    obtain ⟨hk3,hr3,hi3⟩:=hp
    have hl3:=hk3.same _ _ (by omega) hlb rfl
    have he:=run_endRound (P:=P) none hl3
    rw [hrec] at he hl3
    refine ⟨_,_,he,rfl,⟨hput _ hi3 (by omega) hl3 rfl,?_,?_⟩,hkr.trans (hrb.trans (hr3.trans (KeepR.put hl3 rfl (hn (by omega)))))⟩
    ·rw [hrec];exact World.putObj_heap_same (blk_lt hl3)
    ·exact (World.putObj_heap_other (by omega)).trans (hk3.same _ _ (Nat.le_refl _) hkb rfl)
   | _=>exact hp.elim
  ·rintro e W2 ⟨⟨v,rfl⟩,hi,hl,hk⟩
   refine ⟨none,_,by have:=run_endLoop (P:=P) hl (by rw [hrec];simp);rw [hrec] at this;exact this,hdone _ _ (Nat.le_refl _) (hput _ hi (by omega) hl rfl) ((World.putObj_heap_other (by omega)).trans hk)⟩
section
variable {P : Program} {ops : Array Oper} {Q : Exit → Act → World → Prop} {o : Oper} {rest : List Oper} {N : Nat} {D : List Deferred} {a : Act} {L : List (Nat × Value)} {w w' : World} {v : Value} {n : Nat}
theorem calls_hasW {fn : Func} {R : Ending → World → Prop} {f : FuncId} {c : Code} {args : List Value} {w : World} (N : Nat) (hf : P.funcs[f]? = some fn) (hb : fn.body = some c) (hN : fn.ntmps = N) (hle : args.length ≤ N)
  (h : ∀ a,Has N [] a (argL 0 args) → c.wpIn Fence.wide 9 P (bodyPost P fn R) a w) : Calls P f args.toArray w R:=
 calls_has N hf hb hN hle fun a F=>wpIn_wide.1 (h a F)
theorem si_new (F : Has N D a L) {d : Nat} (hd : o.dst = some d) (hN : d < N) (hw : Region.wanted o (yielded ops a.tmps) = true) (hr : (execOp a.eval o).run P w = .ok (.value v) w') (h : ∀ a2 w2,Has N D a2 ((d,v) :: L) → w2 = w' → wpListIn Fence.wide n P ops Q rest a2 w2) : wpListIn Fence.wide n P ops Q (o :: rest) a w:=by
 unfold wpListIn
 simp only [hw,if_true]
 refine ⟨fun _ _=>trivial,?_⟩
 rw [show Fence.wide.round = none from rfl,Oper.semAt_none,hr,Oper.uponIn_value,hd]
 exact h _ _ (F.put hN v) rfl
theorem si_val (F : Has N D a L) {d : Nat} (hd : o.dst = some d) (hN : d < N) (hw : Region.wanted o (yielded ops a.tmps) = true) (hr : (execOp a.eval o).run P w = .ok (.value v) w) (h : ∀ a2,Has N D a2 ((d,v) :: L) → wpListIn Fence.wide n P ops Q rest a2 w) : wpListIn Fence.wide n P ops Q (o :: rest) a w:=
 si_new F hd hN hw hr fun a2 w2 F2 e=>by subst e;exact h a2 F2
theorem si_no (F : Has N D a L) {d : Nat} (hd : o.dst = some d) (hN : d < N) (hw : Region.wanted o (yielded ops a.tmps) = false) (h : ∀ a2,Has N D a2 ((d,undef) :: L) → wpListIn Fence.wide n P ops Q rest a2 w) : wpListIn Fence.wide n P ops Q (o :: rest) a w:=by
 unfold wpListIn
 simp only [hw,Bool.false_eq_true,if_false,hd]
 exact ⟨fun _ _=>trivial,h _ (F.put hN undef)⟩
theorem si_yield (F : Has N D a L) {d : Nat} {l : Nat} {f : FuncId} {tmps : Array Value} {assign body : Code} {R : Ending → World → Prop} (hd : o.dst = some d) (hN : d < N) (hw : Region.wanted o (yielded ops a.tmps) = true) (hr : (execOp a.eval o).run P w = .ok (.round l f tmps assign body) w) (hc : RoundIn Fence.wide 0 P l f tmps assign body w R)
  (h : ∀ e w',R e w' → ∃ v,e = .returned v ∧ ∀ a2,Has N D a2 ((d,v) :: L) → wpListIn Fence.wide n P ops Q rest a2 w') : wpListIn Fence.wide n P ops Q (o :: rest) a w:=by
 unfold wpListIn
 simp only [hw,if_true]
 refine ⟨fun _ _=>trivial,?_⟩
 rw [show Fence.wide.round = none from rfl,Oper.semAt_none,hr,Oper.uponIn_round]
 refine ⟨(fun h=>by cases h),RoundIn.mono (wide_round hc) fun e w' hR=>?_⟩
 obtain ⟨v,rfl,h1⟩:=h e w' hR
 show wpListIn _ _ _ _ _ _ _ _
 rw [hd]
 exact h1 _ (F.put hN v)
theorem Has.vlW (F : Has N D a L) {d : Nat} (hr : (execOp a.eval o).run P w = .ok (.value v) w) (h : ∀ a2,Has N D a2 ((d,v) :: L) → wpListIn Fence.wide n P ops Q rest a2 w) (hd : o.dst = some d:=by rfl) (hN : d < N:=by decide) (hw : Region.wanted o (yielded ops a.tmps) = true:=by rfl) : wpListIn Fence.wide n P ops Q (o :: rest) a w:=
 si_val F hd hN hw hr h
theorem Has.mvW (F : Has N D a L) {d k : Nat} (h : ∀ a2,Has N D a2 ((d,v) :: L) → wpListIn Fence.wide n P ops Q rest a2 w) (ho : o.op = .move (.tmp k):=by rfl) (hl : L.lookup k = some v:=by rfl) (hd : o.dst = some d:=by rfl) (hN : d < N:=by decide) (hw : Region.wanted o (yielded ops a.tmps) = true:=by rfl) : wpListIn Fence.wide n P ops Q (o :: rest) a w:=
 si_val F hd hN hw (R_move ho (F.at hl)) h
theorem Has.asW (F : Has N D a L) {d k : Nat} (h : ∀ a2,Has N D a2 ((d,v) :: L) → wpListIn Fence.wide n P ops Q rest a2 w) (ho : o.op = .assign (.tmp k):=by rfl) (hl : L.lookup k = some v:=by rfl) (hd : o.dst = some d:=by rfl) (hN : d < N:=by decide) (hw : Region.wanted o (yielded ops a.tmps) = true:=by rfl) : wpListIn Fence.wide n P ops Q (o :: rest) a w:=
 si_val F hd hN hw (R_assign ho (F.at hl)) h
theorem R_yield {ρ : Operand → Value} {x : Operand} {l : Nat} {xs : List Operand} {ts : Array TypeId} {vs : List Value} {f : FuncId} {tmps : Array Value} {assign body : Code} (ho : o.op = .call { callee:=.value x,args:=xs.toArray,argTypes:=ts }) (hf : ρ x = .func (.yield l) #[] #[]) (ha : xs.map ρ = vs) (hy : (Instr.yield l vs.toArray).run P w = .ok (.round l f tmps assign body) w) : (execOp ρ o).run P w = .ok (.round l f tmps assign body) w:=by
 subst ha
 unfold execOp
 simp [ho,resolve,hf,invoke,go_sem,hy]
end
def frL : Nat → Nat → List Int → List (List Int)
 | 0,left,p=>if left = 6 then [] else [p]
 | more + 1,left,p=>(List.range (left + 1)).flatMap fun n=>frL more (left - n) (p ++ [(n : Int)])
def recL (nd : Nat) : List (List Int):=frL nd 6 []
def Agr (nd : Nat) (g : Nat → Int) (p : List Int) : Prop:=(∀ j,j < p.length → g j = val p j) ∧ ∀ j,nd ≤ j → g j = 0
theorem Agr.tub {nd : Nat} {g : Nat → Int} {p : List Int} (h : Agr nd g p) (hp : p.length = nd) : tubC g = tubC (val p):=by
 refine tub_congr fun k hk=>?_
 by_cases e : k < p.length
 ·exact h.1 k e
 ·rw [h.2 k (by omega),val,List.getD_eq_getElem?_getD,List.getElem?_eq_none (by omega)];rfl
theorem Agr.step {nd : Nat} {g : Nat → Int} {p : List Int} (h : Agr nd g p) (hp : p.length < nd) (n : Int) : Agr nd (upF g p.length n) (p ++ [n]):=by
 refine ⟨fun j hj=>?_,fun j hj=>?_⟩
 ·simp only [List.length_append,List.length_singleton] at hj
  by_cases e : j = p.length
  ·subst e;simp [upF,val]
  ·rw [upF,if_neg e,h.1 j (by omega)];simp [val,List.getElem?_append_left (show j < p.length by omega)]
 ·rw [upF,if_neg (by omega),h.2 j hj]
theorem Agr.back {nd : Nat} {g : Nat → Int} {p : List Int} {n : Int} (h : Agr nd g (p ++ [n])) : Agr nd g p:=by
 refine ⟨fun j hj=>?_,h.2⟩
 rw [h.1 j (by simp;omega)]
 simp [val,List.getElem?_append_left hj]
theorem flat_succ {α : Type} (f : Nat → List α) (k : Nat) : (List.range (k + 1)).flatMap f = (List.range k).flatMap f ++ f k:=by
 rw [List.range_succ,List.flatMap_append];simp
theorem flat_prefix {α : Type} (f : Nat → List α) {k n : Nat} (h : k ≤ n) : (List.range k).flatMap f <+: (List.range n).flatMap f:=by
 obtain ⟨d,rfl⟩:=Nat.exists_eq_add_of_le h
 induction d with
 | zero=>exact List.prefix_refl _
 | succ d ih=>exact (ih (by omega)).trans ⟨f (k + d),by rw [← flat_succ];rfl⟩
structure ItB (x : Vm) (X : List Nat) (ob nb yb tb gb l : Nat) (g : Nat → Int) (W : World) : Prop where
 hn : W.heap[nb]? = some (.cells #[.int .i64 x.B,.slice x.da x.D.length x.dc,.slice x.la x.L.length x.lc,.int .i64 x.tol] 69 (0,0))
 hy : W.heap[yb]? = some (.cells #[.func (.yield l) #[] #[]] 122 (0,0))
 ht : W.heap[tb]? = some (.cells (tubC g) 75 (0,0))
 hg : W.heap[gb]? = some (.cells #[.func (.func 86) #[] #[.pointer (some ⟨nb,0,none⟩),.pointer (some ⟨yb,0,none⟩),.pointer (some ⟨tb,0,none⟩),.pointer (some ⟨gb,0,none⟩)]] 123 (0,0))
 sn : Safe X ob nb W
 sy : Safe X ob yb W
 st : Safe X ob tb W
 sg : Safe X ob gb W
theorem ItB.keep {x : Vm} {X : List Nat} {ob nb yb tb gb l : Nat} {g : Nat → Int} {W W' : World} (h : ItB x X ob nb yb tb gb l g W) (k : KeepR X ob W W') : ItB x X ob nb yb tb gb l g W':=
 ⟨k.cells _ _ _ _ h.hn h.sn,k.cells _ _ _ _ h.hy h.sy,k.cells _ _ _ _ h.ht h.st,k.cells _ _ _ _ h.hg h.sg,h.sn.keep (blk_lt h.hn) k,h.sy.keep (blk_lt h.hy) k,h.st.keep (blk_lt h.ht) k,h.sg.keep (blk_lt h.hg) k⟩
section
variable (x : Vm) (hd4 : x.D.length ≤ 4) (X : List Nat) (ob nb yb tb gb l B0 : Nat) (J : List (List Int) → World → Prop) (xs : List (List Int))
set_option maxRecDepth 100000 in
theorem from_end (hY : ∀ pre q V,J pre V → pre ++ [q] <+: xs → YieldAt Fence.wide 0 Tryz.prog l #[.agg (tubC (val q))] V fun e V'=>e = .returned (.bool true) ∧ J (pre ++ [q]) V' ∧ KeepR X ob V V')
  (left : Nat) (hl : left ≤ 6) (p : List Int) (hp : p.length = x.D.length) (g : Nat → Int) (hag : Agr x.D.length g p) (pre : List (List Int)) (W : World) (hJ : J pre W) (hx : pre ++ frL 0 left p <+: xs) (hb : ItB x X ob nb yb tb gb l g W) :
  Calls Tryz.prog 86 #[.int .i64 ((p.length : Nat) : Int),.int .i64 ((left : Nat) : Int),.pointer (some ⟨nb,0,none⟩),.pointer (some ⟨yb,0,none⟩),.pointer (some ⟨tb,0,none⟩),.pointer (some ⟨gb,0,none⟩)] W fun e W'=>e = .returned (.bool true) ∧ J (pre ++ frL 0 left p) W' ∧ ∃ g',Agr x.D.length g' p ∧ ItB x X ob nb yb tb gb l g' W':=by
 have HY:=Lib.hid hY
 obtain ⟨q2,q3,q4,q5,sn,sy,st,sg⟩:=hb
 rw [hag.tub hp] at q4
 by_cases h6 : left = 6
 ·have hfr : frL 0 left p = []:=by rw [frL,if_pos h6]
  rw [hfr] at hx ⊢
  rw [List.append_nil]
  clear hY
  refine calls_hasW 40 Tryz.func86 rfl Tryz.ntmps86 (Nat.le_of_ble_eq_true rfl) ?_
  intro fa F
  refine wpIn_seq_k fun K1 hK1=>?_
  refine wpIn_region_lit ?_
  refine F.vlW (R_assign rfl (ev_c fa _)) ?_;clear F fa;intro fa F
  refine wpListIn_nil ?_
  refine hK1 _ _ ?_
  clear hK1
  refine wpIn_seq_k fun K2 hK2=>?_
  refine wpIn_seq_k fun K3 hK3=>?_
  refine wpIn_region_lit ?_
  refine F.mvW ?_;clear F fa;intro fa F
  refine F.vlW (R_field rfl (F.at rfl) Tryz.underlying69 rfl (n:=0) (sz:=4) rfl (by kernel_rfl) (by decide)) ?_;clear F fa;intro fa F
  refine F.vlW (R_field rfl (F.at rfl) Tryz.underlying24 rfl (n:=1) (sz:=1) rfl (by kernel_rfl) (by decide)) ?_;clear F fa;intro fa F
  refine F.vlW (R_load rfl (F.at rfl) Tryz.underlying22 rfl ((cells_of_block q2 1).trans (getS (get0)))) ?_;clear F fa;intro fa F
  refine F.vlW (R_len rfl rfl (F.at rfl) Tryz.underlying22) ?_;clear F fa;intro fa F
  refine F.vlW (R_eqlD rfl (F.at rfl) (F.at rfl)) ?_;clear F fa;intro fa F
  refine wpListIn_nil ?_
  refine hK3 _ _ ?_
  clear hK3
  refine cdI_Tb F rfl (decide_eq_true (by omega)) ?_
  refine wpIn_seq_k fun K4 hK4=>?_
  refine wpIn_region_lit ?_
  refine F.mvW ?_;clear F fa;intro fa F
  refine F.vlW (R_eqlB (b:=true) rfl (F.at rfl) (ev_c fa _) (decide_eq_true ((by omega)))) ?_;clear F fa;intro fa F
  refine F.mvW ?_;clear F fa;intro fa F
  refine si_no F rfl (by decide) (wantF F rfl rfl (by decide) rfl (by decide)) ?_;clear F fa;intro fa F
  refine si_no F rfl (by decide) (wantF F rfl rfl (by decide) rfl (by decide)) ?_;clear F fa;intro fa F
  refine si_no F rfl (by decide) (wantF F rfl rfl (by decide) rfl (by decide)) ?_;clear F fa;intro fa F
  refine F.vlW (R_pickT rfl (F.at rfl) (ev_c fa _)) ?_;clear F fa;intro fa F
  refine F.asW ?_;clear F fa;intro fa F
  refine wpListIn_nil ?_
  refine hK4 _ _ ?_
  clear hK4
  refine wpIn_ret ?_
  (try simp only [Exit.inBlock,Exit.then,reduceIte])
  refine rt_v F (rs_1 F rfl rfl) ?_
  exact ⟨rfl,hJ,_,⟨fun j hj=>rfl,fun j hj=>(by rw [val,List.getD_eq_getElem?_getD,List.getElem?_eq_none (by omega)];rfl)⟩,q2,q3,q4,q5,sn,sy,st,sg⟩
 ·have hfr : frL 0 left p = [p]:=by rw [frL,if_neg h6]
  rw [hfr] at hx ⊢
  clear hY
  refine calls_hasW 40 Tryz.func86 rfl Tryz.ntmps86 (Nat.le_of_ble_eq_true rfl) ?_
  intro fa F
  refine wpIn_seq_k fun K1 hK1=>?_
  refine wpIn_region_lit ?_
  refine F.vlW (R_assign rfl (ev_c fa _)) ?_;clear F fa;intro fa F
  refine wpListIn_nil ?_
  refine hK1 _ _ ?_
  clear hK1
  refine wpIn_seq_k fun K2 hK2=>?_
  refine wpIn_seq_k fun K3 hK3=>?_
  refine wpIn_region_lit ?_
  refine F.mvW ?_;clear F fa;intro fa F
  refine F.vlW (R_field rfl (F.at rfl) Tryz.underlying69 rfl (n:=0) (sz:=4) rfl (by kernel_rfl) (by decide)) ?_;clear F fa;intro fa F
  refine F.vlW (R_field rfl (F.at rfl) Tryz.underlying24 rfl (n:=1) (sz:=1) rfl (by kernel_rfl) (by decide)) ?_;clear F fa;intro fa F
  refine F.vlW (R_load rfl (F.at rfl) Tryz.underlying22 rfl ((cells_of_block q2 1).trans (getS (get0)))) ?_;clear F fa;intro fa F
  refine F.vlW (R_len rfl rfl (F.at rfl) Tryz.underlying22) ?_;clear F fa;intro fa F
  refine F.vlW (R_eqlD rfl (F.at rfl) (F.at rfl)) ?_;clear F fa;intro fa F
  refine wpListIn_nil ?_
  refine hK3 _ _ ?_
  clear hK3
  refine cdI_Tb F rfl (decide_eq_true (by omega)) ?_
  refine wpIn_seq_k fun K4 hK4=>?_
  refine wpIn_region_lit ?_
  refine F.mvW ?_;clear F fa;intro fa F
  refine F.vlW (R_eqlB (b:=false) rfl (F.at rfl) (ev_c fa _) (decide_eq_false ((by omega)))) ?_;clear F fa;intro fa F
  refine F.mvW ?_;clear F fa;intro fa F
  refine F.vlW (R_load rfl (F.at rfl) Tryz.underlying122 rfl ((cells_of_block q3 0).trans (get0))) ?_ (hw:=(wantT F rfl rfl (by decide) rfl));clear F fa;intro fa F
  refine F.vlW (R_loadBlk rfl (F.at rfl) Tryz.underlying75 rfl (by kernel_rfl) q4) ?_ (hw:=(wantT F rfl rfl (by decide) rfl));clear F fa;intro fa F
  obtain ⟨fn,tmps,assign,body,hyy,hR0⟩:=HY.out pre p W hJ hx
  refine si_yield F rfl (by decide) (wantT F rfl rfl (by decide) rfl) (R_yield rfl (F.at rfl) (mpS (F.at rfl) mp0) hyy) (hR0) fun e w1 hR=>?_
  obtain ⟨rfl,hJ,hk⟩:=hR
  refine ⟨_,rfl,?_⟩;clear F fa;intro fa F
  refine F.vlW (R_pickF rfl (F.at rfl) (F.at rfl)) ?_;clear F fa;intro fa F
  refine F.asW ?_;clear F fa;intro fa F
  refine wpListIn_nil ?_
  refine hK4 _ _ ?_
  clear hK4
  refine wpIn_ret ?_
  (try simp only [Exit.inBlock,Exit.then,reduceIte])
  refine rt_v F (rs_1 F rfl rfl) ?_
  have hb2:=ItB.keep ⟨q2,q3,q4,q5,sn,sy,st,sg⟩ hk
  exact ⟨rfl,hJ,_,⟨fun j hj=>rfl,fun j hj=>(by rw [val,List.getD_eq_getElem?_getD,List.getElem?_eq_none (by omega)];rfl)⟩,hb2⟩
theorem grown_cell {w w2 : World} {b o : Nat} {v : Value} (e : w2 = w.setCell ⟨b,o,none⟩ v) : w.grownBy w2 (some b):=by
 rw [e]
 exact ⟨rfl,rfl,rfl,(KeepsWalks.setCell w _ v).size,fun k _ hk=>Below.heap_setCell _ _ _ k (fun e=>hk (by rw [e]))⟩
theorem heap_other {w w2 : World} {b o k : Nat} {v : Value} (e : w2 = w.setCell ⟨b,o,none⟩ v) (h : k ≠ b) : w2.heap[k]? = w.heap[k]?:=by
 rw [e];exact Below.heap_setCell _ _ _ k h
set_option maxRecDepth 100000 in
set_option maxHeartbeats 1000000 in
include hd4 in
theorem from_step (hB0 : B0 ≤ tb) (hnt : nb ≠ tb) (hyt : yb ≠ tb) (hgt : gb ≠ tb)
  (HJ : Hid (∀ s U V r,J s U → Safe X ob r U → B0 ≤ r → (∃ o : Obj,U.heap[r]? = some o ∧ o.isCells = true) → U.grownBy V (some r) → J s V))
  (more : Nat) (IH : Hid (∀ (left : Nat),left ≤ 6 → ∀ (p : List Int),p.length + more = x.D.length → ∀ (g : Nat → Int),Agr x.D.length g p → ∀ (pre : List (List Int)) (W : World),J pre W → pre ++ frL more left p <+: xs → ItB x X ob nb yb tb gb l g W →
   Calls Tryz.prog 86 #[.int .i64 ((p.length : Nat) : Int),.int .i64 ((left : Nat) : Int),.pointer (some ⟨nb,0,none⟩),.pointer (some ⟨yb,0,none⟩),.pointer (some ⟨tb,0,none⟩),.pointer (some ⟨gb,0,none⟩)] W fun e W'=>e = .returned (.bool true) ∧ J (pre ++ frL more left p) W' ∧ ∃ g',Agr x.D.length g' p ∧ ItB x X ob nb yb tb gb l g' W'))
  (left : Nat) (hl : left ≤ 6) (p : List Int) (hp : p.length + (more + 1) = x.D.length) (g : Nat → Int) (hag : Agr x.D.length g p) (pre : List (List Int)) (W : World) (hJ : J pre W) (hx : pre ++ frL (more + 1) left p <+: xs) (hb : ItB x X ob nb yb tb gb l g W) :
  Calls Tryz.prog 86 #[.int .i64 ((p.length : Nat) : Int),.int .i64 ((left : Nat) : Int),.pointer (some ⟨nb,0,none⟩),.pointer (some ⟨yb,0,none⟩),.pointer (some ⟨tb,0,none⟩),.pointer (some ⟨gb,0,none⟩)] W fun e W'=>e = .returned (.bool true) ∧ J (pre ++ frL (more + 1) left p) W' ∧ ∃ g',Agr x.D.length g' p ∧ ItB x X ob nb yb tb gb l g' W':=by
 obtain ⟨q2,q3,q4,q5,sn,sy,st,sg⟩:=hb
 have hsto:=st.2.1
 obtain ⟨fs,hfs⟩ : ∃ fs : Nat → List (List Int),fs = fun n=>frL more (left - n) (p ++ [(n : Int)]):=⟨_,rfl⟩
 have hfr : frL (more + 1) left p = (List.range (left + 1)).flatMap fs:=by rw [hfs];rfl
 rw [hfr] at hx ⊢
 have hJ : J (pre ++ (List.range 0).flatMap fs) W:=by simpa using hJ
 have HX:=Lib.hid hx
 clear hfr hx
 refine calls_has 40 Tryz.func86 rfl Tryz.ntmps86 (Nat.le_of_ble_eq_true rfl) ?_
 intro fa F
 refine wp_seq_k fun K1 hK1=>?_
 refine wp_region_lit ?_
 refine F.vl (R_assign rfl (ev_c fa _)) ?_;clear F fa;intro fa F
 refine wpList_nil ?_
 refine hK1 _ _ ?_
 clear hK1
 refine wp_seq_k fun K2 hK2=>?_
 refine wp_seq_k fun K3 hK3=>?_
 refine wp_region_lit ?_
 refine F.mv ?_;clear F fa;intro fa F
 refine F.vl (R_field rfl (F.at rfl) Tryz.underlying69 rfl (n:=0) (sz:=4) rfl (by kernel_rfl) (by decide)) ?_;clear F fa;intro fa F
 refine F.vl (R_field rfl (F.at rfl) Tryz.underlying24 rfl (n:=1) (sz:=1) rfl (by kernel_rfl) (by decide)) ?_;clear F fa;intro fa F
 refine F.vl (R_load rfl (F.at rfl) Tryz.underlying22 rfl ((cells_of_block q2 1).trans (getS (get0)))) ?_;clear F fa;intro fa F
 refine F.vl (R_len rfl rfl (F.at rfl) Tryz.underlying22) ?_;clear F fa;intro fa F
 refine F.vl (R_eqlD rfl (F.at rfl) (F.at rfl)) ?_;clear F fa;intro fa F
 refine wpList_nil ?_
 refine hK3 _ _ ?_
 clear hK3
 refine cd_Fb F rfl (decide_eq_false (by omega)) ?_
 refine wp_skip ?_
 refine hK2 _ _ ?_
 clear hK2
 refine wp_seq_k fun K4 hK4=>?_
 refine wp_seq_k fun K5 hK5=>?_
 refine wp_region_lit ?_
 refine F.mv ?_;clear F fa;intro fa F
 refine F.vl (R_add rfl (F.at rfl) (ev_c fa _) (by omega) (by omega)) ?_;clear F fa;intro fa F
 refine F.vl (R_move rfl (ev_c fa _)) ?_;clear F fa;intro fa F
 refine wpList_nil ?_
 refine hK5 _ _ ?_
 clear hK5
 refine wp_block ?_
 have F0:=F.sub (.c 0 rfl (.c 1 rfl (.c 4 rfl (.c 5 rfl (.c 24 rfl .n)))))
 refine lp_for F0 (left + 1) (fun i Lv W=>∃ g : Nat → Int,Lv = [(25,.int .i64 ((i : Nat) : Int))] ∧ W.heap[nb]? = some (.cells #[.int .i64 x.B,.slice x.da x.D.length x.dc,.slice x.la x.L.length x.lc,.int .i64 x.tol] 69 (0,0)) ∧ W.heap[yb]? = some (.cells #[.func (.yield l) #[] #[]] 122 (0,0)) ∧ W.heap[tb]? = some (.cells (tubC g) 75 (0,0)) ∧ W.heap[gb]? = some (.cells #[.func (.func 86) #[] #[.pointer (some ⟨nb,0,none⟩),.pointer (some ⟨yb,0,none⟩),.pointer (some ⟨tb,0,none⟩),.pointer (some ⟨gb,0,none⟩)]] 123 (0,0)) ∧ Agr x.D.length g p ∧ J (pre ++ (List.range i).flatMap fs) W ∧ Safe X ob nb W ∧ Safe X ob yb W ∧ Safe X ob tb W ∧ Safe X ob gb W) ⟨_,⟨g,rfl,q2,q3,q4,q5,hag,hJ,sn,sy,st,sg⟩,F.sub (.c 25 rfl (.c 0 rfl (.c 1 rfl (.c 4 rfl (.c 5 rfl (.c 24 rfl .n))))))⟩ ?_
 clear F F0
 clear q2 q3 q4 q5
 rintro i _ fa w1 hi1 ⟨g,rfl,q2,q3,q4,q5,hag,hJ,sn,sy,st,sg⟩ F
 refine wp_seq_k fun K6 hK6=>?_
 refine wp_region_lit ?_
 refine F.vl (R_lss rfl (F.at rfl) (F.at rfl)) ?_;clear F fa;intro fa F
 refine wpList_nil ?_
 refine hK6 _ _ ?_
 clear hK6
 refine wp_seq_k fun K7 hK7=>?_
 refine cd_if F rfl (fun hc26=>?_) (fun hc26=>?_)
 ·skip
  refine wp_skip ?_
  refine hK7 _ _ ?_
  clear hK7
  refine wp_seq_k fun K8 hK8=>?_
  refine wp_block ?_
  refine wp_seq_k fun K9 hK9=>?_
  refine wp_region_lit ?_
  refine F.mv ?_;clear F fa;intro fa F
  refine F.as ?_;clear F fa;intro fa F
  refine wpList_nil ?_
  refine hK9 _ _ ?_
  clear hK9
  refine wp_seq_k fun K10 hK10=>?_
  refine wp_region_lit ?_
  refine F.mv ?_;clear F fa;intro fa F
  refine F.mv ?_;clear F fa;intro fa F
  refine F.vl (R_ixArr (n:=4) (sz:=1) rfl (F.at rfl) (F.at rfl) Tryz.underlying75 (by kernel_rfl) (by omega) (by omega)) ?_;clear F fa;intro fa F
  refine sq_to rfl rfl (R_store rfl (F.at rfl) (F.at rfl) rfl (by kernel_rfl) (tub_at q4 (k:=p.length) rfl (by omega)) (free_of_block q4 _)) ?_;intro w2 hw
  have hJ2:=HJ.out _ _ _ tb hJ st hB0 ⟨_,q4,rfl⟩ (grown_cell hw)
  have ho:=heap_other (k:=ob) hw (Ne.symm hsto)
  replace sn:=sn.same ho
  replace sy:=sy.same ho
  replace st:=st.same ho
  replace sg:=sg.same ho
  replace q2:=keep_cell hw q2 (by omega)
  replace q3:=keep_cell hw q3 (by omega)
  replace q4:=put_tub hw q4 (k:=p.length) rfl (by omega)
  replace q5:=keep_cell hw q5 (by omega)
  clear hw
  refine wpList_nil ?_
  have hag2:=hag.step (by omega) ((i : Nat) : Int)
  refine hK10 _ _ ?_
  clear hK10
  refine wp_seq_k fun K11 hK11=>?_
  refine wp_region_lit ?_
  refine F.vl (R_load rfl (F.at rfl) Tryz.underlying123 rfl ((cells_of_block q5 0).trans (get0))) ?_;clear F fa;intro fa F
  refine F.mv ?_;clear F fa;intro fa F
  refine F.vl (R_add rfl (F.at rfl) (ev_c fa _) (by omega) (by omega)) ?_;clear F fa;intro fa F
  refine F.mv ?_;clear F fa;intro fa F
  refine F.mv ?_;clear F fa;intro fa F
  refine F.vl (R_sub rfl (F.at rfl) (F.at rfl) (by omega) (by omega)) ?_;clear F fa;intro fa F
  rw [show (((p.length : Nat) : Int) + 1) = (((p ++ [((i : Nat) : Int)]).length : Nat) : Int) by simp,show (((left : Nat) : Int) - ((i : Nat) : Int)) = ((left - i : Nat) : Int) by omega] at F
  have hpx : (pre ++ (List.range i).flatMap fs) ++ frL more (left - i) (p ++ [((i : Nat) : Int)]) <+: xs:=by refine List.IsPrefix.trans ?_ HX.out;rw [List.append_assoc,show frL more (left - i) (p ++ [((i : Nat) : Int)]) = fs i by rw [hfs],← flat_succ];exact (List.prefix_append_right_inj _).2 (flat_prefix fs (by omega))
  refine sq_call F rfl (by decide) rfl (R_callF rfl (F.at rfl) Tryz.call86 (mpS (F.at rfl) (mpS (F.at rfl) mp0)) (by simp)) (IH.out (left - i) (by omega) (p ++ [((i : Nat) : Int)]) (by simp only [List.length_append,List.length_singleton];omega) _ hag2 _ _ hJ2 hpx ⟨q2,q3,q4,q5,sn,sy,st,sg⟩) fun e w3 hR=>?_
  obtain ⟨rfl,hJ3,g2,hag3,q2,q3,q4,q5,sn,sy,st,sg⟩:=hR
  refine ⟨_,rfl,?_⟩;clear F fa;intro fa F
  refine F.vl (R_not rfl (F.at rfl)) ?_;clear F fa;intro fa F
  refine wpList_nil ?_
  replace hag3:=hag3.back
  have hJ4 : J (pre ++ (List.range (i + 1)).flatMap fs) w3:=by rw [flat_succ,← List.append_assoc,show fs i = frL more (left - i) (p ++ [((i : Nat) : Int)]) by rw [hfs]];exact hJ3
  refine hK11 _ _ ?_
  clear hK11
  refine cd_F F rfl ?_
  refine wp_skip ?_
  refine hK8 _ _ ?_
  clear hK8
  refine wp_region_lit ?_
  refine F.vl (R_add rfl (F.at rfl) (ev_c fa _) (by omega) (by omega)) ?_;clear F fa;intro fa F
  refine F.mv ?_;clear F fa;intro fa F
  refine wpList_nil ?_
  show _ ∧ _
  exact ⟨by omega,_,⟨g2,rfl,q2,q3,q4,q5,hag3,hJ4,sn,sy,st,sg⟩,F.sub (.c 25 rfl (.c 0 rfl (.c 1 rfl (.c 4 rfl (.c 5 rfl (.c 24 rfl .n))))))⟩
 ·skip
  refine wp_exit ?_
  refine hK4 _ _ ?_
  clear hK4
  refine wp_seq_k fun K12 hK12=>?_
  refine wp_region_lit ?_
  refine F.vl (R_assign rfl (ev_c fa _)) ?_;clear F fa;intro fa F
  refine wpList_nil ?_
  refine hK12 _ _ ?_
  clear hK12
  refine wp_ret ?_
  (try simp only [Exit.inBlock,Exit.then,reduceIte])
  refine rt_v F (rs_1 F rfl rfl) ?_
  have hi : i = left + 1:=(by omega)
  exact ⟨rfl,(by rw [← hi];exact hJ),g,hag,q2,q3,q4,q5,sn,sy,st,sg⟩
end
theorem grown_of_ext {W W' : World} (h : Ext [] W W') : W.grownBy W' none:=⟨h.os,h.tape,h.output,h.size,fun k hk _=>h.block k hk (by simp)⟩
theorem from_all (x : Vm) (hd4 : x.D.length ≤ 4) (X : List Nat) (ob nb yb tb gb l B0 : Nat) (J : List (List Int) → World → Prop) (xs : List (List Int)) (hB0 : B0 ≤ tb) (hnt : nb ≠ tb) (hyt : yb ≠ tb) (hgt : gb ≠ tb)
  (HJ : Hid (∀ s U V r,J s U → Safe X ob r U → B0 ≤ r → (∃ o : Obj,U.heap[r]? = some o ∧ o.isCells = true) → U.grownBy V (some r) → J s V))
  (hY : ∀ pre q V,J pre V → pre ++ [q] <+: xs → YieldAt Fence.wide 0 Tryz.prog l #[.agg (tubC (val q))] V fun e V'=>e = .returned (.bool true) ∧ J (pre ++ [q]) V' ∧ KeepR X ob V V') :
  ∀ (more left : Nat),left ≤ 6 → ∀ (p : List Int),p.length + more = x.D.length → ∀ (g : Nat → Int),Agr x.D.length g p → ∀ (pre : List (List Int)) (W : World),J pre W → pre ++ frL more left p <+: xs → ItB x X ob nb yb tb gb l g W →
   Calls Tryz.prog 86 #[.int .i64 ((p.length : Nat) : Int),.int .i64 ((left : Nat) : Int),.pointer (some ⟨nb,0,none⟩),.pointer (some ⟨yb,0,none⟩),.pointer (some ⟨tb,0,none⟩),.pointer (some ⟨gb,0,none⟩)] W fun e W'=>e = .returned (.bool true) ∧ J (pre ++ frL more left p) W' ∧ ∃ g',Agr x.D.length g' p ∧ ItB x X ob nb yb tb gb l g' W'
 | 0,left,hl,p,hp,g,hag,pre,W,hJ,hx,hb=>from_end x X ob nb yb tb gb l J xs hY left hl p (by omega) g hag pre W hJ hx hb
 | more + 1,left,hl,p,hp,g,hag,pre,W,hJ,hx,hb=>from_step x hd4 X ob nb yb tb gb l B0 J xs hB0 hnt hyt hgt HJ more (Lib.hid (from_all x hd4 X ob nb yb tb gb l B0 J xs hB0 hnt hyt hgt HJ hY more)) left hl p hp g hag pre W hJ hx hb
theorem rowOf_ext {ob : Nat} {w W : World} (e : W.heap[ob]? = w.heap[ob]?) : rowOf ob W = rowOf ob w:=by rw [rowOf,e];rfl
set_option maxRecDepth 100000 in
set_option maxHeartbeats 1000000 in
theorem recipes1_seq (x : Vm) (hd4 : x.D.length ≤ 4) (X : List Nat) (ob nb : Nat) (w : World) (hob : ob < w.heap.size) (hX : ∀ b ∈ X,b < w.heap.size) (hrow : ∀ r,rowOf ob w = some r → r < w.heap.size) (hs : Safe X ob nb w)
  (hn : w.heap[nb]? = some (.cells #[.int .i64 x.B,.slice x.da x.D.length x.dc,.slice x.la x.L.length x.lc,.int .i64 x.tol] 69 (0,0))) :
  SeqR Tryz.prog 85 #[.pointer (some ⟨nb,0,none⟩)] (fun q : List Int=>#[.agg (tubC (val q))]) X ob (recL x.D.length) w:=by
 intro l J W hWs hWw hJ1 hJ2 hY h0
 have HJ:=Lib.hid hJ2
 have HY:=Lib.hid hY
 have HJ1:=Lib.hid hJ1
 have q1 : W.heap[nb]? = some (.cells #[.int .i64 x.B,.slice x.da x.D.length x.dc,.slice x.la x.L.length x.lc,.int .i64 x.tol] 69 (0,0)):=(hWw nb (blk_lt hn)).trans hn
 have hnbl:=blk_lt hn
 have hobW:=hWw ob hob
 have HXX:=Lib.hid hX
 have HRW:=Lib.hid hrow
 show Calls _ _ #[.func (.yield l) #[] #[],.pointer (some ⟨nb,0,none⟩)] _ _
 have E : Ext [] W W:=Ext.refl _ _
 clear hJ1 hJ2 hY hn hX hrow
 refine calls_has 8 Tryz.func85 rfl Tryz.ntmps85 (Nat.le_of_ble_eq_true rfl) ?_
 intro fa F
 refine wp_seq_k fun K1 hK1=>?_
 refine wp_region_lit ?_
 refine sq_new F rfl (by decide) rfl (R_box rfl (F.at rfl)) ?_;clear F fa;intro fa w1 F hw
 obtain ⟨n2,hn⟩ : ∃ n,n = W.heap.size:=⟨_,rfl⟩
 rw [← hn] at F
 have s2 : W.heap.size ≤ n2:=Nat.le_of_eq hn.symm
 have l2_E : W.heap.size ≤ n2:=by rw [hn];exact E.size
 have m2_1 : nb < n2:=by rw [hn];exact blk_lt q1
 replace q1:=keep_alloc hw q1
 replace E:=ext_alloc E hw
 have q2:=new_one hw rfl hn
 clear hw hn
 refine wpList_nil ?_
 refine hK1 _ _ ?_
 clear hK1
 refine wp_seq_k fun K2 hK2=>?_
 refine wp_region_lit ?_
 refine sq_new F rfl (by decide) rfl (R_alloc rfl Tryz.zeroValue75) ?_;clear F fa;intro fa w2 F hw
 obtain ⟨n3,hn⟩ : ∃ n,n = w1.heap.size:=⟨_,rfl⟩
 rw [← hn] at F
 have s3 : w1.heap.size ≤ n3:=Nat.le_of_eq hn.symm
 have l3_E : W.heap.size ≤ n3:=by rw [hn];exact E.size
 have m3_1 : nb < n3:=by rw [hn];exact blk_lt q1
 have m3_2 : n2 < n3:=by rw [hn];exact blk_lt q2
 replace q1:=keep_alloc hw q1
 replace q2:=keep_alloc hw q2
 replace E:=ext_alloc E hw
 have q3:=new_row hw hn
 clear hw hn
 refine wpList_nil ?_
 replace q3 : w2.heap[n3]? = some (.cells (tubC zf) 75 (0,0)):=q3
 refine hK2 _ _ ?_
 clear hK2
 refine wp_seq_k fun K3 hK3=>?_
 refine wp_region_lit ?_
 refine sq_new F rfl (by decide) rfl (R_alloc rfl Tryz.zeroValue123) ?_;clear F fa;intro fa w3 F hw
 obtain ⟨n4,hn⟩ : ∃ n,n = w2.heap.size:=⟨_,rfl⟩
 rw [← hn] at F
 have s4 : w2.heap.size ≤ n4:=Nat.le_of_eq hn.symm
 have l4_E : W.heap.size ≤ n4:=by rw [hn];exact E.size
 have m4_1 : nb < n4:=by rw [hn];exact blk_lt q1
 have m4_2 : n2 < n4:=by rw [hn];exact blk_lt q2
 have m4_3 : n3 < n4:=by rw [hn];exact blk_lt q3
 replace q1:=keep_alloc hw q1
 replace q2:=keep_alloc hw q2
 replace q3:=keep_alloc hw q3
 replace E:=ext_alloc E hw
 have q4:=new_one hw rfl hn
 clear hw hn
 refine wpList_nil ?_
 refine hK3 _ _ ?_
 clear hK3
 refine wp_seq_k fun K4 hK4=>?_
 refine wp_region_lit ?_
 refine F.vl (R_makeFunc rfl (mapsN mp0) (mapsN (mpS (F.at rfl) (mpS (F.at rfl) (mpS (F.at rfl) (mpS (F.at rfl) mp0)))))) ?_;clear F fa;intro fa F
 refine sq_to rfl rfl (R_store rfl (F.at rfl) (F.at rfl) rfl (by kernel_rfl) ((cells_of_block q4 0).trans (get0)) (free_of_block q4 0)) ?_;intro w4 hw
 replace q1:=keep_cell hw q1 (by omega)
 replace q2:=keep_cell hw q2 (by omega)
 replace q3:=keep_cell hw q3 (by omega)
 replace q4:=put_cell hw q4 (by simp only [List.setIfInBounds_toArray,lsQ,lzQ];exact rfl)
 replace E:=ext_cell E hw (fun h=>by first | exact absurd h (by omega) | simp)
 clear hw
 refine wpList_nil ?_
 refine hK4 _ _ ?_
 clear hK4
 refine wp_region_lit ?_
 refine F.vl (R_load rfl (F.at rfl) Tryz.underlying123 rfl ((cells_of_block q4 0).trans (get0))) ?_;clear F fa;intro fa F
 have hrW : rowOf ob w4 = rowOf ob w:=rowOf_ext ((E.block ob (by omega) (by simp)).trans hobW)
 have hsf : ∀ k,w.heap.size ≤ k → Safe X ob k w4:=fun k hk=>⟨fun h=>(by have:=HXX.out k h;omega),(by omega),fun e=>(by have:=HRW.out k (hrW.symm.trans e);omega)⟩
 have hsn : Safe X ob nb w4:=hs.same ((E.block ob (by omega) (by simp)).trans hobW)
 have hJn:=HJ1.out [] W w4 h0 (grown_of_ext E)
 have hall:=from_all x hd4 X ob nb n2 n3 n4 l W.heap.size J (recL x.D.length) (by omega) (by omega) (by omega) (by omega) HJ HY.out x.D.length 6 (by omega) [] (by simp) zf ⟨fun j hj=>absurd hj (by simp),fun j _=>rfl⟩ [] w4 hJn (by exact List.prefix_refl _) ⟨q1,q2,q3,q4,hsn,hsf _ (by omega),hsf _ (by omega),hsf _ (by omega)⟩
 refine sq_call F rfl (by decide) rfl (R_callF rfl (F.at rfl) Tryz.call86 (mpS (ev_c fa _) (mpS (ev_c fa _) mp0)) (by simp)) (hall) fun e w5 hR=>?_
 obtain ⟨rfl,hJ3,g2,hag3,q1,q2,q3,q4,sn,sy,st,sg⟩:=hR
 refine ⟨_,rfl,?_⟩;clear F fa;intro fa F
 refine wpList_nil ?_
 (try simp only [Exit.inBlock,Exit.then,reduceIte])
 refine rt_vn F (rs_0 rfl) ?_
 exact ⟨⟨_,rfl⟩,hJ3⟩
theorem recipes_any (x : Vm) (w : World) : Calls Tryz.prog 54 #[.agg #[.int .i64 x.B,.slice x.da x.D.length x.dc,.slice x.la x.L.length x.lc,.int .i64 x.tol]] w fun e w'=>∃ nb,e = .returned (.func (.func 85) #[] #[.pointer (some ⟨nb,0,none⟩)]) ∧ w.heap.size ≤ nb ∧ w'.heap[nb]? = some (.cells #[.int .i64 x.B,.slice x.da x.D.length x.dc,.slice x.la x.L.length x.lc,.int .i64 x.tol] 69 (0,0)) ∧ Ext [] w w':=by
 have E : Ext [] w w:=Ext.refl _ _
 refine calls_has 4 Tryz.func54 rfl Tryz.ntmps54 (Nat.le_of_ble_eq_true rfl) ?_
 intro fa F
 refine wp_seq_k fun K1 hK1=>?_
 refine wp_region_lit ?_
 refine sq_new F rfl (by decide) rfl (R_box rfl (F.at rfl)) ?_;clear F fa;intro fa w1 F hw
 obtain ⟨n1,hn⟩ : ∃ n,n = w.heap.size:=⟨_,rfl⟩
 rw [← hn] at F
 have s1 : w.heap.size ≤ n1:=Nat.le_of_eq hn.symm
 have l1_E : w.heap.size ≤ n1:=by rw [hn];exact E.size
 replace E:=ext_alloc E hw
 have q1:=new_row hw hn
 clear hw hn
 refine F.vl (R_assign rfl (ev_c fa _)) ?_;clear F fa;intro fa F
 refine wpList_nil ?_
 refine hK1 _ _ ?_
 clear hK1
 refine wp_seq_k fun K2 hK2=>?_
 refine wp_region_lit ?_
 refine F.vl (R_makeFunc rfl (mapsN mp0) (mapsN (mpS (F.at rfl) mp0))) ?_;clear F fa;intro fa F
 refine F.as ?_;clear F fa;intro fa F
 refine wpList_nil ?_
 refine hK2 _ _ ?_
 clear hK2
 refine wp_ret ?_
 (try simp only [Exit.inBlock,Exit.then,reduceIte])
 refine rt_v F (rs_1 F rfl rfl) ?_
 exact ⟨n1,rfl,by omega,q1,E⟩
end Go.Proofs.YtdjeecgddbjbeaaGreat
namespace Go.Proofs.YtdjeecgddbjbeaaGreat
open Go.RowKit Go.Maps Go.WideMaps Go.ChangeShapes
theorem arrT : ArrKey Tryz.prog 75 3 4:=⟨Tryz.underlying75,by kernel_rfl,by kernel_rfl,by kernel_rfl⟩
theorem laidT : laidOutB Tryz.prog = true:=by kernel_rfl
theorem rowT : (75 : TypeId) < Tryz.prog.types.size:=of_decide_eq_true (by kernel_rfl)
theorem keyAtT : Tryz.prog.keyTypeAt 2 75 = true:=arrT.at 0
theorem lawT : KeyLaw Tryz.prog 75:=deep_law_laid (P:=Tryz.prog) (m:=2) (k:=75) laidT (by omega) rowT keyAtT (by rw [Tryz.underlying75])
theorem keyedT : Keyed Tryz.prog 75:=Keyed.of_law lawT
def klT (f : Nat → Int) : Lit:=.string (keyBytes [.int .i64 (f 0),.int .i64 (f 1),.int .i64 (f 2),.int .i64 (f 3)])
theorem keyOf_tub {f : Nat → Int} (hf : TubS f) : keyOf Tryz.prog 75 (.agg (tubC f)) = some (klT f):=by
 have hsz : ∃ m,Tryz.prog.types.size = m + 1:=by
  have h0 : 0 < Tryz.prog.types.size:=Nat.lt_of_le_of_lt (Nat.zero_le _) rowT
  revert h0
  generalize Tryz.prog.types.size = n
  intro h0
  exact ⟨n - 1,by omega⟩
 have hkt:=arrT.keyType hsz
 obtain ⟨m,hm⟩:=hsz
 have hw : ∀ k,k < 4 → (Lit.int .i64 (f k)).wf = true:=fun k hk=>by have:=hf k hk;exact WalkArith.wf_i64 (by omega)
 have h0:=hw 0 (by omega)
 have h1:=hw 1 (by omega)
 have h2:=hw 2 (by omega)
 have h3:=hw 3 (by omega)
 unfold keyOf
 simp only [arrT.hu]
 rw [if_pos (by simp [hkt,Value.formed,arrT.hu,arrT.size,tubC]),hm]
 unfold Program.keyLits
 simp only [arrT.hu,Value.cells]
 rw [if_pos (by rw [arrT.size];rfl),show List.range 4 = [0,1,2,3] from rfl,List.mapM_cons,List.mapM_cons,List.mapM_cons,List.mapM_cons,List.mapM_nil]
 simp [arrT.one,Program.keyLits,Tryz.underlying3,h0,h1,h2,h3,tubC,klT]
theorem klT_ne {f g : Nat → Int} (hf : TubS f) (hg : TubS g) {k : Nat} (hk : k < 4) (h : f k ≠ g k) : klT f ≠ klT g:=by
 intro e
 have h1:=keyedT.inj (keyOf_tub hf) (by rw [e];exact keyOf_tub hg)
 have h2 : tubC f = tubC g:=by simpa using h1
 have:=congrArg (fun a : Array Value=>a[k]?) h2
 have t1:=tub_ix (f:=f) (i:=(k : Int)) (k:=k) rfl hk
 have t2:=tub_ix (f:=g) (i:=(k : Int)) (k:=k) rfl hk
 rw [Int.toNat_natCast] at t1 t2
 simp only [t1,t2] at this
 exact h (by simpa using this)
theorem plainElem_bool_inv {H : Type} {P : Program} {e : TypeId} (he : P.underlying e = some .bool) {v : Value} {z : DataW H × List MemPlace} (h : plainElem P e v = some z) : ∃ b,v = .bool b ∧ z = (.lit (.bool b),[]):=by
 unfold plainElem at h
 cases v <;> simp [he] at h
 rename_i b
 exact ⟨b,rfl,by first | exact h.symm | (rw [← h])⟩
def MapT (w : World) (b : Nat) (out : List (List Int)) : Prop:=∃ D : DataW Unit,w.ownsMap Tryz.prog 75 (plainElem Tryz.prog 4) b out.length D ∧ ∀ f,TubS f → (∀ t ∈ out,∃ k,k < 4 ∧ f k ≠ val t k) → D.atKey (klT f) (.lit (.bool false)) = .lit (.bool false)
theorem MapT.kept {w w' : World} {b : Nat} {out : List (List Int)} {row : Option Nat} (h : MapT w b out) (hg : w.grownBy w' row) (hr : some b ≠ row) : MapT w' b out:=by
 obtain ⟨D,h1,h2⟩:=h
 exact ⟨D,h1.kept hg hr,h2⟩
theorem MapT.obj {w : World} {b : Nat} {out : List (List Int)} (h : MapT w b out) : ∃ es clock,w.heap[b]? = some (.map es clock):=by
 obtain ⟨D,⟨es,clock,hb,-⟩,-⟩:=h
 exact ⟨es,clock,hb⟩
theorem MapT.ne {w : World} {b c : Nat} {out : List (List Int)} (h : MapT w b out) {o : Obj} (H : w.heap[c]? = some o) (ho : ∀ es k,o ≠ .map es k) : b ≠ c:=by
 intro e
 obtain ⟨es,k,hb⟩:=h.obj
 subst e
 rw [H] at hb
 exact ho es k (by simpa using hb)
theorem map_alloc {w w2 : World} {o : Obj} {b : Nat} {out : List (List Int)} (e : w2 = w.alloc o) (h : MapT w b out) : MapT w2 b out:=by rw [e];exact h.kept (World.grownBy_alloc w o none) (by simp)
theorem map_cells {w w2 : World} {b c off : Nat} {l : List Value} {out : List (List Int)} {cs : Array Value} {T : TypeId} {fz : Nat × Nat} (e : w2 = w.setCells c off l) (h : MapT w b out) (H : w.heap[c]? = some (.cells cs T fz)) : MapT w2 b out:=by
 have hbc:=h.ne H (fun _ _ h=>by cases h)
 obtain ⟨D,⟨es,clock,hb,h3,h4,h5⟩,h2⟩:=h
 exact ⟨D,⟨es,clock,keep_cells e hb hbc,h3,h4,h5⟩,h2⟩
theorem map_cell {w w2 : World} {b c off : Nat} {v : Value} {out : List (List Int)} {cs : Array Value} {T : TypeId} {fz : Nat × Nat} (e : w2 = w.setCell ⟨c,off,none⟩ v) (h : MapT w b out) (H : w.heap[c]? = some (.cells cs T fz)) : MapT w2 b out:=by
 have hbc:=h.ne H (fun _ _ h=>by cases h)
 obtain ⟨D,⟨es,clock,hb,h3,h4,h5⟩,h2⟩:=h
 exact ⟨D,⟨es,clock,keep_cell e hb hbc,h3,h4,h5⟩,h2⟩
theorem map_ext {w w2 : World} {b : Nat} {out : List (List Int)} (h : MapT w b out) (e : Ext [] w w2) : MapT w2 b out:=h.kept (grown_of_ext e) (by simp)
theorem map_own {w w2 : World} {b base n size : Nat} {e : TypeId} {v : Value} {xs : List Value} {out : List (List Int)} (h : MapT w b out) (ho : w.ownsRow base e size v n xs) (hg : w.grownBy w2 v.ownBlock) : MapT w2 b out:=by
 refine h.kept hg ?_
 rcases ho.2 with ⟨rfl,_⟩ | ⟨g,cap,cur,rfl,_,hgb,_⟩
 ·simp [Value.ownBlock]
 ·intro e
  exact h.ne hgb (fun _ _ h=>by cases h) (by simpa [Value.ownBlock] using e)
theorem map_put {w w2 : World} {b D : Nat} {out : List (List Int)} {d : Option (List Deferred)} {o' : Obj} (e : w2 = w.putObj D o') (hD : w.heap[D]? = some (.deferred d)) (h : MapT w b out) : MapT w2 b out:=by
 rw [e]
 exact h.kept (grownBy_putObj' w D o') (fun e=>h.ne hD (fun _ _ h=>by cases h) (by simpa using e))
theorem map_made (w : World) : MapT (w.alloc (.map #[] 0)) w.heap.size []:=⟨.map [],World.ownsMap_made w _ _ _,fun f _ _=>rfl⟩
section
variable {ρ : Operand → Value} {o : Oper} {w : World}
theorem R_makeMap {P : Program} {t : TypeId} (ho : o.op = .makeMap t none) : (execOp ρ o).run P w = .ok (.value (.map (some w.heap.size))) (w.alloc (.map #[] 0)):=by
 unfold execOp
 simp [ho,run_makeMap,Result.andThen,go_sem]
theorem R_lookupT {x y : Operand} {b : Nat} {out : List (List Int)} {f : Nat → Int} (ho : o.op = .lookup 113 x y false) (hx : ρ x = .map (some b)) (hy : ρ y = .agg (tubC f)) (hf : TubS f) (h : MapT w b out) :
  ∃ c,(execOp ρ o).run Tryz.prog w = .ok (.value (.bool c)) w ∧ ((∀ t ∈ out,∃ k,k < 4 ∧ f k ≠ val t k) → c = false):=by
 obtain ⟨D,h1,h2⟩:=h
 obtain ⟨v,ps,hr,hv⟩:=h1.lookup keyedT Tryz.underlying113 (z:=.bool false) (zd:=.lit (.bool false)) (zp:=[]) (by kernel_rfl) (plainElem_bool Tryz.underlying4 false) (keyOf_tub hf)
 obtain ⟨c,rfl,hc⟩:=plainElem_bool_inv Tryz.underlying4 hv
 refine ⟨c,?_,fun hn=>?_⟩
 ·unfold execOp
  simp [ho,hx,hy,hr,Result.andThen,go_sem]
 ·have h3:=h2 f hf hn
  simp only [Prod.mk.injEq] at hc
  rw [h3] at hc
  simpa using hc.1.symm
theorem R_mapPutT {x y z : Operand} {b : Nat} {out : List (List Int)} {t : List Int} (ho : o.op = .mapUpdate 113 x y z) (hx : ρ x = .map (some b)) (hy : ρ y = .agg (tubC (val t))) (hz : ρ z = .bool true) (hf : TubS (val t)) (hl : out.length < 1000) (h : MapT w b out) :
  ∃ w',(execOp ρ o).run Tryz.prog w = .ok .skip w' ∧ MapT w' b (out ++ [t]) ∧ w.grownBy w' (some b):=by
 obtain ⟨D,h1,h2⟩:=h
 obtain ⟨w',hr,h3,h4⟩:=h1.update keyedT Tryz.underlying113 (by simp only [maxLen];omega) (keyOf_tub hf) (plainElem_bool Tryz.underlying4 true)
 refine ⟨w',?_,⟨_,by rw [List.length_append];exact h3,fun f hff hn=>?_⟩,h4⟩
 ·unfold execOp
  simp [ho,hx,hy,hz,hr,Result.andThen,go_sem]
 ·obtain ⟨k,hk,hne⟩:=hn t (by simp)
  rw [atKey_put_other (klT_ne hff hf hk hne)]
  exact h2 f hff fun u hu=>hn u (by simp [hu])
end
end Go.Proofs.YtdjeecgddbjbeaaGreat
namespace Go.Proofs.YtdjeecgddbjbeaaGreat
open Go.RowKit Go.Maps
section
variable {P : Program} {ops : Array Oper} {Q : Exit → Act → World → Prop} {o : Oper} {rest : List Oper} {N : Nat} {D : List Deferred} {a : Act} {L : List (Nat × Value)} {w w' : World} {v : Value}
theorem sq_exv {C : Value → Prop} (F : Has N D a L) {d : Nat} (hd : o.dst = some d) (hN : d < N) (hw : Region.wanted o (yielded ops a.tmps) = true) (hr : ∃ v,(execOp a.eval o).run P w = .ok (.value v) w ∧ C v) (h : ∀ a2 v,Has N D a2 ((d,v) :: L) → C v → wpList P ops Q rest a2 w) : wpList P ops Q (o :: rest) a w:=by
 obtain ⟨v,h1,h2⟩:=hr
 exact sq_val F hd hN hw h1 fun a2 F2=>h a2 v F2 h2
theorem sq_exw {C : World → Prop} (hd : o.dst = none) (hw : Region.wanted o (yielded ops a.tmps) = true) (hr : ∃ w',(execOp a.eval o).run P w = .ok .skip w' ∧ C w') (h : ∀ w2,C w2 → wpList P ops Q rest a w2) : wpList P ops Q (o :: rest) a w:=by
 obtain ⟨w',h1,h2⟩:=hr
 exact sq_to hd hw h1 fun w2 e=>h w2 (by rw [e];exact h2)
theorem wpIn_act {G : Fence} {n : Nat} {c : Code} (F : Has N D a L) (h : ∀ fb,Has N D fb L → c.wpIn G n P Q fb w) : c.wpIn G n P Q a w:=h a F
theorem Has.param (F : Has N D a L) {p : Nat} (hp : p < N) (v : Value) : Has N [] { tmps:=(#[p].zip #[v]).foldl (fun t (p,v)=>t.setIfInBounds p v) a.tmps,defers:=[] } ((p,v) :: L):=by
 have h:=F.put hp v
 have e : ({ tmps:=(#[p].zip #[v]).foldl (fun t (p,v)=>t.setIfInBounds p v) a.tmps,defers:=[] } : Act) = { a.put (some p) v with defers:=[] }:=by simp [Act.put]
 rw [e]
 exact ⟨rfl,h.sz,h.get⟩
end
theorem keep_map {w w2 : World} {b c : Nat} {out : List (List Int)} {cs : Array Value} {T : TypeId} {fz : Nat × Nat} (h : MapT w b out) (hg : w.grownBy w2 (some b)) (q : w.heap[c]? = some (.cells cs T fz)) : w2.heap[c]? = some (.cells cs T fz):=
 (hg.block c (blk_lt q) (fun e=>h.ne q (fun _ _ h=>by cases h) (by simpa using e.symm))).trans q
theorem owns_map {w w2 : World} {b base n size : Nat} {e : TypeId} {v : Value} {xs : List Value} {out : List (List Int)} (h : MapT w b out) (hg : w.grownBy w2 (some b)) (ho : w.ownsRow base e size v n xs) : w2.ownsRow base e size v n xs:=by
 refine ho.kept hg ?_
 rcases ho.2 with ⟨rfl,_⟩ | ⟨g,cap,cur,rfl,_,hgb,_⟩
 ·exact .inl rfl
 ·exact .inr fun e=>h.ne hgb (fun _ _ h=>by cases h) (by simpa [Value.ownBlock] using e.symm)
theorem ext_mapX {X : List Nat} {a w w2 : World} {b : Nat} (h : Ext X a w) (hg : w.grownBy w2 (some b)) (hb : b < a.heap.size → b ∈ X) : Ext X a w2:=
 ⟨hg.os.trans h.os,hg.tape.trans h.tape,hg.output.trans h.output,Nat.le_trans h.size hg.size,fun k hk hx=>(hg.block k (Nat.lt_of_lt_of_le hk h.size) (fun e=>by cases e;exact hx (hb hk))).trans (h.block k hk hx)⟩
theorem ext_grownX {X : List Nat} {a w w2 : World} {row : Option Nat} (h : Ext X a w) (hg : w.grownBy w2 row) (hb : ∀ b,row = some b → b < a.heap.size → b ∈ X) : Ext X a w2:=
 ⟨hg.os.trans h.os,hg.tape.trans h.tape,hg.output.trans h.output,Nat.le_trans h.size hg.size,fun k hk hx=>(hg.block k (Nat.lt_of_lt_of_le hk h.size) (fun e=>by cases e;exact hx (hb _ rfl hk))).trans (h.block k hk hx)⟩
theorem keeps_ext {B : Nat} {X : List Nat} {W W' : World} (h : Ext X W W') (hX : ∀ b ∈ X,b < B ∨ ∃ cs T fz,W.heap[b]? = some (.cells cs T fz)) : KeepsFrom B W W':=
 ⟨h.size,fun k o hk ho hc=>h.keep ho fun hm=>by
  rcases hX k hm with h1 | ⟨cs,T,fz,h1⟩
  ·omega
  ·rw [h1] at ho;cases ho;cases hc⟩
theorem keepR_ext {X Y : List Nat} {ob : Nat} {W W' : World} (h : Ext X W W') (hX : ∀ k cs T fz,W.heap[k]? = some (.cells cs T fz) → Safe Y ob k W → k ∉ X) (hr : rowOf ob W' = rowOf ob W ∨ ∀ r,rowOf ob W' = some r → W.heap.size ≤ r) : KeepR Y ob W W':=
 ⟨h.size,fun k cs T fz hk hs=>h.keep hk (hX k cs T fz hk hs),hr⟩
theorem keepR_ext0 {Y : List Nat} {ob : Nat} {W W' : World} (h : Ext [] W W') (hob : ob < W.heap.size) : KeepR Y ob W W':=
 keepR_ext h (fun _ _ _ _ _ _=>by simp) (.inl (rowOf_ext (h.block ob hob (by simp))))
def tubE (f g : Nat → Int) : Bool:=(List.range 4).all fun i=>decide (f i = g i)
theorem tubE_iff {f g : Nat → Int} : tubE f g = true ↔ ∀ k,k < 4 → f k = g k:=by
 simp [tubE,List.all_eq_true]
theorem eql_tub (f g : Nat → Int) (w : World) : (Op.equalIn 10000 75 (.agg (tubC f)) (.agg (tubC g))).run Tryz.prog w = .ok (tubE f g) w:=by
 refine run_equalIn_array (n:=1) Tryz.underlying75 (by kernel_rfl) _ fun i hi=>?_
 refine ⟨.int .i64 (f i),.int .i64 (g i),?_,?_,run_equalIn_int w _ _ .i64 .i64 _ _ Tryz.underlying3⟩
 ·rcases i with _ | _ | _ | _ | i
  ·exact part_int rfl
  ·exact part_int rfl
  ·exact part_int rfl
  ·exact part_int rfl
  ·omega
 ·rcases i with _ | _ | _ | _ | i
  ·exact part_int rfl
  ·exact part_int rfl
  ·exact part_int rfl
  ·exact part_int rfl
  ·omega
section
variable {ρ : Operand → Value} {o : Oper} {w : World}
theorem R_neqTub {x y : Operand} {t' : TypeId} {f g : Nat → Int} (ho : o.op = .binOp .neq 75 x y t') (hx : ρ x = .agg (tubC f)) (hy : ρ y = .agg (tubC g)) :
  (execOp ρ o).run Tryz.prog w = .ok (.value (.bool (!tubE f g))) w:=by
 have hg : Tryz.prog.eqGuardType Tryz.prog.depth 75 = false:=by kernel_rfl
 unfold execOp
 simp only [ho,hx,hy,Sem.run_bind,run_eqGuard_agg w .neq 75 x y (tubC f) (tubC g) hg,Result.andThen_ok,run_neq_struct,eql_tub,Sem.run_pure]
theorem R_lookupS {x y : Operand} {b : Nat} {out : List (List Int)} {f : Nat → Int} (ho : o.op = .lookup 113 x y false) (hx : ρ x = .map (some b)) (hy : ρ y = .agg (tubC f)) (hf : TubS f) (h : MapT w b out) :
  ∃ v,(execOp ρ o).run Tryz.prog w = .ok (.value v) w ∧ ∃ c,v = .bool c ∧ ((∀ t ∈ out,∃ k,k < 4 ∧ f k ≠ val t k) → c = false):=by
 obtain ⟨c,h1,h2⟩:=R_lookupT ho hx hy hf h
 exact ⟨_,h1,c,rfl,h2⟩
end
instance (f : Nat → Int) : Decidable (TubS f):=inferInstanceAs (Decidable (∀ k,k < 4 → 0 ≤ f k ∧ f k ≤ 6))
theorem recL_all : ∀ nd,nd < 5 → (recL nd).Nodup ∧ ∀ q ∈ recL nd,q.length = nd ∧ TubS (val q) ∧ 0 < gcE (val q) ∧ 1 ≤ q.sum ∧ q.sum ≤ 6 ∧ ∀ n ∈ q,0 ≤ n ∧ n ≤ 6:=by decide +kernel
theorem recL_len : ∀ nd,nd < 5 → (recL nd).length ≤ 500:=by decide +kernel
end Go.Proofs.YtdjeecgddbjbeaaGreat
