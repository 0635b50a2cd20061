/- Parts of a proof: Drj, Drc, Drd, Dre, Drf, Dkm, Drk, Dma. No conditions. -/
import Derived.DeepKeys4
import Derived.Maps.Keyed
import Derived.Maps.Own
import Derived.Maps.Views
import Derived.RecoverIn
import Derived.WideKeyArr
import Derived.Test.YtdjeecgddbjbeaaKs5
set_option linter.unusedVariables false
set_option linter.unusedSimpArgs false
namespace Go.Proofs.Ytdjeecgddbjbeaa
open Go.RowKit
section
variable {P : Program} {fn : Func} {R : Ending → World → Prop} {N : Nat} {D : List Deferred} {a : Act} {L : List (Nat × Value)} {w : World}
theorem calls_hasM {f : FuncId} {c : Code} {args : List Value} (N : Nat) (hf : P.funcs[f]? = some fn) (hb : fn.body = some c) (hN : fn.ntmps = N) (hle : args.length ≤ N)
  (h : ∀ a,Has N [] a (argL 0 args) → c.wp P (bodyPostM Fence.wide 9 P fn R) a w) : Calls P f args.toArray w R:=by
 refine (callsIn_wide (n:=9)).1 (callsIn_of_wp_marks hf hb trivial (wpIn_wide.2 (h _ ⟨rfl,by simp;omega,fun k v e=>?_⟩)))
 obtain ⟨j,h1,h2⟩:=argL_get _ _ _ _ e
 obtain rfl : k = j:=by omega
 have hj:=(List.getElem?_eq_some_iff.1 h2).1
 simp only [Array.getD_eq_getD_getElem?]
 rw [Array.getElem?_append_left (by simpa using hj)]
 simp [h2]
theorem rtM_v (F : Has N D a L) (h : LeavesInM Fence.wide 9 P fn a.tmps R D .returning w) : bodyPostM Fence.wide 9 P fn R .ret a w:=by
 show LeavesInM _ _ _ _ _ _ a.defers _ _
 rw [F.ds];exact h
theorem lv_nil {tmps : Array Value} {v : Value} (hr : (results fn tmps).run P w = .ok v w) (h : R (.returned v) w) : LeavesInM Fence.wide 9 P fn tmps R [] .returning w:=⟨v,hr,h⟩
theorem lv_mark {tmps : Array Value} {b : Nat} {args : Array Value} {ds : List Deferred} (hk : w.heap[b]? = some (.deferred (some []))) (h : ∀ w2,w2 = w.putObj b (.deferred none) → LeavesInM Fence.wide 9 P fn tmps R ds .returning w2) : LeavesInM Fence.wide 9 P fn tmps R ({ target:=.collected b,args:=args } :: ds) .returning w:=
 ⟨by simp,.inl ⟨b,_,rfl,run_takeDeferred hk,h _ rfl⟩⟩
end
theorem fault_no (xT : TypeId) (w : World) : (Instr.typeAssert Value.nilIface xT 126 true).run Try.prog w = .ok (.tuple #[.int .i64 0,.bool false]) w:=by
 simp [Instr.typeAssert,run_underlying Try.underlying126,Try.zeroValue126,go_sem,Result.andThen]
set_option maxRecDepth 20000 in
set_option maxHeartbeats 400000 in
theorem caught_idle (n : Nat) (p : Addr) (w : World) :
  CallsDIn Fence.wide n Try.prog 53 #[.pointer (some p)] .returning w fun e u' w'=>e = .returned (.tuple #[]) ∧ u' = .returning ∧ w' = w:=by
 refine callsDIn_of_wpSIn Try.func53 rfl trivial fun c₀ cs hu=>?_
 apply wpSIn_seq
 apply wpSIn_region
 simp [wpOpsSIn,Fence.wide,go_sem,recoverD,hu,Try.ntmps53,Exit.thenS,fault_no,Result.andThen]
 apply wpSIn_seq
 apply wpSIn_region
 simp [wpOpsSIn,Fence.wide,go_sem,Exit.thenS,Array.replicate]
 refine wpSIn_cond (t:=false) (by simp [Act.eval]) ?_
 simp only [Bool.false_eq_true,if_false]
 refine wpSIn_of_wpIn rfl (wpIn_skip ?_)
 cases c₀
 simp_all [bodyPostS,results,Try.results53]
theorem lv_caught {fn : Func} {R : Ending → World → Prop} {tmps : Array Value} {w : World} {b : Nat} {ds : List Deferred} (h : LeavesInM Fence.wide 9 Try.prog fn tmps R ds .returning w) : LeavesInM Fence.wide 9 Try.prog fn tmps R ({ target:=.fn (.func 53) #[],args:=#[.pointer (some ⟨b,0,none⟩)] } :: ds) .returning w:=by
 refine ⟨by simp,.inr ⟨(fun h=>by cases h),_,_,53,#[.pointer (some ⟨b,0,none⟩)],rfl,(by simp [go_sem]),(fun _ _=>trivial),?_⟩⟩
 refine CallsDIn.mono (caught_idle 8 ⟨b,0,none⟩ w) ?_
 rintro e u' w' ⟨rfl,rfl,rfl⟩
 exact h
section
variable {P : Program} {ops : Array Oper} {Q : Exit → Act → World → Prop} {o : Oper} {rest : List Oper} {N : Nat} {D : List Deferred} {a : Act} {L : List (Nat × Value)} {w w' : World} {v : Value}
theorem sq_defer (F : Has N D a L) {d : Deferred} (hd : o.dst = none) (hw : Region.wanted o (yielded ops a.tmps) = true) (hr : (execOp a.eval o).run P w = .ok (.defer d) w) (h : ∀ a2,Has N (d :: D) a2 L → wpList P ops Q rest a2 w) : wpList P ops Q (o :: rest) a w:=by
 unfold wpList
 simp only [hw,if_true,Oper.wp,hr,Oper.upon,hd,Act.put]
 exact .inl (h _ ⟨by simp [F.ds],F.sz,F.get⟩)
theorem R_defer {ρ : Operand → Value} {f : FuncId} {l : List Operand} {ts : Array TypeId} {vs : List Value} (ho : o.op = .defer { callee:=.value (.func f),args:=l.toArray,argTypes:=ts }) (hf : ρ (.func f) = .func (.func f) #[] #[]) (ha : l.map ρ = vs) : (execOp ρ o).run P w = .ok (.defer { target:=.fn (.func f) #[],args:=vs.toArray }) w:=by
 have ha:=mapsN ha
 rw [← ha]
 unfold execOp
 simp [ho,resolve,hf,go_sem]
end
theorem Has.mark {N : Nat} {D : List Deferred} {a : Act} {L : List (Nat × Value)} (F : Has N D a L) {d : Deferred} : Has N (d :: D) { a with defers:=d :: a.defers } L:=⟨by simp [F.ds],F.sz,F.get⟩
theorem keep_putW {w w2 : World} {D k : Nat} {o o' : Obj} (e : w2 = w.putObj D o') (hD : w.heap[D]? = some o) (hc : o.isCells = false) {cs : Array Value} {T : TypeId} {fz : Nat × Nat} (h : w.heap[k]? = some (.cells cs T fz)) : w2.heap[k]? = some (.cells cs T fz):=by
 have : k ≠ D:=fun e=>by subst e;rw [hD] at h;cases h;cases hc
 rw [e,World.putObj_heap_other this];exact h
theorem ext_putW {X : List Nat} {w W w2 : World} {D : Nat} {o' : Obj} (h : Ext X w W) (e : w2 = W.putObj D o') (hD : w.heap.size ≤ D) : Ext X w w2:=by
 rw [e]
 exact ⟨h.os,h.tape,h.output,by simpa [World.putObj] using h.size,fun k hk hx=>(World.putObj_heap_other (by omega)).trans (h.block k hk hx)⟩
theorem owns_put {w w2 : World} {base : Nat} {e : TypeId} {size n : Nat} {v : Value} {xs : List Value} {D : Nat} {o o' : Obj} (hw : w2 = w.putObj D o') (hD : w.heap[D]? = some o) (hc : o.isCells = false) (h : w.ownsRow base e size v n xs) : w2.ownsRow base e size v n xs:=by
 rw [hw]
 refine h.kept (grownBy_putObj' w D o') ?_
 rcases h.2 with ⟨rfl,_⟩ | ⟨g,cap,cur,rfl,_,hgb,_⟩
 ·exact .inl rfl
 ·refine .inr fun e=>?_
  obtain rfl : g = D:=by simpa [Value.ownBlock] using e
  rw [hD] at hgb;cases hgb;cases hc
section
variable {P : Program} {fn : Func} {N : Nat} {D : List Deferred} {a : Act} {L : List (Nat × Value)} {w : World}
theorem loadVar_cell {P : Program} {t : TypeId} {b off : Nat} {v : Value} {d : TypeDesc} {w : World} (hd : P.underlying t = some d) (ha : d.isRow = false) (hc : w.cell? ⟨b,off,none⟩ = some v) : (loadVar t ⟨b,off,none⟩).run P w = .ok v w:=by
 cases d <;> first | (simp [TypeDesc.isRow] at ha;done) | simp [loadVar,isAgg,underlying,hd,load,hc,Sem.run,go_sem]
theorem rs_tc (F : Has N D a L) {t s ty b : Nat} {u v : Value} {T : TypeId} {d : TypeDesc} {fz : Nat × Nat} (hr : fn.results = #[.tmp t,.cell s ty]) (hv : L.lookup t = some v) (hs : L.lookup s = some (.pointer (some ⟨b,0,none⟩))) (hd : P.underlying ty = some d) (ha : d.isRow = false) (H : w.heap[b]? = some (.cells #[u] T fz)) : (results fn a.tmps).run P w = .ok (.tuple #[v,u]) w:=by
 have hl:=loadVar_cell (P:=P) (t:=ty) hd ha ((cells_of_block H 0).trans get0)
 have h1:=F.get _ _ hv
 have h2:=F.get _ _ hs
 simp only [Array.getD_eq_getD_getElem?] at h1 h2
 simp [results,hr,h1,h2,asAddr,hl,Result.andThen]
theorem rs_ttc (F : Has N D a L) {t r s ty b : Nat} {u v x : Value} {T : TypeId} {d : TypeDesc} {fz : Nat × Nat} (hr : fn.results = #[.tmp t,.tmp r,.cell s ty]) (hv : L.lookup t = some v) (hx : L.lookup r = some x) (hs : L.lookup s = some (.pointer (some ⟨b,0,none⟩))) (hd : P.underlying ty = some d) (ha : d.isRow = false) (H : w.heap[b]? = some (.cells #[u] T fz)) : (results fn a.tmps).run P w = .ok (.tuple #[v,x,u]) w:=by
 have hl:=loadVar_cell (P:=P) (t:=ty) hd ha ((cells_of_block H 0).trans get0)
 have h1:=F.get _ _ hv
 have h2:=F.get _ _ hs
 have h3:=F.get _ _ hx
 simp only [Array.getD_eq_getD_getElem?] at h1 h2 h3
 simp [results,hr,h1,h2,h3,asAddr,hl,Result.andThen]
end
def rowOf (ob : Nat) (W : World) : Option Nat:=match W.heap[ob]? with
 | some (.cells cs _ _)=>(cs[0]?).bind Value.ownBlock
 | _=>none
def Safe (X : List Nat) (ob k : Nat) (W : World) : Prop:=k ∉ X ∧ k ≠ ob ∧ rowOf ob W ≠ some k
structure KeepR (X : List Nat) (ob : Nat) (A B : World) : Prop where
 size : A.heap.size ≤ B.heap.size
 cells : ∀ (k : Nat) (cs : Array Value) (T : TypeId) (fz : Nat × Nat),A.heap[k]? = some (.cells cs T fz) → Safe X ob k A → B.heap[k]? = some (.cells cs T fz)
 row : rowOf ob B = rowOf ob A ∨ ∀ r,rowOf ob B = some r → A.heap.size ≤ r
section
variable {X : List Nat} {ob k : Nat} {A B C : World}
theorem Safe.keep (h : Safe X ob k A) (hk : k < A.heap.size) (K : KeepR X ob A B) : Safe X ob k B:=by
 refine ⟨h.1,h.2.1,fun e=>?_⟩
 rcases K.row with h1 | h1
 ·exact h.2.2 (by rw [← h1];exact e)
 ·have:=h1 _ e;omega
theorem Safe.same (h : Safe X ob k A) (e : B.heap[ob]? = A.heap[ob]?) : Safe X ob k B:=⟨h.1,h.2.1,by rw [rowOf,e];exact h.2.2⟩
theorem KeepR.refl : KeepR X ob A A:=⟨Nat.le_refl _,fun _ _ _ _ h _=>h,.inl rfl⟩
theorem KeepR.trans (h : KeepR X ob A B) (k : KeepR X ob B C) : KeepR X ob A C:=by
 refine ⟨Nat.le_trans h.size k.size,fun i cs T fz hi hs=>k.cells i cs T fz (h.cells i cs T fz hi hs) (hs.keep (blk_lt hi) h),?_⟩
 rcases k.row with h1 | h1
 ·rw [h1];exact h.row
 ·exact .inr fun r e=>Nat.le_trans h.size (h1 r e)
theorem KeepR.put {l : Nat} {o o' : Obj} (hl : A.heap[l]? = some o) (ho : o.isCells = false) (hne : ob ≠ l) : KeepR X ob A (A.putObj l o'):=by
 have h0 : (A.putObj l o').heap[ob]? = A.heap[ob]?:=World.putObj_heap_other hne
 refine ⟨by simp [World.putObj],fun i cs T fz hi _=>?_,.inl (by rw [rowOf,h0];rfl)⟩
 have : i ≠ l:=fun e=>by subst e;rw [hl] at hi;cases hi;cases ho
 rw [World.putObj_heap_other this];exact hi
end
def SeqR {α : Type} (P : Program) (gf : Nat) (lb : Array Value) (encs : α → Array Value) (X : List Nat) (ob : Nat) (xs : List α) (w : World) : Prop:=
 ∀ (l : Nat) (J : List α → World → Prop) (W : World),w.heap.size ≤ W.heap.size → (∀ k,k < w.heap.size → W.heap[k]? = w.heap[k]?) →
  (∀ s U V,J s U → U.grownBy V none → J s V) →
  (∀ s U V r,J s U → Safe X ob r U → W.heap.size ≤ r → (∃ o : Obj,U.heap[r]? = some o ∧ o.isCells = true) → U.grownBy V (some r) → J s V) →
  (∀ pre x V,J pre V → pre ++ [x] <+: xs → YieldAt Fence.wide 0 P l (encs x) V fun e V'=>e = .returned (.bool true) ∧ J (pre ++ [x]) V' ∧ KeepR X ob V V') →
  J [] W → Calls P gf (#[.func (.yield l) #[] #[]] ++ lb) W fun e W'=>(∃ v,e = .returned v) ∧ J xs W'
def postR {α : Type} (B : Nat) (X : List Nat) (ob : Nat) (I : List α → World → Prop) (xs : List α) (W : World) : Exit → Act → World → Prop
 | .normal,_,W'=>KeepsFrom B W W' ∧ KeepR X ob W W' ∧ I xs W'
 | _,_,_=>False
theorem wide_round {l : Nat} {f : FuncId} {tmps : Array Value} {assign body : Code} {w : World} {R : Ending → World → Prop} {P : Program} {m m' : Nat} (h : RoundIn Fence.wide m P l f tmps assign body w R) : RoundIn Fence.wide m' P l f tmps assign body w R:=⟨h.1,fun c cs _=>h.2 c cs (fun d h=>by cases h)⟩
theorem range_R {α : Type} {P : Program} {g : Operand} {ps : Array Tmp} {assign body : Code} {Q : Exit → Act → World → Prop} {a : Act} {w : World} {gf : Nat} {lb : Array Value} (hg : a.eval g = .func (.func gf) #[] lb) (eg : ∀ args w,(callFunc gf args).run P w = .ok (.enter gf args) w)
  {encs : α → Array Value} {X : List Nat} {ob : Nat} {xs : List α} (hseq : SeqR P gf lb encs X ob xs w) (hps : ∀ x,(encs x).size = ps.size) (hob : ob < w.heap.size)
  (I : List α → World → Prop) (hI1 : ∀ s U V,I s U → U.grownBy V none → I s V)
  (hIo : ∀ s U V r,I s U → w.heap.size ≤ r → (∃ o : Obj,U.heap[r]? = some o ∧ o.isCells = false) → U.grownBy V (some r) → I s V)
  (hIc : ∀ s U V r,I s U → w.heap.size ≤ r → Safe X ob r U → (∃ o : Obj,U.heap[r]? = some o ∧ o.isCells = true) → U.grownBy V (some r) → I s V)
  (h0 : I [] w) (Ax : List α → α → Act → World → Prop) (hAx : ∀ pre x a' U V r,Ax pre x a' U → w.heap.size ≤ r → (∃ o : Obj,U.heap[r]? = some o ∧ o.isCells = false) → U.grownBy V (some r) → Ax pre x a' V)
  (hassign : ∀ (l : Nat) (pre : List α) (x : α) (W : World) (K : Act → World → Prop),I pre W → (∀ a' W',KeepsFrom w.heap.size W W' → KeepR X ob W W' → Ax pre x a' W' → K a' W') →
   assign.wpIn (Fence.wide.inRound l) 0 P (Exit.then K (fun _ _ _=>False)) { tmps:=(ps.zip (encs x)).foldl (fun t (p,v)=>t.setIfInBounds p v) a.tmps,defers:=[] } W)
  (hbody : ∀ (l : Nat) (pre : List α) (x : α) (a' : Act) (W : World),Ax pre x a' W → pre ++ [x] <+: xs → body.wpIn (Fence.wide.inRound l) 0 P (postR w.heap.size X ob I (pre ++ [x]) W) a' W)
  (hdone : ∀ (D : Nat) (W : World),w.heap.size ≤ D → I xs W → W.heap[D]? = some (.deferred (some [])) → Q .normal { a with defers:={ target:=.collected D,args:=#[] } :: a.defers } W) :
  (Code.rangeFunc g ps assign body).wp P Q a w:=by
 refine (wpIn_wide (n:=1)).1 (wpIn_rangeFunc fun fn hfn=>?_)
 obtain ⟨rec,hrec⟩ : ∃ rec : LoopState → Option Code → Loop,rec = fun st pe=>{ state:=st,pending:=pe,fn,tmps:=a.tmps,params:=ps,assign,body,defers:=w.heap.size }:=⟨_,rfl⟩
 have hput : ∀ {s : List α} {U : World} {l : Nat} {o : Obj} (o' : Obj),I s U → w.heap.size ≤ l → U.heap[l]? = some o → o.isCells = false → I s (U.putObj l o'):=
  fun o' hi hl hu ho=>hIo _ _ _ _ hi hl ⟨_,hu,ho⟩ (grownBy_putObj' _ _ _)
 have hn : ∀ {l : Nat},w.heap.size ≤ l → ob ≠ l:=fun h e=>by omega
 have sD : ∀ (o : Obj),(w.alloc o).heap.size = w.heap.size + 1:=fun o=>by simp
 obtain ⟨W1,hW1⟩ : ∃ W1,W1 = (w.alloc (.deferred (some []))).alloc (.loop (rec .ready none)):=⟨_,rfl⟩
 have hs1 : W1.heap.size = w.heap.size + 1 + 1:=by rw [hW1];simp
 have hL1 : W1.heap[w.heap.size + 1]? = some (.loop (rec .ready none)):=by rw [hW1];exact blk_new (by simp)
 have hD1 : W1.heap[w.heap.size]? = some (.deferred (some [])):=by rw [hW1];exact (Below.heap_alloc _ _ _ (by simp)).trans (World.alloc_heap_new w _)
 have hb1 : ∀ k,k < w.heap.size → W1.heap[k]? = w.heap[k]?:=fun k hk=>by
  rw [hW1];exact (Below.heap_alloc _ _ _ (by simp;omega)).trans (Below.heap_alloc _ _ _ hk)
 have hI0 : I [] W1:=by rw [hW1];exact hI1 _ _ _ (hI1 _ _ _ h0 (World.grownBy_alloc _ _ _)) (World.grownBy_alloc _ _ _)
 refine ⟨w.heap.size + 1,[{ target:=.collected w.heap.size,args:=#[] }],W1,{ target:=.fn (.func gf) lb,args:=#[.func (.yield (w.heap.size + 1)) #[] #[]] },W1,gf,
  #[.func (.yield (w.heap.size + 1)) #[] #[]] ++ lb,W1,?_,?_,fun _ _=>trivial,?_,(fun h=>by cases h),?_⟩
 ·rw [hW1,hrec];exact run_enterLoop_outer _ _ _ _ _
 ·simp only [resolve,hg]
  simp [go_sem]
 ·simp [invoke,go_sem,eg]
 ·refine (callsIn_wide.2 (hseq (w.heap.size + 1) (fun pre W=>I pre W ∧ W.heap[w.heap.size + 1]? = some (.loop (rec .ready none)) ∧ W.heap[w.heap.size]? = some (.deferred (some [])))
   W1 (by omega) hb1 (fun s U V h hg'=>⟨hI1 _ _ _ h.1 hg',(hg'.block _ (blk_lt h.2.1) (by simp)).trans h.2.1,(hg'.block _ (blk_lt h.2.2) (by simp)).trans h.2.2⟩)
   (fun s U V r h hsf hr hc hg'=>⟨hIc _ _ _ _ h.1 (by omega) hsf hc hg',(hg'.block _ (blk_lt h.2.1) (fun e=>by cases e;omega)).trans h.2.1,(hg'.block _ (blk_lt h.2.2) (fun e=>by cases e;omega)).trans h.2.2⟩)
   ?_ ⟨hI0,hL1,hD1⟩)).mono ?_
  ·rintro pre x W ⟨hi,hl,hk⟩ hpx
   have hy:=run_yield (P:=P) (args:=encs x) hl (by rw [hrec];exact hps x)
   rw [hrec] at hy
   refine ⟨fn,_,assign,body,hy,roundIn_of_wpIn hfn (hassign _ pre x W _ hi ?_)⟩
   clear hy
   intro a' Wa hkf hkr hax
   have hla:=hkf.same _ _ (by omega) hl rfl
   have hka:=hkf.same _ _ (Nat.le_refl _) hk rfl
   refine ⟨_,run_beginRound hla (by rw [hrec]),?_⟩
   obtain ⟨Wb,hWb⟩ : ∃ Wb,Wb = Wa.putObj (w.heap.size + 1) (.loop { rec .ready none with state:=.busy }):=⟨_,rfl⟩
   have hlb : Wb.heap[w.heap.size + 1]? = some (.loop { rec .ready none with state:=.busy }):=by rw [hWb];exact World.putObj_heap_same (blk_lt hla)
   have hkb : Wb.heap[w.heap.size]? = some (.deferred (some [])):=by rw [hWb];exact (World.putObj_heap_other (by omega)).trans hka
   have hrb : KeepR X ob Wa Wb:=by rw [hWb];exact KeepR.put hla rfl (hn (by omega))
   have haxb : Ax pre x a' Wb:=by rw [hWb];exact hAx _ _ _ _ _ _ hax (by omega) ⟨_,hla,rfl⟩ (grownBy_putObj' _ _ _)
   rw [← hWb]
   refine wpIn_mono (hbody _ pre x a' Wb haxb hpx) ?_
   rintro e a3 W3 hp
   cases e with
   | normal =>
    obtain ⟨hk3,hr3,hi3⟩:=hp
    have hl3:=hk3.same _ _ (by omega) hlb rfl
    have he:=run_endRound (P:=P) none hl3
    rw [hrec] at he hl3
    refine ⟨_,_,he,rfl,⟨hput _ hi3 (by omega) hl3 rfl,?_,?_⟩,hkr.trans (hrb.trans (hr3.trans (KeepR.put hl3 rfl (hn (by omega)))))⟩
    ·rw [hrec];exact World.putObj_heap_same (blk_lt hl3)
    ·exact (World.putObj_heap_other (by omega)).trans (hk3.same _ _ (Nat.le_refl _) hkb rfl)
   | _=>exact hp.elim
  ·rintro e W2 ⟨⟨v,rfl⟩,hi,hl,hk⟩
   refine ⟨none,_,by have:=run_endLoop (P:=P) hl (by rw [hrec];simp);rw [hrec] at this;exact this,hdone _ _ (Nat.le_refl _) (hput _ hi (by omega) hl rfl) ((World.putObj_heap_other (by omega)).trans hk)⟩
section
variable {P : Program} {ops : Array Oper} {Q : Exit → Act → World → Prop} {o : Oper} {rest : List Oper} {N : Nat} {D : List Deferred} {a : Act} {L : List (Nat × Value)} {w w' : World} {v : Value} {n : Nat}
theorem calls_hasW {fn : Func} {R : Ending → World → Prop} {f : FuncId} {c : Code} {args : List Value} {w : World} (N : Nat) (hf : P.funcs[f]? = some fn) (hb : fn.body = some c) (hN : fn.ntmps = N) (hle : args.length ≤ N)
  (h : ∀ a,Has N [] a (argL 0 args) → c.wpIn Fence.wide 9 P (bodyPost P fn R) a w) : Calls P f args.toArray w R:=
 calls_has N hf hb hN hle fun a F=>wpIn_wide.1 (h a F)
theorem si_new (F : Has N D a L) {d : Nat} (hd : o.dst = some d) (hN : d < N) (hw : Region.wanted o (yielded ops a.tmps) = true) (hr : (execOp a.eval o).run P w = .ok (.value v) w') (h : ∀ a2 w2,Has N D a2 ((d,v) :: L) → w2 = w' → wpListIn Fence.wide n P ops Q rest a2 w2) : wpListIn Fence.wide n P ops Q (o :: rest) a w:=by
 unfold wpListIn
 simp only [hw,if_true]
 refine ⟨fun _ _=>trivial,?_⟩
 rw [show Fence.wide.round = none from rfl,Oper.semAt_none,hr,Oper.uponIn_value,hd]
 exact h _ _ (F.put hN v) rfl
theorem si_val (F : Has N D a L) {d : Nat} (hd : o.dst = some d) (hN : d < N) (hw : Region.wanted o (yielded ops a.tmps) = true) (hr : (execOp a.eval o).run P w = .ok (.value v) w) (h : ∀ a2,Has N D a2 ((d,v) :: L) → wpListIn Fence.wide n P ops Q rest a2 w) : wpListIn Fence.wide n P ops Q (o :: rest) a w:=
 si_new F hd hN hw hr fun a2 w2 F2 e=>by subst e;exact h a2 F2
theorem si_no (F : Has N D a L) {d : Nat} (hd : o.dst = some d) (hN : d < N) (hw : Region.wanted o (yielded ops a.tmps) = false) (h : ∀ a2,Has N D a2 ((d,undef) :: L) → wpListIn Fence.wide n P ops Q rest a2 w) : wpListIn Fence.wide n P ops Q (o :: rest) a w:=by
 unfold wpListIn
 simp only [hw,Bool.false_eq_true,if_false,hd]
 exact ⟨fun _ _=>trivial,h _ (F.put hN undef)⟩
theorem si_yield (F : Has N D a L) {d : Nat} {l : Nat} {f : FuncId} {tmps : Array Value} {assign body : Code} {R : Ending → World → Prop} (hd : o.dst = some d) (hN : d < N) (hw : Region.wanted o (yielded ops a.tmps) = true) (hr : (execOp a.eval o).run P w = .ok (.round l f tmps assign body) w) (hc : RoundIn Fence.wide 0 P l f tmps assign body w R)
  (h : ∀ e w',R e w' → ∃ v,e = .returned v ∧ ∀ a2,Has N D a2 ((d,v) :: L) → wpListIn Fence.wide n P ops Q rest a2 w') : wpListIn Fence.wide n P ops Q (o :: rest) a w:=by
 unfold wpListIn
 simp only [hw,if_true]
 refine ⟨fun _ _=>trivial,?_⟩
 rw [show Fence.wide.round = none from rfl,Oper.semAt_none,hr,Oper.uponIn_round]
 refine ⟨(fun h=>by cases h),RoundIn.mono (wide_round hc) fun e w' hR=>?_⟩
 obtain ⟨v,rfl,h1⟩:=h e w' hR
 show wpListIn _ _ _ _ _ _ _ _
 rw [hd]
 exact h1 _ (F.put hN v)
theorem Has.vlW (F : Has N D a L) {d : Nat} (hr : (execOp a.eval o).run P w = .ok (.value v) w) (h : ∀ a2,Has N D a2 ((d,v) :: L) → wpListIn Fence.wide n P ops Q rest a2 w) (hd : o.dst = some d:=by rfl) (hN : d < N:=by decide) (hw : Region.wanted o (yielded ops a.tmps) = true:=by rfl) : wpListIn Fence.wide n P ops Q (o :: rest) a w:=
 si_val F hd hN hw hr h
theorem Has.mvW (F : Has N D a L) {d k : Nat} (h : ∀ a2,Has N D a2 ((d,v) :: L) → wpListIn Fence.wide n P ops Q rest a2 w) (ho : o.op = .move (.tmp k):=by rfl) (hl : L.lookup k = some v:=by rfl) (hd : o.dst = some d:=by rfl) (hN : d < N:=by decide) (hw : Region.wanted o (yielded ops a.tmps) = true:=by rfl) : wpListIn Fence.wide n P ops Q (o :: rest) a w:=
 si_val F hd hN hw (R_move ho (F.at hl)) h
theorem Has.asW (F : Has N D a L) {d k : Nat} (h : ∀ a2,Has N D a2 ((d,v) :: L) → wpListIn Fence.wide n P ops Q rest a2 w) (ho : o.op = .assign (.tmp k):=by rfl) (hl : L.lookup k = some v:=by rfl) (hd : o.dst = some d:=by rfl) (hN : d < N:=by decide) (hw : Region.wanted o (yielded ops a.tmps) = true:=by rfl) : wpListIn Fence.wide n P ops Q (o :: rest) a w:=
 si_val F hd hN hw (R_assign ho (F.at hl)) h
theorem R_yield {ρ : Operand → Value} {x : Operand} {l : Nat} {xs : List Operand} {ts : Array TypeId} {vs : List Value} {f : FuncId} {tmps : Array Value} {assign body : Code} (ho : o.op = .call { callee:=.value x,args:=xs.toArray,argTypes:=ts }) (hf : ρ x = .func (.yield l) #[] #[]) (ha : xs.map ρ = vs) (hy : (Instr.yield l vs.toArray).run P w = .ok (.round l f tmps assign body) w) : (execOp ρ o).run P w = .ok (.round l f tmps assign body) w:=by
 subst ha
 unfold execOp
 simp [ho,resolve,hf,invoke,go_sem,hy]
end
def frL : Nat → Nat → List Int → List (List Int)
 | 0,left,p=>if left = 6 then [] else [p]
 | more + 1,left,p=>(List.range (left + 1)).flatMap fun n=>frL more (left - n) (p ++ [(n : Int)])
def recL (nd : Nat) : List (List Int):=frL nd 6 []
def Agr (nd : Nat) (g : Nat → Int) (p : List Int) : Prop:=(∀ j,j < p.length → g j = val p j) ∧ ∀ j,nd ≤ j → g j = 0
theorem Agr.tub {nd : Nat} {g : Nat → Int} {p : List Int} (h : Agr nd g p) (hp : p.length = nd) : tubC g = tubC (val p):=by
 refine tub_congr fun k hk=>?_
 by_cases e : k < p.length
 ·exact h.1 k e
 ·rw [h.2 k (by omega),val,List.getD_eq_getElem?_getD,List.getElem?_eq_none (by omega)];rfl
theorem Agr.step {nd : Nat} {g : Nat → Int} {p : List Int} (h : Agr nd g p) (hp : p.length < nd) (n : Int) : Agr nd (upF g p.length n) (p ++ [n]):=by
 refine ⟨fun j hj=>?_,fun j hj=>?_⟩
 ·simp only [List.length_append,List.length_singleton] at hj
  by_cases e : j = p.length
  ·subst e;simp [upF,val]
  ·rw [upF,if_neg e,h.1 j (by omega)];simp [val,List.getElem?_append_left (show j < p.length by omega)]
 ·rw [upF,if_neg (by omega),h.2 j hj]
theorem Agr.back {nd : Nat} {g : Nat → Int} {p : List Int} {n : Int} (h : Agr nd g (p ++ [n])) : Agr nd g p:=by
 refine ⟨fun j hj=>?_,h.2⟩
 rw [h.1 j (by simp;omega)]
 simp [val,List.getElem?_append_left hj]
theorem flat_succ {α : Type} (f : Nat → List α) (k : Nat) : (List.range (k + 1)).flatMap f = (List.range k).flatMap f ++ f k:=by
 rw [List.range_succ,List.flatMap_append];simp
theorem flat_prefix {α : Type} (f : Nat → List α) {k n : Nat} (h : k ≤ n) : (List.range k).flatMap f <+: (List.range n).flatMap f:=by
 obtain ⟨d,rfl⟩:=Nat.exists_eq_add_of_le h
 induction d with
 | zero=>exact List.prefix_refl _
 | succ d ih=>exact (ih (by omega)).trans ⟨f (k + d),by rw [← flat_succ];rfl⟩
structure ItB (x : Vm) (X : List Nat) (ob nb yb tb gb l : Nat) (g : Nat → Int) (W : World) : Prop where
 hn : W.heap[nb]? = some (.cells #[.int .i64 x.B,.slice x.da x.D.length x.dc,.slice x.la x.L.length x.lc,.int .i64 x.tol] 80 (0,0))
 hy : W.heap[yb]? = some (.cells #[.func (.yield l) #[] #[]] 131 (0,0))
 ht : W.heap[tb]? = some (.cells (tubC g) 83 (0,0))
 hg : W.heap[gb]? = some (.cells #[.func (.func 103) #[] #[.pointer (some ⟨nb,0,none⟩),.pointer (some ⟨yb,0,none⟩),.pointer (some ⟨tb,0,none⟩),.pointer (some ⟨gb,0,none⟩)]] 132 (0,0))
 sn : Safe X ob nb W
 sy : Safe X ob yb W
 st : Safe X ob tb W
 sg : Safe X ob gb W
theorem ItB.keep {x : Vm} {X : List Nat} {ob nb yb tb gb l : Nat} {g : Nat → Int} {W W' : World} (h : ItB x X ob nb yb tb gb l g W) (k : KeepR X ob W W') : ItB x X ob nb yb tb gb l g W':=
 ⟨k.cells _ _ _ _ h.hn h.sn,k.cells _ _ _ _ h.hy h.sy,k.cells _ _ _ _ h.ht h.st,k.cells _ _ _ _ h.hg h.sg,h.sn.keep (blk_lt h.hn) k,h.sy.keep (blk_lt h.hy) k,h.st.keep (blk_lt h.ht) k,h.sg.keep (blk_lt h.hg) k⟩
section
variable (x : Vm) (hd4 : x.D.length ≤ 4) (X : List Nat) (ob nb yb tb gb l B0 : Nat) (J : List (List Int) → World → Prop) (xs : List (List Int))
set_option maxRecDepth 100000 in
theorem from_end (hY : ∀ pre q V,J pre V → pre ++ [q] <+: xs → YieldAt Fence.wide 0 Try.prog l #[.agg (tubC (val q))] V fun e V'=>e = .returned (.bool true) ∧ J (pre ++ [q]) V' ∧ KeepR X ob V V')
  (left : Nat) (hl : left ≤ 6) (p : List Int) (hp : p.length = x.D.length) (g : Nat → Int) (hag : Agr x.D.length g p) (pre : List (List Int)) (W : World) (hJ : J pre W) (hx : pre ++ frL 0 left p <+: xs) (hb : ItB x X ob nb yb tb gb l g W) :
  Calls Try.prog 103 #[.int .i64 ((p.length : Nat) : Int),.int .i64 ((left : Nat) : Int),.pointer (some ⟨nb,0,none⟩),.pointer (some ⟨yb,0,none⟩),.pointer (some ⟨tb,0,none⟩),.pointer (some ⟨gb,0,none⟩)] W fun e W'=>e = .returned (.bool true) ∧ J (pre ++ frL 0 left p) W' ∧ ∃ g',Agr x.D.length g' p ∧ ItB x X ob nb yb tb gb l g' W':=by
 have HY:=Lib.hid hY
 obtain ⟨q2,q3,q4,q5,sn,sy,st,sg⟩:=hb
 rw [hag.tub hp] at q4
 by_cases h6 : left = 6
 ·have hfr : frL 0 left p = []:=by rw [frL,if_pos h6]
  rw [hfr] at hx ⊢
  rw [List.append_nil]
  clear hY
  refine calls_hasW 40 Try.func103 rfl Try.ntmps103 (Nat.le_of_ble_eq_true rfl) ?_
  intro fa F
  refine wpIn_seq_k fun K1 hK1=>?_
  refine wpIn_region_lit ?_
  refine F.vlW (R_assign rfl (ev_c fa _)) ?_;clear F fa;intro fa F
  refine wpListIn_nil ?_
  refine hK1 _ _ ?_
  clear hK1
  refine wpIn_seq_k fun K2 hK2=>?_
  refine wpIn_seq_k fun K3 hK3=>?_
  refine wpIn_region_lit ?_
  refine F.mvW ?_;clear F fa;intro fa F
  refine F.vlW (R_field rfl (F.at rfl) Try.underlying80 rfl (n:=0) (sz:=4) rfl (by kernel_rfl) (by decide)) ?_;clear F fa;intro fa F
  refine F.vlW (R_field rfl (F.at rfl) Try.underlying24 rfl (n:=1) (sz:=1) rfl (by kernel_rfl) (by decide)) ?_;clear F fa;intro fa F
  refine F.vlW (R_load rfl (F.at rfl) Try.underlying22 rfl ((cells_of_block q2 1).trans (getS (get0)))) ?_;clear F fa;intro fa F
  refine F.vlW (R_len rfl rfl (F.at rfl) Try.underlying22) ?_;clear F fa;intro fa F
  refine F.vlW (R_eqlD rfl (F.at rfl) (F.at rfl)) ?_;clear F fa;intro fa F
  refine wpListIn_nil ?_
  refine hK3 _ _ ?_
  clear hK3
  refine cdI_Tb F rfl (decide_eq_true (by omega)) ?_
  refine wpIn_seq_k fun K4 hK4=>?_
  refine wpIn_region_lit ?_
  refine F.mvW ?_;clear F fa;intro fa F
  refine F.vlW (R_eqlB (b:=true) rfl (F.at rfl) (ev_c fa _) (decide_eq_true ((by omega)))) ?_;clear F fa;intro fa F
  refine F.mvW ?_;clear F fa;intro fa F
  refine si_no F rfl (by decide) (wantF F rfl rfl (by decide) rfl (by decide)) ?_;clear F fa;intro fa F
  refine si_no F rfl (by decide) (wantF F rfl rfl (by decide) rfl (by decide)) ?_;clear F fa;intro fa F
  refine si_no F rfl (by decide) (wantF F rfl rfl (by decide) rfl (by decide)) ?_;clear F fa;intro fa F
  refine F.vlW (R_pickT rfl (F.at rfl) (ev_c fa _)) ?_;clear F fa;intro fa F
  refine F.asW ?_;clear F fa;intro fa F
  refine wpListIn_nil ?_
  refine hK4 _ _ ?_
  clear hK4
  refine wpIn_ret ?_
  (try simp only [Exit.inBlock,Exit.then,reduceIte])
  refine rt_v F (rs_1 F rfl rfl) ?_
  exact ⟨rfl,hJ,_,⟨fun j hj=>rfl,fun j hj=>(by rw [val,List.getD_eq_getElem?_getD,List.getElem?_eq_none (by omega)];rfl)⟩,q2,q3,q4,q5,sn,sy,st,sg⟩
 ·have hfr : frL 0 left p = [p]:=by rw [frL,if_neg h6]
  rw [hfr] at hx ⊢
  clear hY
  refine calls_hasW 40 Try.func103 rfl Try.ntmps103 (Nat.le_of_ble_eq_true rfl) ?_
  intro fa F
  refine wpIn_seq_k fun K1 hK1=>?_
  refine wpIn_region_lit ?_
  refine F.vlW (R_assign rfl (ev_c fa _)) ?_;clear F fa;intro fa F
  refine wpListIn_nil ?_
  refine hK1 _ _ ?_
  clear hK1
  refine wpIn_seq_k fun K2 hK2=>?_
  refine wpIn_seq_k fun K3 hK3=>?_
  refine wpIn_region_lit ?_
  refine F.mvW ?_;clear F fa;intro fa F
  refine F.vlW (R_field rfl (F.at rfl) Try.underlying80 rfl (n:=0) (sz:=4) rfl (by kernel_rfl) (by decide)) ?_;clear F fa;intro fa F
  refine F.vlW (R_field rfl (F.at rfl) Try.underlying24 rfl (n:=1) (sz:=1) rfl (by kernel_rfl) (by decide)) ?_;clear F fa;intro fa F
  refine F.vlW (R_load rfl (F.at rfl) Try.underlying22 rfl ((cells_of_block q2 1).trans (getS (get0)))) ?_;clear F fa;intro fa F
  refine F.vlW (R_len rfl rfl (F.at rfl) Try.underlying22) ?_;clear F fa;intro fa F
  refine F.vlW (R_eqlD rfl (F.at rfl) (F.at rfl)) ?_;clear F fa;intro fa F
  refine wpListIn_nil ?_
  refine hK3 _ _ ?_
  clear hK3
  refine cdI_Tb F rfl (decide_eq_true (by omega)) ?_
  refine wpIn_seq_k fun K4 hK4=>?_
  refine wpIn_region_lit ?_
  refine F.mvW ?_;clear F fa;intro fa F
  refine F.vlW (R_eqlB (b:=false) rfl (F.at rfl) (ev_c fa _) (decide_eq_false ((by omega)))) ?_;clear F fa;intro fa F
  refine F.mvW ?_;clear F fa;intro fa F
  refine F.vlW (R_load rfl (F.at rfl) Try.underlying131 rfl ((cells_of_block q3 0).trans (get0))) ?_ (hw:=(wantT F rfl rfl (by decide) rfl));clear F fa;intro fa F
  refine F.vlW (R_loadBlk rfl (F.at rfl) Try.underlying83 rfl (by kernel_rfl) q4) ?_ (hw:=(wantT F rfl rfl (by decide) rfl));clear F fa;intro fa F
  obtain ⟨fn,tmps,assign,body,hyy,hR0⟩:=HY.out pre p W hJ hx
  refine si_yield F rfl (by decide) (wantT F rfl rfl (by decide) rfl) (R_yield rfl (F.at rfl) (mpS (F.at rfl) mp0) hyy) (hR0) fun e w1 hR=>?_
  obtain ⟨rfl,hJ,hk⟩:=hR
  refine ⟨_,rfl,?_⟩;clear F fa;intro fa F
  refine F.vlW (R_pickF rfl (F.at rfl) (F.at rfl)) ?_;clear F fa;intro fa F
  refine F.asW ?_;clear F fa;intro fa F
  refine wpListIn_nil ?_
  refine hK4 _ _ ?_
  clear hK4
  refine wpIn_ret ?_
  (try simp only [Exit.inBlock,Exit.then,reduceIte])
  refine rt_v F (rs_1 F rfl rfl) ?_
  have hb2:=ItB.keep ⟨q2,q3,q4,q5,sn,sy,st,sg⟩ hk
  exact ⟨rfl,hJ,_,⟨fun j hj=>rfl,fun j hj=>(by rw [val,List.getD_eq_getElem?_getD,List.getElem?_eq_none (by omega)];rfl)⟩,hb2⟩
theorem grown_cell {w w2 : World} {b o : Nat} {v : Value} (e : w2 = w.setCell ⟨b,o,none⟩ v) : w.grownBy w2 (some b):=by
 rw [e]
 exact ⟨rfl,rfl,rfl,(KeepsWalks.setCell w _ v).size,fun k _ hk=>Below.heap_setCell _ _ _ k (fun e=>hk (by rw [e]))⟩
theorem heap_other {w w2 : World} {b o k : Nat} {v : Value} (e : w2 = w.setCell ⟨b,o,none⟩ v) (h : k ≠ b) : w2.heap[k]? = w.heap[k]?:=by
 rw [e];exact Below.heap_setCell _ _ _ k h
set_option maxRecDepth 100000 in
set_option maxHeartbeats 1000000 in
include hd4 in
theorem from_step (hB0 : B0 ≤ tb) (hnt : nb ≠ tb) (hyt : yb ≠ tb) (hgt : gb ≠ tb)
  (HJ : Hid (∀ s U V r,J s U → Safe X ob r U → B0 ≤ r → (∃ o : Obj,U.heap[r]? = some o ∧ o.isCells = true) → U.grownBy V (some r) → J s V))
  (more : Nat) (IH : Hid (∀ (left : Nat),left ≤ 6 → ∀ (p : List Int),p.length + more = x.D.length → ∀ (g : Nat → Int),Agr x.D.length g p → ∀ (pre : List (List Int)) (W : World),J pre W → pre ++ frL more left p <+: xs → ItB x X ob nb yb tb gb l g W →
   Calls Try.prog 103 #[.int .i64 ((p.length : Nat) : Int),.int .i64 ((left : Nat) : Int),.pointer (some ⟨nb,0,none⟩),.pointer (some ⟨yb,0,none⟩),.pointer (some ⟨tb,0,none⟩),.pointer (some ⟨gb,0,none⟩)] W fun e W'=>e = .returned (.bool true) ∧ J (pre ++ frL more left p) W' ∧ ∃ g',Agr x.D.length g' p ∧ ItB x X ob nb yb tb gb l g' W'))
  (left : Nat) (hl : left ≤ 6) (p : List Int) (hp : p.length + (more + 1) = x.D.length) (g : Nat → Int) (hag : Agr x.D.length g p) (pre : List (List Int)) (W : World) (hJ : J pre W) (hx : pre ++ frL (more + 1) left p <+: xs) (hb : ItB x X ob nb yb tb gb l g W) :
  Calls Try.prog 103 #[.int .i64 ((p.length : Nat) : Int),.int .i64 ((left : Nat) : Int),.pointer (some ⟨nb,0,none⟩),.pointer (some ⟨yb,0,none⟩),.pointer (some ⟨tb,0,none⟩),.pointer (some ⟨gb,0,none⟩)] W fun e W'=>e = .returned (.bool true) ∧ J (pre ++ frL (more + 1) left p) W' ∧ ∃ g',Agr x.D.length g' p ∧ ItB x X ob nb yb tb gb l g' W':=by
 obtain ⟨q2,q3,q4,q5,sn,sy,st,sg⟩:=hb
 have hsto:=st.2.1
 obtain ⟨fs,hfs⟩ : ∃ fs : Nat → List (List Int),fs = fun n=>frL more (left - n) (p ++ [(n : Int)]):=⟨_,rfl⟩
 have hfr : frL (more + 1) left p = (List.range (left + 1)).flatMap fs:=by rw [hfs];rfl
 rw [hfr] at hx ⊢
 have hJ : J (pre ++ (List.range 0).flatMap fs) W:=by simpa using hJ
 have HX:=Lib.hid hx
 clear hfr hx
 refine calls_has 40 Try.func103 rfl Try.ntmps103 (Nat.le_of_ble_eq_true rfl) ?_
 intro fa F
 refine wp_seq_k fun K1 hK1=>?_
 refine wp_region_lit ?_
 refine F.vl (R_assign rfl (ev_c fa _)) ?_;clear F fa;intro fa F
 refine wpList_nil ?_
 refine hK1 _ _ ?_
 clear hK1
 refine wp_seq_k fun K2 hK2=>?_
 refine wp_seq_k fun K3 hK3=>?_
 refine wp_region_lit ?_
 refine F.mv ?_;clear F fa;intro fa F
 refine F.vl (R_field rfl (F.at rfl) Try.underlying80 rfl (n:=0) (sz:=4) rfl (by kernel_rfl) (by decide)) ?_;clear F fa;intro fa F
 refine F.vl (R_field rfl (F.at rfl) Try.underlying24 rfl (n:=1) (sz:=1) rfl (by kernel_rfl) (by decide)) ?_;clear F fa;intro fa F
 refine F.vl (R_load rfl (F.at rfl) Try.underlying22 rfl ((cells_of_block q2 1).trans (getS (get0)))) ?_;clear F fa;intro fa F
 refine F.vl (R_len rfl rfl (F.at rfl) Try.underlying22) ?_;clear F fa;intro fa F
 refine F.vl (R_eqlD rfl (F.at rfl) (F.at rfl)) ?_;clear F fa;intro fa F
 refine wpList_nil ?_
 refine hK3 _ _ ?_
 clear hK3
 refine cd_Fb F rfl (decide_eq_false (by omega)) ?_
 refine wp_skip ?_
 refine hK2 _ _ ?_
 clear hK2
 refine wp_seq_k fun K4 hK4=>?_
 refine wp_seq_k fun K5 hK5=>?_
 refine wp_region_lit ?_
 refine F.mv ?_;clear F fa;intro fa F
 refine F.vl (R_add rfl (F.at rfl) (ev_c fa _) (by omega) (by omega)) ?_;clear F fa;intro fa F
 refine F.vl (R_move rfl (ev_c fa _)) ?_;clear F fa;intro fa F
 refine wpList_nil ?_
 refine hK5 _ _ ?_
 clear hK5
 refine wp_block ?_
 have F0:=F.sub (.c 0 rfl (.c 1 rfl (.c 4 rfl (.c 5 rfl (.c 24 rfl .n)))))
 refine lp_for F0 (left + 1) (fun i Lv W=>∃ g : Nat → Int,Lv = [(25,.int .i64 ((i : Nat) : Int))] ∧ W.heap[nb]? = some (.cells #[.int .i64 x.B,.slice x.da x.D.length x.dc,.slice x.la x.L.length x.lc,.int .i64 x.tol] 80 (0,0)) ∧ W.heap[yb]? = some (.cells #[.func (.yield l) #[] #[]] 131 (0,0)) ∧ W.heap[tb]? = some (.cells (tubC g) 83 (0,0)) ∧ W.heap[gb]? = some (.cells #[.func (.func 103) #[] #[.pointer (some ⟨nb,0,none⟩),.pointer (some ⟨yb,0,none⟩),.pointer (some ⟨tb,0,none⟩),.pointer (some ⟨gb,0,none⟩)]] 132 (0,0)) ∧ Agr x.D.length g p ∧ J (pre ++ (List.range i).flatMap fs) W ∧ Safe X ob nb W ∧ Safe X ob yb W ∧ Safe X ob tb W ∧ Safe X ob gb W) ⟨_,⟨g,rfl,q2,q3,q4,q5,hag,hJ,sn,sy,st,sg⟩,F.sub (.c 25 rfl (.c 0 rfl (.c 1 rfl (.c 4 rfl (.c 5 rfl (.c 24 rfl .n))))))⟩ ?_
 clear F F0
 clear q2 q3 q4 q5
 rintro i _ fa w1 hi1 ⟨g,rfl,q2,q3,q4,q5,hag,hJ,sn,sy,st,sg⟩ F
 refine wp_seq_k fun K6 hK6=>?_
 refine wp_region_lit ?_
 refine F.vl (R_lss rfl (F.at rfl) (F.at rfl)) ?_;clear F fa;intro fa F
 refine wpList_nil ?_
 refine hK6 _ _ ?_
 clear hK6
 refine wp_seq_k fun K7 hK7=>?_
 refine cd_if F rfl (fun hc26=>?_) (fun hc26=>?_)
 ·skip
  refine wp_skip ?_
  refine hK7 _ _ ?_
  clear hK7
  refine wp_seq_k fun K8 hK8=>?_
  refine wp_block ?_
  refine wp_seq_k fun K9 hK9=>?_
  refine wp_region_lit ?_
  refine F.mv ?_;clear F fa;intro fa F
  refine F.as ?_;clear F fa;intro fa F
  refine wpList_nil ?_
  refine hK9 _ _ ?_
  clear hK9
  refine wp_seq_k fun K10 hK10=>?_
  refine wp_region_lit ?_
  refine F.mv ?_;clear F fa;intro fa F
  refine F.mv ?_;clear F fa;intro fa F
  refine F.vl (R_ixArr (n:=4) (sz:=1) rfl (F.at rfl) (F.at rfl) Try.underlying83 (by kernel_rfl) (by omega) (by omega)) ?_;clear F fa;intro fa F
  refine sq_to rfl rfl (R_store rfl (F.at rfl) (F.at rfl) rfl (by kernel_rfl) (tub_at q4 (k:=p.length) rfl (by omega)) (free_of_block q4 _)) ?_;intro w2 hw
  have hJ2:=HJ.out _ _ _ tb hJ st hB0 ⟨_,q4,rfl⟩ (grown_cell hw)
  have ho:=heap_other (k:=ob) hw (Ne.symm hsto)
  replace sn:=sn.same ho
  replace sy:=sy.same ho
  replace st:=st.same ho
  replace sg:=sg.same ho
  replace q2:=keep_cell hw q2 (by omega)
  replace q3:=keep_cell hw q3 (by omega)
  replace q4:=put_tub hw q4 (k:=p.length) rfl (by omega)
  replace q5:=keep_cell hw q5 (by omega)
  clear hw
  refine wpList_nil ?_
  have hag2:=hag.step (by omega) ((i : Nat) : Int)
  refine hK10 _ _ ?_
  clear hK10
  refine wp_seq_k fun K11 hK11=>?_
  refine wp_region_lit ?_
  refine F.vl (R_load rfl (F.at rfl) Try.underlying132 rfl ((cells_of_block q5 0).trans (get0))) ?_;clear F fa;intro fa F
  refine F.mv ?_;clear F fa;intro fa F
  refine F.vl (R_add rfl (F.at rfl) (ev_c fa _) (by omega) (by omega)) ?_;clear F fa;intro fa F
  refine F.mv ?_;clear F fa;intro fa F
  refine F.mv ?_;clear F fa;intro fa F
  refine F.vl (R_sub rfl (F.at rfl) (F.at rfl) (by omega) (by omega)) ?_;clear F fa;intro fa F
  rw [show (((p.length : Nat) : Int) + 1) = (((p ++ [((i : Nat) : Int)]).length : Nat) : Int) by simp,show (((left : Nat) : Int) - ((i : Nat) : Int)) = ((left - i : Nat) : Int) by omega] at F
  have hpx : (pre ++ (List.range i).flatMap fs) ++ frL more (left - i) (p ++ [((i : Nat) : Int)]) <+: xs:=by refine List.IsPrefix.trans ?_ HX.out;rw [List.append_assoc,show frL more (left - i) (p ++ [((i : Nat) : Int)]) = fs i by rw [hfs],← flat_succ];exact (List.prefix_append_right_inj _).2 (flat_prefix fs (by omega))
  refine sq_call F rfl (by decide) rfl (R_callF rfl (F.at rfl) Try.call103 (mpS (F.at rfl) (mpS (F.at rfl) mp0)) (by simp)) (IH.out (left - i) (by omega) (p ++ [((i : Nat) : Int)]) (by simp only [List.length_append,List.length_singleton];omega) _ hag2 _ _ hJ2 hpx ⟨q2,q3,q4,q5,sn,sy,st,sg⟩) fun e w3 hR=>?_
  obtain ⟨rfl,hJ3,g2,hag3,q2,q3,q4,q5,sn,sy,st,sg⟩:=hR
  refine ⟨_,rfl,?_⟩;clear F fa;intro fa F
  refine F.vl (R_not rfl (F.at rfl)) ?_;clear F fa;intro fa F
  refine wpList_nil ?_
  replace hag3:=hag3.back
  have hJ4 : J (pre ++ (List.range (i + 1)).flatMap fs) w3:=by rw [flat_succ,← List.append_assoc,show fs i = frL more (left - i) (p ++ [((i : Nat) : Int)]) by rw [hfs]];exact hJ3
  refine hK11 _ _ ?_
  clear hK11
  refine cd_F F rfl ?_
  refine wp_skip ?_
  refine hK8 _ _ ?_
  clear hK8
  refine wp_region_lit ?_
  refine F.vl (R_add rfl (F.at rfl) (ev_c fa _) (by omega) (by omega)) ?_;clear F fa;intro fa F
  refine F.mv ?_;clear F fa;intro fa F
  refine wpList_nil ?_
  show _ ∧ _
  exact ⟨by omega,_,⟨g2,rfl,q2,q3,q4,q5,hag3,hJ4,sn,sy,st,sg⟩,F.sub (.c 25 rfl (.c 0 rfl (.c 1 rfl (.c 4 rfl (.c 5 rfl (.c 24 rfl .n))))))⟩
 ·skip
  refine wp_exit ?_
  refine hK4 _ _ ?_
  clear hK4
  refine wp_seq_k fun K12 hK12=>?_
  refine wp_region_lit ?_
  refine F.vl (R_assign rfl (ev_c fa _)) ?_;clear F fa;intro fa F
  refine wpList_nil ?_
  refine hK12 _ _ ?_
  clear hK12
  refine wp_ret ?_
  (try simp only [Exit.inBlock,Exit.then,reduceIte])
  refine rt_v F (rs_1 F rfl rfl) ?_
  have hi : i = left + 1:=(by omega)
  exact ⟨rfl,(by rw [← hi];exact hJ),g,hag,q2,q3,q4,q5,sn,sy,st,sg⟩
end
theorem grown_of_ext {W W' : World} (h : Ext [] W W') : W.grownBy W' none:=⟨h.os,h.tape,h.output,h.size,fun k hk _=>h.block k hk (by simp)⟩
theorem from_all (x : Vm) (hd4 : x.D.length ≤ 4) (X : List Nat) (ob nb yb tb gb l B0 : Nat) (J : List (List Int) → World → Prop) (xs : List (List Int)) (hB0 : B0 ≤ tb) (hnt : nb ≠ tb) (hyt : yb ≠ tb) (hgt : gb ≠ tb)
  (HJ : Hid (∀ s U V r,J s U → Safe X ob r U → B0 ≤ r → (∃ o : Obj,U.heap[r]? = some o ∧ o.isCells = true) → U.grownBy V (some r) → J s V))
  (hY : ∀ pre q V,J pre V → pre ++ [q] <+: xs → YieldAt Fence.wide 0 Try.prog l #[.agg (tubC (val q))] V fun e V'=>e = .returned (.bool true) ∧ J (pre ++ [q]) V' ∧ KeepR X ob V V') :
  ∀ (more left : Nat),left ≤ 6 → ∀ (p : List Int),p.length + more = x.D.length → ∀ (g : Nat → Int),Agr x.D.length g p → ∀ (pre : List (List Int)) (W : World),J pre W → pre ++ frL more left p <+: xs → ItB x X ob nb yb tb gb l g W →
   Calls Try.prog 103 #[.int .i64 ((p.length : Nat) : Int),.int .i64 ((left : Nat) : Int),.pointer (some ⟨nb,0,none⟩),.pointer (some ⟨yb,0,none⟩),.pointer (some ⟨tb,0,none⟩),.pointer (some ⟨gb,0,none⟩)] W fun e W'=>e = .returned (.bool true) ∧ J (pre ++ frL more left p) W' ∧ ∃ g',Agr x.D.length g' p ∧ ItB x X ob nb yb tb gb l g' W'
 | 0,left,hl,p,hp,g,hag,pre,W,hJ,hx,hb=>from_end x X ob nb yb tb gb l J xs hY left hl p (by omega) g hag pre W hJ hx hb
 | more + 1,left,hl,p,hp,g,hag,pre,W,hJ,hx,hb=>from_step x hd4 X ob nb yb tb gb l B0 J xs hB0 hnt hyt hgt HJ more (Lib.hid (from_all x hd4 X ob nb yb tb gb l B0 J xs hB0 hnt hyt hgt HJ hY more)) left hl p hp g hag pre W hJ hx hb
theorem rowOf_ext {ob : Nat} {w W : World} (e : W.heap[ob]? = w.heap[ob]?) : rowOf ob W = rowOf ob w:=by rw [rowOf,e];rfl
set_option maxRecDepth 100000 in
set_option maxHeartbeats 1000000 in
theorem recipes1_seq (x : Vm) (hd4 : x.D.length ≤ 4) (X : List Nat) (ob nb : Nat) (w : World) (hob : ob < w.heap.size) (hX : ∀ b ∈ X,b < w.heap.size) (hrow : ∀ r,rowOf ob w = some r → r < w.heap.size) (hs : Safe X ob nb w)
  (hn : w.heap[nb]? = some (.cells #[.int .i64 x.B,.slice x.da x.D.length x.dc,.slice x.la x.L.length x.lc,.int .i64 x.tol] 80 (0,0))) :
  SeqR Try.prog 102 #[.pointer (some ⟨nb,0,none⟩)] (fun q : List Int=>#[.agg (tubC (val q))]) X ob (recL x.D.length) w:=by
 intro l J W hWs hWw hJ1 hJ2 hY h0
 have HJ:=Lib.hid hJ2
 have HY:=Lib.hid hY
 have HJ1:=Lib.hid hJ1
 have q1 : W.heap[nb]? = some (.cells #[.int .i64 x.B,.slice x.da x.D.length x.dc,.slice x.la x.L.length x.lc,.int .i64 x.tol] 80 (0,0)):=(hWw nb (blk_lt hn)).trans hn
 have hnbl:=blk_lt hn
 have hobW:=hWw ob hob
 have HXX:=Lib.hid hX
 have HRW:=Lib.hid hrow
 show Calls _ _ #[.func (.yield l) #[] #[],.pointer (some ⟨nb,0,none⟩)] _ _
 have E : Ext [] W W:=Ext.refl _ _
 clear hJ1 hJ2 hY hn hX hrow
 refine calls_has 8 Try.func102 rfl Try.ntmps102 (Nat.le_of_ble_eq_true rfl) ?_
 intro fa F
 refine wp_seq_k fun K1 hK1=>?_
 refine wp_region_lit ?_
 refine sq_new F rfl (by decide) rfl (R_box rfl (F.at rfl)) ?_;clear F fa;intro fa w1 F hw
 obtain ⟨n2,hn⟩ : ∃ n,n = W.heap.size:=⟨_,rfl⟩
 rw [← hn] at F
 have s2 : W.heap.size ≤ n2:=Nat.le_of_eq hn.symm
 have l2_E : W.heap.size ≤ n2:=by rw [hn];exact E.size
 have m2_1 : nb < n2:=by rw [hn];exact blk_lt q1
 replace q1:=keep_alloc hw q1
 replace E:=ext_alloc E hw
 have q2:=new_one hw rfl hn
 clear hw hn
 refine wpList_nil ?_
 refine hK1 _ _ ?_
 clear hK1
 refine wp_seq_k fun K2 hK2=>?_
 refine wp_region_lit ?_
 refine sq_new F rfl (by decide) rfl (R_alloc rfl Try.zeroValue83) ?_;clear F fa;intro fa w2 F hw
 obtain ⟨n3,hn⟩ : ∃ n,n = w1.heap.size:=⟨_,rfl⟩
 rw [← hn] at F
 have s3 : w1.heap.size ≤ n3:=Nat.le_of_eq hn.symm
 have l3_E : W.heap.size ≤ n3:=by rw [hn];exact E.size
 have m3_1 : nb < n3:=by rw [hn];exact blk_lt q1
 have m3_2 : n2 < n3:=by rw [hn];exact blk_lt q2
 replace q1:=keep_alloc hw q1
 replace q2:=keep_alloc hw q2
 replace E:=ext_alloc E hw
 have q3:=new_row hw hn
 clear hw hn
 refine wpList_nil ?_
 replace q3 : w2.heap[n3]? = some (.cells (tubC zf) 83 (0,0)):=q3
 refine hK2 _ _ ?_
 clear hK2
 refine wp_seq_k fun K3 hK3=>?_
 refine wp_region_lit ?_
 refine sq_new F rfl (by decide) rfl (R_alloc rfl Try.zeroValue132) ?_;clear F fa;intro fa w3 F hw
 obtain ⟨n4,hn⟩ : ∃ n,n = w2.heap.size:=⟨_,rfl⟩
 rw [← hn] at F
 have s4 : w2.heap.size ≤ n4:=Nat.le_of_eq hn.symm
 have l4_E : W.heap.size ≤ n4:=by rw [hn];exact E.size
 have m4_1 : nb < n4:=by rw [hn];exact blk_lt q1
 have m4_2 : n2 < n4:=by rw [hn];exact blk_lt q2
 have m4_3 : n3 < n4:=by rw [hn];exact blk_lt q3
 replace q1:=keep_alloc hw q1
 replace q2:=keep_alloc hw q2
 replace q3:=keep_alloc hw q3
 replace E:=ext_alloc E hw
 have q4:=new_one hw rfl hn
 clear hw hn
 refine wpList_nil ?_
 refine hK3 _ _ ?_
 clear hK3
 refine wp_seq_k fun K4 hK4=>?_
 refine wp_region_lit ?_
 refine F.vl (R_makeFunc rfl (mapsN mp0) (mapsN (mpS (F.at rfl) (mpS (F.at rfl) (mpS (F.at rfl) (mpS (F.at rfl) mp0)))))) ?_;clear F fa;intro fa F
 refine sq_to rfl rfl (R_store rfl (F.at rfl) (F.at rfl) rfl (by kernel_rfl) ((cells_of_block q4 0).trans (get0)) (free_of_block q4 0)) ?_;intro w4 hw
 replace q1:=keep_cell hw q1 (by omega)
 replace q2:=keep_cell hw q2 (by omega)
 replace q3:=keep_cell hw q3 (by omega)
 replace q4:=put_cell hw q4 (by simp only [List.setIfInBounds_toArray,lsQ,lzQ];exact rfl)
 replace E:=ext_cell E hw (fun h=>by first | exact absurd h (by omega) | simp)
 clear hw
 refine wpList_nil ?_
 refine hK4 _ _ ?_
 clear hK4
 refine wp_region_lit ?_
 refine F.vl (R_load rfl (F.at rfl) Try.underlying132 rfl ((cells_of_block q4 0).trans (get0))) ?_;clear F fa;intro fa F
 have hrW : rowOf ob w4 = rowOf ob w:=rowOf_ext ((E.block ob (by omega) (by simp)).trans hobW)
 have hsf : ∀ k,w.heap.size ≤ k → Safe X ob k w4:=fun k hk=>⟨fun h=>(by have:=HXX.out k h;omega),(by omega),fun e=>(by have:=HRW.out k (hrW.symm.trans e);omega)⟩
 have hsn : Safe X ob nb w4:=hs.same ((E.block ob (by omega) (by simp)).trans hobW)
 have hJn:=HJ1.out [] W w4 h0 (grown_of_ext E)
 have hall:=from_all x hd4 X ob nb n2 n3 n4 l W.heap.size J (recL x.D.length) (by omega) (by omega) (by omega) (by omega) HJ HY.out x.D.length 6 (by omega) [] (by simp) zf ⟨fun j hj=>absurd hj (by simp),fun j _=>rfl⟩ [] w4 hJn (by exact List.prefix_refl _) ⟨q1,q2,q3,q4,hsn,hsf _ (by omega),hsf _ (by omega),hsf _ (by omega)⟩
 refine sq_call F rfl (by decide) rfl (R_callF rfl (F.at rfl) Try.call103 (mpS (ev_c fa _) (mpS (ev_c fa _) mp0)) (by simp)) (hall) fun e w5 hR=>?_
 obtain ⟨rfl,hJ3,g2,hag3,q1,q2,q3,q4,sn,sy,st,sg⟩:=hR
 refine ⟨_,rfl,?_⟩;clear F fa;intro fa F
 refine wpList_nil ?_
 (try simp only [Exit.inBlock,Exit.then,reduceIte])
 refine rt_vn F (rs_0 rfl) ?_
 exact ⟨⟨_,rfl⟩,hJ3⟩
theorem recipes_any (x : Vm) (w : World) : Calls Try.prog 58 #[.agg #[.int .i64 x.B,.slice x.da x.D.length x.dc,.slice x.la x.L.length x.lc,.int .i64 x.tol]] w fun e w'=>∃ nb,e = .returned (.func (.func 102) #[] #[.pointer (some ⟨nb,0,none⟩)]) ∧ w.heap.size ≤ nb ∧ w'.heap[nb]? = some (.cells #[.int .i64 x.B,.slice x.da x.D.length x.dc,.slice x.la x.L.length x.lc,.int .i64 x.tol] 80 (0,0)) ∧ Ext [] w w':=by
 have E : Ext [] w w:=Ext.refl _ _
 refine calls_has 4 Try.func58 rfl Try.ntmps58 (Nat.le_of_ble_eq_true rfl) ?_
 intro fa F
 refine wp_seq_k fun K1 hK1=>?_
 refine wp_region_lit ?_
 refine sq_new F rfl (by decide) rfl (R_box rfl (F.at rfl)) ?_;clear F fa;intro fa w1 F hw
 obtain ⟨n1,hn⟩ : ∃ n,n = w.heap.size:=⟨_,rfl⟩
 rw [← hn] at F
 have s1 : w.heap.size ≤ n1:=Nat.le_of_eq hn.symm
 have l1_E : w.heap.size ≤ n1:=by rw [hn];exact E.size
 replace E:=ext_alloc E hw
 have q1:=new_row hw hn
 clear hw hn
 refine F.vl (R_assign rfl (ev_c fa _)) ?_;clear F fa;intro fa F
 refine wpList_nil ?_
 refine hK1 _ _ ?_
 clear hK1
 refine wp_seq_k fun K2 hK2=>?_
 refine wp_region_lit ?_
 refine F.vl (R_makeFunc rfl (mapsN mp0) (mapsN (mpS (F.at rfl) mp0))) ?_;clear F fa;intro fa F
 refine F.as ?_;clear F fa;intro fa F
 refine wpList_nil ?_
 refine hK2 _ _ ?_
 clear hK2
 refine wp_ret ?_
 (try simp only [Exit.inBlock,Exit.then,reduceIte])
 refine rt_v F (rs_1 F rfl rfl) ?_
 exact ⟨n1,rfl,by omega,q1,E⟩
end Go.Proofs.Ytdjeecgddbjbeaa
namespace Go.Proofs.Ytdjeecgddbjbeaa
open Go.RowKit Go.Maps Go.WideMaps Go.ChangeShapes
theorem arrT : ArrKey Try.prog 83 3 4:=⟨Try.underlying83,by kernel_rfl,by kernel_rfl,by kernel_rfl⟩
theorem laidT : laidOutB Try.prog = true:=by kernel_rfl
theorem rowT : (83 : TypeId) < Try.prog.types.size:=of_decide_eq_true (by kernel_rfl)
theorem keyAtT : Try.prog.keyTypeAt 2 83 = true:=arrT.at 0
theorem lawT : KeyLaw Try.prog 83:=deep_law_laid (P:=Try.prog) (m:=2) (k:=83) laidT (by omega) rowT keyAtT (by rw [Try.underlying83])
theorem keyedT : Keyed Try.prog 83:=Keyed.of_law lawT
def klT (f : Nat → Int) : Lit:=.string (keyBytes [.int .i64 (f 0),.int .i64 (f 1),.int .i64 (f 2),.int .i64 (f 3)])
theorem keyOf_tub {f : Nat → Int} (hf : TubS f) : keyOf Try.prog 83 (.agg (tubC f)) = some (klT f):=by
 have hsz : ∃ m,Try.prog.types.size = m + 1:=by
  have h0 : 0 < Try.prog.types.size:=Nat.lt_of_le_of_lt (Nat.zero_le _) rowT
  revert h0
  generalize Try.prog.types.size = n
  intro h0
  exact ⟨n - 1,by omega⟩
 have hkt:=arrT.keyType hsz
 obtain ⟨m,hm⟩:=hsz
 have hw : ∀ k,k < 4 → (Lit.int .i64 (f k)).wf = true:=fun k hk=>by have:=hf k hk;exact WalkArith.wf_i64 (by omega)
 have h0:=hw 0 (by omega)
 have h1:=hw 1 (by omega)
 have h2:=hw 2 (by omega)
 have h3:=hw 3 (by omega)
 unfold keyOf
 simp only [arrT.hu]
 rw [if_pos (by simp [hkt,Value.formed,arrT.hu,arrT.size,tubC]),hm]
 unfold Program.keyLits
 simp only [arrT.hu,Value.cells]
 rw [if_pos (by rw [arrT.size];rfl),show List.range 4 = [0,1,2,3] from rfl,List.mapM_cons,List.mapM_cons,List.mapM_cons,List.mapM_cons,List.mapM_nil]
 simp [arrT.one,Program.keyLits,Try.underlying3,h0,h1,h2,h3,tubC,klT]
theorem klT_ne {f g : Nat → Int} (hf : TubS f) (hg : TubS g) {k : Nat} (hk : k < 4) (h : f k ≠ g k) : klT f ≠ klT g:=by
 intro e
 have h1:=keyedT.inj (keyOf_tub hf) (by rw [e];exact keyOf_tub hg)
 have h2 : tubC f = tubC g:=by simpa using h1
 have:=congrArg (fun a : Array Value=>a[k]?) h2
 have t1:=tub_ix (f:=f) (i:=(k : Int)) (k:=k) rfl hk
 have t2:=tub_ix (f:=g) (i:=(k : Int)) (k:=k) rfl hk
 rw [Int.toNat_natCast] at t1 t2
 simp only [t1,t2] at this
 exact h (by simpa using this)
theorem plainElem_bool_inv {H : Type} {P : Program} {e : TypeId} (he : P.underlying e = some .bool) {v : Value} {z : DataW H × List MemPlace} (h : plainElem P e v = some z) : ∃ b,v = .bool b ∧ z = (.lit (.bool b),[]):=by
 unfold plainElem at h
 cases v <;> simp [he] at h
 rename_i b
 exact ⟨b,rfl,by first | exact h.symm | (rw [← h])⟩
def MapT (w : World) (b : Nat) (out : List (List Int)) : Prop:=∃ D : DataW Unit,w.ownsMap Try.prog 83 (plainElem Try.prog 4) b out.length D ∧ ∀ f,TubS f → (∀ t ∈ out,∃ k,k < 4 ∧ f k ≠ val t k) → D.atKey (klT f) (.lit (.bool false)) = .lit (.bool false)
theorem MapT.kept {w w' : World} {b : Nat} {out : List (List Int)} {row : Option Nat} (h : MapT w b out) (hg : w.grownBy w' row) (hr : some b ≠ row) : MapT w' b out:=by
 obtain ⟨D,h1,h2⟩:=h
 exact ⟨D,h1.kept hg hr,h2⟩
theorem MapT.obj {w : World} {b : Nat} {out : List (List Int)} (h : MapT w b out) : ∃ es clock,w.heap[b]? = some (.map es clock):=by
 obtain ⟨D,⟨es,clock,hb,-⟩,-⟩:=h
 exact ⟨es,clock,hb⟩
theorem MapT.ne {w : World} {b c : Nat} {out : List (List Int)} (h : MapT w b out) {o : Obj} (H : w.heap[c]? = some o) (ho : ∀ es k,o ≠ .map es k) : b ≠ c:=by
 intro e
 obtain ⟨es,k,hb⟩:=h.obj
 subst e
 rw [H] at hb
 exact ho es k (by simpa using hb)
theorem map_alloc {w w2 : World} {o : Obj} {b : Nat} {out : List (List Int)} (e : w2 = w.alloc o) (h : MapT w b out) : MapT w2 b out:=by rw [e];exact h.kept (World.grownBy_alloc w o none) (by simp)
theorem map_cells {w w2 : World} {b c off : Nat} {l : List Value} {out : List (List Int)} {cs : Array Value} {T : TypeId} {fz : Nat × Nat} (e : w2 = w.setCells c off l) (h : MapT w b out) (H : w.heap[c]? = some (.cells cs T fz)) : MapT w2 b out:=by
 have hbc:=h.ne H (fun _ _ h=>by cases h)
 obtain ⟨D,⟨es,clock,hb,h3,h4,h5⟩,h2⟩:=h
 exact ⟨D,⟨es,clock,keep_cells e hb hbc,h3,h4,h5⟩,h2⟩
theorem map_cell {w w2 : World} {b c off : Nat} {v : Value} {out : List (List Int)} {cs : Array Value} {T : TypeId} {fz : Nat × Nat} (e : w2 = w.setCell ⟨c,off,none⟩ v) (h : MapT w b out) (H : w.heap[c]? = some (.cells cs T fz)) : MapT w2 b out:=by
 have hbc:=h.ne H (fun _ _ h=>by cases h)
 obtain ⟨D,⟨es,clock,hb,h3,h4,h5⟩,h2⟩:=h
 exact ⟨D,⟨es,clock,keep_cell e hb hbc,h3,h4,h5⟩,h2⟩
theorem map_ext {w w2 : World} {b : Nat} {out : List (List Int)} (h : MapT w b out) (e : Ext [] w w2) : MapT w2 b out:=h.kept (grown_of_ext e) (by simp)
theorem map_own {w w2 : World} {b base n size : Nat} {e : TypeId} {v : Value} {xs : List Value} {out : List (List Int)} (h : MapT w b out) (ho : w.ownsRow base e size v n xs) (hg : w.grownBy w2 v.ownBlock) : MapT w2 b out:=by
 refine h.kept hg ?_
 rcases ho.2 with ⟨rfl,_⟩ | ⟨g,cap,cur,rfl,_,hgb,_⟩
 ·simp [Value.ownBlock]
 ·intro e
  exact h.ne hgb (fun _ _ h=>by cases h) (by simpa [Value.ownBlock] using e)
theorem map_put {w w2 : World} {b D : Nat} {out : List (List Int)} {d : Option (List Deferred)} {o' : Obj} (e : w2 = w.putObj D o') (hD : w.heap[D]? = some (.deferred d)) (h : MapT w b out) : MapT w2 b out:=by
 rw [e]
 exact h.kept (grownBy_putObj' w D o') (fun e=>h.ne hD (fun _ _ h=>by cases h) (by simpa using e))
theorem map_made (w : World) : MapT (w.alloc (.map #[] 0)) w.heap.size []:=⟨.map [],World.ownsMap_made w _ _ _,fun f _ _=>rfl⟩
section
variable {ρ : Operand → Value} {o : Oper} {w : World}
theorem R_makeMap {P : Program} {t : TypeId} (ho : o.op = .makeMap t none) : (execOp ρ o).run P w = .ok (.value (.map (some w.heap.size))) (w.alloc (.map #[] 0)):=by
 unfold execOp
 simp [ho,run_makeMap,Result.andThen,go_sem]
theorem R_lookupT {x y : Operand} {b : Nat} {out : List (List Int)} {f : Nat → Int} (ho : o.op = .lookup 141 x y false) (hx : ρ x = .map (some b)) (hy : ρ y = .agg (tubC f)) (hf : TubS f) (h : MapT w b out) :
  ∃ c,(execOp ρ o).run Try.prog w = .ok (.value (.bool c)) w ∧ ((∀ t ∈ out,∃ k,k < 4 ∧ f k ≠ val t k) → c = false):=by
 obtain ⟨D,h1,h2⟩:=h
 obtain ⟨v,ps,hr,hv⟩:=h1.lookup keyedT Try.underlying141 (z:=.bool false) (zd:=.lit (.bool false)) (zp:=[]) (by kernel_rfl) (plainElem_bool Try.underlying4 false) (keyOf_tub hf)
 obtain ⟨c,rfl,hc⟩:=plainElem_bool_inv Try.underlying4 hv
 refine ⟨c,?_,fun hn=>?_⟩
 ·unfold execOp
  simp [ho,hx,hy,hr,Result.andThen,go_sem]
 ·have h3:=h2 f hf hn
  simp only [Prod.mk.injEq] at hc
  rw [h3] at hc
  simpa using hc.1.symm
theorem R_mapPutT {x y z : Operand} {b : Nat} {out : List (List Int)} {t : List Int} (ho : o.op = .mapUpdate 141 x y z) (hx : ρ x = .map (some b)) (hy : ρ y = .agg (tubC (val t))) (hz : ρ z = .bool true) (hf : TubS (val t)) (hl : out.length < 1000) (h : MapT w b out) :
  ∃ w',(execOp ρ o).run Try.prog w = .ok .skip w' ∧ MapT w' b (out ++ [t]) ∧ w.grownBy w' (some b):=by
 obtain ⟨D,h1,h2⟩:=h
 obtain ⟨w',hr,h3,h4⟩:=h1.update keyedT Try.underlying141 (by simp only [maxLen];omega) (keyOf_tub hf) (plainElem_bool Try.underlying4 true)
 refine ⟨w',?_,⟨_,by rw [List.length_append];exact h3,fun f hff hn=>?_⟩,h4⟩
 ·unfold execOp
  simp [ho,hx,hy,hz,hr,Result.andThen,go_sem]
 ·obtain ⟨k,hk,hne⟩:=hn t (by simp)
  rw [atKey_put_other (klT_ne hff hf hk hne)]
  exact h2 f hff fun u hu=>hn u (by simp [hu])
end
end Go.Proofs.Ytdjeecgddbjbeaa
namespace Go.Proofs.Ytdjeecgddbjbeaa
open Go.RowKit Go.Maps
section
variable {P : Program} {ops : Array Oper} {Q : Exit → Act → World → Prop} {o : Oper} {rest : List Oper} {N : Nat} {D : List Deferred} {a : Act} {L : List (Nat × Value)} {w w' : World} {v : Value}
theorem sq_exv {C : Value → Prop} (F : Has N D a L) {d : Nat} (hd : o.dst = some d) (hN : d < N) (hw : Region.wanted o (yielded ops a.tmps) = true) (hr : ∃ v,(execOp a.eval o).run P w = .ok (.value v) w ∧ C v) (h : ∀ a2 v,Has N D a2 ((d,v) :: L) → C v → wpList P ops Q rest a2 w) : wpList P ops Q (o :: rest) a w:=by
 obtain ⟨v,h1,h2⟩:=hr
 exact sq_val F hd hN hw h1 fun a2 F2=>h a2 v F2 h2
theorem sq_exw {C : World → Prop} (hd : o.dst = none) (hw : Region.wanted o (yielded ops a.tmps) = true) (hr : ∃ w',(execOp a.eval o).run P w = .ok .skip w' ∧ C w') (h : ∀ w2,C w2 → wpList P ops Q rest a w2) : wpList P ops Q (o :: rest) a w:=by
 obtain ⟨w',h1,h2⟩:=hr
 exact sq_to hd hw h1 fun w2 e=>h w2 (by rw [e];exact h2)
theorem wpIn_act {G : Fence} {n : Nat} {c : Code} (F : Has N D a L) (h : ∀ fb,Has N D fb L → c.wpIn G n P Q fb w) : c.wpIn G n P Q a w:=h a F
theorem Has.param (F : Has N D a L) {p : Nat} (hp : p < N) (v : Value) : Has N [] { tmps:=(#[p].zip #[v]).foldl (fun t (p,v)=>t.setIfInBounds p v) a.tmps,defers:=[] } ((p,v) :: L):=by
 have h:=F.put hp v
 have e : ({ tmps:=(#[p].zip #[v]).foldl (fun t (p,v)=>t.setIfInBounds p v) a.tmps,defers:=[] } : Act) = { a.put (some p) v with defers:=[] }:=by simp [Act.put]
 rw [e]
 exact ⟨rfl,h.sz,h.get⟩
end
theorem keep_map {w w2 : World} {b c : Nat} {out : List (List Int)} {cs : Array Value} {T : TypeId} {fz : Nat × Nat} (h : MapT w b out) (hg : w.grownBy w2 (some b)) (q : w.heap[c]? = some (.cells cs T fz)) : w2.heap[c]? = some (.cells cs T fz):=
 (hg.block c (blk_lt q) (fun e=>h.ne q (fun _ _ h=>by cases h) (by simpa using e.symm))).trans q
theorem owns_map {w w2 : World} {b base n size : Nat} {e : TypeId} {v : Value} {xs : List Value} {out : List (List Int)} (h : MapT w b out) (hg : w.grownBy w2 (some b)) (ho : w.ownsRow base e size v n xs) : w2.ownsRow base e size v n xs:=by
 refine ho.kept hg ?_
 rcases ho.2 with ⟨rfl,_⟩ | ⟨g,cap,cur,rfl,_,hgb,_⟩
 ·exact .inl rfl
 ·exact .inr fun e=>h.ne hgb (fun _ _ h=>by cases h) (by simpa [Value.ownBlock] using e.symm)
theorem ext_mapX {X : List Nat} {a w w2 : World} {b : Nat} (h : Ext X a w) (hg : w.grownBy w2 (some b)) (hb : b < a.heap.size → b ∈ X) : Ext X a w2:=
 ⟨hg.os.trans h.os,hg.tape.trans h.tape,hg.output.trans h.output,Nat.le_trans h.size hg.size,fun k hk hx=>(hg.block k (Nat.lt_of_lt_of_le hk h.size) (fun e=>by cases e;exact hx (hb hk))).trans (h.block k hk hx)⟩
theorem ext_grownX {X : List Nat} {a w w2 : World} {row : Option Nat} (h : Ext X a w) (hg : w.grownBy w2 row) (hb : ∀ b,row = some b → b < a.heap.size → b ∈ X) : Ext X a w2:=
 ⟨hg.os.trans h.os,hg.tape.trans h.tape,hg.output.trans h.output,Nat.le_trans h.size hg.size,fun k hk hx=>(hg.block k (Nat.lt_of_lt_of_le hk h.size) (fun e=>by cases e;exact hx (hb _ rfl hk))).trans (h.block k hk hx)⟩
theorem keeps_ext {B : Nat} {X : List Nat} {W W' : World} (h : Ext X W W') (hX : ∀ b ∈ X,b < B ∨ ∃ cs T fz,W.heap[b]? = some (.cells cs T fz)) : KeepsFrom B W W':=
 ⟨h.size,fun k o hk ho hc=>h.keep ho fun hm=>by
  rcases hX k hm with h1 | ⟨cs,T,fz,h1⟩
  ·omega
  ·rw [h1] at ho;cases ho;cases hc⟩
theorem keepR_ext {X Y : List Nat} {ob : Nat} {W W' : World} (h : Ext X W W') (hX : ∀ k cs T fz,W.heap[k]? = some (.cells cs T fz) → Safe Y ob k W → k ∉ X) (hr : rowOf ob W' = rowOf ob W ∨ ∀ r,rowOf ob W' = some r → W.heap.size ≤ r) : KeepR Y ob W W':=
 ⟨h.size,fun k cs T fz hk hs=>h.keep hk (hX k cs T fz hk hs),hr⟩
theorem keepR_ext0 {Y : List Nat} {ob : Nat} {W W' : World} (h : Ext [] W W') (hob : ob < W.heap.size) : KeepR Y ob W W':=
 keepR_ext h (fun _ _ _ _ _ _=>by simp) (.inl (rowOf_ext (h.block ob hob (by simp))))
def tubE (f g : Nat → Int) : Bool:=(List.range 4).all fun i=>decide (f i = g i)
theorem tubE_iff {f g : Nat → Int} : tubE f g = true ↔ ∀ k,k < 4 → f k = g k:=by
 simp [tubE,List.all_eq_true]
theorem eql_tub (f g : Nat → Int) (w : World) : (Op.equalIn 10000 83 (.agg (tubC f)) (.agg (tubC g))).run Try.prog w = .ok (tubE f g) w:=by
 refine run_equalIn_array (n:=1) Try.underlying83 (by kernel_rfl) _ fun i hi=>?_
 refine ⟨.int .i64 (f i),.int .i64 (g i),?_,?_,run_equalIn_int w _ _ .i64 .i64 _ _ Try.underlying3⟩
 ·rcases i with _ | _ | _ | _ | i
  ·exact part_int rfl
  ·exact part_int rfl
  ·exact part_int rfl
  ·exact part_int rfl
  ·omega
 ·rcases i with _ | _ | _ | _ | i
  ·exact part_int rfl
  ·exact part_int rfl
  ·exact part_int rfl
  ·exact part_int rfl
  ·omega
section
variable {ρ : Operand → Value} {o : Oper} {w : World}
theorem R_neqTub {x y : Operand} {t' : TypeId} {f g : Nat → Int} (ho : o.op = .binOp .neq 83 x y t') (hx : ρ x = .agg (tubC f)) (hy : ρ y = .agg (tubC g)) :
  (execOp ρ o).run Try.prog w = .ok (.value (.bool (!tubE f g))) w:=by
 have hg : Try.prog.eqGuardType Try.prog.depth 83 = false:=by kernel_rfl
 unfold execOp
 simp only [ho,hx,hy,Sem.run_bind,run_eqGuard_agg w .neq 83 x y (tubC f) (tubC g) hg,Result.andThen_ok,run_neq_struct,eql_tub,Sem.run_pure]
theorem R_lookupS {x y : Operand} {b : Nat} {out : List (List Int)} {f : Nat → Int} (ho : o.op = .lookup 141 x y false) (hx : ρ x = .map (some b)) (hy : ρ y = .agg (tubC f)) (hf : TubS f) (h : MapT w b out) :
  ∃ v,(execOp ρ o).run Try.prog w = .ok (.value v) w ∧ ∃ c,v = .bool c ∧ ((∀ t ∈ out,∃ k,k < 4 ∧ f k ≠ val t k) → c = false):=by
 obtain ⟨c,h1,h2⟩:=R_lookupT ho hx hy hf h
 exact ⟨_,h1,c,rfl,h2⟩
end
instance (f : Nat → Int) : Decidable (TubS f):=inferInstanceAs (Decidable (∀ k,k < 4 → 0 ≤ f k ∧ f k ≤ 6))
theorem recL_all : ∀ nd,nd < 5 → (recL nd).Nodup ∧ ∀ q ∈ recL nd,q.length = nd ∧ TubS (val q) ∧ 0 < gcE (val q) ∧ 1 ≤ q.sum ∧ q.sum ≤ 6 ∧ ∀ n ∈ q,0 ≤ n ∧ n ≤ 6:=by decide +kernel
theorem recL_len : ∀ nd,nd < 5 → (recL nd).length ≤ 500:=by decide +kernel
theorem low_one {f : Nat → Int} (h : gcE f = 1) {k : Nat} (hk : k < 4) : lowF f (gcE f) 4 k = f k:=by
 rw [lowF,if_pos hk,h];simp
theorem low_s {f : Nat → Int} (hf : TubS f) (hg : 0 < gcE f) : TubS (lowF f (gcE f) 4):=by
 intro k hk
 obtain ⟨h0,h1⟩:=hf k hk
 rw [lowF,if_pos hk]
 have h2 : (1 : Int) ≤ (gcE f : Int):=by omega
 refine ⟨Int.ediv_nonneg h0 (by omega),Int.le_trans (Int.ediv_le_self _ h0) h1⟩
theorem gcT_zero {f : Nat → Int} : ∀ {n : Nat},(∀ k,k < n → f k ≤ 0) → gcT f n = 0
 | 0,_=>rfl
 | n + 1,h=>by
  rw [gcT,gcT_zero (n:=n) fun k hk=>h k (by omega),show (f n).toNat = 0 by have:=h n (by omega);omega,Nat.gcd_zero_right]
theorem low_eq {f : Nat → Int} (hf : TubS f) (hg : 0 < gcE f) (h : tubE (lowF f (gcE f) 4) f = true) : gcE f = 1:=by
 rw [tubE_iff] at h
 by_cases hz : ∀ k,k < 4 → f k ≤ 0
 ·rw [gcE,gcT_zero hz] at hg;omega
 ·simp only [Classical.not_forall] at hz
  obtain ⟨k,hk,hp⟩:=hz
  have h1:=h k hk
  rw [lowF,if_pos hk] at h1
  obtain ⟨h0,-⟩:=hf k hk
  by_cases h2 : (gcE f : Int) ≥ 2
  ·have h3 : f k / (gcE f : Int) < f k:=Int.ediv_lt_of_lt_mul (by omega) (by
    have : f k * 2 ≤ f k * (gcE f : Int):=Int.mul_le_mul_of_nonneg_left h2 h0
    omega)
   omega
  ·omega
theorem low_tub {f : Nat → Int} (h : gcE f = 1) : (!tubE (lowF f (gcE f) 4) f) = false:=by rw [tubE_iff.2 fun k hk=>low_one h hk];rfl
theorem bnot_t {b : Bool} (h : (!b) = true) : b = false:=by cases b;rfl;cases h
theorem bnot_f {b : Bool} (h : (!b) = false) : b = true:=by cases b;cases h;rfl
def cndE (x : Vm) (s : Nat → Int) (ls : List Int) (t : List Int) : Bool:=decide (gcE (val t) = 1) && matE x (val t) s ls
def matL (x : Vm) (s : Nat → Int) (ls : List Int) : List (List Int):=(recL x.D.length).filter (cndE x s ls)
theorem cnd_gc {x : Vm} {s : Nat → Int} {ls t : List Int} (h : gcE (val t) ≠ 1) : cndE x s ls t = false:=by rw [cndE,decide_eq_false h];rfl
theorem cnd_mat {x : Vm} {s : Nat → Int} {ls t : List Int} (h : matE x (val t) s ls = false) : cndE x s ls t = false:=by rw [cndE,h,Bool.and_false]
theorem cnd_yes {x : Vm} {s : Nat → Int} {ls t : List Int} (h1 : gcE (val t) = 1) (h : matE x (val t) s ls = true) : cndE x s ls t = true:=by rw [cndE,h,Bool.and_true];exact decide_eq_true h1
theorem val_ne {t q : List Int} (hl : t.length = q.length) (h4 : t.length ≤ 4) (h : t ≠ q) : ∃ k,k < 4 ∧ val q k ≠ val t k:=by
 apply Classical.byContradiction
 intro hn
 refine h (List.ext_getElem hl fun k h1 h2=>?_)
 apply Classical.byContradiction
 intro he
 refine hn ⟨k,by omega,fun e=>he ?_⟩
 simpa [val,h1,h2] using e.symm
structure MatI (x : Vm) (sv lv : Value) (w : World) (B n3 n4 n5 n7 n8 mb : Nat) (out : List (List Int)) (va : Option Addr) (vc : Nat) (W : World) : Prop where
 q3 : W.heap[n3]? = some (.cells #[.int .i64 x.B,.slice x.da x.D.length x.dc,.slice x.la x.L.length x.lc,.int .i64 x.tol] 80 (0,0))
 q4 : W.heap[n4]? = some (.cells #[sv] 25 (0,0))
 q5 : W.heap[n5]? = some (.cells #[lv] 25 (0,0))
 q7 : W.heap[n7]? = some (.cells #[.slice va out.length vc] 102 (0,0))
 q8 : W.heap[n8]? = some (.cells #[.map (some mb)] 141 (0,0))
 oo : W.ownsRow w.heap.size 83 4 (.slice va out.length vc) out.length (tubsV out)
 mp : MapT W mb out
 E : Ext [] w W
 sz : B ≤ W.heap.size
theorem MatI.kept {x : Vm} {sv lv : Value} {w : World} {n3 n4 n5 n7 n8 mb B : Nat} {out : List (List Int)} {va : Option Addr} {vc : Nat} {W V : World} {row : Option Nat} (h : MatI x sv lv w B n3 n4 n5 n7 n8 mb out va vc W) (hg : W.grownBy V row) (h1 : ∀ r,row = some r → B ≤ r)
  (h2 : ∀ r,row = some r → (Value.slice va out.length vc).ownBlock ≠ some r) (hB : n3 < B ∧ n4 < B ∧ n5 < B ∧ n7 < B ∧ n8 < B ∧ mb < B ∧ w.heap.size ≤ B) : MatI x sv lv w B n3 n4 n5 n7 n8 mb out va vc V:=by
 obtain ⟨b3,b4,b5,b7,b8,bm,bw⟩:=hB
 have hk : ∀ {k : Nat} {cs : Array Value} {T : TypeId} {fz : Nat × Nat},W.heap[k]? = some (.cells cs T fz) → k < B → V.heap[k]? = some (.cells cs T fz):=
  fun {k cs T fz} hq hb=>(hg.block k (blk_lt hq) (fun e=>by have:=h1 k e.symm;omega)).trans hq
 refine ⟨hk h.q3 b3,hk h.q4 b4,hk h.q5 b5,hk h.q7 b7,hk h.q8 b8,h.oo.kept hg ?_,h.mp.kept hg (fun e=>by have:=h1 mb e.symm;omega),ext_grownX h.E hg fun b e hl=>(by have:=h1 b e;omega),Nat.le_trans h.sz hg.size⟩
 cases hrow : row with
 | none =>
  cases hob : (Value.slice va out.length vc).ownBlock with
  | none=>exact .inl rfl
  | some g=>exact .inr (by simp)
 | some r=>exact .inr (h2 r hrow)
theorem mat_skip {x : Vm} {sv lv : Value} {w : World} {n3 n4 n5 n7 n8 mb B : Nat} {out : List (List Int)} {va : Option Addr} {vc : Nat} {W : World} {p : List Int → Bool} {q : List Int} (hp : p q = false) (h : MatI x sv lv w B n3 n4 n5 n7 n8 mb out va vc W) : ∃ va vc,MatI x sv lv w B n3 n4 n5 n7 n8 mb (if p q then out ++ [q] else out) va vc W:=by
 rw [hp];exact ⟨va,vc,h⟩
theorem mat_take {x : Vm} {sv lv : Value} {w : World} {n3 n4 n5 n7 n8 mb B : Nat} {out : List (List Int)} {va : Option Addr} {vc : Nat} {W : World} {p : List Int → Bool} {q : List Int} (hp : p q = true) (h : MatI x sv lv w B n3 n4 n5 n7 n8 mb (out ++ [q]) va vc W) : ∃ va vc,MatI x sv lv w B n3 n4 n5 n7 n8 mb (if p q then out ++ [q] else out) va vc W:=by
 rw [hp];exact ⟨va,vc,h⟩
theorem rowOf_at {ob : Nat} {W : World} {v : Value} {T : TypeId} {fz : Nat × Nat} (h : W.heap[ob]? = some (.cells #[v] T fz)) : rowOf ob W = v.ownBlock:=by rw [rowOf,h];rfl
theorem one_row (v : Value) (d : Nat) : ∃ r,(∀ b,v.ownBlock = some b → b = r) ∧ (v.ownBlock = some r ∨ r = d):=by
 cases h : v.ownBlock with
 | none=>exact ⟨d,fun b e=>(by cases e),.inr rfl⟩
 | some r=>exact ⟨r,fun b e=>(by cases e;rfl),.inl rfl⟩
theorem own_cells {w : World} {base n size : Nat} {e : TypeId} {v : Value} {xs : List Value} (h : w.ownsRow base e size v n xs) {r : Nat} (hr : v.ownBlock = some r) : ∃ cs T fz,w.heap[r]? = some (.cells cs T fz):=by
 rcases h.2 with ⟨rfl,_⟩ | ⟨g,cap,cur,rfl,_,hgb,_⟩
 ·cases hr
 ·obtain rfl : g = r:=by simpa [Value.ownBlock] using hr
  exact ⟨_,_,_,hgb⟩
theorem filter_snoc {α : Type} (p : α → Bool) (l : List α) (x : α) : (l ++ [x]).filter p = if p x then l.filter p ++ [x] else l.filter p:=by
 rw [List.filter_append]
 by_cases h : p x = true
 ·simp [h]
 ·simp [h]
theorem tubsV_snoc (out : List (List Int)) (t : List Int) : tubsV out ++ tubR (val t) = tubsV (out ++ [t]):=by simp [tubsV]
set_option maxRecDepth 100000 in
set_option maxHeartbeats 4000000 in
theorem matching_ok (x : Vm) (hv : VOk x) (s : List Int) (hs : SmpOk x s) (ls : List Int) (hl : LmpOk x ls) (hll : ls.length ≤ 1000) (sa la : Option Addr) (sc lc : Nat) (w : World) (h : x.At w) (hr : IsRows w (.slice sa s.length sc) 1 (s.map intRow)) (hq : IsRows w (.slice la ls.length lc) 1 (ls.map intRow)) :
  Calls Try.prog 94 #[.agg #[.int .i64 x.B,.slice x.da x.D.length x.dc,.slice x.la x.L.length x.lc,.int .i64 x.tol],.slice sa s.length sc,.slice la ls.length lc] w fun e w'=>∃ a c,e = .returned (.slice a (matL x (val s) ls).length c) ∧ w'.ownsRow w.heap.size 83 4 (.slice a (matL x (val s) ls).length c) (matL x (val s) ls).length (tubsV (matL x (val s) ls)) ∧ Ext [] w w':=by
 have E : Ext [] w w:=Ext.refl _ _
 have HX:=Lib.hid h
 have HV:=Lib.hid hv
 have HS:=Lib.hid hs
 have HR:=Lib.hid hr
 have HQ:=Lib.hid hq
 have HL:=Lib.hid hl
 have hd4:=hv.d4
 obtain ⟨hnd,hrl⟩:=recL_all x.D.length (by omega)
 have HND:=Lib.hid hnd
 have HRL:=Lib.hid hrl
 clear h hv hs hr hq hl hnd hrl
 refine calls_hasM 40 Try.func94 rfl Try.ntmps94 (Nat.le_of_ble_eq_true rfl) ?_
 intro fa F
 refine wp_seq_k fun K1 hK1=>?_
 refine wp_region_lit ?_
 refine sq_new F rfl (by decide) rfl (R_box rfl (F.at rfl)) ?_;clear F fa;intro fa w1 F hw
 obtain ⟨n3,hn⟩ : ∃ n,n = w.heap.size:=⟨_,rfl⟩
 rw [← hn] at F
 have s3 : w.heap.size ≤ n3:=Nat.le_of_eq hn.symm
 have l3_E : w.heap.size ≤ n3:=by rw [hn];exact E.size
 replace E:=ext_alloc E hw
 have q3:=new_row hw hn
 clear hw hn
 refine sq_new F rfl (by decide) rfl (R_box rfl (F.at rfl)) ?_;clear F fa;intro fa w2 F hw
 obtain ⟨n4,hn⟩ : ∃ n,n = w1.heap.size:=⟨_,rfl⟩
 rw [← hn] at F
 have s4 : w1.heap.size ≤ n4:=Nat.le_of_eq hn.symm
 have l4_E : w.heap.size ≤ n4:=by rw [hn];exact E.size
 have m4_3 : n3 < n4:=by rw [hn];exact blk_lt q3
 replace q3:=keep_alloc hw q3
 replace E:=ext_alloc E hw
 have q4:=new_one hw rfl hn
 clear hw hn
 refine sq_new F rfl (by decide) rfl (R_box rfl (F.at rfl)) ?_;clear F fa;intro fa w3 F hw
 obtain ⟨n5,hn⟩ : ∃ n,n = w2.heap.size:=⟨_,rfl⟩
 rw [← hn] at F
 have s5 : w2.heap.size ≤ n5:=Nat.le_of_eq hn.symm
 have l5_E : w.heap.size ≤ n5:=by rw [hn];exact E.size
 have m5_3 : n3 < n5:=by rw [hn];exact blk_lt q3
 have m5_4 : n4 < n5:=by rw [hn];exact blk_lt q4
 replace q3:=keep_alloc hw q3
 replace q4:=keep_alloc hw q4
 replace E:=ext_alloc E hw
 have q5:=new_one hw rfl hn
 clear hw hn
 refine F.vl (R_assign rfl (ev_c fa _)) ?_;clear F fa;intro fa F
 refine wpList_nil ?_
 refine hK1 _ _ ?_
 clear hK1
 refine wp_seq_k fun K2 hK2=>?_
 refine wp_region_lit ?_
 refine sq_new F rfl (by decide) rfl (R_alloc rfl Try.zeroValue102) ?_;clear F fa;intro fa w4 F hw
 obtain ⟨n7,hn⟩ : ∃ n,n = w3.heap.size:=⟨_,rfl⟩
 rw [← hn] at F
 have s7 : w3.heap.size ≤ n7:=Nat.le_of_eq hn.symm
 have l7_E : w.heap.size ≤ n7:=by rw [hn];exact E.size
 have m7_3 : n3 < n7:=by rw [hn];exact blk_lt q3
 have m7_4 : n4 < n7:=by rw [hn];exact blk_lt q4
 have m7_5 : n5 < n7:=by rw [hn];exact blk_lt q5
 replace q3:=keep_alloc hw q3
 replace q4:=keep_alloc hw q4
 replace q5:=keep_alloc hw q5
 replace E:=ext_alloc E hw
 have q7:=new_one hw rfl hn
 clear hw hn
 refine wpList_nil ?_
 refine hK2 _ _ ?_
 clear hK2
 refine wp_seq_k fun K3 hK3=>?_
 refine wp_region_lit ?_
 refine sq_new F rfl (by decide) rfl (R_makeMap rfl) ?_;clear F fa;intro fa w5 F hw
 obtain ⟨n11,hn⟩ : ∃ n,n = w4.heap.size:=⟨_,rfl⟩
 rw [← hn] at F
 have s11 : w4.heap.size ≤ n11:=Nat.le_of_eq hn.symm
 have l11_E : w.heap.size ≤ n11:=by rw [hn];exact E.size
 have m11_3 : n3 < n11:=by rw [hn];exact blk_lt q3
 have m11_4 : n4 < n11:=by rw [hn];exact blk_lt q4
 have m11_5 : n5 < n11:=by rw [hn];exact blk_lt q5
 have m11_7 : n7 < n11:=by rw [hn];exact blk_lt q7
 replace q3:=keep_alloc hw q3
 replace q4:=keep_alloc hw q4
 replace q5:=keep_alloc hw q5
 replace q7:=keep_alloc hw q7
 replace E:=ext_alloc E hw
 have map11 : MapT w5 n11 []:=by rw [hw,hn];exact map_made _
 clear hw hn
 refine sq_new F rfl (by decide) rfl (R_alloc rfl Try.zeroValue141) ?_;clear F fa;intro fa w6 F hw
 obtain ⟨n8,hn⟩ : ∃ n,n = w5.heap.size:=⟨_,rfl⟩
 rw [← hn] at F
 have s8 : w5.heap.size ≤ n8:=Nat.le_of_eq hn.symm
 have l8_E : w.heap.size ≤ n8:=by rw [hn];exact E.size
 have m8_3 : n3 < n8:=by rw [hn];exact blk_lt q3
 have m8_4 : n4 < n8:=by rw [hn];exact blk_lt q4
 have m8_5 : n5 < n8:=by rw [hn];exact blk_lt q5
 have m8_7 : n7 < n8:=by rw [hn];exact blk_lt q7
 replace map11:=map_alloc hw map11
 replace q3:=keep_alloc hw q3
 replace q4:=keep_alloc hw q4
 replace q5:=keep_alloc hw q5
 replace q7:=keep_alloc hw q7
 replace E:=ext_alloc E hw
 have q8:=new_one hw rfl hn
 clear hw hn
 refine sq_to rfl rfl (R_store rfl (F.at rfl) (F.at rfl) rfl (by kernel_rfl) ((cells_of_block q8 0).trans (get0)) (free_of_block q8 0)) ?_;intro w7 hw
 replace map11:=map_cell hw map11 q8
 replace q3:=keep_cell hw q3 (by omega)
 replace q4:=keep_cell hw q4 (by omega)
 replace q5:=keep_cell hw q5 (by omega)
 replace q7:=keep_cell hw q7 (by omega)
 replace q8:=put_cell hw q8 (by simp only [List.setIfInBounds_toArray,lsQ,lzQ];exact rfl)
 replace E:=ext_cell E hw (fun h=>by first | exact absurd h (by omega) | simp)
 clear hw
 refine wpList_nil ?_
 refine hK3 _ _ ?_
 clear hK3
 refine wp_seq_k fun K4 hK4=>?_
 refine wp_seq_k fun K5 hK5=>?_
 refine wp_region_lit ?_
 refine F.vl (R_loadBlk rfl (F.at rfl) Try.underlying80 rfl (by kernel_rfl) q3) ?_;clear F fa;intro fa F
 have b7':=blk_lt q7
 refine sq_call F rfl (by decide) rfl (R_callV rfl rfl Try.call58 (mpS (F.at rfl) mp0)) (recipes_any x _) fun e w8 hR=>?_
 obtain ⟨nb,rfl,hnb,qb,e9⟩:=hR
 refine ⟨_,rfl,?_⟩;clear F fa;intro fa F
 replace map11:=map_ext map11 (e9)
 replace q3:=(e9).keep0 q3
 replace q4:=(e9).keep0 q4
 replace q5:=(e9).keep0 q5
 replace q7:=(e9).keep0 q7
 replace q8:=(e9).keep0 q8
 replace E:=ext_same E (e9)
 clear e9
 refine wpList_nil ?_
 refine hK5 _ _ ?_
 clear hK5
 refine wp_block ?_
 obtain ⟨w3,hw3⟩ : ∃ w3,w3 = w8:=⟨_,rfl⟩
 have b3:=blk_lt q3
 have b4:=blk_lt q4
 have b5:=blk_lt q5
 have b7:=blk_lt q7
 have b8:=blk_lt q8
 have bb:=blk_lt qb
 have bw:=E.size
 have bm : n11 < w8.heap.size:=(by obtain ⟨es,ck,hm⟩:=map11.obj;exact blk_lt hm)
 have hr0 : rowOf n7 w8 = none:=rowOf_at q7
 have hseq:=recipes1_seq x hd4 [] n7 nb w8 b7 (by simp) (fun r e=>by rw [hr0] at e;cases e) ⟨by simp,by omega,by rw [hr0];simp⟩ qb
 have hI0 : ∃ va vc,MatI x (.slice sa s.length sc) (.slice la ls.length lc) w w8.heap.size n3 n4 n5 n7 n8 n11 (([] : List (List Int)).filter (cndE x (val s) ls)) va vc w8:=⟨none,0,q3,q4,q5,q7,q8,World.ownsRow_nil _ _ _ _,map11,E,Nat.le_refl _⟩
 replace F:=F.sub (.c 3 rfl (.c 4 rfl (.c 5 rfl (.c 7 rfl (.c 8 rfl (.c 13 rfl .n))))))
 refine range_R (F.at rfl) Try.call102 hseq (fun _=>rfl) b7 (fun pre W=>∃ va vc,MatI x (.slice sa s.length sc) (.slice la ls.length lc) w w8.heap.size n3 n4 n5 n7 n8 n11 (pre.filter (cndE x (val s) ls)) va vc W) ?h1 ?ho ?hc hI0 (fun pre q a' W=>∃ nt va vc,Has 40 [] a' [(3,.pointer (some ⟨n3,0,none⟩)),(4,.pointer (some ⟨n4,0,none⟩)),(5,.pointer (some ⟨n5,0,none⟩)),(7,.pointer (some ⟨n7,0,none⟩)),(8,.pointer (some ⟨n8,0,none⟩)),(9,.pointer (some ⟨nt,0,none⟩))] ∧ MatI x (.slice sa s.length sc) (.slice la ls.length lc) w w8.heap.size n3 n4 n5 n7 n8 n11 (pre.filter (cndE x (val s) ls)) va vc W ∧ W.heap[nt]? = some (.cells (tubC (val q)) 83 (0,0)) ∧ w8.heap.size ≤ nt ∧ some nt ≠ (Value.slice va (pre.filter (cndE x (val s) ls)).length vc).ownBlock) ?hax ?assign ?body ?done
 case h1=>rintro pre U V ⟨va,vc,hI⟩ hg;exact ⟨va,vc,hI.kept hg (fun r e=>by cases e) (fun r e=>by cases e) ⟨b3,b4,b5,b7,b8,bm,bw⟩⟩
 case ho=>rintro pre U V r ⟨va,vc,hI⟩ hr ⟨o,ho,hc⟩ hg;refine ⟨va,vc,hI.kept hg (fun r' e=>by cases e;exact hr) (fun r' e e2=>?_) ⟨b3,b4,b5,b7,b8,bm,bw⟩⟩;cases e;obtain ⟨cs,T,fz,hx⟩:=own_cells hI.oo e2;rw [ho] at hx;cases hx;cases hc
 case hc=>rintro pre U V r ⟨va,vc,hI⟩ hr hsf - hg;exact ⟨va,vc,hI.kept hg (fun r' e=>by cases e;exact hr) (fun r' e e2=>by cases e;exact hsf.2.2 (by rw [rowOf_at hI.q7];exact e2)) ⟨b3,b4,b5,b7,b8,bm,bw⟩⟩
 case hax=>rintro pre q a' U V r ⟨nt,va,vc,hF,hI,ht,hn,hno⟩ hr ⟨o,ho,hc⟩ hg;refine ⟨nt,va,vc,hF,hI.kept hg (fun r' e=>by cases e;exact hr) (fun r' e e2=>?_) ⟨b3,b4,b5,b7,b8,bm,bw⟩,(hg.block nt (blk_lt ht) (fun e=>?_)).trans ht,hn,hno⟩ <;> cases e;(· obtain ⟨cs,T,fz,hx⟩:=own_cells hI.oo e2;rw [ho] at hx;cases hx;cases hc);(· rw [ho] at ht;cases ht;cases hc)
 case assign =>
  clear map11 q3 q4 q5 q7 q8 qb E hI0
  rintro l pre q W K ⟨va,vc,⟨q3,q4,q5,q7,q8,oo,mapm,E,hsz⟩⟩ hK
  have hbo:=blk_lt q7
  refine wpIn_act (F.param (p:=14) (by decide) (.agg (tubC (val q)))) ?_
  clear F fa
  intro fa F
  have ER : Ext [] W W:=Ext.refl _ _
  refine wpI_region_lit rfl (fun h=>by obtain ⟨_,_,h⟩:=h;exact h) ?_
  refine sq_new F rfl (by decide) rfl (R_alloc rfl Try.zeroValue83) ?_;clear F fa;intro fa w9 F hw
  obtain ⟨n9,hn⟩ : ∃ n,n = W.heap.size:=⟨_,rfl⟩
  rw [← hn] at F
  have s9 : W.heap.size ≤ n9:=Nat.le_of_eq hn.symm
  have l9_E : w.heap.size ≤ n9:=by rw [hn];exact E.size
  have l9_ER : W.heap.size ≤ n9:=by rw [hn];exact ER.size
  have m9_3 : n3 < n9:=by rw [hn];exact blk_lt q3
  have m9_4 : n4 < n9:=by rw [hn];exact blk_lt q4
  have m9_5 : n5 < n9:=by rw [hn];exact blk_lt q5
  have m9_7 : n7 < n9:=by rw [hn];exact blk_lt q7
  have m9_8 : n8 < n9:=by rw [hn];exact blk_lt q8
  have o9_oo:=Lib.hid (own_ne_new oo hn)
  replace oo:=owns_alloc hw oo
  replace mapm:=map_alloc hw mapm
  replace q3:=keep_alloc hw q3
  replace q4:=keep_alloc hw q4
  replace q5:=keep_alloc hw q5
  replace q7:=keep_alloc hw q7
  replace q8:=keep_alloc hw q8
  replace E:=ext_alloc E hw
  replace ER:=ext_alloc ER hw
  have q9:=new_row hw hn
  clear hw hn
  refine sq_to rfl rfl (R_storeRow rfl (F.at rfl) (F.at rfl) (by kernel_rfl) (by simp [tubC,Value.oneCell']) q9 rfl) ?_;intro w10 hw
  replace oo:=owns_cellsX hw oo o9_oo.out
  replace mapm:=map_cells hw mapm q9
  replace q3:=keep_cells hw q3 (by omega)
  replace q4:=keep_cells hw q4 (by omega)
  replace q5:=keep_cells hw q5 (by omega)
  replace q7:=keep_cells hw q7 (by omega)
  replace q8:=keep_cells hw q8 (by omega)
  replace q9:=put_row hw q9 rfl
  replace E:=ext_cells E hw (fun h=>by first | exact absurd h (by omega) | simp)
  replace ER:=ext_cells ER hw (fun h=>by first | exact absurd h (by omega) | simp)
  clear hw
  refine wpList_nil ?_
  exact hK _ _ (keeps_ext ER (by simp)) (keepR_ext0 ER hbo) ⟨n9,va,vc,F.sub (.c 3 rfl (.c 4 rfl (.c 5 rfl (.c 7 rfl (.c 8 rfl (.c 9 rfl .n)))))),⟨q3,q4,q5,q7,q8,oo,mapm,E,Nat.le_trans hsz ER.size⟩,q9,by omega,o9_oo.out⟩
 case body =>
  clear map11 q3 q4 q5 q7 q8 qb E hI0 F fa
  rintro l pre q fa W ⟨nt,va,vc,F,⟨q3,q4,q5,q7,q8,oo,mapm,E,hsz⟩,q9,hnt,hno⟩ hpx
  have hqm : q ∈ recL x.D.length:=hpx.subset (by simp)
  obtain ⟨hql,hqs,hqg,hq1,hq6,hqb⟩:=HRL.out q hqm
  have hqn : q ∉ pre:=fun hm=>(by have hn:=hpx.sublist.nodup HND.out;rw [List.nodup_append] at hn;exact hn.2.2 q hm q (by simp) rfl)
  have hplen : pre.length ≤ 500:=(by have h1:=hpx.length_le;have h2:=recL_len x.D.length (by omega);rw [List.length_append] at h1;omega)
  have hsn:=filter_snoc (cndE x (val s) ls) pre q
  have hfr : gcE (val q) = 1 → ∀ t ∈ pre.filter (cndE x (val s) ls),∃ k,k < 4 ∧ lowF (val q) (gcE (val q)) 4 k ≠ val t k:=fun hg t ht=>(by have htp:=(List.mem_filter.1 ht).1;have htl:=(HRL.out t (hpx.subset (by simp [htp]))).1;obtain ⟨k,hk,hne⟩:=val_ne (t:=t) (q:=q) (by omega) (by omega) (fun e=>hqn (by rw [← e];exact htp));exact ⟨k,hk,by rw [low_one hg hk];exact hne⟩)
  have hol : (pre.filter (cndE x (val s) ls)).length < 1000:=(by have:=List.length_filter_le (cndE x (val s) ls) pre;omega)
  obtain ⟨out,hout⟩ : ∃ out,out = pre.filter (cndE x (val s) ls):=⟨_,rfl⟩
  rw [← hout] at q7 oo mapm hsn hfr hol hno
  have o9_oo:=Lib.hid hno
  obtain ⟨r,hrr,hrd⟩:=one_row (.slice va out.length vc) n11
  have hro : rowOf n7 W = (Value.slice va out.length vc).ownBlock:=rowOf_at q7
  have hrc : ∀ b ∈ [n11,n7,r],b < w3.heap.size ∨ ∃ cs T fz,W.heap[b]? = some (.cells cs T fz):=(by intro b hb;simp only [List.mem_cons,List.not_mem_nil,or_false] at hb;rcases hb with rfl | rfl | rfl;(· exact .inl (by rw [hw3];exact bm));(· exact .inl (by rw [hw3];exact b7));(· rcases hrd with h | h;(· exact .inr (own_cells oo h));(· rw [h];exact .inl (by rw [hw3];exact bm))))
  have hkx : ∀ k cs T fz,W.heap[k]? = some (.cells cs T fz) → Safe [] n7 k W → k ∉ [n11,n7,r]:=(by intro k cs T fz hk hsf hm;simp only [List.mem_cons,List.not_mem_nil,or_false] at hm;rcases hm with rfl | rfl | rfl;(· exact mapm.ne hk (fun _ _ h=>by cases h) rfl);(· exact hsf.2.1 rfl);(· rcases hrd with h | h;(· exact hsf.2.2 (by rw [hro];exact h));(· exact mapm.ne hk (fun _ _ h=>by cases h) h.symm)))
  have ER : Ext [n11,n7,r] W W:=Ext.refl _ _
  refine wpIn_block ?_
  refine wpIn_seq_k fun K6 hK6=>?_
  refine wpI_region_lit rfl (fun h=>by obtain ⟨_,_,h⟩:=h;exact h) ?_
  refine F.vl (R_loadBlk rfl (F.at rfl) Try.underlying83 rfl (by kernel_rfl) q9) ?_;clear F fa;intro fa F
  refine sq_call F rfl (by decide) rfl (R_callV rfl rfl Try.call118 (mpS (F.at rfl) mp0)) (lowest_ok (val q) hqs hqg _) fun e w11 hR=>?_
  obtain ⟨rfl,e9⟩:=hR
  refine ⟨_,rfl,?_⟩;clear F fa;intro fa F
  replace oo:=owns_ext oo (e9) (by simp)
  replace mapm:=map_ext mapm (e9)
  replace q3:=(e9).keep0 q3
  replace q4:=(e9).keep0 q4
  replace q5:=(e9).keep0 q5
  replace q7:=(e9).keep0 q7
  replace q8:=(e9).keep0 q8
  replace q9:=(e9).keep0 q9
  replace E:=ext_same E (e9)
  replace ER:=ext_same ER (e9)
  clear e9
  refine sq_new F rfl (by decide) rfl (R_alloc rfl Try.zeroValue83) ?_;clear F fa;intro fa w12 F hw
  obtain ⟨n10,hn⟩ : ∃ n,n = w11.heap.size:=⟨_,rfl⟩
  rw [← hn] at F
  have s10 : w11.heap.size ≤ n10:=Nat.le_of_eq hn.symm
  have l10_E : w.heap.size ≤ n10:=by rw [hn];exact E.size
  have l10_ER : W.heap.size ≤ n10:=by rw [hn];exact ER.size
  have m10_3 : n3 < n10:=by rw [hn];exact blk_lt q3
  have m10_4 : n4 < n10:=by rw [hn];exact blk_lt q4
  have m10_5 : n5 < n10:=by rw [hn];exact blk_lt q5
  have m10_7 : n7 < n10:=by rw [hn];exact blk_lt q7
  have m10_8 : n8 < n10:=by rw [hn];exact blk_lt q8
  have m10_9 : nt < n10:=by rw [hn];exact blk_lt q9
  have o10_oo:=Lib.hid (own_ne_new oo hn)
  replace oo:=owns_alloc hw oo
  replace mapm:=map_alloc hw mapm
  replace q3:=keep_alloc hw q3
  replace q4:=keep_alloc hw q4
  replace q5:=keep_alloc hw q5
  replace q7:=keep_alloc hw q7
  replace q8:=keep_alloc hw q8
  replace q9:=keep_alloc hw q9
  replace E:=ext_alloc E hw
  replace ER:=ext_alloc ER hw
  have q10:=new_row hw hn
  clear hw hn
  refine sq_to rfl rfl (R_storeRow rfl (F.at rfl) (F.at rfl) (by kernel_rfl) (by simp [tubC,Value.oneCell']) q10 rfl) ?_;intro w13 hw
  replace oo:=owns_cellsX hw oo o10_oo.out
  replace mapm:=map_cells hw mapm q10
  replace q3:=keep_cells hw q3 (by omega)
  replace q4:=keep_cells hw q4 (by omega)
  replace q5:=keep_cells hw q5 (by omega)
  replace q7:=keep_cells hw q7 (by omega)
  replace q8:=keep_cells hw q8 (by omega)
  replace q9:=keep_cells hw q9 (by omega)
  replace q10:=put_row hw q10 rfl
  replace E:=ext_cells E hw (fun h=>by first | exact absurd h (by omega) | simp)
  replace ER:=ext_cells ER hw (fun h=>by first | exact absurd h (by omega) | simp)
  clear hw
  refine wpList_nil ?_
  refine hK6 _ _ ?_
  clear hK6
  refine wpIn_seq_k fun K7 hK7=>?_
  refine wpIn_seq_k fun K8 hK8=>?_
  refine wpI_region_lit rfl (fun h=>by obtain ⟨_,_,h⟩:=h;exact h) ?_
  refine F.vl (R_load rfl (F.at rfl) Try.underlying141 rfl ((cells_of_block q8 0).trans (get0))) ?_;clear F fa;intro fa F
  refine F.vl (R_loadBlk rfl (F.at rfl) Try.underlying83 rfl (by kernel_rfl) q10) ?_;clear F fa;intro fa F
  refine sq_exv F rfl (by decide) rfl (R_lookupS rfl (F.at rfl) (F.at rfl) (low_s hqs hqg) mapm) ?_;clear F fa;rintro fa v' F ⟨c19,rfl,hc19⟩
  refine F.mv ?_;clear F fa;intro fa F
  cases hg1 : c19
  ·skip
   replace F:=F.re (k:=20) rfl (congrArg Value.bool hg1)
   refine F.vl (R_loadBlk rfl (F.at rfl) Try.underlying83 rfl (by kernel_rfl) q10) ?_ (hw:=(wantT F rfl rfl (by decide) rfl));clear F fa;intro fa F
   refine F.vl (R_loadBlk rfl (F.at rfl) Try.underlying83 rfl (by kernel_rfl) q9) ?_ (hw:=(wantT F rfl rfl (by decide) rfl));clear F fa;intro fa F
   refine F.vl ((R_neqTub rfl (F.at rfl) (F.at rfl))) ?_ (hw:=(wantT F rfl rfl (by decide) rfl));clear F fa;intro fa F
   refine F.vl (R_pickF rfl (F.at rfl) (F.at rfl)) ?_;clear F fa;intro fa F
   refine F.mv ?_;clear F fa;intro fa F
   cases hg2 : (!tubE (lowF (val q) (gcE (val q)) 4) (val q))
   ·skip
    replace F:=F.re (k:=25) rfl (congrArg Value.bool hg2)
    refine F.vl (R_loadBlk rfl (F.at rfl) Try.underlying80 rfl (by kernel_rfl) q3) ?_ (hw:=(wantT F rfl rfl (by decide) rfl));clear F fa;intro fa F
    refine F.vl (R_loadBlk rfl (F.at rfl) Try.underlying83 rfl (by kernel_rfl) q9) ?_ (hw:=(wantT F rfl rfl (by decide) rfl));clear F fa;intro fa F
    refine F.vl (R_load rfl (F.at rfl) Try.underlying25 rfl ((cells_of_block q4 0).trans (get0))) ?_ (hw:=(wantT F rfl rfl (by decide) rfl));clear F fa;intro fa F
    refine F.vl (R_load rfl (F.at rfl) Try.underlying25 rfl ((cells_of_block q5 0).trans (get0))) ?_ (hw:=(wantT F rfl rfl (by decide) rfl));clear F fa;intro fa F
    refine sq_call F rfl (by decide) (wantT F rfl rfl (by decide) rfl) (R_callV rfl rfl Try.call59 (mpS (F.at rfl) (mpS (F.at rfl) (mpS (F.at rfl) (mpS (F.at rfl) mp0))))) (match_ok x HV.out (val q) hqs s HS.out ls HL.out hll sa la sc lc _ (HX.out.ext E) (HR.out.ext E (by simp)) (HQ.out.ext E (by simp))) fun e w14 hR=>?_
    obtain ⟨rfl,e9⟩:=hR
    refine ⟨_,rfl,?_⟩;clear F fa;intro fa F
    replace oo:=owns_ext oo (e9) (by simp)
    replace mapm:=map_ext mapm (e9)
    replace q3:=(e9).keep0 q3
    replace q4:=(e9).keep0 q4
    replace q5:=(e9).keep0 q5
    replace q7:=(e9).keep0 q7
    replace q8:=(e9).keep0 q8
    replace q9:=(e9).keep0 q9
    replace q10:=(e9).keep0 q10
    replace E:=ext_same E (e9)
    replace ER:=ext_same ER (e9)
    clear e9
    refine F.vl (R_not rfl (F.at rfl)) ?_ (hw:=(wantT F rfl rfl (by decide) rfl));clear F fa;intro fa F
    refine F.vl (R_pickF rfl (F.at rfl) (F.at rfl)) ?_;clear F fa;intro fa F
    refine wpList_nil ?_
    refine hK8 _ _ ?_
    clear hK8
    refine cdI_b F rfl (fun hc32=>?_) (fun hc32=>?_)
    ·skip
     refine wpIn_exit ?_
     (try simp only [Exit.inBlock,reduceIte])
     show KeepsFrom _ _ _ ∧ KeepR _ _ _ _ ∧ _
     rw [← hw3]
     refine ⟨keeps_ext ER hrc,keepR_ext ER hkx ?_,?_⟩
     ·first | exact .inl ((rowOf_at q7).trans hro.symm) | (rcases hblk with hbk | hbk;(· exact .inl ((rowOf_at q7).trans (hbk.trans hro.symm)));(· exact .inr fun r' e=>by rw [rowOf_at q7,hbk] at e;cases e;exact hERs))
     ·have hsw : w3.heap.size ≤ w14.heap.size:=(by rw [hw3];exact Nat.le_trans hsz ER.size)
      show ∃ va vc,MatI _ _ _ _ _ _ _ _ _ _ _ (List.filter (cndE x (val s) ls) (pre ++ [q])) va vc _
      rw [hsn]
      first | exact mat_skip (cnd_gc (fun hg=>Bool.noConfusion ((hc19 (hfr hg)).symm.trans hg1))) ⟨q3,q4,q5,q7,q8,oo,mapm,E,hsw⟩ | exact mat_skip (cnd_gc (fun hg=>Bool.noConfusion ((low_tub hg).symm.trans hg2))) ⟨q3,q4,q5,q7,q8,oo,mapm,E,hsw⟩ | exact mat_skip (cnd_mat (bnot_t hc32)) ⟨q3,q4,q5,q7,q8,oo,mapm,E,hsw⟩ | exact mat_take (cnd_yes hgc (bnot_f hc32)) ⟨q3,q4,q5,q7,q8,oo,mapm,E,hsw⟩
    ·skip
     refine wpIn_skip ?_
     refine hK7 _ _ ?_
     clear hK7
     refine wpIn_seq_k fun K9 hK9=>?_
     refine wpI_region_lit rfl (fun h=>by obtain ⟨_,_,h⟩:=h;exact h) ?_
     refine F.vl (R_load rfl (F.at rfl) Try.underlying141 rfl ((cells_of_block q8 0).trans (get0))) ?_;clear F fa;intro fa F
     refine F.vl (R_loadBlk rfl (F.at rfl) Try.underlying83 rfl (by kernel_rfl) q10) ?_;clear F fa;intro fa F
     have hgc:=low_eq hqs hqg (by simpa using hg2)
     have htc : tubC (lowF (val q) (gcE (val q)) 4) = tubC (val q):=tub_congr fun k hk=>low_one hgc hk
     refine sq_exw rfl rfl (R_mapPutT (t:=q) rfl (F.at rfl) ((F.at rfl).trans (congrArg Value.agg htc)) (ev_c fa _) hqs hol mapm) ?_;rintro w15 ⟨hM',hg⟩
     replace oo:=owns_map mapm hg oo
     replace q3:=keep_map mapm hg q3
     replace q4:=keep_map mapm hg q4
     replace q5:=keep_map mapm hg q5
     replace q7:=keep_map mapm hg q7
     replace q8:=keep_map mapm hg q8
     replace q9:=keep_map mapm hg q9
     replace q10:=keep_map mapm hg q10
     replace E:=ext_mapX E hg (fun h=>by first | exact absurd h (by omega) | simp)
     replace ER:=ext_mapX ER hg (fun h=>by first | exact absurd h (by omega) | simp)
     replace mapm:=hM'
     clear hg
     refine wpList_nil ?_
     refine hK9 _ _ ?_
     clear hK9
     refine wpI_region_lit rfl (fun h=>by obtain ⟨_,_,h⟩:=h;exact h) ?_
     refine F.vl (R_load rfl (F.at rfl) Try.underlying102 rfl ((cells_of_block q7 0).trans (get0))) ?_;clear F fa;intro fa F
     refine F.vl (R_loadBlk rfl (F.at rfl) Try.underlying83 rfl (by kernel_rfl) q9) ?_;clear F fa;intro fa F
     refine sq_new F rfl (by decide) rfl (R_buildSliceV rfl (prS (F.at rfl) pr0) Try.underlying102 (size:=4) (by kernel_rfl) (by decide) (by decide) Try.zeroValue83 (cells:=#[.int .i64 (val q 0),.int .i64 (val q 1),.int .i64 (val q 2),.int .i64 (val q 3)]) (by kernel_rfl)) ?_;clear F fa;intro fa w16 F hw
     obtain ⟨n37,hn⟩ : ∃ n,n = w15.heap.size:=⟨_,rfl⟩
     rw [← hn] at F
     have s37 : w15.heap.size ≤ n37:=Nat.le_of_eq hn.symm
     have l37_E : w.heap.size ≤ n37:=by rw [hn];exact E.size
     have l37_ER : W.heap.size ≤ n37:=by rw [hn];exact ER.size
     have m37_3 : n3 < n37:=by rw [hn];exact blk_lt q3
     have m37_4 : n4 < n37:=by rw [hn];exact blk_lt q4
     have m37_5 : n5 < n37:=by rw [hn];exact blk_lt q5
     have m37_7 : n7 < n37:=by rw [hn];exact blk_lt q7
     have m37_8 : n8 < n37:=by rw [hn];exact blk_lt q8
     have m37_9 : nt < n37:=by rw [hn];exact blk_lt q9
     have m37_10 : n10 < n37:=by rw [hn];exact blk_lt q10
     have o37_oo:=Lib.hid (own_ne_new oo hn)
     replace oo:=owns_alloc hw oo
     replace mapm:=map_alloc hw mapm
     replace q3:=keep_alloc hw q3
     replace q4:=keep_alloc hw q4
     replace q5:=keep_alloc hw q5
     replace q7:=keep_alloc hw q7
     replace q8:=keep_alloc hw q8
     replace q9:=keep_alloc hw q9
     replace q10:=keep_alloc hw q10
     replace E:=ext_alloc E hw
     replace ER:=ext_alloc ER hw
     have q37:=new_block hw hn
     clear hw hn
     have hEs:=E.size
     have hERs:=ER.size
     refine sq_some F rfl (by decide) rfl (append_runB rfl (w.heap.size) (e:=83) (size:=4) (bytes:=32) Try.underlying102 (by kernel_rfl) (by decide) (F.at rfl) oo (F.at rfl) q37 rfl (by simp [Value.oneCell']) (by omega) (by omega) (by omega)) ?_;clear F fa;rintro fa v' w17 F ⟨hown',⟨hg,hblk⟩⟩
     obtain ⟨va38,vc38,rfl⟩:=owns_slice hown'
     replace q3:=keep_type oo hg q3 (by decide)
     replace q4:=keep_type oo hg q4 (by decide)
     replace q5:=keep_type oo hg q5 (by decide)
     replace q7:=keep_type oo hg q7 (by decide)
     replace q8:=keep_type oo hg q8 (by decide)
     replace q9:=(hg.block nt (blk_lt q9) o9_oo.out).trans q9
     replace q10:=(hg.block n10 (blk_lt q10) o10_oo.out).trans q10
     replace mapm:=map_own mapm oo hg
     replace E:=ext_appendX E oo hg (by omega)
     replace ER:=ext_grownX ER hg (fun b hb hl=>by rw [hrr b hb];simp)
     replace oo:=hown'
     clear hg
     rw [show tubsV out ++ [.int .i64 (val q 0),.int .i64 (val q 1),.int .i64 (val q 2),.int .i64 (val q 3)] = tubsV (out ++ [q]) from tubsV_snoc out q,show out.length + 1 = (out ++ [q]).length by simp] at oo
     rw [show out.length + 1 = (out ++ [q]).length by simp] at F hblk
     refine sq_to rfl rfl (R_store rfl (F.at rfl) (F.at rfl) rfl (by kernel_rfl) ((cells_of_block q7 0).trans (get0)) (free_of_block q7 0)) ?_;intro w18 hw
     replace oo:=owns_cellX hw oo (own_ne_type oo q7 (by decide))
     replace mapm:=map_cell hw mapm q7
     replace q3:=keep_cell hw q3 (by omega)
     replace q4:=keep_cell hw q4 (by omega)
     replace q5:=keep_cell hw q5 (by omega)
     replace q7:=put_cell hw q7 (by simp only [List.setIfInBounds_toArray,lsQ,lzQ];exact rfl)
     replace q8:=keep_cell hw q8 (by omega)
     replace q9:=keep_cell hw q9 (by omega)
     replace q10:=keep_cell hw q10 (by omega)
     replace E:=ext_cell E hw (fun h=>by first | exact absurd h (by omega) | simp)
     replace ER:=ext_cell ER hw (fun h=>by first | exact absurd h (by omega) | simp)
     clear hw
     refine wpList_nil ?_
     (try simp only [Exit.inBlock,reduceIte])
     show KeepsFrom _ _ _ ∧ KeepR _ _ _ _ ∧ _
     rw [← hw3]
     refine ⟨keeps_ext ER hrc,keepR_ext ER hkx ?_,?_⟩
     ·first | exact .inl ((rowOf_at q7).trans hro.symm) | (rcases hblk with hbk | hbk;(· exact .inl ((rowOf_at q7).trans (hbk.trans hro.symm)));(· exact .inr fun r' e=>by rw [rowOf_at q7,hbk] at e;cases e;exact hERs))
     ·have hsw : w3.heap.size ≤ w18.heap.size:=(by rw [hw3];exact Nat.le_trans hsz ER.size)
      show ∃ va vc,MatI _ _ _ _ _ _ _ _ _ _ _ (List.filter (cndE x (val s) ls) (pre ++ [q])) va vc _
      rw [hsn]
      first | exact mat_skip (cnd_gc (fun hg=>Bool.noConfusion ((hc19 (hfr hg)).symm.trans hg1))) ⟨q3,q4,q5,q7,q8,oo,mapm,E,hsw⟩ | exact mat_skip (cnd_gc (fun hg=>Bool.noConfusion ((low_tub hg).symm.trans hg2))) ⟨q3,q4,q5,q7,q8,oo,mapm,E,hsw⟩ | exact mat_skip (cnd_mat (bnot_t hc32)) ⟨q3,q4,q5,q7,q8,oo,mapm,E,hsw⟩ | exact mat_take (cnd_yes hgc (bnot_f hc32)) ⟨q3,q4,q5,q7,q8,oo,mapm,E,hsw⟩
   ·skip
    replace F:=F.re (k:=25) rfl (congrArg Value.bool hg2)
    refine sq_no F rfl (by decide) (wantF F rfl rfl (by decide) rfl (by decide)) ?_;clear F fa;intro fa F
    refine sq_no F rfl (by decide) (wantF F rfl rfl (by decide) rfl (by decide)) ?_;clear F fa;intro fa F
    refine sq_no F rfl (by decide) (wantF F rfl rfl (by decide) rfl (by decide)) ?_;clear F fa;intro fa F
    refine sq_no F rfl (by decide) (wantF F rfl rfl (by decide) rfl (by decide)) ?_;clear F fa;intro fa F
    refine sq_no F rfl (by decide) (wantF F rfl rfl (by decide) rfl (by decide)) ?_;clear F fa;intro fa F
    refine sq_no F rfl (by decide) (wantF F rfl rfl (by decide) rfl (by decide)) ?_;clear F fa;intro fa F
    refine F.vl (R_pickT rfl (F.at rfl) (ev_c fa _)) ?_;clear F fa;intro fa F
    refine wpList_nil ?_
    refine hK8 _ _ ?_
    clear hK8
    refine cdI_T F rfl ?_
    refine wpIn_exit ?_
    (try simp only [Exit.inBlock,reduceIte])
    show KeepsFrom _ _ _ ∧ KeepR _ _ _ _ ∧ _
    rw [← hw3]
    refine ⟨keeps_ext ER hrc,keepR_ext ER hkx ?_,?_⟩
    ·first | exact .inl ((rowOf_at q7).trans hro.symm) | (rcases hblk with hbk | hbk;(· exact .inl ((rowOf_at q7).trans (hbk.trans hro.symm)));(· exact .inr fun r' e=>by rw [rowOf_at q7,hbk] at e;cases e;exact hERs))
    ·have hsw : w3.heap.size ≤ w13.heap.size:=(by rw [hw3];exact Nat.le_trans hsz ER.size)
     show ∃ va vc,MatI _ _ _ _ _ _ _ _ _ _ _ (List.filter (cndE x (val s) ls) (pre ++ [q])) va vc _
     rw [hsn]
     first | exact mat_skip (cnd_gc (fun hg=>Bool.noConfusion ((hc19 (hfr hg)).symm.trans hg1))) ⟨q3,q4,q5,q7,q8,oo,mapm,E,hsw⟩ | exact mat_skip (cnd_gc (fun hg=>Bool.noConfusion ((low_tub hg).symm.trans hg2))) ⟨q3,q4,q5,q7,q8,oo,mapm,E,hsw⟩ | exact mat_skip (cnd_mat (bnot_t hc32)) ⟨q3,q4,q5,q7,q8,oo,mapm,E,hsw⟩ | exact mat_take (cnd_yes hgc (bnot_f hc32)) ⟨q3,q4,q5,q7,q8,oo,mapm,E,hsw⟩
  ·skip
   replace F:=F.re (k:=20) rfl (congrArg Value.bool hg1)
   refine sq_no F rfl (by decide) (wantF F rfl rfl (by decide) rfl (by decide)) ?_;clear F fa;intro fa F
   refine sq_no F rfl (by decide) (wantF F rfl rfl (by decide) rfl (by decide)) ?_;clear F fa;intro fa F
   refine sq_no F rfl (by decide) (wantF F rfl rfl (by decide) rfl (by decide)) ?_;clear F fa;intro fa F
   refine F.vl (R_pickT rfl (F.at rfl) (ev_c fa _)) ?_;clear F fa;intro fa F
   refine F.mv ?_;clear F fa;intro fa F
   refine sq_no F rfl (by decide) (wantF F rfl rfl (by decide) rfl (by decide)) ?_;clear F fa;intro fa F
   refine sq_no F rfl (by decide) (wantF F rfl rfl (by decide) rfl (by decide)) ?_;clear F fa;intro fa F
   refine sq_no F rfl (by decide) (wantF F rfl rfl (by decide) rfl (by decide)) ?_;clear F fa;intro fa F
   refine sq_no F rfl (by decide) (wantF F rfl rfl (by decide) rfl (by decide)) ?_;clear F fa;intro fa F
   refine sq_no F rfl (by decide) (wantF F rfl rfl (by decide) rfl (by decide)) ?_;clear F fa;intro fa F
   refine sq_no F rfl (by decide) (wantF F rfl rfl (by decide) rfl (by decide)) ?_;clear F fa;intro fa F
   refine F.vl (R_pickT rfl (F.at rfl) (ev_c fa _)) ?_;clear F fa;intro fa F
   refine wpList_nil ?_
   refine hK8 _ _ ?_
   clear hK8
   refine cdI_T F rfl ?_
   refine wpIn_exit ?_
   (try simp only [Exit.inBlock,reduceIte])
   show KeepsFrom _ _ _ ∧ KeepR _ _ _ _ ∧ _
   rw [← hw3]
   refine ⟨keeps_ext ER hrc,keepR_ext ER hkx ?_,?_⟩
   ·first | exact .inl ((rowOf_at q7).trans hro.symm) | (rcases hblk with hbk | hbk;(· exact .inl ((rowOf_at q7).trans (hbk.trans hro.symm)));(· exact .inr fun r' e=>by rw [rowOf_at q7,hbk] at e;cases e;exact hERs))
   ·have hsw : w3.heap.size ≤ w13.heap.size:=(by rw [hw3];exact Nat.le_trans hsz ER.size)
    show ∃ va vc,MatI _ _ _ _ _ _ _ _ _ _ _ (List.filter (cndE x (val s) ls) (pre ++ [q])) va vc _
    rw [hsn]
    first | exact mat_skip (cnd_gc (fun hg=>Bool.noConfusion ((hc19 (hfr hg)).symm.trans hg1))) ⟨q3,q4,q5,q7,q8,oo,mapm,E,hsw⟩ | exact mat_skip (cnd_gc (fun hg=>Bool.noConfusion ((low_tub hg).symm.trans hg2))) ⟨q3,q4,q5,q7,q8,oo,mapm,E,hsw⟩ | exact mat_skip (cnd_mat (bnot_t hc32)) ⟨q3,q4,q5,q7,q8,oo,mapm,E,hsw⟩ | exact mat_take (cnd_yes hgc (bnot_f hc32)) ⟨q3,q4,q5,q7,q8,oo,mapm,E,hsw⟩
 case done =>
  clear map11 q3 q4 q5 q7 q8 qb E hI0
  rintro D W hD ⟨va,vc,⟨q3,q4,q5,q7,q8,oo,mapm,E,hsz⟩⟩ qD
  obtain ⟨out,hout⟩ : ∃ out,out = matL x (val s) ls:=⟨_,rfl⟩
  rw [show (recL x.D.length).filter (cndE x (val s) ls) = out from hout.symm] at q7 oo mapm
  replace F:=F.mark (d:={ target:=.collected D,args:=#[] })
  refine hK4 _ _ ?_
  clear hK4
  refine wp_seq_k fun K10 hK10=>?_
  refine wp_region_lit ?_
  refine F.vl (R_load rfl (F.at rfl) Try.underlying102 rfl ((cells_of_block q7 0).trans (get0))) ?_;clear F fa;intro fa F
  refine F.as ?_;clear F fa;intro fa F
  refine wpList_nil ?_
  refine hK10 _ _ ?_
  clear hK10
  refine wp_ret ?_
  (try simp only [Exit.inBlock,Exit.then,reduceIte])
  refine rtM_v F ?_
  refine lv_mark qD fun w19 hw=>?_
  replace oo:=owns_put hw qD rfl oo
  replace mapm:=map_put hw qD mapm
  replace q3:=keep_putW hw qD rfl q3
  replace q4:=keep_putW hw qD rfl q4
  replace q5:=keep_putW hw qD rfl q5
  replace q7:=keep_putW hw qD rfl q7
  replace q8:=keep_putW hw qD rfl q8
  replace E:=ext_putW E hw (by omega)
  clear hw qD
  refine lv_nil (rs_1 F rfl rfl) ?_
  subst hout
  exact ⟨va,vc,rfl,oo,E⟩
end Go.Proofs.Ytdjeecgddbjbeaa
