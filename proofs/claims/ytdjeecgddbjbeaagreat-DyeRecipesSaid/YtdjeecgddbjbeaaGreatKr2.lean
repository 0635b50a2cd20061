/- Parts of a proof: Base. No conditions. -/
import Derived.Deep.Cut
import Derived.Deep.CutRange
import Derived.Deep.RegionHeld3
import Derived.Defers
import Derived.IntWalk
import Derived.Laws.AppendOwn
import Derived.Laws.BitsAllLaws
import Derived.Laws.OwnMore
import Derived.Laws.StructEq
import Derived.Lib.Hide
import Derived.LoopIn
import Derived.LoopNIn
import Derived.LoopTactic
import Derived.Maps.AppendAt
import Derived.Outline
import Derived.OwnWalkIn
import Derived.RangeFuncBound
import Derived.RangeFuncCalls
import Derived.RangeFuncFrom
import Derived.RangeFuncKeeps
import Derived.RangeFuncLeaves
import Derived.RangeFuncNested
import Derived.Recover
import Derived.ScopeJumps
import Derived.Shelf.Abstract
import Derived.StillTailTactics
import Derived.TacticsInMore
import Derived.WalkKit
import Derived.WalkLawsBesides
import Derived.WalkSpells
import Derived.Test.YtdjeecgddbjbeaaGreatKr1
set_option linter.unusedVariables false
set_option linter.unusedSimpArgs false
namespace Go.Proofs.YtdjeecgddbjbeaaGreat
open Go.RowKit
theorem ret_bool {a b : Bool} (h : a = b) : Ending.returned (.bool a) = .returned (.bool b):=by rw [h]
theorem ret_int {k : IntKind} {a b : Int} (h : a = b) : Ending.returned (.int k a) = .returned (.int k b):=by rw [h]
theorem cells_of_block {w : World} {b : Nat} {cs : Array Value} {T : TypeId} {fz : Nat × Nat} (h : w.heap[b]? = some (.cells cs T fz)) (o : Nat) : w.cell? ⟨b,o,none⟩ = cs[o]?:=by
 simp [World.cell?,h]
theorem free_of_block {w : World} {b : Nat} {cs : Array Value} {T : TypeId} (h : w.heap[b]? = some (.cells cs T (0,0))) (o : Nat) : w.frozen? ⟨b,o,none⟩ = false:=by
 simp [World.frozen?,h]
theorem blk_lt {w : World} {b : Nat} {o : Obj} (h : w.heap[b]? = some o) : b < w.heap.size:=by
 rcases Nat.lt_or_ge b w.heap.size with h' | h'
 ·exact h'
 ·rw [Array.getElem?_eq_none h'] at h;cases h
theorem blk_new {w : World} {o : Obj} {b : Nat} (h : b = w.heap.size) : (w.alloc o).heap[b]? = some o:=by
 subst h;show (w.heap.push o)[w.heap.size]? = some o;simp
theorem blk_old {w : World} {b : Nat} {o o' : Obj} (h : w.heap[b]? = some o) : (w.alloc o').heap[b]? = some o:=by
 have:=blk_lt h
 show (w.heap.push o')[b]? = some o
 rw [Array.getElem?_push,if_neg (by omega),h]
theorem size_alloc (w : World) (o : Obj) : (w.alloc o).heap.size = w.heap.size + 1:=by show (w.heap.push o).size = _;simp
theorem size_setCell (w : World) (p : Addr) (v : Value) : (w.setCell p v).heap.size = w.heap.size:=by simp [World.setCell]
theorem follows : Tryz.prog.follows .mixedOrders = true:=by kernel_rfl
structure Ext (X : List Nat) (w w' : World) : Prop where
 os : w'.os = w.os
 tape : w'.tape = w.tape
 output : w'.output = w.output
 size : w.heap.size ≤ w'.heap.size
 block : ∀ k,k < w.heap.size → k ∉ X → w'.heap[k]? = w.heap[k]?
theorem Ext.refl (X : List Nat) (w : World) : Ext X w w:=⟨rfl,rfl,rfl,Nat.le_refl _,fun _ _ _=>rfl⟩
theorem Ext.trans {X : List Nat} {a b c : World} (h : Ext X a b) (k : Ext X b c) : Ext X a c:=
 ⟨k.os.trans h.os,k.tape.trans h.tape,k.output.trans h.output,Nat.le_trans h.size k.size,fun i hi hx=>(k.block i (Nat.lt_of_lt_of_le hi h.size) hx).trans (h.block i hi hx)⟩
theorem Ext.trans' {X Y : List Nat} {a b c : World} (h : Ext X a b) (k : Ext Y b c) (hy : ∀ i ∈ Y,i < a.heap.size → i ∈ X) : Ext X a c:=
 ⟨k.os.trans h.os,k.tape.trans h.tape,k.output.trans h.output,Nat.le_trans h.size k.size,fun i hi hx=>(k.block i (Nat.lt_of_lt_of_le hi h.size) (fun hm=>hx (hy i hm hi))).trans (h.block i hi hx)⟩
theorem Ext.nil {X : List Nat} {a b c : World} (h : Ext X a b) (k : Ext [] b c) : Ext X a c:=h.trans' k (fun _ hi=>by cases hi)
theorem Ext.mono {X Y : List Nat} {a b : World} (h : Ext X a b) (hs : ∀ i ∈ X,i ∈ Y) : Ext Y a b:=⟨h.os,h.tape,h.output,h.size,fun i hi hx=>h.block i hi (fun hm=>hx (hs i hm))⟩
theorem Ext.alloc {X : List Nat} {a w : World} (h : Ext X a w) (o : Obj) : Ext X a (w.alloc o):=
 h.nil ⟨rfl,rfl,rfl,by rw [size_alloc];omega,fun k hk _=>Below.heap_alloc _ _ _ hk⟩
theorem Ext.setCell {X : List Nat} {a w : World} (h : Ext X a w) {p : Addr} (hp : p.block < a.heap.size → p.block ∈ X) (u : Value) : Ext X a (w.setCell p u):=
 h.trans' (Y:=[p.block]) ⟨rfl,rfl,rfl,by rw [size_setCell];exact Nat.le_refl _,fun k hk hx=>Below.heap_setCell _ _ _ _ (by simpa using hx)⟩ (fun i hi hl=>by simp at hi;subst hi;exact hp hl)
theorem Ext.below {w w' : World} (h : Ext [] w w') : Below w.heap.size w w':=⟨h.os,h.tape,h.output,h.size,fun k hk=>h.block k hk (by simp)⟩
theorem Ext.keep {X : List Nat} {w w' : World} (h : Ext X w w') {b : Nat} {o : Obj} (H : w.heap[b]? = some o) (hb : b ∉ X) : w'.heap[b]? = some o:=by
 rw [h.block b (blk_lt H) hb,H]
theorem Ext.keep0 {w w' : World} (h : Ext [] w w') {b : Nat} {o : Obj} (H : w.heap[b]? = some o) : w'.heap[b]? = some o:=h.keep H (by simp)
theorem Ext.cell {X : List Nat} {w w' : World} (h : Ext X w w') {a : Addr} (ha : a.block < w.heap.size) (hb : a.block ∉ X) : w'.cell? a = w.cell? a:=World.cell?_of_block (w:=w) (h.block a.block ha hb)
theorem Ext.lt {X : List Nat} {w w' : World} (h : Ext X w w') {b : Nat} (hb : b < w.heap.size) : b < w'.heap.size:=Nat.lt_of_lt_of_le hb h.size
theorem keep_set {w w2 : World} {p : Addr} {u : Value} {b : Nat} {o : Obj} (e : w2 = w.setCell p u) (H : w.heap[b]? = some o) (hb : b ≠ p.block) : w2.heap[b]? = some o:=by
 rw [e,Below.heap_setCell _ _ _ _ hb,H]
theorem keep_same {w w' : World} {b : Nat} {o : Obj} (e : w'.heap = w.heap) (H : w.heap[b]? = some o) : w'.heap[b]? = some o:=by rw [e];exact H
theorem setCells_block (b : Nat) (T : TypeId) : ∀ (cs pre : List Value) (old : List Value) (w : World),w.heap[b]? = some (.cells (pre ++ old).toArray T (0,0)) → old.length = cs.length →
  (w.setCells b pre.length cs).heap[b]? = some (.cells (pre ++ cs).toArray T (0,0))
 | [],pre,old,w,H,hl=>by
  obtain rfl : old = []:=List.length_eq_zero_iff.1 hl
  exact H
 | v :: cs,pre,[],w,H,hl=>by simp at hl
 | v :: cs,pre,x :: old,w,H,hl=>by
  have:=setCells_block b T cs (pre ++ [v]) old (w.setCell ⟨b,pre.length,none⟩ v) (by
   simp [World.setCell,Array.getElem?_modify,H]) (by simpa using hl)
  simpa [World.setCells] using this
theorem setCells_other (b : Nat) : ∀ (cs : List Value) (o : Nat) (w : World) (k : Nat),k ≠ b → (w.setCells b o cs).heap[k]? = w.heap[k]?
 | [],_,_,_,_=>rfl
 | v :: cs,o,w,k,h=>(setCells_other b cs (o + 1) _ k h).trans (Below.heap_setCell _ _ _ _ h)
theorem setCells_same (b : Nat) : ∀ (cs : List Value) (o : Nat) (w : World),(w.setCells b o cs).os = w.os ∧ (w.setCells b o cs).tape = w.tape ∧ (w.setCells b o cs).output = w.output ∧ (w.setCells b o cs).heap.size = w.heap.size
 | [],_,_=>⟨rfl,rfl,rfl,rfl⟩
 | v :: cs,o,w=>by
  obtain ⟨h1,h2,h3,h4⟩:=setCells_same b cs (o + 1) (w.setCell ⟨b,o,none⟩ v)
  exact ⟨h1,h2,h3,h4.trans (size_setCell _ _ _)⟩
theorem Ext.setCells {X : List Nat} {a w : World} (h : Ext X a w) {b : Nat} (hp : b < a.heap.size → b ∈ X) (o : Nat) (cs : List Value) : Ext X a (w.setCells b o cs):=by
 obtain ⟨h1,h2,h3,h4⟩:=setCells_same b cs o w
 exact h.trans' (Y:=[b]) ⟨h1,h2,h3,by rw [h4];exact Nat.le_refl _,fun k hk hx=>setCells_other b cs o w k (by simpa using hx)⟩ (fun i hi hl=>by simp at hi;subst hi;exact hp hl)
theorem range_of_block {w : World} {b : Nat} {cs : List Value} {T : TypeId} {fz : Nat × Nat} (H : w.heap[b]? = some (.cells cs.toArray T fz)) : w.rangeAt b 0 cs:=fun j v hv=>by
 rw [Nat.zero_add,cells_of_block H];simpa using hv
theorem there_of_block {w : World} {b : Nat} {cs : Array Value} {T : TypeId} (H : w.heap[b]? = some (.cells cs T (0,0))) : w.there b 0 cs.size:=fun j hj=>by
 rw [Nat.zero_add,cells_of_block H,free_of_block H];simp [hj]
section
variable {P : Program} {ρ : Operand → Value} {o : Oper} {w : World}
theorem R_move {x : Operand} {v : Value} (ho : o.op = .move x) (hx : ρ x = v) : (execOp ρ o).run P w = .ok (.value v) w:=by
 simp [execOp,ho,hx,pure,Sem.run]
theorem R_assign {x : Operand} {v : Value} (ho : o.op = .assign x) (hx : ρ x = v) : (execOp ρ o).run P w = .ok (.value v) w:=by
 simp [execOp,ho,hx,pure,Sem.run]
theorem R_load {x : Operand} {t : TypeId} {b off : Nat} {v : Value} {d : TypeDesc} (ho : o.op = .load t x) (hx : ρ x = .pointer (some ⟨b,off,none⟩)) (hd : P.underlying t = some d) (ha : d.isRow = false) (hc : w.cell? ⟨b,off,none⟩ = some v) :
  (execOp ρ o).run P w = .ok (.value v) w:=by
 unfold execOp
 cases d <;> first | (simp [TypeDesc.isRow] at ha;done) | simp [ho,hx,Instr.loadAt,Instr.sureAddr,loadVar,isAgg,underlying,hd,load,hc,Sem.run,go_sem]
theorem R_loadRow {x : Operand} {t : TypeId} {b off : Nat} {cs : List Value} {d : TypeDesc} (ho : o.op = .load t x) (hx : ρ x = .pointer (some ⟨b,off,none⟩)) (hd : P.underlying t = some d) (ha : d.isRow = true) (hi : (P.info? t).map (·.size) = some cs.length) (hc : w.rangeAt b off cs) :
  (execOp ρ o).run P w = .ok (.value (.agg cs.toArray)) w:=by
 unfold execOp
 simp only [ho,hx,Instr.loadAt,Instr.sureAddr,Sem.run_bind,Sem.run_pure,Result.andThen_ok,run_loadVar_mid w b off t cs d hc hd ha hi]
theorem R_storeRow {x y : Operand} {t : TypeId} {b : Nat} {cs : Array Value} (ho : o.op = .store t x y) (hx : ρ x = .pointer (some ⟨b,0,none⟩)) (hy : ρ y = .agg cs) (hi : (P.info? t).map (·.size) = some cs.size) (h1 : cs.all (·.oneCell') = true) {old : Array Value} {T : TypeId} (H : w.heap[b]? = some (.cells old T (0,0))) (hs : old.size = cs.size) :
  (execOp ρ o).run P w = .ok .skip (w.setCells b 0 cs.toList):=by
 unfold execOp
 have ht:=there_of_block H
 rw [hs] at ht
 simp only [ho,hx,hy,Instr.storeAt,Instr.sureAddr,Sem.run_bind,Sem.run_pure,Result.andThen_ok,run_storeVar_mid w b 0 t cs ht hi h1]
theorem stored_block {b : Nat} {T : TypeId} {cs old : Array Value} (H : w.heap[b]? = some (.cells old T (0,0))) (hs : old.size = cs.size) : (w.setCells b 0 cs.toList).heap[b]? = some (.cells cs T (0,0)):=by
 have:=setCells_block b T cs.toList [] old.toList w (by simpa using H) (by simpa using hs)
 simpa using this
theorem wrap_id {n : Int} (h1 : -9223372036854775808 ≤ n) (h2 : n ≤ 9223372036854775807) : IntKind.i64.wrap n = n:=IntWalk.i64_in n (by omega)
theorem R_add {x y : Operand} {t t' : TypeId} {n m : Int} (ho : o.op = .binOp .add t x y t') (hx : ρ x = .int .i64 n) (hy : ρ y = .int .i64 m) (h1 : -9223372036854775808 ≤ n + m) (h2 : n + m ≤ 9223372036854775807) :
  (execOp ρ o).run P w = .ok (.value (.int .i64 (n + m))) w:=by
 have hw:=wrap_id h1 h2
 unfold execOp
 simp [ho,hx,hy,eqGuard,binOp,Op.intArith,hw,go_sem]
theorem R_sub {x y : Operand} {t t' : TypeId} {n m : Int} (ho : o.op = .binOp .sub t x y t') (hx : ρ x = .int .i64 n) (hy : ρ y = .int .i64 m) (h1 : -9223372036854775808 ≤ n - m) (h2 : n - m ≤ 9223372036854775807) :
  (execOp ρ o).run P w = .ok (.value (.int .i64 (n - m))) w:=by
 have hw:=wrap_id h1 h2
 unfold execOp
 simp [ho,hx,hy,eqGuard,binOp,Op.intArith,hw,go_sem]
theorem R_mul {x y : Operand} {t t' : TypeId} {n m : Int} (ho : o.op = .binOp .mul t x y t') (hx : ρ x = .int .i64 n) (hy : ρ y = .int .i64 m) (h1 : -9223372036854775808 ≤ n * m) (h2 : n * m ≤ 9223372036854775807) :
  (execOp ρ o).run P w = .ok (.value (.int .i64 (n * m))) w:=by
 have hw:=wrap_id h1 h2
 unfold execOp
 simp [ho,hx,hy,eqGuard,binOp,Op.intArith,hw,go_sem]
theorem R_neg {x : Operand} {t : TypeId} {n : Int} (ho : o.op = .unOp .neg t x) (hx : ρ x = .int .i64 n) (h1 : -9223372036854775807 ≤ n) (h2 : n ≤ 9223372036854775807) :
  (execOp ρ o).run P w = .ok (.value (.int .i64 (-n))) w:=by
 have hw:=wrap_id (n:=-n) (by omega) (by omega)
 unfold execOp
 simp [ho,hx,Op.intArith,hw,go_sem]
theorem R_not {x : Operand} {t : TypeId} {b : Bool} (ho : o.op = .unOp .not t x) (hx : ρ x = .bool b) : (execOp ρ o).run P w = .ok (.value (.bool !b)) w:=by
 unfold execOp
 simp [ho,hx,go_sem]
theorem R_lss {x y : Operand} {t t' : TypeId} {k : IntKind} {n m : Int} (ho : o.op = .binOp .lss t x y t') (hx : ρ x = .int k n) (hy : ρ y = .int k m) :
  (execOp ρ o).run P w = .ok (.value (.bool (decide (n < m)))) w:=by
 unfold execOp
 simp [ho,hx,hy,eqGuard,binOp,Op.intCmp,go_sem]
theorem R_leq {x y : Operand} {t t' : TypeId} {k : IntKind} {n m : Int} (ho : o.op = .binOp .leq t x y t') (hx : ρ x = .int k n) (hy : ρ y = .int k m) :
  (execOp ρ o).run P w = .ok (.value (.bool (decide (n ≤ m)))) w:=by
 unfold execOp
 simp [ho,hx,hy,eqGuard,binOp,Op.intCmp,go_sem]
theorem R_gtr {x y : Operand} {t t' : TypeId} {k : IntKind} {n m : Int} (ho : o.op = .binOp .gtr t x y t') (hx : ρ x = .int k n) (hy : ρ y = .int k m) :
  (execOp ρ o).run P w = .ok (.value (.bool (decide (m < n)))) w:=by
 unfold execOp
 simp [ho,hx,hy,eqGuard,binOp,Op.intCmp,go_sem]
theorem R_geq {x y : Operand} {t t' : TypeId} {k : IntKind} {n m : Int} (ho : o.op = .binOp .geq t x y t') (hx : ρ x = .int k n) (hy : ρ y = .int k m) :
  (execOp ρ o).run P w = .ok (.value (.bool (decide (m ≤ n)))) w:=by
 unfold execOp
 simp [ho,hx,hy,eqGuard,binOp,Op.intCmp,go_sem]
theorem R_eql {x y : Operand} {t t' : TypeId} {k : IntKind} {n m : Int} (ho : o.op = .binOp .eql t x y t') (hx : ρ x = .int k n) (hy : ρ y = .int k m) :
  (execOp ρ o).run P w = .ok (.value (.bool (n == m))) w:=by
 unfold execOp
 simp [ho,hx,hy,eqGuard,binOp,Op.intCmp,go_sem]
theorem R_neq {x y : Operand} {t t' : TypeId} {k : IntKind} {n m : Int} (ho : o.op = .binOp .neq t x y t') (hx : ρ x = .int k n) (hy : ρ y = .int k m) :
  (execOp ρ o).run P w = .ok (.value (.bool (n != m))) w:=by
 unfold execOp
 simp [ho,hx,hy,eqGuard,binOp,Op.intCmp,go_sem]
theorem R_nilCheck {x : Operand} {b : Addr} (ho : o.op = .nilCheck x) (hx : ρ x = .pointer (some b)) : (execOp ρ o).run P w = .ok (.value (.pointer (some b))) w:=by
 unfold execOp
 simp [ho,hx,go_sem]
theorem R_fieldAddr {x : Operand} {t : TypeId} {f b off sz : Nat} {fs : Array Go.Field} {fd : Go.Field} (ho : o.op = .fieldAddr t x f) (hx : ρ x = .pointer (some ⟨b,off,none⟩)) (hu : P.underlying t = some (.struct fs)) (hf : fs[f]? = some fd) {n : Nat} (hn : fd.offset = n) (hs : (P.info? fd.type).map (·.size) = some sz) (h0 : sz ≠ 0) :
  (execOp ρ o).run P w = .ok (.value (.pointer (some ⟨b,off + n,none⟩))) w:=by
 subst hn
 unfold execOp
 cases hq : P.info? fd.type with
 | none=>simp [hq] at hs
 | some i =>
  have hs' : i.size = sz:=by simpa [hq] using hs
  simp [ho,hx,Instr.fieldAt,Instr.sureAddr,run_underlying hu,hf,sizeOf,typeInfo,hq,hs',h0,go_sem]
theorem R_ixArr {x ix : Operand} {t e : TypeId} {k : IntKind} {i : Int} {b off n sz : Nat} (ho : o.op = .indexAddr t x ix) (hx : ρ x = .pointer (some ⟨b,off,none⟩)) (hi : ρ ix = .int k i) (hu : P.underlying t = some (.array n e)) (hs : (P.info? e).map (·.size) = some sz) (h0 : 0 ≤ i) (h1 : i < n) :
  (execOp ρ o).run P w = .ok (.value (.pointer (some ⟨b,off + i.toNat * sz,none⟩))) w:=by
 unfold execOp
 cases hq : P.info? e with
 | none=>simp [hq] at hs
 | some j =>
  have hs' : j.size = sz:=by simpa [hq] using hs
  simp [ho,hx,hi,Instr.indexAt,Instr.sureAddr,run_underlying hu,asIntOf,h0,h1,sizeOf,typeInfo,hq,hs',go_sem]
theorem R_ixSlice {x ix : Operand} {t e : TypeId} {k : IntKind} {i : Int} {b off len cap sz : Nat} (ho : o.op = .indexAddr t x ix) (hx : ρ x = .slice (some ⟨b,off,none⟩) len cap) (hi : ρ ix = .int k i) (hu : P.underlying t = some (.slice e)) (hs : (P.info? e).map (·.size) = some sz) (h0 : 0 ≤ i) (h1 : i < len) :
  (execOp ρ o).run P w = .ok (.value (.pointer (some ⟨b,off + i.toNat * sz,none⟩))) w:=by
 unfold execOp
 cases hq : P.info? e with
 | none=>simp [hq] at hs
 | some j =>
  have hs' : j.size = sz:=by simpa [hq] using hs
  simp [ho,hx,hi,Instr.indexAt,run_underlying hu,asIntOf,h0,h1,sizeOf,typeInfo,hq,hs',go_sem]
theorem R_len {c : Call} {x : Operand} {t : TypeId} {a : Option Addr} {n cap : Nat} (ho : o.op = .call c) (hc : c = { callee:=.builtin .len,args:=#[x],argTypes:=#[t] }) (hx : ρ x = .slice a n cap) (hu : P.underlying t = some (.slice (P.elem t))) :
  (execOp ρ o).run P w = .ok (.value (.int .i64 n)) w:=by
 subst hc
 unfold execOp
 simp [ho,hx,resolve,invoke,builtin,run_len_slice w t o.type a n cap hu,goInt,go_sem]
theorem R_max {c : Call} {x y : Operand} {t t' : TypeId} {n m : Int} (ho : o.op = .call c) (hc : c = { callee:=.builtin .max,args:=#[x,y],argTypes:=#[t,t'] }) (hx : ρ x = .int .i64 n) (hy : ρ y = .int .i64 m) :
  (execOp ρ o).run P w = .ok (.value (.int .i64 (max n m))) w:=by
 subst hc
 unfold execOp
 simp [ho,hx,hy,resolve,invoke,builtin,go_sem]
 split <;> omega
theorem cells_one {v : Value} (h : v.oneCell' = true) : v.cells = #[v]:=by
 cases v <;> first | rfl | (simp [Value.oneCell'] at h)
theorem R_store {x y : Operand} {t : TypeId} {b off : Nat} {v u : Value} (ho : o.op = .store t x y) (hx : ρ x = .pointer (some ⟨b,off,none⟩)) (hy : ρ y = v) (h1 : v.oneCell' = true) (hs : (P.info? t).map (·.size) = some 1) (hc : w.cell? ⟨b,off,none⟩ = some u) (hf : w.frozen? ⟨b,off,none⟩ = false) :
  (execOp ρ o).run P w = .ok .skip (w.setCell ⟨b,off,none⟩ v):=by
 have:=run_storeCells_cells (P:=P) b off [v] 0 w (fun j hj=>by obtain rfl : j = 0:=(by simp at hj;omega);simp [hc]) (fun j hj=>by obtain rfl : j = 0:=(by simp at hj;omega);simp [hf]) (fun z hz=>by simp at hz;subst hz;exact h1)
 simp only [Nat.add_zero] at this
 have hsv : (storeVar t ⟨b,off,none⟩ v).run P w = .ok () (w.setCell ⟨b,off,none⟩ v):=by
  unfold storeVar
  rw [cells_one h1]
  cases hq : P.info? t with
  | none=>simp [hq] at hs
  | some j =>
   have hs' : j.size = 1:=by simpa [hq] using hs
   simp [sizeOf,typeInfo,hq,hs',this]
   rfl
 unfold execOp
 simp only [ho,hx,hy,Instr.storeAt,Instr.sureAddr,Sem.run_bind,Sem.run_pure,Result.andThen_ok,hsv]
theorem R_min {c : Call} {x y : Operand} {t t' : TypeId} {n m : Int} (ho : o.op = .call c) (hc : c = { callee:=.builtin .min,args:=#[x,y],argTypes:=#[t,t'] }) (hx : ρ x = .int .i64 n) (hy : ρ y = .int .i64 m) :
  (execOp ρ o).run P w = .ok (.value (.int .i64 (min n m))) w:=by
 subst hc
 unfold execOp
 simp [ho,hx,hy,resolve,invoke,builtin,go_sem]
 split <;> omega
theorem R_alloc {T : TypeId} {z : Value} (ho : o.op = .alloc T) (hz : ∀ w,(zeroValue T).run P w = .ok z w) : (execOp ρ o).run P w = .ok (.value (.pointer (some ⟨w.heap.size,0,none⟩))) (w.alloc (.cells z.cells T)):=by
 unfold execOp
 simp only [ho,Instr.alloc,Sem.run_bind,hz,Result.andThen_ok]
 simp only [newVar,newRow,newObj,Sem.run_bind,Sem.run_pure]
 rfl
theorem R_box {T : TypeId} {x : Operand} {v : Value} (ho : o.op = .box T x) (hx : ρ x = v) : (execOp ρ o).run P w = .ok (.value (.pointer (some ⟨w.heap.size,0,none⟩))) (w.alloc (.cells v.cells T)):=by
 unfold execOp
 simp only [ho,hx,Instr.box,Sem.run_bind,Result.andThen_ok]
 simp only [newVar,newRow,newObj,Sem.run_bind,Sem.run_pure]
 rfl
end
theorem wp_region_st {P : Program} {id : Nat} {Q : Exit → Act → World → Prop} {a : Act} {w : World} {l : List Oper} (n : Nat) (hm : P.follows .mixedOrders = true) (hB : Region.lexTailB .any l.toArray n = true)
  (h : ∀ W : World,W.heap = w.heap → Ext [] w W → wpStill P l.toArray W (fun a'=>wpList P l.toArray Q (l.drop n) a' W) (l.take n) a) : (Code.region id l.toArray true).wp P Q a w:=
 wp_region_still_tail n hm hB (h _ rfl ⟨rfl,rfl,rfl,Nat.le_refl _,fun _ _ _=>rfl⟩)
def matCells (m : Nat → Nat → Int) : Array Value:=Array.ofFn (n:=169) fun i=>.int .i64 (m (i.1 / 13) (i.1 % 13))
def matList (m : Nat → Nat → Int) : List Value:=(matCells m).toList
attribute [irreducible] matCells matList
theorem run_equalIn_array {P : Program} {w : World} {d len n : Nat} {t elem : TypeId} {xs ys : Array Value} (ht : P.underlying t = some (.array len elem)) (hn : (P.info? elem).map (·.size) = some n) (e : Nat → Bool)
  (hx : ∀ i,i < len → ∃ x y,(part elem xs (i * n)).run P w = .ok x w ∧ (part elem ys (i * n)).run P w = .ok y w ∧ (Op.equalIn d elem x y).run P w = .ok (e i) w) :
  (Op.equalIn (d + 1) t (.agg xs) (.agg ys)).run P w = .ok ((List.range len).all e) w:=by
 have hz : (sizeOf elem).run P w = .ok n w:=by
  cases hq : P.info? elem with
  | none=>simp [hq] at hn
  | some j =>
   have hs : j.size = n:=by simpa [hq] using hn
   simp [sizeOf,typeInfo,hq,hs]
 have hL : ∀ i ∈ List.range' 0 len 1,i < len:=by simp
 have hall : (List.range len).all e = (List.range' 0 len 1).all e:=by rw [List.range_eq_range']
 rw [hall]
 simp only [Op.equalIn,Sem.run_bind,run_underlying ht,Result.andThen_ok,hz,Std.Legacy.Range.forIn_eq_forIn_range',Std.Legacy.Range.size,Nat.sub_zero,Nat.add_sub_cancel,Nat.div_one]
 generalize List.range' 0 len 1 = L at hL ⊢
 induction L with
 | nil=>simp
 | cons i L ih =>
  obtain ⟨x,y,h1,h2,h3⟩:=hx i (hL i (by simp))
  have ih':=ih (fun j hj=>hL j (by simp [hj]))
  simp only [List.forIn_cons,Sem.run_bind,h1,h2,h3,Result.andThen_ok,List.all_cons]
  cases he : e i with
  | false=>simp
  | true =>
   simp only [Bool.true_and]
   simpa using ih'
def IsRows (w : World) (v : Value) (sz : Nat) (xs : List (List Value)) : Prop:=
 ∃ a cap,v = .slice a xs.length cap ∧ (∀ x ∈ xs,x.length = sz) ∧ (xs ≠ [] → ∃ b off,a = some ⟨b,off,none⟩ ∧ b < w.heap.size ∧ ∀ i j x,xs[i]? = some x → j < sz → w.cell? ⟨b,off + i * sz + j,none⟩ = x[j]?)
theorem IsRows.ext {X : List Nat} {w w' : World} {v : Value} {sz : Nat} {xs : List (List Value)} (h : IsRows w v sz xs) (e : Ext X w w') (hx : ∀ b ∈ X,w.heap.size ≤ b) : IsRows w' v sz xs:=by
 obtain ⟨a,cap,hv,hl,hc⟩:=h
 refine ⟨a,cap,hv,hl,fun hne=>?_⟩
 obtain ⟨b,off,ha,hb,hcell⟩:=hc hne
 refine ⟨b,off,ha,Nat.lt_of_lt_of_le hb e.size,fun i j x hi hj=>?_⟩
 rw [e.cell (a:=⟨b,off + i * sz + j,none⟩) hb (fun hm=>by have:=hx b hm;omega)]
 exact hcell i j x hi hj
theorem IsRows.range {w : World} {v : Value} {sz : Nat} {xs : List (List Value)} (h : IsRows w v sz xs) {a : Option Addr} {n cap : Nat} (hv : v = .slice a n cap) (hne : xs ≠ []) :
  ∃ b off,a = some ⟨b,off,none⟩ ∧ b < w.heap.size ∧ ∀ i x,xs[i]? = some x → w.rangeAt b (off + i * sz) x:=by
 obtain ⟨a',cap',hv',hl,hc⟩:=h
 rw [hv'] at hv
 cases hv
 obtain ⟨b,off,ha,hb,hcell⟩:=hc hne
 refine ⟨b,off,ha,hb,fun i x hi j u hu=>?_⟩
 have hj : j < sz:=by
  have hx:=hl x (List.mem_of_getElem? hi)
  rw [← hx]
  exact (List.getElem?_eq_some_iff.1 hu).1
 rw [hcell i j x hi hj];exact hu
theorem new_block {w w2 : World} {o : Obj} {b : Nat} (e : w2 = w.alloc o) (h : b = w.heap.size) : w2.heap[b]? = some o:=by rw [e];exact blk_new h
theorem new_row {w w2 : World} {cs : Array Value} {T : TypeId} {b : Nat} (e : w2 = w.alloc (.cells (Value.agg cs).cells T)) (h : b = w.heap.size) : w2.heap[b]? = some (.cells cs T (0,0)):=by rw [e];exact blk_new h
theorem new_one {w w2 : World} {v : Value} {T : TypeId} {b : Nat} (e : w2 = w.alloc (.cells v.cells T)) (h1 : v.oneCell' = true) (h : b = w.heap.size) : w2.heap[b]? = some (.cells #[v] T (0,0)):=by rw [e,cells_one h1];exact blk_new h
theorem get0 {a : Value} {l : List Value} : (a :: l).toArray[0]? = some a:=by simp
theorem getS {a v : Value} {l : List Value} {k : Nat} (h : l.toArray[k]? = some v) : (a :: l).toArray[k + 1]? = some v:=by simpa using h
theorem mid0 {C : Array Value} {o : Nat} : ∀ j,j < 0 → C[o + j]? = ([] : List Value)[j]?:=fun j h=>absurd h (by omega)
theorem midS {C : Array Value} {o n : Nat} {x : Value} {cs : List Value} (h : C[o]? = some x) (k : ∀ j,j < n → C[o + 1 + j]? = cs[j]?) : ∀ j,j < n + 1 → C[o + j]? = (x :: cs)[j]?:=fun j hj=>by
 cases j with
 | zero=>simpa using h
 | succ j=>have:=k j (by omega);rw [show o + (j + 1) = o + 1 + j by omega,this];simp
theorem keep_alloc {w w2 : World} {o o' : Obj} {b : Nat} (e : w2 = w.alloc o) (h : w.heap[b]? = some o') : w2.heap[b]? = some o':=by rw [e];exact blk_old h
theorem ext_alloc {X : List Nat} {a w w2 : World} {o : Obj} (h : Ext X a w) (e : w2 = w.alloc o) : Ext X a w2:=by rw [e];exact h.alloc o
theorem keep_cells {w w2 : World} {b c : Nat} {o : Nat} {l : List Value} {x : Obj} (e : w2 = w.setCells c o l) (h : w.heap[b]? = some x) (hb : b ≠ c) : w2.heap[b]? = some x:=by
 rw [e,setCells_other _ _ _ _ _ hb,h]
theorem put_row {w w2 : World} {b : Nat} {T : TypeId} {cs old : Array Value} (e : w2 = w.setCells b 0 cs.toList) (h : w.heap[b]? = some (.cells old T (0,0))) (hs : old.size = cs.size) : w2.heap[b]? = some (.cells cs T (0,0)):=by
 rw [e];exact stored_block h hs
theorem ext_cells {X : List Nat} {a w w2 : World} {c : Nat} {o : Nat} {l : List Value} (h : Ext X a w) (e : w2 = w.setCells c o l) (hp : c < a.heap.size → c ∈ X) : Ext X a w2:=by rw [e];exact h.setCells hp _ _
theorem keep_cell {w w2 : World} {b c o : Nat} {v : Value} {x : Obj} (e : w2 = w.setCell ⟨c,o,none⟩ v) (h : w.heap[b]? = some x) (hb : b ≠ c) : w2.heap[b]? = some x:=keep_set e h hb
theorem put_cell {w w2 : World} {b o : Nat} {T : TypeId} {cs cs' : Array Value} {v : Value} (e : w2 = w.setCell ⟨b,o,none⟩ v) (h : w.heap[b]? = some (.cells cs T (0,0))) (hc : cs.setIfInBounds o v = cs') : w2.heap[b]? = some (.cells cs' T (0,0)):=by
 subst hc
 rw [e]
 have:=blk_lt h
 simp [World.setCell,Array.getElem?_modify,h]
theorem ext_cell {X : List Nat} {a w w2 : World} {c o : Nat} {v : Value} (h : Ext X a w) (e : w2 = w.setCell ⟨c,o,none⟩ v) (hp : c < a.heap.size → c ∈ X) : Ext X a w2:=by rw [e];exact h.setCell hp _
theorem ext_same {X : List Nat} {a w w2 : World} (h : Ext X a w) (e : Ext [] w w2) : Ext X a w2:=h.nil e
theorem range_mid' {w : World} {b off n : Nat} {cs : List Value} {C : Array Value} {T : TypeId} {fz : Nat × Nat} (H : w.heap[b]? = some (.cells C T fz)) (hn : cs.length = n) (h : ∀ j,j < n → C[off + j]? = cs[j]?) : w.rangeAt b off cs:=fun j v hv=>by
 rw [cells_of_block H,h j (by have:=(List.getElem?_eq_some_iff.1 hv).1;omega),hv]
section
variable {P : Program} {ρ : Operand → Value} {o : Oper} {w : World}
theorem R_loadBlk {x : Operand} {t : TypeId} {b : Nat} {cs : Array Value} {T : TypeId} {fz : Nat × Nat} {d : TypeDesc} (ho : o.op = .load t x) (hx : ρ x = .pointer (some ⟨b,0,none⟩)) (hd : P.underlying t = some d) (ha : d.isRow = true) (hi : (P.info? t).map (·.size) = some cs.size) (H : w.heap[b]? = some (.cells cs T fz)) :
  (execOp ρ o).run P w = .ok (.value (.agg cs)) w:=by
 have:=R_loadRow (w:=w) (cs:=cs.toList) ho hx hd ha (by simpa using hi) (range_of_block (T:=T) (fz:=fz) (by simpa using H))
 simpa using this
theorem R_field {x : Operand} {t : TypeId} {f b off sz n : Nat} {fs : Array Go.Field} {fd : Go.Field} (ho : o.op = .fieldAddr t x f) (hx : ρ x = .pointer (some ⟨b,off,none⟩)) (hu : P.underlying t = some (.struct fs)) (hf : fs[f]? = some fd) (hn : off + fd.offset = n) (hs : (P.info? fd.type).map (·.size) = some sz) (h0 : sz ≠ 0) :
  (execOp ρ o).run P w = .ok (.value (.pointer (some ⟨b,n,none⟩))) w:=by
 subst hn
 exact R_fieldAddr ho hx hu hf rfl hs h0
theorem R_extract {x : Operand} {k : Nat} {vs : Array Value} {v : Value} (ho : o.op = .extract x k) (hx : ρ x = .tuple vs) (hv : vs[k]? = some v) : (execOp ρ o).run P w = .ok (.value v) w:=by
 unfold execOp
 simp [ho,hx,Instr.extract,hv,Sem.run,go_sem]
theorem R_pick {c x y : Operand} {b : Bool} {v : Value} (ho : o.op = .pick c x y) (hc : ρ c = .bool b) (hv : (if b then ρ x else ρ y) = v) : (execOp ρ o).run P w = .ok (.value v) w:=by
 unfold execOp
 cases b <;> simp_all [go_sem,asBool]
theorem R_build' {t : TypeId} {parts : Array (Nat × Operand)} {cells : Array Value} (ho : o.op = .build t parts) (h : P.built t (parts.map fun (i,x)=>(i,ρ x)).toList = some cells) : (execOp ρ o).run P w = .ok (.value (.agg cells)) w:=by
 unfold execOp
 simp [ho,run_build w t _ cells h]
theorem R_andNot {x y : Operand} {t t' : TypeId} {k : IntKind} {n m : Int} (ho : o.op = .binOp .andNot t x y t') (hx : ρ x = .int k n) (hy : ρ y = .int k m) : (execOp ρ o).run P w = .ok (.value (.int k (bits .andNot k n m))) w:=by
 unfold execOp
 simp [ho,hx,hy,binOp,Op.intBits,go_sem]
 rfl
theorem R_makeFunc {fn : Fn} {first cap : Array Operand} {us vs : Array Value} (ho : o.op = .makeFunc fn first cap) (h1 : first.map ρ = us) (h2 : cap.map ρ = vs) : (execOp ρ o).run P w = .ok (.value (.func fn us vs)) w:=by
 subst h1 h2
 unfold execOp
 simp [ho,Instr.makeFunc,go_sem]
theorem R_buildSlice {t e : TypeId} {n size : Nat} {parts : Array (Nat × Operand)} {z : Value} {cells : Array Value} (ho : o.op = .buildSlice t n parts) (hu : P.underlying t = some (.slice e)) (hs : (P.info? e).map (·.size) = some size) (hn : n * size ≤ 2 ^ 24) (hn0 : n * size ≠ 0) (hz : ∀ w,(zeroValue e).run P w = .ok z w)
  (hf : Instr.fill (fun i=>some (i * size,size)) ((Array.range (n * size)).map (z.cells[· % z.cells.size]!)) (parts.map fun (i,x)=>(i,ρ x)).toList = some cells) :
  (execOp ρ o).run P w = .ok (.value (.slice (some ⟨w.heap.size,0,none⟩) n n)) (w.alloc (.cells cells e)):=by
 unfold execOp
 cases hq : P.info? e with
 | none=>simp [hq] at hs
 | some i =>
  have hs' : i.size = size:=by simpa [hq] using hs
  subst hs'
  have hn' : ¬ (2 ^ 24 < n * i.size):=by omega
  simp [Value.cells] at hf
  simp [ho,Instr.buildSlice,run_underlying hu,sizeOf,typeInfo,hq,hn',hn0,hz,newRow,newObj,go_sem,hf]
  rfl
theorem R_index {x ix : Operand} {t e : TypeId} {k : IntKind} {i : Int} {n : Nat} {cs : Array Value} {v : Value} (ho : o.op = .index t x ix) (hx : ρ x = .agg cs) (hi : ρ ix = .int k i) (hu : P.underlying t = some (.array n e)) (hs : (P.info? e).map (·.size) = some 1) {d : TypeDesc} (hd : P.underlying e = some d) (ha : d.isRow = false) (h0 : 0 ≤ i) (h1 : i < n) (hv : cs[i.toNat]? = some v) :
  (execOp ρ o).run P w = .ok (.value v) w:=by
 unfold execOp
 cases hq : P.info? e with
 | none=>simp [hq] at hs
 | some j =>
  have hs' : j.size = 1:=by simpa [hq] using hs
  cases d <;> first | (simp [TypeDesc.isRow] at ha;done) | simp [ho,hx,hi,Instr.index,asIntOf,run_underlying hu,sizeOf,typeInfo,hq,hs',h0,h1,part,isAgg,run_underlying hd,hv,go_sem]
end
section
variable {P : Program} {fn : Func} {tmps : Array Value} {w : World}
theorem load_block {ty : TypeId} {b : Nat} {cs : Array Value} {T : TypeId} {d : TypeDesc} {fz : Nat × Nat} (hd : P.underlying ty = some d) (ha : d.isRow = true) (hi : (P.info? ty).map (·.size) = some cs.size) (H : w.heap[b]? = some (.cells cs T fz)) : (loadVar ty ⟨b,0,none⟩).run P w = .ok (.agg cs) w:=by
 have hc : w.rangeAt b 0 cs.toList:=fun j v hv=>by
  rw [Nat.zero_add,cells_of_block H];simpa using hv
 simpa using run_loadVar_mid (P:=P) w b 0 ty cs.toList d hc hd ha (by simpa using hi)
end
def intRow (x : Int) : List Value:=[.int .i64 x]
theorem owns_keep {w w' : World} {base : Nat} {e : TypeId} {size : Nat} {v : Value} {n : Nat} {xs : List Value} (h : w.ownsRow base e size v n xs) (k : ∀ (g : Nat) (o : Obj),base ≤ g → w.heap[g]? = some o → w'.heap[g]? = some o) : w'.ownsRow base e size v n xs:=by
 refine ⟨h.1,?_⟩
 rcases h.2 with h | ⟨g,cap,cur,h1,h2,h3,h4⟩
 ·exact .inl h
 ·exact .inr ⟨g,cap,cur,h1,h2,k g _ h2 h3,h4⟩
theorem owns_ext {X : List Nat} {w w' : World} {base : Nat} {e : TypeId} {size : Nat} {v : Value} {n : Nat} {xs : List Value} (h : w.ownsRow base e size v n xs) (E : Ext X w w') (hx : ∀ b ∈ X,b < base) : w'.ownsRow base e size v n xs:=
 owns_keep h fun g o hg ho=>E.keep ho fun hm=>by have:=hx g hm;omega
theorem owns_alloc {w w2 : World} {ob : Obj} {base : Nat} {e : TypeId} {size : Nat} {v : Value} {n : Nat} {xs : List Value} (hw : w2 = w.alloc ob) (h : w.ownsRow base e size v n xs) : w2.ownsRow base e size v n xs:=
 owns_keep h fun g x hg ho=>keep_alloc hw ho
theorem owns_same {w w2 : World} {base : Nat} {e : TypeId} {size : Nat} {v : Value} {n : Nat} {xs : List Value} (hw : w2.heap = w.heap) (h : w.ownsRow base e size v n xs) : w2.ownsRow base e size v n xs:=
 owns_keep h fun g x hg ho=>keep_same hw ho
theorem keep_append {w w' : World} {base : Nat} {e : TypeId} {size : Nat} {v : Value} {n : Nat} {xs : List Value} {b : Nat} {o : Obj} (h : w.ownsRow base e size v n xs) (hg : w.grownBy w' v.ownBlock) (q : w.heap[b]? = some o) (hb : b < base) : w'.heap[b]? = some o:=by
 rw [hg.block b (blk_lt q) fun hk=>by have:=h.lt b hk.symm;omega,q]
theorem rows_of_owns {α : Type} {w : World} {base : Nat} {e : TypeId} {sz : Nat} {v : Value} {xs : List α} {row : α → List Value} (h : w.ownsRow base e sz v xs.length ((xs.map row).flatten)) (hr : ∀ x,(row x).length = sz) : IsRows w v sz (xs.map row):=by
 have flat : ∀ (ys : List α) (i j : Nat) (x : List Value),(ys.map row)[i]? = some x → j < sz → (ys.map row).flatten[i * sz + j]? = x[j]?:=by
  intro ys
  induction ys with
  | nil=>intro i j x hi;simp at hi
  | cons y ys ih =>
   intro i j x hi hj
   simp only [List.map_cons,List.flatten_cons]
   cases i with
   | zero =>
    simp at hi;subst hi
    rw [List.getElem?_append_left (by rw [hr];omega)];simp
   | succ i =>
    rw [List.getElem?_append_right (by rw [hr,Nat.add_mul];omega),hr,show (i + 1) * sz + j - sz = i * sz + j by rw [Nat.add_mul];omega]
    exact ih i j x (by simpa using hi) hj
 rcases h.2 with ⟨hv,hn⟩ | ⟨g,cap,cur,hv,hb,hg,h1,h2,h3,h4⟩
 ·obtain rfl : xs = []:=List.length_eq_zero_iff.1 hn
  exact ⟨none,0,by simpa using hv,by simp,fun h=>absurd rfl h⟩
 ·refine ⟨some ⟨g,0,none⟩,cap,by simpa using hv,fun x hx=>?_,fun _=>⟨g,0,rfl,blk_lt hg,fun i j x hi hj=>?_⟩⟩
  ·obtain ⟨y,-,rfl⟩:=List.mem_map.1 hx;exact hr y
  ·have hf:=flat xs i j x hi hj
   rw [cells_of_block hg,← hf,← h4,Nat.zero_add,List.getElem?_take,if_pos,Array.getElem?_toList]
   have hil : i < xs.length:=by have:=(List.getElem?_eq_some_iff.1 hi).1;simpa using this
   calc i * sz + j < i * sz + sz:=by omega
    _ = (i + 1) * sz:=by rw [Nat.add_mul];omega
    _ ≤ xs.length * sz:=Nat.mul_le_mul_right _ hil
theorem owns_slice {w : World} {base : Nat} {e : TypeId} {sz : Nat} {v : Value} {n : Nat} {xs : List Value} (h : w.ownsRow base e sz v n xs) : ∃ a cap,v = .slice a n cap:=by
 rcases h.2 with ⟨hv,hn⟩ | ⟨g,cap,cur,hv,-⟩
 ·subst hn;exact ⟨none,0,hv⟩
 ·exact ⟨_,_,hv⟩
theorem getD_mem {α : Type} {l : List α} {i : Nat} (d : α) (h : i < l.length) : l.getD i d ∈ l:=by
 rw [List.getD_eq_getElem?_getD,List.getElem?_eq_getElem h];exact List.getElem_mem h
theorem rows_nil (w : World) (cap sz : Nat) : IsRows w (.slice none 0 cap) sz []:=⟨none,cap,rfl,by simp,fun h=>absurd rfl h⟩
theorem rows_lit {w : World} {b : Nat} {T : TypeId} {fz : Nat × Nat} (xs : List Int) (cap : Nat) (h : w.heap[b]? = some (.cells (xs.map (Value.int .i64)).toArray T fz)) : IsRows w (.slice (some ⟨b,0,none⟩) xs.length cap) 1 (xs.map intRow):=by
 refine ⟨some ⟨b,0,none⟩,cap,by simp,by simp [intRow],fun _=>⟨b,0,rfl,blk_lt h,fun i j x hi hj=>?_⟩⟩
 obtain rfl : j = 0:=by omega
 rw [cells_of_block h]
 simp only [List.getElem?_map,Option.map_eq_some_iff] at hi
 obtain ⟨y,hy,rfl⟩:=hi
 simp [hy,intRow]
def LotsOk (w0 w : World) (b k : Nat) (nv : Value) : Prop:=
 w0.heap.size ≤ b ∧ (∃ (a : Option Addr) (c : Nat) (xs : List Int),nv = .slice a xs.length c ∧ IsRows w0 nv 1 (xs.map intRow)) ∧ Ext [b] w0 w ∧
 ∃ d st : Int,w.heap[b]? = some (.cells #[nv,.int .i64 d,.int .u64 st] 58 (0,0)) ∧ 0 ≤ d ∧ d ≤ k ∧ 0 ≤ st ∧ st < 18446744073709551616
theorem lots_mono {w0 w : World} {b k k' : Nat} {nv : Value} (h : LotsOk w0 w b k nv) (hk : k ≤ k') : LotsOk w0 w b k' nv:=by
 obtain ⟨h1,h2,h3,d,st,h4,h5,h6,h7⟩:=h
 exact ⟨h1,h2,h3,d,st,h4,h5,by omega,h7⟩
theorem lots_alloc {w0 w w2 : World} {b k : Nat} {nv : Value} {o : Obj} (e : w2 = w.alloc o) (h : LotsOk w0 w b k nv) : LotsOk w0 w2 b k nv:=by
 obtain ⟨h1,h2,h3,d,st,h4,h5⟩:=h
 exact ⟨h1,h2,ext_alloc h3 e,d,st,keep_alloc e h4,h5⟩
theorem lots_cells {w0 w w2 : World} {b k c o : Nat} {nv : Value} {l : List Value} (e : w2 = w.setCells c o l) (h : LotsOk w0 w b k nv) (hc : w0.heap.size ≤ c) (hb : b ≠ c) : LotsOk w0 w2 b k nv:=by
 obtain ⟨h1,h2,h3,d,st,h4,h5⟩:=h
 exact ⟨h1,h2,ext_cells h3 e (fun h=>absurd h (by omega)),d,st,keep_cells e h4 hb,h5⟩
theorem lots_cell {w0 w w2 : World} {b k c o : Nat} {nv v : Value} (e : w2 = w.setCell ⟨c,o,none⟩ v) (h : LotsOk w0 w b k nv) (hc : w0.heap.size ≤ c) (hb : b ≠ c) : LotsOk w0 w2 b k nv:=by
 obtain ⟨h1,h2,h3,d,st,h4,h5⟩:=h
 exact ⟨h1,h2,ext_cell h3 e (fun h=>absurd h (by omega)),d,st,keep_cell e h4 hb,h5⟩
theorem lots_ext {w0 w w2 : World} {b k : Nat} {nv : Value} (e : Ext [] w w2) (h : LotsOk w0 w b k nv) : LotsOk w0 w2 b k nv:=by
 obtain ⟨h1,h2,h3,d,st,h4,h5⟩:=h
 exact ⟨h1,h2,h3.nil e,d,st,e.keep0 h4,h5⟩
theorem wrap_u64 (x : Int) : 0 ≤ IntKind.u64.wrap x ∧ IntKind.u64.wrap x < 18446744073709551616:=by
 simp only [IntKind.wrap,IntKind.bits,IntKind.signed]
 simp
 omega
theorem xor_u64 (x y : Int) (h1 : 0 ≤ x ∧ x < 18446744073709551616) (h2 : 0 ≤ y ∧ y < 18446744073709551616) : 0 ≤ bits .xor .u64 x y ∧ bits .xor .u64 x y < 18446744073709551616:=by
 rw [u64_xor x y h1.1 h1.2 h2.1 h2.2]
 have:=Nat.xor_lt_two_pow (n:=64) (x:=x.toNat) (y:=y.toNat) (by omega) (by omega)
 omega
theorem fdiv_pow (x : Int) (n : Nat) (h : 0 ≤ x) : 0 ≤ x.fdiv (2 ^ n) ∧ x.fdiv (2 ^ n) ≤ x:=by
 have hp : (0 : Int) < 2 ^ n:=Int.pow_pos (by decide)
 rw [Int.fdiv_eq_ediv_of_nonneg _ (Int.le_of_lt hp)]
 exact ⟨Int.ediv_nonneg h (Int.le_of_lt hp),Int.ediv_le_self _ h⟩
section
variable {P : Program} {ρ : Operand → Value} {o : Oper} {w : World}
theorem R_wadd {x y : Operand} {t t' : TypeId} {k : IntKind} {n m : Int} (ho : o.op = .binOp .add t x y t') (hx : ρ x = .int k n) (hy : ρ y = .int k m) : (execOp ρ o).run P w = .ok (.value (.int k (k.wrap (n + m)))) w:=by
 unfold execOp
 simp [ho,hx,hy,binOp,Op.intArith,eqGuard,go_sem]
theorem R_wmul {x y : Operand} {t t' : TypeId} {k : IntKind} {n m : Int} (ho : o.op = .binOp .mul t x y t') (hx : ρ x = .int k n) (hy : ρ y = .int k m) : (execOp ρ o).run P w = .ok (.value (.int k (k.wrap (n * m)))) w:=by
 unfold execOp
 simp [ho,hx,hy,binOp,Op.intArith,eqGuard,go_sem]
theorem R_xor {x y : Operand} {t t' : TypeId} {k : IntKind} {n m : Int} (ho : o.op = .binOp .xor t x y t') (hx : ρ x = .int k n) (hy : ρ y = .int k m) : (execOp ρ o).run P w = .ok (.value (.int k (bits .xor k n m))) w:=by
 unfold execOp
 simp [ho,hx,hy,binOp,Op.intBits,eqGuard,go_sem]
 rfl
theorem R_shr {x y : Operand} {t t' : TypeId} {k k' : IntKind} {n : Int} {m : Nat} (ho : o.op = .binOp .shr t x y t') (hx : ρ x = .int k n) (hy : ρ y = .int k' m) : (execOp ρ o).run P w = .ok (.value (.int k (n.fdiv (2 ^ min m k.bits)))) w:=by
 unfold execOp
 have hm : ¬ ((m : Int) < 0):=by omega
 simp [ho,hx,hy,binOp,Op.shift,eqGuard,hm,go_sem]
theorem R_rem {x y : Operand} {t t' : TypeId} {k : IntKind} {n m : Int} (ho : o.op = .binOp .rem t x y t') (hx : ρ x = .int k n) (hy : ρ y = .int k m) (hm : m ≠ 0) : (execOp ρ o).run P w = .ok (.value (.int k (n.tmod m))) w:=by
 unfold execOp
 simp [ho,hx,hy,binOp,Op.intDiv,eqGuard,hm,go_sem]
theorem R_convert {x : Operand} {t t' : TypeId} {k k' : IntKind} {n : Int} (ho : o.op = .convert t t' x) (hx : ρ x = .int k n) (hu : P.underlying t = some (.int k)) (hu' : P.underlying t' = some (.int k')) : (execOp ρ o).run P w = .ok (.value (.int k' (k'.wrap n))) w:=by
 unfold execOp
 simp [ho,hx,convert,Conv.intToInt,run_underlying hu,run_underlying hu',go_sem]
end
theorem shr8 {z : Int} (h : 0 ≤ z ∧ z < 18446744073709551616) : 0 ≤ z.fdiv (2 ^ min 8 IntKind.u64.bits) ∧ z.fdiv (2 ^ min 8 IntKind.u64.bits) < 72057594037927936:=by
 rw [show (2 : Int) ^ min 8 IntKind.u64.bits = 256 from rfl,Int.fdiv_eq_ediv_of_nonneg _ (by decide)]
 omega
theorem upto_val {v n : Int} (h1 : 0 ≤ v ∧ v < 72057594037927936) (h2 : 1 ≤ n ∧ n ≤ 1000000) : IntKind.u64.wrap (n + 1) = n + 1 ∧ IntKind.i64.wrap (v.tmod (n + 1)) = v.tmod (n + 1) ∧ 0 ≤ v.tmod (n + 1) ∧ v.tmod (n + 1) ≤ n:=by
 have h3 : 0 ≤ v.tmod (n + 1):=Int.tmod_nonneg _ h1.1
 have h4 : v.tmod (n + 1) < n + 1:=Int.tmod_lt_of_pos _ (by omega)
 refine ⟨?_,IntWalk.i64_in _ (by omega),h3,by omega⟩
 simp only [IntKind.wrap,IntKind.bits,IntKind.signed]
 simp
 omega
theorem flat_get {α : Type} {row : α → List Value} {sz : Nat} (hr : ∀ x,(row x).length = sz) : ∀ (ys : List α) (i j : Nat) (x : List Value),(ys.map row)[i]? = some x → j < sz → (ys.map row).flatten[i * sz + j]? = x[j]?
 | [],i,j,x,hi,hj=>by simp at hi
 | y :: ys,i,j,x,hi,hj=>by
  simp only [List.map_cons,List.flatten_cons]
  cases i with
  | zero =>
   simp at hi;subst hi
   rw [List.getElem?_append_left (by rw [hr];omega)];simp
  | succ i =>
   rw [List.getElem?_append_right (by rw [hr,Nat.add_mul];omega),hr,show (i + 1) * sz + j - sz = i * sz + j by rw [Nat.add_mul];omega]
   exact flat_get hr ys i j x (by simpa using hi) hj
theorem flat_len {α : Type} {row : α → List Value} {sz : Nat} (hr : ∀ x,(row x).length = sz) : ∀ ys : List α,((ys.map row).flatten).length = ys.length * sz
 | []=>by simp
 | y :: ys=>by simp only [List.map_cons,List.flatten_cons,List.length_append,hr,flat_len hr ys,List.length_cons,Nat.add_mul];omega
theorem rows_flat {α : Type} {w : World} {a : Option Addr} {n cap sz : Nat} {row : α → List Value} {xs : List α} (h0 : 0 < sz) (hr : ∀ x,(row x).length = sz) (h : IsRows w (.slice a n cap) sz (xs.map row)) : ∀ a0,a = some a0 → ∀ (j : Nat) (v : Value),((xs.map row).flatten)[j]? = some v → w.cell? (a0.add j) = some v:=by
 intro a0 ha j v hv
 have hj : j < xs.length * sz:=by rw [← flat_len hr];exact (List.getElem?_eq_some_iff.1 hv).1
 have hi : j / sz < xs.length:=Nat.div_lt_of_lt_mul (by rw [Nat.mul_comm];exact hj)
 have hjj : j / sz * sz + j % sz = j:=by rw [Nat.mul_comm];exact Nat.div_add_mod j sz
 obtain ⟨a',cap',hv',hl,hc⟩:=h
 cases hv'
 have hne : xs.map row ≠ []:=by
  intro e;have:=congrArg List.length e;simp at this;rw [this] at hi;simp at hi
 obtain ⟨b,off,hb,hlt,hcell⟩:=hc hne
 rw [hb] at ha;cases ha
 have hx : (xs.map row)[j / sz]? = some (row (xs[j / sz])):=by simp [hi]
 have h1:=flat_get hr xs (j / sz) (j % sz) _ hx (Nat.mod_lt _ h0)
 rw [hjj,hv] at h1
 have h2:=hcell (j / sz) (j % sz) _ hx (Nat.mod_lt _ h0)
 rw [Addr.add_lit,show off + j = off + j / sz * sz + j % sz by omega,h2,← h1]
theorem own_ne_type {w : World} {base size n k : Nat} {e T : TypeId} {v : Value} {xs : List Value} {cs : Array Value} {fz : Nat × Nat} (ho : w.ownsRow base e size v n xs) (h : w.heap[k]? = some (.cells cs T fz)) (hT : T ≠ e) : some k ≠ v.ownBlock:=by
 intro hk
 rcases ho.2 with ⟨hv,-⟩ | ⟨g,cap,cur,hv,-,hg,-⟩
 ·rw [hv] at hk;cases hk
 ·rw [hv] at hk
  have hkg : k = g:=by cases hk;rfl
  subst hkg
  rw [hg] at h
  cases h
  exact hT rfl
theorem lots_lt {w0 w : World} {b k : Nat} {nv : Value} (h : LotsOk w0 w b k nv) : b < w.heap.size:=by
 obtain ⟨-,-,-,d,st,h,-⟩:=h
 exact blk_lt h
theorem keep_type {w w' : World} {base n size b : Nat} {e T : TypeId} {v : Value} {xs : List Value} {cs : Array Value} {fz : Nat × Nat} (ho : w.ownsRow base e size v n xs) (hg : w.grownBy w' v.ownBlock) (q : w.heap[b]? = some (.cells cs T fz)) (hT : T ≠ e) : w'.heap[b]? = some (.cells cs T fz):=
 (hg.block b (blk_lt q) (own_ne_type ho q hT)).trans q
theorem owns_other {w w' : World} {base n size base2 n2 size2 : Nat} {e e2 : TypeId} {v v2 : Value} {xs xs2 : List Value} (h2 : w.ownsRow base2 e2 size2 v2 n2 xs2) (ho : w.ownsRow base e size v n xs) (hg : w.grownBy w' v.ownBlock) (hT : e2 ≠ e) : w'.ownsRow base2 e2 size2 v2 n2 xs2:=by
 refine ⟨h2.1,?_⟩
 rcases h2.2 with h | ⟨g,cap,cur,h1,hb,h3,h4⟩
 ·exact .inl h
 ·exact .inr ⟨g,cap,cur,h1,hb,keep_type ho hg h3 hT,h4⟩
theorem ext_appendX {X : List Nat} {w0 w w' : World} {base : Nat} {e : TypeId} {size : Nat} {v : Value} {n : Nat} {xs : List Value} (E : Ext X w0 w) (h : w.ownsRow base e size v n xs) (hg : w.grownBy w' v.ownBlock) (hb : w0.heap.size ≤ base) : Ext X w0 w':=
 ⟨hg.os.trans E.os,hg.tape.trans E.tape,hg.output.trans E.output,Nat.le_trans E.size hg.size,fun k hk hx=>(hg.block k (Nat.lt_of_lt_of_le hk E.size) (fun e=>by have:=h.lt k e.symm;omega)).trans (E.block k hk hx)⟩
theorem lots_append {w0 w w' : World} {b k : Nat} {nv : Value} {base : Nat} {e : TypeId} {size : Nat} {v : Value} {n : Nat} {xs : List Value} (HL : LotsOk w0 w b k nv) (h : w.ownsRow base e size v n xs) (hg : w.grownBy w' v.ownBlock) (hb : w0.heap.size ≤ base) (hT : 58 ≠ e) : LotsOk w0 w' b k nv:=by
 obtain ⟨h1,h2,h3,d,st,h4,h5⟩:=HL
 exact ⟨h1,h2,ext_appendX h3 h hg hb,d,st,keep_type h hg h4 hT,h5⟩
theorem own_lt {w : World} {base n size k : Nat} {e : TypeId} {v : Value} {xs : List Value} (ho : w.ownsRow base e size v n xs) (hk : some k = v.ownBlock) : k < w.heap.size:=by
 rcases ho.2 with ⟨hv,-⟩ | ⟨g,cap,cur,hv,-,hg,-⟩
 ·rw [hv] at hk;cases hk
 ·rw [hv] at hk
  cases hk
  exact blk_lt hg
theorem own_ne_new {w : World} {base n size k : Nat} {e : TypeId} {v : Value} {xs : List Value} (ho : w.ownsRow base e size v n xs) (hk : k = w.heap.size) : some k ≠ v.ownBlock:=fun h=>by
 have:=own_lt ho h
 omega
theorem owns_keepX {w w' : World} {base : Nat} {e : TypeId} {size : Nat} {v : Value} {n : Nat} {xs : List Value} (h : w.ownsRow base e size v n xs) (k : ∀ (g : Nat) (o : Obj),some g = v.ownBlock → w.heap[g]? = some o → w'.heap[g]? = some o) : w'.ownsRow base e size v n xs:=by
 refine ⟨h.1,?_⟩
 rcases h.2 with h | ⟨g,cap,cur,h1,h2,h3,h4⟩
 ·exact .inl h
 ·exact .inr ⟨g,cap,cur,h1,h2,k g _ (by rw [h1];rfl) h3,h4⟩
theorem owns_cellsX {w w2 : World} {c o : Nat} {l : List Value} {base : Nat} {e : TypeId} {size : Nat} {v : Value} {n : Nat} {xs : List Value} (hw : w2 = w.setCells c o l) (h : w.ownsRow base e size v n xs) (hb : some c ≠ v.ownBlock) : w2.ownsRow base e size v n xs:=
 owns_keepX h fun g x hg ho=>keep_cells hw ho (fun e=>hb (by rw [← e];exact hg))
theorem owns_cellX {w w2 : World} {c o : Nat} {u : Value} {base : Nat} {e : TypeId} {size : Nat} {v : Value} {n : Nat} {xs : List Value} (hw : w2 = w.setCell ⟨c,o,none⟩ u) (h : w.ownsRow base e size v n xs) (hb : some c ≠ v.ownBlock) : w2.ownsRow base e size v n xs:=
 owns_keepX h fun g x hg ho=>keep_cell hw ho (fun e=>hb (by rw [← e];exact hg))
theorem put_mid2 {w w2 : World} {b o : Nat} {T : TypeId} {cs cs' : Array Value} {x y : Value} (e : w2 = w.setCells b o [x,y]) (h : w.heap[b]? = some (.cells cs T (0,0))) (hc : (cs.setIfInBounds o x).setIfInBounds (o + 1) y = cs') : w2.heap[b]? = some (.cells cs' T (0,0)):=by
 subst hc
 have h1:=put_cell (w2:=w.setCell ⟨b,o,none⟩ x) rfl h rfl
 have h2:=put_cell (w2:=(w.setCell ⟨b,o,none⟩ x).setCell ⟨b,o + 1,none⟩ y) rfl h1 rfl
 rw [e]
 exact h2
theorem there_mid {w : World} {b o n : Nat} {cs : Array Value} {T : TypeId} (H : w.heap[b]? = some (.cells cs T (0,0))) (h : o + n ≤ cs.size) : w.there b o n:=fun j hj=>by
 rw [cells_of_block H,free_of_block H]
 have : o + j < cs.size:=by omega
 simp [this]
section
variable {P : Program} {ρ : Operand → Value} {o : Oper} {w : World}
theorem R_storeMid {x y : Operand} {t : TypeId} {b off : Nat} {cs : Array Value} (ho : o.op = .store t x y) (hx : ρ x = .pointer (some ⟨b,off,none⟩)) (hy : ρ y = .agg cs) (hi : (P.info? t).map (·.size) = some cs.size) (h1 : cs.all (·.oneCell') = true) {old : Array Value} {T : TypeId} (H : w.heap[b]? = some (.cells old T (0,0))) (hs : off + cs.size ≤ old.size) :
  (execOp ρ o).run P w = .ok .skip (w.setCells b off cs.toList):=by
 unfold execOp
 simp only [ho,hx,hy,Instr.storeAt,Instr.sureAddr,Sem.run_bind,Sem.run_pure,Result.andThen_ok,run_storeVar_mid w b off t cs (there_mid H hs) hi h1]
end
section
variable {P : Program} {ρ : Operand → Value} {o : Oper} {w : World}
theorem R_lssB {x y : Operand} {t t' : TypeId} {k : IntKind} {n m : Int} {b : Bool} (ho : o.op = .binOp .lss t x y t') (hx : ρ x = .int k n) (hy : ρ y = .int k m) (hb : decide (n < m) = b) : (execOp ρ o).run P w = .ok (.value (.bool b)) w:=hb ▸ R_lss ho hx hy
theorem R_leqB {x y : Operand} {t t' : TypeId} {k : IntKind} {n m : Int} {b : Bool} (ho : o.op = .binOp .leq t x y t') (hx : ρ x = .int k n) (hy : ρ y = .int k m) (hb : decide (n ≤ m) = b) : (execOp ρ o).run P w = .ok (.value (.bool b)) w:=hb ▸ R_leq ho hx hy
theorem R_gtrB {x y : Operand} {t t' : TypeId} {k : IntKind} {n m : Int} {b : Bool} (ho : o.op = .binOp .gtr t x y t') (hx : ρ x = .int k n) (hy : ρ y = .int k m) (hb : decide (m < n) = b) : (execOp ρ o).run P w = .ok (.value (.bool b)) w:=hb ▸ R_gtr ho hx hy
theorem R_geqB {x y : Operand} {t t' : TypeId} {k : IntKind} {n m : Int} {b : Bool} (ho : o.op = .binOp .geq t x y t') (hx : ρ x = .int k n) (hy : ρ y = .int k m) (hb : decide (m ≤ n) = b) : (execOp ρ o).run P w = .ok (.value (.bool b)) w:=hb ▸ R_geq ho hx hy
theorem R_eqlB {x y : Operand} {t t' : TypeId} {k : IntKind} {n m : Int} {b : Bool} (ho : o.op = .binOp .eql t x y t') (hx : ρ x = .int k n) (hy : ρ y = .int k m) (hb : decide (n = m) = b) : (execOp ρ o).run P w = .ok (.value (.bool b)) w:=by
 rw [R_eql ho hx hy,← hb]
 congr 3
theorem R_neqB {x y : Operand} {t t' : TypeId} {k : IntKind} {n m : Int} {b : Bool} (ho : o.op = .binOp .neq t x y t') (hx : ρ x = .int k n) (hy : ρ y = .int k m) (hb : decide (n = m) = !b) : (execOp ρ o).run P w = .ok (.value (.bool b)) w:=by
 rw [R_neq ho hx hy]
 have : (n != m) = b:=by
  rw [show (n != m) = !decide (n = m) from rfl,hb,Bool.not_not]
 rw [this]
end
theorem part_int {w : World} {xs : Array Value} {o : Nat} {v : Value} (h : xs[o]? = some v) : (part 3 xs o).run Tryz.prog w = .ok v w:=by
 simp only [part,isAgg,Sem.run_bind,run_underlying Tryz.underlying3,Result.andThen_ok,Sem.run_pure]
 simp [h]
structure Has (N : Nat) (D : List Deferred) (a : Act) (L : List (Nat × Value)) : Prop where
 ds : a.defers = D
 sz : a.tmps.size = N
 get : ∀ k v,L.lookup k = some v → a.tmps.getD k undef = v
theorem Has.at {N : Nat} {D : List Deferred} {a : Act} {L : List (Nat × Value)} (F : Has N D a L) {k : Nat} {v : Value} (e : L.lookup k = some v) : a.eval (.tmp k) = v:=F.get k v e
theorem Has.put {N : Nat} {D : List Deferred} {a : Act} {L : List (Nat × Value)} (F : Has N D a L) {d : Nat} (hd : d < N) (v : Value) : Has N D (a.put (some d) v) ((d,v) :: L):=by
 refine ⟨F.ds,by simp [Act.put,F.sz],fun k u e=>?_⟩
 simp only [List.lookup] at e
 by_cases h : k = d
 ·subst h
  simp only [beq_self_eq_true,Option.some.injEq] at e
  subst e
  have hs:=F.sz
  simp [Act.put,hs,hd]
 ·rw [show (k == d) = false by simpa using h] at e
  have:=F.get k u e
  simpa [Act.put,Array.getElem?_setIfInBounds_ne (Ne.symm h)] using this
def Among (L : List (Nat × Value)) : List (Nat × Value) → Prop
 | []=>True
 | p :: R=>L.lookup p.1 = some p.2 ∧ Among L R
theorem Among.n {L : List (Nat × Value)} : Among L []:=trivial
theorem Among.c {L R : List (Nat × Value)} (k : Nat) {v : Value} (h : L.lookup k = some v) (r : Among L R) : Among L ((k,v) :: R):=⟨h,r⟩
theorem Among.get {L : List (Nat × Value)} : ∀ {R : List (Nat × Value)},Among L R → ∀ k v,R.lookup k = some v → L.lookup k = some v
 | [],_,k,v,e=>by simp [List.lookup] at e
 | p :: R,h,k,v,e=>by
  simp only [List.lookup] at e
  split at e
  ·rename_i hk
   obtain rfl : k = p.1:=by simpa using hk
   cases e
   exact h.1
  ·exact h.2.get k v e
theorem Has.sub {N : Nat} {D : List Deferred} {a : Act} {L R : List (Nat × Value)} (F : Has N D a L) (h : Among L R) : Has N D a R:=⟨F.ds,F.sz,fun k v e=>F.get k v (h.get k v e)⟩
def argL : Nat → List Value → List (Nat × Value)
 | _,[]=>[]
 | i,v :: vs=>(i,v) :: argL (i + 1) vs
theorem argL_get : ∀ (vs : List Value) (i k : Nat) (v : Value),(argL i vs).lookup k = some v → ∃ j,k = i + j ∧ vs[j]? = some v
 | [],i,k,v,e=>by simp [argL,List.lookup] at e
 | u :: vs,i,k,v,e=>by
  simp only [argL,List.lookup] at e
  split at e
  ·rename_i hk
   cases e
   exact ⟨0,by simpa using hk,by simp⟩
  ·obtain ⟨j,h1,h2⟩:=argL_get vs (i + 1) k v e
   exact ⟨j + 1,by omega,by simpa using h2⟩
theorem calls_has {P : Program} {f : FuncId} {fn : Func} {c : Code} {args : List Value} {w : World} {R : Ending → World → Prop} (N : Nat) (hf : P.funcs[f]? = some fn) (hb : fn.body = some c) (hN : fn.ntmps = N) (hle : args.length ≤ N)
  (h : ∀ a,Has N [] a (argL 0 args) → c.wp P (bodyPost P fn R) a w) : Calls P f args.toArray w R:=by
 refine calls_of_wp hf hb (h _ ⟨rfl,by simp;omega,fun k v e=>?_⟩)
 obtain ⟨j,h1,h2⟩:=argL_get _ _ _ _ e
 obtain rfl : k = j:=by omega
 have hj:=(List.getElem?_eq_some_iff.1 h2).1
 simp only [Array.getD_eq_getD_getElem?]
 rw [Array.getElem?_append_left (by simpa using hj)]
 simp [h2]
section
variable {P : Program} {ρ : Operand → Value} {o : Oper} {w : World}
theorem R_call {f : FuncId} {args : Array Operand} {ts : Array TypeId} {vs : Array Value} (ho : o.op = .call { callee:=.value (.func f),args:=args,argTypes:=ts }) (hf : ρ (.func f) = .func (.func f) #[] #[]) (hc : ∀ args w,(callFunc f args).run P w = .ok (.enter f args) w) (ha : args.map ρ = vs) : (execOp ρ o).run P w = .ok (.enter f vs) w:=by
 subst ha
 unfold execOp
 simp [ho,resolve,hf,invoke,hc,go_sem]
end
section
variable {P : Program} {ops : Array Oper} {Q : Exit → Act → World → Prop} {o : Oper} {rest : List Oper} {N : Nat} {D : List Deferred} {a : Act} {L : List (Nat × Value)} {w w' : World} {v : Value}
theorem wantT (F : Has N D a L) {j s : Nat} {b : Bool} (hg : o.guard = some (j,b)) (hj : (ops[j]?).bind (·.dst) = some s) (hs : s < N) (hl : L.lookup s = some (.bool b)) : Region.wanted o (yielded ops a.tmps) = true:=by
 have h1:=F.get _ _ hl
 have h2 : a.tmps[s]? = some (.bool b):=by
  have hsz:=F.sz
  rw [Array.getElem?_eq_getElem (by omega)]
  rw [Array.getD_eq_getD_getElem?,Array.getElem?_eq_getElem (by omega)] at h1
  simpa using h1
 unfold Region.wanted yielded
 simp [hg,hj,h2]
theorem wantF (F : Has N D a L) {j s : Nat} {b c : Bool} (hg : o.guard = some (j,b)) (hj : (ops[j]?).bind (·.dst) = some s) (hs : s < N) (hl : L.lookup s = some (.bool c)) (hbc : (c == b) = false) : Region.wanted o (yielded ops a.tmps) = false:=by
 have h1:=F.get _ _ hl
 have h2 : a.tmps[s]? = some (.bool c):=by
  have hsz:=F.sz
  rw [Array.getElem?_eq_getElem (by omega)]
  rw [Array.getD_eq_getD_getElem?,Array.getElem?_eq_getElem (by omega)] at h1
  simpa using h1
 unfold Region.wanted yielded
 simp [hg,hj,h2,hbc]
theorem wantU (F : Has N D a L) {j s : Nat} {b : Bool} (hg : o.guard = some (j,b)) (hj : (ops[j]?).bind (·.dst) = some s) (hs : s < N) (hl : L.lookup s = some undef) : Region.wanted o (yielded ops a.tmps) = false:=by
 have h1:=F.get _ _ hl
 have h2 : a.tmps[s]? = some undef:=by
  have hsz:=F.sz
  rw [Array.getElem?_eq_getElem (by omega)]
  rw [Array.getD_eq_getD_getElem?,Array.getElem?_eq_getElem (by omega)] at h1
  simpa using h1
 unfold Region.wanted yielded
 simp [hg,hj,h2,undef]
theorem sq_new (F : Has N D a L) {d : Nat} (hd : o.dst = some d) (hN : d < N) (hw : Region.wanted o (yielded ops a.tmps) = true) (hr : (execOp a.eval o).run P w = .ok (.value v) w') (h : ∀ a2 w2,Has N D a2 ((d,v) :: L) → w2 = w' → wpList P ops Q rest a2 w2) : wpList P ops Q (o :: rest) a w:=by
 unfold wpList
 simp only [hw,if_true,Oper.wp,hr,Oper.upon,hd]
 exact .inl (h _ _ (F.put hN v) rfl)
theorem sq_val (F : Has N D a L) {d : Nat} (hd : o.dst = some d) (hN : d < N) (hw : Region.wanted o (yielded ops a.tmps) = true) (hr : (execOp a.eval o).run P w = .ok (.value v) w) (h : ∀ a2,Has N D a2 ((d,v) :: L) → wpList P ops Q rest a2 w) : wpList P ops Q (o :: rest) a w:=
 sq_new F hd hN hw hr fun a2 w2 F2 e=>by subst e;exact h a2 F2
theorem sq_no (F : Has N D a L) {d : Nat} (hd : o.dst = some d) (hN : d < N) (hw : Region.wanted o (yielded ops a.tmps) = false) (h : ∀ a2,Has N D a2 ((d,undef) :: L) → wpList P ops Q rest a2 w) : wpList P ops Q (o :: rest) a w:=by
 unfold wpList
 simp only [hw,Bool.false_eq_true,if_false,hd]
 exact h _ (F.put hN undef)
theorem sq_to (hd : o.dst = none) (hw : Region.wanted o (yielded ops a.tmps) = true) (hr : (execOp a.eval o).run P w = .ok .skip w') (h : ∀ w2,w2 = w' → wpList P ops Q rest a w2) : wpList P ops Q (o :: rest) a w:=by
 unfold wpList
 simp only [hw,if_true,Oper.wp,hr,Oper.upon,hd,Act.put]
 exact .inl (h _ rfl)
theorem sq_call (F : Has N D a L) {d : Nat} {f : FuncId} {args : Array Value} {R : Ending → World → Prop} (hd : o.dst = some d) (hN : d < N) (hw : Region.wanted o (yielded ops a.tmps) = true) (hr : (execOp a.eval o).run P w = .ok (.enter f args) w) (hc : Calls P f args w R)
  (h : ∀ e w',R e w' → ∃ v,e = .returned v ∧ ∀ a2,Has N D a2 ((d,v) :: L) → wpList P ops Q rest a2 w') : wpList P ops Q (o :: rest) a w:=by
 unfold wpList
 simp only [hw,if_true,Oper.wp,hr,Oper.upon]
 refine .inl (hc.mono fun e w' hR=>?_)
 obtain ⟨v,rfl,h1⟩:=h e w' hR
 show wpList _ _ _ _ _ _
 rw [hd]
 exact h1 _ (F.put hN v)
end
def held (stop : Option Nat) (listed : Array Bool) : Bool:=match stop with
 | none=>true
 | some l=>!(listed.getD l true)
theorem held_ne {stop : Option Nat} {listed : Array Bool} {i : Nat} (h : stop ≠ some i) : held stop (listed.setIfInBounds i true) = held stop listed:=by
 cases stop with
 | none=>rfl
 | some l=>simp only [held];rw [getD_set_ne true (fun e=>h (by rw [e]))]
section
variable {P : Program} {md : Region.Mode} {ops : Array Oper} {Q : Exit → Act → World → Prop} {T : World → Prop} {stop : Option Nat}
def wpAnyX (P : Program) (md : Region.Mode) (ops : Array Oper) (Q : Exit → Act → World → Prop) (T : World → Prop) (stop : Option Nat) : Nat → Array Bool → Act → World → Prop
 | 0,listed,a,w=>Region.ready md ops listed = [] ∧ Q .normal a w
 | fuel + 1,listed,a,w =>
  (Region.ready md ops listed = [] → Q .normal a w) ∧
  ∀ i ∈ Region.ready md ops listed,wpOp P ops Q i (fun a' w'=>(held stop (listed.setIfInBounds i true) = true → T w') ∧ wpAnyX P md ops Q T stop fuel (listed.setIfInBounds i true) a' w') a w
theorem anyX_any : ∀ (fuel : Nat) (listed : Array Bool) (a : Act) (w : World),wpAnyX P md ops Q T stop fuel listed a w → wpAny P md ops Q fuel listed a w
 | 0,_,_,_,h=>h
 | fuel + 1,_,_,_,h=>⟨h.1,fun i hi=>wpOp_mono (fun a' w' h'=>anyX_any fuel _ a' w' h'.2) (h.2 i hi)⟩
def needs (b : Bool) (T : World → Prop) (w : World) : Prop:=b = true → T w
theorem anyX_first {b : Bool} {i : Nat} {oi : Oper} {v : Value} (hi : ops[i]? = some oi) (hil : stop ≠ some i) (hwait : b = true → ∀ l,stop = some l → ∃ ol,ops[l]? = some ol ∧ ∃ e ∈ ol.after,Region.binds md e = true ∧ e.on = i)
  (hsel : ∀ (j : Nat) (o : Oper) cs b,ops[j]? = some o → o.op ≠ .select cs b) (hQ : ∀ c a w,Q (.panic c) (a.put oi.dst v) w → Q (.panic c) a w) :
  ∀ (fuel : Nat) (listed : Array Bool) (a : Act) (w : World),
   (∀ j oj,ops[j]? = some oj → j ≠ i → listed.getD j true = false → (∀ e ∈ oj.after,Region.binds md e = true → e.on ≠ i) → oi.apart ops oj = true) →
   i ∈ Region.ready md ops listed → YieldsIf P ops (needs b T) oi v a → (held stop listed = true → T w) → (b = true → held stop listed = true) →
   wpAnyX P md ops Q T stop fuel (listed.setIfInBounds i true) (a.put oi.dst v) w → wpAnyX P md ops Q T stop (fuel + 1) listed a w:=by
 intro fuel
 induction fuel with
 | zero =>
  intro listed a w _ hr hy hT hb H
  refine ⟨fun h=>(by rw [h] at hr;cases hr),fun j hj=>?_⟩
  by_cases hji : j = i
  ·subst hji
   exact hy.wpOp hi (fun h=>hT (hb h)) ⟨fun h=>hT (by rwa [held_ne hil] at h),H⟩
  ·have:=ready_mono hj hji
   rw [H.1] at this
   cases this
 | succ fuel ih =>
  intro listed a w hfree hr hy hT hb H
  refine ⟨fun h=>(by rw [h] at hr;cases hr),fun j hj=>?_⟩
  by_cases hji : j = i
  ·subst hji
   exact hy.wpOp hi (fun h=>hT (hb h)) ⟨fun h=>hT (by rwa [held_ne hil] at h),H⟩
  ·have h1:=H.2 j (ready_mono hj hji)
   obtain ⟨hjun,oj,hoj,hall⟩:=mem_ready.1 hj
   have hnot : ∀ e ∈ oj.after,Region.binds md e = true → e.on ≠ i:=fun e he hb heq=>by
    have h1:=hall e he hb
    have h0:=(mem_ready.1 hr).1
    rw [heq] at h1
    rcases Nat.lt_or_ge i listed.size with h' | h'
    ·simp [h'] at h0 h1;rw [h0] at h1;cases h1
    ·simp [Array.getElem?_eq_none h'] at h1
   have h2:=wpOp_putIf hoj (hfree j oj hoj hji hjun hnot) (fun cs b=>hsel i oi cs b hi) (fun cs b=>hsel j oj cs b hoj) hQ hy h1
   have hfree' : ∀ k ok,ops[k]? = some ok → k ≠ i → (listed.setIfInBounds j true).getD k true = false →
     (∀ e ∈ ok.after,Region.binds md e = true → e.on ≠ i) → oi.apart ops ok = true:=fun k ok hk hki hun hno=>by
    refine hfree k ok hk hki ?_ hno
    by_cases hjk : j = k
    ·subst hjk;exact hjun
    ·rw [getD_set_ne true hjk] at hun;exact hun
   have key : held stop ((listed.setIfInBounds i true).setIfInBounds j true) = held stop (listed.setIfInBounds j true):=by
    rw [Array.setIfInBounds_comm _ _ (Ne.symm hji),held_ne hil]
   have hb' : b = true → held stop (listed.setIfInBounds j true) = true:=fun hbt=>by
    rw [held_ne (fun e=>?_)]
    ·exact hb hbt
    ·obtain ⟨ol,hol,ee,he,hbd,heq⟩:=hwait hbt j e
     rw [hoj] at hol
     cases hol
     exact hnot ee he hbd heq
   refine wpOp_mono (fun a' w' h3=>⟨fun hh=>h3.2.1 (by rw [key];exact hh),ih (listed.setIfInBounds j true) a' w' hfree' (ready_mono hr (Ne.symm hji)) h3.1 (fun hh=>h3.2.1 (by rw [key];exact hh)) hb' ?_⟩) h2
   rw [Array.setIfInBounds_comm _ _ hji]
   exact h3.2.2
variable {N : Nat} {D : List Deferred} {a : Act} {L : List (Nat × Value)} {w w' : World} {fuel : Nat} {listed : Array Bool}
def takeOk (md : Region.Mode) (ops : Array Oper) (stop : Option Nat) (b : Bool) (listed : Array Bool) (i : Nat) : Bool:=
 Region.noSelect ops && Region.free md ops listed i && (Region.ready md ops listed).contains i && (stop != some i) &&
 (!b || ((match stop with | none=>true | some l=>((ops[l]?).map fun ol=>ol.after.any fun e=>Region.binds md e && e.on == i).getD false) && held stop listed))
theorem ax_any {b : Bool} (F : Has N D a L) {i d : Nat} {oi : Oper} {v : Value} (hi : ops[i]? = some oi) (hd : oi.dst = some d) (hN : d < N) (hk : takeOk md ops stop b listed i = true)
  (hQ : ∀ c a w,Q (.panic c) (a.put oi.dst v) w → Q (.panic c) a w) (hy : YieldsIf P ops (needs b T) oi v a) (hT : held stop listed = true → T w)
  (h : ∀ a2,Has N D a2 ((d,v) :: L) → wpAnyX P md ops Q T stop fuel (listed.setIfInBounds i true) a2 w) : wpAnyX P md ops Q T stop (fuel + 1) listed a w:=by
 simp only [takeOk,Bool.and_eq_true,Bool.or_eq_true,Bool.not_eq_true'] at hk
 obtain ⟨⟨⟨⟨k1,k2⟩,k3⟩,k4⟩,k5⟩:=hk
 refine anyX_first hi (by simpa using k4) (fun hb l hl=>?_) (Region.noSelect_spec k1) hQ fuel listed a w (Region.free_spec hi k2) (by simpa using k3) hy hT (fun hb=>?_) (by rw [hd];exact h _ (F.put hN v))
 ·rcases k5 with k5 | k5
  ·rw [hb] at k5;cases k5
  ·subst hl
   have k6:=k5.1
   cases ho : ops[l]? with
   | none=>simp [ho] at k6
   | some ol =>
    simp only [ho,Option.map_some,Option.getD_some] at k6
    obtain ⟨e,he,hbd⟩:=Array.any_eq_true'.1 k6
    simp only [Bool.and_eq_true,beq_iff_eq] at hbd
    exact ⟨ol,rfl,e,he,hbd.1,hbd.2⟩
 ·rcases k5 with k5 | k5
  ·rw [hb] at k5;cases k5
  ·exact k5.2
theorem ax_val (F : Has N D a L) {i d : Nat} {oi : Oper} {v : Value} (hi : ops[i]? = some oi) (hd : oi.dst = some d) (hN : d < N) (hk : takeOk md ops stop false listed i = true)
  (hQ : ∀ c a w,Q (.panic c) (a.put oi.dst v) w → Q (.panic c) a w) (hw : Region.wanted oi (yielded ops a.tmps) = true) (hr : ∀ w,(execOp a.eval oi).run P w = .ok (.value v) w) (hT : held stop listed = true → T w)
  (h : ∀ a2,Has N D a2 ((d,v) :: L) → wpAnyX P md ops Q T stop fuel (listed.setIfInBounds i true) a2 w) : wpAnyX P md ops Q T stop (fuel + 1) listed a w:=
 ax_any (b:=false) F hi hd hN hk hQ (.inl ⟨hw,fun w _=>hr w⟩) hT h
theorem ax_read (F : Has N D a L) {i d : Nat} {oi : Oper} {v : Value} (hi : ops[i]? = some oi) (hd : oi.dst = some d) (hN : d < N) (hk : takeOk md ops stop true listed i = true)
  (hQ : ∀ c a w,Q (.panic c) (a.put oi.dst v) w → Q (.panic c) a w) (hw : Region.wanted oi (yielded ops a.tmps) = true) (hr : ∀ w,T w → (execOp a.eval oi).run P w = .ok (.value v) w) (hT : held stop listed = true → T w)
  (h : ∀ a2,Has N D a2 ((d,v) :: L) → wpAnyX P md ops Q T stop fuel (listed.setIfInBounds i true) a2 w) : wpAnyX P md ops Q T stop (fuel + 1) listed a w:=
 ax_any (b:=true) F hi hd hN hk hQ (.inl ⟨hw,fun w hw=>hr w (hw rfl)⟩) hT h
theorem ax_no (F : Has N D a L) {i d : Nat} {oi : Oper} (hi : ops[i]? = some oi) (hd : oi.dst = some d) (hN : d < N) (hk : takeOk md ops stop false listed i = true)
  (hQ : ∀ c a w,Q (.panic c) (a.put oi.dst undef) w → Q (.panic c) a w) (hw : Region.wanted oi (yielded ops a.tmps) = false) (hT : held stop listed = true → T w)
  (h : ∀ a2,Has N D a2 ((d,undef) :: L) → wpAnyX P md ops Q T stop fuel (listed.setIfInBounds i true) a2 w) : wpAnyX P md ops Q T stop (fuel + 1) listed a w:=
 ax_any (b:=false) F hi hd hN hk hQ (.inr ⟨hw,rfl⟩) hT h
theorem ax_only {i : Nat} (hr : Region.ready md ops listed = [i]) (h : wpOp P ops Q i (fun a' w'=>(held stop (listed.setIfInBounds i true) = true → T w') ∧ wpAnyX P md ops Q T stop fuel (listed.setIfInBounds i true) a' w') a w) : wpAnyX P md ops Q T stop (fuel + 1) listed a w:=by
 refine ⟨fun h0=>(by rw [hr] at h0;cases h0),fun j hj=>?_⟩
 rw [hr] at hj
 obtain rfl : j = i:=by simpa using hj
 exact h
theorem ax_pair {i j : Nat} (hr : Region.ready md ops listed = [i,j])
  (h1 : wpOp P ops Q i (fun a' w'=>(held stop (listed.setIfInBounds i true) = true → T w') ∧ wpAnyX P md ops Q T stop fuel (listed.setIfInBounds i true) a' w') a w)
  (h2 : wpOp P ops Q j (fun a' w'=>(held stop (listed.setIfInBounds j true) = true → T w') ∧ wpAnyX P md ops Q T stop fuel (listed.setIfInBounds j true) a' w') a w) : wpAnyX P md ops Q T stop (fuel + 1) listed a w:=by
 refine ⟨fun h0=>(by rw [hr] at h0;cases h0),fun k hk=>?_⟩
 rw [hr] at hk
 simp only [List.mem_cons,List.not_mem_nil,or_false] at hk
 rcases hk with rfl | rfl
 ·exact h1
 ·exact h2
theorem op_new {i d : Nat} {o : Oper} {v : Value} {K : Act → World → Prop} (F : Has N D a L) (hi : ops[i]? = some o) (hd : o.dst = some d) (hN : d < N) (hw : Region.wanted o (yielded ops a.tmps) = true) (hr : (execOp a.eval o).run P w = .ok (.value v) w')
  (h : ∀ a2 w2,Has N D a2 ((d,v) :: L) → w2 = w' → K a2 w2) : wpOp P ops Q i K a w:=by
 unfold wpOp
 simp only [hi,hw,if_true,Oper.wp,hr,Oper.upon,hd]
 exact .inl (h _ _ (F.put hN v) rfl)
theorem op_to {i : Nat} {o : Oper} {K : Act → World → Prop} (hi : ops[i]? = some o) (hd : o.dst = none) (hw : Region.wanted o (yielded ops a.tmps) = true) (hr : (execOp a.eval o).run P w = .ok .skip w')
  (h : ∀ w2,w2 = w' → K a w2) : wpOp P ops Q i K a w:=by
 unfold wpOp
 simp only [hi,hw,if_true,Oper.wp,hr,Oper.upon,hd,Act.put]
 exact .inl (h _ rfl)
theorem op_call {i d : Nat} {o : Oper} {f : FuncId} {args : Array Value} {R : Ending → World → Prop} {K : Act → World → Prop} (F : Has N D a L) (hi : ops[i]? = some o) (hd : o.dst = some d) (hN : d < N) (hw : Region.wanted o (yielded ops a.tmps) = true)
  (hr : (execOp a.eval o).run P w = .ok (.enter f args) w) (hc : Calls P f args w R) (h : ∀ e w',R e w' → ∃ v,e = .returned v ∧ ∀ a2,Has N D a2 ((d,v) :: L) → K a2 w') : wpOp P ops Q i K a w:=by
 unfold wpOp
 simp only [hi,hw,if_true,Oper.wp,hr,Oper.upon]
 refine .inl (hc.mono fun e w' hR=>?_)
 obtain ⟨v,rfl,h1⟩:=h e w' hR
 show K _ _
 rw [hd]
 exact h1 _ (F.put hN v)
theorem ax_done (hr : Region.ready md ops listed = []) (h : Q .normal a w) : ∀ fuel,wpAnyX P md ops Q T stop fuel listed a w
 | 0=>⟨hr,h⟩
 | _ + 1=>⟨fun _=>h,by rw [hr];simp⟩
theorem region_x {l : List Oper} {id : Nat} {w : World} (T : World → Prop) (stop : Option Nat) (hm : P.follows .mixedOrders = true)
  (h : ∀ W : World,W.heap = w.heap → Ext [] w W → wpAnyX P .any l.toArray Q T stop l.toArray.size (Array.replicate l.toArray.size false) a W) : (Code.region id l.toArray true).wp P Q a w:=
 wp_region_any hm (anyX_any _ _ _ _ (h _ rfl ⟨rfl,rfl,rfl,Nat.le_refl _,fun _ _ _=>rfl⟩))
end
section
variable {P : Program} {o : Oper} {w : World} {a : Act}
theorem append_run {s x : Operand} {t : TypeId} (ho : o.op = .call { callee:=.builtin .append,args:=#[s,x],argTypes:=#[t,t] })
  (base : Nat) {e : TypeId} {size bytes : Nat} (ht : P.underlying t = some (.slice e)) (hi : (P.info? e).map (fun i=>(i.size,i.bytes,i.zero.map (·.cells.size))) = some (size,bytes,some size)) (hsz : 0 < size)
  {v : Value} {n : Nat} {xs : List Value} (hs : a.eval s = v) (hown : w.ownsRow base e size v n xs)
  {g c : Nat} {T : TypeId} {fz : Nat × Nat} {news : List Value} (hx : a.eval x = .slice (some ⟨g,0,none⟩) 1 c) (hg : w.heap[g]? = some (.cells news.toArray T fz)) (hl : news.length = size) (h1 : ∀ u ∈ news,u.oneCell' = true)
  (hn : n ≤ 1000000) (hbytes : (n + 1) * bytes ≤ 140737488355328) (hbase : base ≤ w.heap.size) :
  ∃ v' w',(execOp a.eval o).run P w = .ok (.value v') w' ∧ w'.ownsRow base e size v' (n + 1) (xs ++ news) ∧ w.grownBy w' v.ownBlock:=by
 cases hq : P.info? e with
 | none=>simp [hq] at hi
 | some i =>
  simp only [hq,Option.map_some,Option.some.injEq,Prod.mk.injEq,Option.map_eq_some_iff] at hi
  obtain ⟨hi1,hi2,z,hz,hz2⟩:=hi
  obtain ⟨v',w',hr,h2,h3,-⟩:=run_append_own (P:=P) w base t o.type e i z size bytes ht hq hz hi1 hi2 hz2 hsz v n xs hown ⟨g,0,none⟩ 1 c news (by omega) (fun j u hu=>by
   rw [Addr.add_lit,Nat.zero_add,cells_of_block hg];simpa using hu) h1 (by simp only [maxLen];omega) hbytes hbase
  refine ⟨v',w',?_,h2,h3⟩
  unfold execOp
  simp only [ho,resolve,invoke,builtin,Sem.run_bind,Sem.run_pure,Result.andThen_ok,List.map_toArray,List.map_cons,List.map_nil,hs,hx,hr]
end
section
variable {P : Program} {Q : Exit → Act → World → Prop} {N : Nat} {D : List Deferred} {a : Act} {L : List (Nat × Value)} {w : World}
theorem cd_T (F : Has N D a L) {k : Nat} {x y : Code} (hc : L.lookup k = some (.bool true)) (h : x.wp P Q a w) : (Code.cond (.tmp k) x y).wp P Q a w:=wp_cond_true (F.at hc) h
theorem cd_F (F : Has N D a L) {k : Nat} {x y : Code} (hc : L.lookup k = some (.bool false)) (h : y.wp P Q a w) : (Code.cond (.tmp k) x y).wp P Q a w:=wp_cond_false (F.at hc) h
theorem cd_if (F : Has N D a L) {k : Nat} {x y : Code} {p : Prop} [Decidable p] (hc : L.lookup k = some (.bool (decide p))) (ht : p → x.wp P Q a w) (hf : ¬ p → y.wp P Q a w) : (Code.cond (.tmp k) x y).wp P Q a w:=by
 by_cases h : p
 ·exact wp_cond_true (by rw [F.at hc,decide_eq_true h]) (ht h)
 ·exact wp_cond_false (by rw [F.at hc,decide_eq_false h]) (hf h)
theorem cd_b (F : Has N D a L) {k : Nat} {x y : Code} {b : Bool} (hc : L.lookup k = some (.bool b)) (ht : b = true → x.wp P Q a w) (hf : b = false → y.wp P Q a w) : (Code.cond (.tmp k) x y).wp P Q a w:=by
 cases b
 ·exact wp_cond_false (F.at hc) (hf rfl)
 ·exact wp_cond_true (F.at hc) (ht rfl)
theorem lp_nat {c : Code} (M : Nat) (I : Nat → Act → World → Prop) (h0 : I 0 a w) (round : ∀ i a w,i ≤ M → I i a w → c.wp P (Exit.then (fun a' w'=>i < M ∧ I (i + 1) a' w') Q) a w) : (Code.loop c).wp P Q a w:=by
 intro b k cs
 have key : ∀ n i a w,n = M - i → i ≤ M → I i a w → ∃ e a' w',Q e a' w' ∧ Arrives P (lone (b.at a (.code c :: .inLoop c :: k)) cs w) b k cs e a' w':=by
  intro n
  induction n with
  | zero =>
   intro i a w hn hi hI
   obtain ⟨e,a₁,w₁,hq,harr⟩:=round i a w hi hI b (.inLoop c :: k) cs
   cases e with
   | normal=>exact absurd hq.1 (by omega)
   | exit id=>exact ⟨_,a₁,w₁,hq,.pass (x:=.inLoop c) rfl (fun _ _=>.inl (by simp)) harr⟩
   | goto l=>exact ⟨_,a₁,w₁,hq,.pass (x:=.inLoop c) rfl (fun _ _=>.inl (by simp)) harr⟩
   | ret=>exact ⟨_,a₁,w₁,hq,.pass (x:=.inLoop c) rfl (fun _ _=>.inl (by simp)) harr⟩
   | panic ch=>exact ⟨_,a₁,w₁,hq,.pass (x:=.inLoop c) rfl (fun _ _=>.inl (by simp)) harr⟩
   | outgrown=>exact ⟨_,a₁,w₁,hq,.pass (x:=.inLoop c) rfl (fun _ _=>.inl (by simp)) harr⟩
  | succ n ih =>
   intro i a w hn hi hI
   obtain ⟨e,a₁,w₁,hq,harr⟩:=round i a w hi hI b (.inLoop c :: k) cs
   cases e with
   | normal =>
    obtain ⟨hlt,hI₁⟩:=hq
    obtain ⟨e₂,a₂,w₂,hq₂,harr₂⟩:=ih (i + 1) a₁ w₁ (by omega) hlt hI₁
    exact ⟨e₂,a₂,w₂,hq₂,.of_steps (Steps.trans harr (.one step_inLoop)) harr₂⟩
   | exit id=>exact ⟨_,a₁,w₁,hq,.pass (x:=.inLoop c) rfl (fun _ _=>.inl (by simp)) harr⟩
   | goto l=>exact ⟨_,a₁,w₁,hq,.pass (x:=.inLoop c) rfl (fun _ _=>.inl (by simp)) harr⟩
   | ret=>exact ⟨_,a₁,w₁,hq,.pass (x:=.inLoop c) rfl (fun _ _=>.inl (by simp)) harr⟩
   | panic ch=>exact ⟨_,a₁,w₁,hq,.pass (x:=.inLoop c) rfl (fun _ _=>.inl (by simp)) harr⟩
   | outgrown=>exact ⟨_,a₁,w₁,hq,.pass (x:=.inLoop c) rfl (fun _ _=>.inl (by simp)) harr⟩
 obtain ⟨e,a',w',hq,harr⟩:=key _ 0 a w rfl (Nat.zero_le _) h0
 exact ⟨e,a',w',hq,.of_steps (.one step_loop) harr⟩
theorem lp_for {c : Code} {L0 : List (Nat × Value)} (F : Has N D a L0) (M : Nat) (J : Nat → List (Nat × Value) → World → Prop) (h0 : ∃ Lv,J 0 Lv w ∧ Has N D a (Lv ++ L0))
  (round : ∀ i Lv a w,i ≤ M → J i Lv w → Has N D a (Lv ++ L0) → c.wp P (Exit.then (fun a' w'=>i < M ∧ ∃ Lv',J (i + 1) Lv' w' ∧ Has N D a' (Lv' ++ L0)) Q) a w) : (Code.loop c).wp P Q a w:=
 lp_nat M (fun i a w=>∃ Lv,J i Lv w ∧ Has N D a (Lv ++ L0)) h0 fun i a w hi ⟨Lv,hJ,hF⟩=>round i Lv a w hi hJ hF
end
section
variable {P : Program} {ops : Array Oper} {o : Oper} {rest : List Oper} {N : Nat} {D : List Deferred} {a : Act} {L : List (Nat × Value)} {w w' : World} {v : Value}
theorem st_val {K : Act → Prop} (F : Has N D a L) {d : Nat} (hd : o.dst = some d) (hN : d < N) (hw : Region.wanted o (yielded ops a.tmps) = true) (hr : (execOp a.eval o).run P w = .ok (.value v) w) (h : ∀ a2,Has N D a2 ((d,v) :: L) → wpStill P ops w K rest a2) : wpStill P ops w K (o :: rest) a:=by
 unfold wpStill
 simp only [hw,if_true,Oper.still,hr,Oper.stillUpon_value,hd]
 exact h _ (F.put hN v)
theorem st_no {K : Act → Prop} (F : Has N D a L) {d : Nat} (hd : o.dst = some d) (hN : d < N) (hw : Region.wanted o (yielded ops a.tmps) = false) (h : ∀ a2,Has N D a2 ((d,undef) :: L) → wpStill P ops w K rest a2) : wpStill P ops w K (o :: rest) a:=by
 unfold wpStill
 simp only [hw,Bool.false_eq_true,if_false,hd]
 exact h _ (F.put hN undef)
end
theorem gone {T : World → Prop} {w : World} {b : Bool} (h : b = false) : b = true → T w:=fun e=>by rw [h] at e;cases e
section
variable {P : Program} {ρ : Operand → Value} {o : Oper} {w : World}
theorem pr0 : ([] : List (Nat × Operand)).map (fun p=>(p.1,ρ p.2)) = []:=rfl
theorem prS {i : Nat} {x : Operand} {v : Value} {l : List (Nat × Operand)} {vs : List (Nat × Value)} (h : ρ x = v) (k : l.map (fun p=>(p.1,ρ p.2)) = vs) : ((i,x) :: l).map (fun p=>(p.1,ρ p.2)) = (i,v) :: vs:=by simp [h,k]
theorem R_buildV {t : TypeId} {l : List (Nat × Operand)} {vs : List (Nat × Value)} {cells : Array Value} (ho : o.op = .build t l.toArray) (hp : l.map (fun p=>(p.1,ρ p.2)) = vs) (h : P.built t vs = some cells) : (execOp ρ o).run P w = .ok (.value (.agg cells)) w:=
 R_build' ho (by
  have : (l.toArray.map fun (i,x)=>(i,ρ x)).toList = vs:=by rw [← hp];simp
  rw [this];exact h)
theorem R_buildSliceV {t e : TypeId} {n size : Nat} {l : List (Nat × Operand)} {vs : List (Nat × Value)} {z : Value} {cells : Array Value} (ho : o.op = .buildSlice t n l.toArray) (hp : l.map (fun p=>(p.1,ρ p.2)) = vs) (hu : P.underlying t = some (.slice e)) (hs : (P.info? e).map (·.size) = some size) (hn : n * size ≤ 2 ^ 24) (hn0 : n * size ≠ 0) (hz : ∀ w,(zeroValue e).run P w = .ok z w)
  (hf : Instr.fill (fun i=>some (i * size,size)) ((Array.range (n * size)).map (z.cells[· % z.cells.size]!)) vs = some cells) :
  (execOp ρ o).run P w = .ok (.value (.slice (some ⟨w.heap.size,0,none⟩) n n)) (w.alloc (.cells cells e)):=
 R_buildSlice ho hu hs hn hn0 hz (by
  have : (l.toArray.map fun (i,x)=>(i,ρ x)).toList = vs:=by rw [← hp];simp
  rw [this];exact hf)
theorem mapsN {l : List Operand} {vs : List Value} (h : l.map ρ = vs) : l.toArray.map ρ = vs.toArray:=by subst h;simp
theorem mp0 : ([] : List Operand).map ρ = []:=rfl
theorem mpS {x : Operand} {v : Value} {l : List Operand} {vs : List Value} (h : ρ x = v) (k : l.map ρ = vs) : (x :: l).map ρ = v :: vs:=by simp [h,k]
theorem R_callV {f : FuncId} {l : List Operand} {ts : Array TypeId} {vs : List Value} (ho : o.op = .call { callee:=.value (.func f),args:=l.toArray,argTypes:=ts }) (hf : ρ (.func f) = .func (.func f) #[] #[]) (hc : ∀ args w,(callFunc f args).run P w = .ok (.enter f args) w) (ha : l.map ρ = vs) : (execOp ρ o).run P w = .ok (.enter f vs.toArray) w:=
 R_call ho hf hc (mapsN ha)
end
section
variable {P : Program} {fn : Func} {R : Ending → World → Prop} {N : Nat} {D : List Deferred} {a : Act} {L : List (Nat × Value)} {w : World}
theorem rt_v (F : Has N [] a L) {v : Value} (hr : (results fn a.tmps).run P w = .ok v w) (h : R (.returned v) w) : bodyPost P fn R .ret a w:=bodyPost_ret hr F.ds h
theorem rt_vn (F : Has N [] a L) {v : Value} (hr : (results fn a.tmps).run P w = .ok v w) (h : R (.returned v) w) : bodyPost P fn R .normal a w:=bodyPost_end hr F.ds h
theorem rs_0 (hr : fn.results = #[]) : (results fn a.tmps).run P w = .ok (.tuple #[]) w:=results_none hr _ _ _
theorem rs_1 (F : Has N D a L) {t : Nat} {v : Value} (hr : fn.results = #[.tmp t]) (hv : L.lookup t = some v) : (results fn a.tmps).run P w = .ok v w:=by
 rw [results_tmp hr,F.get _ _ hv]
theorem rs_2 (F : Has N D a L) {t s : Nat} {v u : Value} (hr : fn.results = #[.tmp t,.tmp s]) (hv : L.lookup t = some v) (hu : L.lookup s = some u) : (results fn a.tmps).run P w = .ok (.tuple #[v,u]) w:=by
 rw [results_tmp2 hr,F.get _ _ hv,F.get _ _ hu]
theorem rs_c (F : Has N D a L) {t ty b : Nat} {cs : Array Value} {T : TypeId} {d : TypeDesc} {fz : Nat × Nat} (hr : fn.results = #[.cell t ty]) (ht : L.lookup t = some (.pointer (some ⟨b,0,none⟩))) (hd : P.underlying ty = some d) (ha : d.isRow = true) (hi : (P.info? ty).map (·.size) = some cs.size) (H : w.heap[b]? = some (.cells cs T fz)) : (results fn a.tmps).run P w = .ok (.agg cs) w:=by
 have hl:=load_block (P:=P) hd ha hi H
 have h1:=F.get _ _ ht
 simp only [Array.getD_eq_getD_getElem?] at h1
 simp [results,hr,h1,asAddr,hl,Result.andThen]
end
section
variable {P : Program} {Q : Exit → Act → World → Prop} {N : Nat} {D : List Deferred} {a : Act} {L : List (Nat × Value)} {w : World}
theorem cd_Fb (F : Has N D a L) {k : Nat} {x y : Code} {b : Bool} (hc : L.lookup k = some (.bool b)) (hb : b = false) (h : y.wp P Q a w) : (Code.cond (.tmp k) x y).wp P Q a w:=wp_cond_false (by rw [F.at hc,hb]) h
end
theorem ev_c (a : Act) (v : Value) : a.eval (.const v) = v:=rfl
theorem Has.re {N : Nat} {D : List Deferred} {a : Act} {L : List (Nat × Value)} (F : Has N D a L) {k : Nat} {v v' : Value} (e : L.lookup k = some v) (h : v = v') : Has N D a ((k,v') :: L):=⟨F.ds,F.sz,fun j u hj=>by
 simp only [List.lookup] at hj
 split at hj
 ·rename_i hk
  obtain rfl : j = k:=by simpa using hk
  cases hj
  rw [← h];exact F.get _ _ e
 ·exact F.get j u hj⟩
section
variable {P : Program} {ρ : Operand → Value} {o : Oper} {w : World}
theorem R_eqlD {x y : Operand} {t t' : TypeId} {k : IntKind} {n m : Int} (ho : o.op = .binOp .eql t x y t') (hx : ρ x = .int k n) (hy : ρ y = .int k m) : (execOp ρ o).run P w = .ok (.value (.bool (decide (n = m)))) w:=R_eqlB ho hx hy rfl
theorem R_neqD {x y : Operand} {t t' : TypeId} {k : IntKind} {n m : Int} (ho : o.op = .binOp .neq t x y t') (hx : ρ x = .int k n) (hy : ρ y = .int k m) : (execOp ρ o).run P w = .ok (.value (.bool (decide (¬ (n = m))))) w:=R_neqB ho hx hy (by simp)
theorem R_pickT {c x y : Operand} {v : Value} (ho : o.op = .pick c x y) (hc : ρ c = .bool true) (hx : ρ x = v) : (execOp ρ o).run P w = .ok (.value v) w:=R_pick ho hc (by simpa using hx)
theorem R_pickF {c x y : Operand} {v : Value} (ho : o.op = .pick c x y) (hc : ρ c = .bool false) (hy : ρ y = v) : (execOp ρ o).run P w = .ok (.value v) w:=R_pick ho hc (by simpa using hy)
theorem R_notD {x : Operand} {t : TypeId} {p : Prop} [Decidable p] (ho : o.op = .unOp .not t x) (hx : ρ x = .bool (decide p)) : (execOp ρ o).run P w = .ok (.value (.bool (decide (¬ p)))) w:=by
 rw [R_not ho hx]
 simp
theorem R_quoP {x y : Operand} {t t' : TypeId} {n m : Int} (ho : o.op = .binOp .quo t x y t') (hx : ρ x = .int .i64 n) (hy : ρ y = .int .i64 m) (h0 : 0 ≤ n) (h1 : n ≤ 9223372036854775807) (hm : 0 < m) : (execOp ρ o).run P w = .ok (.value (.int .i64 (n / m))) w:=by
 have hne : m ≠ 0:=by omega
 have hd : n.tdiv m = n / m:=Int.tdiv_eq_ediv_of_nonneg h0
 have hw:=wrap_id (n:=n / m) (by have:=Int.ediv_nonneg h0 (Int.le_of_lt hm);omega) (by have:=Int.ediv_le_self m h0;omega)
 unfold execOp
 simp [ho,hx,hy,binOp,Op.intDiv,eqGuard,hne,hd,hw,go_sem]
theorem R_remP {x y : Operand} {t t' : TypeId} {n m : Int} (ho : o.op = .binOp .rem t x y t') (hx : ρ x = .int .i64 n) (hy : ρ y = .int .i64 m) (h0 : 0 ≤ n) (hm : 0 < m) : (execOp ρ o).run P w = .ok (.value (.int .i64 (n % m))) w:=by
 rw [R_rem ho hx hy (by omega),Int.tmod_eq_emod_of_nonneg h0]
end
def SlAt (X : List Nat) (w : World) (a : Option Addr) (sz n : Nat) (row : Nat → List Value) : Prop:=
 ∀ i,i < n → ∃ b off,(∀ m c,Value.slice a m c = .slice (some ⟨b,off,none⟩) m c) ∧ ∀ W,Ext X w W → W.rangeAt b (off + i * sz) (row i)
theorem slAt_of_rows {α : Type} {w : World} {a : Option Addr} {n c sz : Nat} {xs : List α} {row : α → List Value} (h : IsRows w (.slice a n c) sz (xs.map row)) (d : α) : SlAt [] w a sz xs.length (fun i=>row (xs.getD i d)):=fun i hi=>by
 obtain ⟨b,off,h1,h2⟩:=h.range rfl (by intro e;have:=congrArg List.length e;simp at this;rw [this] at hi;simp at hi)
 obtain ⟨hlt,h2⟩:=h2
 refine ⟨b,off,fun m c=>by rw [h1],fun W E j v hv=>?_⟩
 rw [E.cell (a:=⟨b,off + i * sz + j,none⟩) hlt (by simp)]
 exact h2 i (row (xs.getD i d)) (by simp [hi]) j v hv
section
variable {P : Program} {ops : Array Oper} {Q : Exit → Act → World → Prop} {o : Oper} {rest : List Oper} {N : Nat} {D : List Deferred} {a : Act} {L : List (Nat × Value)} {w w' : World} {v : Value}
theorem Has.vl (F : Has N D a L) {d : Nat} (hr : (execOp a.eval o).run P w = .ok (.value v) w) (h : ∀ a2,Has N D a2 ((d,v) :: L) → wpList P ops Q rest a2 w) (hd : o.dst = some d:=by rfl) (hN : d < N:=by decide) (hw : Region.wanted o (yielded ops a.tmps) = true:=by rfl) : wpList P ops Q (o :: rest) a w:=
 sq_val F hd hN hw hr h
theorem Has.mv (F : Has N D a L) {d k : Nat} (h : ∀ a2,Has N D a2 ((d,v) :: L) → wpList P ops Q rest a2 w) (ho : o.op = .move (.tmp k):=by rfl) (hl : L.lookup k = some v:=by rfl) (hd : o.dst = some d:=by rfl) (hN : d < N:=by decide) (hw : Region.wanted o (yielded ops a.tmps) = true:=by rfl) : wpList P ops Q (o :: rest) a w:=
 sq_val F hd hN hw (R_move ho (F.at hl)) h
theorem Has.as (F : Has N D a L) {d k : Nat} (h : ∀ a2,Has N D a2 ((d,v) :: L) → wpList P ops Q rest a2 w) (ho : o.op = .assign (.tmp k):=by rfl) (hl : L.lookup k = some v:=by rfl) (hd : o.dst = some d:=by rfl) (hN : d < N:=by decide) (hw : Region.wanted o (yielded ops a.tmps) = true:=by rfl) : wpList P ops Q (o :: rest) a w:=
 sq_val F hd hN hw (R_assign ho (F.at hl)) h
theorem Has.sv {K : Act → Prop} (F : Has N D a L) {d : Nat} (hr : (execOp a.eval o).run P w = .ok (.value v) w) (h : ∀ a2,Has N D a2 ((d,v) :: L) → wpStill P ops w K rest a2) (hd : o.dst = some d:=by rfl) (hN : d < N:=by decide) (hw : Region.wanted o (yielded ops a.tmps) = true:=by rfl) : wpStill P ops w K (o :: rest) a:=
 st_val F hd hN hw hr h
theorem Has.smv {K : Act → Prop} (F : Has N D a L) {d k : Nat} (h : ∀ a2,Has N D a2 ((d,v) :: L) → wpStill P ops w K rest a2) (ho : o.op = .move (.tmp k):=by rfl) (hl : L.lookup k = some v:=by rfl) (hd : o.dst = some d:=by rfl) (hN : d < N:=by decide) (hw : Region.wanted o (yielded ops a.tmps) = true:=by rfl) : wpStill P ops w K (o :: rest) a:=
 st_val F hd hN hw (R_move ho (F.at hl)) h
variable {md : Region.Mode} {T : World → Prop} {stop : Option Nat} {fuel : Nat} {listed : Array Bool}
theorem Has.x (F : Has N D a L) {i d : Nat} {oi : Oper} (hi : ops[i]? = some oi) (hr : ∀ w,(execOp a.eval oi).run P w = .ok (.value v) w) (hT : held stop listed = true → T w) (h : ∀ a2,Has N D a2 ((d,v) :: L) → wpAnyX P md ops Q T stop fuel (listed.setIfInBounds i true) a2 w)
  (hd : oi.dst = some d:=by rfl) (hN : d < N:=by decide) (hk : takeOk md ops stop false listed i = true:=by kernel_rfl) (hQ : ∀ c a w,Q (.panic c) (a.put oi.dst v) w → Q (.panic c) a w:=by exact fun _ _ _ h=>h) (hw : Region.wanted oi (yielded ops a.tmps) = true:=by rfl) : wpAnyX P md ops Q T stop (fuel + 1) listed a w:=
 ax_val F hi hd hN hk hQ hw hr hT h
theorem Has.xr (F : Has N D a L) {i d : Nat} {oi : Oper} (hi : ops[i]? = some oi) (hr : ∀ w,T w → (execOp a.eval oi).run P w = .ok (.value v) w) (hT : held stop listed = true → T w) (h : ∀ a2,Has N D a2 ((d,v) :: L) → wpAnyX P md ops Q T stop fuel (listed.setIfInBounds i true) a2 w)
  (hd : oi.dst = some d:=by rfl) (hN : d < N:=by decide) (hk : takeOk md ops stop true listed i = true:=by kernel_rfl) (hQ : ∀ c a w,Q (.panic c) (a.put oi.dst v) w → Q (.panic c) a w:=by exact fun _ _ _ h=>h) (hw : Region.wanted oi (yielded ops a.tmps) = true:=by rfl) : wpAnyX P md ops Q T stop (fuel + 1) listed a w:=
 ax_read F hi hd hN hk hQ hw hr hT h
end
structure SrcAt (w : World) (sz : Nat) (sa : Option Addr) (m : Nat) (news : List Value) : Prop where
 len : news.length = m * sz
 nil : sa = none → m = 0
 cells : ∀ a0,sa = some a0 → ∀ (j : Nat) (v : Value),news[j]? = some v → w.cell? (a0.add j) = some v
 one : ∀ u ∈ news,u.oneCell' = true
theorem srcAt_of_rows {α : Type} {w : World} {a : Option Addr} {n c sz : Nat} {xs : List α} {row : α → List Value} (h : IsRows w (.slice a n c) sz (xs.map row)) (h0 : 0 < sz) (hr : ∀ x,(row x).length = sz) (h1 : ∀ x,∀ u ∈ row x,u.oneCell' = true) : SrcAt w sz a n ((xs.map row).flatten):=by
 have hn : n = xs.length:=by
  obtain ⟨a',c',hv,-⟩:=h
  cases hv
  simp
 refine ⟨by rw [flat_len hr,hn],fun ha=>?_,rows_flat h0 hr h,fun u hu=>?_⟩
 ·by_cases hne : xs.map row = []
  ·rw [hn];simpa using hne
  ·obtain ⟨b,off,h1,-⟩:=h.range rfl hne
   rw [ha] at h1;cases h1
 ·obtain ⟨l,hl,hu⟩:=List.mem_flatten.1 hu
  obtain ⟨x,-,rfl⟩:=List.mem_map.1 hl
  exact h1 x u hu
section
variable {P : Program} {ops : Array Oper} {Q : Exit → Act → World → Prop} {o : Oper} {rest : List Oper} {N : Nat} {D : List Deferred} {a : Act} {L : List (Nat × Value)} {w : World}
theorem sq_some {C : Value → World → Prop} (F : Has N D a L) {d : Nat} (hd : o.dst = some d) (hN : d < N) (hw : Region.wanted o (yielded ops a.tmps) = true) (hr : ∃ v w',(execOp a.eval o).run P w = .ok (.value v) w' ∧ C v w') (h : ∀ a2 v w2,Has N D a2 ((d,v) :: L) → C v w2 → wpList P ops Q rest a2 w2) : wpList P ops Q (o :: rest) a w:=by
 obtain ⟨v,w',h1,h2⟩:=hr
 exact sq_new F hd hN hw h1 fun a2 w2 F2 e=>by subst e;exact h a2 v w2 F2 h2
theorem op_some {C : Value → World → Prop} {i d : Nat} {K : Act → World → Prop} (F : Has N D a L) (hi : ops[i]? = some o) (hd : o.dst = some d) (hN : d < N) (hw : Region.wanted o (yielded ops a.tmps) = true) (hr : ∃ v w',(execOp a.eval o).run P w = .ok (.value v) w' ∧ C v w')
  (h : ∀ a2 v w2,Has N D a2 ((d,v) :: L) → C v w2 → K a2 w2) : wpOp P ops Q i K a w:=by
 obtain ⟨v,w',h1,h2⟩:=hr
 exact op_new F hi hd hN hw h1 fun a2 w2 F2 e=>by subst e;exact h a2 v w2 F2 h2
end
theorem appends_run {P : Program} {o : Oper} {w : World} {a : Act} {s x : Operand} {t : TypeId} (ho : o.op = .call { callee:=.builtin .append,args:=#[s,x],argTypes:=#[t,t] })
  (base : Nat) {e : TypeId} {size bytes : Nat} (ht : P.underlying t = some (.slice e)) (hi : (P.info? e).map (fun i=>(i.size,i.bytes,i.zero.map (·.cells.size))) = some (size,bytes,some size)) (hsz : 0 < size)
  {v : Value} {n : Nat} {xs : List Value} (hs : a.eval s = v) (hown : w.ownsRow base e size v n xs)
  {sa : Option Addr} {m c : Nat} {news : List Value} (hx : a.eval x = .slice sa m c) (hsrc : SrcAt w size sa m news)
  (hn : n + m ≤ 1000000) (hbytes : (n + m) * bytes ≤ 140737488355328) (hbase : base ≤ w.heap.size) :
  ∃ v' w',(execOp a.eval o).run P w = .ok (.value v') w' ∧ w'.ownsRow base e size v' (n + m) (xs ++ news) ∧ w.grownBy w' v.ownBlock:=by
 cases hq : P.info? e with
 | none=>simp [hq] at hi
 | some i =>
  simp only [hq,Option.map_some,Option.some.injEq,Prod.mk.injEq,Option.map_eq_some_iff] at hi
  obtain ⟨hi1,hi2,z,hz,hz2⟩:=hi
  have key : ∃ v' w',(Builtin.append_ #[t,t] o.type #[v,.slice sa m c]).run P w = .ok v' w' ∧ w'.ownsRow base e size v' (n + m) (xs ++ news) ∧ w.grownBy w' v.ownBlock:=by
   cases sa with
   | none =>
    have hm:=hsrc.nil rfl
    subst hm
    have hnl:=hsrc.len
    rw [Nat.zero_mul] at hnl
    obtain rfl:=List.eq_nil_of_length_eq_zero hnl
    refine ⟨v,w,?_,by simpa using hown,⟨rfl,rfl,rfl,Nat.le_refl _,fun _ _ _=>rfl⟩⟩
    rcases hown.2 with ⟨rfl,rfl⟩ | ⟨g,cap,cur,rfl,hbg,hg,hnc,hcm,hcs,htake⟩
    ·simp [Builtin.append_,run_underlying ht,sizeOf,typeInfo,hq,Builtin.lenOf,Builtin.firstCells,loadCells,loadCellsFrom]
    ·simp [Builtin.append_,run_underlying ht,sizeOf,typeInfo,hq,Builtin.lenOf,Builtin.firstCells,loadCells,loadCellsFrom,hnc,storeCells]
   | some ad =>
    obtain ⟨v',w',hr,h2,h3,-⟩:=run_append_own (P:=P) w base t o.type e i z size bytes ht hq hz hi1 hi2 hz2 hsz v n xs hown ad m c news hsrc.len (hsrc.cells ad rfl) hsrc.one (by simp only [maxLen];omega) hbytes hbase
    exact ⟨v',w',hr,h2,h3⟩
  obtain ⟨v',w',hr,h2,h3⟩:=key
  refine ⟨v',w',?_,h2,h3⟩
  unfold execOp
  simp only [ho,resolve,invoke,builtin,Sem.run_bind,Sem.run_pure,Result.andThen_ok,List.map_toArray,List.map_cons,List.map_nil,hs,hx,hr]
theorem R_buildSlice0 {P : Program} {ρ : Operand → Value} {o : Oper} {w : World} {t e : TypeId} {size : Nat} (ho : o.op = .buildSlice t 0 #[]) (hu : P.underlying t = some (.slice e)) (hs : (P.info? e).map (·.size) = some size) :
  (execOp ρ o).run P w = .ok (.value (.slice (some ⟨w.heap.size,0,none⟩) 0 0)) (w.alloc (.cells #[] e)):=by
 unfold execOp
 cases hq : P.info? e with
 | none=>simp [hq] at hs
 | some i =>
  simp [ho,Instr.buildSlice,run_underlying hu,sizeOf,typeInfo,hq,newRow,newObj,go_sem,Instr.fill]
  rfl
theorem owns_empty {w : World} {base b size : Nat} {e : TypeId} (h : w.heap[b]? = some (.cells #[] e (0,0))) (hb : base ≤ b) : w.ownsRow base e size (.slice (some ⟨b,0,none⟩) 0 0) 0 []:=
 ⟨by simp,.inr ⟨b,0,#[],rfl,hb,h,Nat.le_refl _,Nat.zero_le _,by simp,by simp⟩⟩
theorem owns_at {w : World} {base n c size : Nat} {e : TypeId} {a : Option Addr} {xs : List Value} (h : w.ownsRow base e size (.slice a n c) n xs) {xb xo : Nat} (xa : ∀ m c,Value.slice a m c = .slice (some ⟨xb,xo,none⟩) m c) {j p : Nat} (hj : j < xs.length) (hp : p = xo + j) :
  (∃ u,w.cell? ⟨xb,p,none⟩ = some u) ∧ w.frozen? ⟨xb,p,none⟩ = false ∧ ∀ u w2,w2 = w.setCell ⟨xb,p,none⟩ u → w2.ownsRow base e size (.slice a n c) n (xs.set j u) ∧ w.grownBy w2 (Value.ownBlock (.slice a n c)):=by
 obtain ⟨hl,⟨hv,hn⟩ | ⟨g,cap,cur,hv,hb,hg,h1,h2,h3,h4⟩⟩:=h
 ·subst hn
  rw [Nat.zero_mul] at hl
  omega
 ·have hv2:=(xa n c).symm.trans hv
  simp only [Value.slice.injEq,Option.some.injEq,Addr.mk.injEq,and_true,true_and] at hv2
  obtain ⟨⟨rfl,rfl⟩,rfl⟩:=hv2
  rw [Nat.zero_add] at hp
  subst hp
  have hlt:=blk_lt hg
  have hjc : p < cur.size:=by
   have:=congrArg List.length h4
   rw [List.length_take] at this
   have h5 : cur.toList.length = cur.size:=by simp
   omega
  have ha : a = some ⟨xb,0,none⟩:=by have:=xa 0 0;cases this;rfl
  subst ha
  refine ⟨⟨cur[p],by rw [cells_of_block hg];simp [hjc]⟩,free_of_block hg _,fun u w2 e2=>⟨⟨by simpa using hl,.inr ⟨xb,c,cur.setIfInBounds p u,rfl,hb,put_cell e2 hg rfl,h1,h2,by simpa using h3,?_⟩⟩,?_⟩⟩
  ·rw [← h4,Array.toList_setIfInBounds,List.take_set]
  ·subst e2
   exact ⟨rfl,rfl,rfl,by rw [size_setCell];exact Nat.le_refl _,fun k hk hne=>Below.heap_setCell _ _ _ _ (fun e=>hne (by rw [e];rfl))⟩
theorem slAt_of_owns {α : Type} {w : World} {base n c sz : Nat} {e : TypeId} {a : Option Addr} {xs : List α} {row : α → List Value} (h : w.ownsRow base e sz (.slice a n c) n ((xs.map row).flatten)) (hn : n = xs.length) (hr : ∀ x,(row x).length = sz) (X : List Nat) (hX : ∀ b ∈ X,b < base) (d : α) : SlAt X w a sz xs.length (fun i=>row (xs.getD i d)):=fun i hi=>by
 subst hn
 rcases h.2 with ⟨hv,hn⟩ | ⟨g,cap,cur,hv,hb,hg,h1,h2,h3,h4⟩
 ·omega
 ·have ha : a = some ⟨g,0,none⟩:=by cases hv;rfl
  refine ⟨g,0,fun m c=>by rw [ha],fun W E j v hv=>?_⟩
  have hjs : j < sz:=by
   have:=(List.getElem?_eq_some_iff.1 hv).1
   rwa [hr] at this
  have hf:=flat_get hr xs i j (row (xs.getD i d)) (by simp [hi]) hjs
  have hil : i * sz + j < xs.length * sz:=
   calc i * sz + j < i * sz + sz:=by omega
    _ = (i + 1) * sz:=by rw [Nat.add_mul];omega
    _ ≤ xs.length * sz:=Nat.mul_le_mul_right _ hi
  rw [E.cell (a:=⟨g,0 + i * sz + j,none⟩) (blk_lt hg) (fun hm=>by have:=hX g hm;omega),cells_of_block hg,Nat.zero_add,← Array.getElem?_toList]
  have:=congrArg (fun l=>l[i * sz + j]?) h4
  simp only [List.getElem?_take] at this
  rw [if_pos hil] at this
  rw [this,hf,hv]
def val (l : List Int) : Nat → Int:=fun i=>l.getD i 0
def xa : Nat → Int:=val [0,94,94,0,86,84,0,0,0,0,3,-3]
def xb : Nat → Int:=val [0,89,93,0,82,84,0,0,0,0,-2,-3]
def ivs (l : List Int) : List Value:=l.map (Value.int .i64)
theorem owns_lower {w : World} {base base' : Nat} {e : TypeId} {sz : Nat} {v : Value} {n : Nat} {xs : List Value} (h : w.ownsRow base e sz v n xs) (hb : base' ≤ base) : w.ownsRow base' e sz v n xs:=by
 refine ⟨h.1,?_⟩
 rcases h.2 with h | ⟨g,cap,cur,h1,h2,h3,h4⟩
 ·exact .inl h
 ·exact .inr ⟨g,cap,cur,h1,Nat.le_trans hb h2,h3,h4⟩
theorem rows_of_isRow {w : World} {a : Option Addr} {n c : Nat} {zs : List Int} (h : IsRow .i64 w a n c zs) : ∃ xs : List Int,xs.length = n ∧ IsRows w (.slice a n c) 1 (xs.map intRow):=by
 rcases h with ⟨rfl,rfl,rfl,rfl⟩ | ⟨x,rfl,hl,hm,hz,hc,hw⟩
 ·exact ⟨[],rfl,rows_nil _ _ _⟩
 ·have hlen : (zs.take n).length = n:=by rw [List.length_take];omega
  refine ⟨zs.take n,hlen,some x,c,by rw [List.length_map,hlen],fun r hr=>?_,fun hne=>?_⟩
  ·obtain ⟨y,-,rfl⟩:=List.mem_map.1 hr;rfl
  ·have hn : 0 < n:=by
    rcases Nat.eq_zero_or_pos n with h | h
    ·subst h;simp at hne
    ·exact h
   obtain ⟨b,off,sp⟩:=x
   have h0:=hc 0 (by omega)
   have hsp : sp = none:=by
    cases sp with
    | none=>rfl
    | some k =>
     simp only [World.cell?,Addr.add] at h0
     split at h0 <;> simp at h0
   subst hsp
   refine ⟨b,off,rfl,World.block_lt_of_cell? w _ h0,fun i j r hi hj=>?_⟩
   have hil : i < n:=by
    have:=(List.getElem?_eq_some_iff.1 hi).1
    rw [List.length_map,hlen] at this;exact this
   obtain rfl : j = 0:=by omega
   have hci:=hc i (by omega)
   rw [Addr.add_lit] at hci
   rw [Nat.mul_one,Nat.add_zero,hci]
   rw [List.getElem?_map,List.getElem?_take_of_lt hil] at hi
   cases hz' : zs[i]? with
   | none=>rw [hz'] at hi;simp at hi
   | some v =>
    rw [hz'] at hi
    simp only [Option.map_some,Option.some.injEq] at hi
    subst hi
    simp [intRow,List.getD,hz']
theorem ivs_flat (xs : List Int) : ivs xs = (xs.map intRow).flatten:=by
 induction xs with
 | nil=>rfl
 | cons x xs ih=>simp [ivs,intRow] at ih ⊢;exact ih
section
variable {P : Program} {md : Region.Mode} {ops : Array Oper} {Q : Exit → Act → World → Prop} {T : World → Prop} {stop : Option Nat}
def AllWait (md : Region.Mode) (ops : Array Oper) (S : List Nat) (i : Nat) : Prop:=∀ k ∈ S,∃ ok,ops[k]? = some ok ∧ ∃ e ∈ ok.after,Region.binds md e = true ∧ (e.on = i ∨ e.on ∈ S)
theorem anyX_first2 {S : List Nat} {i : Nat} {oi : Oper} {v : Value} (hi : ops[i]? = some oi) (hil : stop ≠ some i) (hS : AllWait md ops S i) (hst : ∀ l,stop = some l → l ∈ S)
  (hsel : ∀ (j : Nat) (o : Oper) cs b,ops[j]? = some o → o.op ≠ .select cs b) (hQ : ∀ c a w,Q (.panic c) (a.put oi.dst v) w → Q (.panic c) a w) :
  ∀ (fuel : Nat) (listed : Array Bool) (a : Act) (w : World),
   (∀ j oj,ops[j]? = some oj → j ≠ i → listed.getD j true = false → (∀ e ∈ oj.after,Region.binds md e = true → e.on ≠ i) → oi.apart ops oj = true) →
   i ∈ Region.ready md ops listed → YieldsIf P ops (needs true T) oi v a → (held stop listed = true → T w) → held stop listed = true → (∀ k ∈ S,listed.getD k true = false) →
   wpAnyX P md ops Q T stop fuel (listed.setIfInBounds i true) (a.put oi.dst v) w → wpAnyX P md ops Q T stop (fuel + 1) listed a w:=by
 intro fuel
 induction fuel with
 | zero =>
  intro listed a w _ hr hy hT hb hU H
  refine ⟨fun h=>(by rw [h] at hr;cases hr),fun j hj=>?_⟩
  by_cases hji : j = i
  ·subst hji
   exact hy.wpOp hi (fun h=>hT hb) ⟨fun h=>hT (by rwa [held_ne hil] at h),H⟩
  ·have:=ready_mono hj hji
   rw [H.1] at this
   cases this
 | succ fuel ih =>
  intro listed a w hfree hr hy hT hb hU H
  refine ⟨fun h=>(by rw [h] at hr;cases hr),fun j hj=>?_⟩
  by_cases hji : j = i
  ·subst hji
   exact hy.wpOp hi (fun h=>hT hb) ⟨fun h=>hT (by rwa [held_ne hil] at h),H⟩
  ·have h1:=H.2 j (ready_mono hj hji)
   obtain ⟨hjun,oj,hoj,hall⟩:=mem_ready.1 hj
   have hun : ∀ n,listed.getD n true = false → ∀ e ∈ oj.after,Region.binds md e = true → e.on ≠ n:=fun n h0 e he hb heq=>by
    have h1:=hall e he hb
    rw [heq] at h1
    rcases Nat.lt_or_ge n listed.size with h' | h'
    ·simp [h'] at h0 h1;rw [h0] at h1;cases h1
    ·simp [Array.getElem?_eq_none h'] at h1
   have hnot:=hun i (mem_ready.1 hr).1
   have hjS : j ∉ S:=fun hjS=>by
    obtain ⟨ok,hok,e,he,hbd,ho⟩:=hS j hjS
    rw [hoj] at hok
    cases hok
    rcases ho with ho | ho
    ·exact hnot e he hbd ho
    ·exact hun _ (hU _ ho) e he hbd rfl
   have h2:=wpOp_putIf hoj (hfree j oj hoj hji hjun hnot) (fun cs b=>hsel i oi cs b hi) (fun cs b=>hsel j oj cs b hoj) hQ hy h1
   have hfree' : ∀ k ok,ops[k]? = some ok → k ≠ i → (listed.setIfInBounds j true).getD k true = false →
     (∀ e ∈ ok.after,Region.binds md e = true → e.on ≠ i) → oi.apart ops ok = true:=fun k ok hk hki hun hno=>by
    refine hfree k ok hk hki ?_ hno
    by_cases hjk : j = k
    ·subst hjk;exact hjun
    ·rw [getD_set_ne true hjk] at hun;exact hun
   have key : held stop ((listed.setIfInBounds i true).setIfInBounds j true) = held stop (listed.setIfInBounds j true):=by
    rw [Array.setIfInBounds_comm _ _ (Ne.symm hji),held_ne hil]
   have hb' : held stop (listed.setIfInBounds j true) = true:=by
    rw [held_ne (fun e=>hjS (hst j e))]
    exact hb
   have hU' : ∀ k ∈ S,(listed.setIfInBounds j true).getD k true = false:=fun k hk=>by
    have hjk : j ≠ k:=fun e=>by subst e;exact hjS hk
    rw [getD_set_ne true hjk]
    exact hU k hk
   refine wpOp_mono (fun a' w' h3=>⟨fun hh=>h3.2.1 (by rw [key];exact hh),ih (listed.setIfInBounds j true) a' w' hfree' (ready_mono hr (Ne.symm hji)) h3.1 (fun hh=>h3.2.1 (by rw [key];exact hh)) hb' hU' ?_⟩) h2
   rw [Array.setIfInBounds_comm _ _ hji]
   exact h3.2.2
variable {N : Nat} {D : List Deferred} {a : Act} {L : List (Nat × Value)} {w : World} {fuel : Nat} {listed : Array Bool} {v : Value}
def takeOk2 (md : Region.Mode) (ops : Array Oper) (stop : Option Nat) (S : List Nat) (listed : Array Bool) (i : Nat) : Bool:=
 Region.noSelect ops && Region.free md ops listed i && (Region.ready md ops listed).contains i && (stop != some i) && held stop listed &&
 (match stop with | none=>true | some l=>S.contains l) &&
 S.all fun k=>!(listed.getD k true) && ((ops[k]?).map fun ok=>ok.after.any fun e=>Region.binds md e && (e.on == i || S.contains e.on)).getD false
theorem Has.xr2 (F : Has N D a L) {i d : Nat} {oi : Oper} (S : List Nat) (hi : ops[i]? = some oi) (hr : ∀ w,T w → (execOp a.eval oi).run P w = .ok (.value v) w) (hT : held stop listed = true → T w)
  (h : ∀ a2,Has N D a2 ((d,v) :: L) → wpAnyX P md ops Q T stop fuel (listed.setIfInBounds i true) a2 w)
  (hd : oi.dst = some d:=by rfl) (hN : d < N:=by decide) (hk : takeOk2 md ops stop S listed i = true:=by kernel_rfl) (hQ : ∀ c a w,Q (.panic c) (a.put oi.dst v) w → Q (.panic c) a w:=by exact fun _ _ _ h=>h) (hw : Region.wanted oi (yielded ops a.tmps) = true:=by rfl) : wpAnyX P md ops Q T stop (fuel + 1) listed a w:=by
 simp only [takeOk2,Bool.and_eq_true] at hk
 obtain ⟨⟨⟨⟨⟨⟨k1,k2⟩,k3⟩,k4⟩,k5⟩,k6⟩,k7⟩:=hk
 have k7:=List.all_eq_true.1 k7
 refine anyX_first2 (S:=S) hi (by simpa using k4) (fun k hkS=>?_) (fun l hl=>by subst hl;simpa using k6) (Region.noSelect_spec k1) hQ fuel listed a w (Region.free_spec hi k2) (by simpa using k3) (.inl ⟨hw,fun w hw=>hr w (hw rfl)⟩) hT k5 (fun k hkS=>?_) (by rw [hd];exact h _ (F.put hN v))
 ·have q:=k7 k hkS
  simp only [Bool.and_eq_true] at q
  have q2:=q.2
  cases ho : ops[k]? with
  | none=>simp [ho] at q2
  | some ok =>
   simp only [ho,Option.map_some,Option.getD_some] at q2
   obtain ⟨e,he,hbd⟩:=Array.any_eq_true'.1 q2
   simp only [Bool.and_eq_true,Bool.or_eq_true,beq_iff_eq,List.contains_iff_mem] at hbd
   exact ⟨ok,rfl,e,he,hbd.1,hbd.2⟩
 ·have q:=k7 k hkS
  simp only [Bool.and_eq_true,Bool.not_eq_true'] at q
  exact q.1
end
theorem append_runB {P : Program} {o : Oper} {w : World} {a : Act} {s x : Operand} {t : TypeId} (ho : o.op = .call { callee:=.builtin .append,args:=#[s,x],argTypes:=#[t,t] })
  (base : Nat) {e : TypeId} {size bytes : Nat} (ht : P.underlying t = some (.slice e)) (hi : (P.info? e).map (fun i=>(i.size,i.bytes,i.zero.map (·.cells.size))) = some (size,bytes,some size)) (hsz : 0 < size)
  {v : Value} {n : Nat} {xs : List Value} (hs : a.eval s = v) (hown : w.ownsRow base e size v n xs)
  {g c : Nat} {T : TypeId} {fz : Nat × Nat} {news : List Value} (hx : a.eval x = .slice (some ⟨g,0,none⟩) 1 c) (hg : w.heap[g]? = some (.cells news.toArray T fz)) (hl : news.length = size) (h1 : ∀ u ∈ news,u.oneCell' = true)
  (hn : n ≤ 1000000) (hbytes : (n + 1) * bytes ≤ 140737488355328) (hbase : base ≤ w.heap.size) :
  ∃ v' w',(execOp a.eval o).run P w = .ok (.value v') w' ∧ w'.ownsRow base e size v' (n + 1) (xs ++ news) ∧ w.grownBy w' v.ownBlock ∧ (v'.ownBlock = v.ownBlock ∨ v'.ownBlock = some w.heap.size):=by
 cases hq : P.info? e with
 | none=>simp [hq] at hi
 | some i =>
  simp only [hq,Option.map_some,Option.some.injEq,Prod.mk.injEq,Option.map_eq_some_iff] at hi
  obtain ⟨hi1,hi2,z,hz,hz2⟩:=hi
  obtain ⟨v',w',hr,h2,h3,-,h5⟩:=run_append_own_at (P:=P) w base t o.type e i z size bytes ht hq hz hi1 hi2 hz2 hsz v n xs hown ⟨g,0,none⟩ 1 c news (by omega) (fun j u hu=>by
   rw [Addr.add_lit,Nat.zero_add,cells_of_block hg];simpa using hu) h1 (by simp only [maxLen];omega) hbytes hbase
  refine ⟨v',w',?_,h2,h3,h5⟩
  unfold execOp
  simp only [ho,resolve,invoke,builtin,Sem.run_bind,Sem.run_pure,Result.andThen_ok,List.map_toArray,List.map_cons,List.map_nil,hs,hx,hr]
def RowOf (w : World) (v : Value) (xs : List Int) : Prop:=∃ a c,v = .slice a xs.length c ∧ IsRows w (.slice a xs.length c) 1 (xs.map intRow)
section
variable {α : Type}
theorem getD_key (key : α → List Int) (d : α) (O : List α) {k : Nat} (h : k < O.length) : (O.map key).getD k [] = key (O.getD k d):=by simp [h]
end
def FamT (w : World) (base : Nat) (L : List (Value × List Int)) : Prop:=(∀ p ∈ L,w.ownsRow base 3 1 p.1 p.2.length (ivs p.2)) ∧ L.Pairwise fun p q=>∀ b,p.1.ownBlock = some b → q.1.ownBlock ≠ some b
theorem fam_lift {w w' : World} {base base' : Nat} {L : List (Value × List Int)} (h : FamT w base L) (k : ∀ v n xs,w.ownsRow base 3 1 v n xs → w'.ownsRow base' 3 1 v n xs) : FamT w' base' L:=
 ⟨fun p hp=>k _ _ _ (h.1 p hp),h.2⟩
theorem fam_perm {w : World} {base : Nat} {L M : List (Value × List Int)} (h : FamT w base L) (hp : M.Perm L) : FamT w base M:=
 ⟨fun p hm=>h.1 p (hp.mem_iff.1 hm),(hp.pairwise_iff (fun {x y} hxy b hb hx=>hxy b hx hb)).2 h.2⟩
theorem fam_nil (w : World) (base : Nat) : FamT w base []:=⟨fun p h=>by simp at h,.nil⟩
theorem fam_row {w : World} {base : Nat} {L : List (Value × List Int)} (h : FamT w base L) {p : Value × List Int} (hp : p ∈ L) : RowOf w p.1 p.2:=by
 have o:=h.1 p hp
 obtain ⟨a,c,e⟩:=owns_slice o
 refine ⟨a,c,e,?_⟩
 rw [e,ivs_flat] at o
 exact rows_of_owns (row:=intRow) o (fun _=>rfl)
theorem fam_lt {w : World} {base : Nat} {L : List (Value × List Int)} (h : FamT w base L) : ∀ q ∈ L,∀ b,q.1.ownBlock = some b → b < w.heap.size:=fun q hq b e=>((h.1 q hq).lt b e).2
theorem fam_join {w : World} {b1 b2 : Nat} {L O : List (Value × List Int)} (hL : FamT w b1 L) (hO : FamT w b2 O) (hlt : ∀ q ∈ O,∀ b,q.1.ownBlock = some b → b < b1) (hb : b2 ≤ b1) : FamT w b2 (L ++ O):=by
 refine ⟨fun p hp=>?_,List.pairwise_append.2 ⟨hL.2,hO.2,fun p hp q hq b e hc=>?_⟩⟩
 ·rcases List.mem_append.1 hp with h | h
  ·exact owns_lower (hL.1 p h) hb
  ·exact hO.1 p h
 ·have:=(hL.1 p hp).lt b e
  have:=hlt q hq b hc
  omega
theorem ivs_snoc1 (xs : List Int) (v : Int) : ivs xs ++ [.int .i64 v] = ivs (xs ++ [v]):=by simp [ivs]
def pRow (p : Value × List Int) : List Value:=[p.1]
theorem pRow_flat (O : List (Value × List Int)) : O.map (·.1) = (O.map pRow).flatten:=by
 induction O with
 | nil=>rfl
 | cons a l ih=>simp only [List.map_cons,List.flatten_cons,pRow,ih];rfl
theorem own_apart2 {w : World} {BL n sz : Nat} {e : TypeId} {l v v' : Value} {xs : List Value} (ha : l.ownBlock = none ∨ l.ownBlock ≠ v.ownBlock) (h : w.ownsRow BL e sz l n xs) (hb : v'.ownBlock = v.ownBlock ∨ v'.ownBlock = some w.heap.size) : l.ownBlock = none ∨ l.ownBlock ≠ v'.ownBlock:=by
 rcases hb with hb | hb
 ·rw [hb]
  exact ha
 ·cases hl : l.ownBlock with
  | none=>exact .inl rfl
  | some b =>
   refine .inr fun e=>?_
   rw [hb] at e
   cases e
   have:=(h.lt _ hl).2
   omega
theorem slAt_of_outer {w : World} {base n c : Nat} {a : Option Addr} {O : List (Value × List Int)} (h : w.ownsRow base 25 1 (.slice a n c) n (O.map (·.1))) (hn : n = O.length) : SlAt [] w a 1 O.length (fun i=>[(O.getD i (.bool true,[])).1]):=by
 rw [pRow_flat] at h
 exact slAt_of_owns h hn (fun _=>rfl) [] (by simp) (.bool true,[])
theorem RowOf.ext {w w' : World} {v : Value} {xs : List Int} (h : RowOf w v xs) (e : Ext [] w w') : RowOf w' v xs:=by
 obtain ⟨a,c,h1,h2⟩:=h
 exact ⟨a,c,h1,h2.ext e (by simp)⟩
theorem fam_below {w w' : World} {base B1 n : Nat} {v : Value} {xs : List Value} {L : List (Value × List Int)} (fam : FamT w base L) (hlt : ∀ q ∈ L,∀ b,q.1.ownBlock = some b → b < B1) (ro : w.ownsRow B1 3 1 v n xs) (hg : w.grownBy w' v.ownBlock) : FamT w' base L:=
 ⟨fun p hp=>(fam.1 p hp).kept hg (by
  cases hq : p.1.ownBlock with
  | none=>exact .inl rfl
  | some b =>
   refine .inr fun e=>?_
   have:=hlt p hp b hq
   have:=(ro.lt b e.symm).1
   omega),fam.2⟩
theorem owns_lit1 {w : World} {base b : Nat} {e : TypeId} {v : Value} (h : w.heap[b]? = some (.cells #[v] e (0,0))) (hb : base ≤ b) : w.ownsRow base e 1 (.slice (some ⟨b,0,none⟩) 1 1) 1 [v]:=
 ⟨rfl,.inr ⟨b,1,#[v],rfl,hb,h,Nat.le_refl _,by decide,rfl,rfl⟩⟩
theorem made_one (z : Value) (n : Nat) : (madeCells #[z] n).toList = List.replicate n z:=by
 apply List.ext_getElem
 ·simp [madeCells]
 ·intro i h1 h2
  simp [madeCells,Nat.mod_one]
theorem make_run {P : Program} {o : Oper} {w : World} {a : Act} {x y : Operand} {t : TypeId} (ho : o.op = .makeSlice t x y) (base : Nat) {e : TypeId} {bytes : Nat} {z : Value} (ht : P.underlying t = some (.slice e))
  (hi : (P.info? e).map (fun i=>(i.size,i.bytes,i.zero)) = some (1,bytes,some z)) (hz : z.cells = #[z]) {kl kc : IntKind} {n : Nat} (hx : a.eval x = .int kl n) (hy : a.eval y = .int kc n) (hn : n ≤ 1000) (hb : bytes ≤ 1000) (hbase : base ≤ w.heap.size) :
  ∃ v' w',(execOp a.eval o).run P w = .ok (.value v') w' ∧ w'.ownsRow base e 1 v' n (List.replicate n z) ∧ w.grownBy w' none ∧ v' = .slice (some ⟨w.heap.size,0,none⟩) n n:=by
 cases hq : P.info? e with
 | none=>simp [hq] at hi
 | some i =>
  simp only [hq,Option.map_some,Option.some.injEq,Prod.mk.injEq] at hi
  obtain ⟨h1,h2,h3⟩:=hi
  obtain ⟨w',hr,ho2,hg⟩:=run_makeSlice_full (P:=P) w base t e i z 1 ht hq h3 h1 kl kc n (by omega) (by rw [h2];exact Nat.le_trans (Nat.mul_le_mul hb hn) (by decide)) (by simp only [maxLen];omega) hbase
  rw [hz,Nat.mul_one,made_one] at ho2
  refine ⟨_,w',?_,ho2,hg,rfl⟩
  unfold execOp
  simp only [ho,hx,hy,Sem.run_bind,Sem.run_pure,Result.andThen_ok,hr]
theorem keep_none {w w' : World} {b : Nat} {o : Obj} (hg : w.grownBy w' none) (q : w.heap[b]? = some o) : w'.heap[b]? = some o:=by
 rw [hg.block b (blk_lt q) (by simp),q]
theorem ext_none {X : List Nat} {w0 w w' : World} (E : Ext X w0 w) (hg : w.grownBy w' none) : Ext X w0 w':=
 ⟨hg.os.trans E.os,hg.tape.trans E.tape,hg.output.trans E.output,Nat.le_trans E.size hg.size,fun k hk hx=>(hg.block k (Nat.lt_of_lt_of_le hk E.size) (by simp)).trans (E.block k hk hx)⟩
theorem slAt_of_rowsX {α : Type} {X : List Nat} {w : World} {a : Option Addr} {n c sz : Nat} {xs : List α} {row : α → List Value} (h : IsRows w (.slice a n c) sz (xs.map row)) (k : ∀ W,Ext X w W → IsRows W (.slice a n c) sz (xs.map row)) (d : α) : SlAt X w a sz xs.length (fun i=>row (xs.getD i d)):=fun i hi=>by
 have hne : xs.map row ≠ []:=by intro e;have:=congrArg List.length e;simp at this;rw [this] at hi;simp at hi
 obtain ⟨b,off,h1,-⟩:=h.range rfl hne
 refine ⟨b,off,fun m c=>by rw [h1],fun W E=>?_⟩
 obtain ⟨b',off',h1',-,h2⟩:=(k W E).range rfl hne
 rw [h1] at h1'
 cases h1'
 exact h2 i (row (xs.getD i d)) (by simp [hi])
end Go.Proofs.YtdjeecgddbjbeaaGreat
