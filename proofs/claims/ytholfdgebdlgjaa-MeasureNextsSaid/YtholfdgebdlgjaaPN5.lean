/- Parts of a proof: Lts, Red, SetsL, It, It2, Fnd. No conditions. -/
import Derived.Laws.BitsAllLaws
import Derived.LoopIn
import Derived.LoopNIn
import Derived.OwnWalkIn
import Derived.RangeFuncBound
import Derived.RangeFuncCalls
import Derived.RangeFuncFrom
import Derived.RangeFuncKeeps
import Derived.RangeFuncLeaves
import Derived.RangeFuncNested
import Derived.Shelf.Abstract
import Derived.TacticsInMore
import Derived.Test.YtholfdgebdlgjaaPN1
import Derived.Test.YtholfdgebdlgjaaPN2
import Derived.Test.YtholfdgebdlgjaaPN4
set_option linter.unusedVariables false
set_option linter.unusedSimpArgs false
namespace Go.Proofs.Ytholfdgebdlgjaa
open Go.RowKit
def LotsOk (w0 w : World) (b k : Nat) (nv : Value) : Prop:=
 w0.heap.size ≤ b ∧ (∃ (a : Option Addr) (c : Nat) (xs : List Int),nv = .slice a xs.length c ∧ IsRows w0 nv 1 (xs.map intRow)) ∧ Ext [b] w0 w ∧
 ∃ d st : Int,w.heap[b]? = some (.cells #[nv,.int .i64 d,.int .u64 st] 98 (0,0)) ∧ 0 ≤ d ∧ d ≤ k ∧ 0 ≤ st ∧ st < 18446744073709551616
theorem lots_mono {w0 w : World} {b k k' : Nat} {nv : Value} (h : LotsOk w0 w b k nv) (hk : k ≤ k') : LotsOk w0 w b k' nv:=by
 obtain ⟨h1,h2,h3,d,st,h4,h5,h6,h7⟩:=h
 exact ⟨h1,h2,h3,d,st,h4,h5,by omega,h7⟩
theorem lots_alloc {w0 w w2 : World} {b k : Nat} {nv : Value} {o : Obj} (e : w2 = w.alloc o) (h : LotsOk w0 w b k nv) : LotsOk w0 w2 b k nv:=by
 obtain ⟨h1,h2,h3,d,st,h4,h5⟩:=h
 exact ⟨h1,h2,ext_alloc h3 e,d,st,keep_alloc e h4,h5⟩
theorem lots_cells {w0 w w2 : World} {b k c o : Nat} {nv : Value} {l : List Value} (e : w2 = w.setCells c o l) (h : LotsOk w0 w b k nv) (hc : w0.heap.size ≤ c) (hb : b ≠ c) : LotsOk w0 w2 b k nv:=by
 obtain ⟨h1,h2,h3,d,st,h4,h5⟩:=h
 exact ⟨h1,h2,ext_cells h3 e (fun h=>absurd h (by omega)),d,st,keep_cells e h4 hb,h5⟩
theorem lots_cell {w0 w w2 : World} {b k c o : Nat} {nv v : Value} (e : w2 = w.setCell ⟨c,o,none⟩ v) (h : LotsOk w0 w b k nv) (hc : w0.heap.size ≤ c) (hb : b ≠ c) : LotsOk w0 w2 b k nv:=by
 obtain ⟨h1,h2,h3,d,st,h4,h5⟩:=h
 exact ⟨h1,h2,ext_cell h3 e (fun h=>absurd h (by omega)),d,st,keep_cell e h4 hb,h5⟩
theorem lots_ext {w0 w w2 : World} {b k : Nat} {nv : Value} (e : Ext [] w w2) (h : LotsOk w0 w b k nv) : LotsOk w0 w2 b k nv:=by
 obtain ⟨h1,h2,h3,d,st,h4,h5⟩:=h
 exact ⟨h1,h2,h3.nil e,d,st,e.keep0 h4,h5⟩
theorem wrap_u64 (x : Int) : 0 ≤ IntKind.u64.wrap x ∧ IntKind.u64.wrap x < 18446744073709551616:=by
 simp only [IntKind.wrap,IntKind.bits,IntKind.signed]
 simp
 omega
theorem xor_u64 (x y : Int) (h1 : 0 ≤ x ∧ x < 18446744073709551616) (h2 : 0 ≤ y ∧ y < 18446744073709551616) : 0 ≤ bits .xor .u64 x y ∧ bits .xor .u64 x y < 18446744073709551616:=by
 rw [u64_xor x y h1.1 h1.2 h2.1 h2.2]
 have:=Nat.xor_lt_two_pow (n:=64) (x:=x.toNat) (y:=y.toNat) (by omega) (by omega)
 omega
theorem fdiv_pow (x : Int) (n : Nat) (h : 0 ≤ x) : 0 ≤ x.fdiv (2 ^ n) ∧ x.fdiv (2 ^ n) ≤ x:=by
 have hp : (0 : Int) < 2 ^ n:=Int.pow_pos (by decide)
 rw [Int.fdiv_eq_ediv_of_nonneg _ (Int.le_of_lt hp)]
 exact ⟨Int.ediv_nonneg h (Int.le_of_lt hp),Int.ediv_le_self _ h⟩
section
variable {P : Program} {ρ : Operand → Value} {o : Oper} {w : World}
theorem R_wadd {x y : Operand} {t t' : TypeId} {k : IntKind} {n m : Int} (ho : o.op = .binOp .add t x y t') (hx : ρ x = .int k n) (hy : ρ y = .int k m) : (execOp ρ o).run P w = .ok (.value (.int k (k.wrap (n + m)))) w:=by
 unfold execOp
 simp [ho,hx,hy,binOp,Op.intArith,eqGuard,go_sem]
theorem R_wmul {x y : Operand} {t t' : TypeId} {k : IntKind} {n m : Int} (ho : o.op = .binOp .mul t x y t') (hx : ρ x = .int k n) (hy : ρ y = .int k m) : (execOp ρ o).run P w = .ok (.value (.int k (k.wrap (n * m)))) w:=by
 unfold execOp
 simp [ho,hx,hy,binOp,Op.intArith,eqGuard,go_sem]
theorem R_xor {x y : Operand} {t t' : TypeId} {k : IntKind} {n m : Int} (ho : o.op = .binOp .xor t x y t') (hx : ρ x = .int k n) (hy : ρ y = .int k m) : (execOp ρ o).run P w = .ok (.value (.int k (bits .xor k n m))) w:=by
 unfold execOp
 simp [ho,hx,hy,binOp,Op.intBits,eqGuard,go_sem]
 rfl
theorem R_shr {x y : Operand} {t t' : TypeId} {k k' : IntKind} {n : Int} {m : Nat} (ho : o.op = .binOp .shr t x y t') (hx : ρ x = .int k n) (hy : ρ y = .int k' m) : (execOp ρ o).run P w = .ok (.value (.int k (n.fdiv (2 ^ min m k.bits)))) w:=by
 unfold execOp
 have hm : ¬ ((m : Int) < 0):=by omega
 simp [ho,hx,hy,binOp,Op.shift,eqGuard,hm,go_sem]
theorem R_rem {x y : Operand} {t t' : TypeId} {k : IntKind} {n m : Int} (ho : o.op = .binOp .rem t x y t') (hx : ρ x = .int k n) (hy : ρ y = .int k m) (hm : m ≠ 0) : (execOp ρ o).run P w = .ok (.value (.int k (n.tmod m))) w:=by
 unfold execOp
 simp [ho,hx,hy,binOp,Op.intDiv,eqGuard,hm,go_sem]
theorem R_convert {x : Operand} {t t' : TypeId} {k k' : IntKind} {n : Int} (ho : o.op = .convert t t' x) (hx : ρ x = .int k n) (hu : P.underlying t = some (.int k)) (hu' : P.underlying t' = some (.int k')) : (execOp ρ o).run P w = .ok (.value (.int k' (k'.wrap n))) w:=by
 unfold execOp
 simp [ho,hx,convert,Conv.intToInt,run_underlying hu,run_underlying hu',go_sem]
end
theorem blk_of_rangeL {w : World} {b off : Nat} {cs : List Value} {v : Value} (h : w.rangeAt b off cs) (h0 : cs[0]? = some v) : b < w.heap.size:=
 World.block_lt_of_cell? w ⟨b,off + 0,none⟩ (h 0 v h0)
theorem shr8 {z : Int} (h : 0 ≤ z ∧ z < 18446744073709551616) : 0 ≤ z.fdiv (2 ^ min 8 IntKind.u64.bits) ∧ z.fdiv (2 ^ min 8 IntKind.u64.bits) < 72057594037927936:=by
 rw [show (2 : Int) ^ min 8 IntKind.u64.bits = 256 from rfl,Int.fdiv_eq_ediv_of_nonneg _ (by decide)]
 omega
set_option maxRecDepth 100000 in
set_option maxHeartbeats 4000000 in
theorem lnext_any (w0 w : World) (b k : Nat) (nv : Value) (h : LotsOk w0 w b k nv) (hk : k ≤ 1000000) :
  Calls Try.prog 114 #[.pointer (some ⟨b,0,none⟩)] w fun e w'=>∃ v : Int,e = .returned (.int .u64 v) ∧ 0 ≤ v ∧ v < 72057594037927936 ∧ LotsOk w0 w' b (k + 1) nv ∧ Ext [b] w w':=by
 obtain ⟨hb,⟨na,nc,xs,rfl,hn⟩,E0,d,st,q,hd0,hdk,hs0,hs1⟩:=h
 have E : Ext [b] w w:=Ext.refl _ _
 go_enter Try.func114,Try.ntmps114
 go_upto_region 0 with (fail)
 refine wp_region_lit ?_
 refine seq_val rfl rfl (R_assign (v:=.int .u64 0) rfl rfl) (by simp only [ls,lz];exact rfl) ?_
 refine wpList_nil ?_
 go_upto_region 1 with (fail)
 refine wp_region_lit ?_
 refine seq_val rfl rfl (R_move (v:=.pointer (some ⟨_,_,none⟩)) rfl rfl) (by simp only [ls,lz];exact rfl) ?_
 refine seq_val rfl rfl (R_move (v:=.pointer (some ⟨_,_,none⟩)) rfl rfl) (by simp only [ls,lz];exact rfl) ?_
 refine seq_val rfl rfl (R_nilCheck rfl rfl) (by simp only [ls,lz];exact rfl) ?_
 refine seq_val rfl rfl (R_field rfl rfl Try.underlying98 rfl (n:=2) (sz:=1) rfl (by kernel_rfl) (by decide)) (by simp only [ls,lz];exact rfl) ?_
 refine seq_val rfl rfl (R_load rfl rfl Try.underlying96 rfl ((cells_of_block q 2).trans (getS (getS (get0))))) (by simp only [ls,lz];exact rfl) ?_
 refine seq_val rfl rfl (R_wmul rfl rfl rfl) (by simp only [ls,lz];exact rfl) ?_
 refine seq_val rfl rfl (R_wadd rfl rfl rfl) (by simp only [ls,lz];exact rfl) ?_
 refine seq_val rfl rfl (R_nilCheck rfl rfl) (by simp only [ls,lz];exact rfl) ?_
 refine seq_val rfl rfl (R_field rfl rfl Try.underlying98 rfl (n:=2) (sz:=1) rfl (by kernel_rfl) (by decide)) (by simp only [ls,lz];exact rfl) ?_
 refine seq_to rfl rfl (R_store (v:=.int .u64 _) rfl rfl rfl rfl (by kernel_rfl) ((cells_of_block q 2).trans rfl) (free_of_block q 2)) fun w1 hw=>?_
 replace q:=put_cell hw q (by simp only [List.setIfInBounds_toArray,ls,lz];exact rfl)
 replace E0:=ext_cell E0 hw (fun h=>by first | exact absurd h (by omega) | simp)
 replace E:=ext_cell E hw (fun h=>by first | exact absurd h (by omega) | simp)
 clear hw
 refine wpList_nil ?_
 have hst1:=wrap_u64 (IntKind.u64.wrap (st * 6364136223846793005) + 1442695040888963407)
 generalize IntKind.u64.wrap (IntKind.u64.wrap (st * 6364136223846793005) + 1442695040888963407) = st1 at hst1 q ⊢
 go_upto_region 2 with (fail)
 refine region_any (Ext [] w1) follows fun w2 hh eS=>?_
 have q_:=q
 replace q:=keep_same hh q
 replace E:=ext_same E eS
 replace E0:=ext_same E0 eS
 refine anyH_take (i:=0) rfl (by kernel_rfl) (by kernel_rfl) (by kernel_rfl) (fun _ _ _ h=>h) rfl rfl (fun w' hS=>R_move (v:=.pointer (some ⟨_,_,none⟩)) rfl rfl) eS (by simp only [ls,lz];exact rfl) ?_
 refine anyH_take (i:=1) rfl (by kernel_rfl) (by kernel_rfl) (by kernel_rfl) (fun _ _ _ h=>h) rfl rfl (fun w' hS=>R_nilCheck rfl rfl) eS (by simp only [ls,lz];exact rfl) ?_
 refine anyH_take (i:=2) rfl (by kernel_rfl) (by kernel_rfl) (by kernel_rfl) (fun _ _ _ h=>h) rfl rfl (fun w' hS=>R_field rfl rfl Try.underlying98 rfl (n:=1) (sz:=1) rfl (by kernel_rfl) (by decide)) eS (by simp only [ls,lz];exact rfl) ?_
 refine anyH_take (i:=3) rfl (by kernel_rfl) (by kernel_rfl) (by kernel_rfl) (fun _ _ _ h=>h) rfl rfl (fun w' hS=>R_load rfl rfl Try.underlying3 rfl ((cells_of_block (hS.keep q_ (by simp)) 1).trans (getS (get0)))) eS (by simp only [ls,lz];exact rfl) ?_
 refine anyH_take (i:=4) rfl (by kernel_rfl) (by kernel_rfl) (by kernel_rfl) (fun _ _ _ h=>h) rfl rfl (fun w' hS=>R_move (v:=.pointer (some ⟨_,_,none⟩)) rfl rfl) eS (by simp only [ls,lz];exact rfl) ?_
 refine anyH_take (i:=5) rfl (by kernel_rfl) (by kernel_rfl) (by kernel_rfl) (fun _ _ _ h=>h) rfl rfl (fun w' hS=>R_nilCheck rfl rfl) eS (by simp only [ls,lz];exact rfl) ?_
 refine anyH_take (i:=6) rfl (by kernel_rfl) (by kernel_rfl) (by kernel_rfl) (fun _ _ _ h=>h) rfl rfl (fun w' hS=>R_field rfl rfl Try.underlying98 rfl (n:=0) (sz:=1) rfl (by kernel_rfl) (by decide)) eS (by simp only [ls,lz];exact rfl) ?_
 refine anyH_take (i:=7) rfl (by kernel_rfl) (by kernel_rfl) (by kernel_rfl) (fun _ _ _ h=>h) rfl rfl (fun w' hS=>R_load rfl rfl Try.underlying29 rfl ((cells_of_block (hS.keep q_ (by simp)) 0).trans (get0))) eS (by simp only [ls,lz];exact rfl) ?_
 refine anyH_take (i:=8) rfl (by kernel_rfl) (by kernel_rfl) (by kernel_rfl) (fun _ _ _ h=>h) rfl rfl (fun w' hS=>R_len rfl rfl rfl Try.underlying29) eS (by simp only [ls,lz];exact rfl) ?_
 refine anyH_take (i:=9) rfl (by kernel_rfl) (by kernel_rfl) (by kernel_rfl) (fun _ _ _ h=>h) rfl rfl (fun w' hS=>R_lss rfl rfl rfl) eS (by simp only [ls,lz];exact rfl) ?_
 refine wpAnyH_done (by kernel_rfl) ?_ _
 clear q_ hh eS
 by_cases hlt : d < (xs.length : Int)
 ·have hW:=hn.ext E0 (by simp;omega)
  obtain ⟨xb,xo,hxa,hxr⟩:=rows_in 0 hW (Ext.refl _ _) (i:=d.toNat) (by omega)
  have hcx : Hid (∀ W : World,Ext [] w2 W → W.cell? ⟨xb,xo + d.toNat * 1,none⟩ = some (.int .i64 (xs.getD d.toNat 0))):=fun W hW=>by
   have hlt2:=blk_of_rangeL hxr rfl
   have:=hxr 0 (.int .i64 (xs.getD d.toNat 0)) rfl
   rw [hW.cell (a:=⟨xb,xo + d.toNat * 1,none⟩) hlt2 (by simp)];simpa using this
  clear hxr
  go_upto_region 3 with (fail)
  refine region_until (Ext [] w2) 20 follows fun w3 hh eS=>?_
  have q_:=q
  replace q:=keep_same hh q
  replace E:=ext_same E eS
  replace E0:=ext_same E0 eS
  refine anyU_take (i:=0) (last:=20) rfl rfl (by decide) (by kernel_rfl) (by kernel_rfl) (by kernel_rfl) (by kernel_rfl) (by kernel_rfl) (fun _ _ _ h=>h) rfl rfl (fun w' hS=>R_move (v:=.pointer (some ⟨_,_,none⟩)) rfl rfl) eS (by simp only [ls,lz];exact rfl) ?_
  refine anyU_take (i:=1) (last:=20) rfl rfl (by decide) (by kernel_rfl) (by kernel_rfl) (by kernel_rfl) (by kernel_rfl) (by kernel_rfl) (fun _ _ _ h=>h) rfl rfl (fun w' hS=>R_move (v:=.pointer (some ⟨_,_,none⟩)) rfl rfl) eS (by simp only [ls,lz];exact rfl) ?_
  refine anyU_take (i:=2) (last:=20) rfl rfl (by decide) (by kernel_rfl) (by kernel_rfl) (by kernel_rfl) (by kernel_rfl) (by kernel_rfl) (fun _ _ _ h=>h) rfl rfl (fun w' hS=>R_nilCheck rfl rfl) eS (by simp only [ls,lz];exact rfl) ?_
  refine anyU_take (i:=3) (last:=20) rfl rfl (by decide) (by kernel_rfl) (by kernel_rfl) (by kernel_rfl) (by kernel_rfl) (by kernel_rfl) (fun _ _ _ h=>h) rfl rfl (fun w' hS=>R_field rfl rfl Try.underlying98 rfl (n:=2) (sz:=1) rfl (by kernel_rfl) (by decide)) eS (by simp only [ls,lz];exact rfl) ?_
  refine anyU_take (i:=4) (last:=20) rfl rfl (by decide) (by kernel_rfl) (by kernel_rfl) (by kernel_rfl) (by kernel_rfl) (by kernel_rfl) (fun _ _ _ h=>h) rfl rfl (fun w' hS=>R_load rfl rfl Try.underlying96 rfl ((cells_of_block (hS.keep q_ (by simp)) 2).trans (getS (getS (get0))))) eS (by simp only [ls,lz];exact rfl) ?_
  refine anyU_take (i:=5) (last:=20) rfl rfl (by decide) (by kernel_rfl) (by kernel_rfl) (by kernel_rfl) (by kernel_rfl) (by kernel_rfl) (fun _ _ _ h=>h) rfl rfl (fun w' hS=>R_move (v:=.pointer (some ⟨_,_,none⟩)) rfl rfl) eS (by simp only [ls,lz];exact rfl) ?_
  refine anyU_take (i:=6) (last:=20) rfl rfl (by decide) (by kernel_rfl) (by kernel_rfl) (by kernel_rfl) (by kernel_rfl) (by kernel_rfl) (fun _ _ _ h=>h) rfl rfl (fun w' hS=>R_nilCheck rfl rfl) eS (by simp only [ls,lz];exact rfl) ?_
  refine anyU_take (i:=7) (last:=20) rfl rfl (by decide) (by kernel_rfl) (by kernel_rfl) (by kernel_rfl) (by kernel_rfl) (by kernel_rfl) (fun _ _ _ h=>h) rfl rfl (fun w' hS=>R_field rfl rfl Try.underlying98 rfl (n:=0) (sz:=1) rfl (by kernel_rfl) (by decide)) eS (by simp only [ls,lz];exact rfl) ?_
  refine anyU_take (i:=8) (last:=20) rfl rfl (by decide) (by kernel_rfl) (by kernel_rfl) (by kernel_rfl) (by kernel_rfl) (by kernel_rfl) (fun _ _ _ h=>h) rfl rfl (fun w' hS=>R_load rfl rfl Try.underlying29 rfl ((cells_of_block (hS.keep q_ (by simp)) 0).trans (get0))) eS (by simp only [ls,lz];exact rfl) ?_
  refine anyU_take (i:=9) (last:=20) rfl rfl (by decide) (by kernel_rfl) (by kernel_rfl) (by kernel_rfl) (by kernel_rfl) (by kernel_rfl) (fun _ _ _ h=>h) rfl rfl (fun w' hS=>R_move (v:=.pointer (some ⟨_,_,none⟩)) rfl rfl) eS (by simp only [ls,lz];exact rfl) ?_
  refine anyU_take (i:=10) (last:=20) rfl rfl (by decide) (by kernel_rfl) (by kernel_rfl) (by kernel_rfl) (by kernel_rfl) (by kernel_rfl) (fun _ _ _ h=>h) rfl rfl (fun w' hS=>R_nilCheck rfl rfl) eS (by simp only [ls,lz];exact rfl) ?_
  refine anyU_take (i:=11) (last:=20) rfl rfl (by decide) (by kernel_rfl) (by kernel_rfl) (by kernel_rfl) (by kernel_rfl) (by kernel_rfl) (fun _ _ _ h=>h) rfl rfl (fun w' hS=>R_field rfl rfl Try.underlying98 rfl (n:=1) (sz:=1) rfl (by kernel_rfl) (by decide)) eS (by simp only [ls,lz];exact rfl) ?_
  refine anyU_take (i:=12) (last:=20) rfl rfl (by decide) (by kernel_rfl) (by kernel_rfl) (by kernel_rfl) (by kernel_rfl) (by kernel_rfl) (fun _ _ _ h=>h) rfl rfl (fun w' hS=>R_load rfl rfl Try.underlying3 rfl ((cells_of_block (hS.keep q_ (by simp)) 1).trans (getS (get0)))) eS (by simp only [ls,lz];exact rfl) ?_
  refine anyU_take (i:=13) (last:=20) rfl rfl (by decide) (by kernel_rfl) (by kernel_rfl) (by kernel_rfl) (by kernel_rfl) (by kernel_rfl) (fun _ _ _ h=>h) rfl rfl (fun w' hS=>R_ixSlice (sz:=1) rfl (hxa xs.length nc) rfl Try.underlying29 (by kernel_rfl) (by omega) (by omega)) eS (by simp only [ls,lz];exact rfl) ?_
  refine anyU_take (i:=14) (last:=20) rfl rfl (by decide) (by kernel_rfl) (by kernel_rfl) (by kernel_rfl) (by kernel_rfl) (by kernel_rfl) (fun _ _ _ h=>h) rfl rfl (fun w' hS=>R_load (v:=.int .i64 (xs.getD d.toNat 0)) rfl rfl Try.underlying3 rfl (hcx.out _ hS)) eS (by simp only [ls,lz];exact rfl) ?_
  refine anyU_take (i:=15) (last:=20) rfl rfl (by decide) (by kernel_rfl) (by kernel_rfl) (by kernel_rfl) (by kernel_rfl) (by kernel_rfl) (fun _ _ _ h=>h) rfl rfl (fun w' hS=>R_convert rfl rfl Try.underlying3 Try.underlying96) eS (by simp only [ls,lz];exact rfl) ?_
  refine anyU_take (i:=16) (last:=20) rfl rfl (by decide) (by kernel_rfl) (by kernel_rfl) (by kernel_rfl) (by kernel_rfl) (by kernel_rfl) (fun _ _ _ h=>h) rfl rfl (fun w' hS=>R_wmul rfl rfl rfl) eS (by simp only [ls,lz];exact rfl) ?_
  refine anyU_take (i:=17) (last:=20) rfl rfl (by decide) (by kernel_rfl) (by kernel_rfl) (by kernel_rfl) (by kernel_rfl) (by kernel_rfl) (fun _ _ _ h=>h) rfl rfl (fun w' hS=>R_wadd rfl rfl rfl) eS (by simp only [ls,lz];exact rfl) ?_
  refine anyU_one (i:=18) rfl (by kernel_rfl) rfl rfl (fun w' hS=>R_nilCheck rfl rfl) eS (by simp only [ls,lz];exact rfl) ?_
  refine anyU_take (i:=19) (last:=20) rfl rfl (by decide) (by kernel_rfl) (by kernel_rfl) (by kernel_rfl) (by kernel_rfl) (by kernel_rfl) (fun _ _ _ h=>h) rfl rfl (fun w' hS=>R_field rfl rfl Try.underlying98 rfl (n:=2) (sz:=1) rfl (by kernel_rfl) (by decide)) eS (by simp only [ls,lz];exact rfl) ?_
  refine anyU_last (o:=_) rfl (by kernel_rfl) rfl rfl (R_store (v:=.int .u64 _) rfl rfl rfl rfl (by kernel_rfl) ((cells_of_block q 2).trans (getS (getS (get0)))) (free_of_block q 2)) (by kernel_rfl) fun w4 hw=>?_
  replace q:=put_cell hw q (by simp only [List.setIfInBounds_toArray,ls,lz];exact rfl)
  replace E0:=ext_cell E0 hw (fun h=>by first | exact absurd h (by omega) | simp)
  replace E:=ext_cell E hw (fun h=>by first | exact absurd h (by omega) | simp)
  clear hw
  refine anyU_done (by kernel_rfl) ?_ _
  clear q_ hh eS
  have hst2:=wrap_u64 (st1 + IntKind.u64.wrap (IntKind.u64.wrap (xs.getD d.toNat 0) * 2862933555777941757))
  generalize IntKind.u64.wrap (st1 + IntKind.u64.wrap (IntKind.u64.wrap (xs.getD d.toNat 0) * 2862933555777941757)) = st2 at hst2 q ⊢
  clear hcx hxa hst1
  go_upto_region 4 with (fail)
  refine wp_region_lit ?_
  refine seq_val rfl rfl (R_move (v:=.pointer (some ⟨_,_,none⟩)) rfl rfl) (by simp only [ls,lz];exact rfl) ?_
  refine seq_val rfl rfl (R_nilCheck rfl rfl) (by simp only [ls,lz];exact rfl) ?_
  refine seq_val rfl rfl (R_field rfl rfl Try.underlying98 rfl (n:=1) (sz:=1) rfl (by kernel_rfl) (by decide)) (by simp only [ls,lz];exact rfl) ?_
  refine seq_val rfl rfl (R_load rfl rfl Try.underlying3 rfl ((cells_of_block q 1).trans (getS (get0)))) (by simp only [ls,lz];exact rfl) ?_
  refine seq_val rfl rfl (R_add rfl rfl rfl (by omega) (by omega)) (by simp only [ls,lz];exact rfl) ?_
  refine seq_val rfl rfl (R_nilCheck rfl rfl) (by simp only [ls,lz];exact rfl) ?_
  refine seq_val rfl rfl (R_field rfl rfl Try.underlying98 rfl (n:=1) (sz:=1) rfl (by kernel_rfl) (by decide)) (by simp only [ls,lz];exact rfl) ?_
  refine seq_to rfl rfl (R_store (v:=.int .i64 _) rfl rfl rfl rfl (by kernel_rfl) ((cells_of_block q 1).trans rfl) (free_of_block q 1)) fun w5 hw=>?_
  replace q:=put_cell hw q (by simp only [List.setIfInBounds_toArray,ls,lz];exact rfl)
  replace E0:=ext_cell E0 hw (fun h=>by first | exact absurd h (by omega) | simp)
  replace E:=ext_cell E hw (fun h=>by first | exact absurd h (by omega) | simp)
  clear hw
  refine wpList_nil ?_
  go_upto_region 5 with (fail)
  refine region_any (Ext [] w5) follows fun w6 hh eS=>?_
  have q_:=q
  replace q:=keep_same hh q
  replace E:=ext_same E eS
  replace E0:=ext_same E0 eS
  refine anyH_take (i:=0) rfl (by kernel_rfl) (by kernel_rfl) (by kernel_rfl) (fun _ _ _ h=>h) rfl rfl (fun w' hS=>R_move (v:=.pointer (some ⟨_,_,none⟩)) rfl rfl) eS (by simp only [ls,lz];exact rfl) ?_
  refine anyH_take (i:=1) rfl (by kernel_rfl) (by kernel_rfl) (by kernel_rfl) (fun _ _ _ h=>h) rfl rfl (fun w' hS=>R_nilCheck rfl rfl) eS (by simp only [ls,lz];exact rfl) ?_
  refine anyH_take (i:=2) rfl (by kernel_rfl) (by kernel_rfl) (by kernel_rfl) (fun _ _ _ h=>h) rfl rfl (fun w' hS=>R_field rfl rfl Try.underlying98 rfl (n:=2) (sz:=1) rfl (by kernel_rfl) (by decide)) eS (by simp only [ls,lz];exact rfl) ?_
  refine anyH_take (i:=3) rfl (by kernel_rfl) (by kernel_rfl) (by kernel_rfl) (fun _ _ _ h=>h) rfl rfl (fun w' hS=>R_load rfl rfl Try.underlying96 rfl ((cells_of_block (hS.keep q_ (by simp)) 2).trans (getS (getS (get0))))) eS (by simp only [ls,lz];exact rfl) ?_
  refine anyH_take (i:=4) rfl (by kernel_rfl) (by kernel_rfl) (by kernel_rfl) (fun _ _ _ h=>h) rfl rfl (fun w' hS=>R_move (v:=.pointer (some ⟨_,_,none⟩)) rfl rfl) eS (by simp only [ls,lz];exact rfl) ?_
  refine anyH_take (i:=5) rfl (by kernel_rfl) (by kernel_rfl) (by kernel_rfl) (fun _ _ _ h=>h) rfl rfl (fun w' hS=>R_nilCheck rfl rfl) eS (by simp only [ls,lz];exact rfl) ?_
  refine anyH_take (i:=6) rfl (by kernel_rfl) (by kernel_rfl) (by kernel_rfl) (fun _ _ _ h=>h) rfl rfl (fun w' hS=>R_field rfl rfl Try.underlying98 rfl (n:=2) (sz:=1) rfl (by kernel_rfl) (by decide)) eS (by simp only [ls,lz];exact rfl) ?_
  refine anyH_take (i:=7) rfl (by kernel_rfl) (by kernel_rfl) (by kernel_rfl) (fun _ _ _ h=>h) rfl rfl (fun w' hS=>R_load rfl rfl Try.underlying96 rfl ((cells_of_block (hS.keep q_ (by simp)) 2).trans (getS (getS (get0))))) eS (by simp only [ls,lz];exact rfl) ?_
  refine anyH_take (i:=8) rfl (by kernel_rfl) (by kernel_rfl) (by kernel_rfl) (fun _ _ _ h=>h) rfl rfl (fun w' hS=>R_shr (m:=29) rfl rfl rfl) eS (by simp only [ls,lz];exact rfl) ?_
  refine anyH_take (i:=9) rfl (by kernel_rfl) (by kernel_rfl) (by kernel_rfl) (fun _ _ _ h=>h) rfl rfl (fun w' hS=>R_xor rfl rfl rfl) eS (by simp only [ls,lz];exact rfl) ?_
  refine anyH_take (i:=10) rfl (by kernel_rfl) (by kernel_rfl) (by kernel_rfl) (fun _ _ _ h=>h) rfl rfl (fun w' hS=>R_assign (v:=.int .u64 _) rfl rfl) eS (by simp only [ls,lz];exact rfl) ?_
  refine wpAnyH_done (by kernel_rfl) ?_ _
  clear q_ hh eS
  generalize hz : bits .xor .u64 st2 (st2.fdiv (2 ^ min 29 IntKind.u64.bits)) = z
  clear hz
  go_upto_region 6 with (fail)
  refine wp_region_lit ?_
  refine seq_val rfl rfl (R_move (v:=.int .u64 _) rfl rfl) (by simp only [ls,lz];exact rfl) ?_
  refine seq_val rfl rfl (R_wmul rfl rfl rfl) (by simp only [ls,lz];exact rfl) ?_
  refine seq_val rfl rfl (R_assign (v:=.int .u64 _) rfl rfl) (by simp only [ls,lz];exact rfl) ?_
  refine wpList_nil ?_
  have hz2:=wrap_u64 (z * 2685821657736338717)
  generalize IntKind.u64.wrap (z * 2685821657736338717) = z2 at hz2 ⊢
  go_upto_region 7 with (fail)
  refine wp_region_lit ?_
  refine seq_val rfl rfl (R_move (v:=.int .u64 _) rfl rfl) (by simp only [ls,lz];exact rfl) ?_
  refine seq_val rfl rfl (R_move (v:=.int .u64 _) rfl rfl) (by simp only [ls,lz];exact rfl) ?_
  refine seq_val rfl rfl (R_shr (m:=32) rfl rfl rfl) (by simp only [ls,lz];exact rfl) ?_
  refine seq_val rfl rfl (R_xor rfl rfl rfl) (by simp only [ls,lz];exact rfl) ?_
  refine seq_val rfl rfl (R_shr (m:=8) rfl rfl rfl) (by simp only [ls,lz];exact rfl) ?_
  refine seq_val rfl rfl (R_assign (v:=.int .u64 _) rfl rfl) (by simp only [ls,lz];exact rfl) ?_
  refine wpList_nil ?_
  have hz3:=fdiv_pow z2 (min 32 IntKind.u64.bits) hz2.1
  have hz4:=xor_u64 z2 _ hz2 ⟨hz3.1,by omega⟩
  generalize bits .xor .u64 z2 (z2.fdiv (2 ^ min 32 IntKind.u64.bits)) = z5 at hz4 ⊢
  have hz6:=shr8 hz4
  generalize z5.fdiv (2 ^ min 8 IntKind.u64.bits) = z7 at hz6 ⊢
  go_wp2
  go_ret
  exact ⟨z7,rfl,hz6.1,hz6.2,⟨hb,⟨na,nc,xs,rfl,hn⟩,E0,d + 1,st2,q,by omega,by omega,hst2.1,hst2.2⟩,E⟩
 ·obtain ⟨st2,rfl⟩ : ∃ st2,st2 = st1:=⟨_,rfl⟩
  have hst2:=hst1
  go_upto_region 4 with (fail)
  refine wp_region_lit ?_
  refine seq_val rfl rfl (R_move (v:=.pointer (some ⟨_,_,none⟩)) rfl rfl) (by simp only [ls,lz];exact rfl) ?_
  refine seq_val rfl rfl (R_nilCheck rfl rfl) (by simp only [ls,lz];exact rfl) ?_
  refine seq_val rfl rfl (R_field rfl rfl Try.underlying98 rfl (n:=1) (sz:=1) rfl (by kernel_rfl) (by decide)) (by simp only [ls,lz];exact rfl) ?_
  refine seq_val rfl rfl (R_load rfl rfl Try.underlying3 rfl ((cells_of_block q 1).trans (getS (get0)))) (by simp only [ls,lz];exact rfl) ?_
  refine seq_val rfl rfl (R_add rfl rfl rfl (by omega) (by omega)) (by simp only [ls,lz];exact rfl) ?_
  refine seq_val rfl rfl (R_nilCheck rfl rfl) (by simp only [ls,lz];exact rfl) ?_
  refine seq_val rfl rfl (R_field rfl rfl Try.underlying98 rfl (n:=1) (sz:=1) rfl (by kernel_rfl) (by decide)) (by simp only [ls,lz];exact rfl) ?_
  refine seq_to rfl rfl (R_store (v:=.int .i64 _) rfl rfl rfl rfl (by kernel_rfl) ((cells_of_block q 1).trans rfl) (free_of_block q 1)) fun w3 hw=>?_
  replace q:=put_cell hw q (by simp only [List.setIfInBounds_toArray,ls,lz];exact rfl)
  replace E0:=ext_cell E0 hw (fun h=>by first | exact absurd h (by omega) | simp)
  replace E:=ext_cell E hw (fun h=>by first | exact absurd h (by omega) | simp)
  clear hw
  refine wpList_nil ?_
  go_upto_region 5 with (fail)
  refine region_any (Ext [] w3) follows fun w4 hh eS=>?_
  have q_:=q
  replace q:=keep_same hh q
  replace E:=ext_same E eS
  replace E0:=ext_same E0 eS
  refine anyH_take (i:=0) rfl (by kernel_rfl) (by kernel_rfl) (by kernel_rfl) (fun _ _ _ h=>h) rfl rfl (fun w' hS=>R_move (v:=.pointer (some ⟨_,_,none⟩)) rfl rfl) eS (by simp only [ls,lz];exact rfl) ?_
  refine anyH_take (i:=1) rfl (by kernel_rfl) (by kernel_rfl) (by kernel_rfl) (fun _ _ _ h=>h) rfl rfl (fun w' hS=>R_nilCheck rfl rfl) eS (by simp only [ls,lz];exact rfl) ?_
  refine anyH_take (i:=2) rfl (by kernel_rfl) (by kernel_rfl) (by kernel_rfl) (fun _ _ _ h=>h) rfl rfl (fun w' hS=>R_field rfl rfl Try.underlying98 rfl (n:=2) (sz:=1) rfl (by kernel_rfl) (by decide)) eS (by simp only [ls,lz];exact rfl) ?_
  refine anyH_take (i:=3) rfl (by kernel_rfl) (by kernel_rfl) (by kernel_rfl) (fun _ _ _ h=>h) rfl rfl (fun w' hS=>R_load rfl rfl Try.underlying96 rfl ((cells_of_block (hS.keep q_ (by simp)) 2).trans (getS (getS (get0))))) eS (by simp only [ls,lz];exact rfl) ?_
  refine anyH_take (i:=4) rfl (by kernel_rfl) (by kernel_rfl) (by kernel_rfl) (fun _ _ _ h=>h) rfl rfl (fun w' hS=>R_move (v:=.pointer (some ⟨_,_,none⟩)) rfl rfl) eS (by simp only [ls,lz];exact rfl) ?_
  refine anyH_take (i:=5) rfl (by kernel_rfl) (by kernel_rfl) (by kernel_rfl) (fun _ _ _ h=>h) rfl rfl (fun w' hS=>R_nilCheck rfl rfl) eS (by simp only [ls,lz];exact rfl) ?_
  refine anyH_take (i:=6) rfl (by kernel_rfl) (by kernel_rfl) (by kernel_rfl) (fun _ _ _ h=>h) rfl rfl (fun w' hS=>R_field rfl rfl Try.underlying98 rfl (n:=2) (sz:=1) rfl (by kernel_rfl) (by decide)) eS (by simp only [ls,lz];exact rfl) ?_
  refine anyH_take (i:=7) rfl (by kernel_rfl) (by kernel_rfl) (by kernel_rfl) (fun _ _ _ h=>h) rfl rfl (fun w' hS=>R_load rfl rfl Try.underlying96 rfl ((cells_of_block (hS.keep q_ (by simp)) 2).trans (getS (getS (get0))))) eS (by simp only [ls,lz];exact rfl) ?_
  refine anyH_take (i:=8) rfl (by kernel_rfl) (by kernel_rfl) (by kernel_rfl) (fun _ _ _ h=>h) rfl rfl (fun w' hS=>R_shr (m:=29) rfl rfl rfl) eS (by simp only [ls,lz];exact rfl) ?_
  refine anyH_take (i:=9) rfl (by kernel_rfl) (by kernel_rfl) (by kernel_rfl) (fun _ _ _ h=>h) rfl rfl (fun w' hS=>R_xor rfl rfl rfl) eS (by simp only [ls,lz];exact rfl) ?_
  refine anyH_take (i:=10) rfl (by kernel_rfl) (by kernel_rfl) (by kernel_rfl) (fun _ _ _ h=>h) rfl rfl (fun w' hS=>R_assign (v:=.int .u64 _) rfl rfl) eS (by simp only [ls,lz];exact rfl) ?_
  refine wpAnyH_done (by kernel_rfl) ?_ _
  clear q_ hh eS
  generalize hz : bits .xor .u64 st2 (st2.fdiv (2 ^ min 29 IntKind.u64.bits)) = z
  clear hz
  go_upto_region 6 with (fail)
  refine wp_region_lit ?_
  refine seq_val rfl rfl (R_move (v:=.int .u64 _) rfl rfl) (by simp only [ls,lz];exact rfl) ?_
  refine seq_val rfl rfl (R_wmul rfl rfl rfl) (by simp only [ls,lz];exact rfl) ?_
  refine seq_val rfl rfl (R_assign (v:=.int .u64 _) rfl rfl) (by simp only [ls,lz];exact rfl) ?_
  refine wpList_nil ?_
  have hz2:=wrap_u64 (z * 2685821657736338717)
  generalize IntKind.u64.wrap (z * 2685821657736338717) = z2 at hz2 ⊢
  go_upto_region 7 with (fail)
  refine wp_region_lit ?_
  refine seq_val rfl rfl (R_move (v:=.int .u64 _) rfl rfl) (by simp only [ls,lz];exact rfl) ?_
  refine seq_val rfl rfl (R_move (v:=.int .u64 _) rfl rfl) (by simp only [ls,lz];exact rfl) ?_
  refine seq_val rfl rfl (R_shr (m:=32) rfl rfl rfl) (by simp only [ls,lz];exact rfl) ?_
  refine seq_val rfl rfl (R_xor rfl rfl rfl) (by simp only [ls,lz];exact rfl) ?_
  refine seq_val rfl rfl (R_shr (m:=8) rfl rfl rfl) (by simp only [ls,lz];exact rfl) ?_
  refine seq_val rfl rfl (R_assign (v:=.int .u64 _) rfl rfl) (by simp only [ls,lz];exact rfl) ?_
  refine wpList_nil ?_
  have hz3:=fdiv_pow z2 (min 32 IntKind.u64.bits) hz2.1
  have hz4:=xor_u64 z2 _ hz2 ⟨hz3.1,by omega⟩
  generalize bits .xor .u64 z2 (z2.fdiv (2 ^ min 32 IntKind.u64.bits)) = z5 at hz4 ⊢
  have hz6:=shr8 hz4
  generalize z5.fdiv (2 ^ min 8 IntKind.u64.bits) = z7 at hz6 ⊢
  go_wp2
  go_ret
  exact ⟨z7,rfl,hz6.1,hz6.2,⟨hb,⟨na,nc,xs,rfl,hn⟩,E0,d + 1,st2,q,by omega,by omega,hst2.1,hst2.2⟩,E⟩
theorem upto_val {v n : Int} (h1 : 0 ≤ v ∧ v < 72057594037927936) (h2 : 1 ≤ n ∧ n ≤ 1000000) : IntKind.u64.wrap (n + 1) = n + 1 ∧ IntKind.i64.wrap (v.tmod (n + 1)) = v.tmod (n + 1) ∧ 0 ≤ v.tmod (n + 1) ∧ v.tmod (n + 1) ≤ n:=by
 have h3 : 0 ≤ v.tmod (n + 1):=Int.tmod_nonneg _ h1.1
 have h4 : v.tmod (n + 1) < n + 1:=Int.tmod_lt_of_pos _ (by omega)
 refine ⟨?_,IntWalk.i64_in _ (by omega),h3,by omega⟩
 simp only [IntKind.wrap,IntKind.bits,IntKind.signed]
 simp
 omega
set_option maxRecDepth 100000 in
set_option maxHeartbeats 4000000 in
theorem upto_any (w0 w : World) (b k : Nat) (nv : Value) (n : Int) (h : LotsOk w0 w b k nv) (hk : k ≤ 1000000) (h0 : -1000000 ≤ n) (hn : n ≤ 1000000) :
  Calls Try.prog 51 #[.pointer (some ⟨b,0,none⟩),.int .i64 n] w fun e w'=>∃ v : Int,e = .returned (.int .i64 v) ∧ 0 ≤ v ∧ v ≤ max n 0 ∧ LotsOk w0 w' b (k + 1) nv ∧ Ext [b] w w':=by
 by_cases hlt : n < 1
 ·go_enter Try.func51,Try.ntmps51
  go_wp2
  go_ret
  exact ⟨0,rfl,by omega,by omega,lots_mono h (by omega),Ext.refl _ _⟩
 ·have E : Ext [] w w:=Ext.refl _ _
  go_enter Try.func51,Try.ntmps51
  go_upto_region 3 with (fail)
  refine wp_region_lit ?_
  refine seq_val rfl rfl (R_move (v:=.pointer (some ⟨_,_,none⟩)) rfl rfl) (by simp only [ls,lz];exact rfl) ?_
  refine seq_call rfl rfl (by kernel_rfl) (lnext_any w0 w b k nv h hk) fun e w1 hR=>?_
  obtain ⟨v,rfl,hv1,hv2,HL,e1⟩:=hR
  refine ⟨_,_,rfl,(by simp only [ls,lz];exact rfl),?_⟩
  have hu:=upto_val (n:=n) ⟨hv1,hv2⟩ ⟨by omega,hn⟩
  refine seq_val rfl rfl (R_move (v:=.int .i64 _) rfl rfl) (by simp only [ls,lz];exact rfl) ?_
  refine seq_val rfl rfl (R_add rfl rfl rfl (by omega) (by omega)) (by simp only [ls,lz];exact rfl) ?_
  refine seq_val rfl rfl (R_convert rfl rfl Try.underlying3 Try.underlying96) (by simp only [ls,lz];exact rfl) ?_
  rw [hu.1]
  refine seq_val rfl rfl (R_rem rfl rfl rfl (by omega)) (by simp only [ls,lz];exact rfl) ?_
  refine seq_val rfl rfl (R_convert rfl rfl Try.underlying96 Try.underlying3) (by simp only [ls,lz];exact rfl) ?_
  rw [hu.2.1]
  refine seq_val rfl rfl (R_assign (v:=.int .i64 _) rfl rfl) (by simp only [ls,lz];exact rfl) ?_
  refine wpList_nil ?_
  go_wp2
  go_ret
  exact ⟨_,rfl,hu.2.2.1,by omega,HL,e1⟩
set_option maxRecDepth 100000 in
set_option maxHeartbeats 4000000 in
theorem in_any (w0 w : World) (b k : Nat) (nv : Value) (lo hi : Int) (h : LotsOk w0 w b k nv) (hk : k ≤ 1000000) (h1 : -1000 ≤ lo) (h2 : lo ≤ 1000) (h3 : -1000 ≤ hi) (h4 : hi ≤ 1000) :
  Calls Try.prog 55 #[.pointer (some ⟨b,0,none⟩),.int .i64 lo,.int .i64 hi] w fun e w'=>∃ v : Int,e = .returned (.int .i64 v) ∧ lo ≤ v ∧ v ≤ max lo hi ∧ LotsOk w0 w' b (k + 1) nv ∧ Ext [b] w w':=by
 have hc:=upto_any w0 w b k nv (hi - lo) h hk (by omega) (by omega)
 have E : Ext [b] w w:=Ext.refl _ _
 go_enter Try.func55,Try.ntmps55
 go_upto_region 1 with (fail)
 refine wp_region_lit ?_
 refine seq_val rfl rfl (R_move (v:=.int .i64 _) rfl rfl) (by simp only [ls,lz];exact rfl) ?_
 refine seq_val rfl rfl (R_move (v:=.pointer (some ⟨_,_,none⟩)) rfl rfl) (by simp only [ls,lz];exact rfl) ?_
 refine seq_val rfl rfl (R_move (v:=.int .i64 _) rfl rfl) (by simp only [ls,lz];exact rfl) ?_
 refine seq_val rfl rfl (R_move (v:=.int .i64 _) rfl rfl) (by simp only [ls,lz];exact rfl) ?_
 refine seq_val rfl rfl (R_sub rfl rfl rfl (by omega) (by omega)) (by simp only [ls,lz];exact rfl) ?_
 refine seq_call rfl rfl (by kernel_rfl) (hc) fun e w1 hR=>?_
 obtain ⟨v,rfl,hv1,hv2,HL,e1⟩:=hR
 refine ⟨_,_,rfl,(by simp only [ls,lz];exact rfl),?_⟩
 replace E:=E.trans e1
 refine seq_val rfl rfl (R_add rfl rfl rfl (by omega) (by omega)) (by simp only [ls,lz];exact rfl) ?_
 refine seq_val rfl rfl (R_assign (v:=.int .i64 _) rfl rfl) (by simp only [ls,lz];exact rfl) ?_
 refine wpList_nil ?_
 go_wp2
 go_ret
 exact ⟨_,rfl,by omega,by omega,HL,e1⟩
set_option maxRecDepth 100000 in
set_option maxHeartbeats 4000000 in
theorem of_any (w0 w : World) (b k : Nat) (nv : Value) (g : Nat) (T : TypeId) (xs : List Int) (h : LotsOk w0 w b k nv) (hk : k ≤ 1000000) (hg : w.heap[g]? = some (.cells (xs.map (Value.int .i64)).toArray T (0,0))) (hgb : g ≠ b) (hx : 0 < xs.length) (hx2 : xs.length ≤ 1000) :
  Calls Try.prog 45 #[.pointer (some ⟨b,0,none⟩),.slice (some ⟨g,0,none⟩) xs.length xs.length] w fun e w'=>∃ v : Int,e = .returned (.int .i64 v) ∧ v ∈ xs ∧ LotsOk w0 w' b (k + 1) nv ∧ Ext [b] w w':=by
 have hc:=upto_any w0 w b k nv ((xs.length : Int) - 1) h hk (by omega) (by omega)
 have E : Ext [b] w w:=Ext.refl _ _
 go_enter Try.func45,Try.ntmps45
 go_upto_region 1 with (fail)
 refine wp_region_lit ?_
 refine seq_val rfl rfl (R_move (v:=.slice _ _ _) rfl rfl) (by simp only [ls,lz];exact rfl) ?_
 refine seq_val rfl rfl (R_move (v:=.pointer (some ⟨_,_,none⟩)) rfl rfl) (by simp only [ls,lz];exact rfl) ?_
 refine seq_val rfl rfl (R_move (v:=.slice _ _ _) rfl rfl) (by simp only [ls,lz];exact rfl) ?_
 refine seq_val rfl rfl (R_len rfl rfl rfl Try.underlying29) (by simp only [ls,lz];exact rfl) ?_
 refine seq_val rfl rfl (R_sub rfl rfl rfl (by omega) (by omega)) (by simp only [ls,lz];exact rfl) ?_
 refine seq_call rfl rfl (by kernel_rfl) (hc) fun e w1 hR=>?_
 obtain ⟨v,rfl,hv1,hv2,HL,e1⟩:=hR
 refine ⟨_,_,rfl,(by simp only [ls,lz];exact rfl),?_⟩
 replace hg:=(e1).keep hg (by simp;omega)
 replace E:=E.trans e1
 obtain ⟨i,rfl⟩:=Int.eq_ofNat_of_zero_le hv1
 have hil : i < xs.length:=by omega
 have hci:=(cells_of_block hg (0 + (i : Int).toNat * 1)).trans (show (xs.map (Value.int .i64)).toArray[0 + (i : Int).toNat * 1]? = some (.int .i64 (xs[i])) by simp [hil])
 refine seq_val rfl rfl (R_ixSlice (sz:=1) rfl rfl rfl Try.underlying29 (by kernel_rfl) (by omega) (by omega)) (by simp only [ls,lz];exact rfl) ?_
 refine seq_val rfl rfl (R_load (v:=.int .i64 (xs[i])) rfl rfl Try.underlying3 rfl hci) (by simp only [ls,lz];exact rfl) ?_
 refine seq_val rfl rfl (R_assign (v:=.int .i64 _) rfl rfl) (by simp only [ls,lz];exact rfl) ?_
 refine wpList_nil ?_
 go_wp2
 go_ret
 exact ⟨_,rfl,List.getElem_mem hil,HL,e1⟩
theorem flat_get {α : Type} {row : α → List Value} {sz : Nat} (hr : ∀ x,(row x).length = sz) : ∀ (ys : List α) (i j : Nat) (x : List Value),(ys.map row)[i]? = some x → j < sz → (ys.map row).flatten[i * sz + j]? = x[j]?
 | [],i,j,x,hi,hj=>by simp at hi
 | y :: ys,i,j,x,hi,hj=>by
  simp only [List.map_cons,List.flatten_cons]
  cases i with
  | zero =>
   simp at hi;subst hi
   rw [List.getElem?_append_left (by rw [hr];omega)];simp
  | succ i =>
   rw [List.getElem?_append_right (by rw [hr,Nat.add_mul];omega),hr,show (i + 1) * sz + j - sz = i * sz + j by rw [Nat.add_mul];omega]
   exact flat_get hr ys i j x (by simpa using hi) hj
theorem flat_len {α : Type} {row : α → List Value} {sz : Nat} (hr : ∀ x,(row x).length = sz) : ∀ ys : List α,((ys.map row).flatten).length = ys.length * sz
 | []=>by simp
 | y :: ys=>by simp only [List.map_cons,List.flatten_cons,List.length_append,hr,flat_len hr ys,List.length_cons,Nat.add_mul];omega
theorem rows_of_flat {α : Type} {w : World} {b : Nat} {T : TypeId} {fz : Nat × Nat} {sz : Nat} {row : α → List Value} {xs : List α} {pad : List Value} (cap : Nat) (hr : ∀ x,(row x).length = sz) (h : w.heap[b]? = some (.cells ((xs.map row).flatten ++ pad).toArray T fz)) : IsRows w (.slice (some ⟨b,0,none⟩) xs.length cap) sz (xs.map row):=by
 refine ⟨some ⟨b,0,none⟩,cap,by simp,fun x hx=>?_,fun _=>⟨b,0,rfl,blk_lt h,fun i j x hi hj=>?_⟩⟩
 ·obtain ⟨y,-,rfl⟩:=List.mem_map.1 hx;exact hr y
 ·have hf:=flat_get hr xs i j x hi hj
  have hil : i < xs.length:=by have:=(List.getElem?_eq_some_iff.1 hi).1;simpa using this
  have hl : i * sz + j < ((xs.map row).flatten).length:=by
   rw [flat_len hr]
   calc i * sz + j < i * sz + sz:=by omega
    _ = (i + 1) * sz:=by rw [Nat.add_mul];omega
    _ ≤ xs.length * sz:=Nat.mul_le_mul_right _ hil
  rw [cells_of_block h,← hf,Nat.zero_add,List.getElem?_toArray,List.getElem?_append_left hl]
theorem rows_flat {α : Type} {w : World} {a : Option Addr} {n cap sz : Nat} {row : α → List Value} {xs : List α} (h0 : 0 < sz) (hr : ∀ x,(row x).length = sz) (h : IsRows w (.slice a n cap) sz (xs.map row)) : ∀ a0,a = some a0 → ∀ (j : Nat) (v : Value),((xs.map row).flatten)[j]? = some v → w.cell? (a0.add j) = some v:=by
 intro a0 ha j v hv
 have hj : j < xs.length * sz:=by rw [← flat_len hr];exact (List.getElem?_eq_some_iff.1 hv).1
 have hi : j / sz < xs.length:=Nat.div_lt_of_lt_mul (by rw [Nat.mul_comm];exact hj)
 have hjj : j / sz * sz + j % sz = j:=by rw [Nat.mul_comm];exact Nat.div_add_mod j sz
 obtain ⟨a',cap',hv',hl,hc⟩:=h
 cases hv'
 have hne : xs.map row ≠ []:=by
  intro e;have:=congrArg List.length e;simp at this;rw [this] at hi;simp at hi
 obtain ⟨b,off,hb,hlt,hcell⟩:=hc hne
 rw [hb] at ha;cases ha
 have hx : (xs.map row)[j / sz]? = some (row (xs[j / sz])):=by simp [hi]
 have h1:=flat_get hr xs (j / sz) (j % sz) _ hx (Nat.mod_lt _ h0)
 rw [hjj,hv] at h1
 have h2:=hcell (j / sz) (j % sz) _ hx (Nat.mod_lt _ h0)
 rw [Addr.add_lit,show off + j = off + j / sz * sz + j % sz by omega,h2,← h1]
section
variable {P : Program} {ops : Array Oper} {Q : Exit → Act → World → Prop} {md : Region.Mode} {S : World → Prop} {last : Nat}
theorem append_far {o : Oper} {l : List Value} {ds : List Deferred} {w : World} {s x : Operand} {t : TypeId}
  (ho : o.op = .call { callee:=.builtin .append,args:=#[s,x],argTypes:=#[t,t] })
  {e : TypeId} {size bytes : Nat} (ht : P.underlying t = some (.slice e)) (hin : (P.info? e).map (fun i=>(i.size,i.bytes,i.zero.map (·.cells.size))) = some (size,bytes,some size)) (hsz : 0 < size)
  {a : Option Addr} {n cap : Nat} {olds : List Value} (hs : (Act.mk l.toArray ds).eval s = .slice a n cap) (hold : cap = n ∧ olds.length = n * size ∧ (a = none → n = 0) ∧ ∀ a0,a = some a0 → ∀ (j : Nat) (v : Value),olds[j]? = some v → w.cell? (a0.add j) = some v)
  {g c : Nat} {T : TypeId} {fz : Nat × Nat} {news : List Value} (hx : (Act.mk l.toArray ds).eval x = .slice (some ⟨g,0,none⟩) 1 c) (hg : w.heap[g]? = some (.cells news.toArray T fz)) (hl : news.length = size)
  (hn : n ≤ 1000000) (hbytes : bytes ≤ 1000000) :
  ∃ cap' pad,n + 1 ≤ cap' ∧ (execOp (Act.eval ⟨l.toArray,ds⟩) o).run P w = .ok (.value (.slice (some ⟨w.drew.heap.size,0,none⟩) (n + 1) cap')) (w.drew.alloc (.cells (olds ++ news ++ pad).toArray e)):=by
 obtain ⟨rfl,hlo,hnone,holds⟩:=hold
 cases hq : P.info? e with
 | none=>simp [hq] at hin
 | some inf =>
  simp only [hq,Option.map_some,Option.some.injEq,Prod.mk.injEq,Option.map_eq_some_iff] at hin
  obtain ⟨hi1,hi2,z,hz,hz2⟩:=hin
  have hnews : ∀ j u,news[j]? = some u → w.cell? ((⟨g,0,none⟩ : Addr).add j) = some u:=fun j u hu=>by
   rw [Addr.add_lit,Nat.zero_add,cells_of_block hg];simpa using hu
  have key : ∃ cap' pad,cap + 1 ≤ cap' ∧ (Builtin.append_ #[t,t] o.type #[.slice a cap cap,.slice (some ⟨g,0,none⟩) 1 c]).run P w = .ok (.slice (some ⟨w.heap.size,0,none⟩) (cap + 1) cap') (w.drew.alloc (.cells (olds ++ news ++ pad).toArray e)):=by
   cases ha : a with
   | none =>
    have h0:=hnone ha
    subst h0
    have hol : olds = []:=List.eq_nil_of_length_eq_zero (by simpa using hlo)
    subst hol
    have hr:=run_append_nil (P:=P) w t o.type e inf z ht hq hz ⟨g,0,none⟩ 1 c news (by omega) hnews (by omega) (by omega) (by omega)
    refine ⟨_,(Builtin.zeroCells z.cells (grownCap w 1 0 e - 1)).toList,grownCap_ge w 1 0 e,?_⟩
    rw [hr]
    congr 3
    simp
   | some a0 =>
    have hr:=run_append_grow (P:=P) w t o.type e inf z ht hq hz a0 cap cap olds (by rw [hi1];exact hlo) (holds a0 ha) ⟨g,0,none⟩ 1 c news (by omega) hnews (by omega) (by omega)
     (growslice_fits (by omega) (by rw [hi2];exact Nat.le_trans (Nat.mul_le_mul (show cap + 1 ≤ 1000001 by omega) hbytes) (by decide)))
    refine ⟨_,(Builtin.zeroCells z.cells (grownCap w (cap + 1) cap e - (cap + 1))).toList,grownCap_ge w (cap + 1) cap e,?_⟩
    rw [hr]
    congr 3
    simp
  obtain ⟨cap',pad,h1,h2⟩:=key
  refine ⟨cap',pad,h1,?_⟩
  unfold execOp
  simp only [ho,resolve,invoke,builtin,Sem.run_bind,Sem.run_pure,Result.andThen_ok,List.map_toArray,List.map_cons,List.map_nil,hs,hx,h2]
  rfl
theorem anyU_append_far {i d : Nat} {o : Oper} {fuel : Nat} {listed : Array Bool} {l : List Value} {ds : List Deferred} {w : World} (hi : ops[i]? = some o) (hr : Region.ready md ops listed = [i])
  (hd : o.dst = some d) (hw : Region.wanted o (yielded ops l.toArray) = true) {s x : Operand} {t : TypeId}
  (ho : o.op = .call { callee:=.builtin .append,args:=#[s,x],argTypes:=#[t,t] })
  {e : TypeId} {size bytes : Nat} (ht : P.underlying t = some (.slice e)) (hin : (P.info? e).map (fun i=>(i.size,i.bytes,i.zero.map (·.cells.size))) = some (size,bytes,some size)) (hsz : 0 < size)
  {a : Option Addr} {n cap : Nat} {olds : List Value} (hs : (Act.mk l.toArray ds).eval s = .slice a n cap) (hold : cap = n ∧ olds.length = n * size ∧ (a = none → n = 0) ∧ ∀ a0,a = some a0 → ∀ (j : Nat) (v : Value),olds[j]? = some v → w.cell? (a0.add j) = some v)
  {g c : Nat} {T : TypeId} {fz : Nat × Nat} {news : List Value} (hx : (Act.mk l.toArray ds).eval x = .slice (some ⟨g,0,none⟩) 1 c) (hg : w.heap[g]? = some (.cells news.toArray T fz)) (hl : news.length = size)
  (hn : n ≤ 1000000) (hbytes : bytes ≤ 1000000)
  (h : ∀ cap' pad W2,n + 1 ≤ cap' → W2 = w.drew.alloc (.cells (olds ++ news ++ pad).toArray e) → ∃ l',l.set d (.slice (some ⟨w.drew.heap.size,0,none⟩) (n + 1) cap') = l' ∧ S W2 ∧ wpAnyU P md ops Q S last fuel (listed.setIfInBounds i true) ⟨l'.toArray,ds⟩ W2) : wpAnyU P md ops Q S last (fuel + 1) listed ⟨l.toArray,ds⟩ w:=by
 obtain ⟨cap',pad,h1,hrun⟩:=append_far (l:=l) (ds:=ds) (w:=w) ho ht hin hsz hs hold hx hg hl hn hbytes
 obtain ⟨l',hl',h3,h4⟩:=h cap' pad _ h1 rfl
 exact anyU_new hi hr hd hw hrun hl' fun W2 hW2=>by subst hW2;exact ⟨fun _=>h3,h4⟩
theorem R_slice3 {ρ : Operand → Value} {o : Oper} {w : World} {x y z : Operand} {t e : TypeId} {a : Option Addr} {len cap n m size : Nat} {k k' : IntKind} (ho : o.op = .slice t x none (some y) (some z)) (hx : ρ x = .slice a len cap) (hy : ρ y = .int k n) (hz : ρ z = .int k' m) (hu : P.underlying t = some (.slice e)) (hs : (P.info? e).map (·.size) = some size) (h1 : n ≤ m) (h2 : m ≤ cap) :
  (execOp ρ o).run P w = .ok (.value (.slice a n m)) w:=by
 cases hq : P.info? e with
 | none=>simp [hq] at hs
 | some j =>
  unfold execOp
  simp [ho,hx,hy,hz,Instr.sliceAt,Instr.slice,run_underlying hu,Instr.sliceBounds,Instr.sliceBound,asIntOf,sizeOf,typeInfo,hq,h1,h2,go_sem]
end
def addR (t : Tp) (r : Int × Int × Int × Int) : Tp:={ t with rd:=t.rd ++ [r] }
set_option maxRecDepth 100000 in
set_option maxHeartbeats 2000000 in
theorem read_any (t : Tp) (gv lv : Value) (ra : Option Addr) (rcap : Nat) (r : Int × Int × Int × Int) (w : World) (ht : IsTp w gv (.slice ra t.rd.length rcap) lv t) (hl2 : t.rd.length ≤ 1000) (hc : t.rd.length ≤ rcap) :
  Calls Try.prog 102 #[tpV t gv (.slice ra t.rd.length rcap) lv,.agg #[.int .i64 r.1,.int .i64 r.2.1,.int .i64 r.2.2.1,.int .i64 r.2.2.2]] w fun e w'=>∃ b cap,t.rd.length + 1 ≤ cap ∧ e = .returned (tpV (addR t r) gv (.slice (some ⟨b,0,none⟩) (addR t r).rd.length cap) lv) ∧ IsTp w' gv (.slice (some ⟨b,0,none⟩) (addR t r).rd.length cap) lv (addR t r) ∧ Ext [] w w':=by
 have hone:=tp_one ht
 have hrl : ∀ x,(rdRow x).length = 4:=fun _=>rfl
 have E : Ext [] w w:=Ext.refl _ _
 have HH : Hid (∀ W : World,Ext [] w W → t.rd.length = t.rd.length ∧ ((t.rd.map rdRow).flatten).length = t.rd.length * 4 ∧ (ra = none → t.rd.length = 0) ∧ ∀ a0,ra = some a0 → ∀ (j : Nat) (v : Value),((t.rd.map rdRow).flatten)[j]? = some v → W.cell? (a0.add j) = some v):=fun W e =>
  ⟨rfl,flat_len hrl _,(fun hn=>by
   by_cases hne : t.rd.map rdRow = []
   ·simpa using hne
   ·obtain ⟨b,off,h1,-⟩:=ht.rd.range rfl hne
    rw [hn] at h1;cases h1),rows_flat (by decide) hrl (ht.rd.ext e (by simp))⟩
 have Ht:=Lib.hid ht;clear ht
 unfold tpV
 go_enter Try.func102,Try.ntmps102
 go_upto_region 0 with (fail)
 refine wp_region_lit ?_
 refine seq_new rfl rfl (R_box (v:=.agg _) rfl rfl) (by simp only [ls,lz];exact rfl) fun w1 hw=>?_
 obtain ⟨n2,hn⟩ : ∃ n,n = w.heap.size:=⟨_,rfl⟩
 rw [← hn]
 have l2 : w.heap.size ≤ n2:=by rw [hn];exact E.size
 have q2:=new_row hw hn
 replace E:=ext_alloc E hw
 clear hw hn
 refine seq_new rfl rfl (R_box (v:=.agg _) rfl rfl) (by simp only [ls,lz];exact rfl) fun w2 hw=>?_
 obtain ⟨n3,hn⟩ : ∃ n,n = w1.heap.size:=⟨_,rfl⟩
 rw [← hn]
 have l3 : w.heap.size ≤ n3:=by rw [hn];exact E.size
 have m3_2 : n2 < n3:=by rw [hn];exact blk_lt q2
 replace q2:=keep_alloc hw q2
 have q3:=new_row hw hn
 replace E:=ext_alloc E hw
 clear hw hn
 refine seq_new rfl rfl (R_alloc rfl Try.zeroValue28) (by simp only [ls,lz];exact rfl) fun w3 hw=>?_
 obtain ⟨n4,hn⟩ : ∃ n,n = w2.heap.size:=⟨_,rfl⟩
 rw [← hn]
 have l4 : w.heap.size ≤ n4:=by rw [hn];exact E.size
 have m4_2 : n2 < n4:=by rw [hn];exact blk_lt q2
 have m4_3 : n3 < n4:=by rw [hn];exact blk_lt q3
 replace q2:=keep_alloc hw q2
 replace q3:=keep_alloc hw q3
 have q4:=new_row hw hn
 replace E:=ext_alloc E hw
 clear hw hn
 refine wpList_nil ?_
 go_upto_region 1 with (fail)
 refine region_until (Ext [] w3) 13 follows fun w4 hh eS=>?_
 have q2_:=q2
 have q3_:=q3
 have q4_:=q4
 replace q2:=keep_same hh q2
 replace q3:=keep_same hh q3
 replace q4:=keep_same hh q4
 replace E:=ext_same E eS
 refine anyU_take (i:=0) (last:=13) rfl rfl (by decide) (by kernel_rfl) (by kernel_rfl) (by kernel_rfl) (by kernel_rfl) (by kernel_rfl) (fun _ _ _ h=>h) rfl rfl (fun w' hS=>R_field rfl rfl Try.underlying28 rfl (n:=9) (sz:=1) rfl (by kernel_rfl) (by decide)) eS (by simp only [ls,lz];exact rfl) ?_
 refine anyU_take (i:=1) (last:=13) rfl rfl (by decide) (by kernel_rfl) (by kernel_rfl) (by kernel_rfl) (by kernel_rfl) (by kernel_rfl) (fun _ _ _ h=>h) rfl rfl (fun w' hS=>R_load rfl rfl Try.underlying25 rfl ((cells_of_block (hS.keep q2_ (by simp)) 9).trans (getS (getS (getS (getS (getS (getS (getS (getS (getS (get0)))))))))))) eS (by simp only [ls,lz];exact rfl) ?_
 refine anyU_take (i:=2) (last:=13) rfl rfl (by decide) (by kernel_rfl) (by kernel_rfl) (by kernel_rfl) (by kernel_rfl) (by kernel_rfl) (fun _ _ _ h=>h) rfl rfl (fun w' hS=>R_field rfl rfl Try.underlying28 rfl (n:=9) (sz:=1) rfl (by kernel_rfl) (by decide)) eS (by simp only [ls,lz];exact rfl) ?_
 refine anyU_take (i:=3) (last:=13) rfl rfl (by decide) (by kernel_rfl) (by kernel_rfl) (by kernel_rfl) (by kernel_rfl) (by kernel_rfl) (fun _ _ _ h=>h) rfl rfl (fun w' hS=>R_load rfl rfl Try.underlying25 rfl ((cells_of_block (hS.keep q2_ (by simp)) 9).trans (getS (getS (getS (getS (getS (getS (getS (getS (getS (get0)))))))))))) eS (by simp only [ls,lz];exact rfl) ?_
 refine anyU_take (i:=4) (last:=13) rfl rfl (by decide) (by kernel_rfl) (by kernel_rfl) (by kernel_rfl) (by kernel_rfl) (by kernel_rfl) (fun _ _ _ h=>h) rfl rfl (fun w' hS=>R_len rfl rfl rfl Try.underlying25) eS (by simp only [ls,lz];exact rfl) ?_
 refine anyU_take (i:=5) (last:=13) rfl rfl (by decide) (by kernel_rfl) (by kernel_rfl) (by kernel_rfl) (by kernel_rfl) (by kernel_rfl) (fun _ _ _ h=>h) rfl rfl (fun w' hS=>R_field rfl rfl Try.underlying28 rfl (n:=9) (sz:=1) rfl (by kernel_rfl) (by decide)) eS (by simp only [ls,lz];exact rfl) ?_
 refine anyU_take (i:=6) (last:=13) rfl rfl (by decide) (by kernel_rfl) (by kernel_rfl) (by kernel_rfl) (by kernel_rfl) (by kernel_rfl) (fun _ _ _ h=>h) rfl rfl (fun w' hS=>R_load rfl rfl Try.underlying25 rfl ((cells_of_block (hS.keep q2_ (by simp)) 9).trans (getS (getS (getS (getS (getS (getS (getS (getS (getS (get0)))))))))))) eS (by simp only [ls,lz];exact rfl) ?_
 refine anyU_take (i:=7) (last:=13) rfl rfl (by decide) (by kernel_rfl) (by kernel_rfl) (by kernel_rfl) (by kernel_rfl) (by kernel_rfl) (fun _ _ _ h=>h) rfl rfl (fun w' hS=>R_len rfl rfl rfl Try.underlying25) eS (by simp only [ls,lz];exact rfl) ?_
 refine anyU_take (i:=8) (last:=13) rfl rfl (by decide) (by kernel_rfl) (by kernel_rfl) (by kernel_rfl) (by kernel_rfl) (by kernel_rfl) (fun _ _ _ h=>h) rfl rfl (fun w' hS=>R_slice3 rfl rfl rfl rfl Try.underlying25 (size:=4) (by kernel_rfl) (Nat.le_refl _) hc) eS (by simp only [ls,lz];exact rfl) ?_
 refine anyU_take (i:=9) (last:=13) rfl rfl (by decide) (by kernel_rfl) (by kernel_rfl) (by kernel_rfl) (by kernel_rfl) (by kernel_rfl) (fun _ _ _ h=>h) rfl rfl (fun w' hS=>R_loadBlk rfl rfl Try.underlying66 rfl (by kernel_rfl) (hS.keep q3_ (by simp))) eS (by simp only [ls,lz];exact rfl) ?_
 refine anyU_new (i:=10) rfl (by kernel_rfl) rfl rfl (R_buildSlice rfl Try.underlying25 (size:=4) (by kernel_rfl) (by decide) (by decide) Try.zeroValue66 (cells:=#[.int .i64 r.1,.int .i64 r.2.1,.int .i64 r.2.2.1,.int .i64 r.2.2.2]) (by kernel_rfl)) (by simp only [ls,lz];exact rfl) fun w5 hw=>?_
 replace eS:=ext_alloc eS hw
 obtain ⟨n15,hn⟩ : ∃ n,n = w4.heap.size:=⟨_,rfl⟩
 rw [← hn]
 have l15 : w.heap.size ≤ n15:=by rw [hn];exact E.size
 have m15_2 : n2 < n15:=by rw [hn];exact blk_lt q2
 have m15_3 : n3 < n15:=by rw [hn];exact blk_lt q3
 have m15_4 : n4 < n15:=by rw [hn];exact blk_lt q4
 replace q2:=keep_alloc hw q2
 replace q3:=keep_alloc hw q3
 replace q4:=keep_alloc hw q4
 have q15:=new_block hw hn
 replace E:=ext_alloc E hw
 clear hw hn
 refine ⟨fun _=>eS,?_⟩
 refine anyU_append_far (i:=11) rfl (by kernel_rfl) rfl rfl rfl (e:=66) (size:=4) (bytes:=32) Try.underlying25 (by kernel_rfl) (by decide) rfl (HH.out _ E) rfl q15 rfl (by omega) (by omega) fun cap16 pad16 w6 hcap16 hw=>?_
 replace eS:=ext_alloc eS.drew hw
 replace E:=E.drew
 replace q2:=blk_drew q2
 replace q3:=blk_drew q3
 replace q4:=blk_drew q4
 replace q15:=blk_drew q15
 have hsz : w5.drew.heap.size = w5.heap.size:=rfl
 obtain ⟨n16,hn⟩ : ∃ n,n = w5.drew.heap.size:=⟨_,rfl⟩
 rw [← hn]
 have l16 : w.heap.size ≤ n16:=by rw [hn];exact E.size
 have m16_2 : n2 < n16:=by rw [hn];exact blk_lt q2
 have m16_3 : n3 < n16:=by rw [hn];exact blk_lt q3
 have m16_4 : n4 < n16:=by rw [hn];exact blk_lt q4
 have m16_15 : n15 < n16:=by rw [hn];exact blk_lt q15
 replace q2:=keep_alloc hw q2
 replace q3:=keep_alloc hw q3
 replace q4:=keep_alloc hw q4
 replace q15:=keep_alloc hw q15
 have q16:=new_block hw hn
 replace E:=ext_alloc E hw
 clear hw hn
 clear hsz
 refine ⟨_,(by simp only [ls,lz];exact rfl),eS,?_⟩
 refine anyU_take (i:=12) (last:=13) rfl rfl (by decide) (by kernel_rfl) (by kernel_rfl) (by kernel_rfl) (by kernel_rfl) (by kernel_rfl) (fun _ _ _ h=>h) rfl rfl (fun w' hS=>R_field rfl rfl Try.underlying28 rfl (n:=9) (sz:=1) rfl (by kernel_rfl) (by decide)) eS (by simp only [ls,lz];exact rfl) ?_
 refine anyU_last (o:=_) rfl (by kernel_rfl) rfl rfl (R_store (v:=.slice _ _ _) rfl rfl rfl rfl (by kernel_rfl) ((cells_of_block q2 9).trans (getS (getS (getS (getS (getS (getS (getS (getS (getS (get0))))))))))) (free_of_block q2 9)) (by kernel_rfl) fun w7 hw=>?_
 replace q2:=put_cell hw q2 (by simp only [List.setIfInBounds_toArray,ls,lz];exact rfl)
 replace q3:=keep_cell hw q3 (by omega)
 replace q4:=keep_cell hw q4 (by omega)
 replace q15:=keep_cell hw q15 (by omega)
 replace q16:=keep_cell hw q16 (by omega)
 replace E:=ext_cell E hw (fun h=>by first | exact absurd h (by omega) | simp)
 clear hw
 refine anyU_done (by kernel_rfl) ?_ _
 clear q2_ q3_ q4_ hh eS
 go_upto_region 2 with (fail)
 refine wp_region_lit ?_
 refine seq_val rfl rfl (R_loadBlk rfl rfl Try.underlying28 rfl (by kernel_rfl) q2) (by simp only [ls,lz];exact rfl) ?_
 refine seq_to rfl rfl (R_storeRow rfl rfl rfl (by kernel_rfl) (by simp [hone.1,hone.2.2,show ∀ k n,(Value.int k n).oneCell' = true from fun _ _=>rfl,show ∀ a n c,(Value.slice a n c).oneCell' = true from fun _ _ _=>rfl]) q4 rfl) fun w8 hw=>?_
 replace q2:=keep_cells hw q2 (by omega)
 replace q3:=keep_cells hw q3 (by omega)
 replace q4:=put_row hw q4 rfl
 replace q15:=keep_cells hw q15 (by omega)
 replace q16:=keep_cells hw q16 (by omega)
 replace E:=ext_cells E hw (fun h=>by first | exact absurd h (by omega) | simp)
 clear hw
 refine wpList_nil ?_
 go_wp2
 have hflat : (t.rd.map rdRow).flatten ++ [.int .i64 r.1,.int .i64 r.2.1,.int .i64 r.2.2.1,.int .i64 r.2.2.2] ++ pad16 = ((addR t r).rd.map rdRow).flatten ++ pad16:=by simp [addR,rdRow]
 rw [hflat] at q16
 have hl : (addR t r).rd.length = t.rd.length + 1:=by simp [addR]
 refine bodyPost_ret (res_cell rfl rfl Try.underlying28 rfl (by kernel_rfl) q4) rfl ⟨n16,cap16,hcap16,?_,⟨Ht.out.gr.ext E (by simp),rows_of_flat cap16 hrl q16,Ht.out.lk.ext E (by simp)⟩,E⟩
 rw [hl]
 rfl
theorem numbers_any (lo hi : Int) (w : World) (h1 : -4000000000000000000 ≤ lo) (h2 : lo ≤ 4000000000000000000) (h3 : -4000000000000000000 ≤ hi) (h4 : hi ≤ 4000000000000000000) :
  Calls Try.prog 100 #[.agg #[.int .i64 lo,.int .i64 hi]] w fun e w'=>e = .returned (.int .i64 (hi - lo + 1)) ∧ Ext [] w w':=by
 have E : Ext [] w w:=Ext.refl _ _
 go_enter Try.func100,Try.ntmps100
 go_upto_region 0 with (fail)
 refine wp_region_lit ?_
 refine seq_new rfl rfl (R_box (v:=.agg _) rfl rfl) (by simp only [ls,lz];exact rfl) fun w1 hw=>?_
 obtain ⟨n1,hn⟩ : ∃ n,n = w.heap.size:=⟨_,rfl⟩
 rw [← hn]
 have l1 : w.heap.size ≤ n1:=by rw [hn];exact E.size
 have q1:=new_row hw hn
 replace E:=ext_alloc E hw
 clear hw hn
 refine seq_val rfl rfl (R_assign (v:=.int .i64 _) rfl rfl) (by simp only [ls,lz];exact rfl) ?_
 refine wpList_nil ?_
 go_upto_region 1 with (fail)
 refine wp_region_lit ?_
 refine seq_val rfl rfl (R_field rfl rfl Try.underlying23 rfl (n:=1) (sz:=1) rfl (by kernel_rfl) (by decide)) (by simp only [ls,lz];exact rfl) ?_
 refine seq_val rfl rfl (R_load rfl rfl Try.underlying3 rfl ((cells_of_block q1 1).trans (getS (get0)))) (by simp only [ls,lz];exact rfl) ?_
 refine seq_val rfl rfl (R_field rfl rfl Try.underlying23 rfl (n:=0) (sz:=1) rfl (by kernel_rfl) (by decide)) (by simp only [ls,lz];exact rfl) ?_
 refine seq_val rfl rfl (R_load rfl rfl Try.underlying3 rfl ((cells_of_block q1 0).trans (get0))) (by simp only [ls,lz];exact rfl) ?_
 refine seq_val rfl rfl (R_sub rfl rfl rfl (by omega) (by omega)) (by simp only [ls,lz];exact rfl) ?_
 refine seq_val rfl rfl (R_add rfl rfl rfl (by omega) (by omega)) (by simp only [ls,lz];exact rfl) ?_
 refine seq_val rfl rfl (R_assign (v:=.int .i64 _) rfl rfl) (by simp only [ls,lz];exact rfl) ?_
 refine wpList_nil ?_
 go_wp2
 go_ret
 exact ⟨rfl,E⟩
def growL (many : Nat) : Nat → Nat → Nat → List Nat
 | 0,s,_=>[s]
 | more + 1,s,from_=>(List.range (many - more - from_)).flatMap fun k=>growL many more (s ||| 2 ^ (from_ + k)) (from_ + k + 1)
def setsL (many : Nat) : List Nat:=(List.range (many + 1)).flatMap fun size=>growL many size 0 0
theorem flat_succ {α : Type} (f : Nat → List α) (k : Nat) : (List.range (k + 1)).flatMap f = (List.range k).flatMap f ++ f k:=by
 rw [List.range_succ,List.flatMap_append];simp
theorem flat_prefix {α : Type} (f : Nat → List α) {k n : Nat} (h : k ≤ n) : (List.range k).flatMap f <+: (List.range n).flatMap f:=by
 obtain ⟨d,rfl⟩:=Nat.exists_eq_add_of_le h
 induction d with
 | zero=>exact List.prefix_refl _
 | succ d ih=>exact (ih (by omega)).trans ⟨f (k + d),by rw [← flat_succ];rfl⟩
structure KeepC (X : List Nat) (w w' : World) : Prop where
 os : w'.os = w.os
 tape : w'.tape = w.tape
 output : w'.output = w.output
 size : w.heap.size ≤ w'.heap.size
 block : ∀ (k : Nat) (o : Obj),w.heap[k]? = some o → o.isCells = true → k ∉ X → w'.heap[k]? = some o
theorem KeepC.refl (X : List Nat) (w : World) : KeepC X w w:=⟨rfl,rfl,rfl,Nat.le_refl _,fun _ _ h _ _=>h⟩
theorem KeepC.trans {X : List Nat} {a b c : World} (h : KeepC X a b) (k : KeepC X b c) : KeepC X a c:=
 ⟨k.os.trans h.os,k.tape.trans h.tape,k.output.trans h.output,Nat.le_trans h.size k.size,fun i o hi hc hx=>k.block i o (h.block i o hi hc hx) hc hx⟩
theorem KeepC.of_ext {X : List Nat} {a b : World} (h : Ext X a b) : KeepC X a b:=
 ⟨h.os,h.tape,h.output,h.size,fun i o hi _ hx=>h.keep hi hx⟩
theorem KeepC.put {X : List Nat} (W : World) (l : Nat) (o o' : Obj) (hl : W.heap[l]? = some o) (hc : o.isCells = false) : KeepC X W (W.putObj l o'):=by
 refine ⟨rfl,rfl,rfl,by simp [World.putObj],fun k x hk hx _=>?_⟩
 have : k ≠ l:=fun e=>by subst e;rw [hl] at hk;cases hk;rw [hc] at hx;cases hx
 rw [World.putObj_heap_other this];exact hk
theorem KeepC.cells {X : List Nat} {a b : World} (h : KeepC X a b) {k : Nat} {cs : Array Value} {T : TypeId} {fz : Nat × Nat} (H : a.heap[k]? = some (.cells cs T fz)) (hx : k ∉ X) : b.heap[k]? = some (.cells cs T fz):=h.block k _ H rfl hx
theorem KeepC.mono {X Y : List Nat} {a b : World} (h : KeepC X a b) (hs : ∀ i ∈ X,i ∈ Y) : KeepC Y a b:=⟨h.os,h.tape,h.output,h.size,fun i o hi hc hx=>h.block i o hi hc (fun hm=>hx (hs i hm))⟩
theorem or_lt16 {s n : Nat} (hs : s < 65536) (hn : n < 16) : s ||| 2 ^ n < 65536:=
 Nat.or_lt_two_pow (n:=16) hs (Nat.pow_lt_pow_right (by decide) hn)
end Go.Proofs.Ytholfdgebdlgjaa
namespace Go.Proofs.Ytholfdgebdlgjaa
open Go.RowKit Go.Shelf
attribute [local go_sem] Oper.semAt_some
theorem room_none {F : Fence} (hd : F.depth = none) (k : Nat) : F.room k:=fun d h=>by rw [hd] at h;cases h
theorem round_any {F : Fence} (hd : F.depth = none) {m m' : Nat} {P : Program} {l : Nat} {f : FuncId} {tmps : Array Value} {assign body : Code} {w : World} {R : Ending → World → Prop}
  (h : RoundIn F m P l f tmps assign body w R) : RoundIn F m' P l f tmps assign body w R:=⟨h.1,fun c cs _=>h.2 c cs (room_none hd _)⟩
theorem yield_any {F : Fence} (hd : F.depth = none) {m : Nat} (m' : Nat) {P : Program} {l : Nat} {args : Array Value} {W : World} {R : Ending → World → Prop} (h : YieldAt F m P l args W R) : YieldAt F m' P l args W R:=by
 obtain ⟨fn,tmps,assign,body,hy,hR⟩:=h
 exact ⟨fn,tmps,assign,body,hy,round_any hd hR⟩
set_option maxRecDepth 100000 in
set_option maxHeartbeats 4000000 in
theorem grow_in (l yb mb gb many N : Nat) (hm : many ≤ 15) (X : List Nat) (hy : yb ∉ X) (hb : mb ∉ X) (hgb : gb ∉ X) (J Jx : List Nat → World → Prop)
  (hJd : ∀ pre W W',J pre W → W'.heap = W.heap → W'.os = W.os → W'.tape = W.tape → W'.output = W.output → J pre W')
  (hY : ∀ m pre (x : Nat) W,J pre W → pre.length < N → x < 65536 → YieldAt Fence.wide m Try.prog l #[.int .u16 x] W fun e W' =>
   (e = .returned (.bool true) ∧ J (pre ++ [x]) W' ∧ KeepC X W W') ∨ (e = .returned (.bool false) ∧ Jx (pre ++ [x]) W')) :
  ∀ (more n s from_ : Nat) (pre : List Nat) (W : World),s < 65536 → from_ ≤ 16 → more ≤ many + 1 → J pre W → pre.length + (growL many more s from_).length ≤ N →
   W.heap[yb]? = some (.cells #[.func (.yield l) #[] #[]] 140 (0,0)) → W.heap[mb]? = some (.cells #[.int .i64 many] 3 (0,0)) →
   W.heap[gb]? = some (.cells #[.func (.func 139) #[] #[.pointer (some ⟨yb,0,none⟩),.pointer (some ⟨mb,0,none⟩),.pointer (some ⟨gb,0,none⟩)]] 170 (0,0)) →
   CallsIn Fence.wide n Try.prog 139 #[.int .u16 s,.int .i64 from_,.int .i64 more,.pointer (some ⟨yb,0,none⟩),.pointer (some ⟨mb,0,none⟩),.pointer (some ⟨gb,0,none⟩)] W fun e W' =>
    (e = .returned (.bool true) ∧ J (pre ++ growL many more s from_) W' ∧ KeepC X W W') ∨ (e = .returned (.bool false) ∧ ∃ q,q <+: growL many more s from_ ∧ Jx (pre ++ q) W'):=by
 have hdd : ∀ k : Nat,(Fence.wide.depth.isSome = true → 1 ≤ k):=fun k h=>by cases h
 intro more
 induction more with
 | zero =>
  intro n s from_ pre W hs hf hmo hJ hN hyb hmb hgbl
  obtain ⟨fn,tmps,assign,body,hyy,hR⟩:=hY (n - 1) pre s W hJ (by simp [growL] at hN;omega) hs
  have cy:=(cells_of_block hyb 0).trans get0
  refine callsIn_of_wp Try.func139 rfl trivial ?_ rfl
  simp only [Try.ntmps139,List.size_toArray,List.length_cons,List.length_nil,Nat.reduceAdd,Nat.reduceSub,Array.replicate_succ,Array.replicate_zero,List.push_toArray,List.append_toArray,List.nil_append,List.cons_append]
  gi_wp2_with ((try refine ⟨hdd _,?_⟩);refine hR.mono ?_;clear hR;rintro e W2 (⟨rfl,hJ2,hk2⟩ | ⟨rfl,hx2⟩))
  ·go_ret
   exact .inl ⟨rfl,hJ2,hk2⟩
  ·go_ret
   exact .inr ⟨rfl,[s],List.prefix_refl _,hx2⟩
 | succ more ih =>
  intro n s from_ pre W hs hf hmo hJ hN hyb hmb hgbl
  have cb:=(cells_of_block hmb 0).trans get0
  have ih' : ∀ (s from_ : Nat) (si fi mi : Int) (pre : List Nat) (W : World),si = s → fi = from_ → mi = more → s < 65536 → from_ ≤ 16 → J pre W → pre.length + (growL many more s from_).length ≤ N →
    W.heap[yb]? = some (.cells #[.func (.yield l) #[] #[]] 140 (0,0)) → W.heap[mb]? = some (.cells #[.int .i64 many] 3 (0,0)) →
    W.heap[gb]? = some (.cells #[.func (.func 139) #[] #[.pointer (some ⟨yb,0,none⟩),.pointer (some ⟨mb,0,none⟩),.pointer (some ⟨gb,0,none⟩)]] 170 (0,0)) →
    Calls Try.prog 139 #[.int .u16 si,.int .i64 fi,.int .i64 mi,.pointer (some ⟨yb,0,none⟩),.pointer (some ⟨mb,0,none⟩),.pointer (some ⟨gb,0,none⟩)] W fun e W'=>∃ b : Bool,e = .returned (.bool b) ∧
     ((b = true ∧ J (pre ++ growL many more s from_) W' ∧ KeepC X W W') ∨ (b = false ∧ ∃ q,q <+: growL many more s from_ ∧ Jx (pre ++ q) W')):=fun s from_ si fi mi pre W g1 g2 g3 h1 h2 h3 h4 h5 h6 h7=>by
   subst g1 g2 g3
   exact (callsIn_wide.1 (ih n s from_ pre W h1 h2 (by omega) h3 h4 h5 h6 h7)).mono fun e W' h=>by
    rcases h with ⟨rfl,h⟩ | ⟨rfl,h⟩
    ·exact ⟨true,rfl,.inl ⟨rfl,h⟩⟩
    ·exact ⟨false,rfl,.inr ⟨rfl,h⟩⟩
  have IH:=Lib.hid ih';clear ih ih'
  have HJd:=Lib.hid hJd;clear hJd
  clear hY
  refine callsIn_wide.2 ?_
  go_enter Try.func139,Try.ntmps139
  go_wp2_with fail
  go_loopw [10] (fun p wr=>∃ k : Nat,k ≤ many - more - from_ ∧ p = .int .i64 ((from_ + k : Nat) : Int) ∧ J (pre ++ (List.range k).flatMap fun k=>growL many more (s ||| 2 ^ (from_ + k)) (from_ + k + 1)) wr ∧ KeepC X W wr ∧
   wr.heap[yb]? = some (.cells #[.func (.yield l) #[] #[]] 140 (0,0)) ∧ wr.heap[mb]? = some (.cells #[.int .i64 many] 3 (0,0)) ∧
   wr.heap[gb]? = some (.cells #[.func (.func 139) #[] #[.pointer (some ⟨yb,0,none⟩),.pointer (some ⟨mb,0,none⟩),.pointer (some ⟨gb,0,none⟩)]] 170 (0,0))) (fun p _=>many + 1 - (intOf p).toNat)
  case atStart=>exact ⟨0,Nat.zero_le _,rfl,by simpa using hJ,KeepC.refl _ _,hyb,hmb,hgbl⟩
  case round =>
   clear cb hyb hmb hgbl hJ
   obtain ⟨k,hk,rfl,hJk,hkc,hyb,hmb,hgbl⟩:=hrel
   have cb:=(cells_of_block hmb 0).trans get0
   by_cases hlt : k < many - more - from_
   ·have hi : ((from_ + k : Nat) : Int) ≤ (many : Int) - ((more + 1 : Nat) : Int):=by omega
    have hll : (pre ++ (List.range k).flatMap fun k=>growL many more (s ||| 2 ^ (from_ + k)) (from_ + k + 1)).length + (growL many more (s ||| 2 ^ (from_ + k)) (from_ + k + 1)).length ≤ N:=by
     have:=(flat_prefix (fun k=>growL many more (s ||| 2 ^ (from_ + k)) (from_ + k + 1)) (k:=k + 1) (n:=many - more - from_) (by omega)).length_le
     rw [flat_succ,List.length_append] at this
     rw [List.length_append]
     simp only [growL] at hN
     omega
    have E : Ext [] wr wr:=Ext.refl _ _
    go_upto_region 6 with (fail)
    refine wp_region_st 8 follows (by kernel_rfl) fun w1 hw1 ew1=>?_
    replace hyb:=keep_same hw1 hyb
    replace hmb:=keep_same hw1 hmb
    replace hgbl:=keep_same hw1 hgbl
    replace E:=ext_same E ew1
    replace hJk:=HJd.out _ _ _ hJk hw1 ew1.os ew1.tape ew1.output
    replace hkc:=hkc.trans (KeepC.of_ext (ew1.mono (by simp)))
    refine still_val rfl rfl (R_load rfl rfl Try.underlying170 rfl ((cells_of_block hgbl 0).trans (get0))) (by simp only [ls,lz];exact rfl) ?_
    refine still_val rfl rfl (R_move (v:=.int .u16 _) rfl rfl) (by simp only [ls,lz];exact rfl) ?_
    refine still_val rfl rfl (R_move (v:=.int .i64 _) rfl rfl) (by simp only [ls,lz];exact rfl) ?_
    refine still_call rfl rfl (by kernel_rfl) (with_any (s : Int) ((from_ + k : Nat) : Int) _ (by omega) (by omega) (by omega) (by omega)) (by simp only [ls,lz];exact rfl) ?_
    refine still_val rfl rfl (R_move (v:=.int .i64 _) rfl rfl) (by simp only [ls,lz];exact rfl) ?_
    refine still_val rfl rfl (R_add rfl rfl rfl (by omega) (by omega)) (by simp only [ls,lz];exact rfl) ?_
    refine still_val rfl rfl (R_move (v:=.int .i64 _) rfl rfl) (by simp only [ls,lz];exact rfl) ?_
    refine still_val rfl rfl (R_sub rfl rfl rfl (by omega) (by omega)) (by simp only [ls,lz];exact rfl) ?_
    refine wpStill_nil ?_
    refine seq_call rfl rfl (by kernel_rfl) (IH.out (s ||| 2 ^ (from_ + k)) (from_ + k + 1) ((((s : Int).toNat ||| 2 ^ (((from_ + k : Nat) : Int)).toNat : Nat) : Int)) (((from_ + k : Nat) : Int) + 1) (((more + 1 : Nat) : Int) - 1) _ _ (by rw [Int.toNat_natCast,Int.toNat_natCast]) (by omega) (by omega) (or_lt16 hs (by omega)) (by omega) hJk hll hyb hmb hgbl) fun e w9 hR=>?_
    obtain ⟨b,rfl,hres⟩:=hR
    refine ⟨_,_,rfl,(by simp only [ls,lz];exact rfl),?_⟩
    refine seq_val rfl rfl (R_not rfl rfl) (by simp only [ls,lz];exact rfl) ?_
    refine wpList_nil ?_
    rcases hres with ⟨rfl,hJ2,hk2⟩ | ⟨rfl,q,hq,hx⟩
    ·have hyb2:=hk2.cells hyb hy
     have hmb2:=hk2.cells hmb hb
     have hgb2:=hk2.cells hgbl hgb
     have hkk:=hkc.trans hk2
     have H1 : Hid (J (pre ++ (List.range (k + 1)).flatMap fun k=>growL many more (s ||| 2 ^ (from_ + k)) (from_ + k + 1)) w9):=by
      show J _ _
      rw [flat_succ,← List.append_assoc];exact hJ2
     clear hyb hmb hgbl cb
     go_wp2
     go_roundw
     case rel=>exact ⟨k + 1,by omega,by go_num,H1.out,hkk,hyb2,hmb2,hgb2⟩
     case measure=>simp [intOf];omega
    ·go_wp2
     go_ret
     refine .inr ⟨rfl,_,?_,by rw [← List.append_assoc];exact hx⟩
     simp only [growL]
     refine List.IsPrefix.trans ?_ (flat_prefix _ (k:=k + 1) (by omega))
     rw [flat_succ]
     exact (List.prefix_append_right_inj _).2 hq
   ·have hk' : k = many - more - from_:=by omega
    have hi : ¬ ((from_ + k : Nat) : Int) ≤ (many : Int) - ((more + 1 : Nat) : Int):=by omega
    have H1 : Hid (J (pre ++ growL many (more + 1) s from_) wr):=by
     show J _ _
     simp only [growL];rw [← hk'];exact hJk
    go_wp2
    go_ret
    exact .inl ⟨rfl,H1.out,hkc⟩
attribute [local go_sem] Oper.semAt_some
abbrev SetN:={ x : Nat // x < 65536 }
theorem grown_of_ext {W W' : World} (h : Ext [] W W') : W.grownBy W' none:=⟨h.os,h.tape,h.output,h.size,fun k hk _=>h.block k hk (by simp)⟩
set_option maxRecDepth 100000 in
set_option maxHeartbeats 4000000 in
theorem sets1_stops (n many mb : Nat) (hm : many ≤ 15) (X : List Nat) (w : World) (hb : mb ∉ X) (hX : ∀ b ∈ X,b < w.heap.size) (hmb : w.heap[mb]? = some (.cells #[.int .i64 many] 3 (0,0))) :
  SeqStopsK Fence.wide n Try.prog 138 #[.pointer (some ⟨mb,0,none⟩)] (fun x : SetN=>#[Value.int .u16 x.1]) (KeepC X) (fun ys=>ys.map (·.1) = setsL many) (fun pre=>pre.map (·.1) <+: setsL many) (setsL many).length w:=by
 intro l J Jx W0 hW hJ hJx hY h0
 have hmb0 : W0.heap[mb]? = some (.cells #[.int .i64 many] 3 (0,0)):=blk_below hW hmb (blk_lt hmb)
 have hX0 : ∀ b ∈ X,b < W0.heap.size:=fun b hbx=>Nat.lt_of_lt_of_le (hX b hbx) hW.size
 have HG:=Lib.hid (fun (yb gb : Nat) (h1 : yb ∉ X) (h2 : gb ∉ X)=>grow_in l yb mb gb many (setsL many).length hm X h1 hb h2 (fun pre W=>∃ p : List SetN,p.map (·.1) = pre ∧ J p W) (fun pre W=>∃ p : List SetN,p.map (·.1) = pre ∧ Jx p W)
  (fun pre W W' h e1 e2 e3 e4=>by
   obtain ⟨p,hp,hj⟩:=h
   exact ⟨p,hp,hJ p W W' none hj ⟨e2,e3,e4,by rw [e1];exact Nat.le_refl _,fun k _ _=>by rw [e1]⟩ (by simp)⟩)
  (fun m pre x W h hl hx=>by
   obtain ⟨p,hp,hj⟩:=h
   have hl' : p.length < (setsL many).length:=by rw [← hp,List.length_map] at hl;exact hl
   refine YieldAt.mono (yield_any rfl m (hY p ⟨x,hx⟩ W hj hl')) fun e W' hr=>?_
   rcases hr with ⟨he,hj2,hk⟩ | ⟨he,hj2⟩
   ·exact .inl ⟨he,⟨_,by rw [List.map_append,hp];rfl,hj2⟩,hk⟩
   ·exact .inr ⟨he,⟨_,by rw [List.map_append,hp];rfl,hj2⟩⟩))
 have HJ:=Lib.hid hJ
 clear hY hJ hJx
 refine callsIn_wide.2 ?_
 show Calls _ _ #[.func (.yield l) #[] #[],.pointer (some ⟨mb,0,none⟩)] _ _
 have E : Ext [] W0 W0:=Ext.refl _ _
 go_enter Try.func138,Try.ntmps138
 go_upto_region 0 with (fail)
 refine wp_region_lit ?_
 refine seq_new rfl rfl (R_box (v:=.func _ _ _) rfl rfl) (by simp only [ls,lz];exact rfl) fun w1 hw=>?_
 obtain ⟨n2,hn⟩ : ∃ n,n = W0.heap.size:=⟨_,rfl⟩
 rw [← hn]
 have l2 : W0.heap.size ≤ n2:=by rw [hn];exact E.size
 have m2_mb0 : mb < n2:=by rw [hn];exact blk_lt hmb0
 replace hmb0:=keep_alloc hw hmb0
 have q2:=new_one hw rfl hn
 replace E:=ext_alloc E hw
 clear hw hn
 refine wpList_nil ?_
 go_upto_region 1 with (fail)
 refine wp_region_lit ?_
 refine seq_new rfl rfl (R_alloc rfl Try.zeroValue170) (by simp only [ls,lz];exact rfl) fun w2 hw=>?_
 obtain ⟨n3,hn⟩ : ∃ n,n = w1.heap.size:=⟨_,rfl⟩
 rw [← hn]
 have l3 : W0.heap.size ≤ n3:=by rw [hn];exact E.size
 have m3_mb0 : mb < n3:=by rw [hn];exact blk_lt hmb0
 have m3_2 : n2 < n3:=by rw [hn];exact blk_lt q2
 replace hmb0:=keep_alloc hw hmb0
 replace q2:=keep_alloc hw q2
 have q3:=new_one hw rfl hn
 replace E:=ext_alloc E hw
 clear hw hn
 refine wpList_nil ?_
 go_upto_region 2 with (fail)
 refine wp_region_lit ?_
 refine seq_val rfl rfl (R_makeFunc (us:=#[]) (vs:=#[.pointer (some ⟨n2,0,none⟩),.pointer (some ⟨mb,0,none⟩),.pointer (some ⟨n3,0,none⟩)]) rfl (by kernel_rfl) (by kernel_rfl)) (by simp only [ls,lz];exact rfl) ?_
 refine seq_to rfl rfl (R_store (v:=.func _ _ _) rfl rfl rfl rfl (by kernel_rfl) ((cells_of_block q3 0).trans rfl) (free_of_block q3 0)) fun w3 hw=>?_
 replace hmb0:=keep_cell hw hmb0 (by omega)
 replace q2:=keep_cell hw q2 (by omega)
 replace q3:=put_cell hw q3 (by simp only [List.setIfInBounds_toArray,ls,lz];exact rfl)
 replace E:=ext_cell E hw (fun h=>by first | exact absurd h (by omega) | simp)
 clear hw
 refine wpList_nil ?_
 have hJ3:=HJ.out [] W0 _ none h0 (grown_of_ext E) (by simp)
 have ny : n2 ∉ X:=fun h=>by have:=hX0 _ h;omega
 have ng : n3 ∉ X:=fun h=>by have:=hX0 _ h;omega
 have cb:=(cells_of_block hmb0 0).trans get0
 go_wp2_with fail
 go_loopw [8] (fun iv wr=>∃ k : Nat,k ≤ many + 1 ∧ iv = .int .i64 k ∧ (∃ p : List SetN,p.map (·.1) = (List.range k).flatMap (fun size=>growL many size 0 0) ∧ J p wr) ∧
  wr.heap[n2]? = some (.cells #[.func (.yield l) #[] #[]] 140 (0,0)) ∧ wr.heap[mb]? = some (.cells #[.int .i64 many] 3 (0,0)) ∧
  wr.heap[n3]? = some (.cells #[.func (.func 139) #[] #[.pointer (some ⟨n2,0,none⟩),.pointer (some ⟨mb,0,none⟩),.pointer (some ⟨n3,0,none⟩)]] 170 (0,0))) (fun iv _=>many + 1 - (intOf iv).toNat)
 case atStart=>exact ⟨0,Nat.zero_le _,rfl,⟨[],rfl,hJ3⟩,q2,hmb0,q3⟩
 case round =>
  clear cb q2 q3 hmb0 E hJ3
  obtain ⟨k,hk,rfl,hjk,q2,hmb0,q3⟩:=hrel
  by_cases hlt : k < many + 1
  ·have hll : ((List.range k).flatMap (fun size=>growL many size 0 0)).length + (growL many k 0 0).length ≤ (setsL many).length:=by
    have:=(flat_prefix (fun size=>growL many size 0 0) (k:=k + 1) (n:=many + 1) (by omega)).length_le
    rw [flat_succ,List.length_append] at this
    exact this
   have hc : Calls Try.prog 139 #[.int .u16 0,.int .i64 0,.int .i64 k,.pointer (some ⟨n2,0,none⟩),.pointer (some ⟨mb,0,none⟩),.pointer (some ⟨n3,0,none⟩)] wr fun e W'=>∃ b : Bool,e = .returned (.bool b) ∧
     ((b = true ∧ (∃ p : List SetN,p.map (·.1) = (List.range (k + 1)).flatMap (fun size=>growL many size 0 0) ∧ J p W') ∧ KeepC X wr W') ∨ (b = false ∧ ∃ p : List SetN,p.map (·.1) <+: setsL many ∧ Jx p W')):=
    (callsIn_wide.1 (HG.out n2 n3 ny ng k n 0 0 _ wr (by omega) (by omega) (by omega) hjk hll q2 hmb0 q3)).mono fun e W' h=>by
     rcases h with ⟨rfl,h,h2⟩ | ⟨rfl,q,hq,p,hp,hx⟩
     ·exact ⟨true,rfl,.inl ⟨rfl,by rw [flat_succ];exact h,h2⟩⟩
     ·refine ⟨false,rfl,.inr ⟨rfl,p,?_,hx⟩⟩
      rw [hp]
      refine List.IsPrefix.trans ?_ (flat_prefix _ (k:=k + 1) (n:=many + 1) (by omega))
      rw [flat_succ]
      exact (List.prefix_append_right_inj _).2 hq
   have E : Ext [] wr wr:=Ext.refl _ _
   go_upto_region 6 with (fail)
   refine wp_region_lit ?_
   refine seq_val rfl rfl (R_load rfl rfl Try.underlying170 rfl ((cells_of_block q3 0).trans (get0))) (by simp only [ls,lz];exact rfl) ?_
   refine seq_val rfl rfl (R_move (v:=.int .i64 _) rfl rfl) (by simp only [ls,lz];exact rfl) ?_
   refine seq_call rfl rfl (by kernel_rfl) hc fun e w9 hR=>?_
   obtain ⟨b,rfl,hres⟩:=hR
   refine ⟨_,_,rfl,(by simp only [ls,lz];exact rfl),?_⟩
   refine seq_val rfl rfl (R_not rfl rfl) (by simp only [ls,lz];exact rfl) ?_
   refine wpList_nil ?_
   rcases hres with ⟨rfl,hJ2,hk2⟩ | ⟨rfl,p,hp,hx⟩
   ·have hyb2:=hk2.cells q2 ny
    have hmb2:=hk2.cells hmb0 hb
    have hgb2:=hk2.cells q3 ng
    clear q2 hmb0 q3 hc
    go_wp2
    go_roundw
    case rel=>exact ⟨k + 1,by omega,by go_num,hJ2,hyb2,hmb2,hgb2⟩
    case measure=>simp [intOf];omega
   ·go_wp2
    refine bodyPost_ret (v:=.tuple #[]) (by simp [results,Try.results138]) rfl ⟨⟨_,rfl⟩,.inr ⟨p,hp,hx⟩⟩
  ·obtain rfl : k = many + 1:=by omega
   go_wp2
   go_end0
   exact ⟨⟨_,rfl⟩,.inl hjk⟩
theorem sets_any (many : Int) (w : World) :
  Calls Try.prog 111 #[.int .i64 many] w fun e w'=>∃ mb,e = .returned (.func (.func 138) #[] #[.pointer (some ⟨mb,0,none⟩)]) ∧ w.heap.size ≤ mb ∧ w'.heap[mb]? = some (.cells #[.int .i64 many] 3 (0,0)) ∧ Ext [] w w':=by
 have E : Ext [] w w:=Ext.refl _ _
 go_enter Try.func111,Try.ntmps111
 go_upto_region 0 with (fail)
 refine wp_region_lit ?_
 refine seq_new rfl rfl (R_box (v:=.int .i64 _) rfl rfl) (by simp only [ls,lz];exact rfl) fun w1 hw=>?_
 obtain ⟨n1,hn⟩ : ∃ n,n = w.heap.size:=⟨_,rfl⟩
 rw [← hn]
 have l1 : w.heap.size ≤ n1:=by rw [hn];exact E.size
 have q1:=new_one hw rfl hn
 replace E:=ext_alloc E hw
 clear hw hn
 refine seq_val rfl rfl (R_assign (v:=.nilFunc) rfl rfl) (by simp only [ls,lz];exact rfl) ?_
 refine wpList_nil ?_
 go_upto_region 1 with (fail)
 refine wp_region_lit ?_
 refine seq_val rfl rfl (R_makeFunc (us:=#[]) (vs:=#[.pointer (some ⟨n1,0,none⟩)]) rfl (by kernel_rfl) (by kernel_rfl)) (by simp only [ls,lz];exact rfl) ?_
 refine seq_val rfl rfl (R_assign (v:=.func _ _ _) rfl rfl) (by simp only [ls,lz];exact rfl) ?_
 refine wpList_nil ?_
 go_wp2
 go_ret
 exact ⟨n1,rfl,l1,q1,E⟩
attribute [local go_sem] Oper.semAt_some
theorem blk_grown {B : Nat} {W W' : World} {row : Option Nat} (hg : W.grownBy W' row) (hr : ∀ r,row = some r → B ≤ r ∧ ∃ o : Obj,W.heap[r]? = some o ∧ o.isCells = false) {k : Nat} {cs : Array Value} {T : TypeId} {fz : Nat × Nat} (h : W.heap[k]? = some (.cells cs T fz)) : W'.heap[k]? = some (.cells cs T fz):=by
 refine (hg.block k (blk_lt h) fun e=>?_).trans h
 obtain ⟨_,o,ho,hc⟩:=hr k e.symm
 rw [h] at ho;cases ho;cases hc
theorem ext_grown {B : Nat} {w W W' : World} {row : Option Nat} (hB : w.heap.size ≤ B) (hs : Ext [] w W) (hg : W.grownBy W' row) (hr : ∀ r,row = some r → B ≤ r ∧ ∃ o : Obj,W.heap[r]? = some o ∧ o.isCells = false) : Ext [] w W':=
 Ext.of_below (hs.below.grown hg hs.size (fun k e=>Nat.le_trans hB (hr k e).1))
theorem res_ss {P : Program} {fn : Func} {tmps : Array Value} {w : World} {t t2 : Tmp} {ty ty2 : TypeId} {b b2 : Nat} {v v2 : Value} {T T2 : TypeId} {d d2 : TypeDesc} {fz fz2 : Nat × Nat} (hr : fn.results = #[.cell t ty,.cell t2 ty2]) (ht : tmps.getD t undef = .pointer (some ⟨b,0,none⟩)) (hd : P.underlying ty = some d) (ha : d.isRow = false) (H : w.heap[b]? = some (.cells #[v] T fz))
  (ht2 : tmps.getD t2 undef = .pointer (some ⟨b2,0,none⟩)) (hd2 : P.underlying ty2 = some d2) (ha2 : d2.isRow = false) (H2 : w.heap[b2]? = some (.cells #[v2] T2 fz2)) :
  (results fn tmps).run P w = .ok (.tuple #[v,v2]) w:=by
 have hl : (loadVar ty ⟨b,0,none⟩).run P w = .ok v w:=by
  have hc:=(cells_of_block H 0).trans get0
  cases d <;> first | (simp [TypeDesc.isRow] at ha;done) | simp [loadVar,isAgg,underlying,hd,load,hc,Sem.run,go_sem]
 have hl2 : (loadVar ty2 ⟨b2,0,none⟩).run P w = .ok v2 w:=by
  have hc:=(cells_of_block H2 0).trans get0
  cases d2 <;> first | (simp [TypeDesc.isRow] at ha2;done) | simp [loadVar,isAgg,underlying,hd2,load,hc,Sem.run,go_sem]
 have ht' : tmps[t]?.getD undef = .pointer (some ⟨b,0,none⟩):=by simpa using ht
 have ht2' : tmps[t2]?.getD undef = .pointer (some ⟨b2,0,none⟩):=by simpa using ht2
 simp [results,hr,ht',ht2',asAddr,hl,hl2,Sem.run_bind,Result.andThen]
theorem keep_put {W : World} {D k : Nat} {o o' : Obj} {cs : Array Value} {T : TypeId} {fz : Nat × Nat} (hD : W.heap[D]? = some o) (hc : o.isCells = false) (h : W.heap[k]? = some (.cells cs T fz)) : (W.putObj D o').heap[k]? = some (.cells cs T fz):=by
 have : k ≠ D:=fun e=>by subst e;rw [hD] at h;cases h;cases hc
 rw [World.putObj_heap_other this];exact h
theorem ext_put {w W : World} {D : Nat} {o' : Obj} (h : Ext [] w W) (hD : w.heap.size ≤ D) : Ext [] w (W.putObj D o'):=
 ⟨h.os,h.tape,h.output,by simpa [World.putObj] using h.size,fun k hk hx=>(World.putObj_heap_other (by omega)).trans (h.block k hk hx)⟩
set_option maxRecDepth 100000 in
set_option maxHeartbeats 4000000 in
theorem find_ring (many mb : Nat) (hm : many ≤ 15) (b1 b2 : Nat) (p : Nat → Bool) (w : World) (hmb : w.heap[mb]? = some (.cells #[.int .i64 many] 3 (0,0)))
  (hso : ∀ (x : Nat) (W : World),x < 65536 → Ext [] w W → Calls Try.prog 112 #[.int .u16 x,.pointer (some ⟨b1,0,none⟩),.pointer (some ⟨b2,0,none⟩)] W fun e W'=>e = .returned (.bool (p x)) ∧ Ext [] W W') :
  Calls Try.prog 110 #[.func (.func 138) #[] #[.pointer (some ⟨mb,0,none⟩)],.func (.func 112) #[] #[.pointer (some ⟨b1,0,none⟩),.pointer (some ⟨b2,0,none⟩)]] w fun e w' =>
   e = .returned (.tuple #[.int .u16 (((setsL many).find? p).getD 0 : Nat),.bool ((setsL many).find? p).isSome]) ∧ Ext [] w w':=by
 have Hso:=Lib.hid hso;clear hso
 refine (callsIn_wide (n:=3)).1 ?_
 refine callsIn_of_wp_marks Try.func110 rfl trivial ?_ rfl
 simp only [Try.ntmps110,List.size_toArray,List.length_cons,List.length_nil,Nat.reduceAdd,Nat.reduceSub,Array.replicate_succ,Array.replicate_zero,List.push_toArray,List.append_toArray,List.nil_append,List.cons_append]
 gi_wp2
 have q3 : (((w.alloc (.cells #[.func (.func 112) #[] #[.pointer (some ⟨b1,0,none⟩),.pointer (some ⟨b2,0,none⟩)]] 140)).alloc (.cells #[.int .u16 0] 109)).alloc (.cells #[.bool false] 4)).heap[w.heap.size]? = _:=blk_old (blk_old (blk_new rfl))
 have q4 : (((w.alloc (.cells #[.func (.func 112) #[] #[.pointer (some ⟨b1,0,none⟩),.pointer (some ⟨b2,0,none⟩)]] 140)).alloc (.cells #[.int .u16 0] 109)).alloc (.cells #[.bool false] 4)).heap[w.heap.size + 1]? = _:=blk_old (blk_new (size_alloc _ _).symm)
 have q5 : (((w.alloc (.cells #[.func (.func 112) #[] #[.pointer (some ⟨b1,0,none⟩),.pointer (some ⟨b2,0,none⟩)]] 140)).alloc (.cells #[.int .u16 0] 109)).alloc (.cells #[.bool false] 4)).heap[w.heap.size + 1 + 1]? = _:=blk_new (by rw [size_alloc,size_alloc])
 have E : Ext [] w (((w.alloc (.cells #[.func (.func 112) #[] #[.pointer (some ⟨b1,0,none⟩),.pointer (some ⟨b2,0,none⟩)]] 140)).alloc (.cells #[.int .u16 0] 109)).alloc (.cells #[.bool false] 4)):=(((Ext.refl _ _).alloc _).alloc _).alloc _
 generalize (((w.alloc (.cells #[.func (.func 112) #[] #[.pointer (some ⟨b1,0,none⟩),.pointer (some ⟨b2,0,none⟩)]] 140)).alloc (.cells #[.int .u16 0] 109)).alloc (.cells #[.bool false] 4)) = W0 at q3 q4 q5 E ⊢
 generalize hN0 : w.heap.size = N0 at q3 q4 q5 ⊢
 have hq5:=blk_lt q5
 have E0:=E
 refine wpIn_rangeFunc_ownF (α:=SetN) rfl (by omega) (gf:=138) (lb:=#[.pointer (some ⟨mb,0,none⟩)]) rfl trivial (enters_of Try.func138 (by kernel_rfl) rfl)
  (sets1_stops _ many mb hm [N0 + 1,N0 + 1 + 1] W0 (by have:=blk_lt hmb;simp;omega) (by simp;omega) (E.keep0 hmb)) KeepC.trans (fun W l o o' _ hl hc _=>KeepC.put W l o o' hl hc) (Below.refl _ _) (fun _=>rfl)
  (fun pre W=>(∀ x ∈ pre,p x.1 = false) ∧ W.heap[N0]? = some (.cells #[.func (.func 112) #[] #[.pointer (some ⟨b1,0,none⟩),.pointer (some ⟨b2,0,none⟩)]] 140 (0,0)) ∧ W.heap[N0 + 1]? = some (.cells #[.int .u16 0] 109 (0,0)) ∧ W.heap[N0 + 1 + 1]? = some (.cells #[.bool false] 4 (0,0)) ∧ Ext [] w W)
  (fun c pre W=>c = .ret ∧ ∃ (q : List SetN) (x : SetN),pre = q ++ [x] ∧ (∀ y ∈ q,p y.1 = false) ∧ p x.1 = true ∧ W.heap[N0 + 1]? = some (.cells #[.int .u16 x.1] 109 (0,0)) ∧ W.heap[N0 + 1 + 1]? = some (.cells #[.bool true] 4 (0,0)) ∧ Ext [] w W)
  (fun s A B row hs hg hr=>⟨hs.1,blk_grown hg hr hs.2.1,blk_grown hg hr hs.2.2.1,blk_grown hg hr hs.2.2.2.1,ext_grown E.size hs.2.2.2.2 hg hr⟩)
  (fun c s A B row hs hg hr=>by
   obtain ⟨hc,q,x,h1,h2,h3,h4,h5,h6⟩:=hs
   exact ⟨hc,q,x,h1,h2,h3,blk_grown hg hr h4,blk_grown hg hr h5,ext_grown E.size h6 hg hr⟩)
  ⟨by simp,q3,q4,q5,E⟩
  (fun x=>{ tmps:=#[.func (.func 138) #[] #[.pointer (some ⟨mb,0,none⟩)],.func (.func 112) #[] #[.pointer (some ⟨b1,0,none⟩),.pointer (some ⟨b2,0,none⟩)],undef,.pointer (some ⟨N0,0,none⟩),.pointer (some ⟨N0 + 1,0,none⟩),.pointer (some ⟨N0 + 1 + 1,0,none⟩),.int .u16 x.1,undef,.func (.func 138) #[] #[.pointer (some ⟨mb,0,none⟩)],.int .u16 x.1,undef,undef,undef,undef,undef],defers:=[] }) ?assign ?body ?done ?stop
 case assign =>
  intro l x W K hK
  gi_wp2
  exact hK
 case body =>
  rintro l pre x W ⟨hp,q3,q4,q5,E⟩ _
  have c0:=(cells_of_block q3 0).trans get0
  have hc:=Hso.out x.1 W x.2 E
  cases hpx : p x.1
  ·rw [hpx] at hc
   gi_wp2_with ((try refine ⟨trivial,?_⟩);gi_at_call 112;refine (CallsIn.inRound l (callsIn_wide.2 hc)).mono ?_;clear hc;rintro e W2 ⟨rfl,e2⟩)
   refine ⟨KeepsOthers.of_grownBy (grown_of_ext e2) (by simp),KeepC.of_ext (e2.mono (by simp)),fun y hy=>?_,e2.keep0 q3,e2.keep0 q4,e2.keep0 q5,E.nil e2⟩
   rcases List.mem_append.1 hy with h | h
   ·exact hp y h
   ·obtain rfl : y = x:=by simpa using h
    exact hpx
  ·rw [hpx] at hc
   gi_wp2_with ((try refine ⟨trivial,?_⟩);gi_at_call 112;refine (CallsIn.inRound l (callsIn_wide.2 hc)).mono ?_;clear hc;rintro e W2 ⟨rfl,e2⟩;have r4:=e2.keep0 q4;have r5:=e2.keep0 q5;have d4:=(cells_of_block r4 0).trans get0;have d5:=(cells_of_block r5 0).trans get0;have f4:=free_of_block r4 0;have f5:=free_of_block r5 0)
   exact ⟨((KeepsOthers.of_grownBy (grown_of_ext e2) (by simp)).trans (KeepsOthers.setCell _ _ _)).trans (KeepsOthers.setCell _ _ _),rfl,pre,x,rfl,hp,hpx,
    keep_cell rfl (put_cell rfl r4 (by simp)) (by omega),put_cell rfl (keep_cell rfl r5 (by omega)) (by simp),ext_cell (ext_cell (E.nil e2) rfl (fun h=>absurd h (by omega))) rfl (fun h=>absurd h (by omega))⟩
 case done =>
  rintro D ys W hD hS ⟨hp,q3,q4,q5,E⟩ hK
  have hN : (setsL many).find? p = none:=by
   rw [List.find?_eq_none]
   intro y hy
   rw [← hS] at hy
   obtain ⟨z,hz,rfl⟩:=List.mem_map.1 hy
   simp [hp z hz]
  have d4:=(cells_of_block q4 0).trans get0
  have d5:=(cells_of_block q5 0).trans get0
  have f4:=free_of_block q4 0
  have f5:=free_of_block q5 0
  gi_wp2
  have hK2:=((KeepsOthers.setCell W ⟨N0 + 1,0,none⟩ (.int .u16 0)).trans (KeepsOthers.setCell _ ⟨N0 + 1 + 1,0,none⟩ (.bool false))).same D _ hK rfl
  have r4:=keep_cell (w2:=(W.setCell ⟨N0 + 1,0,none⟩ (.int .u16 0)).setCell ⟨N0 + 1 + 1,0,none⟩ (.bool false)) rfl (put_cell (cs':=#[.int .u16 0]) rfl q4 (by simp)) (by omega)
  have r5:=put_cell (w2:=(W.setCell ⟨N0 + 1,0,none⟩ (.int .u16 0)).setCell ⟨N0 + 1 + 1,0,none⟩ (.bool false)) (cs':=#[.bool false]) rfl (keep_cell rfl q5 (by omega)) (by simp)
  have E2:=ext_cell (w2:=(W.setCell ⟨N0 + 1,0,none⟩ (.int .u16 0)).setCell ⟨N0 + 1 + 1,0,none⟩ (.bool false)) (ext_cell E rfl (fun h=>absurd h (by omega))) rfl (fun h=>absurd h (by omega))
  refine ⟨by simp,.inl ⟨_,_,rfl,run_takeDeferred hK2,?_⟩⟩
  exact ⟨_,res_ss rfl rfl Try.underlying109 rfl (keep_put hK2 rfl r4) rfl Try.underlying4 rfl (keep_put hK2 rfl r5),by rw [hN];rfl,ext_put E2 (by have:=E0.size;omega)⟩
 case stop =>
  rintro D c pre W hD hS ⟨rfl,q,x,rfl,h2,h3,h4,h5,h6⟩ hK
  have hF : (setsL many).find? p = some x.1:=by
   obtain ⟨rest,hr⟩:=hS
   rw [← hr,List.find?_append,List.map_append,List.find?_append]
   have : (q.map (·.1)).find? p = none:=by
    rw [List.find?_eq_none]
    intro y hy
    obtain ⟨z,hz,rfl⟩:=List.mem_map.1 hy
    simp [h2 z hz]
   rw [this]
   simp [h3]
  gi_wp2
  refine ⟨by simp,.inl ⟨_,_,rfl,run_takeDeferred hK,?_⟩⟩
  exact ⟨_,res_ss rfl rfl Try.underlying109 rfl (keep_put hK rfl h4) rfl Try.underlying4 rfl (keep_put hK rfl h5),by rw [hF];rfl,ext_put h6 (by have:=E0.size;omega)⟩
end Go.Proofs.Ytholfdgebdlgjaa
