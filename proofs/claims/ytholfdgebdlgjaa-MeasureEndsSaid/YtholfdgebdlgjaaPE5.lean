/- Parts of a proof: Lts, Red, SetsL, It, It2, Fnd. No conditions. -/
import Derived.Laws.BitsAllLaws
import Derived.LoopIn
import Derived.LoopNIn
import Derived.OwnWalkIn
import Derived.RangeFuncBound
import Derived.RangeFuncCalls
import Derived.RangeFuncFrom
import Derived.RangeFuncKeeps
import Derived.RangeFuncLeaves
import Derived.RangeFuncNested
import Derived.Shelf.Abstract
import Derived.TacticsInMore
import Derived.Test.YtholfdgebdlgjaaPE1
import Derived.Test.YtholfdgebdlgjaaPE2
import Derived.Test.YtholfdgebdlgjaaPE4
set_option linter.unusedVariables false
set_option linter.unusedSimpArgs false
namespace Go.Proofs.Ytholfdgebdlgjaa
open Go.RowKit
def Z0v (w0 w:World) (b k:Nat) (nv:Value):Prop:=
 w0.heap.size ≤ b ∧ (∃ (a:Option Addr) (c:Nat) (xs:List Int),nv = .slice a xs.length c ∧ Z0E w0 nv 1 (xs.map Z0Q)) ∧ Ext [b] w0 w ∧
 ∃ d st:Int,w.heap[b]? = some (.cells #[nv,.int .i64 d,.int .u64 st] 98 (0,0)) ∧ 0 ≤ d ∧ d ≤ k ∧ 0 ≤ st ∧ st < 18446744073709551616
theorem Z0t {w0 w:World} {b k k':Nat} {nv:Value} (h:Z0v w0 w b k nv) (hk:k ≤ k'):Z0v w0 w b k' nv:=by
 obtain ⟨h1,h2,h3,d,st,h4,h5,h6,h7⟩:=h
 exact ⟨h1,h2,h3,d,st,h4,h5,by omega,h7⟩
theorem ZV {w0 w w2:World} {b k:Nat} {nv:Value} {o:Obj} (e:w2 = w.alloc o) (h:Z0v w0 w b k nv):Z0v w0 w2 b k nv:=by
 obtain ⟨h1,h2,h3,d,st,h4,h5⟩:=h
 exact ⟨h1,h2,Z2 h3 e,d,st,Z1 e h4,h5⟩
theorem Z0d {w0 w w2:World} {b k c o:Nat} {nv:Value} {l:List Value} (e:w2 = w.setCells c o l) (h:Z0v w0 w b k nv) (hc:w0.heap.size ≤ c) (hb:b ≠ c):Z0v w0 w2 b k nv:=by
 obtain ⟨h1,h2,h3,d,st,h4,h5⟩:=h
 exact ⟨h1,h2,Za h3 e (fun h=>absurd h (by omega)),d,st,Z5 e h4 hb,h5⟩
theorem Z1p {w0 w w2:World} {b k c o:Nat} {nv v:Value} (e:w2 = w.setCell ⟨c,o,none⟩ v) (h:Z0v w0 w b k nv) (hc:w0.heap.size ≤ c) (hb:b ≠ c):Z0v w0 w2 b k nv:=by
 obtain ⟨h1,h2,h3,d,st,h4,h5⟩:=h
 exact ⟨h1,h2,ZF h3 e (fun h=>absurd h (by omega)),d,st,ZA e h4 hb,h5⟩
theorem Z1V {w0 w w2:World} {b k:Nat} {nv:Value} (e:Ext [] w w2) (h:Z0v w0 w b k nv):Z0v w0 w2 b k nv:=by
 obtain ⟨h1,h2,h3,d,st,h4,h5⟩:=h
 exact ⟨h1,h2,h3.nil e,d,st,e.keep0 h4,h5⟩
theorem Z4o (x:Int):0 ≤ IntKind.u64.wrap x ∧ IntKind.u64.wrap x < 18446744073709551616:=by
 simp only [IntKind.wrap,IntKind.bits,IntKind.signed]
 simp
 omega
theorem Z9c (x y:Int) (h1:0 ≤ x ∧ x < 18446744073709551616) (h2:0 ≤ y ∧ y < 18446744073709551616):0 ≤ bits .xor .u64 x y ∧ bits .xor .u64 x y < 18446744073709551616:=by
 rw [u64_xor x y h1.1 h1.2 h2.1 h2.2]
 have:=Nat.xor_lt_two_pow (n:=64) (x:=x.toNat) (y:=y.toNat) (by omega) (by omega)
 omega
theorem Z7i (x:Int) (n:Nat) (h:0 ≤ x):0 ≤ x.fdiv (2 ^ n) ∧ x.fdiv (2 ^ n) ≤ x:=by
 have hp:(0:Int) < 2 ^ n:=Int.pow_pos (by decide)
 rw [Int.fdiv_eq_ediv_of_nonneg _ (Int.le_of_lt hp)]
 exact ⟨Int.ediv_nonneg h (Int.le_of_lt hp),Int.ediv_le_self _ h⟩
section
variable {P:Program} {ρ:Operand → Value} {o:Oper} {w:World}
theorem Zan {x y:Operand} {t t':TypeId} {k:IntKind} {n m:Int} (ho:o.op = .binOp .add t x y t') (hx:ρ x = .int k n) (hy:ρ y = .int k m):(execOp ρ o).run P w = .ok (.value (.int k (k.wrap (n + m)))) w:=by
 unfold execOp
 simp [ho,hx,hy,binOp,Op.intArith,eqGuard,go_sem]
theorem Z7y {x y:Operand} {t t':TypeId} {k:IntKind} {n m:Int} (ho:o.op = .binOp .mul t x y t') (hx:ρ x = .int k n) (hy:ρ y = .int k m):(execOp ρ o).run P w = .ok (.value (.int k (k.wrap (n * m)))) w:=by
 unfold execOp
 simp [ho,hx,hy,binOp,Op.intArith,eqGuard,go_sem]
theorem Z9Y {x y:Operand} {t t':TypeId} {k:IntKind} {n m:Int} (ho:o.op = .binOp .xor t x y t') (hx:ρ x = .int k n) (hy:ρ y = .int k m):(execOp ρ o).run P w = .ok (.value (.int k (bits .xor k n m))) w:=by
 unfold execOp
 simp [ho,hx,hy,binOp,Op.intBits,eqGuard,go_sem]
 rfl
theorem Z7O {x y:Operand} {t t':TypeId} {k k':IntKind} {n:Int} {m:Nat} (ho:o.op = .binOp .shr t x y t') (hx:ρ x = .int k n) (hy:ρ y = .int k' m):(execOp ρ o).run P w = .ok (.value (.int k (n.fdiv (2 ^ min m k.bits)))) w:=by
 unfold execOp
 have hm:¬ ((m:Int) < 0):=by omega
 simp [ho,hx,hy,binOp,Op.shift,eqGuard,hm,go_sem]
theorem ZbC {x y:Operand} {t t':TypeId} {k:IntKind} {n m:Int} (ho:o.op = .binOp .rem t x y t') (hx:ρ x = .int k n) (hy:ρ y = .int k m) (hm:m ≠ 0):(execOp ρ o).run P w = .ok (.value (.int k (n.tmod m))) w:=by
 unfold execOp
 simp [ho,hx,hy,binOp,Op.intDiv,eqGuard,hm,go_sem]
theorem Z4H {x:Operand} {t t':TypeId} {k k':IntKind} {n:Int} (ho:o.op = .convert t t' x) (hx:ρ x = .int k n) (hu:P.underlying t = some (.int k)) (hu':P.underlying t' = some (.int k')):(execOp ρ o).run P w = .ok (.value (.int k' (k'.wrap n))) w:=by
 unfold execOp
 simp [ho,hx,convert,Conv.intToInt,run_underlying hu,run_underlying hu',go_sem]
end
theorem Z5Q {w:World} {b off:Nat} {cs:List Value} {v:Value} (h:w.rangeAt b off cs) (h0:cs[0]? = some v):b < w.heap.size:=
 World.block_lt_of_cell? w ⟨b,off + 0,none⟩ (h 0 v h0)
theorem shr8 {z:Int} (h:0 ≤ z ∧ z < 18446744073709551616):0 ≤ z.fdiv (2 ^ min 8 IntKind.u64.bits) ∧ z.fdiv (2 ^ min 8 IntKind.u64.bits) < 72057594037927936:=by
 rw [show (2:Int) ^ min 8 IntKind.u64.bits = 256 from rfl,Int.fdiv_eq_ediv_of_nonneg _ (by decide)]
 omega
set_option maxRecDepth 100000 in
set_option maxHeartbeats 4000000 in
theorem Z8g (w0 w:World) (b k:Nat) (nv:Value) (h:Z0v w0 w b k nv) (hk:k ≤ 1000000) :
  Calls Try.prog 114 #[.pointer (some ⟨b,0,none⟩)] w fun e w'=>∃ v:Int,e = .returned (.int .u64 v) ∧ 0 ≤ v ∧ v < 72057594037927936 ∧ Z0v w0 w' b (k + 1) nv ∧ Ext [b] w w':=by
 obtain ⟨hb,⟨na,nc,xs,rfl,hn⟩,E0,d,st,q,hd0,hdk,hs0,hs1⟩:=h
 have E:Ext [b] w w:=Ext.refl _ _
 go_enter Try.func114,Try.ntmps114
 go_upto_region 0 with (fail)
 refine wp_region_lit ?_
 refine Z3 rfl rfl (Z8 (v:=.int .u64 0) rfl rfl) (by simp only [ls,lz];exact rfl) ?_
 refine wpList_nil ?_
 go_upto_region 1 with (fail)
 refine wp_region_lit ?_
 refine Z3 rfl rfl (Zi (v:=.pointer (some ⟨_,_,none⟩)) rfl rfl) (by simp only [ls,lz];exact rfl) ?_
 refine Z3 rfl rfl (Zi (v:=.pointer (some ⟨_,_,none⟩)) rfl rfl) (by simp only [ls,lz];exact rfl) ?_
 refine Z3 rfl rfl (Z0s rfl rfl) (by simp only [ls,lz];exact rfl) ?_
 refine Z3 rfl rfl (Z9 rfl rfl Try.underlying98 rfl (n:=2) (sz:=1) rfl (by kernel_rfl) (by decide)) (by simp only [ls,lz];exact rfl) ?_
 refine Z3 rfl rfl (Zh rfl rfl Try.underlying96 rfl ((Z0 q 2).trans (getS (getS (get0))))) (by simp only [ls,lz];exact rfl) ?_
 refine Z3 rfl rfl (Z7y rfl rfl rfl) (by simp only [ls,lz];exact rfl) ?_
 refine Z3 rfl rfl (Zan rfl rfl rfl) (by simp only [ls,lz];exact rfl) ?_
 refine Z3 rfl rfl (Z0s rfl rfl) (by simp only [ls,lz];exact rfl) ?_
 refine Z3 rfl rfl (Z9 rfl rfl Try.underlying98 rfl (n:=2) (sz:=1) rfl (by kernel_rfl) (by decide)) (by simp only [ls,lz];exact rfl) ?_
 refine ZY rfl rfl (ZR (v:=.int .u64 _) rfl rfl rfl rfl (by kernel_rfl) ((Z0 q 2).trans rfl) (Zl q 2)) fun w1 hw=>?_
 replace q:=ZK hw q (by simp only [List.setIfInBounds_toArray,ls,lz];exact rfl)
 replace E0:=ZF E0 hw (fun h=>by first | exact absurd h (by omega) | simp)
 replace E:=ZF E hw (fun h=>by first | exact absurd h (by omega) | simp)
 clear hw
 refine wpList_nil ?_
 have hst1:=Z4o (IntKind.u64.wrap (st * 6364136223846793005) + 1442695040888963407)
 generalize IntKind.u64.wrap (IntKind.u64.wrap (st * 6364136223846793005) + 1442695040888963407) = st1 at hst1 q ⊢
 go_upto_region 2 with (fail)
 refine Z11 (Ext [] w1) follows fun w2 hh eS=>?_
 have q_:=q
 replace q:=Zn hh q
 replace E:=Z4 E eS
 replace E0:=Z4 E0 eS
 refine Zf (i:=0) rfl (by kernel_rfl) (by kernel_rfl) (by kernel_rfl) (fun _ _ _ h=>h) rfl rfl (fun w' hS=>Zi (v:=.pointer (some ⟨_,_,none⟩)) rfl rfl) eS (by simp only [ls,lz];exact rfl) ?_
 refine Zf (i:=1) rfl (by kernel_rfl) (by kernel_rfl) (by kernel_rfl) (fun _ _ _ h=>h) rfl rfl (fun w' hS=>Z0s rfl rfl) eS (by simp only [ls,lz];exact rfl) ?_
 refine Zf (i:=2) rfl (by kernel_rfl) (by kernel_rfl) (by kernel_rfl) (fun _ _ _ h=>h) rfl rfl (fun w' hS=>Z9 rfl rfl Try.underlying98 rfl (n:=1) (sz:=1) rfl (by kernel_rfl) (by decide)) eS (by simp only [ls,lz];exact rfl) ?_
 refine Zf (i:=3) rfl (by kernel_rfl) (by kernel_rfl) (by kernel_rfl) (fun _ _ _ h=>h) rfl rfl (fun w' hS=>Zh rfl rfl Try.underlying3 rfl ((Z0 (hS.keep q_ (by simp)) 1).trans (getS (get0)))) eS (by simp only [ls,lz];exact rfl) ?_
 refine Zf (i:=4) rfl (by kernel_rfl) (by kernel_rfl) (by kernel_rfl) (fun _ _ _ h=>h) rfl rfl (fun w' hS=>Zi (v:=.pointer (some ⟨_,_,none⟩)) rfl rfl) eS (by simp only [ls,lz];exact rfl) ?_
 refine Zf (i:=5) rfl (by kernel_rfl) (by kernel_rfl) (by kernel_rfl) (fun _ _ _ h=>h) rfl rfl (fun w' hS=>Z0s rfl rfl) eS (by simp only [ls,lz];exact rfl) ?_
 refine Zf (i:=6) rfl (by kernel_rfl) (by kernel_rfl) (by kernel_rfl) (fun _ _ _ h=>h) rfl rfl (fun w' hS=>Z9 rfl rfl Try.underlying98 rfl (n:=0) (sz:=1) rfl (by kernel_rfl) (by decide)) eS (by simp only [ls,lz];exact rfl) ?_
 refine Zf (i:=7) rfl (by kernel_rfl) (by kernel_rfl) (by kernel_rfl) (fun _ _ _ h=>h) rfl rfl (fun w' hS=>Zh rfl rfl Try.underlying29 rfl ((Z0 (hS.keep q_ (by simp)) 0).trans (get0))) eS (by simp only [ls,lz];exact rfl) ?_
 refine Zf (i:=8) rfl (by kernel_rfl) (by kernel_rfl) (by kernel_rfl) (fun _ _ _ h=>h) rfl rfl (fun w' hS=>Z1c rfl rfl rfl Try.underlying29) eS (by simp only [ls,lz];exact rfl) ?_
 refine Zf (i:=9) rfl (by kernel_rfl) (by kernel_rfl) (by kernel_rfl) (fun _ _ _ h=>h) rfl rfl (fun w' hS=>Z1d rfl rfl rfl) eS (by simp only [ls,lz];exact rfl) ?_
 refine wpAnyH_done (by kernel_rfl) ?_ _
 clear q_ hh eS
 by_cases hlt:d < (xs.length:Int)
 ·have hW:=hn.ext E0 (by simp;omega)
  obtain ⟨xb,xo,hxa,hxr⟩:=Z3A 0 hW (Ext.refl _ _) (i:=d.toNat) (by omega)
  have hcx:Hid (∀ W:World,Ext [] w2 W → W.cell? ⟨xb,xo + d.toNat * 1,none⟩ = some (.int .i64 (xs.getD d.toNat 0))):=fun W hW=>by
   have hlt2:=Z5Q hxr rfl
   have:=hxr 0 (.int .i64 (xs.getD d.toNat 0)) rfl
   rw [hW.cell (a:=⟨xb,xo + d.toNat * 1,none⟩) hlt2 (by simp)];simpa using this
  clear hxr
  go_upto_region 3 with (fail)
  refine Z16 (Ext [] w2) 20 follows fun w3 hh eS=>?_
  have q_:=q
  replace q:=Zn hh q
  replace E:=Z4 E eS
  replace E0:=Z4 E0 eS
  refine Zk (i:=0) (last:=20) rfl rfl (by decide) (by kernel_rfl) (by kernel_rfl) (by kernel_rfl) (by kernel_rfl) (by kernel_rfl) (fun _ _ _ h=>h) rfl rfl (fun w' hS=>Zi (v:=.pointer (some ⟨_,_,none⟩)) rfl rfl) eS (by simp only [ls,lz];exact rfl) ?_
  refine Zk (i:=1) (last:=20) rfl rfl (by decide) (by kernel_rfl) (by kernel_rfl) (by kernel_rfl) (by kernel_rfl) (by kernel_rfl) (fun _ _ _ h=>h) rfl rfl (fun w' hS=>Zi (v:=.pointer (some ⟨_,_,none⟩)) rfl rfl) eS (by simp only [ls,lz];exact rfl) ?_
  refine Zk (i:=2) (last:=20) rfl rfl (by decide) (by kernel_rfl) (by kernel_rfl) (by kernel_rfl) (by kernel_rfl) (by kernel_rfl) (fun _ _ _ h=>h) rfl rfl (fun w' hS=>Z0s rfl rfl) eS (by simp only [ls,lz];exact rfl) ?_
  refine Zk (i:=3) (last:=20) rfl rfl (by decide) (by kernel_rfl) (by kernel_rfl) (by kernel_rfl) (by kernel_rfl) (by kernel_rfl) (fun _ _ _ h=>h) rfl rfl (fun w' hS=>Z9 rfl rfl Try.underlying98 rfl (n:=2) (sz:=1) rfl (by kernel_rfl) (by decide)) eS (by simp only [ls,lz];exact rfl) ?_
  refine Zk (i:=4) (last:=20) rfl rfl (by decide) (by kernel_rfl) (by kernel_rfl) (by kernel_rfl) (by kernel_rfl) (by kernel_rfl) (fun _ _ _ h=>h) rfl rfl (fun w' hS=>Zh rfl rfl Try.underlying96 rfl ((Z0 (hS.keep q_ (by simp)) 2).trans (getS (getS (get0))))) eS (by simp only [ls,lz];exact rfl) ?_
  refine Zk (i:=5) (last:=20) rfl rfl (by decide) (by kernel_rfl) (by kernel_rfl) (by kernel_rfl) (by kernel_rfl) (by kernel_rfl) (fun _ _ _ h=>h) rfl rfl (fun w' hS=>Zi (v:=.pointer (some ⟨_,_,none⟩)) rfl rfl) eS (by simp only [ls,lz];exact rfl) ?_
  refine Zk (i:=6) (last:=20) rfl rfl (by decide) (by kernel_rfl) (by kernel_rfl) (by kernel_rfl) (by kernel_rfl) (by kernel_rfl) (fun _ _ _ h=>h) rfl rfl (fun w' hS=>Z0s rfl rfl) eS (by simp only [ls,lz];exact rfl) ?_
  refine Zk (i:=7) (last:=20) rfl rfl (by decide) (by kernel_rfl) (by kernel_rfl) (by kernel_rfl) (by kernel_rfl) (by kernel_rfl) (fun _ _ _ h=>h) rfl rfl (fun w' hS=>Z9 rfl rfl Try.underlying98 rfl (n:=0) (sz:=1) rfl (by kernel_rfl) (by decide)) eS (by simp only [ls,lz];exact rfl) ?_
  refine Zk (i:=8) (last:=20) rfl rfl (by decide) (by kernel_rfl) (by kernel_rfl) (by kernel_rfl) (by kernel_rfl) (by kernel_rfl) (fun _ _ _ h=>h) rfl rfl (fun w' hS=>Zh rfl rfl Try.underlying29 rfl ((Z0 (hS.keep q_ (by simp)) 0).trans (get0))) eS (by simp only [ls,lz];exact rfl) ?_
  refine Zk (i:=9) (last:=20) rfl rfl (by decide) (by kernel_rfl) (by kernel_rfl) (by kernel_rfl) (by kernel_rfl) (by kernel_rfl) (fun _ _ _ h=>h) rfl rfl (fun w' hS=>Zi (v:=.pointer (some ⟨_,_,none⟩)) rfl rfl) eS (by simp only [ls,lz];exact rfl) ?_
  refine Zk (i:=10) (last:=20) rfl rfl (by decide) (by kernel_rfl) (by kernel_rfl) (by kernel_rfl) (by kernel_rfl) (by kernel_rfl) (fun _ _ _ h=>h) rfl rfl (fun w' hS=>Z0s rfl rfl) eS (by simp only [ls,lz];exact rfl) ?_
  refine Zk (i:=11) (last:=20) rfl rfl (by decide) (by kernel_rfl) (by kernel_rfl) (by kernel_rfl) (by kernel_rfl) (by kernel_rfl) (fun _ _ _ h=>h) rfl rfl (fun w' hS=>Z9 rfl rfl Try.underlying98 rfl (n:=1) (sz:=1) rfl (by kernel_rfl) (by decide)) eS (by simp only [ls,lz];exact rfl) ?_
  refine Zk (i:=12) (last:=20) rfl rfl (by decide) (by kernel_rfl) (by kernel_rfl) (by kernel_rfl) (by kernel_rfl) (by kernel_rfl) (fun _ _ _ h=>h) rfl rfl (fun w' hS=>Zh rfl rfl Try.underlying3 rfl ((Z0 (hS.keep q_ (by simp)) 1).trans (getS (get0)))) eS (by simp only [ls,lz];exact rfl) ?_
  refine Zk (i:=13) (last:=20) rfl rfl (by decide) (by kernel_rfl) (by kernel_rfl) (by kernel_rfl) (by kernel_rfl) (by kernel_rfl) (fun _ _ _ h=>h) rfl rfl (fun w' hS=>ZJ (sz:=1) rfl (hxa xs.length nc) rfl Try.underlying29 (by kernel_rfl) (by omega) (by omega)) eS (by simp only [ls,lz];exact rfl) ?_
  refine Zk (i:=14) (last:=20) rfl rfl (by decide) (by kernel_rfl) (by kernel_rfl) (by kernel_rfl) (by kernel_rfl) (by kernel_rfl) (fun _ _ _ h=>h) rfl rfl (fun w' hS=>Zh (v:=.int .i64 (xs.getD d.toNat 0)) rfl rfl Try.underlying3 rfl (hcx.out _ hS)) eS (by simp only [ls,lz];exact rfl) ?_
  refine Zk (i:=15) (last:=20) rfl rfl (by decide) (by kernel_rfl) (by kernel_rfl) (by kernel_rfl) (by kernel_rfl) (by kernel_rfl) (fun _ _ _ h=>h) rfl rfl (fun w' hS=>Z4H rfl rfl Try.underlying3 Try.underlying96) eS (by simp only [ls,lz];exact rfl) ?_
  refine Zk (i:=16) (last:=20) rfl rfl (by decide) (by kernel_rfl) (by kernel_rfl) (by kernel_rfl) (by kernel_rfl) (by kernel_rfl) (fun _ _ _ h=>h) rfl rfl (fun w' hS=>Z7y rfl rfl rfl) eS (by simp only [ls,lz];exact rfl) ?_
  refine Zk (i:=17) (last:=20) rfl rfl (by decide) (by kernel_rfl) (by kernel_rfl) (by kernel_rfl) (by kernel_rfl) (by kernel_rfl) (fun _ _ _ h=>h) rfl rfl (fun w' hS=>Zan rfl rfl rfl) eS (by simp only [ls,lz];exact rfl) ?_
  refine Z9x (i:=18) rfl (by kernel_rfl) rfl rfl (fun w' hS=>Z0s rfl rfl) eS (by simp only [ls,lz];exact rfl) ?_
  refine Zk (i:=19) (last:=20) rfl rfl (by decide) (by kernel_rfl) (by kernel_rfl) (by kernel_rfl) (by kernel_rfl) (by kernel_rfl) (fun _ _ _ h=>h) rfl rfl (fun w' hS=>Z9 rfl rfl Try.underlying98 rfl (n:=2) (sz:=1) rfl (by kernel_rfl) (by decide)) eS (by simp only [ls,lz];exact rfl) ?_
  refine Z0o (o:=_) rfl (by kernel_rfl) rfl rfl (ZR (v:=.int .u64 _) rfl rfl rfl rfl (by kernel_rfl) ((Z0 q 2).trans (getS (getS (get0)))) (Zl q 2)) (by kernel_rfl) fun w4 hw=>?_
  replace q:=ZK hw q (by simp only [List.setIfInBounds_toArray,ls,lz];exact rfl)
  replace E0:=ZF E0 hw (fun h=>by first | exact absurd h (by omega) | simp)
  replace E:=ZF E hw (fun h=>by first | exact absurd h (by omega) | simp)
  clear hw
  refine Z0p (by kernel_rfl) ?_ _
  clear q_ hh eS
  have hst2:=Z4o (st1 + IntKind.u64.wrap (IntKind.u64.wrap (xs.getD d.toNat 0) * 2862933555777941757))
  generalize IntKind.u64.wrap (st1 + IntKind.u64.wrap (IntKind.u64.wrap (xs.getD d.toNat 0) * 2862933555777941757)) = st2 at hst2 q ⊢
  clear hcx hxa hst1
  go_upto_region 4 with (fail)
  refine wp_region_lit ?_
  refine Z3 rfl rfl (Zi (v:=.pointer (some ⟨_,_,none⟩)) rfl rfl) (by simp only [ls,lz];exact rfl) ?_
  refine Z3 rfl rfl (Z0s rfl rfl) (by simp only [ls,lz];exact rfl) ?_
  refine Z3 rfl rfl (Z9 rfl rfl Try.underlying98 rfl (n:=1) (sz:=1) rfl (by kernel_rfl) (by decide)) (by simp only [ls,lz];exact rfl) ?_
  refine Z3 rfl rfl (Zh rfl rfl Try.underlying3 rfl ((Z0 q 1).trans (getS (get0)))) (by simp only [ls,lz];exact rfl) ?_
  refine Z3 rfl rfl (Z0F rfl rfl rfl (by omega) (by omega)) (by simp only [ls,lz];exact rfl) ?_
  refine Z3 rfl rfl (Z0s rfl rfl) (by simp only [ls,lz];exact rfl) ?_
  refine Z3 rfl rfl (Z9 rfl rfl Try.underlying98 rfl (n:=1) (sz:=1) rfl (by kernel_rfl) (by decide)) (by simp only [ls,lz];exact rfl) ?_
  refine ZY rfl rfl (ZR (v:=.int .i64 _) rfl rfl rfl rfl (by kernel_rfl) ((Z0 q 1).trans rfl) (Zl q 1)) fun w5 hw=>?_
  replace q:=ZK hw q (by simp only [List.setIfInBounds_toArray,ls,lz];exact rfl)
  replace E0:=ZF E0 hw (fun h=>by first | exact absurd h (by omega) | simp)
  replace E:=ZF E hw (fun h=>by first | exact absurd h (by omega) | simp)
  clear hw
  refine wpList_nil ?_
  go_upto_region 5 with (fail)
  refine Z11 (Ext [] w5) follows fun w6 hh eS=>?_
  have q_:=q
  replace q:=Zn hh q
  replace E:=Z4 E eS
  replace E0:=Z4 E0 eS
  refine Zf (i:=0) rfl (by kernel_rfl) (by kernel_rfl) (by kernel_rfl) (fun _ _ _ h=>h) rfl rfl (fun w' hS=>Zi (v:=.pointer (some ⟨_,_,none⟩)) rfl rfl) eS (by simp only [ls,lz];exact rfl) ?_
  refine Zf (i:=1) rfl (by kernel_rfl) (by kernel_rfl) (by kernel_rfl) (fun _ _ _ h=>h) rfl rfl (fun w' hS=>Z0s rfl rfl) eS (by simp only [ls,lz];exact rfl) ?_
  refine Zf (i:=2) rfl (by kernel_rfl) (by kernel_rfl) (by kernel_rfl) (fun _ _ _ h=>h) rfl rfl (fun w' hS=>Z9 rfl rfl Try.underlying98 rfl (n:=2) (sz:=1) rfl (by kernel_rfl) (by decide)) eS (by simp only [ls,lz];exact rfl) ?_
  refine Zf (i:=3) rfl (by kernel_rfl) (by kernel_rfl) (by kernel_rfl) (fun _ _ _ h=>h) rfl rfl (fun w' hS=>Zh rfl rfl Try.underlying96 rfl ((Z0 (hS.keep q_ (by simp)) 2).trans (getS (getS (get0))))) eS (by simp only [ls,lz];exact rfl) ?_
  refine Zf (i:=4) rfl (by kernel_rfl) (by kernel_rfl) (by kernel_rfl) (fun _ _ _ h=>h) rfl rfl (fun w' hS=>Zi (v:=.pointer (some ⟨_,_,none⟩)) rfl rfl) eS (by simp only [ls,lz];exact rfl) ?_
  refine Zf (i:=5) rfl (by kernel_rfl) (by kernel_rfl) (by kernel_rfl) (fun _ _ _ h=>h) rfl rfl (fun w' hS=>Z0s rfl rfl) eS (by simp only [ls,lz];exact rfl) ?_
  refine Zf (i:=6) rfl (by kernel_rfl) (by kernel_rfl) (by kernel_rfl) (fun _ _ _ h=>h) rfl rfl (fun w' hS=>Z9 rfl rfl Try.underlying98 rfl (n:=2) (sz:=1) rfl (by kernel_rfl) (by decide)) eS (by simp only [ls,lz];exact rfl) ?_
  refine Zf (i:=7) rfl (by kernel_rfl) (by kernel_rfl) (by kernel_rfl) (fun _ _ _ h=>h) rfl rfl (fun w' hS=>Zh rfl rfl Try.underlying96 rfl ((Z0 (hS.keep q_ (by simp)) 2).trans (getS (getS (get0))))) eS (by simp only [ls,lz];exact rfl) ?_
  refine Zf (i:=8) rfl (by kernel_rfl) (by kernel_rfl) (by kernel_rfl) (fun _ _ _ h=>h) rfl rfl (fun w' hS=>Z7O (m:=29) rfl rfl rfl) eS (by simp only [ls,lz];exact rfl) ?_
  refine Zf (i:=9) rfl (by kernel_rfl) (by kernel_rfl) (by kernel_rfl) (fun _ _ _ h=>h) rfl rfl (fun w' hS=>Z9Y rfl rfl rfl) eS (by simp only [ls,lz];exact rfl) ?_
  refine Zf (i:=10) rfl (by kernel_rfl) (by kernel_rfl) (by kernel_rfl) (fun _ _ _ h=>h) rfl rfl (fun w' hS=>Z8 (v:=.int .u64 _) rfl rfl) eS (by simp only [ls,lz];exact rfl) ?_
  refine wpAnyH_done (by kernel_rfl) ?_ _
  clear q_ hh eS
  generalize hz:bits .xor .u64 st2 (st2.fdiv (2 ^ min 29 IntKind.u64.bits)) = z
  clear hz
  go_upto_region 6 with (fail)
  refine wp_region_lit ?_
  refine Z3 rfl rfl (Zi (v:=.int .u64 _) rfl rfl) (by simp only [ls,lz];exact rfl) ?_
  refine Z3 rfl rfl (Z7y rfl rfl rfl) (by simp only [ls,lz];exact rfl) ?_
  refine Z3 rfl rfl (Z8 (v:=.int .u64 _) rfl rfl) (by simp only [ls,lz];exact rfl) ?_
  refine wpList_nil ?_
  have hz2:=Z4o (z * 2685821657736338717)
  generalize IntKind.u64.wrap (z * 2685821657736338717) = z2 at hz2 ⊢
  go_upto_region 7 with (fail)
  refine wp_region_lit ?_
  refine Z3 rfl rfl (Zi (v:=.int .u64 _) rfl rfl) (by simp only [ls,lz];exact rfl) ?_
  refine Z3 rfl rfl (Zi (v:=.int .u64 _) rfl rfl) (by simp only [ls,lz];exact rfl) ?_
  refine Z3 rfl rfl (Z7O (m:=32) rfl rfl rfl) (by simp only [ls,lz];exact rfl) ?_
  refine Z3 rfl rfl (Z9Y rfl rfl rfl) (by simp only [ls,lz];exact rfl) ?_
  refine Z3 rfl rfl (Z7O (m:=8) rfl rfl rfl) (by simp only [ls,lz];exact rfl) ?_
  refine Z3 rfl rfl (Z8 (v:=.int .u64 _) rfl rfl) (by simp only [ls,lz];exact rfl) ?_
  refine wpList_nil ?_
  have hz3:=Z7i z2 (min 32 IntKind.u64.bits) hz2.1
  have hz4:=Z9c z2 _ hz2 ⟨hz3.1,by omega⟩
  generalize bits .xor .u64 z2 (z2.fdiv (2 ^ min 32 IntKind.u64.bits)) = z5 at hz4 ⊢
  have hz6:=shr8 hz4
  generalize z5.fdiv (2 ^ min 8 IntKind.u64.bits) = z7 at hz6 ⊢
  go_wp2
  go_ret
  exact ⟨z7,rfl,hz6.1,hz6.2,⟨hb,⟨na,nc,xs,rfl,hn⟩,E0,d + 1,st2,q,by omega,by omega,hst2.1,hst2.2⟩,E⟩
 ·obtain ⟨st2,rfl⟩:∃ st2,st2 = st1:=⟨_,rfl⟩
  have hst2:=hst1
  go_upto_region 4 with (fail)
  refine wp_region_lit ?_
  refine Z3 rfl rfl (Zi (v:=.pointer (some ⟨_,_,none⟩)) rfl rfl) (by simp only [ls,lz];exact rfl) ?_
  refine Z3 rfl rfl (Z0s rfl rfl) (by simp only [ls,lz];exact rfl) ?_
  refine Z3 rfl rfl (Z9 rfl rfl Try.underlying98 rfl (n:=1) (sz:=1) rfl (by kernel_rfl) (by decide)) (by simp only [ls,lz];exact rfl) ?_
  refine Z3 rfl rfl (Zh rfl rfl Try.underlying3 rfl ((Z0 q 1).trans (getS (get0)))) (by simp only [ls,lz];exact rfl) ?_
  refine Z3 rfl rfl (Z0F rfl rfl rfl (by omega) (by omega)) (by simp only [ls,lz];exact rfl) ?_
  refine Z3 rfl rfl (Z0s rfl rfl) (by simp only [ls,lz];exact rfl) ?_
  refine Z3 rfl rfl (Z9 rfl rfl Try.underlying98 rfl (n:=1) (sz:=1) rfl (by kernel_rfl) (by decide)) (by simp only [ls,lz];exact rfl) ?_
  refine ZY rfl rfl (ZR (v:=.int .i64 _) rfl rfl rfl rfl (by kernel_rfl) ((Z0 q 1).trans rfl) (Zl q 1)) fun w3 hw=>?_
  replace q:=ZK hw q (by simp only [List.setIfInBounds_toArray,ls,lz];exact rfl)
  replace E0:=ZF E0 hw (fun h=>by first | exact absurd h (by omega) | simp)
  replace E:=ZF E hw (fun h=>by first | exact absurd h (by omega) | simp)
  clear hw
  refine wpList_nil ?_
  go_upto_region 5 with (fail)
  refine Z11 (Ext [] w3) follows fun w4 hh eS=>?_
  have q_:=q
  replace q:=Zn hh q
  replace E:=Z4 E eS
  replace E0:=Z4 E0 eS
  refine Zf (i:=0) rfl (by kernel_rfl) (by kernel_rfl) (by kernel_rfl) (fun _ _ _ h=>h) rfl rfl (fun w' hS=>Zi (v:=.pointer (some ⟨_,_,none⟩)) rfl rfl) eS (by simp only [ls,lz];exact rfl) ?_
  refine Zf (i:=1) rfl (by kernel_rfl) (by kernel_rfl) (by kernel_rfl) (fun _ _ _ h=>h) rfl rfl (fun w' hS=>Z0s rfl rfl) eS (by simp only [ls,lz];exact rfl) ?_
  refine Zf (i:=2) rfl (by kernel_rfl) (by kernel_rfl) (by kernel_rfl) (fun _ _ _ h=>h) rfl rfl (fun w' hS=>Z9 rfl rfl Try.underlying98 rfl (n:=2) (sz:=1) rfl (by kernel_rfl) (by decide)) eS (by simp only [ls,lz];exact rfl) ?_
  refine Zf (i:=3) rfl (by kernel_rfl) (by kernel_rfl) (by kernel_rfl) (fun _ _ _ h=>h) rfl rfl (fun w' hS=>Zh rfl rfl Try.underlying96 rfl ((Z0 (hS.keep q_ (by simp)) 2).trans (getS (getS (get0))))) eS (by simp only [ls,lz];exact rfl) ?_
  refine Zf (i:=4) rfl (by kernel_rfl) (by kernel_rfl) (by kernel_rfl) (fun _ _ _ h=>h) rfl rfl (fun w' hS=>Zi (v:=.pointer (some ⟨_,_,none⟩)) rfl rfl) eS (by simp only [ls,lz];exact rfl) ?_
  refine Zf (i:=5) rfl (by kernel_rfl) (by kernel_rfl) (by kernel_rfl) (fun _ _ _ h=>h) rfl rfl (fun w' hS=>Z0s rfl rfl) eS (by simp only [ls,lz];exact rfl) ?_
  refine Zf (i:=6) rfl (by kernel_rfl) (by kernel_rfl) (by kernel_rfl) (fun _ _ _ h=>h) rfl rfl (fun w' hS=>Z9 rfl rfl Try.underlying98 rfl (n:=2) (sz:=1) rfl (by kernel_rfl) (by decide)) eS (by simp only [ls,lz];exact rfl) ?_
  refine Zf (i:=7) rfl (by kernel_rfl) (by kernel_rfl) (by kernel_rfl) (fun _ _ _ h=>h) rfl rfl (fun w' hS=>Zh rfl rfl Try.underlying96 rfl ((Z0 (hS.keep q_ (by simp)) 2).trans (getS (getS (get0))))) eS (by simp only [ls,lz];exact rfl) ?_
  refine Zf (i:=8) rfl (by kernel_rfl) (by kernel_rfl) (by kernel_rfl) (fun _ _ _ h=>h) rfl rfl (fun w' hS=>Z7O (m:=29) rfl rfl rfl) eS (by simp only [ls,lz];exact rfl) ?_
  refine Zf (i:=9) rfl (by kernel_rfl) (by kernel_rfl) (by kernel_rfl) (fun _ _ _ h=>h) rfl rfl (fun w' hS=>Z9Y rfl rfl rfl) eS (by simp only [ls,lz];exact rfl) ?_
  refine Zf (i:=10) rfl (by kernel_rfl) (by kernel_rfl) (by kernel_rfl) (fun _ _ _ h=>h) rfl rfl (fun w' hS=>Z8 (v:=.int .u64 _) rfl rfl) eS (by simp only [ls,lz];exact rfl) ?_
  refine wpAnyH_done (by kernel_rfl) ?_ _
  clear q_ hh eS
  generalize hz:bits .xor .u64 st2 (st2.fdiv (2 ^ min 29 IntKind.u64.bits)) = z
  clear hz
  go_upto_region 6 with (fail)
  refine wp_region_lit ?_
  refine Z3 rfl rfl (Zi (v:=.int .u64 _) rfl rfl) (by simp only [ls,lz];exact rfl) ?_
  refine Z3 rfl rfl (Z7y rfl rfl rfl) (by simp only [ls,lz];exact rfl) ?_
  refine Z3 rfl rfl (Z8 (v:=.int .u64 _) rfl rfl) (by simp only [ls,lz];exact rfl) ?_
  refine wpList_nil ?_
  have hz2:=Z4o (z * 2685821657736338717)
  generalize IntKind.u64.wrap (z * 2685821657736338717) = z2 at hz2 ⊢
  go_upto_region 7 with (fail)
  refine wp_region_lit ?_
  refine Z3 rfl rfl (Zi (v:=.int .u64 _) rfl rfl) (by simp only [ls,lz];exact rfl) ?_
  refine Z3 rfl rfl (Zi (v:=.int .u64 _) rfl rfl) (by simp only [ls,lz];exact rfl) ?_
  refine Z3 rfl rfl (Z7O (m:=32) rfl rfl rfl) (by simp only [ls,lz];exact rfl) ?_
  refine Z3 rfl rfl (Z9Y rfl rfl rfl) (by simp only [ls,lz];exact rfl) ?_
  refine Z3 rfl rfl (Z7O (m:=8) rfl rfl rfl) (by simp only [ls,lz];exact rfl) ?_
  refine Z3 rfl rfl (Z8 (v:=.int .u64 _) rfl rfl) (by simp only [ls,lz];exact rfl) ?_
  refine wpList_nil ?_
  have hz3:=Z7i z2 (min 32 IntKind.u64.bits) hz2.1
  have hz4:=Z9c z2 _ hz2 ⟨hz3.1,by omega⟩
  generalize bits .xor .u64 z2 (z2.fdiv (2 ^ min 32 IntKind.u64.bits)) = z5 at hz4 ⊢
  have hz6:=shr8 hz4
  generalize z5.fdiv (2 ^ min 8 IntKind.u64.bits) = z7 at hz6 ⊢
  go_wp2
  go_ret
  exact ⟨z7,rfl,hz6.1,hz6.2,⟨hb,⟨na,nc,xs,rfl,hn⟩,E0,d + 1,st2,q,by omega,by omega,hst2.1,hst2.2⟩,E⟩
theorem Z9D {v n:Int} (h1:0 ≤ v ∧ v < 72057594037927936) (h2:1 ≤ n ∧ n ≤ 1000000):IntKind.u64.wrap (n + 1) = n + 1 ∧ IntKind.i64.wrap (v.tmod (n + 1)) = v.tmod (n + 1) ∧ 0 ≤ v.tmod (n + 1) ∧ v.tmod (n + 1) ≤ n:=by
 have h3:0 ≤ v.tmod (n + 1):=Int.tmod_nonneg _ h1.1
 have h4:v.tmod (n + 1) < n + 1:=Int.tmod_lt_of_pos _ (by omega)
 refine ⟨?_,IntWalk.i64_in _ (by omega),h3,by omega⟩
 simp only [IntKind.wrap,IntKind.bits,IntKind.signed]
 simp
 omega
set_option maxRecDepth 100000 in
set_option maxHeartbeats 4000000 in
theorem Z0l (w0 w:World) (b k:Nat) (nv:Value) (n:Int) (h:Z0v w0 w b k nv) (hk:k ≤ 1000000) (h0:-1000000 ≤ n) (hn:n ≤ 1000000) :
  Calls Try.prog 51 #[.pointer (some ⟨b,0,none⟩),.int .i64 n] w fun e w'=>∃ v:Int,e = .returned (.int .i64 v) ∧ 0 ≤ v ∧ v ≤ max n 0 ∧ Z0v w0 w' b (k + 1) nv ∧ Ext [b] w w':=by
 by_cases hlt:n < 1
 ·go_enter Try.func51,Try.ntmps51
  go_wp2
  go_ret
  exact ⟨0,rfl,by omega,by omega,Z0t h (by omega),Ext.refl _ _⟩
 ·have E:Ext [] w w:=Ext.refl _ _
  go_enter Try.func51,Try.ntmps51
  go_upto_region 3 with (fail)
  refine wp_region_lit ?_
  refine Z3 rfl rfl (Zi (v:=.pointer (some ⟨_,_,none⟩)) rfl rfl) (by simp only [ls,lz];exact rfl) ?_
  refine ZC rfl rfl (by kernel_rfl) (Z8g w0 w b k nv h hk) fun e w1 hR=>?_
  obtain ⟨v,rfl,hv1,hv2,HL,e1⟩:=hR
  refine ⟨_,_,rfl,(by simp only [ls,lz];exact rfl),?_⟩
  have hu:=Z9D (n:=n) ⟨hv1,hv2⟩ ⟨by omega,hn⟩
  refine Z3 rfl rfl (Zi (v:=.int .i64 _) rfl rfl) (by simp only [ls,lz];exact rfl) ?_
  refine Z3 rfl rfl (Z0F rfl rfl rfl (by omega) (by omega)) (by simp only [ls,lz];exact rfl) ?_
  refine Z3 rfl rfl (Z4H rfl rfl Try.underlying3 Try.underlying96) (by simp only [ls,lz];exact rfl) ?_
  rw [hu.1]
  refine Z3 rfl rfl (ZbC rfl rfl rfl (by omega)) (by simp only [ls,lz];exact rfl) ?_
  refine Z3 rfl rfl (Z4H rfl rfl Try.underlying96 Try.underlying3) (by simp only [ls,lz];exact rfl) ?_
  rw [hu.2.1]
  refine Z3 rfl rfl (Z8 (v:=.int .i64 _) rfl rfl) (by simp only [ls,lz];exact rfl) ?_
  refine wpList_nil ?_
  go_wp2
  go_ret
  exact ⟨_,rfl,hu.2.2.1,by omega,HL,e1⟩
set_option maxRecDepth 100000 in
set_option maxHeartbeats 4000000 in
theorem Z4a (w0 w:World) (b k:Nat) (nv:Value) (lo hi:Int) (h:Z0v w0 w b k nv) (hk:k ≤ 1000000) (h1:-1000 ≤ lo) (h2:lo ≤ 1000) (h3:-1000 ≤ hi) (h4:hi ≤ 1000) :
  Calls Try.prog 55 #[.pointer (some ⟨b,0,none⟩),.int .i64 lo,.int .i64 hi] w fun e w'=>∃ v:Int,e = .returned (.int .i64 v) ∧ lo ≤ v ∧ v ≤ max lo hi ∧ Z0v w0 w' b (k + 1) nv ∧ Ext [b] w w':=by
 have hc:=Z0l w0 w b k nv (hi - lo) h hk (by omega) (by omega)
 have E:Ext [b] w w:=Ext.refl _ _
 go_enter Try.func55,Try.ntmps55
 go_upto_region 1 with (fail)
 refine wp_region_lit ?_
 refine Z3 rfl rfl (Zi (v:=.int .i64 _) rfl rfl) (by simp only [ls,lz];exact rfl) ?_
 refine Z3 rfl rfl (Zi (v:=.pointer (some ⟨_,_,none⟩)) rfl rfl) (by simp only [ls,lz];exact rfl) ?_
 refine Z3 rfl rfl (Zi (v:=.int .i64 _) rfl rfl) (by simp only [ls,lz];exact rfl) ?_
 refine Z3 rfl rfl (Zi (v:=.int .i64 _) rfl rfl) (by simp only [ls,lz];exact rfl) ?_
 refine Z3 rfl rfl (Z1I rfl rfl rfl (by omega) (by omega)) (by simp only [ls,lz];exact rfl) ?_
 refine ZC rfl rfl (by kernel_rfl) (hc) fun e w1 hR=>?_
 obtain ⟨v,rfl,hv1,hv2,HL,e1⟩:=hR
 refine ⟨_,_,rfl,(by simp only [ls,lz];exact rfl),?_⟩
 replace E:=E.trans e1
 refine Z3 rfl rfl (Z0F rfl rfl rfl (by omega) (by omega)) (by simp only [ls,lz];exact rfl) ?_
 refine Z3 rfl rfl (Z8 (v:=.int .i64 _) rfl rfl) (by simp only [ls,lz];exact rfl) ?_
 refine wpList_nil ?_
 go_wp2
 go_ret
 exact ⟨_,rfl,by omega,by omega,HL,e1⟩
set_option maxRecDepth 100000 in
set_option maxHeartbeats 4000000 in
theorem Z3r (w0 w:World) (b k:Nat) (nv:Value) (g:Nat) (T:TypeId) (xs:List Int) (h:Z0v w0 w b k nv) (hk:k ≤ 1000000) (hg:w.heap[g]? = some (.cells (xs.map (Value.int .i64)).toArray T (0,0))) (hgb:g ≠ b) (hx:0 < xs.length) (hx2:xs.length ≤ 1000) :
  Calls Try.prog 45 #[.pointer (some ⟨b,0,none⟩),.slice (some ⟨g,0,none⟩) xs.length xs.length] w fun e w'=>∃ v:Int,e = .returned (.int .i64 v) ∧ v ∈ xs ∧ Z0v w0 w' b (k + 1) nv ∧ Ext [b] w w':=by
 have hc:=Z0l w0 w b k nv ((xs.length:Int) - 1) h hk (by omega) (by omega)
 have E:Ext [b] w w:=Ext.refl _ _
 go_enter Try.func45,Try.ntmps45
 go_upto_region 1 with (fail)
 refine wp_region_lit ?_
 refine Z3 rfl rfl (Zi (v:=.slice _ _ _) rfl rfl) (by simp only [ls,lz];exact rfl) ?_
 refine Z3 rfl rfl (Zi (v:=.pointer (some ⟨_,_,none⟩)) rfl rfl) (by simp only [ls,lz];exact rfl) ?_
 refine Z3 rfl rfl (Zi (v:=.slice _ _ _) rfl rfl) (by simp only [ls,lz];exact rfl) ?_
 refine Z3 rfl rfl (Z1c rfl rfl rfl Try.underlying29) (by simp only [ls,lz];exact rfl) ?_
 refine Z3 rfl rfl (Z1I rfl rfl rfl (by omega) (by omega)) (by simp only [ls,lz];exact rfl) ?_
 refine ZC rfl rfl (by kernel_rfl) (hc) fun e w1 hR=>?_
 obtain ⟨v,rfl,hv1,hv2,HL,e1⟩:=hR
 refine ⟨_,_,rfl,(by simp only [ls,lz];exact rfl),?_⟩
 replace hg:=(e1).keep hg (by simp;omega)
 replace E:=E.trans e1
 obtain ⟨i,rfl⟩:=Int.eq_ofNat_of_zero_le hv1
 have hil:i < xs.length:=by omega
 have hci:=(Z0 hg (0 + (i:Int).toNat * 1)).trans (show (xs.map (Value.int .i64)).toArray[0 + (i:Int).toNat * 1]? = some (.int .i64 (xs[i])) by simp [hil])
 refine Z3 rfl rfl (ZJ (sz:=1) rfl rfl rfl Try.underlying29 (by kernel_rfl) (by omega) (by omega)) (by simp only [ls,lz];exact rfl) ?_
 refine Z3 rfl rfl (Zh (v:=.int .i64 (xs[i])) rfl rfl Try.underlying3 rfl hci) (by simp only [ls,lz];exact rfl) ?_
 refine Z3 rfl rfl (Z8 (v:=.int .i64 _) rfl rfl) (by simp only [ls,lz];exact rfl) ?_
 refine wpList_nil ?_
 go_wp2
 go_ret
 exact ⟨_,rfl,List.getElem_mem hil,HL,e1⟩
theorem Z3H {α:Type} {row:α → List Value} {sz:Nat} (hr:∀ x,(row x).length = sz):∀ (ys:List α) (i j:Nat) (x:List Value),(ys.map row)[i]? = some x → j < sz → (ys.map row).flatten[i * sz + j]? = x[j]?
 | [],i,j,x,hi,hj=>by simp at hi
 | y :: ys,i,j,x,hi,hj=>by
  simp only [List.map_cons,List.flatten_cons]
  cases i with
  | zero =>
   simp at hi;subst hi
   rw [List.getElem?_append_left (by rw [hr];omega)];simp
  | succ i =>
   rw [List.getElem?_append_right (by rw [hr,Nat.add_mul];omega),hr,show (i + 1) * sz + j - sz = i * sz + j by rw [Nat.add_mul];omega]
   exact Z3H hr ys i j x (by simpa using hi) hj
theorem Z3i {α:Type} {row:α → List Value} {sz:Nat} (hr:∀ x,(row x).length = sz):∀ ys:List α,((ys.map row).flatten).length = ys.length * sz
 | []=>by simp
 | y :: ys=>by simp only [List.map_cons,List.flatten_cons,List.length_append,hr,Z3i hr ys,List.length_cons,Nat.add_mul];omega
theorem Z22 {α:Type} {w:World} {b:Nat} {T:TypeId} {fz:Nat × Nat} {sz:Nat} {row:α → List Value} {xs:List α} {pad:List Value} (cap:Nat) (hr:∀ x,(row x).length = sz) (h:w.heap[b]? = some (.cells ((xs.map row).flatten ++ pad).toArray T fz)):Z0E w (.slice (some ⟨b,0,none⟩) xs.length cap) sz (xs.map row):=by
 refine ⟨some ⟨b,0,none⟩,cap,by simp,fun x hx=>?_,fun _=>⟨b,0,rfl,Z7 h,fun i j x hi hj=>?_⟩⟩
 ·obtain ⟨y,-,rfl⟩:=List.mem_map.1 hx;exact hr y
 ·have hf:=Z3H hr xs i j x hi hj
  have hil:i < xs.length:=by have:=(List.getElem?_eq_some_iff.1 hi).1;simpa using this
  have hl:i * sz + j < ((xs.map row).flatten).length:=by
   rw [Z3i hr]
   calc i * sz + j < i * sz + sz:=by omega
    _ = (i + 1) * sz:=by rw [Nat.add_mul];omega
    _ ≤ xs.length * sz:=Nat.mul_le_mul_right _ hil
  rw [Z0 h,← hf,Nat.zero_add,List.getElem?_toArray,List.getElem?_append_left hl]
theorem Z65 {α:Type} {w:World} {a:Option Addr} {n cap sz:Nat} {row:α → List Value} {xs:List α} (h0:0 < sz) (hr:∀ x,(row x).length = sz) (h:Z0E w (.slice a n cap) sz (xs.map row)):∀ a0,a = some a0 → ∀ (j:Nat) (v:Value),((xs.map row).flatten)[j]? = some v → w.cell? (a0.add j) = some v:=by
 intro a0 ha j v hv
 have hj:j < xs.length * sz:=by rw [← Z3i hr];exact (List.getElem?_eq_some_iff.1 hv).1
 have hi:j / sz < xs.length:=Nat.div_lt_of_lt_mul (by rw [Nat.mul_comm];exact hj)
 have hjj:j / sz * sz + j % sz = j:=by rw [Nat.mul_comm];exact Nat.div_add_mod j sz
 obtain ⟨a',cap',hv',hl,hc⟩:=h
 cases hv'
 have hne:xs.map row ≠ []:=by
  intro e;have:=congrArg List.length e;simp at this;rw [this] at hi;simp at hi
 obtain ⟨b,off,hb,hlt,hcell⟩:=hc hne
 rw [hb] at ha;cases ha
 have hx:(xs.map row)[j / sz]? = some (row (xs[j / sz])):=by simp [hi]
 have h1:=Z3H hr xs (j / sz) (j % sz) _ hx (Nat.mod_lt _ h0)
 rw [hjj,hv] at h1
 have h2:=hcell (j / sz) (j % sz) _ hx (Nat.mod_lt _ h0)
 rw [Addr.add_lit,show off + j = off + j / sz * sz + j % sz by omega,h2,← h1]
section
variable {P:Program} {ops:Array Oper} {Q:Exit → Act → World → Prop} {md:Region.Mode} {S:World → Prop} {last:Nat}
theorem Z7W {o:Oper} {l:List Value} {ds:List Deferred} {w:World} {s x:Operand} {t:TypeId}
  (ho:o.op = .call { callee:=.builtin .append,args:=#[s,x],argTypes:=#[t,t] })
  {e:TypeId} {size bytes:Nat} (ht:P.underlying t = some (.slice e)) (hin:(P.info? e).map (fun i=>(i.size,i.bytes,i.zero.map (·.cells.size))) = some (size,bytes,some size)) (hsz:0 < size)
  {a:Option Addr} {n cap:Nat} {olds:List Value} (hs:(Act.mk l.toArray ds).eval s = .slice a n cap) (hold:cap = n ∧ olds.length = n * size ∧ (a = none → n = 0) ∧ ∀ a0,a = some a0 → ∀ (j:Nat) (v:Value),olds[j]? = some v → w.cell? (a0.add j) = some v)
  {g c:Nat} {T:TypeId} {fz:Nat × Nat} {news:List Value} (hx:(Act.mk l.toArray ds).eval x = .slice (some ⟨g,0,none⟩) 1 c) (hg:w.heap[g]? = some (.cells news.toArray T fz)) (hl:news.length = size)
  (hn:n ≤ 1000000) (hbytes:bytes ≤ 1000000) :
  ∃ cap' pad,n + 1 ≤ cap' ∧ (execOp (Act.eval ⟨l.toArray,ds⟩) o).run P w = .ok (.value (.slice (some ⟨w.drew.heap.size,0,none⟩) (n + 1) cap')) (w.drew.alloc (.cells (olds ++ news ++ pad).toArray e)):=by
 obtain ⟨rfl,hlo,hnone,holds⟩:=hold
 cases hq:P.info? e with
 | none=>simp [hq] at hin
 | some inf =>
  simp only [hq,Option.map_some,Option.some.injEq,Prod.mk.injEq,Option.map_eq_some_iff] at hin
  obtain ⟨hi1,hi2,z,hz,hz2⟩:=hin
  have hnews:∀ j u,news[j]? = some u → w.cell? ((⟨g,0,none⟩:Addr).add j) = some u:=fun j u hu=>by
   rw [Addr.add_lit,Nat.zero_add,Z0 hg];simpa using hu
  have key:∃ cap' pad,cap + 1 ≤ cap' ∧ (Builtin.append_ #[t,t] o.type #[.slice a cap cap,.slice (some ⟨g,0,none⟩) 1 c]).run P w = .ok (.slice (some ⟨w.heap.size,0,none⟩) (cap + 1) cap') (w.drew.alloc (.cells (olds ++ news ++ pad).toArray e)):=by
   cases ha:a with
   | none =>
    have h0:=hnone ha
    subst h0
    have hol:olds = []:=List.eq_nil_of_length_eq_zero (by simpa using hlo)
    subst hol
    have hr:=run_append_nil (P:=P) w t o.type e inf z ht hq hz ⟨g,0,none⟩ 1 c news (by omega) hnews (by omega) (by omega) (by omega)
    refine ⟨_,(Builtin.zeroCells z.cells (grownCap w 1 0 e - 1)).toList,grownCap_ge w 1 0 e,?_⟩
    rw [hr]
    congr 3
    simp
   | some a0 =>
    have hr:=run_append_grow (P:=P) w t o.type e inf z ht hq hz a0 cap cap olds (by rw [hi1];exact hlo) (holds a0 ha) ⟨g,0,none⟩ 1 c news (by omega) hnews (by omega) (by omega)
     (growslice_fits (by omega) (by rw [hi2];exact Nat.le_trans (Nat.mul_le_mul (show cap + 1 ≤ 1000001 by omega) hbytes) (by decide)))
    refine ⟨_,(Builtin.zeroCells z.cells (grownCap w (cap + 1) cap e - (cap + 1))).toList,grownCap_ge w (cap + 1) cap e,?_⟩
    rw [hr]
    congr 3
    simp
  obtain ⟨cap',pad,h1,h2⟩:=key
  refine ⟨cap',pad,h1,?_⟩
  unfold execOp
  simp only [ho,resolve,invoke,builtin,Sem.run_bind,Sem.run_pure,Result.andThen_ok,List.map_toArray,List.map_cons,List.map_nil,hs,hx,h2]
  rfl
theorem Z4t {i d:Nat} {o:Oper} {fuel:Nat} {listed:Array Bool} {l:List Value} {ds:List Deferred} {w:World} (hi:ops[i]? = some o) (hr:Region.ready md ops listed = [i])
  (hd:o.dst = some d) (hw:Region.wanted o (yielded ops l.toArray) = true) {s x:Operand} {t:TypeId}
  (ho:o.op = .call { callee:=.builtin .append,args:=#[s,x],argTypes:=#[t,t] })
  {e:TypeId} {size bytes:Nat} (ht:P.underlying t = some (.slice e)) (hin:(P.info? e).map (fun i=>(i.size,i.bytes,i.zero.map (·.cells.size))) = some (size,bytes,some size)) (hsz:0 < size)
  {a:Option Addr} {n cap:Nat} {olds:List Value} (hs:(Act.mk l.toArray ds).eval s = .slice a n cap) (hold:cap = n ∧ olds.length = n * size ∧ (a = none → n = 0) ∧ ∀ a0,a = some a0 → ∀ (j:Nat) (v:Value),olds[j]? = some v → w.cell? (a0.add j) = some v)
  {g c:Nat} {T:TypeId} {fz:Nat × Nat} {news:List Value} (hx:(Act.mk l.toArray ds).eval x = .slice (some ⟨g,0,none⟩) 1 c) (hg:w.heap[g]? = some (.cells news.toArray T fz)) (hl:news.length = size)
  (hn:n ≤ 1000000) (hbytes:bytes ≤ 1000000)
  (h:∀ cap' pad W2,n + 1 ≤ cap' → W2 = w.drew.alloc (.cells (olds ++ news ++ pad).toArray e) → ∃ l',l.set d (.slice (some ⟨w.drew.heap.size,0,none⟩) (n + 1) cap') = l' ∧ S W2 ∧ Z1i P md ops Q S last fuel (listed.setIfInBounds i true) ⟨l'.toArray,ds⟩ W2):Z1i P md ops Q S last (fuel + 1) listed ⟨l.toArray,ds⟩ w:=by
 obtain ⟨cap',pad,h1,hrun⟩:=Z7W (l:=l) (ds:=ds) (w:=w) ho ht hin hsz hs hold hx hg hl hn hbytes
 obtain ⟨l',hl',h3,h4⟩:=h cap' pad _ h1 rfl
 exact Z1z hi hr hd hw hrun hl' fun W2 hW2=>by subst hW2;exact ⟨fun _=>h3,h4⟩
theorem Z9v {ρ:Operand → Value} {o:Oper} {w:World} {x y z:Operand} {t e:TypeId} {a:Option Addr} {len cap n m size:Nat} {k k':IntKind} (ho:o.op = .slice t x none (some y) (some z)) (hx:ρ x = .slice a len cap) (hy:ρ y = .int k n) (hz:ρ z = .int k' m) (hu:P.underlying t = some (.slice e)) (hs:(P.info? e).map (·.size) = some size) (h1:n ≤ m) (h2:m ≤ cap) :
  (execOp ρ o).run P w = .ok (.value (.slice a n m)) w:=by
 cases hq:P.info? e with
 | none=>simp [hq] at hs
 | some j =>
  unfold execOp
  simp [ho,hx,hy,hz,Instr.sliceAt,Instr.slice,run_underlying hu,Instr.sliceBounds,Instr.sliceBound,asIntOf,sizeOf,typeInfo,hq,h1,h2,go_sem]
end
def addR (t:Tp) (r:Int × Int × Int × Int):Tp:={ t with rd:=t.rd ++ [r] }
set_option maxRecDepth 100000 in
set_option maxHeartbeats 2000000 in
theorem Za2 (t:Tp) (gv lv:Value) (ra:Option Addr) (rcap:Nat) (r:Int × Int × Int × Int) (w:World) (ht:IsTp w gv (.slice ra t.rd.length rcap) lv t) (hl2:t.rd.length ≤ 1000) (hc:t.rd.length ≤ rcap) :
  Calls Try.prog 102 #[tpV t gv (.slice ra t.rd.length rcap) lv,.agg #[.int .i64 r.1,.int .i64 r.2.1,.int .i64 r.2.2.1,.int .i64 r.2.2.2]] w fun e w'=>∃ b cap,t.rd.length + 1 ≤ cap ∧ e = .returned (tpV (addR t r) gv (.slice (some ⟨b,0,none⟩) (addR t r).rd.length cap) lv) ∧ IsTp w' gv (.slice (some ⟨b,0,none⟩) (addR t r).rd.length cap) lv (addR t r) ∧ Ext [] w w':=by
 have hone:=Z3E ht
 have hrl:∀ x,(Z0B x).length = 4:=fun _=>rfl
 have E:Ext [] w w:=Ext.refl _ _
 have HH:Hid (∀ W:World,Ext [] w W → t.rd.length = t.rd.length ∧ ((t.rd.map Z0B).flatten).length = t.rd.length * 4 ∧ (ra = none → t.rd.length = 0) ∧ ∀ a0,ra = some a0 → ∀ (j:Nat) (v:Value),((t.rd.map Z0B).flatten)[j]? = some v → W.cell? (a0.add j) = some v):=fun W e =>
  ⟨rfl,Z3i hrl _,(fun hn=>by
   by_cases hne:t.rd.map Z0B = []
   ·simpa using hne
   ·obtain ⟨b,off,h1,-⟩:=ht.rd.range rfl hne
    rw [hn] at h1;cases h1),Z65 (by decide) hrl (ht.rd.ext e (by simp))⟩
 have Ht:=Lib.hid ht;clear ht
 unfold tpV
 go_enter Try.func102,Try.ntmps102
 go_upto_region 0 with (fail)
 refine wp_region_lit ?_
 refine Zy rfl rfl (Z0z (v:=.agg _) rfl rfl) (by simp only [ls,lz];exact rfl) fun w1 hw=>?_
 obtain ⟨n2,hn⟩:∃ n,n = w.heap.size:=⟨_,rfl⟩
 rw [← hn]
 have l2:w.heap.size ≤ n2:=by rw [hn];exact E.size
 have q2:=Zr hw hn
 replace E:=Z2 E hw
 clear hw hn
 refine Zy rfl rfl (Z0z (v:=.agg _) rfl rfl) (by simp only [ls,lz];exact rfl) fun w2 hw=>?_
 obtain ⟨n3,hn⟩:∃ n,n = w1.heap.size:=⟨_,rfl⟩
 rw [← hn]
 have l3:w.heap.size ≤ n3:=by rw [hn];exact E.size
 have m3_2:n2 < n3:=by rw [hn];exact Z7 q2
 replace q2:=Z1 hw q2
 have q3:=Zr hw hn
 replace E:=Z2 E hw
 clear hw hn
 refine Zy rfl rfl (ZB rfl Try.zeroValue28) (by simp only [ls,lz];exact rfl) fun w3 hw=>?_
 obtain ⟨n4,hn⟩:∃ n,n = w2.heap.size:=⟨_,rfl⟩
 rw [← hn]
 have l4:w.heap.size ≤ n4:=by rw [hn];exact E.size
 have m4_2:n2 < n4:=by rw [hn];exact Z7 q2
 have m4_3:n3 < n4:=by rw [hn];exact Z7 q3
 replace q2:=Z1 hw q2
 replace q3:=Z1 hw q3
 have q4:=Zr hw hn
 replace E:=Z2 E hw
 clear hw hn
 refine wpList_nil ?_
 go_upto_region 1 with (fail)
 refine Z16 (Ext [] w3) 13 follows fun w4 hh eS=>?_
 have q2_:=q2
 have q3_:=q3
 have q4_:=q4
 replace q2:=Zn hh q2
 replace q3:=Zn hh q3
 replace q4:=Zn hh q4
 replace E:=Z4 E eS
 refine Zk (i:=0) (last:=13) rfl rfl (by decide) (by kernel_rfl) (by kernel_rfl) (by kernel_rfl) (by kernel_rfl) (by kernel_rfl) (fun _ _ _ h=>h) rfl rfl (fun w' hS=>Z9 rfl rfl Try.underlying28 rfl (n:=9) (sz:=1) rfl (by kernel_rfl) (by decide)) eS (by simp only [ls,lz];exact rfl) ?_
 refine Zk (i:=1) (last:=13) rfl rfl (by decide) (by kernel_rfl) (by kernel_rfl) (by kernel_rfl) (by kernel_rfl) (by kernel_rfl) (fun _ _ _ h=>h) rfl rfl (fun w' hS=>Zh rfl rfl Try.underlying25 rfl ((Z0 (hS.keep q2_ (by simp)) 9).trans (getS (getS (getS (getS (getS (getS (getS (getS (getS (get0)))))))))))) eS (by simp only [ls,lz];exact rfl) ?_
 refine Zk (i:=2) (last:=13) rfl rfl (by decide) (by kernel_rfl) (by kernel_rfl) (by kernel_rfl) (by kernel_rfl) (by kernel_rfl) (fun _ _ _ h=>h) rfl rfl (fun w' hS=>Z9 rfl rfl Try.underlying28 rfl (n:=9) (sz:=1) rfl (by kernel_rfl) (by decide)) eS (by simp only [ls,lz];exact rfl) ?_
 refine Zk (i:=3) (last:=13) rfl rfl (by decide) (by kernel_rfl) (by kernel_rfl) (by kernel_rfl) (by kernel_rfl) (by kernel_rfl) (fun _ _ _ h=>h) rfl rfl (fun w' hS=>Zh rfl rfl Try.underlying25 rfl ((Z0 (hS.keep q2_ (by simp)) 9).trans (getS (getS (getS (getS (getS (getS (getS (getS (getS (get0)))))))))))) eS (by simp only [ls,lz];exact rfl) ?_
 refine Zk (i:=4) (last:=13) rfl rfl (by decide) (by kernel_rfl) (by kernel_rfl) (by kernel_rfl) (by kernel_rfl) (by kernel_rfl) (fun _ _ _ h=>h) rfl rfl (fun w' hS=>Z1c rfl rfl rfl Try.underlying25) eS (by simp only [ls,lz];exact rfl) ?_
 refine Zk (i:=5) (last:=13) rfl rfl (by decide) (by kernel_rfl) (by kernel_rfl) (by kernel_rfl) (by kernel_rfl) (by kernel_rfl) (fun _ _ _ h=>h) rfl rfl (fun w' hS=>Z9 rfl rfl Try.underlying28 rfl (n:=9) (sz:=1) rfl (by kernel_rfl) (by decide)) eS (by simp only [ls,lz];exact rfl) ?_
 refine Zk (i:=6) (last:=13) rfl rfl (by decide) (by kernel_rfl) (by kernel_rfl) (by kernel_rfl) (by kernel_rfl) (by kernel_rfl) (fun _ _ _ h=>h) rfl rfl (fun w' hS=>Zh rfl rfl Try.underlying25 rfl ((Z0 (hS.keep q2_ (by simp)) 9).trans (getS (getS (getS (getS (getS (getS (getS (getS (getS (get0)))))))))))) eS (by simp only [ls,lz];exact rfl) ?_
 refine Zk (i:=7) (last:=13) rfl rfl (by decide) (by kernel_rfl) (by kernel_rfl) (by kernel_rfl) (by kernel_rfl) (by kernel_rfl) (fun _ _ _ h=>h) rfl rfl (fun w' hS=>Z1c rfl rfl rfl Try.underlying25) eS (by simp only [ls,lz];exact rfl) ?_
 refine Zk (i:=8) (last:=13) rfl rfl (by decide) (by kernel_rfl) (by kernel_rfl) (by kernel_rfl) (by kernel_rfl) (by kernel_rfl) (fun _ _ _ h=>h) rfl rfl (fun w' hS=>Z9v rfl rfl rfl rfl Try.underlying25 (size:=4) (by kernel_rfl) (Nat.le_refl _) hc) eS (by simp only [ls,lz];exact rfl) ?_
 refine Zk (i:=9) (last:=13) rfl rfl (by decide) (by kernel_rfl) (by kernel_rfl) (by kernel_rfl) (by kernel_rfl) (by kernel_rfl) (fun _ _ _ h=>h) rfl rfl (fun w' hS=>Zt rfl rfl Try.underlying66 rfl (by kernel_rfl) (hS.keep q3_ (by simp))) eS (by simp only [ls,lz];exact rfl) ?_
 refine Z1z (i:=10) rfl (by kernel_rfl) rfl rfl (ZE rfl Try.underlying25 (size:=4) (by kernel_rfl) (by decide) (by decide) Try.zeroValue66 (cells:=#[.int .i64 r.1,.int .i64 r.2.1,.int .i64 r.2.2.1,.int .i64 r.2.2.2]) (by kernel_rfl)) (by simp only [ls,lz];exact rfl) fun w5 hw=>?_
 replace eS:=Z2 eS hw
 obtain ⟨n15,hn⟩:∃ n,n = w4.heap.size:=⟨_,rfl⟩
 rw [← hn]
 have l15:w.heap.size ≤ n15:=by rw [hn];exact E.size
 have m15_2:n2 < n15:=by rw [hn];exact Z7 q2
 have m15_3:n3 < n15:=by rw [hn];exact Z7 q3
 have m15_4:n4 < n15:=by rw [hn];exact Z7 q4
 replace q2:=Z1 hw q2
 replace q3:=Z1 hw q3
 replace q4:=Z1 hw q4
 have q15:=Zw hw hn
 replace E:=Z2 E hw
 clear hw hn
 refine ⟨fun _=>eS,?_⟩
 refine Z4t (i:=11) rfl (by kernel_rfl) rfl rfl rfl (e:=66) (size:=4) (bytes:=32) Try.underlying25 (by kernel_rfl) (by decide) rfl (HH.out _ E) rfl q15 rfl (by omega) (by omega) fun cap16 pad16 w6 hcap16 hw=>?_
 replace eS:=Z2 eS.drew hw
 replace E:=E.drew
 replace q2:=Z3n q2
 replace q3:=Z3n q3
 replace q4:=Z3n q4
 replace q15:=Z3n q15
 have hsz:w5.drew.heap.size = w5.heap.size:=rfl
 obtain ⟨n16,hn⟩:∃ n,n = w5.drew.heap.size:=⟨_,rfl⟩
 rw [← hn]
 have l16:w.heap.size ≤ n16:=by rw [hn];exact E.size
 have m16_2:n2 < n16:=by rw [hn];exact Z7 q2
 have m16_3:n3 < n16:=by rw [hn];exact Z7 q3
 have m16_4:n4 < n16:=by rw [hn];exact Z7 q4
 have m16_15:n15 < n16:=by rw [hn];exact Z7 q15
 replace q2:=Z1 hw q2
 replace q3:=Z1 hw q3
 replace q4:=Z1 hw q4
 replace q15:=Z1 hw q15
 have q16:=Zw hw hn
 replace E:=Z2 E hw
 clear hw hn
 clear hsz
 refine ⟨_,(by simp only [ls,lz];exact rfl),eS,?_⟩
 refine Zk (i:=12) (last:=13) rfl rfl (by decide) (by kernel_rfl) (by kernel_rfl) (by kernel_rfl) (by kernel_rfl) (by kernel_rfl) (fun _ _ _ h=>h) rfl rfl (fun w' hS=>Z9 rfl rfl Try.underlying28 rfl (n:=9) (sz:=1) rfl (by kernel_rfl) (by decide)) eS (by simp only [ls,lz];exact rfl) ?_
 refine Z0o (o:=_) rfl (by kernel_rfl) rfl rfl (ZR (v:=.slice _ _ _) rfl rfl rfl rfl (by kernel_rfl) ((Z0 q2 9).trans (getS (getS (getS (getS (getS (getS (getS (getS (getS (get0))))))))))) (Zl q2 9)) (by kernel_rfl) fun w7 hw=>?_
 replace q2:=ZK hw q2 (by simp only [List.setIfInBounds_toArray,ls,lz];exact rfl)
 replace q3:=ZA hw q3 (by omega)
 replace q4:=ZA hw q4 (by omega)
 replace q15:=ZA hw q15 (by omega)
 replace q16:=ZA hw q16 (by omega)
 replace E:=ZF E hw (fun h=>by first | exact absurd h (by omega) | simp)
 clear hw
 refine Z0p (by kernel_rfl) ?_ _
 clear q2_ q3_ q4_ hh eS
 go_upto_region 2 with (fail)
 refine wp_region_lit ?_
 refine Z3 rfl rfl (Zt rfl rfl Try.underlying28 rfl (by kernel_rfl) q2) (by simp only [ls,lz];exact rfl) ?_
 refine ZY rfl rfl (Zg rfl rfl rfl (by kernel_rfl) (by simp [hone.1,hone.2.2,show ∀ k n,(Value.int k n).oneCell' = true from fun _ _=>rfl,show ∀ a n c,(Value.slice a n c).oneCell' = true from fun _ _ _=>rfl]) q4 rfl) fun w8 hw=>?_
 replace q2:=Z5 hw q2 (by omega)
 replace q3:=Z5 hw q3 (by omega)
 replace q4:=Zz hw q4 rfl
 replace q15:=Z5 hw q15 (by omega)
 replace q16:=Z5 hw q16 (by omega)
 replace E:=Za E hw (fun h=>by first | exact absurd h (by omega) | simp)
 clear hw
 refine wpList_nil ?_
 go_wp2
 have hflat:(t.rd.map Z0B).flatten ++ [.int .i64 r.1,.int .i64 r.2.1,.int .i64 r.2.2.1,.int .i64 r.2.2.2] ++ pad16 = ((addR t r).rd.map Z0B).flatten ++ pad16:=by simp [addR,Z0B]
 rw [hflat] at q16
 have hl:(addR t r).rd.length = t.rd.length + 1:=by simp [addR]
 refine bodyPost_ret (Z2a rfl rfl Try.underlying28 rfl (by kernel_rfl) q4) rfl ⟨n16,cap16,hcap16,?_,⟨Ht.out.gr.ext E (by simp),Z22 cap16 hrl q16,Ht.out.lk.ext E (by simp)⟩,E⟩
 rw [hl]
 rfl
theorem Z6W (lo hi:Int) (w:World) (h1:-4000000000000000000 ≤ lo) (h2:lo ≤ 4000000000000000000) (h3:-4000000000000000000 ≤ hi) (h4:hi ≤ 4000000000000000000) :
  Calls Try.prog 100 #[.agg #[.int .i64 lo,.int .i64 hi]] w fun e w'=>e = .returned (.int .i64 (hi - lo + 1)) ∧ Ext [] w w':=by
 have E:Ext [] w w:=Ext.refl _ _
 go_enter Try.func100,Try.ntmps100
 go_upto_region 0 with (fail)
 refine wp_region_lit ?_
 refine Zy rfl rfl (Z0z (v:=.agg _) rfl rfl) (by simp only [ls,lz];exact rfl) fun w1 hw=>?_
 obtain ⟨n1,hn⟩:∃ n,n = w.heap.size:=⟨_,rfl⟩
 rw [← hn]
 have l1:w.heap.size ≤ n1:=by rw [hn];exact E.size
 have q1:=Zr hw hn
 replace E:=Z2 E hw
 clear hw hn
 refine Z3 rfl rfl (Z8 (v:=.int .i64 _) rfl rfl) (by simp only [ls,lz];exact rfl) ?_
 refine wpList_nil ?_
 go_upto_region 1 with (fail)
 refine wp_region_lit ?_
 refine Z3 rfl rfl (Z9 rfl rfl Try.underlying23 rfl (n:=1) (sz:=1) rfl (by kernel_rfl) (by decide)) (by simp only [ls,lz];exact rfl) ?_
 refine Z3 rfl rfl (Zh rfl rfl Try.underlying3 rfl ((Z0 q1 1).trans (getS (get0)))) (by simp only [ls,lz];exact rfl) ?_
 refine Z3 rfl rfl (Z9 rfl rfl Try.underlying23 rfl (n:=0) (sz:=1) rfl (by kernel_rfl) (by decide)) (by simp only [ls,lz];exact rfl) ?_
 refine Z3 rfl rfl (Zh rfl rfl Try.underlying3 rfl ((Z0 q1 0).trans (get0))) (by simp only [ls,lz];exact rfl) ?_
 refine Z3 rfl rfl (Z1I rfl rfl rfl (by omega) (by omega)) (by simp only [ls,lz];exact rfl) ?_
 refine Z3 rfl rfl (Z0F rfl rfl rfl (by omega) (by omega)) (by simp only [ls,lz];exact rfl) ?_
 refine Z3 rfl rfl (Z8 (v:=.int .i64 _) rfl rfl) (by simp only [ls,lz];exact rfl) ?_
 refine wpList_nil ?_
 go_wp2
 go_ret
 exact ⟨rfl,E⟩
def Z23 (many:Nat):Nat → Nat → Nat → List Nat
 | 0,s,_=>[s]
 | more + 1,s,from_=>(List.range (many - more - from_)).flatMap fun k=>Z23 many more (s ||| 2 ^ (from_ + k)) (from_ + k + 1)
def Z3q (many:Nat):List Nat:=(List.range (many + 1)).flatMap fun size=>Z23 many size 0 0
theorem Z2m {α:Type} (f:Nat → List α) (k:Nat):(List.range (k + 1)).flatMap f = (List.range k).flatMap f ++ f k:=by
 rw [List.range_succ,List.flatMap_append];simp
theorem Z2O {α:Type} (f:Nat → List α) {k n:Nat} (h:k ≤ n):(List.range k).flatMap f <+: (List.range n).flatMap f:=by
 obtain ⟨d,rfl⟩:=Nat.exists_eq_add_of_le h
 induction d with
 | zero=>exact List.prefix_refl _
 | succ d ih=>exact (ih (by omega)).trans ⟨f (k + d),by rw [← Z2m];rfl⟩
structure KeepC (X:List Nat) (w w':World):Prop where
 os:w'.os = w.os
 tape:w'.tape = w.tape
 output:w'.output = w.output
 size:w.heap.size ≤ w'.heap.size
 block:∀ (k:Nat) (o:Obj),w.heap[k]? = some o → o.isCells = true → k ∉ X → w'.heap[k]? = some o
theorem KeepC.refl (X:List Nat) (w:World):KeepC X w w:=⟨rfl,rfl,rfl,Nat.le_refl _,fun _ _ h _ _=>h⟩
theorem KeepC.trans {X:List Nat} {a b c:World} (h:KeepC X a b) (k:KeepC X b c):KeepC X a c:=
 ⟨k.os.trans h.os,k.tape.trans h.tape,k.output.trans h.output,Nat.le_trans h.size k.size,fun i o hi hc hx=>k.block i o (h.block i o hi hc hx) hc hx⟩
theorem KeepC.of_ext {X:List Nat} {a b:World} (h:Ext X a b):KeepC X a b:=
 ⟨h.os,h.tape,h.output,h.size,fun i o hi _ hx=>h.keep hi hx⟩
theorem KeepC.put {X:List Nat} (W:World) (l:Nat) (o o':Obj) (hl:W.heap[l]? = some o) (hc:o.isCells = false):KeepC X W (W.putObj l o'):=by
 refine ⟨rfl,rfl,rfl,by simp [World.putObj],fun k x hk hx _=>?_⟩
 have:k ≠ l:=fun e=>by subst e;rw [hl] at hk;cases hk;rw [hc] at hx;cases hx
 rw [World.putObj_heap_other this];exact hk
theorem KeepC.cells {X:List Nat} {a b:World} (h:KeepC X a b) {k:Nat} {cs:Array Value} {T:TypeId} {fz:Nat × Nat} (H:a.heap[k]? = some (.cells cs T fz)) (hx:k ∉ X):b.heap[k]? = some (.cells cs T fz):=h.block k _ H rfl hx
theorem KeepC.mono {X Y:List Nat} {a b:World} (h:KeepC X a b) (hs:∀ i ∈ X,i ∈ Y):KeepC Y a b:=⟨h.os,h.tape,h.output,h.size,fun i o hi hc hx=>h.block i o hi hc (fun hm=>hx (hs i hm))⟩
theorem Z8P {s n:Nat} (hs:s < 65536) (hn:n < 16):s ||| 2 ^ n < 65536:=
 Nat.or_lt_two_pow (n:=16) hs (Nat.pow_lt_pow_right (by decide) hn)
end Go.Proofs.Ytholfdgebdlgjaa
namespace Go.Proofs.Ytholfdgebdlgjaa
open Go.RowKit Go.Shelf
attribute [local go_sem] Oper.semAt_some
theorem Z8j {F:Fence} (hd:F.depth = none) (k:Nat):F.room k:=fun d h=>by rw [hd] at h;cases h
theorem Z9b {F:Fence} (hd:F.depth = none) {m m':Nat} {P:Program} {l:Nat} {f:FuncId} {tmps:Array Value} {assign body:Code} {w:World} {R:Ending → World → Prop}
  (h:RoundIn F m P l f tmps assign body w R):RoundIn F m' P l f tmps assign body w R:=⟨h.1,fun c cs _=>h.2 c cs (Z8j hd _)⟩
theorem Z8A {F:Fence} (hd:F.depth = none) {m:Nat} (m':Nat) {P:Program} {l:Nat} {args:Array Value} {W:World} {R:Ending → World → Prop} (h:YieldAt F m P l args W R):YieldAt F m' P l args W R:=by
 obtain ⟨fn,tmps,assign,body,hy,hR⟩:=h
 exact ⟨fn,tmps,assign,body,hy,Z9b hd hR⟩
set_option maxRecDepth 100000 in
set_option maxHeartbeats 4000000 in
theorem ZaL (l yb mb gb many N:Nat) (hm:many ≤ 15) (X:List Nat) (hy:yb ∉ X) (hb:mb ∉ X) (hgb:gb ∉ X) (J Jx:List Nat → World → Prop)
  (hJd:∀ pre W W',J pre W → W'.heap = W.heap → W'.os = W.os → W'.tape = W.tape → W'.output = W.output → J pre W')
  (hY:∀ m pre (x:Nat) W,J pre W → pre.length < N → x < 65536 → YieldAt Fence.wide m Try.prog l #[.int .u16 x] W fun e W' =>
   (e = .returned (.bool true) ∧ J (pre ++ [x]) W' ∧ KeepC X W W') ∨ (e = .returned (.bool false) ∧ Jx (pre ++ [x]) W')) :
  ∀ (more n s from_:Nat) (pre:List Nat) (W:World),s < 65536 → from_ ≤ 16 → more ≤ many + 1 → J pre W → pre.length + (Z23 many more s from_).length ≤ N →
   W.heap[yb]? = some (.cells #[.func (.yield l) #[] #[]] 140 (0,0)) → W.heap[mb]? = some (.cells #[.int .i64 many] 3 (0,0)) →
   W.heap[gb]? = some (.cells #[.func (.func 139) #[] #[.pointer (some ⟨yb,0,none⟩),.pointer (some ⟨mb,0,none⟩),.pointer (some ⟨gb,0,none⟩)]] 170 (0,0)) →
   CallsIn Fence.wide n Try.prog 139 #[.int .u16 s,.int .i64 from_,.int .i64 more,.pointer (some ⟨yb,0,none⟩),.pointer (some ⟨mb,0,none⟩),.pointer (some ⟨gb,0,none⟩)] W fun e W' =>
    (e = .returned (.bool true) ∧ J (pre ++ Z23 many more s from_) W' ∧ KeepC X W W') ∨ (e = .returned (.bool false) ∧ ∃ q,q <+: Z23 many more s from_ ∧ Jx (pre ++ q) W'):=by
 have hdd:∀ k:Nat,(Fence.wide.depth.isSome = true → 1 ≤ k):=fun k h=>by cases h
 intro more
 induction more with
 | zero =>
  intro n s from_ pre W hs hf hmo hJ hN hyb hmb hgbl
  obtain ⟨fn,tmps,assign,body,hyy,hR⟩:=hY (n - 1) pre s W hJ (by simp [Z23] at hN;omega) hs
  have cy:=(Z0 hyb 0).trans get0
  refine callsIn_of_wp Try.func139 rfl trivial ?_ rfl
  simp only [Try.ntmps139,List.size_toArray,List.length_cons,List.length_nil,Nat.reduceAdd,Nat.reduceSub,Array.replicate_succ,Array.replicate_zero,List.push_toArray,List.append_toArray,List.nil_append,List.cons_append]
  gi_wp2_with ((try refine ⟨hdd _,?_⟩);refine hR.mono ?_;clear hR;rintro e W2 (⟨rfl,hJ2,hk2⟩ | ⟨rfl,hx2⟩))
  ·go_ret
   exact .inl ⟨rfl,hJ2,hk2⟩
  ·go_ret
   exact .inr ⟨rfl,[s],List.prefix_refl _,hx2⟩
 | succ more ih =>
  intro n s from_ pre W hs hf hmo hJ hN hyb hmb hgbl
  have cb:=(Z0 hmb 0).trans get0
  have ih':∀ (s from_:Nat) (si fi mi:Int) (pre:List Nat) (W:World),si = s → fi = from_ → mi = more → s < 65536 → from_ ≤ 16 → J pre W → pre.length + (Z23 many more s from_).length ≤ N →
    W.heap[yb]? = some (.cells #[.func (.yield l) #[] #[]] 140 (0,0)) → W.heap[mb]? = some (.cells #[.int .i64 many] 3 (0,0)) →
    W.heap[gb]? = some (.cells #[.func (.func 139) #[] #[.pointer (some ⟨yb,0,none⟩),.pointer (some ⟨mb,0,none⟩),.pointer (some ⟨gb,0,none⟩)]] 170 (0,0)) →
    Calls Try.prog 139 #[.int .u16 si,.int .i64 fi,.int .i64 mi,.pointer (some ⟨yb,0,none⟩),.pointer (some ⟨mb,0,none⟩),.pointer (some ⟨gb,0,none⟩)] W fun e W'=>∃ b:Bool,e = .returned (.bool b) ∧
     ((b = true ∧ J (pre ++ Z23 many more s from_) W' ∧ KeepC X W W') ∨ (b = false ∧ ∃ q,q <+: Z23 many more s from_ ∧ Jx (pre ++ q) W')):=fun s from_ si fi mi pre W g1 g2 g3 h1 h2 h3 h4 h5 h6 h7=>by
   subst g1 g2 g3
   exact (callsIn_wide.1 (ih n s from_ pre W h1 h2 (by omega) h3 h4 h5 h6 h7)).mono fun e W' h=>by
    rcases h with ⟨rfl,h⟩ | ⟨rfl,h⟩
    ·exact ⟨true,rfl,.inl ⟨rfl,h⟩⟩
    ·exact ⟨false,rfl,.inr ⟨rfl,h⟩⟩
  have IH:=Lib.hid ih';clear ih ih'
  have HJd:=Lib.hid hJd;clear hJd
  clear hY
  refine callsIn_wide.2 ?_
  go_enter Try.func139,Try.ntmps139
  go_wp2_with fail
  go_loopw [10] (fun p wr=>∃ k:Nat,k ≤ many - more - from_ ∧ p = .int .i64 ((from_ + k:Nat):Int) ∧ J (pre ++ (List.range k).flatMap fun k=>Z23 many more (s ||| 2 ^ (from_ + k)) (from_ + k + 1)) wr ∧ KeepC X W wr ∧
   wr.heap[yb]? = some (.cells #[.func (.yield l) #[] #[]] 140 (0,0)) ∧ wr.heap[mb]? = some (.cells #[.int .i64 many] 3 (0,0)) ∧
   wr.heap[gb]? = some (.cells #[.func (.func 139) #[] #[.pointer (some ⟨yb,0,none⟩),.pointer (some ⟨mb,0,none⟩),.pointer (some ⟨gb,0,none⟩)]] 170 (0,0))) (fun p _=>many + 1 - (intOf p).toNat)
  case atStart=>exact ⟨0,Nat.zero_le _,rfl,by simpa using hJ,KeepC.refl _ _,hyb,hmb,hgbl⟩
  case round =>
   clear cb hyb hmb hgbl hJ
   obtain ⟨k,hk,rfl,hJk,hkc,hyb,hmb,hgbl⟩:=hrel
   have cb:=(Z0 hmb 0).trans get0
   by_cases hlt:k < many - more - from_
   ·have hi:((from_ + k:Nat):Int) ≤ (many:Int) - ((more + 1:Nat):Int):=by omega
    have hll:(pre ++ (List.range k).flatMap fun k=>Z23 many more (s ||| 2 ^ (from_ + k)) (from_ + k + 1)).length + (Z23 many more (s ||| 2 ^ (from_ + k)) (from_ + k + 1)).length ≤ N:=by
     have:=(Z2O (fun k=>Z23 many more (s ||| 2 ^ (from_ + k)) (from_ + k + 1)) (k:=k + 1) (n:=many - more - from_) (by omega)).length_le
     rw [Z2m,List.length_append] at this
     rw [List.length_append]
     simp only [Z23] at hN
     omega
    have E:Ext [] wr wr:=Ext.refl _ _
    go_upto_region 6 with (fail)
    refine Z0g 8 follows (by kernel_rfl) fun w1 hw1 ew1=>?_
    replace hyb:=Zn hw1 hyb
    replace hmb:=Zn hw1 hmb
    replace hgbl:=Zn hw1 hgbl
    replace E:=Z4 E ew1
    replace hJk:=HJd.out _ _ _ hJk hw1 ew1.os ew1.tape ew1.output
    replace hkc:=hkc.trans (KeepC.of_ext (ew1.mono (by simp)))
    refine Zp rfl rfl (Zh rfl rfl Try.underlying170 rfl ((Z0 hgbl 0).trans (get0))) (by simp only [ls,lz];exact rfl) ?_
    refine Zp rfl rfl (Zi (v:=.int .u16 _) rfl rfl) (by simp only [ls,lz];exact rfl) ?_
    refine Zp rfl rfl (Zi (v:=.int .i64 _) rfl rfl) (by simp only [ls,lz];exact rfl) ?_
    refine Z0Z rfl rfl (by kernel_rfl) (Za4 (s:Int) ((from_ + k:Nat):Int) _ (by omega) (by omega) (by omega) (by omega)) (by simp only [ls,lz];exact rfl) ?_
    refine Zp rfl rfl (Zi (v:=.int .i64 _) rfl rfl) (by simp only [ls,lz];exact rfl) ?_
    refine Zp rfl rfl (Z0F rfl rfl rfl (by omega) (by omega)) (by simp only [ls,lz];exact rfl) ?_
    refine Zp rfl rfl (Zi (v:=.int .i64 _) rfl rfl) (by simp only [ls,lz];exact rfl) ?_
    refine Zp rfl rfl (Z1I rfl rfl rfl (by omega) (by omega)) (by simp only [ls,lz];exact rfl) ?_
    refine wpStill_nil ?_
    refine ZC rfl rfl (by kernel_rfl) (IH.out (s ||| 2 ^ (from_ + k)) (from_ + k + 1) ((((s:Int).toNat ||| 2 ^ (((from_ + k:Nat):Int)).toNat:Nat):Int)) (((from_ + k:Nat):Int) + 1) (((more + 1:Nat):Int) - 1) _ _ (by rw [Int.toNat_natCast,Int.toNat_natCast]) (by omega) (by omega) (Z8P hs (by omega)) (by omega) hJk hll hyb hmb hgbl) fun e w9 hR=>?_
    obtain ⟨b,rfl,hres⟩:=hR
    refine ⟨_,_,rfl,(by simp only [ls,lz];exact rfl),?_⟩
    refine Z3 rfl rfl (Z45 rfl rfl) (by simp only [ls,lz];exact rfl) ?_
    refine wpList_nil ?_
    rcases hres with ⟨rfl,hJ2,hk2⟩ | ⟨rfl,q,hq,hx⟩
    ·have hyb2:=hk2.cells hyb hy
     have hmb2:=hk2.cells hmb hb
     have hgb2:=hk2.cells hgbl hgb
     have hkk:=hkc.trans hk2
     have H1:Hid (J (pre ++ (List.range (k + 1)).flatMap fun k=>Z23 many more (s ||| 2 ^ (from_ + k)) (from_ + k + 1)) w9):=by
      show J _ _
      rw [Z2m,← List.append_assoc];exact hJ2
     clear hyb hmb hgbl cb
     go_wp2
     go_roundw
     case rel=>exact ⟨k + 1,by omega,by go_num,H1.out,hkk,hyb2,hmb2,hgb2⟩
     case measure=>simp [intOf];omega
    ·go_wp2
     go_ret
     refine .inr ⟨rfl,_,?_,by rw [← List.append_assoc];exact hx⟩
     simp only [Z23]
     refine List.IsPrefix.trans ?_ (Z2O _ (k:=k + 1) (by omega))
     rw [Z2m]
     exact (List.prefix_append_right_inj _).2 hq
   ·have hk':k = many - more - from_:=by omega
    have hi:¬ ((from_ + k:Nat):Int) ≤ (many:Int) - ((more + 1:Nat):Int):=by omega
    have H1:Hid (J (pre ++ Z23 many (more + 1) s from_) wr):=by
     show J _ _
     simp only [Z23];rw [← hk'];exact hJk
    go_wp2
    go_ret
    exact .inl ⟨rfl,H1.out,hkc⟩
attribute [local go_sem] Oper.semAt_some
abbrev SetN:={ x:Nat // x < 65536 }
theorem Z35 {W W':World} (h:Ext [] W W'):W.grownBy W' none:=⟨h.os,h.tape,h.output,h.size,fun k hk _=>h.block k hk (by simp)⟩
set_option maxRecDepth 100000 in
set_option maxHeartbeats 4000000 in
theorem Z6Q (n many mb:Nat) (hm:many ≤ 15) (X:List Nat) (w:World) (hb:mb ∉ X) (hX:∀ b ∈ X,b < w.heap.size) (hmb:w.heap[mb]? = some (.cells #[.int .i64 many] 3 (0,0))) :
  SeqStopsK Fence.wide n Try.prog 138 #[.pointer (some ⟨mb,0,none⟩)] (fun x:SetN=>#[Value.int .u16 x.1]) (KeepC X) (fun ys=>ys.map (·.1) = Z3q many) (fun pre=>pre.map (·.1) <+: Z3q many) (Z3q many).length w:=by
 intro l J Jx W0 hW hJ hJx hY h0
 have hmb0:W0.heap[mb]? = some (.cells #[.int .i64 many] 3 (0,0)):=Z5Y hW hmb (Z7 hmb)
 have hX0:∀ b ∈ X,b < W0.heap.size:=fun b hbx=>Nat.lt_of_lt_of_le (hX b hbx) hW.size
 have HG:=Lib.hid (fun (yb gb:Nat) (h1:yb ∉ X) (h2:gb ∉ X)=>ZaL l yb mb gb many (Z3q many).length hm X h1 hb h2 (fun pre W=>∃ p:List SetN,p.map (·.1) = pre ∧ J p W) (fun pre W=>∃ p:List SetN,p.map (·.1) = pre ∧ Jx p W)
  (fun pre W W' h e1 e2 e3 e4=>by
   obtain ⟨p,hp,hj⟩:=h
   exact ⟨p,hp,hJ p W W' none hj ⟨e2,e3,e4,by rw [e1];exact Nat.le_refl _,fun k _ _=>by rw [e1]⟩ (by simp)⟩)
  (fun m pre x W h hl hx=>by
   obtain ⟨p,hp,hj⟩:=h
   have hl':p.length < (Z3q many).length:=by rw [← hp,List.length_map] at hl;exact hl
   refine YieldAt.mono (Z8A rfl m (hY p ⟨x,hx⟩ W hj hl')) fun e W' hr=>?_
   rcases hr with ⟨he,hj2,hk⟩ | ⟨he,hj2⟩
   ·exact .inl ⟨he,⟨_,by rw [List.map_append,hp];rfl,hj2⟩,hk⟩
   ·exact .inr ⟨he,⟨_,by rw [List.map_append,hp];rfl,hj2⟩⟩))
 have HJ:=Lib.hid hJ
 clear hY hJ hJx
 refine callsIn_wide.2 ?_
 show Calls _ _ #[.func (.yield l) #[] #[],.pointer (some ⟨mb,0,none⟩)] _ _
 have E:Ext [] W0 W0:=Ext.refl _ _
 go_enter Try.func138,Try.ntmps138
 go_upto_region 0 with (fail)
 refine wp_region_lit ?_
 refine Zy rfl rfl (Z0z (v:=.func _ _ _) rfl rfl) (by simp only [ls,lz];exact rfl) fun w1 hw=>?_
 obtain ⟨n2,hn⟩:∃ n,n = W0.heap.size:=⟨_,rfl⟩
 rw [← hn]
 have l2:W0.heap.size ≤ n2:=by rw [hn];exact E.size
 have m2_mb0:mb < n2:=by rw [hn];exact Z7 hmb0
 replace hmb0:=Z1 hw hmb0
 have q2:=Z4v hw rfl hn
 replace E:=Z2 E hw
 clear hw hn
 refine wpList_nil ?_
 go_upto_region 1 with (fail)
 refine wp_region_lit ?_
 refine Zy rfl rfl (ZB rfl Try.zeroValue170) (by simp only [ls,lz];exact rfl) fun w2 hw=>?_
 obtain ⟨n3,hn⟩:∃ n,n = w1.heap.size:=⟨_,rfl⟩
 rw [← hn]
 have l3:W0.heap.size ≤ n3:=by rw [hn];exact E.size
 have m3_mb0:mb < n3:=by rw [hn];exact Z7 hmb0
 have m3_2:n2 < n3:=by rw [hn];exact Z7 q2
 replace hmb0:=Z1 hw hmb0
 replace q2:=Z1 hw q2
 have q3:=Z4v hw rfl hn
 replace E:=Z2 E hw
 clear hw hn
 refine wpList_nil ?_
 go_upto_region 2 with (fail)
 refine wp_region_lit ?_
 refine Z3 rfl rfl (Z3k (us:=#[]) (vs:=#[.pointer (some ⟨n2,0,none⟩),.pointer (some ⟨mb,0,none⟩),.pointer (some ⟨n3,0,none⟩)]) rfl (by kernel_rfl) (by kernel_rfl)) (by simp only [ls,lz];exact rfl) ?_
 refine ZY rfl rfl (ZR (v:=.func _ _ _) rfl rfl rfl rfl (by kernel_rfl) ((Z0 q3 0).trans rfl) (Zl q3 0)) fun w3 hw=>?_
 replace hmb0:=ZA hw hmb0 (by omega)
 replace q2:=ZA hw q2 (by omega)
 replace q3:=ZK hw q3 (by simp only [List.setIfInBounds_toArray,ls,lz];exact rfl)
 replace E:=ZF E hw (fun h=>by first | exact absurd h (by omega) | simp)
 clear hw
 refine wpList_nil ?_
 have hJ3:=HJ.out [] W0 _ none h0 (Z35 E) (by simp)
 have ny:n2 ∉ X:=fun h=>by have:=hX0 _ h;omega
 have ng:n3 ∉ X:=fun h=>by have:=hX0 _ h;omega
 have cb:=(Z0 hmb0 0).trans get0
 go_wp2_with fail
 go_loopw [8] (fun iv wr=>∃ k:Nat,k ≤ many + 1 ∧ iv = .int .i64 k ∧ (∃ p:List SetN,p.map (·.1) = (List.range k).flatMap (fun size=>Z23 many size 0 0) ∧ J p wr) ∧
  wr.heap[n2]? = some (.cells #[.func (.yield l) #[] #[]] 140 (0,0)) ∧ wr.heap[mb]? = some (.cells #[.int .i64 many] 3 (0,0)) ∧
  wr.heap[n3]? = some (.cells #[.func (.func 139) #[] #[.pointer (some ⟨n2,0,none⟩),.pointer (some ⟨mb,0,none⟩),.pointer (some ⟨n3,0,none⟩)]] 170 (0,0))) (fun iv _=>many + 1 - (intOf iv).toNat)
 case atStart=>exact ⟨0,Nat.zero_le _,rfl,⟨[],rfl,hJ3⟩,q2,hmb0,q3⟩
 case round =>
  clear cb q2 q3 hmb0 E hJ3
  obtain ⟨k,hk,rfl,hjk,q2,hmb0,q3⟩:=hrel
  by_cases hlt:k < many + 1
  ·have hll:((List.range k).flatMap (fun size=>Z23 many size 0 0)).length + (Z23 many k 0 0).length ≤ (Z3q many).length:=by
    have:=(Z2O (fun size=>Z23 many size 0 0) (k:=k + 1) (n:=many + 1) (by omega)).length_le
    rw [Z2m,List.length_append] at this
    exact this
   have hc:Calls Try.prog 139 #[.int .u16 0,.int .i64 0,.int .i64 k,.pointer (some ⟨n2,0,none⟩),.pointer (some ⟨mb,0,none⟩),.pointer (some ⟨n3,0,none⟩)] wr fun e W'=>∃ b:Bool,e = .returned (.bool b) ∧
     ((b = true ∧ (∃ p:List SetN,p.map (·.1) = (List.range (k + 1)).flatMap (fun size=>Z23 many size 0 0) ∧ J p W') ∧ KeepC X wr W') ∨ (b = false ∧ ∃ p:List SetN,p.map (·.1) <+: Z3q many ∧ Jx p W')):=
    (callsIn_wide.1 (HG.out n2 n3 ny ng k n 0 0 _ wr (by omega) (by omega) (by omega) hjk hll q2 hmb0 q3)).mono fun e W' h=>by
     rcases h with ⟨rfl,h,h2⟩ | ⟨rfl,q,hq,p,hp,hx⟩
     ·exact ⟨true,rfl,.inl ⟨rfl,by rw [Z2m];exact h,h2⟩⟩
     ·refine ⟨false,rfl,.inr ⟨rfl,p,?_,hx⟩⟩
      rw [hp]
      refine List.IsPrefix.trans ?_ (Z2O _ (k:=k + 1) (n:=many + 1) (by omega))
      rw [Z2m]
      exact (List.prefix_append_right_inj _).2 hq
   have E:Ext [] wr wr:=Ext.refl _ _
   go_upto_region 6 with (fail)
   refine wp_region_lit ?_
   refine Z3 rfl rfl (Zh rfl rfl Try.underlying170 rfl ((Z0 q3 0).trans (get0))) (by simp only [ls,lz];exact rfl) ?_
   refine Z3 rfl rfl (Zi (v:=.int .i64 _) rfl rfl) (by simp only [ls,lz];exact rfl) ?_
   refine ZC rfl rfl (by kernel_rfl) hc fun e w9 hR=>?_
   obtain ⟨b,rfl,hres⟩:=hR
   refine ⟨_,_,rfl,(by simp only [ls,lz];exact rfl),?_⟩
   refine Z3 rfl rfl (Z45 rfl rfl) (by simp only [ls,lz];exact rfl) ?_
   refine wpList_nil ?_
   rcases hres with ⟨rfl,hJ2,hk2⟩ | ⟨rfl,p,hp,hx⟩
   ·have hyb2:=hk2.cells q2 ny
    have hmb2:=hk2.cells hmb0 hb
    have hgb2:=hk2.cells q3 ng
    clear q2 hmb0 q3 hc
    go_wp2
    go_roundw
    case rel=>exact ⟨k + 1,by omega,by go_num,hJ2,hyb2,hmb2,hgb2⟩
    case measure=>simp [intOf];omega
   ·go_wp2
    refine bodyPost_ret (v:=.tuple #[]) (by simp [results,Try.results138]) rfl ⟨⟨_,rfl⟩,.inr ⟨p,hp,hx⟩⟩
  ·obtain rfl:k = many + 1:=by omega
   go_wp2
   go_end0
   exact ⟨⟨_,rfl⟩,.inl hjk⟩
theorem Z7e (many:Int) (w:World) :
  Calls Try.prog 111 #[.int .i64 many] w fun e w'=>∃ mb,e = .returned (.func (.func 138) #[] #[.pointer (some ⟨mb,0,none⟩)]) ∧ w.heap.size ≤ mb ∧ w'.heap[mb]? = some (.cells #[.int .i64 many] 3 (0,0)) ∧ Ext [] w w':=by
 have E:Ext [] w w:=Ext.refl _ _
 go_enter Try.func111,Try.ntmps111
 go_upto_region 0 with (fail)
 refine wp_region_lit ?_
 refine Zy rfl rfl (Z0z (v:=.int .i64 _) rfl rfl) (by simp only [ls,lz];exact rfl) fun w1 hw=>?_
 obtain ⟨n1,hn⟩:∃ n,n = w.heap.size:=⟨_,rfl⟩
 rw [← hn]
 have l1:w.heap.size ≤ n1:=by rw [hn];exact E.size
 have q1:=Z4v hw rfl hn
 replace E:=Z2 E hw
 clear hw hn
 refine Z3 rfl rfl (Z8 (v:=.nilFunc) rfl rfl) (by simp only [ls,lz];exact rfl) ?_
 refine wpList_nil ?_
 go_upto_region 1 with (fail)
 refine wp_region_lit ?_
 refine Z3 rfl rfl (Z3k (us:=#[]) (vs:=#[.pointer (some ⟨n1,0,none⟩)]) rfl (by kernel_rfl) (by kernel_rfl)) (by simp only [ls,lz];exact rfl) ?_
 refine Z3 rfl rfl (Z8 (v:=.func _ _ _) rfl rfl) (by simp only [ls,lz];exact rfl) ?_
 refine wpList_nil ?_
 go_wp2
 go_ret
 exact ⟨n1,rfl,l1,q1,E⟩
attribute [local go_sem] Oper.semAt_some
theorem Z34 {B:Nat} {W W':World} {row:Option Nat} (hg:W.grownBy W' row) (hr:∀ r,row = some r → B ≤ r ∧ ∃ o:Obj,W.heap[r]? = some o ∧ o.isCells = false) {k:Nat} {cs:Array Value} {T:TypeId} {fz:Nat × Nat} (h:W.heap[k]? = some (.cells cs T fz)):W'.heap[k]? = some (.cells cs T fz):=by
 refine (hg.block k (Z7 h) fun e=>?_).trans h
 obtain ⟨_,o,ho,hc⟩:=hr k e.symm
 rw [h] at ho;cases ho;cases hc
theorem Z6s {B:Nat} {w W W':World} {row:Option Nat} (hB:w.heap.size ≤ B) (hs:Ext [] w W) (hg:W.grownBy W' row) (hr:∀ r,row = some r → B ≤ r ∧ ∃ o:Obj,W.heap[r]? = some o ∧ o.isCells = false):Ext [] w W':=
 Ext.of_below (hs.below.grown hg hs.size (fun k e=>Nat.le_trans hB (hr k e).1))
theorem Zah {P:Program} {fn:Func} {tmps:Array Value} {w:World} {t t2:Tmp} {ty ty2:TypeId} {b b2:Nat} {v v2:Value} {T T2:TypeId} {d d2:TypeDesc} {fz fz2:Nat × Nat} (hr:fn.results = #[.cell t ty,.cell t2 ty2]) (ht:tmps.getD t undef = .pointer (some ⟨b,0,none⟩)) (hd:P.underlying ty = some d) (ha:d.isRow = false) (H:w.heap[b]? = some (.cells #[v] T fz))
  (ht2:tmps.getD t2 undef = .pointer (some ⟨b2,0,none⟩)) (hd2:P.underlying ty2 = some d2) (ha2:d2.isRow = false) (H2:w.heap[b2]? = some (.cells #[v2] T2 fz2)) :
  (results fn tmps).run P w = .ok (.tuple #[v,v2]) w:=by
 have hl:(loadVar ty ⟨b,0,none⟩).run P w = .ok v w:=by
  have hc:=(Z0 H 0).trans get0
  cases d <;> first | (simp [TypeDesc.isRow] at ha;done) | simp [loadVar,isAgg,underlying,hd,load,hc,Sem.run,go_sem]
 have hl2:(loadVar ty2 ⟨b2,0,none⟩).run P w = .ok v2 w:=by
  have hc:=(Z0 H2 0).trans get0
  cases d2 <;> first | (simp [TypeDesc.isRow] at ha2;done) | simp [loadVar,isAgg,underlying,hd2,load,hc,Sem.run,go_sem]
 have ht':tmps[t]?.getD undef = .pointer (some ⟨b,0,none⟩):=by simpa using ht
 have ht2':tmps[t2]?.getD undef = .pointer (some ⟨b2,0,none⟩):=by simpa using ht2
 simp [results,hr,ht',ht2',asAddr,hl,hl2,Sem.run_bind,Result.andThen]
theorem Z4n {W:World} {D k:Nat} {o o':Obj} {cs:Array Value} {T:TypeId} {fz:Nat × Nat} (hD:W.heap[D]? = some o) (hc:o.isCells = false) (h:W.heap[k]? = some (.cells cs T fz)):(W.putObj D o').heap[k]? = some (.cells cs T fz):=by
 have:k ≠ D:=fun e=>by subst e;rw [hD] at h;cases h;cases hc
 rw [World.putObj_heap_other this];exact h
theorem Z8d {w W:World} {D:Nat} {o':Obj} (h:Ext [] w W) (hD:w.heap.size ≤ D):Ext [] w (W.putObj D o'):=
 ⟨h.os,h.tape,h.output,by simpa [World.putObj] using h.size,fun k hk hx=>(World.putObj_heap_other (by omega)).trans (h.block k hk hx)⟩
set_option maxRecDepth 100000 in
set_option maxHeartbeats 4000000 in
theorem Z9g (many mb:Nat) (hm:many ≤ 15) (b1 b2:Nat) (p:Nat → Bool) (w:World) (hmb:w.heap[mb]? = some (.cells #[.int .i64 many] 3 (0,0)))
  (hso:∀ (x:Nat) (W:World),x < 65536 → Ext [] w W → Calls Try.prog 112 #[.int .u16 x,.pointer (some ⟨b1,0,none⟩),.pointer (some ⟨b2,0,none⟩)] W fun e W'=>e = .returned (.bool (p x)) ∧ Ext [] W W') :
  Calls Try.prog 110 #[.func (.func 138) #[] #[.pointer (some ⟨mb,0,none⟩)],.func (.func 112) #[] #[.pointer (some ⟨b1,0,none⟩),.pointer (some ⟨b2,0,none⟩)]] w fun e w' =>
   e = .returned (.tuple #[.int .u16 (((Z3q many).find? p).getD 0:Nat),.bool ((Z3q many).find? p).isSome]) ∧ Ext [] w w':=by
 have Hso:=Lib.hid hso;clear hso
 refine (callsIn_wide (n:=3)).1 ?_
 refine callsIn_of_wp_marks Try.func110 rfl trivial ?_ rfl
 simp only [Try.ntmps110,List.size_toArray,List.length_cons,List.length_nil,Nat.reduceAdd,Nat.reduceSub,Array.replicate_succ,Array.replicate_zero,List.push_toArray,List.append_toArray,List.nil_append,List.cons_append]
 gi_wp2
 have q3:(((w.alloc (.cells #[.func (.func 112) #[] #[.pointer (some ⟨b1,0,none⟩),.pointer (some ⟨b2,0,none⟩)]] 140)).alloc (.cells #[.int .u16 0] 109)).alloc (.cells #[.bool false] 4)).heap[w.heap.size]? = _:=Z1k (Z1k (Z0V rfl))
 have q4:(((w.alloc (.cells #[.func (.func 112) #[] #[.pointer (some ⟨b1,0,none⟩),.pointer (some ⟨b2,0,none⟩)]] 140)).alloc (.cells #[.int .u16 0] 109)).alloc (.cells #[.bool false] 4)).heap[w.heap.size + 1]? = _:=Z1k (Z0V (Z0N _ _).symm)
 have q5:(((w.alloc (.cells #[.func (.func 112) #[] #[.pointer (some ⟨b1,0,none⟩),.pointer (some ⟨b2,0,none⟩)]] 140)).alloc (.cells #[.int .u16 0] 109)).alloc (.cells #[.bool false] 4)).heap[w.heap.size + 1 + 1]? = _:=Z0V (by rw [Z0N,Z0N])
 have E:Ext [] w (((w.alloc (.cells #[.func (.func 112) #[] #[.pointer (some ⟨b1,0,none⟩),.pointer (some ⟨b2,0,none⟩)]] 140)).alloc (.cells #[.int .u16 0] 109)).alloc (.cells #[.bool false] 4)):=(((Ext.refl _ _).alloc _).alloc _).alloc _
 generalize (((w.alloc (.cells #[.func (.func 112) #[] #[.pointer (some ⟨b1,0,none⟩),.pointer (some ⟨b2,0,none⟩)]] 140)).alloc (.cells #[.int .u16 0] 109)).alloc (.cells #[.bool false] 4)) = W0 at q3 q4 q5 E ⊢
 generalize hN0:w.heap.size = N0 at q3 q4 q5 ⊢
 have hq5:=Z7 q5
 have E0:=E
 refine wpIn_rangeFunc_ownF (α:=SetN) rfl (by omega) (gf:=138) (lb:=#[.pointer (some ⟨mb,0,none⟩)]) rfl trivial (enters_of Try.func138 (by kernel_rfl) rfl)
  (Z6Q _ many mb hm [N0 + 1,N0 + 1 + 1] W0 (by have:=Z7 hmb;simp;omega) (by simp;omega) (E.keep0 hmb)) KeepC.trans (fun W l o o' _ hl hc _=>KeepC.put W l o o' hl hc) (Below.refl _ _) (fun _=>rfl)
  (fun pre W=>(∀ x ∈ pre,p x.1 = false) ∧ W.heap[N0]? = some (.cells #[.func (.func 112) #[] #[.pointer (some ⟨b1,0,none⟩),.pointer (some ⟨b2,0,none⟩)]] 140 (0,0)) ∧ W.heap[N0 + 1]? = some (.cells #[.int .u16 0] 109 (0,0)) ∧ W.heap[N0 + 1 + 1]? = some (.cells #[.bool false] 4 (0,0)) ∧ Ext [] w W)
  (fun c pre W=>c = .ret ∧ ∃ (q:List SetN) (x:SetN),pre = q ++ [x] ∧ (∀ y ∈ q,p y.1 = false) ∧ p x.1 = true ∧ W.heap[N0 + 1]? = some (.cells #[.int .u16 x.1] 109 (0,0)) ∧ W.heap[N0 + 1 + 1]? = some (.cells #[.bool true] 4 (0,0)) ∧ Ext [] w W)
  (fun s A B row hs hg hr=>⟨hs.1,Z34 hg hr hs.2.1,Z34 hg hr hs.2.2.1,Z34 hg hr hs.2.2.2.1,Z6s E.size hs.2.2.2.2 hg hr⟩)
  (fun c s A B row hs hg hr=>by
   obtain ⟨hc,q,x,h1,h2,h3,h4,h5,h6⟩:=hs
   exact ⟨hc,q,x,h1,h2,h3,Z34 hg hr h4,Z34 hg hr h5,Z6s E.size h6 hg hr⟩)
  ⟨by simp,q3,q4,q5,E⟩
  (fun x=>{ tmps:=#[.func (.func 138) #[] #[.pointer (some ⟨mb,0,none⟩)],.func (.func 112) #[] #[.pointer (some ⟨b1,0,none⟩),.pointer (some ⟨b2,0,none⟩)],undef,.pointer (some ⟨N0,0,none⟩),.pointer (some ⟨N0 + 1,0,none⟩),.pointer (some ⟨N0 + 1 + 1,0,none⟩),.int .u16 x.1,undef,.func (.func 138) #[] #[.pointer (some ⟨mb,0,none⟩)],.int .u16 x.1,undef,undef,undef,undef,undef],defers:=[] }) ?assign ?body ?done ?stop
 case assign =>
  intro l x W K hK
  gi_wp2
  exact hK
 case body =>
  rintro l pre x W ⟨hp,q3,q4,q5,E⟩ _
  have c0:=(Z0 q3 0).trans get0
  have hc:=Hso.out x.1 W x.2 E
  cases hpx:p x.1
  ·rw [hpx] at hc
   gi_wp2_with ((try refine ⟨trivial,?_⟩);gi_at_call 112;refine (CallsIn.inRound l (callsIn_wide.2 hc)).mono ?_;clear hc;rintro e W2 ⟨rfl,e2⟩)
   refine ⟨KeepsOthers.of_grownBy (Z35 e2) (by simp),KeepC.of_ext (e2.mono (by simp)),fun y hy=>?_,e2.keep0 q3,e2.keep0 q4,e2.keep0 q5,E.nil e2⟩
   rcases List.mem_append.1 hy with h | h
   ·exact hp y h
   ·obtain rfl:y = x:=by simpa using h
    exact hpx
  ·rw [hpx] at hc
   gi_wp2_with ((try refine ⟨trivial,?_⟩);gi_at_call 112;refine (CallsIn.inRound l (callsIn_wide.2 hc)).mono ?_;clear hc;rintro e W2 ⟨rfl,e2⟩;have r4:=e2.keep0 q4;have r5:=e2.keep0 q5;have d4:=(Z0 r4 0).trans get0;have d5:=(Z0 r5 0).trans get0;have f4:=Zl r4 0;have f5:=Zl r5 0)
   exact ⟨((KeepsOthers.of_grownBy (Z35 e2) (by simp)).trans (KeepsOthers.setCell _ _ _)).trans (KeepsOthers.setCell _ _ _),rfl,pre,x,rfl,hp,hpx,
    ZA rfl (ZK rfl r4 (by simp)) (by omega),ZK rfl (ZA rfl r5 (by omega)) (by simp),ZF (ZF (E.nil e2) rfl (fun h=>absurd h (by omega))) rfl (fun h=>absurd h (by omega))⟩
 case done =>
  rintro D ys W hD hS ⟨hp,q3,q4,q5,E⟩ hK
  have hN:(Z3q many).find? p = none:=by
   rw [List.find?_eq_none]
   intro y hy
   rw [← hS] at hy
   obtain ⟨z,hz,rfl⟩:=List.mem_map.1 hy
   simp [hp z hz]
  have d4:=(Z0 q4 0).trans get0
  have d5:=(Z0 q5 0).trans get0
  have f4:=Zl q4 0
  have f5:=Zl q5 0
  gi_wp2
  have hK2:=((KeepsOthers.setCell W ⟨N0 + 1,0,none⟩ (.int .u16 0)).trans (KeepsOthers.setCell _ ⟨N0 + 1 + 1,0,none⟩ (.bool false))).same D _ hK rfl
  have r4:=ZA (w2:=(W.setCell ⟨N0 + 1,0,none⟩ (.int .u16 0)).setCell ⟨N0 + 1 + 1,0,none⟩ (.bool false)) rfl (ZK (cs':=#[.int .u16 0]) rfl q4 (by simp)) (by omega)
  have r5:=ZK (w2:=(W.setCell ⟨N0 + 1,0,none⟩ (.int .u16 0)).setCell ⟨N0 + 1 + 1,0,none⟩ (.bool false)) (cs':=#[.bool false]) rfl (ZA rfl q5 (by omega)) (by simp)
  have E2:=ZF (w2:=(W.setCell ⟨N0 + 1,0,none⟩ (.int .u16 0)).setCell ⟨N0 + 1 + 1,0,none⟩ (.bool false)) (ZF E rfl (fun h=>absurd h (by omega))) rfl (fun h=>absurd h (by omega))
  refine ⟨by simp,.inl ⟨_,_,rfl,run_takeDeferred hK2,?_⟩⟩
  exact ⟨_,Zah rfl rfl Try.underlying109 rfl (Z4n hK2 rfl r4) rfl Try.underlying4 rfl (Z4n hK2 rfl r5),by rw [hN];rfl,Z8d E2 (by have:=E0.size;omega)⟩
 case stop =>
  rintro D c pre W hD hS ⟨rfl,q,x,rfl,h2,h3,h4,h5,h6⟩ hK
  have hF:(Z3q many).find? p = some x.1:=by
   obtain ⟨rest,hr⟩:=hS
   rw [← hr,List.find?_append,List.map_append,List.find?_append]
   have:(q.map (·.1)).find? p = none:=by
    rw [List.find?_eq_none]
    intro y hy
    obtain ⟨z,hz,rfl⟩:=List.mem_map.1 hy
    simp [h2 z hz]
   rw [this]
   simp [h3]
  gi_wp2
  refine ⟨by simp,.inl ⟨_,_,rfl,run_takeDeferred hK,?_⟩⟩
  exact ⟨_,Zah rfl rfl Try.underlying109 rfl (Z4n hK rfl h4) rfl Try.underlying4 rfl (Z4n hK rfl h5),by rw [hF];rfl,Z8d h6 (by have:=E0.size;omega)⟩
end Go.Proofs.Ytholfdgebdlgjaa
