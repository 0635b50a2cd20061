/- Parts of a proof: Mc, Md, Un, Dvc, Dvd, Dve, Dvf, Dvg, Dri, Drj, Drc, Drd, Dre, Drf, Dkm, Drk. No conditions. -/
import Derived.DeepKeys4
import Derived.Defers
import Derived.DefersIn
import Derived.Maps.Keyed
import Derived.Maps.Own
import Derived.Maps.Views
import Derived.OrdersIn
import Derived.RangeFuncBound
import Derived.RangeFuncCalls
import Derived.RangeFuncFrom
import Derived.RangeFuncKeeps
import Derived.RangeFuncLeaves
import Derived.RangeFuncNested
import Derived.Recover
import Derived.RecoverIn
import Derived.TacticsIn
import Derived.WideKeyArr
import Derived.Test.YtfelljbfeoplhaaGreatPsp1
import Derived.Test.YtfelljbfeoplhaaGreatPsp5
set_option linter.unusedVariables false
set_option linter.unusedSimpArgs false
set_option linter.unusedSectionVars false
set_option maxRecDepth 100000
set_option maxHeartbeats 4000000
namespace Go.Proofs.YtfelljbfeoplhaaGreat
variable{W W' w w2:Go.World}{b bn d i k n o ob:Nat}{c:Go.Code}{f s:Nat→Int}{ls:List Int}{v:Go.Value}{x y z:Go.Operand}{t:Go.TypeId}{args:List Go.Value}{P:Go.Program}{out:List (List Int)}{X Y:List Nat}
namespace Ev
open Go Lift
noncomputable abbrev PP:Program:=Tryz.prog
abbrev pa(N o:Nat):Value:=.pointer (some ⟨N,o,none⟩)
abbrev iw(n:Int):Value:=.int .i32 n
abbrev qw(n:Int):Value:=.int .i64 n
noncomputable def Z5x(f:FuncId):Code:=((PP.funcs[f]?).bind (·.body)).getD .skip
def St.an(s:St)(v:Value):St:=(s.ans v).getD s
structure Wk where
 N:Nat
 W:Nat
 I:Nat
 L:Nat
 B:Nat
 D:Nat
 n:Nat
 c:Nat
 lamp:Nat
 clo:Value
def k0:Wk:=⟨0,0,0,0,0,0,1,1,0,.nilFunc⟩
noncomputable def edg(X:Xt)(s:St)(v:Value)(l:List Nat)(ls:List (List Nat)):Bool×St×List Addr×List Addr:=
 ((s.ans v).isSome,(pn PP X 200 (s.an v)).cut l ls,(pn PP X 200 (s.an v)).cvs,(pn PP X 200 (s.an v)).mks)
noncomputable def edgN(n:Nat)(X:Xt)(s:St)(v:Value)(l:List Nat)(ls:List (List Nat)):Bool×St×List Addr×List Addr:=
 ((s.ans v).isSome,(pn PP X n (s.an v)).cut l ls,(pn PP X n (s.an v)).cvs,(pn PP X n (s.an v)).mks)
noncomputable def mv(X:Xt)(s:St)(v:Value)(l:List Nat)(ls:List (List Nat)):St:=(edg X s v l ls).2.1
noncomputable def sW(k:Wk):St:={top:={fn:=113,n:=13,env:=[(0,pa k.W 0),(1,pa k.I 0),(2,pa k.L 0),(3,pa k.N 0),(4,pa k.B 0)],todo:=[.code (Z5x 113)],defs:=[],kind:=.deferred,ret:=false},rest:=[],cvs:=[],mks:=[],deaf:=0}
noncomputable def cW1(k:Wk):St:=(pn PP xt 200 (sW k)).cut [1,2,3,4] []
noncomputable def cW2(k:Wk):St:=mv xt (cW1 k) k.clo [2,3,4,5] []
noncomputable def cW3(k:Wk):St:=((cW2 k).an (qw k.lamp)).cut [2,3,4,5,6] []
noncomputable def cL0(k:Wk):St:=mv xt (cW3 k) (.bool true) [0,5] [[],[2,3,4]]
noncomputable def cR0(k:Wk):St:=mv xt (cL0 k) (.bool false) [0,2,3,4,5,12] [[],[],[2,3,4]]
noncomputable def slow(k:Wk)(td:List Item)(env:List (Nat×Value)):St:={(cR0 k) with top:={(cR0 k).top with todo:=td,env:=env}}
noncomputable def sSp:St:=pn PP xt 200 ((cR0 k0).an (iw 9))
noncomputable def sC1:St:=pn PP xt 200 (sSp.an (.bool true))
noncomputable def sR1:St:=pn PP xt 200 (sC1.an (.bool false))
noncomputable def sC2:St:=pn PP xt 200 ((cR0 k0).an (iw 1))
noncomputable def sC2b:St:=pn PP xt 200 (sC2.an (.bool false))
noncomputable def sR3:St:=pn PP xt 200 (sC2b.an (.bool false))
noncomputable def sT1:St:=pn PP xt 200 (sC2b.an (.bool true))
noncomputable def sS1:St:=pn PP xt 200 (sT1.an (qw 1))
noncomputable def sT2:St:=pn PP xt 200 (sS1.an (.tuple #[]))
noncomputable def sR2:St:=pn PP xt 200 (sT2.an (qw 3000000))
noncomputable def sA1:St:=pn PP xt 200 (sR2.an (iw 12))
noncomputable def cSp(k:Wk)(old:Int)(aw sv:Bool)(it wst:Int):St:=slow k sSp.top.todo [(0,pa k.N 0),(2,qw wst),(3,.bool sv),(4,.bool aw),(5,qw it),(6,iw old),(17,.bool true),(18,qw it)]
noncomputable def cC1(k:Wk)(it wst:Int):St:=slow k sC1.top.todo [(0,pa k.N 0),(2,qw wst),(3,.bool false),(4,.bool false),(5,qw it),(33,.bool true),(36,pa k.N 0),(37,iw 9),(39,iw 11)]
noncomputable def cR1(k:Wk)(aw sv:Bool)(it wst:Int):St:=slow k sR1.top.todo [(0,pa k.N 0),(2,qw wst),(3,.bool sv),(4,.bool aw),(5,qw it),(47,pa k.N 0)]
noncomputable def cC2(k:Wk)(old nw:Int)(aw sv:Bool)(it wst:Int):St:=slow k sC2b.top.todo [(0,pa k.N 0),(2,qw wst),(3,.bool sv),(4,.bool aw),(5,qw it),(6,iw old),(77,pa k.N 0),(78,iw old),(79,iw nw)]
noncomputable def cR3(k:Wk)(aw sv:Bool)(it wst:Int):St:=slow k sR3.top.todo [(0,pa k.N 0),(2,qw wst),(3,.bool sv),(4,.bool aw),(5,qw it),(133,pa k.N 0)]
noncomputable def cT1(k:Wk)(sv:Bool)(q:Value):St:=slow k sT1.top.todo [(0,pa k.N 0),(3,.bool sv),(8,q)]
noncomputable def cS1(k:Wk)(sv:Bool)(wst:Int)(q:Value):St:=slow k sS1.top.todo [(0,pa k.N 0),(2,qw wst),(3,.bool sv),(91,pa k.N 1),(92,q)]
noncomputable def cT2(k:Wk)(wst:Int):St:=slow k sT2.top.todo [(0,pa k.N 0),(2,qw wst),(95,.bool false)]
noncomputable def cR2(k:Wk)(sv:Bool)(wst:Int):St:=slow k sR2.top.todo [(0,pa k.N 0),(2,qw wst),(3,.bool sv),(103,pa k.N 0)]
noncomputable def cA1(k:Wk)(d:Int):St:=slow k sA1.top.todo [(0,pa k.N 0),(128,pa k.N 0),(129,iw d)]
noncomputable def tdQ:List Item:=(pn PP xt 23 (sC2b.an (.bool true))).top.todo
noncomputable def cQ(k:Wk)(sv:Bool)(wst:Int)(q:Value)(b:Bool):St:=slow k tdQ [(0,pa k.N 0),(2,qw wst),(3,.bool sv),(8,q),(87,.bool b)]
noncomputable def cIn(k:Wk):St:=mv xt (cL0 k) (.bool true) [2,3,4] []
noncomputable def cI2(k:Wk):St:=mv xt (cIn k) (.slice (some ⟨k.D,0,none⟩) k.n k.c) [2,3,9] []
noncomputable def Zlb(k:Wk)(env:List (Nat×Value)):St:={(cI2 k) with top:={(cI2 k).top with env:=env,todo:=(pn PP xt 200 ((cI2 k0).an (qw 0))).top.todo}}
noncomputable def cSt(k:Wk):St:=Zlb k [(3,pa k.N 0),(11,pa k.D k.lamp)]
noncomputable def cUl(k:Wk):St:=mv xt (cSt k) undef [0,5] [[],[]]
noncomputable def cU0(k:Wk):St:=mv xt (cUl k) (iw 0) [0,13] [[],[]]
noncomputable def unl(k:Wk):List FA:=(cuts [[],[],[]] (pn PP xt 200 ((cU0 k).an (iw 8))).rest)
noncomputable def sUc:St:=pn PP xt 200 ((cU0 k0).an (iw 8))
noncomputable def sUr:St:=pn PP xt 200 (sUc.an (.bool false))
noncomputable def sUs:St:=pn PP xt 200 (sUc.an (.bool true))
noncomputable def sUt:St:=pn PP xt 200 ((cU0 k0).an (iw 12))
noncomputable def cUc(k:Wk)(old:Int):St:={sUc with top:={sUc.top with env:=[(0,pa k.N 0),(27,pa k.N 0),(28,iw old),(29,iw (if old=8 then 2 else 10))]},rest:=unl k,cvs:=[],mks:=[]}
noncomputable def cUr(k:Wk):St:={sUr with top:={sUr.top with env:=[(0,pa k.N 0),(37,pa k.N 0)]},rest:=unl k,cvs:=[],mks:=[]}
noncomputable def cUs(k:Wk):St:={sUs with top:={sUs.top with env:=[(33,pa k.N 1)]},rest:=unl k,cvs:=[],mks:=[]}
noncomputable def cUt(k:Wk):St:={sUt with top:={sUt.top with env:=[(41,pa k.N 1)]},rest:=unl k,cvs:=[],mks:=[]}
noncomputable def cWr(k:Wk):St:=mv xtQ (cW3 k) (.bool false) [0,1,12] [[],[]]
noncomputable def cD1(k:Wk):St:=mv xtQ (cWr k) (.tuple #[]) [7,8] [[0,1,4],[],[]]
noncomputable def cD2(k:Wk):St:=mv xtQ (cD1 k) (.int .u64 1) [5] [[0,1,4,6,8],[],[]]
noncomputable def cD3(k:Wk):St:=mv xtQ (cD2 k) (.int .u64 1) [6,7] [[0,4,8],[],[]]
noncomputable def cD4(k:Wk):St:=mv xtQ (cD3 k) (.tuple #[]) [8,115] [[],[]]
noncomputable def cZ(k:Wk):St:=mv xtQ (cD1 k) (.int .u64 4294967296) [] []
theorem Zea(k:Wk)(sv:Bool)(wst:Int)(q:Value):((pn PP xt 200 (cQ k sv wst q true)).cut [0,3,8] [[],[],[2,3,4]],(pn PP xt 200 (cQ k sv wst q true)).cvs,(pn PP xt 200 (cQ k sv wst q true)).mks)=(cT1 k sv q,[],[]):=by kernel_rfl
theorem ZbY(k:Wk)(sv:Bool)(wst:Int)(q:Value):((pn PP xt 200 (cQ k sv wst q false)).cut [0,2,3,91,92] [[],[],[2,3,4]],(pn PP xt 200 (cQ k sv wst q false)).cvs,(pn PP xt 200 (cQ k sv wst q false)).mks)=(cS1 k sv wst q,[],[]):=by kernel_rfl
theorem e_in(k:Wk):edg xt (cIn k) (.slice (some ⟨k.D,0,none⟩) k.n k.c) [2,3,9] []=(true,cI2 k,[],[]):=by kernel_rfl
theorem e_st(k:Wk):edg xt (cSt k) undef [0,5] [[],[]]=(true,cUl k,[],[]):=by kernel_rfl
theorem e_ul(k:Wk)(z:Int):edg xt (cUl k) (iw z) [0,13] [[],[]]=(true,cU0 k,[⟨k.N,0,none⟩],[⟨k.N,0,none⟩]):=by kernel_rfl
section
variable(k:Wk)
theorem e_w0:edg xtQ (cW3 k) (.bool false) [0,1,12] [[],[]]=(true,cWr k,[⟨k.W,0,none⟩],[]):=by kernel_rfl
theorem e_w1:edg xt (cW3 k) (.bool true) [0,5] [[],[2,3,4]]=(true,cL0 k,[],[]):=by kernel_rfl
theorem e_wr:edg xtQ (cWr k) (.tuple #[]) [7,8] [[0,1,4],[],[]]=(true,cD1 k,[],[]):=by kernel_rfl
theorem ZfP:edg xtQ (cD1 k) (.int .u64 0) [] []=(true,cZ k,[],[]):=by kernel_rfl
theorem ZfQ:edg xtQ (cD1 k) (.int .u64 4294967296) [] []=(true,cZ k,[],[]):=by kernel_rfl
theorem ZfR:edg xtQ (cD1 k) (.int .u64 8589934592) [] []=(true,cZ k,[],[]):=by kernel_rfl
theorem ZbW:edg xtQ (cD1 k) (.int .u64 4294967297) [] []=(true,cZ k,[],[]):=by kernel_rfl
theorem ZbX:edg xtQ (cD1 k) (.int .u64 8589934593) [] []=(true,cZ k,[],[]):=by kernel_rfl
theorem ZbV:edg xtQ (cD1 k) (.int .u64 1) [5] [[0,1,4,6,8],[],[]]=(true,cD2 k,[],[]):=by kernel_rfl
theorem e_d2:edg xtQ (cD2 k) (.int .u64 1) [6,7] [[0,4,8],[],[]]=(true,cD3 k,[],[]):=by kernel_rfl
theorem e_d3:edg xtQ (cD3 k) (.tuple #[]) [8,115] [[],[]]=(true,cD4 k,[],[]):=by kernel_rfl
theorem e_d4:edg xtQ (cD4 k) (.tuple #[]) [] []=(true,cZ k,[],[]):=by kernel_rfl
end
end Ev
namespace Ev
open Go Lift
def sqL:Code→Code | .seq x _=>x | c=>c
def sqR:Code→Code | .seq _ y=>y | c=>c
noncomputable def cBlk:Code:=sqR (sqL (sqR (sqR (sqR (sqR (Z5x 66))))))
noncomputable def Z6h:Code:=sqR (sqR (sqR (sqR (sqR (Z5x 66)))))
def T0:Nat→Value:=fun _=>undef
def A42:List Nat:=[0,1,2,3,4,5,6,7,8,9,10,11,12,13,14,15,16,17,18,19,20,21,22,23,24,25,26,27,28,29,30,31,32,33,34,35,36,37,38,39,40,41]
noncomputable def edm(m:Nat)(X:Xt)(s:St)(ls:List (List Nat)):St×List Addr×List Addr:=((pn PP X m s).cut A42 ls,(pn PP X m s).cvs,(pn PP X m s).mks)
noncomputable def und(k:Wk)(td:List Item)(env:List (Nat×Value)):St:={top:={fn:=66,n:=42,env:=env,todo:=td,defs:=[],kind:=.normal,ret:=false},rest:=[],cvs:=[],mks:=[],deaf:=0}
noncomputable def sM(k:Wk)(T:Nat→Value)(n:Int):St:=und k [.code cBlk,.code Z6h] [(0,T 0),(1,T 1),(2,T 2),(3,pa k.I 0),(4,T 4),(5,pa k.W 0),(6,pa k.N 0),(7,pa k.B 0),(8,T 8),(9,T 9),(10,T 10),(11,T 11),(12,T 12),(13,T 13),(14,T 14),(15,T 15),(16,T 16),(17,T 17),(18,T 18),(19,T 19),(20,qw n),(21,qw 0),(22,T 22),(23,T 23),(24,T 24),(25,T 25),(26,T 26),(27,T 27),(28,T 28),(29,T 29),(30,T 30),(31,T 31),(32,T 32),(33,T 33),(34,T 34),(35,T 35),(36,T 36),(37,T 37),(38,T 38),(39,T 39),(40,T 40),(41,T 41)]
noncomputable def tdMc:List Item:=(pn PP xtQ 7 (sM k0 T0 1)).top.todo
noncomputable def cMc(k:Wk)(T:Nat→Value)(n i:Int)(b:Bool)(x:Value)(u:Nat→Value):St:=und k tdMc [(0,T 0),(1,T 1),(2,T 2),(3,pa k.I 0),(4,T 4),(5,pa k.W 0),(6,pa k.N 0),(7,pa k.B 0),(8,x),(9,T 9),(10,T 10),(11,T 11),(12,T 12),(13,T 13),(14,T 14),(15,T 15),(16,T 16),(17,T 17),(18,T 18),(19,T 19),(20,qw n),(21,qw i),(22,.bool b),(23,u 23),(24,u 24),(25,u 25),(26,u 26),(27,T 27),(28,T 28),(29,T 29),(30,T 30),(31,T 31),(32,T 32),(33,T 33),(34,T 34),(35,T 35),(36,T 36),(37,T 37),(38,T 38),(39,T 39),(40,T 40),(41,T 41)]
noncomputable def tdMa:List Item:=(pn PP xtQ 200 (cMc k0 T0 1 0 true undef T0)).top.todo
noncomputable def cMa(k:Wk)(T:Nat→Value)(n i:Int)(x:Value)(u:Nat→Value):St:=und k tdMa [(0,T 0),(1,T 1),(2,T 2),(3,pa k.I 0),(4,T 4),(5,pa k.W 0),(6,pa k.N 0),(7,pa k.B 0),(8,x),(9,T 9),(10,T 10),(11,T 11),(12,T 12),(13,T 13),(14,T 14),(15,T 15),(16,T 16),(17,T 17),(18,T 18),(19,T 19),(20,qw n),(21,qw i),(22,.bool true),(23,qw i),(24,u 24),(25,u 25),(26,u 26),(27,T 27),(28,T 28),(29,T 29),(30,T 30),(31,T 31),(32,T 32),(33,T 33),(34,T 34),(35,T 35),(36,T 36),(37,T 37),(38,T 38),(39,T 39),(40,T 40),(41,T 41)]
noncomputable def tdMs:List Item:=(((cMa k0 T0 1 0 undef T0).an (pa 0 0))).top.todo
noncomputable def cMs(k:Wk)(T:Nat→Value)(n i:Int)(L:Nat)(u:Nat→Value):St:=und k tdMs [(0,T 0),(1,T 1),(2,T 2),(3,pa k.I 0),(4,T 4),(5,pa k.W 0),(6,pa k.N 0),(7,pa k.B 0),(8,pa L 0),(9,T 9),(10,T 10),(11,T 11),(12,T 12),(13,T 13),(14,T 14),(15,T 15),(16,T 16),(17,T 17),(18,T 18),(19,T 19),(20,qw n),(21,qw i),(22,.bool true),(23,qw i),(24,u 24),(25,u 25),(26,u 26),(27,T 27),(28,T 28),(29,T 29),(30,T 30),(31,T 31),(32,T 32),(33,T 33),(34,T 34),(35,T 35),(36,T 36),(37,T 37),(38,T 38),(39,T 39),(40,T 40),(41,T 41)]
noncomputable def mvm(X:Xt)(s:St)(v:Value)(l:List Nat)(ls:List (List Nat)):St:=(edg X s v l ls).2.1
noncomputable def cMd(k:Wk)(T:Nat→Value)(n i:Int)(L:Nat)(u:Nat→Value):St:=mvm xtQ (cMs k T n i L u) undef [7,8] [[0,1,4],A42]
noncomputable def cMr(k:Wk)(T:Nat→Value)(n i:Int)(L:Nat)(u:Nat→Value):St:=mvm xtQ (cMd k T n i L u) (.int .u64 4294967296) [0,1,4,6,7,8,71] [A42]
noncomputable def tdMg:List Item:=(pn PP xtQ 200 ((cMd k0 T0 1 0 0 T0).an (.int .u64 (8589934592)))).top.todo
noncomputable def cMg(k:Wk)(T:Nat→Value)(n i:Int)(L:Nat)(u:Nat→Value):St:=und k tdMg [(0,T 0),(1,T 1),(2,T 2),(3,pa k.I 0),(4,T 4),(5,pa k.W 0),(6,pa k.N 0),(7,pa k.B 0),(8,pa L 0),(9,T 9),(10,T 10),(11,T 11),(12,T 12),(13,T 13),(14,T 14),(15,T 15),(16,T 16),(17,T 17),(18,T 18),(19,T 19),(20,qw n),(21,qw i),(22,.bool true),(23,qw i),(24,.tuple #[]),(25,(.func (.func 113) #[] #[pa k.W 0,pa k.I 0,pa L 0,pa k.N 0,pa k.B 0])),(26,u 26),(27,T 27),(28,T 28),(29,T 29),(30,T 30),(31,T 31),(32,T 32),(33,T 33),(34,T 34),(35,T 35),(36,T 36),(37,T 37),(38,T 38),(39,T 39),(40,T 40),(41,T 41)]
noncomputable def cMw1(k:Wk)(T:Nat→Value)(n i:Int)(x:Value)(u:Nat→Value):St:={(pn PP xtQ 200 (cMc k T n i false x u)).cut [5] [[0],A42] with cvs:=[]}
noncomputable def cMw2(k:Wk)(T:Nat→Value)(n i:Int)(x:Value)(v:Int)(u:Nat→Value):St:=mvm xtQ (cMw1 k T n i x u) (.int .u64 v) [9,10,11] [[0,2,4],A42]
noncomputable def cMq(k:Wk)(T:Nat→Value)(n i:Int)(x:Value)(u:Nat→Value):St:=mvm xtQ (cMw1 k T n i x u) (.int .u64 0) [0,2,4,22] [A42]
noncomputable def cMx(k:Wk)(T:Nat→Value)(n i:Int)(x:Value)(v:Int)(u:Nat→Value):St:=mvm xtQ (cMw2 k T n i x v u) (.bool true) [0,2,56] [A42]
noncomputable def cMw3(k:Wk)(T:Nat→Value)(n i:Int)(x:Value)(u:Nat→Value):St:={(mvm xtQ (cMx k T n i x 4294967296 u) (.tuple #[]) [0,70,71] [A42]) with cvs:=[]}
noncomputable def cMw4(k:Wk)(T:Nat→Value)(n i:Int)(x:Value)(u:Nat→Value):St:=mvm xtQ (cMw3 k T n i x u) (.tuple #[]) [5] [[0],A42]
noncomputable def cMy(k:Wk)(T:Nat→Value)(n i:Int)(x:Value)(u:Nat→Value):St:=mvm xtQ (cMw4 k T n i x u) (.int .u64 0) [6,80] [A42]
noncomputable def tdMf:List Item:=(pn PP xtQ 200 ((cMq k0 T0 1 0 undef T0).an (.tuple #[]))).top.todo
noncomputable def cMf(k:Wk)(T:Nat→Value)(n i:Int)(x:Value)(u:Nat→Value):St:=und k tdMf [(0,T 0),(1,T 1),(2,T 2),(3,pa k.I 0),(4,T 4),(5,pa k.W 0),(6,pa k.N 0),(7,pa k.B 0),(8,x),(9,.slice none 0 0),(10,T 10),(11,T 11),(12,T 12),(13,T 13),(14,T 14),(15,T 15),(16,T 16),(17,T 17),(18,T 18),(19,T 19),(20,qw n),(21,qw i),(22,.bool false),(23,u 23),(24,u 24),(25,u 25),(26,u 26),(27,.tuple #[]),(28,T 28),(29,T 29),(30,T 30),(31,T 31),(32,T 32),(33,T 33),(34,T 34),(35,T 35),(36,T 36),(37,T 37),(38,T 38),(39,T 39),(40,T 40),(41,T 41)]
theorem Zhm(k:Wk)(T:Nat→Value)(n:Int):edm 7 xtQ (sM k T n) []=(cMc k T n 0 (decide (0<n)) (T 8) T,[],[]):=by kernel_rfl
theorem Zjq(k:Wk)(T:Nat→Value)(n i:Int)(x:Value)(u:Nat→Value):edm 200 xtQ (cMc k T n i true x u) []=(cMa k T n i x u,[],[]):=by kernel_rfl
theorem ZkS(k:Wk)(T:Nat→Value)(n i:Int)(x:Value)(L:Nat)(u:Nat→Value):((cMa k T n i x u).ans (pa L 0))=some ((cMa k T n i x u).an (pa L 0))∧((cMa k T n i x u).an (pa L 0)).cut A42 []=cMs k T n i L u:=⟨by kernel_rfl,by kernel_rfl⟩
section
variable(k:Wk)(T:Nat→Value)(n i:Int)(L:Nat)(u:Nat→Value)
theorem Zjp:edg xtQ (cMs k T n i L u) undef [7,8] [[0,1,4],A42]=(true,cMd k T n i L u,[],[]):=by kernel_rfl
theorem ZfZ:edg xtQ (cMd k T n i L u) (.int .u64 4294967296) [0,1,4,6,7,8,71] [A42]=(true,cMr k T n i L u,[⟨k.W,1,none⟩],[]):=by kernel_rfl
theorem Zg0:edg xtQ (cMd k T n i L u) (.int .u64 (8589934592)) A42 []=(true,cMg k T n i L u,[],[]):=by kernel_rfl
theorem Zg1:edg xtQ (cMd k T n i L u) (.int .u64 (12884901888)) A42 []=(true,cMg k T n i L u,[],[]):=by kernel_rfl
theorem Zg2:edg xtQ (cMr k T n i L u) (.tuple #[]) A42 []=(true,cMg k T n i L u,[],[]):=by kernel_rfl
theorem m_go:edgN 12 xtQ (cMg k T n i L u) undef A42 []=(true,cMc k T n (IntKind.i64.wrap (i+1)) (decide (IntKind.i64.wrap (i+1)<n)) (pa L 0) (fun j=>if j=23 then qw i else if j=24 then .tuple #[] else if j=25 then(.func (.func 113) #[] #[pa k.W 0,pa k.I 0,pa L 0,pa k.N 0,pa k.B 0]) else qw (IntKind.i64.wrap (i+1))),[],[]):=by kernel_rfl
end
section
variable(k:Wk)(T:Nat→Value)(n i:Int)(x:Value)(u:Nat→Value)
theorem Zju:((pn PP xtQ 200 (cMc k T n i false x u)).cut [5] [[0],A42],(pn PP xtQ 200 (cMc k T n i false x u)).cvs,(pn PP xtQ 200 (cMc k T n i false x u)).mks)=(cMw1 k T n i x u,[],[]):=by kernel_rfl
theorem Zg3:edg xtQ (cMw1 k T n i x u) (.int .u64 0) [0,2,4,22] [A42]=(true,cMq k T n i x u,[⟨k.W,0,none⟩],[]):=by kernel_rfl
theorem Zg4:edg xtQ (cMw1 k T n i x u) (.int .u64 4294967296) [9,10,11] [[0,2,4],A42]=(true,cMw2 k T n i x 4294967296 u,[],[]):=by kernel_rfl
theorem Zg5:edg xtQ (cMw1 k T n i x u) (.int .u64 8589934592) [9,10,11] [[0,2,4],A42]=(true,cMw2 k T n i x 8589934592 u,[],[]):=by kernel_rfl
theorem Zg6:edg xtQ (cMw1 k T n i x u) (.int .u64 12884901888) [9,10,11] [[0,2,4],A42]=(true,cMw2 k T n i x 12884901888 u,[],[]):=by kernel_rfl
theorem Zhn:edg xtQ (cMw2 k T n i x 4294967296 u) (.bool false) [5] [[0],A42]=(true,cMw1 k T n i x u,[],[]):=by kernel_rfl
theorem Zho:edg xtQ (cMw2 k T n i x 8589934592 u) (.bool false) [5] [[0],A42]=(true,cMw1 k T n i x u,[],[]):=by kernel_rfl
theorem Zhp:edg xtQ (cMw2 k T n i x 12884901888 u) (.bool false) [5] [[0],A42]=(true,cMw1 k T n i x u,[],[]):=by kernel_rfl
theorem Zjr:edg xtQ (cMw2 k T n i x 4294967296 u) (.bool true) [0,2,56] [A42]=(true,cMx k T n i x 4294967296 u,[⟨k.W,1,none⟩],[]):=by kernel_rfl
theorem Zjs:edg xtQ (cMw2 k T n i x 8589934592 u) (.bool true) [0,2,56] [A42]=(true,cMx k T n i x 8589934592 u,[⟨k.W,1,none⟩],[]):=by kernel_rfl
theorem Zjt:edg xtQ (cMw2 k T n i x 12884901888 u) (.bool true) [0,2,56] [A42]=(true,cMx k T n i x 12884901888 u,[⟨k.W,1,none⟩],[]):=by kernel_rfl
theorem ZkT:edg xtQ (cMx k T n i x 4294967296 u) (.tuple #[]) [0,70,71] [A42]=(true,cMw3 k T n i x u,[],[]):=by kernel_rfl
theorem ZkU:edg xtQ (cMx k T n i x 8589934592 u) (.tuple #[]) [0,70,71] [A42]=(true,cMw3 k T n i x u,[],[]):=by kernel_rfl
theorem ZkV:edg xtQ (cMx k T n i x 12884901888 u) (.tuple #[]) [0,70,71] [A42]=(true,cMw3 k T n i x u,[],[]):=by kernel_rfl
theorem m_w3:edg xtQ (cMw3 k T n i x u) (.tuple #[]) [5] [[0],A42]=(true,cMw4 k T n i x u,[],[]):=by kernel_rfl
theorem m_w4:edg xtQ (cMw4 k T n i x u) (.int .u64 0) [6,80] [A42]=(true,cMy k T n i x u,[⟨k.W,0,none⟩],[]):=by kernel_rfl
theorem m_q:edg xtQ (cMq k T n i x u) (.tuple #[]) A42 []=(true,cMf k T n i x u,[],[]):=by kernel_rfl
theorem m_y:edg xtQ (cMy k T n i x u) (.tuple #[]) A42 []=(true,cMf k T n i x u,[],[]):=by kernel_rfl
end
end Ev
section
open Go.RowKit Ev
variable{μ:Nat}
def Vm.val(x:Vm):Value:=.agg #[.int .i64 x.B,.slice x.da x.D.length x.dc,.slice x.la x.L.length x.lc,.int .i64 x.tol]
def pt(n:Nat):Value:=.pointer (some ⟨n,0,none⟩)
structure UnA(x:Vm)(cf:FuncId)(ys:Array Value)(w:World)(b f:Frame)(w':World):Prop where
 ex : ∃(a : Act) (n3 n5 n6 n7 n16 : Nat), f=b.at a [.code (.refuse ""), .code (.refuse "")] ∧
  Has 42 [] a [(0,x.val),(1,.func (.func cf) #[] ys),(3,pt n3),(5,pt n5),(6,pt n6),(7,pt n7),(20,.int .i64 ((x.L.length:Nat):Int)),(21,.int .i64 0)] ∧
  w'.heap[n3]?=some (.cells #[.func (.func cf) #[] ys] 92 (0,0))∧w'.heap[n5]?=some (.cells #[.int .u64 0,.int .u32 0] 146 (0,0))∧w'.heap[n6]?=some (.cells #[.int .i32 0,.int .u32 0] 150 (0,0)) ∧
  w'.heap[n7]?=some (.cells #[.slice (some ⟨n16,0,none⟩) x.L.length x.L.length] 151 (0,0))∧w'.heap[n16]?=some (.cells (List.replicate x.L.length (Value.bool false)).toArray 4 (0,0)) ∧
  w.heap.size≤n3∧n3<n5∧n5<n6∧n6<n16∧n16<n7∧Ext [] w w'
theorem ZcN{base:Nat}{e:TypeId}{g: Nat}{xs:List Value}(h:w.ownsRow base e 1 (.slice (some ⟨g,0,none⟩) n n) n xs): w.heap[g]?=some (.cells xs.toArray e (0,0)):=by
 obtain⟨h1,h2 | ⟨g',cap,cur,h3,h4,h5,h6,h7,h8,h9⟩⟩:=h
 ·cases h2.1
 ·simp only[Value.slice.injEq,Y4,Addr.mk.injEq]at h3
  obtain⟨⟨rfl,_⟩,_,rfl⟩:=h3;rw[h5];have:cur=xs.toArray:=by
   apply Array.ext';rw[←h9,List.take_of_length_le (by rw[Array.length_toList,h8];exact Ye _)]
  rw[this]
noncomputable def uB:Code:=Tryz.f66.body.getD .skip
noncomputable def cPre : Code := .seq (sqL uB) (.seq (sqL (sqR uB)) (.seq (sqL (sqR (sqR uB))) (.seq (sqL (sqR (sqR (sqR uB)))) (.seq (.seq (sqL (sqL (sqR (sqR (sqR (sqR uB)))))) (.refuse "")) (.refuse "")))))
theorem Zkb(x:Vm)(hx:x.L.length≤3)(cf:FuncId)(ys:Array Value)(w:World)(fb:Frame)(fa:Act)(F:Has 42 [] fa [(0,x.val),(1,.func (.func cf) #[] ys)]):ToZ (Qy.prog 2) [Lift.poison] (UnA x cf ys w fb) (fb.at fa [.code cPre]) w:=by
 have E:Ext [] w w:=Ext.refl _ _;unfold Vm.val at F;refine Z2I ?_;refine Z7e ?_;refine Yg ?_;refine sqN F (Z30 rfl (F.at rfl)) fun fa w1 F hw=>?_;obtain⟨n2,hn⟩:=eQ w.heap.size;rw[←hn]at F;have s2:=sQ hn;have l2_E:=lQ hn E.size;replace E:=Z6 E hw;have q2:=Z02 hw hn;clear hw hn;refine sqN F (Z30 rfl (F.at rfl)) fun fa w2 F hw=>?_;obtain⟨n3,hn⟩:=eQ w1.heap.size;rw[←hn]at F;have s3:=sQ hn;have l3_E:=lQ hn E.size;have m3_2:=tQ hn (Z3 q2);replace q2:=Z1 hw q2;replace E:=Z6 E hw;have q3:=Z0Y hw rfl hn;clear hw hn;refine F.vl (ZH rfl (ev_c fa _)) fun fa F=>?_;refine wpList_nil ?_;refine .inl ⟨rfl,?_⟩;refine Z2I ?_;refine Z7e ?_;refine Yg ?_;refine sqN F (ZT rfl Qy.zeroValue146) fun fa w3 F hw=>?_;obtain⟨n5,hn⟩:=eQ w2.heap.size;rw[←hn]at F;have s5:=sQ hn;have l5_E:=lQ hn E.size;have m5_2:=tQ hn (Z3 q2);have m5_3:=tQ hn (Z3 q3);replace q2:=Z1 hw q2;replace q3:=Z1 hw q3;replace E:=Z6 E hw;have q5:=Z02 hw hn;clear hw hn;refine wpList_nil ?_;refine .inl ⟨rfl,?_⟩;refine Z2I ?_;refine Z7e ?_;refine Yg ?_;refine sqN F (ZT rfl Qy.zeroValue150) fun fa w4 F hw=>?_;obtain⟨n6,hn⟩:=eQ w3.heap.size;rw[←hn]at F;have s6:=sQ hn;have l6_E:=lQ hn E.size;have m6_2:=tQ hn (Z3 q2);have m6_3:=tQ hn (Z3 q3);have m6_5:=tQ hn (Z3 q5);replace q2:=Z1 hw q2;replace q3:=Z1 hw q3;replace q5:=Z1 hw q5;replace E:=Z6 E hw;have q6:=Z02 hw hn;clear hw hn;refine wpList_nil ?_;refine .inl ⟨rfl,?_⟩;refine Z2I ?_;refine Z7e ?_;refine Yg ?_;refine F.vl (ZQ rfl (F.at rfl) Qy.underlying85 rfl (n:=0) (sz:=4) rfl (by kernel_rfl) (by decide)) fun fa F=>?_;refine F.vl (ZQ rfl (F.at rfl) Qy.underlying27 rfl (n:=2) (sz:=1) rfl (by kernel_rfl) (by decide)) fun fa F=>?_;refine F.vl (ZE rfl (F.at rfl) Qy.underlying25 rfl ((Z0 q2 2).trans (getS (getS (get0))))) fun fa F=>?_;refine F.vl (Z66 rfl rfl (F.at rfl) Qy.underlying25) fun fa F=>?_;have hzE:=E.size;have hz6:=Z3 q6;refine ZD F rfl (by decide) rfl (Z4o rfl (w.heap.size) (e:=4) (bytes:=1) (z:=.bool false) Qy.underlying151 (by kernel_rfl) rfl (F.at rfl) (F.at rfl) (n:=x.L.length) (by omega) (by decide) (by omega)) ?_;clear F fa;rintro fa v' w5 F ⟨oo,hg,rfl⟩;obtain⟨n16,hn⟩:=eQ w4.heap.size;rw[←hn]at F oo;have s16:=sQ hn;replace q2:=Z29 hg q2;replace q3:=Z29 hg q3;replace q5:=Z29 hg q5;replace q6:=Z29 hg q6;replace E:=Z6C E hg;clear hg hn;have hz16:=Z3 (ZcN oo);refine sqN F (ZT rfl Qy.zeroValue151) fun fa w6 F hw=>?_;obtain⟨n7,hn⟩:=eQ w5.heap.size;rw[←hn]at F;have s7:=sQ hn;have l7_E:=lQ hn E.size;have m7_2:=tQ hn (Z3 q2);have m7_3:=tQ hn (Z3 q3);have m7_5:=tQ hn (Z3 q5);have m7_6:=tQ hn (Z3 q6);have o7_oo:=Lib.hid (Z0h oo hn);replace oo:=ZY hw oo;replace q2:=Z1 hw q2;replace q3:=Z1 hw q3;replace q5:=Z1 hw q5;replace q6:=Z1 hw q6;replace E:=Z6 E hw;have q7:=Z0Y hw rfl hn;clear hw hn;refine Z1n rfl rfl (ZU rfl (F.at rfl) (F.at rfl) rfl (by kernel_rfl) ((Z0 q7 0).trans (get0)) (Za q7 0)) ?_;intro w7 hw;replace oo:=Z0R hw oo (ZW oo q7 (by decide));replace q2:=kce hw q2;replace q3:=kce hw q3;replace q5:=kce hw q5;replace q6:=kce hw q6;replace q7:=ZF hw q7 (by simp only[List.setIfInBounds_toArray,lsQ,lzQ];exact rfl);replace E:=ece E hw;clear hw;refine wpList_nil ?_;refine .inl ⟨rfl,?_⟩;refine Z2I ?_;refine Z2I ?_;refine Z7e ?_;refine Yg ?_;refine F.vl (ZQ rfl (F.at rfl) Qy.underlying85 rfl (n:=0) (sz:=4) rfl (by kernel_rfl) (by decide)) fun fa F=>?_;refine F.vl (ZQ rfl (F.at rfl) Qy.underlying27 rfl (n:=2) (sz:=1) rfl (by kernel_rfl) (by decide)) fun fa F=>?_;refine F.vl (ZE rfl (F.at rfl) Qy.underlying25 rfl ((Z0 q2 2).trans (getS (getS (get0))))) fun fa F=>?_;refine F.vl (Z66 rfl rfl (F.at rfl) Qy.underlying25) fun fa F=>?_;refine F.vl (Z1q rfl (ev_c fa _)) fun fa F=>?_;refine wpList_nil ?_;refine .inl ⟨rfl,?_⟩;exact ToZ.here ⟨fa,n3,n5,n6,n7,n16,rfl,F.sub (.c 0 rfl (.c 1 rfl (.c 3 rfl (.c 5 rfl (.c 6 rfl (.c 7 rfl (.c 20 rfl (.c 21 rfl .n)))))))),q3,q5,q6,q7,ZcN oo,by omega,by omega,by omega,by omega,by omega,E⟩
end
section
open Go.RowKit
variable{μ:Nat}
theorem Z0d{base c: Nat}{a:Option Addr}{xs:List Int}(h:w.ownsRow base 3 1 (.slice a n c) n (ivs xs))(hn:n=xs.length)(X:List Nat)(hX:∀b∈X,b<base): SlAt X w a 1 xs.length (fun i=>[.int .i64 (xs.getD i 0)]):=by
 rw[Z1e]at h;exact Z1g h hn (fun _=>rfl) X hX 0
theorem Z2v(xs:List Int):(ivs xs).length=xs.length:=by simp[ivs]
theorem Z2w(xs:List Int)(i:Nat)(v:Int):(ivs xs).set i (.int .i64 v)=ivs (xs.set i v):=by simp[ivs,List.map_set]
def TubS(f:Nat→Int):Prop:=∀k,k<4→0≤f k∧f k≤6
theorem TubS.ok(h:TubS f): ZiC f:=fun k hk=>by have:=h k hk;omega
def tonE(x:Vm)(f:Nat→Int)(j d:Nat):Int:=sumQ (fun d=>f d*val (x.dye d) j) d
def sumR(x:Vm)(f:Nat→Int)(bn d i:Nat):List Int:=(List.range bn).map fun j=>tonE x f j (if j<i then d+1 else d)
def sumL(x:Vm)(f:Nat→Int)(bn:Nat):List Int:=(List.range bn).map fun j=>tonE x f j x.D.length
theorem Zfo(x:Vm)(f:Nat→Int)(bn d i:Nat):(sumR x f bn d i).length=bn:=by simp[sumR]
theorem Zdp(x:Vm)(f:Nat→Int)(bn:Nat):ivs (sumR x f bn 0 0)=List.replicate bn (.int .i64 0):=by
 rw[sumR,ivs,List.map_map,List.eq_replicate_iff];refine⟨by simp,fun b hb=>?_⟩;obtain⟨j,-,rfl⟩:=List.mem_map.1 hb;simp[tonE,sumQ]
theorem Zfn(x:Vm)(f:Nat→Int)(d:Nat)(h:i<bn): (sumR x f bn d i).getD i 0=tonE x f i d:=by simp[sumR,h]
theorem Zfp(x:Vm)(f:Nat→Int)(d:Nat)(h:i<bn): (sumR x f bn d i).set i (tonE x f i (d+1))=sumR x f bn d (i+1):=by
 refine List.ext_getElem (by simp[sumR]) fun j h1 h2=>?_;rw[List.getElem_set]
 by_cases e:i=j
 ·subst e
  simp[sumR]
 ·rw[if_neg e]
  simp only[sumR,List.getElem_map,List.getElem_range]
  congr 1
  by_cases e2:j<i
  ·rw[if_pos e2,if_pos (by omega)]
  ·rw[if_neg e2,if_neg (by omega)]
theorem Zdo(x:Vm)(f:Nat→Int)(bn d:Nat):sumR x f bn d bn=sumR x f bn (d+1) 0:=by
 refine List.map_congr_left fun j hj=>?_;rw[if_pos (by simpa using hj),if_neg (by omega)]
theorem Zfm(x:Vm)(f:Nat→Int)(bn:Nat):sumR x f bn x.D.length 0=sumL x f bn:=by
 refine List.map_congr_left fun j hj=>?_;rw[if_neg (by omega)]
theorem ZfO{x:Vm}(hv:VOk x)(hd:d<x.D.length)(j:Nat): 0≤val (x.dye d) j∧val (x.dye d) j≤9:=by
 obtain⟨-,h⟩:=hv.dl _ (Z8 (.bool true,[]) hd)
 by_cases hj:j<(x.dye d).length
 ·exact h _ (Z8 0 hj)
 ·rw[val,Y7,List.getElem?_eq_none (by omega)];simp
theorem Z8X{x:Vm}(hv:VOk x)(hf:TubS f)(j:Nat)(hd:d≤x.D.length): 0≤tonE x f j d∧tonE x f j d≤60*d:=by
 have:=Z7c (f:=fun d=>f d*val (x.dye d) j) (a:=0) (b:=60) (n:=d) fun k hk=>?_
 ·rw[tonE];omega
 ·have h4:=hv.d4
  obtain⟨h1,h2⟩:=hf k (by omega);obtain⟨h3,h5⟩:=ZfO hv (d:=k) (by omega) j;refine⟨Int.mul_nonneg h1 h3,?_⟩;have:f k*val (x.dye k) j≤6*val (x.dye k) j:=Int.mul_le_mul_of_nonneg_right h2 h3;show f k*val (x.dye k) j≤60;omega
theorem Z5e{x:Vm}(hv:VOk x)(hf:TubS f)(bn:Nat): ∀n∈sumL x f bn,0≤n∧n≤240:=by
 intro n hn;obtain⟨j,-,rfl⟩:=List.mem_map.1 hn;have:=Z8X hv hf j (Ye x.D.length);have:=hv.d4;omega
theorem Z5f(x:Vm)(hv:VOk x)(bn:Nat)(hbn:x.B=bn)(f:Nat→Int)(hf:TubS f)(w:World)(h:x.At w):
  Calls (Qy.prog μ) 82 #[.agg #[.int .i64 x.B,.slice x.da x.D.length x.dc,.slice x.la x.L.length x.lc,.int .i64 x.tol],.agg (tubC f)] w fun e w'=>∃a,e = .returned (.slice a bn bn)∧w'.ownsRow w.heap.size 3 1 (.slice a bn bn) bn (ivs (sumL x f bn))∧Ext [] w w':=by
 have E:Ext [] w w:=Ext.refl _ _;have HX:=Lib.hid h;have HD:=Lib.hid h.d.1;have HV:=Lib.hid hv;have HF:=Lib.hid hf;have hd4:=hv.d4;have hb1:=hv.b1;have hb3:=hv.b3;clear h hv hf;have G:=(Bk.nil w).ce E;refine(ent 44 Tryz.f82 rfl) fun F=>wR fun k1=>(F.bx G) fun yy F G=>(F.bx G) @fun n3 w2 _ yy F G=>(F.m) fun F=>k1<|wR fun k2=>(F.y (F.fd 0)) fun F=>(F.y (F.fd 0)) fun F=>(F.y (F.lc (G.q 1))) fun F=>?_
 rw[hbn]at F;have hEs:=(G.e 2).size;refine ZD F rfl (by decide) (F.want rfl) (Z4o rfl (w.heap.size) (e:=3) (bytes:=8) (z:=.int .i64 0) Qy.underlying22 (by kernel_rfl) rfl (F.at rfl) (F.at rfl) (n:=bn) (by omega) (by decide) (by omega)) ?_;clear F;rintro _ v' w3 F ⟨oo,hg,rfl⟩;obtain⟨n13,hn⟩:=eQ w2.heap.size;rw[←hn]at F oo;have s13:=G.lt hn;replace G:=G.gn hg;clear hg hn;replace G:=G.co oo;have oo:=G.o 0;rw[←Zdp x f bn]at oo;replace G:=G.rO 0 oo;clear oo;refine(F.m) fun F=>k2<|wQ fun k3=>wR fun k4=>(F.y (F.fd 0)) fun F=>(F.y (F.fd 1)) fun F=>(F.y (F.lc (G.q 2))) fun F=>(F.y F.ln) fun F=>(F.m) fun F=>k4<|Yh<|lpB (F.b [3,5,16,17]) (G.b [1,2,3]) (x.D.length) (fun d Lv Sv W=>Lv=[(18,.int .i64 ((d:Nat):Int))]∧Sv=[]∧W.ownsRow w.heap.size 3 1 (.slice (some ⟨n13,0,none⟩) bn bn) bn (ivs (sumR x f bn d 0))) ⟨_,_,F.u,G.u,rfl,rfl,(G.o 0)⟩ ?_
 clear F G;rintro d _ w4 _ _ hi1 ⟨rfl,rfl,oo⟩ F G;replace G:=(G.z).co oo;refine wR fun k5=>(F.y F.ls) fun F=>k5<|wQ fun k6=>F.ci (fun hc19=>?_) (fun hc19=>?_)
 ·refine Yi<|k6<|wQ fun k7=>Yh<|wQ fun k8=>?_
  obtain⟨la,lca,hla,hlr⟩:=HX.out.d.2 _ (Z8 (.bool true,[]) (show d<x.D.length by omega));have hlen:=(HV.out.dl _ (Z8 (.bool true,[]) (show d<x.D.length by omega))).1;have hlb:(x.D.getD d (.bool true,[])).2.length=bn:=by omega
  have HLR:=Lib.hid (Zh hlr 0);refine Yg<|(F.m) fun F=>(F.ix HD.out d) fun xr9 F=>(F.y (F.l1 (xr9 _ (G.e 3)) 0)) fun F=>?_
  rw[hla]at F;refine(F.m) fun F=>(F.m) fun F=>k8<|wR fun k10=>(F.m) fun F=>(F.y F.ln) fun F=>(F.m) fun F=>k10<|Yh<|lpB (F.b [3,5,6,16,17,18,23,24]) (G.b [1,2,3]) (bn) (fun i Lv Sv W=>Lv=[(25,.int .i64 ((i:Nat):Int))]∧Sv=[]∧W.ownsRow w.heap.size 3 1 (.slice (some ⟨n13,0,none⟩) bn bn) bn (ivs (sumR x f bn d i))) ⟨_,_,F.u,G.u,rfl,rfl,(G.o 0)⟩ ?_
  clear F G;rintro i _ w5 _ _ hi2 ⟨rfl,rfl,oo⟩ F G;replace G:=(G.z).co oo;refine wR fun k11=>(F.y F.ls) fun F=>k11<|wQ fun k12=>F.ci (fun hc26=>?_) (fun hc26=>?_)
  ·refine Yi<|k12<|wQ fun k13=>Yh<|wR fun k14=>(F.m) fun F=>(F.ix HLR.out i) fun xr15 F=>(F.y (F.l1 (xr15 _ (G.e 3)) 0)) fun F=>(F.m) fun F=>(F.m) fun F=>k14 ?_
   have hml:=Zfo x f bn d i;have hmk:=Zfn x f d (show i<bn by omega);have hst:=Zfp x f d (show i<bn by omega);have oo:=G.o 0;have HS:=Lib.hid (Z0d oo hml.symm [] (by simp));have hil:=Z2v (sumR x f bn d i);obtain⟨hf0,hf1⟩:=HF.out d (by omega);obtain⟨hg0,hg1⟩:=ZfO HV.out (show d<x.D.length by omega) i;simp only[val,Vm.dye]at hg0 hg1;obtain⟨hp0,hp1⟩:=Zg9 hf0 (by omega) hg0 (by omega);obtain⟨ht0,ht1⟩:=Z8X HV.out HF.out i (show d≤x.D.length by omega);replace G:=G.hr [];refine(wX 11 G) fun G=>(F.sm) fun F=>(F.sm) fun F=>?_;obtain⟨xb16,xo16,xa16,xr16⟩:=HS.out i (by omega);refine(F.s (F.is 1 xa16)) fun F=>(F.s (F.l1 (xr16 _ (G.e 0)) 0)) fun F=>(F.sm) fun F=>(F.s (F.ia 4 1)) fun F=>(F.s (F.lw (Z2J (G.q 2) (k:=d) rfl (by omega)))) fun F=>(F.sm) fun F=>(F.s F.ml) fun F=>(F.s F.ad) fun F=>?_;obtain⟨xb17,xo17,xa17,xr17⟩:=HS.out i (by omega);refine(F.s (F.is 1 xa17)) fun F=>wpStill_nil ?_;replace G:=G.d 0;obtain⟨⟨u0,hcu⟩,hfu,hst⟩:=Z3I (G.o 0) xa17 (j:=i) (p:=xo17+((i:Nat):Int).toNat*1) (by first | omega | (simp;omega)) (by omega);refine Z1n rfl (F.want rfl) (ZU rfl (F.at rfl) (F.at rfl) rfl (by kernel_rfl) hcu hfu) ?_;intro w7 hw;obtain⟨hown',hg⟩:=hst _ _ hw;replace G:=G.gr 0 hg hown';clear hst hcu hfu hw hg hown';have oo:=G.o 0;rw[Z2w,hmk,show tonE x f i d+f d*(x.D.getD d (.bool true,[])).2.getD i 0=tonE x f i (d+1) from rfl,hst]at oo;replace G:=G.rO 0 oo;clear oo;refine k13<|Yg<|(F.y F.ad) fun F=>(F.m) fun F=>?_
   show _∧_;exact⟨by omega,_,_,F.u,G.u,rfl,rfl,(G.o 0)⟩
  ·refine wp_exit ?_
   have oo:=G.o 0;rw[show i=bn by omega,Zdo]at oo;replace G:=G.rO 0 oo;clear oo;refine k7<|Yg<|(F.y F.ad) fun F=>(F.m) fun F=>?_
   show _∧_;exact⟨by omega,_,_,F.u,G.u,rfl,rfl,(G.o 0)⟩
 ·refine wp_exit ?_
  have oo:=G.o 0;rw[show d=x.D.length by omega,Zfm]at oo;replace G:=G.rO 0 oo;clear oo;refine k3<|wR fun k18=>(F.m) fun F=>(F.m) fun F=>k18<|(F.r1) ?_
  have oo:=G.o 0;exact⟨_,rfl,oo,(G.e 3)⟩
variable{μ:Nat}
section
variable{P:Program}{ρ:Operand→Value}{o:Oper}{w:World}
theorem Z2K{f:FuncId}{l:List Operand}{ts:Array TypeId}{vs:List Value}{us cs zs:Array Value}(ho:o.op = .call {callee:=.value x,args:=l.toArray,argTypes:=ts})(hf:ρ x = .func (.func f) us cs)(hc:∀args w,(callFunc f args).run P w = .ok (.enter f args) w)(ha:l.map ρ=vs)(hx:us++vs.toArray++cs=zs): (execOp ρ o).run P w = .ok (.enter f zs) w:=by
 have ha:=Z4P ha;subst hx;rw[←ha];unfold execOp;simp[ho,resolve,hf,invoke,hc,go_sem]
end
theorem Z7q(n:Int)(h0:-1000000000000≤n)(h1:n≤1000000000000)(w:World):Calls (Qy.prog μ) 118 #[.int .i64 n] w fun e w'=>e = .returned (.int .i64 (max n (-n)))∧Ext [] w w':=by
 have E:Ext [] w w:=Ext.refl _ _;have G:=(Bk.nil w).ce E;refine(ent 7 Tryz.f118 rfl) fun F=>wR fun k1=>(F.m) fun F=>k1<|wR fun k2=>(F.m) fun F=>(F.m) fun F=>(F.y F.ng) fun F=>(F.y F.mx) fun F=>(F.m) fun F=>k2<|(F.r1) ?_
 exact⟨rfl,(G.e 0)⟩
theorem Z1j{a b A B C:Int}(a0:0≤a)(a1:a≤A)(b0:0≤b)(b1:b≤B)(h:A*B≤C): 0≤a*b∧a*b≤C:=by
 refine⟨Int.mul_nonneg a0 b0,?_⟩;have h1:a*b≤A*b:=Int.mul_le_mul_of_nonneg_right a1 b0;have h2:A*b≤A*B:=Int.mul_le_mul_of_nonneg_left b1 (by omega);omega
theorem Z4V(hf:TubS f): 0≤prt f∧prt f≤24:=by
 have:=Z7c (f:=f) (a:=0) (b:=6) (n:=4) hf;rw[prt];omega
theorem Zcu{x:Vm}(hv:VOk x)(hk:k<x.L.length)(j:Nat): 0≤val (x.lamp k) j∧val (x.lamp k) j≤3:=by
 obtain⟨-,h⟩:=hv.ll _ (Z8 (.bool true,[]) hk)
 by_cases hj:j<(x.lamp k).length
 ·exact h _ (Z8 0 hj)
 ·rw[val,Y7,List.getElem?_eq_none (by omega)];simp
theorem Z3S{x:Vm}(hv:VOk x)(hk:k<x.L.length)(hs:∀j,0≤s j∧s j≤240)(hn:n≤3): 0≤dotE (val (x.lamp k)) s n∧dotE (val (x.lamp k)) s n≤2160:=by
 have:=Z7c (f:=fun i=>val (x.lamp k) i*s i) (a:=0) (b:=720) (n:=n) fun j hj=>Z1j (Zcu hv hk j).1 (Zcu hv hk j).2 (hs j).1 (hs j).2 (by omega);rw[dotE];omega
def tnE(x:Vm)(f:Nat→Int)(j:Nat):Int:=tonE x f j x.D.length
theorem ZaZ{x:Vm}(hv:VOk x)(hf:TubS f)(j:Nat): 0≤tnE x f j∧tnE x f j≤240:=by
 have:=Z8X hv hf j (Ye x.D.length);have:=hv.d4;rw[tnE];omega
theorem Z37(x:Vm)(f:Nat→Int)(a:Nat→Int)(bn:Nat):dotE a (val (sumL x f bn)) (sumL x f bn).length=dotE a (tnE x f) bn:=by
 rw[show (sumL x f bn).length=bn by simp[sumL]];refine Z60 fun i hi=>?_;show a i*val (sumL x f bn) i=a i*tnE x f i
 congr 1
 simp[val,sumL,hi,tnE]
def offE(x:Vm)(k:Nat)(f:Nat→Int)(s:Nat→Int):Int:=dotE (val (x.lamp k)) (tnE x f) x.B.toNat-prt f*dotE (val (x.lamp k)) s x.B.toNat
def Z5m(x:Vm)(s:List Int):Prop:=(s.length:Int)=x.B∧∀n∈s,0≤n∧n≤9
theorem Zgj{x:Vm}{s:List Int}(h:Z5m x s)(j:Nat): 0≤val s j∧val s j≤240:=by
 by_cases hj:j<s.length
 ·have:=h.2 _ (Z8 0 hj)
  rw[val];omega
 ·rw[val,Y7,List.getElem?_eq_none (by omega)];simp
theorem Zgc{x:Vm}(hv:VOk x)(hk:k<x.L.length)(hf:TubS f){s:List Int}(hs:Z5m x s): -1000000≤offE x k f (val s)∧offE x k f (val s)≤1000000:=by
 have hb:=hv.b3;have h1:=Z3S hv hk (fun j=>ZaZ hv hf j) (n:=x.B.toNat) (by omega);have h2:=Z3S hv hk (fun j=>Zgj hs j) (n:=x.B.toNat) (by omega);have h3:=Z4V hf;have h4:=Z1j h3.1 h3.2 h2.1 h2.2 (C:=51840) (by omega);rw[offE];omega
theorem Zgd(x:Vm)(hv:VOk x)(k:Nat)(hk:k<x.L.length)(f:Nat→Int)(hf:TubS f)(s:List Int)(hs:Z5m x s)(a:Option Addr)(c:Nat)(w:World)(h:x.At w)(hr:Z7 w (.slice a s.length c) 1 (s.map Z5)):
  Calls (Qy.prog μ) 88 #[.agg #[.int .i64 x.B,.slice x.da x.D.length x.dc,.slice x.la x.L.length x.lc,.int .i64 x.tol],.int .i64 ((k:Nat):Int),.agg (tubC f),.slice a s.length c] w fun e w'=>e = .returned (.int .i64 (offE x k f (val s)))∧Ext [] w w':=by
 have E:Ext [] w w:=Ext.refl _ _;have HX:=Lib.hid h;have HV:=Lib.hid hv;have HF:=Lib.hid hf;have HS:=Lib.hid hs;have HR:=Lib.hid hr;have hb1:=hv.b1;have hb3:=hv.b3;obtain⟨bn,hbn⟩:∃bn:Nat,x.B=bn:=⟨x.B.toNat,by omega⟩;have hbn2:x.B.toNat=bn:=by omega
 have hsl:s.length=bn:=by have:=hs.1;omega
 have hsb:Hid (∀n∈s,0≤n∧n≤100000):=fun n hn=>by have:=hs.2 n hn;omega
 have hb:=Zgc hv hk hf hs;have h1:=Z3S hv hk (fun j=>ZaZ hv hf j) (n:=bn) (by omega);have h2:=Z3S hv hk (fun j=>Zgj hs j) (n:=bn) (by omega);have h3:=Z4V hf;have h4:=Z1j h3.1 h3.2 h2.1 h2.2 (C:=51840) (by omega);have hof:offE x k f (val s)=dotE (val (x.lamp k)) (tnE x f) bn-prt f*dotE (val (x.lamp k)) (val s) bn:=by rw[offE,hbn2]
 rw[hof];clear h hv hf hs hr hb hof;have G:=(Bk.nil w).ce E;refine(ent 26 Tryz.f88 rfl) fun F=>wR fun k1=>(F.bx G) fun yy F G=>(F.bx G) fun yy F G=>(F.m) fun F=>k1<|wR fun k2=>(F.y (F.lb (G.q 1))) fun F=>(F.y F.mf) fun F=>(F.m) fun F=>k2<|wQ fun k3=>?_
 have G2:=G;refine(wD [] none G) fun G=>(F.z 0 (G.t 0) F.mo) fun F=>(F.z 1 (G.t 0) F.mo) fun F=>(F.zr 2 (G.t 0) fun hS=>F.lb (G2.k 1 hS)) fun F=>(F.zr 3 (G.t 0) fun hS=>F.lb (G2.k 0 hS)) fun F=>(F.zr 6 (G.t 0) fun hS=>F.lb (G2.k 0 hS)) fun F=>(F.z 8 (G.t 0) F.mo) fun F=>(F.z 9 (G.t 0) F.mo) fun F=>(F.z 10 (G.t 0) F.mo) fun F=>(aO 4)<|(F.ok (Z5f x HV.out bn hbn f HF.out _ (HX.out.ext (G.e 3)))) ?_
 rintro _ w4 ⟨a16,rfl,oo,e9⟩;refine⟨_,rfl,fun F=>?_⟩;replace G:=G.ex e9;refine .intro (G.t 0) ?_;have hrw:=Zz (xs:=sumL x f bn) (row:=Z5) (by rw[←Z1e,show (sumL x f bn).length=bn by simp[sumL]];exact oo) (fun _=>rfl);have hll:(sumL x f bn).length=bn:=by simp[sumL]
 have hwe:=Z2z (μ:=μ) x HV.out k hk (sumL x f bn) (by rw[hll];omega) (fun n hn=>by have:=Z5e HV.out HF.out bn n hn;omega) a16 bn w4 (HX.out.ext (G.e 3)) (by rw[hll];exact hrw);rw[Z37,hll]at hwe;refine(aO 5)<|(F.okr rfl (Z2K rfl (F.at rfl) Qy.call102 (mpS (F.at rfl) (mpS (F.at rfl) mp0)) (by simp)) (hwe)) ?_
 rintro _ w5 ⟨rfl,e9⟩;refine⟨_,rfl,fun F=>?_⟩;replace G:=G.ex e9;refine .intro (G.t 0) ?_;clear oo hrw hwe;refine(aO 7)<|(F.ok0 G (Z0r f HF.out.ok _)) @fun w6 _ F G=>.intro (G.t 0) ?_
 have hwe:=Z2z (μ:=μ) x HV.out k hk s HS.out.1 hsb.out a c w6 (HX.out.ext (G.e 3)) (HR.out.ext (G.e 3) (by simp));refine(aO 11)<|(F.okr rfl (Z2K rfl (F.at rfl) Qy.call102 (mpS (F.at rfl) (mpS (F.at rfl) mp0)) (by simp)) (hwe)) ?_
 rintro _ w7 ⟨rfl,e9⟩;refine⟨_,rfl,fun F=>?_⟩;replace G:=G.ex e9;refine .intro (G.t 0) ?_;rw[hsl]at F;refine(F.z 12 (G.t 0) F.ml) fun F=>(F.z 13 (G.t 0) F.sb) fun F=>(F.z 14 (G.t 0) F.mo) fun F=>(aD)<|k3<|(F.r1) ?_
 exact⟨rfl,(G.e 3)⟩
def matE(x:Vm)(f:Nat→Int)(s:Nat→Int)(ls:List Int):Bool:=ls.all fun l=>decide (max (offE x l.toNat f s) (-offE x l.toNat f s)≤x.tol*prt f)
def Zba(x:Vm)(ls:List Int):Prop:=∀n∈ls,0≤n∧n<x.L.length
theorem Zhw{x:Vm}(hi:i<ls.length)(h:x.tol*prt f<max (offE x (ls.getD i 0).toNat f s) (-offE x (ls.getD i 0).toNat f s)): matE x f s ls=false:=by
 rw[matE,List.all_eq_false];exact⟨_,Z8 0 hi,by simp only[decide_eq_true_eq];omega⟩
theorem Zhv{x:Vm}(h:∀j,j<ls.length→max (offE x (ls.getD j 0).toNat f s) (-offE x (ls.getD j 0).toNat f s)≤x.tol*prt f): matE x f s ls=true:=by
 rw[matE,Yl];intro n hn;obtain⟨j,hj,rfl⟩:=List.getElem_of_mem hn;have:=h j hj;rw[Y7,List.getElem?_eq_getElem hj]at this;exact decide_eq_true this
theorem Z9I(x:Vm)(hv:VOk x)(f:Nat→Int)(hf:TubS f)(s:List Int)(hs:Z5m x s)(ls:List Int)(hl:Zba x ls)(hll:ls.length≤1000)(a b:Option Addr)(c d:Nat)(w:World)(h:x.At w)(hr:Z7 w (.slice a s.length c) 1 (s.map Z5))(hq:Z7 w (.slice b ls.length d) 1 (ls.map Z5)):
  Calls (Qy.prog μ) 80 #[.agg #[.int .i64 x.B,.slice x.da x.D.length x.dc,.slice x.la x.L.length x.lc,.int .i64 x.tol],.agg (tubC f),.slice a s.length c,.slice b ls.length d] w fun e w'=>e = .returned (.bool (matE x f (val s) ls))∧Ext [] w w':=by
 have E:Ext [] w w:=Ext.refl _ _;have HX:=Lib.hid h;have HV:=Lib.hid hv;have HF:=Lib.hid hf;have HS:=Lib.hid hs;have HR:=Lib.hid hr;have HL:=Lib.hid hl;have HLS:=Lib.hid (Zh hq 0);have h3:=Z4V hf;have ht0:=hv.t0;have ht1:=hv.t12;have h4:=Z1j ht0 ht1 h3.1 h3.2 (C:=288) (by omega);clear h hv hf hs hr hl hq;have G:=(Bk.nil w).ce E;refine(ent 31 Tryz.f80 rfl) fun F=>wR fun k1=>(F.bx G) fun yy F G=>(F.bx G) fun yy F G=>(F.m) fun F=>k1<|wQ fun k2=>wR fun k3=>(F.m) fun F=>(F.y F.ln) fun F=>(F.m) fun F=>k3<|Yh<|lpB (F.b [2,4,5,11,12]) G (ls.length) (fun i Lv Sv W=>Lv=[(13,.int .i64 ((i:Nat):Int))]∧Sv=[]∧Hid (∀j,j<i→max (offE x (ls.getD j 0).toNat f (val s)) (-offE x (ls.getD j 0).toNat f (val s))≤x.tol*prt f)) ⟨_,_,F.u,G.u,rfl,rfl,Lib.hid (fun j hj=>absurd hj (by omega))⟩ ?_
 clear F G;rintro i _ w3 _ _ hi1 ⟨rfl,rfl,hno⟩ F G;replace G:=G.z;refine wR fun k4=>(F.y F.ls) fun F=>k4<|wQ fun k5=>F.ci (fun hc14=>?_) (fun hc14=>?_)
 ·refine Yi<|k5<|wQ fun k6=>Yh<|wQ fun k7=>?_
  obtain⟨hk0,hk1⟩:=HL.out _ (Z8 (l:=ls) (i:=i) 0 (by omega));obtain⟨k,hkk⟩:∃k:Nat,ls.getD i 0=k:=⟨(ls.getD i 0).toNat,by omega⟩;have hkt:(ls.getD i 0).toNat=k:=by omega
  have hkL:k<x.L.length:=by omega
  obtain⟨hb0,hb1⟩:=Zgc HV.out hkL HF.out HS.out;refine Yg<|(F.ix HLS.out i) fun xr8 F=>(F.y (F.l1 (xr8 _ (G.e 2)) 0)) fun F=>?_
  rw[hkk]at F;refine(F.m) fun F=>k7<|wQ fun k9=>?_
  have G2:=G;refine(wD [] none G) fun G=>(F.zr 0 (G.t 0) fun hS=>F.lb (G2.k 1 hS)) fun F=>(F.z 1 (G.t 0) F.mo) fun F=>(F.zr 2 (G.t 0) fun hS=>F.lb (G2.k 0 hS)) fun F=>(F.z 3 (G.t 0) F.mo) fun F=>(F.z 6 (G.t 0) (F.fd 0)) fun F=>(F.z 7 (G.t 0) (F.fd 3)) fun F=>(F.zr 8 (G.t 0) fun hS=>F.lc (G2.k 1 hS)) fun F=>(F.zr 9 (G.t 0) fun hS=>F.lb (G2.k 0 hS)) fun F=>(aO 4)<|(F.ok0 G (Zgd x HV.out k hkL f HF.out s HS.out a c _ (HX.out.ext (G.e 3)) (HR.out.ext (G.e 3) (by simp)))) fun F G=>.intro (G.t 0)<|(aO 5)<|(F.ok0 G (Z7q (offE x k f (val s)) (by omega) (by omega) _)) fun F G=>.intro (G.t 0)<|(aO 10)<|(F.ok0 G (Z0r f HF.out.ok _)) fun F G=>.intro (G.t 0) ?_
  refine(F.z 11 (G.t 0) F.ml) fun F=>(F.z 12 (G.t 0) F.gt) fun F=>(aD)<|k9<|F.ci (fun hc29=>?_) (fun hc29=>?_)
  ·rw[←hkt]at hc29
   refine wR fun k10=>(F.m) fun F=>k10<|(F.r1) ?_
   exact⟨Z0J (Zhw (by omega) hc29).symm,(G.e 3)⟩
  ·have hle:max (offE x (ls.getD i 0).toNat f (val s)) (-offE x (ls.getD i 0).toNat f (val s))≤x.tol*prt f:=by rw[hkt];omega
   refine Yi<|k6<|Yg<|(F.y F.ad) fun F=>(F.m) fun F=>?_
   show _∧_;exact⟨by omega,_,_,F.u,G.u,rfl,rfl,Lib.hid (fun j hj=>if e:j=i then e▸hle else hno.out j (by omega))⟩
 ·refine wp_exit<|k2<|wR fun k11=>(F.m) fun F=>k11<|(F.r1) ?_
  exact⟨Z0J (Zhv fun j hj=>hno.out j (by omega)).symm,(G.e 2)⟩
def alkV(x:Vm)(k:Nat)(f g:Nat→Int):Int:=prt g*dotE (val (x.lamp k)) (tnE x f) x.B.toNat-prt f*dotE (val (x.lamp k)) (tnE x g) x.B.toNat
def alkE(x:Vm)(k:Nat)(f g:Nat→Int):Bool:=decide (max (alkV x k f g) (-alkV x k f g)≤x.tol*prt f*prt g)
variable{μ:Nat}
theorem Z48(x:Vm)(hv:VOk x)(k:Nat)(hk:k<x.L.length)(f g:Nat→Int)(hf:TubS f)(hg:TubS g)(w:World)(h:x.At w):
  Calls (Qy.prog μ) 68 #[.agg #[.int .i64 x.B,.slice x.da x.D.length x.dc,.slice x.la x.L.length x.lc,.int .i64 x.tol],.int .i64 ((k:Nat):Int),.agg (tubC f),.agg (tubC g)] w fun e w'=>e = .returned (.bool (alkE x k f g))∧Ext [] w w':=by
 have E:Ext [] w w:=Ext.refl _ _;have HX:=Lib.hid h;have HV:=Lib.hid hv;have HF:=Lib.hid hf;have HG:=Lib.hid hg;have hb1:=hv.b1;have hb3:=hv.b3;obtain⟨bn,hbn⟩:∃bn:Nat,x.B=bn:=⟨x.B.toNat,by omega⟩;have hbn2:x.B.toNat=bn:=by omega
 have h1:=Z3S hv hk (fun j=>ZaZ hv hf j) (n:=bn) (by omega);have h2:=Z3S hv hk (fun j=>ZaZ hv hg j) (n:=bn) (by omega);have h3:=Z4V hf;have h4:=Z4V hg;have h5:=Z1j h4.1 h4.2 h1.1 h1.2 (C:=51840) (by omega);have h6:=Z1j h3.1 h3.2 h2.1 h2.2 (C:=51840) (by omega);have h7:=Z1j hv.t0 hv.t12 h3.1 h3.2 (C:=288) (by omega);have h8:=Z1j h7.1 h7.2 h4.1 h4.2 (C:=6912) (by omega);have hal:alkE x k f g=decide (max (prt g*dotE (val (x.lamp k)) (tnE x f) bn-prt f*dotE (val (x.lamp k)) (tnE x g) bn) (-(prt g*dotE (val (x.lamp k)) (tnE x f) bn-prt f*dotE (val (x.lamp k)) (tnE x g) bn))≤x.tol*prt f*prt g):=by rw[alkE,alkV,hbn2]
 rw[hal];clear h hv hf hg hal;have G:=(Bk.nil w).ce E;refine(ent 41 Tryz.f68 rfl) fun F=>wR fun k1=>(F.bx G) fun yy F G=>(F.bx G) fun yy F G=>(F.bx G) fun yy F G=>(F.m) fun F=>k1<|wQ fun k2=>?_
 have G2:=G;refine(wD [] none G) fun G=>(F.zr 0 (G.t 0) fun hS=>F.lb (G2.k 1 hS)) fun F=>(F.zr 2 (G.t 0) fun hS=>F.lb (G2.k 0 hS)) fun F=>(aO 1)<|(F.ok0 G (Z0r f HF.out.ok _)) fun F G=>.intro (G.t 0)<|(aO 3)<|(F.ok0 G (Z0r g HG.out.ok _)) fun F G=>.intro (G.t 0)<|(F.z 4 (G.t 0) F.mo) fun F=>(F.z 5 (G.t 0) F.mo) fun F=>(aD)<|k2<|wQ fun k3=>?_
 have G4:=G;refine(wD [] none G) fun G=>(F.z 0 (G.t 0) F.mo) fun F=>(F.zr 1 (G.t 0) fun hS=>F.lb (G4.k 3 hS)) fun F=>(F.z 2 (G.t 0) F.mo) fun F=>(F.zr 3 (G.t 0) fun hS=>F.lb (G4.k 3 hS)) fun F=>(F.zr 4 (G.t 0) fun hS=>F.lb (G4.k 2 hS)) fun F=>(F.z 8 (G.t 0) F.mo) fun F=>(F.zr 9 (G.t 0) fun hS=>F.lb (G4.k 3 hS)) fun F=>(F.z 10 (G.t 0) F.mo) fun F=>(F.zr 11 (G.t 0) fun hS=>F.lb (G4.k 3 hS)) fun F=>(F.zr 12 (G.t 0) fun hS=>F.lb (G4.k 1 hS)) fun F=>(F.z 18 (G.t 0) (F.fd 0)) fun F=>(F.z 19 (G.t 0) (F.fd 3)) fun F=>(F.zr 20 (G.t 0) fun hS=>F.lc (G4.k 3 hS)) fun F=>(F.z 21 (G.t 0) F.mo) fun F=>?_;refine(F.z 22 (G.t 0) F.ml) fun F=>(F.z 23 (G.t 0) F.mo) fun F=>(F.z 24 (G.t 0) F.ml) fun F=>(aO 5)<|(F.ok (Z5f x HV.out bn hbn f HF.out _ (HX.out.ext (G.e 5)))) ?_
 rintro _ w8 ⟨a20,rfl,oo,e9⟩;refine⟨_,rfl,fun F=>?_⟩;replace G:=G.ex e9;refine .intro (G.t 0) ?_;have hrw:=Zz (xs:=sumL x f bn) (row:=Z5) (by rw[←Z1e,show (sumL x f bn).length=bn by simp[sumL]];exact oo) (fun _=>rfl);have hll:(sumL x f bn).length=bn:=by simp[sumL]
 have hwe:=Z2z (μ:=μ) x HV.out k hk (sumL x f bn) (by rw[hll];omega) (fun n hn=>by have:=Z5e HV.out HF.out bn n hn;omega) a20 bn w8 (HX.out.ext (G.e 5)) (by rw[hll];exact hrw);rw[Z37,hll]at hwe;refine(aO 6)<|(F.ok (hwe)) ?_
 rintro _ w9 ⟨rfl,e9⟩;refine⟨_,rfl,fun F=>?_⟩;replace G:=G.ex e9;refine .intro (G.t 0) ?_;clear oo hrw hwe;refine(F.z 7 (G.t 0) F.ml) fun F=>(aO 13)<|(F.ok (Z5f x HV.out bn hbn g HG.out _ (HX.out.ext (G.e 5)))) ?_
 rintro _ w10 ⟨a28,rfl,oo,e9⟩;refine⟨_,rfl,fun F=>?_⟩;replace G:=G.ex e9;refine .intro (G.t 0) ?_;have hrw:=Zz (xs:=sumL x g bn) (row:=Z5) (by rw[←Z1e,show (sumL x g bn).length=bn by simp[sumL]];exact oo) (fun _=>rfl);have hll:(sumL x g bn).length=bn:=by simp[sumL]
 have hwe:=Z2z (μ:=μ) x HV.out k hk (sumL x g bn) (by rw[hll];omega) (fun n hn=>by have:=Z5e HV.out HG.out bn n hn;omega) a28 bn w10 (HX.out.ext (G.e 5)) (by rw[hll];exact hrw);rw[Z37,hll]at hwe;refine(aO 14)<|(F.ok (hwe)) ?_
 rintro _ w11 ⟨rfl,e9⟩;refine⟨_,rfl,fun F=>?_⟩;replace G:=G.ex e9;refine .intro (G.t 0) ?_;clear oo hrw hwe;refine(F.z 15 (G.t 0) F.ml) fun F=>(F.z 16 (G.t 0) F.sb) fun F=>(aO 17)<|(F.ok0 G (Z7q (prt g*dotE (val (x.lamp k)) (tnE x f) bn-prt f*dotE (val (x.lamp k)) (tnE x g) bn) (by omega) (by omega) _)) fun F G=>.intro (G.t 0)<|(F.z 25 (G.t 0) F.le) fun F=>(F.z 26 (G.t 0) F.mo) fun F=>(aD)<|k3<|(F.r1) ?_
 exact⟨rfl,(G.e 5)⟩
theorem Z8J{l:List Int}{m hi:Int}(h1:(l.length:Int)=m)(h2:∀n∈l,0≤n∧n≤hi): numE l m hi=0:=by
 rw[numE,if_neg (by omega),if_pos];rw[Yl];intro n hn;have:=Z2c.2 (h2 n hn);rw[this];rfl
theorem Z4Z(x:Vm)(hv:VOk x)(s:List Int)(hs:Z5m x s)(a:Option Addr)(c:Nat)(w:World)(hr:Z7 w (.slice a s.length c) 1 (s.map Z5)):
  Calls (Qy.prog μ) 78 #[.agg #[.int .i64 x.B,.slice x.da x.D.length x.dc,.slice x.la x.L.length x.lc,.int .i64 x.tol],.slice a s.length c] w fun e w'=>e = .returned (.tuple #[])∧Ext [] w w':=by
 have E:Ext [] w w:=Ext.refl _ _;have hz:=Z8J hs.1 hs.2;have hlen:=hs.1;have hb3:=hv.b3;have HR:=Lib.hid hr;clear hr hs;have G:=(Bk.nil w).ce E;refine(ent 30 Tryz.f78 rfl) fun F=>wR fun k1=>(F.bx G) fun yy F G=>k1<|wQ fun k2=>wR fun k3=>(F.m) fun F=>(F.y F.ln) fun F=>(F.y (F.fd 0)) fun F=>(F.y (F.fd 0)) fun F=>(F.y (F.lc (G.q 0))) fun F=>(F.y F.ls) fun F=>k3<|(F.JF)<|Yi<|k2<|wQ fun k4=>wR fun k5=>(F.m) fun F=>(F.y F.ln) fun F=>(F.y (F.fd 0)) fun F=>(F.y (F.fd 0)) fun F=>(F.y (F.lc (G.q 0))) fun F=>?_
 refine(F.y F.gt) fun F=>k5<|(F.JF)<|Yi<|k4<|wR fun k6=>(F.m) fun F=>(F.y (F.fd 0)) fun F=>(F.y (F.fd 0)) fun F=>(F.y (F.lc (G.q 0))) fun F=>(F.k (Z2V s x.B 9 a c _ (HR.out.ext (G.e 1) (by simp)) (by omega) (by omega))) ?_
 rintro _ w2 ⟨rfl,e9⟩;refine⟨_,rfl,fun F=>?_⟩;replace G:=G.ex e9;rw[hz]at F;refine(F.m) fun F=>(F.y F.xt) fun F=>(F.y F.xt) fun F=>(F.m) fun F=>(F.m) fun F=>k6<|Yg<|(F.m) fun F=>(F.k0 G (Z8G _)) fun F G=>(F.f0) ?_
 exact⟨rfl,(G.e 1)⟩
def Z5r(x:Vm)(ls:List Int):Prop:=1≤ls.length∧Zba x ls∧∀i,0<i→i<ls.length→ls.getD (i-1) 0<ls.getD i 0
theorem Z6K(x:Vm)(hv:VOk x)(ls:List Int)(hs:Z5r x ls)(hll:ls.length≤1000)(a:Option Addr)(c:Nat)(w:World)(h:x.At w)(hr:Z7 w (.slice a ls.length c) 1 (ls.map Z5)):
  Calls (Qy.prog μ) 71 #[.agg #[.int .i64 x.B,.slice x.da x.D.length x.dc,.slice x.la x.L.length x.lc,.int .i64 x.tol],.slice a ls.length c] w fun e w'=>e = .returned (.tuple #[])∧Ext [] w w':=by
 have E:Ext [] w w:=Ext.refl _ _;obtain⟨h1,h2,h3⟩:=hs;have HX:=Lib.hid h;have HV:=Lib.hid hv;have H2:=Lib.hid h2;have H3:=Lib.hid h3;have HS:=Lib.hid (Zh hr 0);clear hr h2 h3 h hv;have G:=(Bk.nil w).ce E;refine(ent 33 Tryz.f71 rfl) fun F=>wR fun k1=>(F.bx G) fun yy F G=>k1<|wQ fun k2=>wR fun k3=>(F.m) fun F=>(F.y F.ln) fun F=>(F.y F.eq) fun F=>k3<|(F.JF)<|Yi<|k2<|wR fun k4=>(F.m) fun F=>(F.y F.ln) fun F=>(F.m) fun F=>k4<|Yh<|lpC (F.b [1,2,10,11]) G (ls.length) (fun i=>[(12,.int .i64 ((i:Nat):Int))]) F.u fun i hi1 F G=>wR fun k5=>(F.y F.ls) fun F=>k5<|wQ fun k6=>F.ci (fun hc13=>?_) (fun hc13=>?_)
 ·refine Yi<|k6<|wQ fun k7=>Yh<|wR fun k8=>(F.m) fun F=>(F.ix HS.out i) fun xr9 F=>(F.y (F.l1 (xr9 _ (G.e 1)) 0)) fun F=>(F.m) fun F=>(F.m) fun F=>k8<|wQ fun k10=>?_
  obtain⟨hk0,hk1⟩:=H2.out _ (Z8 (l:=ls) (i:=i) 0 (by omega));refine Yg<|(F.y (F.lb (G.q 0))) fun F=>(F.m) fun F=>(F.k0 G (Z8v x HV.out (ls.getD i 0) hk0 hk1 _)) fun F G=>k10<|wQ fun k11=>?_
  by_cases ci:0<i
  ·have hlt:=H3.out i ci (by omega)
   refine Yg<|(F.m) fun F=>(F.y F.gtT) fun F=>(F.m) fun F=>(F.m) fun F=>(F.m) fun F=>(F.m) fun F=>(F.y F.sb) fun F=>?_
   rw[show (((i:Nat):Int)-1)=((i-1:Nat):Int) by omega]at F;refine(F.ix HS.out (i-1)) fun xr12 F=>(F.y (F.l1 (xr12 _ (G.e 1)) 0)) fun F=>(F.y F.leF) fun F=>(F.y F.pT) fun F=>k11<|(F.cF)<|Yi<|k7<|Yg<|(F.y F.ad) fun F=>(F.m) fun F=>?_
   show _∧_;exact⟨by omega,F.u,G.u⟩
  ·refine Yg<|(F.m) fun F=>(F.y F.gtF) fun F=>(F.m) fun F=>(F.n) fun F=>(F.n) fun F=>(F.n) fun F=>(F.n) fun F=>(F.n) fun F=>(F.n) fun F=>(F.n) fun F=>(F.y F.pF) fun F=>k11<|(F.cF)<|Yi<|k7<|Yg<|(F.y F.ad) fun F=>(F.m) fun F=>?_
   show _∧_;exact⟨by omega,F.u,G.u⟩
 ·refine wp_exit<|(F.e0) ?_
  exact⟨rfl,(G.e 1)⟩
variable{μ:Nat}
structure RcpOk(x:Vm)(l:List Int):Prop where
 len:l.length=x.D.length
 bd:∀n∈l,0≤n∧n≤6
 s1:1≤l.sum
 s6:l.sum≤6
theorem Zkd{l:List Int}{a b:Int}(h:∀n∈l,a≤n∧n≤b)(h0:a≤0)(h1:0≤b)(k:Nat): a≤val l k∧val l k≤b:=by
 by_cases hk:k<l.length
 ·exact h _ (Z8 0 hk)
 ·rw[val,Y7,List.getElem?_eq_none (by omega)];exact⟨h0,h1⟩
theorem RcpOk.tub{x:Vm}{l:List Int}(h:RcpOk x l): TubS (val l):=fun k _=>Zkd h.bd (by omega) (by omega) k
theorem ZeQ{l:List Int}{T:TypeId}(e:w2=w.setCells b 0 (l.map (Value.int .i64)))(H:w.heap[b]?=some (.cells (tubC zf) T (0,0)))(hl:l.length≤4): w2.heap[b]?=some (.cells (tubC (val l)) T (0,0)):=by
 rw[e]
 match l,hl with
 | [],_=>exact H
 | [p],_=>exact ZF (w2:=w.setCells b 0 [.int .i64 p]) rfl H rfl
 | [p,q],_=>exact Z1X (w2:=w.setCells b 0 [.int .i64 p,.int .i64 q]) rfl H rfl
 | [p,q,r],_=>exact ZF (w2:=w.setCells b 0 [.int .i64 p,.int .i64 q,.int .i64 r]) (w:=(w.setCells b 0 [.int .i64 p,.int .i64 q])) (o:=2) rfl (Z1X (w2:=w.setCells b 0 [.int .i64 p,.int .i64 q]) rfl H rfl) rfl
 | [p,q,r,s],_=>exact Z1Y (cs:=tubC (val [p,q,r,s])) rfl H rfl
 | p::q::r::s::t::l,h=>simp at h
theorem Z8O{n m:Int}(h1:1≤n)(h2:n≤m): sizE n m=0:=by rw[sizE,if_neg (by omega),if_neg (by omega)]
theorem Z9(x:Vm)(hv:VOk x)(l:List Int)(hl:RcpOk x l)(a:Option Addr)(c:Nat)(w:World)(hr:Z7 w (.slice a l.length c) 1 (l.map Z5)):
  Calls (Qy.prog μ) 65 #[.agg #[.int .i64 x.B,.slice x.da x.D.length x.dc,.slice x.la x.L.length x.lc,.int .i64 x.tol],.slice a l.length c] w fun e w'=>e = .returned (.agg (tubC (val l)))∧Ext [] w w':=by
 have E:Ext [] w w:=Ext.refl _ _;have HR:=Lib.hid hr;have HS:=Lib.hid (Zh hr 0);have HB:=Lib.hid hl.bd;have HT:=Lib.hid hl.tub.ok;have hlen:=hl.len;have hd1:=hv.d1;have hd4:=hv.d4;have hpr:prt (val l)=l.sum:=Zdn l 4 (by omega);have hsz:sizE l.sum 6=0:=Z8O hl.s1 hl.s6;clear hr hl hv;have G:=(Bk.nil w).ce E;refine(ent 42 Tryz.f65 rfl) fun F=>wR fun k1=>(F.bx G) fun yy F G=>(F.al G Qy.zeroValue88) fun yy F G=>k1<|wQ fun k2=>wR fun k3=>(F.m) fun F=>(F.y F.ln) fun F=>(F.y (F.fd 0)) fun F=>(F.y (F.fd 1)) fun F=>(F.y (F.lc (G.q 1))) fun F=>(F.y F.ln) fun F=>(F.y F.ls) fun F=>k3<|(F.JF)<|Yi<|k2<|wQ fun k4=>wR fun k5=>(F.m) fun F=>(F.y F.ln) fun F=>?_
 refine(F.y (F.fd 0)) fun F=>(F.y (F.fd 1)) fun F=>(F.y (F.lc (G.q 1))) fun F=>(F.y F.ln) fun F=>(F.y F.gt) fun F=>k5<|(F.JF)<|Yi<|k4<|wQ fun k6=>wR fun k7=>(F.m) fun F=>(F.y F.ln) fun F=>(F.m) fun F=>k7<|Yh<|lpC (F.b [1,4,24,25]) G (l.length) (fun i=>[(26,.int .i64 ((i:Nat):Int))]) F.u fun i hi1 F G=>wR fun k8=>(F.y F.ls) fun F=>k8<|wQ fun k9=>F.ci (fun hc27=>?_) (fun hc27=>?_)
 ·refine Yi<|k9<|wQ fun k10=>Yh<|wR fun k11=>(F.ix HS.out i) fun xr12 F=>(F.y (F.l1 (xr12 _ (G.e 2)) 0)) fun F=>(F.m) fun F=>k11<|wQ fun k13=>?_
  have hno:=Z2c.2 (HB.out _ (Z8 (l:=l) (i:=i) 0 (by omega)));refine Yg<|(F.m) fun F=>(F.k0 G (Z0Z (l.getD i 0) 0 6 _)) fun F G=>k13<|(F.jF (hno))<|Yi<|k10<|Yg<|(F.y F.ad) fun F=>(F.m) fun F=>?_
  show _∧_;exact⟨by omega,F.u,G.u⟩
 ·refine wp_exit<|k6<|wR fun k14=>(F.al G Qy.zeroValue88) @fun n7 w5 _ yy F G=>?_
  have q7:=G.q 0;replace q7:w5.heap[n7]?=some (.cells (tubC zf) 88 (0,0)):=q7;replace G:=G.rQ 0 q7;clear q7;refine k14<|wQ fun k15=>Yg ?_
  refine(F.y ((Z2m (n:=4) rfl (F.at rfl) (by kernel_rfl) (by kernel_rfl) (by kernel_rfl)))) fun F=>(F.m) fun F=>?_;have hlr2:=HR.out.ext (G.e 3) (by simp);obtain⟨sb,so,hsa,-,-⟩:=hlr2.range rfl (by intro e;have hq:=congrArg List.length e;rw[Yj,List.length_nil]at hq;omega);rw[hsa]at hlr2;have hcd:∀j,j<l.length→(w5.cell? ⟨n7,0+j,none⟩).isSome=true:=fun j hj=>(by have:=Z2J (G.q 0) (i:=(j:Int)) (k:=j) rfl (by omega);rw[Nat.mul_one,Int.toNat_natCast]at this;rw[this];rfl);refine sqN F (Zfz (l.map (Value.int .i64)) rfl (F.at rfl) ((F.at rfl).trans (congrArg (fun z=>Value.slice z _ _) hsa)) Qy.underlying22 (by kernel_rfl) (by rw[Yj];exact(Nat.min_eq_left (by omega)).symm) (Z9h hlr2) (by rw[Yj];exact hcd) (by rw[Yj];exact fun j _=>Za (G.q 0) _) (Z6J _)) ?_ (hw:=F.want rfl);clear F;rintro _ w6 F hw;replace G:=G.pr 0 hw (ZeQ hw (G.q 0) (by omega));refine k15<|wR fun k16=>(F.y (F.lb (G.q 0))) fun F=>(F.k (Z0r (val l) HT.out _)) ?_
  rintro _ w7 ⟨rfl,e9⟩;refine⟨_,rfl,fun F=>?_⟩;replace G:=G.ex e9;rw[hpr]at F;refine(F.k (Z50 l.sum 6 _)) ?_;rintro _ w8 ⟨rfl,e9⟩;refine⟨_,rfl,fun F=>?_⟩;replace G:=G.ex e9;rw[hsz]at F;refine(F.k0 G (Z8G _)) fun F G=>k16<|wR fun k17=>(F.y (F.lb (G.q 0))) fun F=>(F.sr G 1) fun G=>k17 ?_
  refine(F.rg (rs_c F rfl rfl Qy.underlying88 rfl (by kernel_rfl) (G.q 1))) ?_;exact⟨rfl,(G.e 3)⟩
def gcT(f:Nat→Int):Nat→Nat
 | 0=>0
 | k+1=>Nat.gcd (gcT f k) (f k).toNat
def gcE(f:Nat→Int):Nat:=gcT f 4
def lowF(f:Nat→Int)(d:Int)(i:Nat):Nat→Int:=fun j=>if j<i then f j / d else f j
theorem Zce{f:Nat→Int}(hf:TubS f):∀{k:Nat},k≤4→gcT f k≤6
 | 0,_=>by simp[gcT]
 | k+1,hk=>by
  rw[gcT];obtain⟨h0,h1⟩:=hf k (by omega)
  by_cases e:(f k).toNat=0
  ·rw[e,Nat.gcd_zero_right];exact Zce hf (by omega)
  ·exact Yd (Nat.le_of_dvd (by omega) (Nat.gcd_dvd_right _ _)) (by omega)
theorem Zcf{u v:Nat}(h:0<v): Nat.gcd v (u % v)=Nat.gcd u v:=by
 rw[Nat.gcd_comm v,←Nat.gcd_rec,Nat.gcd_comm]
theorem ZcA(f:Nat→Int)(hf:TubS f)(hg:0<gcE f)(w:World):Calls (Qy.prog μ) 125 #[.agg (tubC f)] w fun e w'=>e = .returned (.agg (tubC (lowF f (gcE f) 4)))∧Ext [] w w':=by
 have E:Ext [] w w:=Ext.refl _ _;have HF:=Lib.hid hf;have hg6:gcE f≤6:=Zce hf (by omega);clear hf;have G:=(Bk.nil w).ce E;refine(ent 29 Tryz.f125 rfl) fun F=>wR fun k1=>(F.bx G) @fun n1 w1 _ yy F G=>(F.al G Qy.zeroValue88) fun yy F G=>k1<|wR fun k2=>(F.m) fun F=>?_
 rw[show (0:Int)=((gcT f 0:Nat):Int) from rfl]at F;refine k2<|wQ fun k3=>wR fun k4=>(F.y (F.lb (G.q 1))) fun F=>(F.m) fun F=>?_
 rw[show (0:Int)=((0:Nat):Int) from rfl]at F;refine k4<|Yh<|lpC (F.b [1,2,7]) G (4) (fun i=>[(3,.int .i64 ((gcT f i:Nat):Int)),(8,.int .i64 ((i:Nat):Int))]) F.u @fun _ w3 i hi1 F G=>wR fun k5=>(F.y F.ls) fun F=>k5<|wQ fun k6=>F.ci (fun hc9=>?_) (fun hc9=>?_)
 ·refine Yi<|k6<|wQ fun k7=>Yh<|wQ fun k8=>?_
  obtain⟨hf0,hf1⟩:=HF.out i (by omega);obtain⟨p,hp⟩:∃p:Nat,f i=p:=⟨(f i).toNat,by omega⟩;have hpn:(f i).toNat=p:=by omega
  refine Yg<|(F.y (F.iv 4 (Z62 (k:=i) rfl (by omega)))) fun F=>(F.m) fun F=>?_
  rw[hp]at F;refine k8<|Yh<|lpB (F.b [1,2,7,8]) G (6) (fun j Lv Sv W=>∃u v:Nat,Lv=[(3,.int .i64 ((u:Nat):Int)),(5,.int .i64 ((v:Nat):Int))]∧Sv=[]∧Nat.gcd u v=gcT f (i+1)∧v+j≤6∧u≤6) ⟨_,_,F.u,G.u,_,_,rfl,rfl,(by rw[gcT,hpn]),(by omega),(Zce HF.out (by omega))⟩ ?_
  clear F G;rintro j _ w4 _ _ hi2 ⟨u,v,rfl,rfl,hgc,hvj,hu6⟩ F G;replace G:=G.z;refine wQ fun k9=>wR fun k10=>(F.m) fun F=>(F.y F.gt) fun F=>k10<|F.ci (fun hc12=>?_) (fun hc12=>?_)
  ·refine Yi<|k9<|Yh<|(wX 5 G) fun G=>(F.sm) fun F=>(F.sm) fun F=>(F.sm) fun F=>?_
   refine(F.s (ZiA rfl (F.at rfl) (F.at rfl) (by omega) (by omega))) fun F=>(F.sm) fun F=>wpStill_nil<|(F.m) fun F=>?_
   rw[show (((u:Nat):Int) % ((v:Nat):Int))=((u % v:Nat):Int) from rfl]at F;show _∧_;exact⟨by omega,_,_,F.u,G.u,_,_,rfl,rfl,(by rw[←hgc];exact Zcf (by omega)),(by have:=Nat.mod_lt u (show 0<v by omega);omega),(by omega)⟩
  ·refine wp_exit ?_
   have hv0:v=0:=by omega
   rw[show u=gcT f (i+1) by rw[←hgc,hv0,Nat.gcd_zero_right]]at F;refine k7<|Yg<|(F.y F.ad) fun F=>(F.m) fun F=>?_
   show _∧_;exact⟨by omega,F.u,G.u⟩
 ·refine wp_exit ?_
  have hi4:gcT f i=gcE f:=by rw[show i=4 by omega];rfl
  rw[hi4]at F;refine k3<|wQ fun k11=>wR fun k12=>(F.m) fun F=>?_
  rw[show (0:Int)=((0:Nat):Int) from rfl]at F;have q1:=G.q 1;replace q1:w3.heap[n1]?=some (.cells (tubC (lowF f (gcE f) 0)) 88 (0,0)):=q1;replace G:=G.rQ 1 q1;clear q1;refine k12<|Yh<|lpB (F.b [1,2,3]) (G.b [0,2]) (4) (fun i Lv Sv W=>Lv=[(18,.int .i64 ((i:Nat):Int))]∧Sv=[.q n1 ((tubC (lowF f (gcE f) i))) 88]) ⟨_,_,F.u,G.u,rfl,rfl⟩ ?_
  clear F G;rintro i _ w6 _ _ hi3 ⟨rfl,rfl⟩ F G;replace G:=G.z;refine wR fun k13=>(F.y F.ls) fun F=>k13<|wQ fun k14=>F.ci (fun hc19=>?_) (fun hc19=>?_)
  ·refine Yi<|k14<|wQ fun k15=>Yh<|wR fun k16=>(F.m) fun F=>(F.m) fun F=>k16 ?_
   obtain⟨hf0,hf1⟩:=HF.out i (by omega);have hlf:lowF f (gcE f) i i=f i:=if_neg (by omega);refine Yg<|(F.m) fun F=>(F.y (F.ia 4 1)) fun F=>(F.y (F.lw (Z2J (G.q 0) (k:=i) rfl (by omega)))) fun F=>?_
   rw[hlf]at F;refine(F.m) fun F=>?_;refine(F.y (Ziy rfl (F.at rfl) (F.at rfl) (by omega) (by omega) (by omega))) fun F=>(F.y (F.ia 4 1)) fun F=>(F.sw G 0 (Z2J (G.q 0) (k:=i) rfl (by omega)) fun _ hw=>Z8M hw (G.q 0) (k:=i) rfl (by omega)) fun G=>?_;have q1:=G.q 0;rw[Z3x (g:=lowF f (gcE f) (i+1)) (fun k hk=>by simp only[upF,lowF];by_cases e:k=i;(· rw[if_pos e,if_pos (by omega),e]);(by_cases e2:k<i;(· rw[if_neg e,if_pos e2,if_pos (by omega)]);(· rw[if_neg e,if_neg e2,if_neg (by omega)])))]at q1;replace G:=G.rQ 0 q1;clear q1;refine k15<|Yg<|(F.y F.ad) fun F=>(F.m) fun F=>?_
   show _∧_;exact⟨by omega,_,_,F.u,G.u,rfl,rfl⟩
  ·refine wp_exit ?_
   have q1:=G.q 0;rw[show i=4 by omega]at q1;replace G:=G.rQ 0 q1;clear q1;refine k11<|wR fun k17=>(F.y (F.lb (G.q 0))) fun F=>(F.sr G 1) fun G=>k17 ?_
   refine(F.rg (rs_c F rfl rfl Qy.underlying88 rfl (by kernel_rfl) (G.q 1))) ?_;exact⟨rfl,(G.e 2)⟩
variable{μ:Nat}
section
variable{P:Program}{ρ:Operand→Value}{o:Oper}{w:World}
theorem Zai{m: Nat}(ho:o.op = .slice t x none (some y) (some z))(hx:ρ x = .pointer (some ⟨b,0,none⟩))(hy:ρ y = .int .i64 (n:Int))(hz:ρ z = .int .i64 (n:Int))(hu:P.underlying t=some (.array (P.arrayLen t) (P.elem t)))(hs:(P.info? (P.elem t)).map (·.size)=some 1)(hm:P.arrayLen t=m)(hn:n≤m):
  (execOp ρ o).run P w = .ok (.value (.slice (some ⟨b,0,none⟩) n n)) w:=by
 have h0:(sizeOf (P.elem t)).run P w = .ok 1 w:=by
  generalize P.elem t=e at hs
  cases hq:P.info? e with
  | none=>simp[hq]at hs
  | some j =>
   have hj:j.size=1:=by simpa[hq] using hs
   simp[sizeOf,typeInfo,hq,hj]
 have hr:=run_sliceAt_array_hm (P:=P) w t ⟨b,0,none⟩ hu .i64 .i64 (n:Int) (n:Int) (by omega) (by omega) (by rw[hm];omega);rw[h0]at hr;simp only[Result.andThen_ok,slicedAt,Nat.zero_mul,Nat.sub_zero,Int.toNat_natCast]at hr;have ha:(if n=0 then(⟨b,0,none⟩:Addr) else Addr.add ⟨b,0,none⟩ 0)=⟨b,0,none⟩:=by split<;>rfl
 rw[ha]at hr;clear hu hs hm h0 ha;unfold execOp;simp only[ho,hx,hy,hz,Option.map_none,Option.map_some,Sem.run_bind,hr,Result.andThen_ok,Sem.run_pure]
end
def cutL(f:Nat→Int)(n:Nat):List Int:=(List.range n).map f
theorem Z83{w:World}{T:TypeId}{fz:Nat×Nat}(H:w.heap[b]?=some (.cells (tubC f) T fz))(hn:n≤4): SrcAt w 1 (some ⟨b,0,none⟩) n (ivs (cutL f n)):=by
 refine⟨by simp[ivs,cutL],(fun h=>by cases h),fun a0 ha j v hv=>?_,Z6J _⟩
 cases ha
 rw[ivs,cutL,Yn,Yn,Option.map_map,Y3]at hv;obtain⟨k,hk,rfl⟩:=hv;obtain⟨hj,rfl⟩:=List.getElem?_eq_some_iff.1 hk;simp only[List.length_range]at hj;have:=Z2J H (i:=(j:Int)) (k:=j) rfl (by omega);rw[Int.toNat_natCast,Nat.mul_one]at this;simp only[List.getElem_range,Function.comp];rw[Go.WideShapes.add_plain];exact this
theorem ZbN(x:Vm)(hv:VOk x)(f:Nat→Int)(w:World):Calls (Qy.prog μ) 108 #[.agg #[.int .i64 x.B,.slice x.da x.D.length x.dc,.slice x.la x.L.length x.lc,.int .i64 x.tol],.agg (tubC f)] w fun e w'=>∃a c,e = .returned (.slice a x.D.length c)∧w'.ownsRow w.heap.size 3 1 (.slice a x.D.length c) x.D.length (ivs (cutL f x.D.length))∧Ext [] w w':=by
 have E:Ext [] w w:=Ext.refl _ _;have hd4:=hv.d4;refine Z0m 14 Qy.func108 rfl Tryz.ntmps108 (Nat.le_of_ble_eq_true rfl) ?_;intro fa F;refine wS fun K1 hK1=>?_;refine Yg ?_;refine sqN F (Z30 rfl (F.at rfl)) fun fa w1 F hw=>?_;obtain⟨n2,hn⟩:=eQ w.heap.size;rw[←hn]at F;have s2:=sQ hn;have l2_E:=lQ hn E.size;replace E:=Z6 E hw;have q2:=Z02 hw hn;clear hw hn;refine sqN F (Z30 rfl (F.at rfl)) fun fa w2 F hw=>?_;obtain⟨n3,hn⟩:=eQ w1.heap.size;rw[←hn]at F;have s3:=sQ hn;have l3_E:=lQ hn E.size;have m3_2:=tQ hn (Z3 q2);replace q2:=Z1 hw q2;replace E:=Z6 E hw;have q3:=Z02 hw hn;clear hw hn;refine F.vl (ZH rfl (ev_c fa _)) fun fa F=>?_;refine wN<|hK1 _ _<|wS fun K2 hK2=>?_
 refine Yg ?_;refine F.vl (ZQ rfl (F.at rfl) Qy.underlying85 rfl (n:=0) (sz:=4) rfl (by kernel_rfl) (by decide)) fun fa F=>?_;refine F.vl (ZQ rfl (F.at rfl) Qy.underlying27 rfl (n:=1) (sz:=1) rfl (by kernel_rfl) (by decide)) fun fa F=>?_;refine F.vl (ZE rfl (F.at rfl) Qy.underlying25 rfl ((Z0 q2 1).trans (getS (get0)))) fun fa F=>?_;refine F.vl (Z66 rfl rfl (F.at rfl) Qy.underlying25) fun fa F=>?_;refine F.as fun fa F=>?_;refine wN<|hK2 _ _<|wS fun K3 hK3=>?_
 refine Yg ?_;refine F.mv fun fa F=>?_;refine F.mv fun fa F=>?_;refine F.vl ((Zai (n:=x.D.length) (m:=4) rfl (F.at rfl) (F.at rfl) (F.at rfl) (by kernel_rfl) (by kernel_rfl) (by kernel_rfl) hd4)) fun fa F=>?_;have oo:w2.ownsRow w.heap.size 3 1 (.slice none 0 0) 0 []:=World.ownsRow_nil _ _ _ _;have hEs:=E.size;refine ZD F rfl (by decide) rfl (Z8g rfl (w.heap.size) (e:=3) (size:=1) (bytes:=8) Qy.underlying22 (by kernel_rfl) (by decide) (ev_c fa _) oo (F.at rfl) (Z83 q3 hd4) (by omega) (by omega) (by omega)) ?_;clear F fa;rintro fa v' w3 F ⟨hown',hg⟩;obtain⟨va13,vc13,rfl⟩:=Zo hown';replace q2:=ZV oo hg q2 (by decide);replace q3:=ZV oo hg q3 (by decide);replace E:=Z0v E oo hg (by omega);replace oo:=hown';clear hg;rw[List.nil_append,Nat.zero_add]at oo;rw[Nat.zero_add]at F;refine F.as fun fa F=>?_;refine wN<|hK3 _ _ ?_
 refine wp_ret ?_
 (try simp only[Exit.inBlock,Exit.then,reduceIte])
 refine rt_v F (rs_1 F rfl rfl) ?_;exact⟨_,_,rfl,oo,E⟩
def tubR(f:Nat→Int):List Value:=[.int .i64 (f 0),.int .i64 (f 1),.int .i64 (f 2),.int .i64 (f 3)]
def Z2Z(T:List (List Int)):List Value:=(T.map fun t=>tubR (val t)).flatten
theorem Z3w(x:Vm)(hv:VOk x)(S:List (Value×List Int))(hs:∀p∈S,RcpOk x p.2)(h6:S.length≤6)(a:Option Addr)(c:Nat)(w:World)(h:Z0s w a S):
  Calls (Qy.prog μ) 70 #[.agg #[.int .i64 x.B,.slice x.da x.D.length x.dc,.slice x.la x.L.length x.lc,.int .i64 x.tol],.slice a S.length c] w fun e w'=>∃b d,e = .returned (.slice b S.length d)∧w'.ownsRow w.heap.size 88 4 (.slice b S.length d) S.length (Z2Z (S.map (·.2)))∧Ext [] w w':=by
 have E:Ext [] w w:=Ext.refl _ _;have HA:=Lib.hid h;have HS:=Lib.hid h.1;have HV:=Lib.hid hv;have HO:=Lib.hid hs;clear h hv hs;have om:w.ownsRow w.heap.size 88 4 (.slice none 0 0) 0 (Z2Z ((S.map (·.2)).take 0)):=World.ownsRow_nil _ _ _ _;have G:=(Bk.nil w).ce E;replace G:=G.co om;refine(ent 26 Tryz.f70 rfl) fun F=>wR fun k1=>(F.bx G) fun yy F G=>(F.m) fun F=>k1<|wQ fun k2=>wR fun k3=>(F.m) fun F=>(F.y F.ln) fun F=>(F.y F.gt) fun F=>k3<|(F.JF)<|Yi<|k2<|wR fun k4=>(F.m) fun F=>k4<|wQ fun k5=>wR fun k6=>(F.m) fun F=>(F.y F.ln) fun F=>(F.m) fun F=>k6<|Yh<|lpB (F.b [2,12,13]) (G.b [0,2]) (S.length) (fun i Lv Sv W=>∃va:Option Addr,∃vc:Nat,Lv=[(5,.slice va i vc),(14,.int .i64 ((i:Nat):Int))]∧Sv=[]∧W.ownsRow w.heap.size 88 4 (.slice va i vc) i (Z2Z ((S.map (·.2)).take i))) ⟨_,_,F.u,G.u,none,0,rfl,rfl,(G.o 1)⟩ ?_
 clear F G;rintro i _ w2 _ _ hi1 ⟨va,vc,rfl,rfl,om⟩ F G;replace G:=(G.z).co om;refine wR fun k7=>(F.y F.ls) fun F=>k7<|wQ fun k8=>F.ci (fun hc15=>?_) (fun hc15=>?_)
 ·refine Yi<|k8<|wQ fun k9=>Yh<|wQ fun k10=>?_
  obtain⟨la,lca,hla,hlr⟩:=HA.out.2 _ (Z8 (.bool true,[]) (show i<S.length by omega));have hrc:=HO.out _ (Z8 (.bool true,[]) (show i<S.length by omega));refine Yg<|(F.ix HS.out i) fun xr11 F=>(F.y (F.l1 (xr11 _ (G.e 2)) 0)) fun F=>?_
  rw[hla]at F;refine(F.m) fun F=>k10<|Yg<|(F.m) fun F=>(F.y (F.lb (G.q 1))) fun F=>(F.m) fun F=>(F.k0 G (Z9 x HV.out (S.getD i (.bool true,[])).2 hrc la lca _ (hlr.ext (G.e 2) (by simp)))) fun F G=>(F.bs G 4 #[.int .i64 (val (S.getD i (.bool true,[])).2 0),.int .i64 (val (S.getD i (.bool true,[])).2 1),.int .i64 (val (S.getD i (.bool true,[])).2 2),.int .i64 (val (S.getD i (.bool true,[])).2 3)] Qy.zeroValue88) fun yy F G=>?_
  have hEs:=(G.e 3).size;refine ZD F rfl (by decide) (F.want rfl) (ZI rfl (w.heap.size) (e:=88) (size:=4) (bytes:=32) Qy.underlying93 (by kernel_rfl) (by decide) (F.at rfl) (G.o 1) (F.at rfl) (G.q 0) rfl (by simp[Value.oneCell']) (by omega) (by omega) (by omega)) ?_;clear F;rintro _ v' w5 F ⟨hown',hg⟩;obtain⟨va23,vc23,rfl⟩:=Zo hown';replace G:=(G.d 0).gr 0 hg hown';clear hg hown';have om:=G.o 0;rw[show Z2Z ((S.map (·.2)).take i)++[.int .i64 (val (S.getD i (.bool true,[])).2 0),.int .i64 (val (S.getD i (.bool true,[])).2 1),.int .i64 (val (S.getD i (.bool true,[])).2 2),.int .i64 (val (S.getD i (.bool true,[])).2 3)]=Z2Z ((S.map (·.2)).take (i+1)) by rw[Z2k (S.map (·.2)) [] (show i<(S.map (·.2)).length by rw[Yj];omega),Z2Z,Z2Z,List.map_append,List.flatten_append,Z1R S (by omega)];simp[tubR]]at om;replace G:=G.rO 0 om;clear om;refine(F.m) fun F=>k9<|Yg<|(F.y F.ad) fun F=>(F.m) fun F=>?_
  show _∧_;exact⟨by omega,_,_,F.u,G.u,_,_,rfl,rfl,(G.o 0)⟩
 ·refine wp_exit ?_
  have om:=G.o 0;rw[List.take_of_length_le (show (S.map (·.2)).length≤i by rw[Yj];omega),show i=S.length by omega]at om;rw[show i=S.length by omega]at F;replace G:=G.rO 0 om;clear om;refine k5<|wR fun k12=>(F.m) fun F=>(F.m) fun F=>k12<|(F.r1) ?_
  have om:=G.o 0;exact⟨_,_,rfl,om,(G.e 2)⟩
variable{μ:Nat}
section
variable{P:Program}{r n:Nat}
def Z6R(o:Oper):Bool:=match o.op with | .defer _=>false | _=>true
theorem ZeE{o:Oper}(h:Z6R o=true): ∀c,o.op ≠ .defer c:=fun c e=>by rw[Z6R,e]at h;cases h
theorem ZeR{row:String}{args:Array Value}{w:World}{R:Value→World→Prop}(h:Rows P row args w R): RowsIn (Fence.wide.inRound r) n P row args w R:=by
 intro c cs _;obtain⟨v,w',h1,h2⟩:=h c cs;exact⟨v,w',h1,stepsIn_wide.2 h2⟩
theorem ZbB{f:FuncId}{args:Array Value}{w:World}{R:Ending→World→Prop}(h:Calls P f args w R): CallsIn (Fence.wide.inRound r) n P f args w R:=CallsIn.inRound r (callsIn_wide.2 h)
theorem ZeK{o:Oper}{a:Act}{w:World}{K:Act→World→Prop}{Q:Exit→Act→World→Prop}(hd:Z6R o=true)(h:o.wp P a w K Q): o.wpIn (Fence.wide.inRound r) n P a w K Q:=by
 refine⟨fun _ _=>trivial,?_⟩;rw[Fence.inRound_round,Oper.semAt_some r _ _ (ZeE hd)];unfold Oper.wp at h;generalize (execOp a.eval o).run P w=x at h;have h0:((Fence.wide.inRound r).depth.isSome=true→1≤n):=fun h=>by cases h
 cases x with
 | ok x w' =>
  cases x<;>simp only[Oper.upon,Oper.uponIn]at h ⊢ <;> first
   | exact h
   | exact⟨h0,CallsIn.mono (ZbB h) fun e w'' he=>by cases e<;>exact he⟩
   | exact⟨h0,RowsIn.mono (ZeR h) fun _ _ he=>he⟩
   | exact h.elim
 | halt x w'=>cases x<;>simp only[Oper.upon,Oper.uponIn]at h ⊢ <;> exact h
theorem Z3k{o:Oper}{a:Act}{w:World}{K K':Act→World→Prop}{Q:Exit→Act→World→Prop}(hd:Z6R o=true)(hK:∀a w,K a w→K' a w)(h:o.wp P a w K Q): o.wpIn (Fence.wide.inRound r) n P a w K' Q:=Oper.wpIn_mono hK (ZeK hd h)
theorem Z6N{ops:Array Oper}{Q:Exit→Act→World→Prop}(hQ:¬LetsOut Q):∀(l:List Oper) (a:Act) (w:World),l.all Z6R=true→wpList P ops Q l a w→wpListIn (Fence.wide.inRound r) n P ops Q l a w
 | [],_,_,_,h=>h
 | o::l,a,w,hd,h=>by
  simp only[List.all_cons,Y5]at hd;unfold wpListIn;unfold wpList at h
  by_cases hw:Region.wanted o (yielded ops a.tmps)=true
  ·simp only[hw,if_true]at h⊢
   exact Z3k hd.1 (fun a w=>Z6N hQ l a w hd.2) (h.resolve_right fun h=>hQ h.2)
  ·simp only[hw]at h⊢
   exact⟨fun _ _=>trivial,Z6N hQ l _ w hd.2 h⟩
theorem Zf{l:List Oper}{id:Nat}{Q:Exit→Act→World→Prop}{a:Act}{w:World}(hd:l.all Z6R=true)(hQ:¬LetsOut Q)(h:wpList P l.toArray Q l a w): (Code.region id l.toArray false).wpIn (Fence.wide.inRound r) n P Q a w:=
 wpIn_region_lit (Z6N hQ l a w hd h)
theorem Z69{ops:Array Oper}{md:Region.Mode}{Q:Exit→Act→World→Prop}(hQ:¬LetsOut Q)(hd:ops.toList.all Z6R=true):∀(fuel:Nat) (listed:Array Bool) (a:Act) (w:World),wpAny P md ops Q fuel listed a w→wpAnyIn (Fence.wide.inRound r) n P md ops Q fuel listed a w
 | 0,_,_,_,h=>h
 | fuel+1,listed,a,w,h=>by
  refine⟨h.1,fun i hi=>?_⟩;have h2:=h.2 i hi;unfold wpOp at h2;unfold wpOpIn
  cases ho:ops[i]? with
  | none=>simp only[ho]at h2⊢;exact Z69 hQ hd fuel _ a w h2
  | some o =>
   have hdo:Z6R o=true:=Yl.1 hd o (by
    obtain⟨h3,h4⟩:=Y0.1 ho;rw[←h4];simp)
   simp only[ho]at h2⊢
   by_cases hw:Region.wanted o (yielded ops a.tmps)=true
   ·simp only[hw,if_true]at h2⊢
    exact Z3k hdo (fun a w=>Z69 hQ hd fuel _ a w) (h2.resolve_right fun h=>hQ h.2)
   ·simp only[hw]at h2⊢
    exact⟨fun _ _=>trivial,Z69 hQ hd fuel _ _ w h2⟩
theorem Z7S{Q:Exit→Act→World→Prop}{a:Act}{l:List Oper}{id:Nat}{w:World}(T:World→Prop)(stop:Option Nat)(hm:P.follows .mixedOrders=true)(hd:l.all Z6R=true)(hQ:¬LetsOut Q)(h:∀W:World,W.heap=w.heap→Ext [] w W→Zr P .any l.toArray Q T stop l.toArray.size (Array.replicate l.toArray.size false) a W): (Code.region id l.toArray true).wpIn (Fence.wide.inRound r) n P Q a w:=
 wpIn_region_any hm (Z69 hQ (by simpa using hd) _ _ _ _ (Z68 _ _ _ _ (h _ rfl ⟨rfl,rfl,rfl,Ye _,fun _ _ _=>rfl⟩)))
end
section
variable{P:Program}{G:Fence}{n:Nat}{Q:Exit→Act→World→Prop}{N:Nat}{D:List Deferred}{a:Act}{L:List (Nat×Value)}{w:World}
theorem ZiO(F:Has N D a L){x y:Code}(hc:L.lookup k=some (.bool true))(h:x.wpIn G n P Q a w): (Code.cond (.tmp k) x y).wpIn G n P Q a w:=wpIn_cond_true (F.at hc) h
theorem ZfL(F:Has N D a L){x y:Code}{b:Bool}(hc:L.lookup k=some (.bool b))(hb:b=true)(h:x.wpIn G n P Q a w): (Code.cond (.tmp k) x y).wpIn G n P Q a w:=wpIn_cond_true (by rw[F.at hc,hb]) h
theorem ZfM(F:Has N D a L){x y:Code}{p:Prop}[Decidable p](hc:L.lookup k=some (.bool (decide p)))(ht:p→x.wpIn G n P Q a w)(hf:¬p→y.wpIn G n P Q a w): (Code.cond (.tmp k) x y).wpIn G n P Q a w:=by
 by_cases h:p
 ·exact wpIn_cond_true (by rw[F.at hc,decide_eq_true h]) (ht h)
 ·exact wpIn_cond_false (by rw[F.at hc,decide_eq_false h]) (hf h)
theorem ZiP(F:Has N D a L){x y:Code}{b:Bool}(hc:L.lookup k=some (.bool b))(ht:b=true→x.wpIn G n P Q a w)(hf:b=false→y.wpIn G n P Q a w): (Code.cond (.tmp k) x y).wpIn G n P Q a w:=by
 cases b
 ·exact wpIn_cond_false (F.at hc) (hf rfl)
 ·exact wpIn_cond_true (F.at hc) (ht rfl)
theorem Zhk(M:Nat)(I:Nat→Act→World→Prop)(h0:I 0 a w)(round:∀i a w,i≤M→I i a w→c.wpIn G n P (Exit.then (fun a' w'=>i<M∧I (i+1) a' w') Q) a w): (Code.loop c).wpIn G n P Q a w:=by
 intro b k cs hro hb hr;have key:∀m i a w,m=M-i→i≤M→I i a w→∃e a' w',Q e a' w'∧ArrivesIn (Machine.fenced P G) P (lone (b.atR a (.code c :: .inLoop c::k)) cs w) b k cs e a' w':=by
  intro m
  induction m with
  | zero =>
   intro i a w hn hi hI;obtain⟨e,a₁,w₁,hq,harr⟩:=round i a w hi hI b (.inLoop c::k) cs hro hb hr
   cases e with
   | normal=>exact absurd hq.1 (by omega)
   | _=>exact⟨_,a₁,w₁,hq,.pass (x:=.inLoop c) rfl (fun _ _=>.inl (by simp)) harr⟩
  | succ m ih =>
   intro i a w hn hi hI;obtain⟨e,a₁,w₁,hq,harr⟩:=round i a w hi hI b (.inLoop c::k) cs hro hb hr
   cases e with
   | normal =>
    obtain⟨hlt,hI₁⟩:=hq;obtain⟨e₂,a₂,w₂,hq₂,harr₂⟩:=ih (i+1) a₁ w₁ (by omega) hlt hI₁;exact⟨e₂,a₂,w₂,hq₂,.of_steps (StepsIn.trans harr (.one (fenced_calm hb hr rfl) stepR_inLoop)) harr₂⟩
   | _=>exact⟨_,a₁,w₁,hq,.pass (x:=.inLoop c) rfl (fun _ _=>.inl (by simp)) harr⟩
 obtain⟨e,a',w',hq,harr⟩:=key _ 0 a w rfl (Nat.zero_le _) h0;exact⟨e,a',w',hq,.of_steps (.one (fenced_calm hb hr rfl) stepR_loop) harr⟩
theorem Zhj{L0:List (Nat×Value)}(F:Has N D a L0)(M:Nat)(J:Nat→List (Nat×Value)→World→Prop)(h0:∃Lv,J 0 Lv w∧Has N D a (Lv++L0))(round:∀i Lv a w,i≤M→J i Lv w→Has N D a (Lv++L0)→c.wpIn G n P (Exit.then (fun a' w'=>i<M∧∃Lv',J (i+1) Lv' w'∧Has N D a' (Lv'++L0)) Q) a w): (Code.loop c).wpIn G n P Q a w:=
 Zhk M (fun i a w=>∃Lv,J i Lv w∧Has N D a (Lv++L0)) h0 fun i a w hi ⟨Lv,hJ,hF⟩=>round i Lv a w hi hJ hF
end
variable{μ:Nat}
section
variable{P:Program}{fn:Func}{R:Ending→World→Prop}{N:Nat}{D:List Deferred}{a:Act}{L:List (Nat×Value)}{w:World}
theorem Z3C{f:FuncId}(N:Nat)(hf:P.funcs[f]?=some fn)(hb:fn.body=some c)(hN:fn.ntmps=N)(hle:args.length≤N)(h:∀a,Has N [] a (argL 0 args)→c.wp P (bodyPostM Fence.wide 9 P fn R) a w): Calls P f args.toArray w R:=by
 refine(callsIn_wide (n:=9)).1 (callsIn_of_wp_marks hf hb trivial (wpIn_wide.2 (h _ ⟨rfl,by simp;omega,fun k v e=>?_⟩)));obtain⟨j,h1,h2⟩:=Z6a _ _ _ _ e;obtain rfl:k=j:=by omega
 have hj:=(List.getElem?_eq_some_iff.1 h2).1;simp only[Y6];rw[Array.getElem?_append_left (by simpa using hj)];simp[h2]
theorem entM{f:FuncId}(N:Nat)(fn:Func)(hb:fn.body=some c)(hf:P.funcs[f]?=some fn:=by kernel_rfl)(hN:fn.ntmps=N:=by rfl)(hle:args.length≤N:=by exact Nat.le_of_ble_eq_true rfl)(h:∀{a},Has N [] a (argL 0 args)→c.wp P (bodyPostM Fence.wide 9 P fn R) a w): Calls P f args.toArray w R:=Z3C N hf hb hN hle fun _ F=>h F
theorem Z3K(F:Has N D a L)(h:LeavesInM Fence.wide 9 P fn a.tmps R D .returning w):bodyPostM Fence.wide 9 P fn R .ret a w:=by
 show LeavesInM _ _ _ _ _ _ a.defers _ _;rw[F.ds];exact h
theorem Z1A{tmps:Array Value}{v:Value}(hr:(results fn tmps).run P w = .ok v w)(h:R (.returned v) w): LeavesInM Fence.wide 9 P fn tmps R [] .returning w:=⟨v,hr,h⟩
theorem Z8C{tmps:Array Value}{args:Array Value}{ds:List Deferred}(hk:w.heap[b]?=some (.deferred (some [])))(h:∀w2,w2=w.putObj b (.deferred none)→LeavesInM Fence.wide 9 P fn tmps R ds .returning w2): LeavesInM Fence.wide 9 P fn tmps R ({target:=.collected b,args:=args}::ds) .returning w:=
 ⟨by simp,.inl ⟨b,_,rfl,run_takeDeferred hk,h _ rfl⟩⟩
end
theorem Zeh(xT:TypeId)(w:World):(Instr.typeAssert Value.nilIface xT 135 true).run (Qy.prog μ) w = .ok (.tuple #[.int .i64 0,.bool false]) w:=by
 simp[Instr.typeAssert,run_underlying Qy.underlying135,Qy.zeroValue135,go_sem,Result.andThen]
theorem Z8k(n:Nat)(p:Addr)(w:World):
  CallsDIn Fence.wide n (Qy.prog μ) 63 #[.pointer (some p)] .returning w fun e u' w'=>e = .returned (.tuple #[])∧u' = .returning∧w'=w:=by
 refine callsDIn_of_wpSIn Qy.func63 rfl trivial fun c₀ cs hu=>?_;apply wpSIn_seq;apply wpSIn_region;simp[wpOpsSIn,Fence.wide,go_sem,recoverD,hu,Tryz.ntmps63,Exit.thenS,Zeh,Result.andThen];apply wpSIn_seq;apply wpSIn_region;simp[wpOpsSIn,Fence.wide,go_sem,Exit.thenS,Array.replicate];refine wpSIn_cond (t:=false) (by simp[Act.eval]) ?_;simp only[Bool.false_eq_true,if_false];refine wpSIn_of_wpIn rfl (wpIn_skip ?_)
 cases c₀
 simp_all [bodyPostS,results,Tryz.results63]
theorem ZN{fn:Func}{R:Ending→World→Prop}{tmps:Array Value}{w:World}{ds:List Deferred}(h:LeavesInM Fence.wide 9 (Qy.prog μ) fn tmps R ds .returning w): LeavesInM Fence.wide 9 (Qy.prog μ) fn tmps R ({target:=.fn (.func 63) #[],args:=#[.pointer (some ⟨b,0,none⟩)]}::ds) .returning w:=by
 refine⟨by simp,.inr ⟨(fun h=>by cases h),_,_,63,#[.pointer (some ⟨b,0,none⟩)],rfl,(by simp[go_sem,Qy.call63]),(fun _ _=>trivial),?_⟩⟩;refine CallsDIn.mono (Z8k 8 ⟨b,0,none⟩ w) ?_;rintro e u' w' ⟨rfl,rfl,rfl⟩;exact h
section
variable{P:Program}{ops:Array Oper}{Q:Exit→Act→World→Prop}{o:Oper}{rest:List Oper}{N:Nat}{D:List Deferred}{a:Act}{L:List (Nat×Value)}{w w':World}{v:Value}
theorem Za1(F:Has N D a L){d:Deferred}(hd:o.dst=none)(hw:Region.wanted o (yielded ops a.tmps)=true)(hr:(execOp a.eval o).run P w = .ok (.defer d) w)(h:∀a2,Has N (d::D) a2 L→wpList P ops Q rest a2 w): wpList P ops Q (o::rest) a w:=by
 unfold wpList;simp only[hw,if_true,Oper.wp,hr,Oper.upon,hd,Act.put];exact .inl (h _ ⟨by simp[F.ds],F.sz,F.get⟩)
theorem Zbe{ρ:Operand→Value}{f:FuncId}{l:List Operand}{ts:Array TypeId}{vs:List Value}(ho:o.op = .defer {callee:=.value (.func f),args:=l.toArray,argTypes:=ts})(hf:ρ (.func f) = .func (.func f) #[] #[])(ha:l.map ρ=vs): (execOp ρ o).run P w = .ok (.defer {target:=.fn (.func f) #[],args:=vs.toArray}) w:=by
 have ha:=Z4P ha;rw[←ha];unfold execOp;simp[ho,resolve,hf,go_sem]
theorem Has.df{f:FuncId}{l:List Operand}{ts:Array TypeId}{vs:List Value}(F:Has N D a L)(ho:o.op = .defer {callee:=.value (.func f),args:=l.toArray,argTypes:=ts}:=by rfl)(ha:opvs L l=some vs:=by rfl)(hd:o.dst=none:=by rfl)(hw:Z0e L ops o=some true:=by rfl)(h:∀{a2},Has N ({target:=.fn (.func f) #[],args:=vs.toArray}::D) a2 L→wpList P ops Q rest a2 w): wpList P ops Q (o::rest) a w:=Za1 F hd (F.want hw) (Zbe ho rfl (F.ops ha)) fun _ F=>h F
end
theorem Has.mark{N:Nat}{D:List Deferred}{a:Act}{L:List (Nat×Value)}(F:Has N D a L){d:Deferred}: Has N (d::D) {a with defers:=d::a.defers} L:=⟨by simp[F.ds],F.sz,F.get⟩
theorem Zt{w: World}{D: Nat}{o o':Obj}(e:w2=w.putObj D o')(hD:w.heap[D]?=some o)(hc:o.isCells=false){cs:Array Value}{T:TypeId}{fz:Nat×Nat}(h:w.heap[k]?=some (.cells cs T fz)): w2.heap[k]?=some (.cells cs T fz):=by
 have:k≠D:=fun e=>by subst e;rw[hD]at h;cases h;cases hc
 rw[e,World.putObj_heap_other this];exact h
theorem Z6D{w: World}{D:Nat}{o':Obj}(h:Ext X w W)(e:w2=W.putObj D o')(hD:w.heap.size≤D): Ext X w w2:=by
 rw[e];exact⟨h.os,h.tape,h.output,by simpa[World.putObj] using h.size,fun k hk hx=>(World.putObj_heap_other (by omega)).trans (h.block k hk hx)⟩
theorem Z9L{w: World}{base:Nat}{e:TypeId}{size: Nat}{v:Value}{xs:List Value}{D:Nat}{o o':Obj}(hw:w2=w.putObj D o')(hD:w.heap[D]?=some o)(hc:o.isCells=false)(h:w.ownsRow base e size v n xs): w2.ownsRow base e size v n xs:=by
 rw[hw];refine h.kept (grownBy_putObj' w D o') ?_
 rcases h.2 with⟨rfl,_⟩ | ⟨g,cap,cur,rfl,_,hgb,_⟩
 ·exact .inl rfl
 ·refine .inr fun e=>?_
  obtain rfl:g=D:=by simpa[Value.ownBlock] using e
  rw[hD]at hgb;cases hgb;cases hc
section
variable{P:Program}{fn:Func}{N:Nat}{D:List Deferred}{a:Act}{L:List (Nat×Value)}{w:World}
theorem Z3g{P:Program}{off: Nat}{v:Value}{d:TypeDesc}{w:World}(hd:P.underlying t=some d)(ha:d.isRow=false)(hc:w.cell? ⟨b,off,none⟩=some v): (loadVar t ⟨b,off,none⟩).run P w = .ok v w:=by
 cases d<;>first | (simp[TypeDesc.isRow]at ha;done) | simp[loadVar,isAgg,underlying,hd,load,hc,Sem.run,go_sem]
theorem Z6Y(F:Has N D a L){t s ty: Nat}{u v:Value}{T:TypeId}{d:TypeDesc}{fz:Nat×Nat}(hr:fn.results=#[.tmp t,.cell s ty])(hv:L.lookup t=some v)(hs:L.lookup s=some (.pointer (some ⟨b,0,none⟩)))(hd:P.underlying ty=some d)(ha:d.isRow=false)(H:w.heap[b]?=some (.cells #[u] T fz)): (results fn a.tmps).run P w = .ok (.tuple #[v,u]) w:=by
 have hl:=Z3g (P:=P) (t:=ty) hd ha ((Z0 H 0).trans get0);have h1:=F.get _ _ hv;have h2:=F.get _ _ hs;simp only[Y6]at h1 h2;simp[results,hr,h1,h2,asAddr,hl,Result.andThen]
theorem Zd1(F:Has N D a L){t r s ty: Nat}{u v x:Value}{T:TypeId}{d:TypeDesc}{fz:Nat×Nat}(hr:fn.results=#[.tmp t,.tmp r,.cell s ty])(hv:L.lookup t=some v)(hx:L.lookup r=some x)(hs:L.lookup s=some (.pointer (some ⟨b,0,none⟩)))(hd:P.underlying ty=some d)(ha:d.isRow=false)(H:w.heap[b]?=some (.cells #[u] T fz)): (results fn a.tmps).run P w = .ok (.tuple #[v,x,u]) w:=by
 have hl:=Z3g (P:=P) (t:=ty) hd ha ((Z0 H 0).trans get0);have h1:=F.get _ _ hv;have h2:=F.get _ _ hs;have h3:=F.get _ _ hx;simp only[Y6]at h1 h2 h3;simp[results,hr,h1,h2,h3,asAddr,hl,Result.andThen]
end
variable{μ:Nat}
def Z11(ob:Nat)(W:World):Option Nat:=match W.heap[ob]? with
 | some (.cells cs _ _)=>(cs[0]?).bind Value.ownBlock
 | _=>none
def Safe(X:List Nat)(ob k:Nat)(W:World):Prop:=k ∉ X∧k≠ob∧Z11 ob W≠some k
structure KeepR(X:List Nat)(ob:Nat)(A B:World):Prop where
 size:A.heap.size≤B.heap.size
 cells:∀(k:Nat) (cs:Array Value) (T:TypeId) (fz:Nat×Nat),A.heap[k]?=some (.cells cs T fz)→Safe X ob k A→B.heap[k]?=some (.cells cs T fz)
 row:Z11 ob B=Z11 ob A∨∀r,Z11 ob B=some r→A.heap.size≤r
section
variable{X:List Nat}{ob k:Nat}{A B C:World}
theorem Safe.keep(h:Safe X ob k A)(hk:k<A.heap.size)(K:KeepR X ob A B):Safe X ob k B:=by
 refine⟨h.1,h.2.1,fun e=>?_⟩
 rcases K.row with h1 | h1
 ·exact h.2.2 (by rw[←h1];exact e)
 ·have:=h1 _ e;omega
theorem Safe.same(h:Safe X ob k A)(e:B.heap[ob]?=A.heap[ob]?):Safe X ob k B:=⟨h.1,h.2.1,by rw[Z11,e];exact h.2.2⟩
theorem KeepR.refl:KeepR X ob A A:=⟨Ye _,fun _ _ _ _ h _=>h,.inl rfl⟩
theorem KeepR.trans(h:KeepR X ob A B)(k:KeepR X ob B C):KeepR X ob A C:=by
 refine⟨Yd h.size k.size,fun i cs T fz hi hs=>k.cells i cs T fz (h.cells i cs T fz hi hs) (hs.keep (Z3 hi) h),?_⟩
 rcases k.row with h1 | h1
 ·rw[h1];exact h.row
 ·exact .inr fun r e=>Yd h.size (h1 r e)
theorem KeepR.put{l:Nat}{o o':Obj}(hl:A.heap[l]?=some o)(ho:o.isCells=false)(hne:ob≠l):KeepR X ob A (A.putObj l o'):=by
 have h0:(A.putObj l o').heap[ob]?=A.heap[ob]?:=World.putObj_heap_other hne;refine⟨by simp[World.putObj],fun i cs T fz hi _=>?_,.inl (by rw[Z11,h0];rfl)⟩;have:i≠l:=fun e=>by subst e;rw[hl]at hi;cases hi;cases ho
 rw[World.putObj_heap_other this];exact hi
end
def SeqR{α:Type}(P:Program)(gf:Nat)(lb:Array Value)(encs:α→Array Value)(X:List Nat)(ob:Nat)(xs:List α)(w:World):Prop:=
 ∀(l:Nat) (J:List α→World→Prop) (W:World),w.heap.size≤W.heap.size→(∀k,k<w.heap.size→W.heap[k]?=w.heap[k]?) →
  (∀s U V,J s U→U.grownBy V none→J s V) →
  (∀s U V r,J s U→Safe X ob r U→W.heap.size≤r→(∃o:Obj,U.heap[r]?=some o∧o.isCells=true)→U.grownBy V (some r)→J s V) →
  (∀pre x V,J pre V→pre++[x] <+: xs→YieldAt Fence.wide 0 P l (encs x) V fun e V'=>e = .returned (.bool true)∧J (pre++[x]) V'∧KeepR X ob V V') →
  J [] W→Calls P gf (#[.func (.yield l) #[] #[]]++lb) W fun e W'=>(∃v,e = .returned v)∧J xs W'
def Zl6{α:Type}(B:Nat)(X:List Nat)(ob:Nat)(I:List α→World→Prop)(xs:List α)(W:World):Exit→Act→World→Prop
 | .normal,_,W'=>KeepsFrom B W W'∧KeepR X ob W W'∧I xs W'
 | _,_,_=>False
theorem Zb6{l:Nat}{f:FuncId}{tmps:Array Value}{assign body:Code}{R:Ending→World→Prop}{m m':Nat}(h:RoundIn Fence.wide m P l f tmps assign body w R): RoundIn Fence.wide m' P l f tmps assign body w R:=⟨h.1,fun c cs _=>h.2 c cs (fun d h=>by cases h)⟩
theorem ZcS{α:Type}{g:Operand}{ps:Array Tmp}{assign body:Code}{Q:Exit→Act→World→Prop}{a:Act}{gf:Nat}{lb:Array Value}(hg:a.eval g = .func (.func gf) #[] lb)(eg:∀args w,(callFunc gf args).run P w = .ok (.enter gf args) w){encs:α→Array Value}{X:List Nat}{ob:Nat}{xs:List α}(hseq:SeqR P gf lb encs X ob xs w)(hps:∀x,(encs x).size=ps.size)(hob:ob<w.heap.size)(I:List α→World→Prop)(hI1:∀s U V,I s U→U.grownBy V none→I s V)(hIo:∀s U V r,I s U→w.heap.size≤r→(∃o:Obj,U.heap[r]?=some o∧o.isCells=false)→U.grownBy V (some r)→I s V)(hIc:∀s U V r,I s U→w.heap.size≤r→Safe X ob r U→(∃o:Obj,U.heap[r]?=some o∧o.isCells=true)→U.grownBy V (some r)→I s V)(h0:I [] w)(Ax:List α→α→Act→World→Prop)(hAx:∀pre x a' U V r,Ax pre x a' U→w.heap.size≤r→(∃o:Obj,U.heap[r]?=some o∧o.isCells=false)→U.grownBy V (some r)→Ax pre x a' V) (hassign:∀(l:Nat) (pre:List α) (x:α) (W:World) (K:Act→World→Prop),I pre W→(∀a' W',KeepsFrom w.heap.size W W'→KeepR X ob W W'→Ax pre x a' W'→K a' W') →
   assign.wpIn (Fence.wide.inRound l) 0 P (Exit.then K (fun _ _ _=>False)) {tmps:=(ps.zip (encs x)).foldl (fun t (p,v)=>t.setIfInBounds p v) a.tmps,defers:=[]} W) (hbody:∀(l:Nat) (pre:List α) (x:α) (a':Act) (W:World),Ax pre x a' W→pre++[x] <+: xs→body.wpIn (Fence.wide.inRound l) 0 P (Zl6 w.heap.size X ob I (pre++[x]) W) a' W) (hdone:∀(D:Nat) (W:World),w.heap.size≤D→I xs W→W.heap[D]?=some (.deferred (some []))→Q .normal {a with defers:={target:=.collected D,args:=#[]}::a.defers} W):
  (Code.rangeFunc g ps assign body).wp P Q a w:=by
 refine(wpIn_wide (n:=1)).1 (wpIn_rangeFunc fun fn hfn=>?_);obtain⟨rec,hrec⟩:∃rec:LoopState→Option Code→Loop,rec=fun st pe=>{state:=st,pending:=pe,fn,tmps:=a.tmps,params:=ps,assign,body,defers:=w.heap.size}:=⟨_,rfl⟩;have hput:∀{s:List α} {U:World} {l:Nat} {o:Obj} (o':Obj),I s U→w.heap.size≤l→U.heap[l]?=some o→o.isCells=false→I s (U.putObj l o'):=
  fun o' hi hl hu ho=>hIo _ _ _ _ hi hl ⟨_,hu,ho⟩ (grownBy_putObj' _ _ _)
 have hn:∀{l:Nat},w.heap.size≤l→ob≠l:=fun h e=>by omega
 have sD:∀(o:Obj),(w.alloc o).heap.size=w.heap.size+1:=fun o=>by simp
 obtain⟨W1,hW1⟩:∃W1,W1=(w.alloc (.deferred (some []))).alloc (.loop (rec .ready none)):=⟨_,rfl⟩;have hs1:W1.heap.size=w.heap.size+1+1:=by rw[hW1];simp
 have hL1:W1.heap[w.heap.size+1]?=some (.loop (rec .ready none)):=by rw[hW1];exact Z6g (by simp)
 have hD1:W1.heap[w.heap.size]?=some (.deferred (some [])):=by rw[hW1];exact(Below.heap_alloc _ _ _ (by simp)).trans (World.alloc_heap_new w _)
 have hb1:∀k,k<w.heap.size→W1.heap[k]?=w.heap[k]?:=fun k hk=>by
  rw[hW1];exact(Below.heap_alloc _ _ _ (by simp;omega)).trans (Below.heap_alloc _ _ _ hk)
 have hI0:I [] W1:=by rw[hW1];exact hI1 _ _ _ (hI1 _ _ _ h0 (World.grownBy_alloc _ _ _)) (World.grownBy_alloc _ _ _)
 refine⟨w.heap.size+1,[{target:=.collected w.heap.size,args:=#[]}],W1,{target:=.fn (.func gf) lb,args:=#[.func (.yield (w.heap.size+1)) #[] #[]]},W1,gf,
  #[.func (.yield (w.heap.size+1)) #[] #[]]++lb,W1,?_,?_,fun _ _=>trivial,?_,(fun h=>by cases h),?_⟩
 ·rw[hW1,hrec];exact run_enterLoop_outer _ _ _ _ _
 ·simp only[resolve,hg]
  simp[go_sem]
 ·simp[invoke,go_sem,eg]
 ·refine(callsIn_wide.2 (hseq (w.heap.size+1) (fun pre W=>I pre W∧W.heap[w.heap.size+1]?=some (.loop (rec .ready none))∧W.heap[w.heap.size]?=some (.deferred (some [])))
   W1 (by omega) hb1 (fun s U V h hg'=>⟨hI1 _ _ _ h.1 hg',(hg'.block _ (Z3 h.2.1) (by simp)).trans h.2.1,(hg'.block _ (Z3 h.2.2) (by simp)).trans h.2.2⟩)
   (fun s U V r h hsf hr hc hg'=>⟨hIc _ _ _ _ h.1 (by omega) hsf hc hg',(hg'.block _ (Z3 h.2.1) (fun e=>by cases e;omega)).trans h.2.1,(hg'.block _ (Z3 h.2.2) (fun e=>by cases e;omega)).trans h.2.2⟩)
   ?_ ⟨hI0,hL1,hD1⟩)).mono ?_
  ·rintro pre x W ⟨hi,hl,hk⟩ hpx
   have hy:=run_yield (P:=P) (args:=encs x) hl (by rw[hrec];exact hps x);rw[hrec]at hy;refine⟨fn,_,assign,body,hy,roundIn_of_wpIn hfn (hassign _ pre x W _ hi ?_)⟩;clear hy;intro a' Wa hkf hkr hax;have hla:=hkf.same _ _ (by omega) hl rfl;have hka:=hkf.same _ _ (Ye _) hk rfl;refine⟨_,run_beginRound hla (by rw[hrec]),?_⟩;obtain⟨Wb,hWb⟩:∃Wb,Wb=Wa.putObj (w.heap.size+1) (.loop {rec .ready none with state:=.busy}):=⟨_,rfl⟩;have hlb:Wb.heap[w.heap.size+1]?=some (.loop {rec .ready none with state:=.busy}):=by rw[hWb];exact World.putObj_heap_same (Z3 hla)
   have hkb:Wb.heap[w.heap.size]?=some (.deferred (some [])):=by rw[hWb];exact(World.putObj_heap_other (by omega)).trans hka
   have hrb:KeepR X ob Wa Wb:=by rw[hWb];exact KeepR.put hla rfl (hn (by omega))
   have haxb:Ax pre x a' Wb:=by rw[hWb];exact hAx _ _ _ _ _ _ hax (by omega) ⟨_,hla,rfl⟩ (grownBy_putObj' _ _ _)
   rw[←hWb];refine wpIn_mono (hbody _ pre x a' Wb haxb hpx) ?_;rintro e a3 W3 hp
   cases e with
   | normal =>
    obtain⟨hk3,hr3,hi3⟩:=hp;have hl3:=hk3.same _ _ (by omega) hlb rfl;have he:=run_endRound (P:=P) none hl3;rw[hrec]at he hl3;refine⟨_,_,he,rfl,⟨hput _ hi3 (by omega) hl3 rfl,?_,?_⟩,hkr.trans (hrb.trans (hr3.trans (KeepR.put hl3 rfl (hn (by omega)))))⟩
    ·rw[hrec];exact World.putObj_heap_same (Z3 hl3)
    ·exact(World.putObj_heap_other (by omega)).trans (hk3.same _ _ (Ye _) hkb rfl)
   | _=>exact hp.elim
  ·rintro e W2 ⟨⟨v,rfl⟩,hi,hl,hk⟩
   refine⟨none,_,by have:=run_endLoop (P:=P) hl (by rw[hrec];simp);rw[hrec]at this;exact this,hdone _ _ (Ye _) (hput _ hi (by omega) hl rfl) ((World.putObj_heap_other (by omega)).trans hk)⟩
variable{μ:Nat}
section
variable{P:Program}{ops:Array Oper}{Q:Exit→Act→World→Prop}{o:Oper}{rest:List Oper}{N:Nat}{D:List Deferred}{a:Act}{L:List (Nat×Value)}{w w':World}{v:Value}{n:Nat}
theorem Z5y{fn:Func}{R:Ending→World→Prop}{f:FuncId}{w:World}(N:Nat)(hf:P.funcs[f]?=some fn)(hb:fn.body=some c)(hN:fn.ntmps=N)(hle:args.length≤N)(h:∀a,Has N [] a (argL 0 args)→c.wpIn Fence.wide 9 P (bodyPost P fn R) a w): Calls P f args.toArray w R:=
 Z0m N hf hb hN hle fun a F=>wpIn_wide.1 (h a F)
theorem ZjP(F:Has N D a L)(hd:o.dst=some d)(hN:d<N)(hw:Region.wanted o (yielded ops a.tmps)=true)(hr:(execOp a.eval o).run P w = .ok (.value v) w')(h:∀a2 w2,Has N D a2 ((d,v)::L)→w2=w'→wpListIn Fence.wide n P ops Q rest a2 w2): wpListIn Fence.wide n P ops Q (o::rest) a w:=by
 unfold wpListIn;simp only[hw,if_true];refine⟨fun _ _=>trivial,?_⟩;rw[show Fence.wide.round=none from rfl,Oper.semAt_none,hr,Oper.uponIn_value,hd];exact h _ _ (F.put hN v) rfl
theorem Zd6(F:Has N D a L)(hd:o.dst=some d)(hN:d<N)(hw:Region.wanted o (yielded ops a.tmps)=true)(hr:(execOp a.eval o).run P w = .ok (.value v) w)(h:∀a2,Has N D a2 ((d,v)::L)→wpListIn Fence.wide n P ops Q rest a2 w): wpListIn Fence.wide n P ops Q (o::rest) a w:=
 ZjP F hd hN hw hr fun a2 w2 F2 e=>by subst e;exact h a2 F2
theorem ZhP(F:Has N D a L)(hd:o.dst=some d)(hN:d<N)(hw:Region.wanted o (yielded ops a.tmps)=false)(h:∀a2,Has N D a2 ((d,undef)::L)→wpListIn Fence.wide n P ops Q rest a2 w): wpListIn Fence.wide n P ops Q (o::rest) a w:=by
 unfold wpListIn;simp only[hw,Bool.false_eq_true,if_false,hd];exact⟨fun _ _=>trivial,h _ (F.put hN undef)⟩
theorem ZeU(F:Has N D a L){l:Nat}{f:FuncId}{tmps:Array Value}{assign body:Code}{R:Ending→World→Prop}(hd:o.dst=some d)(hN:d<N)(hw:Region.wanted o (yielded ops a.tmps)=true)(hr:(execOp a.eval o).run P w = .ok (.round l f tmps assign body) w)(hc:RoundIn Fence.wide 0 P l f tmps assign body w R)(h:∀e w',R e w'→∃v,e = .returned v∧∀a2,Has N D a2 ((d,v)::L)→wpListIn Fence.wide n P ops Q rest a2 w'): wpListIn Fence.wide n P ops Q (o::rest) a w:=by
 unfold wpListIn;simp only[hw,if_true];refine⟨fun _ _=>trivial,?_⟩;rw[show Fence.wide.round=none from rfl,Oper.semAt_none,hr,Oper.uponIn_round];refine⟨(fun h=>by cases h),RoundIn.mono (Zb6 hc) fun e w' hR=>?_⟩;obtain⟨v,rfl,h1⟩:=h e w' hR;show wpListIn _ _ _ _ _ _ _ _;rw[hd];exact h1 _ (F.put hN v)
theorem Has.vlW(F:Has N D a L)(hr:(execOp a.eval o).run P w = .ok (.value v) w)(h:∀a2,Has N D a2 ((d,v)::L)→wpListIn Fence.wide n P ops Q rest a2 w)(hd:o.dst=some d:=by rfl)(hN:d<N:=by decide)(hw:Region.wanted o (yielded ops a.tmps)=true:=by rfl): wpListIn Fence.wide n P ops Q (o::rest) a w:=
 Zd6 F hd hN hw hr h
theorem Has.mvW(F:Has N D a L)(h:∀a2,Has N D a2 ((d,v)::L)→wpListIn Fence.wide n P ops Q rest a2 w)(ho:o.op = .move (.tmp k):=by rfl)(hl:L.lookup k=some v:=by rfl)(hd:o.dst=some d:=by rfl)(hN:d<N:=by decide)(hw:Region.wanted o (yielded ops a.tmps)=true:=by rfl): wpListIn Fence.wide n P ops Q (o::rest) a w:=
 Zd6 F hd hN hw (Z1q ho (F.at hl)) h
theorem Has.asW(F:Has N D a L)(h:∀a2,Has N D a2 ((d,v)::L)→wpListIn Fence.wide n P ops Q rest a2 w)(ho:o.op = .assign (.tmp k):=by rfl)(hl:L.lookup k=some v:=by rfl)(hd:o.dst=some d:=by rfl)(hN:d<N:=by decide)(hw:Region.wanted o (yielded ops a.tmps)=true:=by rfl): wpListIn Fence.wide n P ops Q (o::rest) a w:=
 Zd6 F hd hN hw (ZH ho (F.at hl)) h
theorem Zgr{ρ:Operand→Value}{l:Nat}{xs:List Operand}{ts:Array TypeId}{vs:List Value}{f:FuncId}{tmps:Array Value}{assign body:Code}(ho:o.op = .call {callee:=.value x,args:=xs.toArray,argTypes:=ts})(hf:ρ x = .func (.yield l) #[] #[])(ha:xs.map ρ=vs)(hy:(Instr.yield l vs.toArray).run P w = .ok (.round l f tmps assign body) w): (execOp ρ o).run P w = .ok (.round l f tmps assign body) w:=by
 subst ha;unfold execOp;simp[ho,resolve,hf,invoke,go_sem,hy]
end
def frL:Nat→Nat→List Int→List (List Int)
 | 0,left,p=>if left=6 then[] else[p]
 | more+1,left,p=>(List.range (left+1)).flatMap fun n=>frL more (left-n) (p++[(n:Int)])
def recL(nd:Nat):List (List Int):=frL nd 6 []
def Agr(nd:Nat)(g:Nat→Int)(p:List Int):Prop:=(∀j,j<p.length→g j=val p j)∧∀j,nd≤j→g j=0
theorem Agr.tub{nd:Nat}{g:Nat→Int}{p:List Int}(h:Agr nd g p)(hp:p.length=nd): tubC g=tubC (val p):=by
 refine Z3x fun k hk=>?_
 by_cases e:k<p.length
 ·exact h.1 k e
 ·rw[h.2 k (by omega),val,Y7,List.getElem?_eq_none (by omega)];rfl
theorem Agr.step{nd:Nat}{g:Nat→Int}{p:List Int}(h:Agr nd g p)(hp:p.length<nd)(n:Int):Agr nd (upF g p.length n) (p++[n]):=by
 refine⟨fun j hj=>?_,fun j hj=>?_⟩
 ·simp only[Ym,List.length_singleton]at hj
  by_cases e:j=p.length
  ·subst e;simp[upF,val]
  ·rw[upF,if_neg e,h.1 j (by omega)];simp[val,List.getElem?_append_left (show j<p.length by omega)]
 ·rw[upF,if_neg (by omega),h.2 j hj]
theorem Agr.back{nd:Nat}{g:Nat→Int}{p:List Int}{n:Int}(h:Agr nd g (p++[n])): Agr nd g p:=by
 refine⟨fun j hj=>?_,h.2⟩;rw[h.1 j (by simp;omega)];simp[val,List.getElem?_append_left hj]
theorem Z4L{α:Type}(f:Nat→List α)(k:Nat): (List.range (k+1)).flatMap f=(List.range k).flatMap f++f k:=by
 rw[List.range_succ,List.flatMap_append];simp
theorem Z8q{α:Type}(f:Nat→List α){n: Nat}(h:k≤n): (List.range k).flatMap f <+: (List.range n).flatMap f:=by
 obtain⟨d,rfl⟩:=Nat.exists_eq_add_of_le h
 induction d with
 | zero=>exact List.prefix_refl _
 | succ d ih=>exact(ih (by omega)).trans ⟨f (k+d),by rw[←Z4L];rfl⟩
structure ItB(x:Vm)(X:List Nat)(ob nb yb tb gb l:Nat)(g:Nat→Int)(W:World):Prop where
 hn:W.heap[nb]?=some (.cells #[.int .i64 x.B,.slice x.da x.D.length x.dc,.slice x.la x.L.length x.lc,.int .i64 x.tol] 85 (0,0))
 hy:W.heap[yb]?=some (.cells #[.func (.yield l) #[] #[]] 160 (0,0))
 ht:W.heap[tb]?=some (.cells (tubC g) 88 (0,0))
 hg:W.heap[gb]?=some (.cells #[.func (.func 127) #[] #[.pointer (some ⟨nb,0,none⟩),.pointer (some ⟨yb,0,none⟩),.pointer (some ⟨tb,0,none⟩),.pointer (some ⟨gb,0,none⟩)]] 161 (0,0))
 sn:Safe X ob nb W
 sy:Safe X ob yb W
 st:Safe X ob tb W
 sg:Safe X ob gb W
theorem ItB.keep{x:Vm}{X:List Nat}{ob nb yb tb gb l:Nat}{g:Nat→Int}{W W':World}(h:ItB x X ob nb yb tb gb l g W)(k:KeepR X ob W W'):ItB x X ob nb yb tb gb l g W':=
 ⟨k.cells _ _ _ _ h.hn h.sn,k.cells _ _ _ _ h.hy h.sy,k.cells _ _ _ _ h.ht h.st,k.cells _ _ _ _ h.hg h.sg,h.sn.keep (Z3 h.hn) k,h.sy.keep (Z3 h.hy) k,h.st.keep (Z3 h.ht) k,h.sg.keep (Z3 h.hg) k⟩
variable{μ:Nat}
section
variable(x:Vm)(hd4:x.D.length≤4)(X:List Nat)(ob nb yb tb gb l B0:Nat)(J:List (List Int)→World→Prop)(xs:List (List Int))
theorem Zek(hY:∀pre q V,J pre V→pre++[q] <+: xs→YieldAt Fence.wide 0 (Qy.prog μ) l #[.agg (tubC (val q))] V fun e V'=>e = .returned (.bool true)∧J (pre++[q]) V'∧KeepR X ob V V')
  (left:Nat) (hl:left≤6) (p:List Int) (hp:p.length=x.D.length) (g:Nat→Int) (hag:Agr x.D.length g p) (pre:List (List Int)) (W:World) (hJ:J pre W) (hx:pre++frL 0 left p <+: xs) (hb:ItB x X ob nb yb tb gb l g W) :
  Calls (Qy.prog μ) 127 #[.int .i64 ((p.length:Nat):Int),.int .i64 ((left:Nat):Int),.pointer (some ⟨nb,0,none⟩),.pointer (some ⟨yb,0,none⟩),.pointer (some ⟨tb,0,none⟩),.pointer (some ⟨gb,0,none⟩)] W fun e W'=>e = .returned (.bool true)∧J (pre++frL 0 left p) W'∧∃g',Agr x.D.length g' p∧ItB x X ob nb yb tb gb l g' W':=by
 have HY:=Lib.hid hY;obtain⟨q2,q3,q4,q5,sn,sy,st,sg⟩:=hb;rw[hag.tub hp]at q4
 by_cases h6:left=6
 ·have hfr:frL 0 left p=[]:=by rw[frL,if_pos h6]
  rw[hfr]at hx⊢;rw[List.append_nil];clear hY;refine Z5y 40 Qy.func127 rfl Tryz.ntmps127 (Nat.le_of_ble_eq_true rfl) ?_;intro fa F;refine wpIn_seq_k fun K1 hK1=>?_;refine wpIn_region_lit ?_;refine F.vlW (ZH rfl (ev_c fa _)) fun fa F=>?_;refine wpListIn_nil ?_;refine hK1 _ _ ?_;refine wpIn_seq_k fun K2 hK2=>?_;refine wpIn_seq_k fun K3 hK3=>?_;refine wpIn_region_lit ?_;refine F.mvW fun fa F=>?_;refine F.vlW (ZQ rfl (F.at rfl) Qy.underlying85 rfl (n:=0) (sz:=4) rfl (by kernel_rfl) (by decide)) fun fa F=>?_;refine F.vlW (ZQ rfl (F.at rfl) Qy.underlying27 rfl (n:=1) (sz:=1) rfl (by kernel_rfl) (by decide)) fun fa F=>?_;refine F.vlW (ZE rfl (F.at rfl) Qy.underlying25 rfl ((Z0 q2 1).trans (getS (get0)))) fun fa F=>?_;refine F.vlW (Z66 rfl rfl (F.at rfl) Qy.underlying25) fun fa F=>?_;refine F.vlW (Z95 rfl (F.at rfl) (F.at rfl)) fun fa F=>?_;refine wpListIn_nil ?_;refine hK3 _ _ ?_;refine ZfL F rfl (decide_eq_true (by omega)) ?_;refine wpIn_seq_k fun K4 hK4=>?_;refine wpIn_region_lit ?_;refine F.mvW fun fa F=>?_;refine F.vlW (Z94 (b:=true) rfl (F.at rfl) (ev_c fa _) (decide_eq_true ((by omega)))) fun fa F=>?_;refine F.mvW fun fa F=>?_;refine ZhP F rfl (by decide) (Z24 F rfl rfl (by decide) rfl (by decide)) fun fa F=>?_;refine ZhP F rfl (by decide) (Z24 F rfl rfl (by decide) rfl (by decide)) fun fa F=>?_;refine ZhP F rfl (by decide) (Z24 F rfl rfl (by decide) rfl (by decide)) fun fa F=>?_;refine F.vlW (Z4z rfl (F.at rfl) (ev_c fa _)) fun fa F=>?_;refine F.asW fun fa F=>?_;refine wpListIn_nil ?_;refine hK4 _ _ ?_;refine wpIn_ret ?_
  (try simp only[Exit.inBlock,Exit.then,reduceIte])
  refine rt_v F (rs_1 F rfl rfl) ?_;exact⟨rfl,hJ,_,⟨fun j hj=>rfl,fun j hj=>(by rw[val,Y7,List.getElem?_eq_none (by omega)];rfl)⟩,q2,q3,q4,q5,sn,sy,st,sg⟩
 ·have hfr:frL 0 left p=[p]:=by rw[frL,if_neg h6]
  rw[hfr]at hx⊢;clear hY;refine Z5y 40 Qy.func127 rfl Tryz.ntmps127 (Nat.le_of_ble_eq_true rfl) ?_;intro fa F;refine wpIn_seq_k fun K1 hK1=>?_;refine wpIn_region_lit ?_;refine F.vlW (ZH rfl (ev_c fa _)) fun fa F=>?_;refine wpListIn_nil ?_;refine hK1 _ _ ?_;refine wpIn_seq_k fun K2 hK2=>?_;refine wpIn_seq_k fun K3 hK3=>?_;refine wpIn_region_lit ?_;refine F.mvW fun fa F=>?_;refine F.vlW (ZQ rfl (F.at rfl) Qy.underlying85 rfl (n:=0) (sz:=4) rfl (by kernel_rfl) (by decide)) fun fa F=>?_;refine F.vlW (ZQ rfl (F.at rfl) Qy.underlying27 rfl (n:=1) (sz:=1) rfl (by kernel_rfl) (by decide)) fun fa F=>?_;refine F.vlW (ZE rfl (F.at rfl) Qy.underlying25 rfl ((Z0 q2 1).trans (getS (get0)))) fun fa F=>?_;refine F.vlW (Z66 rfl rfl (F.at rfl) Qy.underlying25) fun fa F=>?_;refine F.vlW (Z95 rfl (F.at rfl) (F.at rfl)) fun fa F=>?_;refine wpListIn_nil ?_;refine hK3 _ _ ?_;refine ZfL F rfl (decide_eq_true (by omega)) ?_;refine wpIn_seq_k fun K4 hK4=>?_;refine wpIn_region_lit ?_;refine F.mvW fun fa F=>?_;refine F.vlW (Z94 (b:=false) rfl (F.at rfl) (ev_c fa _) (decide_eq_false ((by omega)))) fun fa F=>?_;refine F.mvW fun fa F=>?_;refine F.vlW (ZE rfl (F.at rfl) Qy.underlying160 rfl ((Z0 q3 0).trans (get0))) (fun fa F=>?_) (hw:=(Z46 F rfl rfl (by decide) rfl));refine F.vlW (Ze rfl (F.at rfl) Qy.underlying88 rfl (by kernel_rfl) q4) (fun fa F=>?_) (hw:=(Z46 F rfl rfl (by decide) rfl));obtain⟨fn,tmps,assign,body,hyy,hR0⟩:=HY.out pre p W hJ hx;refine ZeU F rfl (by decide) (Z46 F rfl rfl (by decide) rfl) (Zgr rfl (F.at rfl) (mpS (F.at rfl) mp0) hyy) (hR0) fun e w1 hR=>?_;obtain⟨rfl,hJ,hk⟩:=hR;refine⟨_,rfl,fun fa F=>?_⟩;refine F.vlW (Z67 rfl (F.at rfl) (F.at rfl)) fun fa F=>?_;refine F.asW fun fa F=>?_;refine wpListIn_nil ?_;refine hK4 _ _ ?_;refine wpIn_ret ?_
  (try simp only[Exit.inBlock,Exit.then,reduceIte])
  refine rt_v F (rs_1 F rfl rfl) ?_;have hb2:=ItB.keep ⟨q2,q3,q4,q5,sn,sy,st,sg⟩ hk;exact⟨rfl,hJ,_,⟨fun j hj=>rfl,fun j hj=>(by rw[val,Y7,List.getElem?_eq_none (by omega)];rfl)⟩,hb2⟩
theorem Zat(e:w2=w.setCell ⟨b,o,none⟩ v): w.grownBy w2 (some b):=by
 rw[e];exact⟨rfl,rfl,rfl,(KeepsWalks.setCell w _ v).size,fun k _ hk=>Below.heap_setCell _ _ _ k (fun e=>hk (by rw[e]))⟩
theorem Zau(e:w2=w.setCell ⟨b,o,none⟩ v)(h:k≠b): w2.heap[k]?=w.heap[k]?:=by
 rw[e];exact Below.heap_setCell _ _ _ k h
include hd4 in
theorem from_step(hB0:B0≤tb)(hnt:nb≠tb)(hyt:yb≠tb)(hgt:gb≠tb)
  (HJ:Hid (∀s U V r,J s U→Safe X ob r U→B0≤r→(∃o:Obj,U.heap[r]?=some o∧o.isCells=true)→U.grownBy V (some r)→J s V))
  (more:Nat) (IH:Hid (∀(left:Nat),left≤6→∀(p:List Int),p.length+more=x.D.length→∀(g:Nat→Int),Agr x.D.length g p→∀(pre:List (List Int)) (W:World),J pre W→pre++frL more left p <+: xs→ItB x X ob nb yb tb gb l g W →
   Calls (Qy.prog μ) 127 #[.int .i64 ((p.length:Nat):Int),.int .i64 ((left:Nat):Int),.pointer (some ⟨nb,0,none⟩),.pointer (some ⟨yb,0,none⟩),.pointer (some ⟨tb,0,none⟩),.pointer (some ⟨gb,0,none⟩)] W fun e W'=>e = .returned (.bool true)∧J (pre++frL more left p) W'∧∃g',Agr x.D.length g' p∧ItB x X ob nb yb tb gb l g' W'))
  (left:Nat) (hl:left≤6) (p:List Int) (hp:p.length+(more+1)=x.D.length) (g:Nat→Int) (hag:Agr x.D.length g p) (pre:List (List Int)) (W:World) (hJ:J pre W) (hx:pre++frL (more+1) left p <+: xs) (hb:ItB x X ob nb yb tb gb l g W) :
  Calls (Qy.prog μ) 127 #[.int .i64 ((p.length:Nat):Int),.int .i64 ((left:Nat):Int),.pointer (some ⟨nb,0,none⟩),.pointer (some ⟨yb,0,none⟩),.pointer (some ⟨tb,0,none⟩),.pointer (some ⟨gb,0,none⟩)] W fun e W'=>e = .returned (.bool true)∧J (pre++frL (more+1) left p) W'∧∃g',Agr x.D.length g' p∧ItB x X ob nb yb tb gb l g' W':=by
 obtain⟨q2,q3,q4,q5,sn,sy,st,sg⟩:=hb;have hsto:=st.2.1;obtain⟨fs,hfs⟩:∃fs:Nat→List (List Int),fs=fun n=>frL more (left-n) (p++[(n:Int)]):=⟨_,rfl⟩;have hfr:frL (more+1) left p=(List.range (left+1)).flatMap fs:=by rw[hfs];rfl
 rw[hfr]at hx⊢;have hJ:J (pre++(List.range 0).flatMap fs) W:=by simpa using hJ
 have HX:=Lib.hid hx;clear hfr hx;refine Z0m 40 Qy.func127 rfl Tryz.ntmps127 (Nat.le_of_ble_eq_true rfl) ?_;intro fa F;refine wS fun K1 hK1=>?_;refine Yg ?_;refine F.vl (ZH rfl (ev_c fa _)) fun fa F=>?_;refine wN<|hK1 _ _<|wS fun K2 hK2=>wS fun K3 hK3=>?_
 refine Yg ?_;refine F.mv fun fa F=>?_;refine F.vl (ZQ rfl (F.at rfl) Qy.underlying85 rfl (n:=0) (sz:=4) rfl (by kernel_rfl) (by decide)) fun fa F=>?_;refine F.vl (ZQ rfl (F.at rfl) Qy.underlying27 rfl (n:=1) (sz:=1) rfl (by kernel_rfl) (by decide)) fun fa F=>?_;refine F.vl (ZE rfl (F.at rfl) Qy.underlying25 rfl ((Z0 q2 1).trans (getS (get0)))) fun fa F=>?_;refine F.vl (Z66 rfl rfl (F.at rfl) Qy.underlying25) fun fa F=>?_;refine F.vl (Z95 rfl (F.at rfl) (F.at rfl)) fun fa F=>?_;refine wN<|hK3 _ _ ?_
 refine ZkA F rfl (decide_eq_false (by omega)) ?_;refine Yi ?_;refine hK2 _ _<|wS fun K4 hK4=>wS fun K5 hK5=>?_
 refine Yg ?_;refine F.mv fun fa F=>?_;refine F.vl (Z65 rfl (F.at rfl) (ev_c fa _) (by omega) (by omega)) fun fa F=>?_;refine F.vl (Z1q rfl (ev_c fa _)) fun fa F=>?_;refine wN<|hK5 _ _ ?_
 refine Yh ?_;have F0:=F.sub (.c 0 rfl (.c 1 rfl (.c 4 rfl (.c 5 rfl (.c 24 rfl .n)))));refine Z7J F0 (left+1) (fun i Lv W=>∃g:Nat→Int,Lv=[(25,.int .i64 ((i:Nat):Int))]∧W.heap[nb]?=some (.cells #[.int .i64 x.B,.slice x.da x.D.length x.dc,.slice x.la x.L.length x.lc,.int .i64 x.tol] 85 (0,0))∧W.heap[yb]?=some (.cells #[.func (.yield l) #[] #[]] 160 (0,0))∧W.heap[tb]?=some (.cells (tubC g) 88 (0,0))∧W.heap[gb]?=some (.cells #[.func (.func 127) #[] #[.pointer (some ⟨nb,0,none⟩),.pointer (some ⟨yb,0,none⟩),.pointer (some ⟨tb,0,none⟩),.pointer (some ⟨gb,0,none⟩)]] 161 (0,0))∧Agr x.D.length g p∧J (pre++(List.range i).flatMap fs) W∧Safe X ob nb W∧Safe X ob yb W∧Safe X ob tb W∧Safe X ob gb W) ⟨_,⟨g,rfl,q2,q3,q4,q5,hag,hJ,sn,sy,st,sg⟩,F.sub (.c 25 rfl (.c 0 rfl (.c 1 rfl (.c 4 rfl (.c 5 rfl (.c 24 rfl .n))))))⟩ ?_;clear F F0;clear q2 q3 q4 q5;rintro i _ fa w1 hi1 ⟨g,rfl,q2,q3,q4,q5,hag,hJ,sn,sy,st,sg⟩ F;refine wS fun K6 hK6=>?_;refine Yg ?_;refine F.vl (Z7o rfl (F.at rfl) (F.at rfl)) fun fa F=>?_;refine wN<|hK6 _ _<|wS fun K7 hK7=>?_
 refine ZbD F rfl (fun hc26=>?_) (fun hc26=>?_)
 ·skip
  refine Yi ?_;refine hK7 _ _<|wS fun K8 hK8=>?_
  refine Yh ?_;refine wS fun K9 hK9=>?_;refine Yg ?_;refine F.mv fun fa F=>?_;refine F.as fun fa F=>?_;refine wN<|hK9 _ _<|wS fun K10 hK10=>?_
  refine Yg ?_;refine F.mv fun fa F=>?_;refine F.mv fun fa F=>?_;refine F.vl (Z1K (n:=4) (sz:=1) rfl (F.at rfl) (F.at rfl) Qy.underlying88 (by kernel_rfl) (by omega) (by omega)) fun fa F=>?_;refine Z1n rfl rfl (ZU rfl (F.at rfl) (F.at rfl) rfl (by kernel_rfl) (Z2J q4 (k:=p.length) rfl (by omega)) (Za q4 _)) ?_;intro w2 hw;have hJ2:=HJ.out _ _ _ tb hJ st hB0 ⟨_,q4,rfl⟩ (Zat hw);have ho:=Zau (k:=ob) hw (Ne.symm hsto);replace sn:=sn.same ho;replace sy:=sy.same ho;replace st:=st.same ho;replace sg:=sg.same ho;replace q2:=kce hw q2;replace q3:=kce hw q3;replace q4:=Z8M hw q4 (k:=p.length) rfl (by omega);replace q5:=kce hw q5;clear hw;refine wpList_nil ?_;have hag2:=hag.step (by omega) ((i:Nat):Int);refine hK10 _ _<|wS fun K11 hK11=>?_
  refine Yg ?_;refine F.vl (ZE rfl (F.at rfl) Qy.underlying161 rfl ((Z0 q5 0).trans (get0))) fun fa F=>?_;refine F.mv fun fa F=>?_;refine F.vl (Z65 rfl (F.at rfl) (ev_c fa _) (by omega) (by omega)) fun fa F=>?_;refine F.mv fun fa F=>?_;refine F.mv fun fa F=>?_;refine F.vl (Zgq rfl (F.at rfl) (F.at rfl) (by omega) (by omega)) fun fa F=>?_;rw[show (((p.length:Nat):Int)+1)=(((p++[((i:Nat):Int)]).length:Nat):Int) by simp,show (((left:Nat):Int)-((i:Nat):Int))=((left-i:Nat):Int) by omega]at F;have hpx:(pre++(List.range i).flatMap fs)++frL more (left-i) (p++[((i:Nat):Int)]) <+: xs:=by refine List.IsPrefix.trans ?_ HX.out;rw[List.append_assoc,show frL more (left-i) (p++[((i:Nat):Int)])=fs i by rw[hfs],←Z4L];exact(List.prefix_append_right_inj _).2 (Z8q fs (by omega))
  refine sqC F (Z2K rfl (F.at rfl) Qy.call127 (mpS (F.at rfl) (mpS (F.at rfl) mp0)) (by simp)) (IH.out (left-i) (by omega) (p++[((i:Nat):Int)]) (by simp only[Ym,List.length_singleton];omega) _ hag2 _ _ hJ2 hpx ⟨q2,q3,q4,q5,sn,sy,st,sg⟩) fun e w3 hR=>?_;obtain⟨rfl,hJ3,g2,hag3,q2,q3,q4,q5,sn,sy,st,sg⟩:=hR;refine⟨_,rfl,fun fa F=>?_⟩;refine F.vl (Zah rfl (F.at rfl)) fun fa F=>?_;refine wpList_nil ?_;replace hag3:=hag3.back;have hJ4:J (pre++(List.range (i+1)).flatMap fs) w3:=by rw[Z4L,←List.append_assoc,show fs i=frL more (left-i) (p++[((i:Nat):Int)]) by rw[hfs]];exact hJ3
  refine hK11 _ _ ?_;refine cd_F F rfl ?_;refine Yi ?_;refine hK8 _ _ ?_;refine Yg ?_;refine F.vl (Z65 rfl (F.at rfl) (ev_c fa _) (by omega) (by omega)) fun fa F=>?_;refine F.mv fun fa F=>?_;refine wpList_nil ?_;show _∧_;exact⟨by omega,_,⟨g2,rfl,q2,q3,q4,q5,hag3,hJ4,sn,sy,st,sg⟩,F.sub (.c 25 rfl (.c 0 rfl (.c 1 rfl (.c 4 rfl (.c 5 rfl (.c 24 rfl .n))))))⟩
 ·skip
  refine wp_exit ?_;refine hK4 _ _<|wS fun K12 hK12=>?_
  refine Yg ?_;refine F.vl (ZH rfl (ev_c fa _)) fun fa F=>?_;refine wN<|hK12 _ _ ?_
  refine wp_ret ?_
  (try simp only[Exit.inBlock,Exit.then,reduceIte])
  refine rt_v F (rs_1 F rfl rfl) ?_;have hi:i=left+1:=(by omega);exact⟨rfl,(by rw[←hi];exact hJ),g,hag,q2,q3,q4,q5,sn,sy,st,sg⟩
end
variable{μ:Nat}
theorem Z3T(h:Ext [] W W'): W.grownBy W' none:=⟨h.os,h.tape,h.output,h.size,fun k hk _=>h.block k hk (by simp)⟩
theorem Z9x(x:Vm)(hd4:x.D.length≤4)(X:List Nat)(ob nb yb tb gb l B0:Nat)(J:List (List Int)→World→Prop)(xs:List (List Int))(hB0:B0≤tb)(hnt:nb≠tb)(hyt:yb≠tb)(hgt:gb≠tb)
  (HJ:Hid (∀s U V r,J s U→Safe X ob r U→B0≤r→(∃o:Obj,U.heap[r]?=some o∧o.isCells=true)→U.grownBy V (some r)→J s V))
  (hY:∀pre q V,J pre V→pre++[q] <+: xs→YieldAt Fence.wide 0 (Qy.prog μ) l #[.agg (tubC (val q))] V fun e V'=>e = .returned (.bool true)∧J (pre++[q]) V'∧KeepR X ob V V') :
  ∀(more left:Nat),left≤6→∀(p:List Int),p.length+more=x.D.length→∀(g:Nat→Int),Agr x.D.length g p→∀(pre:List (List Int)) (W:World),J pre W→pre++frL more left p <+: xs→ItB x X ob nb yb tb gb l g W →
   Calls (Qy.prog μ) 127 #[.int .i64 ((p.length:Nat):Int),.int .i64 ((left:Nat):Int),.pointer (some ⟨nb,0,none⟩),.pointer (some ⟨yb,0,none⟩),.pointer (some ⟨tb,0,none⟩),.pointer (some ⟨gb,0,none⟩)] W fun e W'=>e = .returned (.bool true)∧J (pre++frL more left p) W'∧∃g',Agr x.D.length g' p∧ItB x X ob nb yb tb gb l g' W'
 | 0,left,hl,p,hp,g,hag,pre,W,hJ,hx,hb=>Zek x X ob nb yb tb gb l J xs hY left hl p (by omega) g hag pre W hJ hx hb
 | more+1,left,hl,p,hp,g,hag,pre,W,hJ,hx,hb=>from_step x hd4 X ob nb yb tb gb l B0 J xs hB0 hnt hyt hgt HJ more (Lib.hid (Z9x x hd4 X ob nb yb tb gb l B0 J xs hB0 hnt hyt hgt HJ hY more)) left hl p hp g hag pre W hJ hx hb
theorem Z7T(e:W.heap[ob]?=w.heap[ob]?): Z11 ob W=Z11 ob w:=by rw[Z11,e];rfl
theorem Z3V(x:Vm)(hd4:x.D.length≤4)(X:List Nat)(ob nb:Nat)(w:World)(hob:ob<w.heap.size)(hX:∀b∈X,b<w.heap.size)(hrow:∀r,Z11 ob w=some r→r<w.heap.size)(hs:Safe X ob nb w)
  (hn:w.heap[nb]?=some (.cells #[.int .i64 x.B,.slice x.da x.D.length x.dc,.slice x.la x.L.length x.lc,.int .i64 x.tol] 85 (0,0))) :
  SeqR (Qy.prog μ) 126 #[.pointer (some ⟨nb,0,none⟩)] (fun q:List Int=>#[.agg (tubC (val q))]) X ob (recL x.D.length) w:=by
 intro l J W hWs hWw hJ1 hJ2 hY h0;have HJ:=Lib.hid hJ2;have HY:=Lib.hid hY;have HJ1:=Lib.hid hJ1;have q1:W.heap[nb]?=some (.cells #[.int .i64 x.B,.slice x.da x.D.length x.dc,.slice x.la x.L.length x.lc,.int .i64 x.tol] 85 (0,0)):=(hWw nb (Z3 hn)).trans hn;have hnbl:=Z3 hn;have hobW:=hWw ob hob;have HXX:=Lib.hid hX;have HRW:=Lib.hid hrow;show Calls _ _ #[.func (.yield l) #[] #[],.pointer (some ⟨nb,0,none⟩)] _ _;have E:Ext [] W W:=Ext.refl _ _;clear hJ1 hJ2 hY hn hX hrow;refine Z0m 8 Qy.func126 rfl Tryz.ntmps126 (Nat.le_of_ble_eq_true rfl) ?_;intro fa F;refine wS fun K1 hK1=>?_;refine Yg ?_;refine sqN F (Z30 rfl (F.at rfl)) fun fa w1 F hw=>?_;obtain⟨n2,hn⟩:=eQ W.heap.size;rw[←hn]at F;have s2:=sQ hn;have l2_E:=lQ hn E.size;have m2_1:nb<n2:=by rw[hn];exact Z3 q1
 replace q1:=Z1 hw q1;replace E:=Z6 E hw;have q2:=Z0Y hw rfl hn;clear hw hn;refine wN<|hK1 _ _<|wS fun K2 hK2=>?_
 refine Yg ?_;refine sqN F (ZT rfl Qy.zeroValue88) fun fa w2 F hw=>?_;obtain⟨n3,hn⟩:=eQ w1.heap.size;rw[←hn]at F;have s3:=sQ hn;have l3_E:=lQ hn E.size;have m3_1:nb<n3:=by rw[hn];exact Z3 q1
 have m3_2:=tQ hn (Z3 q2);replace q1:=Z1 hw q1;replace q2:=Z1 hw q2;replace E:=Z6 E hw;have q3:=Z02 hw hn;clear hw hn;refine wpList_nil ?_;replace q3:w2.heap[n3]?=some (.cells (tubC zf) 88 (0,0)):=q3;refine hK2 _ _<|wS fun K3 hK3=>?_
 refine Yg ?_;refine sqN F (ZT rfl Qy.zeroValue161) fun fa w3 F hw=>?_;obtain⟨n4,hn⟩:=eQ w2.heap.size;rw[←hn]at F;have s4:=sQ hn;have l4_E:=lQ hn E.size;have m4_1:nb<n4:=by rw[hn];exact Z3 q1
 have m4_2:=tQ hn (Z3 q2);have m4_3:=tQ hn (Z3 q3);replace q1:=Z1 hw q1;replace q2:=Z1 hw q2;replace q3:=Z1 hw q3;replace E:=Z6 E hw;have q4:=Z0Y hw rfl hn;clear hw hn;refine wN<|hK3 _ _<|wS fun K4 hK4=>?_
 refine Yg ?_;refine F.vl (Z2l rfl (Z4P mp0) (Z4P (mpS (F.at rfl) (mpS (F.at rfl) (mpS (F.at rfl) (mpS (F.at rfl) mp0)))))) fun fa F=>?_;refine Z1n rfl rfl (ZU rfl (F.at rfl) (F.at rfl) rfl (by kernel_rfl) ((Z0 q4 0).trans (get0)) (Za q4 0)) ?_;intro w4 hw;replace q1:=kce hw q1;replace q2:=kce hw q2;replace q3:=kce hw q3;replace q4:=ZF hw q4 (by simp only[List.setIfInBounds_toArray,lsQ,lzQ];exact rfl);replace E:=ece E hw;clear hw;refine wN<|hK4 _ _ ?_
 refine Yg ?_;refine F.vl (ZE rfl (F.at rfl) Qy.underlying161 rfl ((Z0 q4 0).trans (get0))) fun fa F=>?_;have hrW:Z11 ob w4=Z11 ob w:=Z7T ((E.block ob (by omega) (by simp)).trans hobW);have hsf:∀k,w.heap.size≤k→Safe X ob k w4:=fun k hk=>⟨fun h=>(by have:=HXX.out k h;omega),(by omega),fun e=>(by have:=HRW.out k (hrW.symm.trans e);omega)⟩;have hsn:Safe X ob nb w4:=hs.same ((E.block ob (by omega) (by simp)).trans hobW);have hJn:=HJ1.out [] W w4 h0 (Z3T E);have hall:=Z9x x hd4 X ob nb n2 n3 n4 l W.heap.size J (recL x.D.length) (by omega) (by omega) (by omega) (by omega) HJ HY.out x.D.length 6 (by omega) [] (by simp) zf ⟨fun j hj=>absurd hj (by simp),fun j _=>rfl⟩ [] w4 hJn (by exact List.prefix_refl _) ⟨q1,q2,q3,q4,hsn,hsf _ (by omega),hsf _ (by omega),hsf _ (by omega)⟩;refine sqC F (Z2K rfl (F.at rfl) Qy.call127 (mpS (ev_c fa _) (mpS (ev_c fa _) mp0)) (by simp)) (hall) fun e w5 hR=>?_;obtain⟨rfl,hJ3,g2,hag3,q1,q2,q3,q4,sn,sy,st,sg⟩:=hR;refine⟨_,rfl,fun fa F=>?_⟩;refine wpList_nil ?_
 (try simp only[Exit.inBlock,Exit.then,reduceIte])
 refine ZhN F (rs_0 rfl) ?_;exact⟨⟨_,rfl⟩,hJ3⟩
theorem Z4W(x:Vm)(w:World):Calls (Qy.prog μ) 110 #[.agg #[.int .i64 x.B,.slice x.da x.D.length x.dc,.slice x.la x.L.length x.lc,.int .i64 x.tol]] w fun e w'=>∃nb,e = .returned (.func (.func 126) #[] #[.pointer (some ⟨nb,0,none⟩)])∧w.heap.size≤nb∧w'.heap[nb]?=some (.cells #[.int .i64 x.B,.slice x.da x.D.length x.dc,.slice x.la x.L.length x.lc,.int .i64 x.tol] 85 (0,0))∧Ext [] w w':=by
 have E:Ext [] w w:=Ext.refl _ _;have G:=(Bk.nil w).ce E;refine(ent 4 Tryz.f110 rfl) fun F=>wR fun k1=>(F.bx G) @fun n1 w1 _ yy F G=>(F.m) fun F=>k1<|wR fun k2=>(F.y F.mf) fun F=>(F.m) fun F=>k2<|(F.r1) ?_
 exact⟨n1,rfl,by omega,(G.q 0),(G.e 1)⟩
end
section
open Go.RowKit Go.Maps Go.WideMaps Go.ChangeShapes
variable{μ:Nat}
theorem arrT:ArrKey (Qy.prog μ) 88 3 4:=⟨Qy.underlying88,by kernel_rfl,by kernel_rfl,by kernel_rfl⟩
theorem ZkO:laidOutB (Qy.prog μ)=true:=Qy.laid
theorem rowT:(88:TypeId)<(Qy.prog μ).types.size:=of_decide_eq_true (by kernel_rfl)
theorem Zjg:(Qy.prog μ).keyTypeAt 2 88=true:=arrT.at 0
theorem lawT:KeyLaw (Qy.prog μ) 88:=deep_law_laid (P:=(Qy.prog μ)) (m:=2) (k:=88) ZkO (by omega) rowT Zjg (by rw[Qy.underlying88])
theorem Zcr:Keyed (Qy.prog μ) 88:=Keyed.of_law lawT
def klT(f:Nat→Int):Lit:=.string (keyBytes [.int .i64 (f 0),.int .i64 (f 1),.int .i64 (f 2),.int .i64 (f 3)])
theorem Z3d(hf:TubS f): keyOf (Qy.prog μ) 88 (.agg (tubC f))=some (klT f):=by
 have hsz:∃m,(Qy.prog μ).types.size=m+1:=by
  have h0:0<(Qy.prog μ).types.size:=Nat.lt_of_le_of_lt (Nat.zero_le _) rowT;revert h0;generalize (Qy.prog μ).types.size=n;intro h0;exact⟨n-1,by omega⟩
 have hkt:=arrT.keyType hsz;obtain⟨m,hm⟩:=hsz;have hw:∀k,k<4→(Lit.int .i64 (f k)).wf=true:=fun k hk=>by have:=hf k hk;exact WalkArith.wf_i64 (by omega)
 have h0:=hw 0 (by omega);have h1:=hw 1 (by omega);have h2:=hw 2 (by omega);have h3:=hw 3 (by omega);unfold keyOf;simp only[arrT.hu];rw[if_pos (by simp[hkt,Value.formed,arrT.hu,arrT.size,tubC]),hm];unfold Program.keyLits;simp only[arrT.hu,Value.cells];rw[if_pos (by rw[arrT.size];rfl),show List.range 4=[0,1,2,3] from rfl,List.mapM_cons,List.mapM_cons,List.mapM_cons,List.mapM_cons,List.mapM_nil];simp[arrT.one,Program.keyLits,Qy.underlying3,h0,h1,h2,h3,tubC,klT]
theorem Zjh{g: Nat→Int}(hf:TubS f)(hg:TubS g)(hk:k<4)(h:f k≠g k): klT f≠klT g:=by
 intro e;have h1:=(Zcr (μ:=0)).inj (Z3d (μ:=0) hf) (by rw[e];exact Z3d hg);have h2:tubC f=tubC g:=by simpa using h1
 have:=congrArg (fun a:Array Value=>a[k]?) h2;have t1:=Z62 (f:=f) (i:=(k:Int)) (k:=k) rfl hk;have t2:=Z62 (f:=g) (i:=(k:Int)) (k:=k) rfl hk;rw[Int.toNat_natCast]at t1 t2;simp only[t1,t2]at this;exact h (by simpa using this)
theorem Z3n{H:Type}{e:TypeId}(he:P.underlying e=some .bool){z:DataW H×List MemPlace}(h:plainElem P e v=some z): ∃b,v = .bool b∧z=(.lit (.bool b),[]):=by
 unfold plainElem at h
 cases v<;>simp[he]at h
 rename_i b;exact⟨b,rfl,by first | exact h.symm | (rw[←h])⟩
def MapT(w:World)(b:Nat)(out:List (List Int)):Prop:=∃D:DataW Unit,w.ownsMap (Qy.prog μ) 88 (plainElem (Qy.prog μ) 4) b out.length D∧∀f,TubS f→(∀t∈out,∃k,k<4∧f k≠val t k)→D.atKey (klT f) (.lit (.bool false)) = .lit (.bool false)
theorem MapT.kept{w w':World}{b:Nat}{out:List (List Int)}{row:Option Nat}(h:MapT (μ:=μ) w b out)(hg:w.grownBy w' row)(hr:some b≠row):MapT (μ:=μ) w' b out:=by
 obtain⟨D,h1,h2⟩:=h;exact⟨D,h1.kept hg hr,h2⟩
theorem MapT.obj{w:World}(h:MapT (μ:=μ) w b out): ∃es clock,w.heap[b]?=some (.map es clock):=by
 obtain⟨D,⟨es,clock,hb,-⟩,-⟩:=h;exact⟨es,clock,hb⟩
theorem MapT.ne{w:World}{c: Nat}(h:MapT (μ:=μ) w b out){o:Obj}(H:w.heap[c]?=some o)(ho:∀es k,o ≠ .map es k): b≠c:=by
 intro e;obtain⟨es,k,hb⟩:=h.obj;subst e;rw[H]at hb;exact ho es k (by simpa using hb)
theorem Z3j{w: World}{o:Obj}(e:w2=w.alloc o)(h:MapT (μ:=μ) w b out): MapT (μ:=μ) w2 b out:=by rw[e];exact h.kept (World.grownBy_alloc w o none) (by simp)
theorem Z7L{w: World}{c off: Nat}{l:List Value}{cs:Array Value}{T:TypeId}{fz:Nat×Nat}(e:w2=w.setCells c off l)(h:MapT (μ:=μ) w b out)(H:w.heap[c]?=some (.cells cs T fz)): MapT (μ:=μ) w2 b out:=by
 have hbc:=h.ne H (fun _ _ h=>by cases h);obtain⟨D,⟨es,clock,hb,h3,h4,h5⟩,h2⟩:=h;exact⟨D,⟨es,clock,Z0Q e hb hbc,h3,h4,h5⟩,h2⟩
theorem Z9G{w: World}{c off: Nat}{cs:Array Value}{T:TypeId}{fz:Nat×Nat}(e:w2=w.setCell ⟨c,off,none⟩ v)(h:MapT (μ:=μ) w b out)(H:w.heap[c]?=some (.cells cs T fz)): MapT (μ:=μ) w2 b out:=by
 have hbc:=h.ne H (fun _ _ h=>by cases h);obtain⟨D,⟨es,clock,hb,h3,h4,h5⟩,h2⟩:=h;exact⟨D,⟨es,clock,Z1y e hb hbc,h3,h4,h5⟩,h2⟩
theorem Z8D{w: World}(h:MapT (μ:=μ) w b out)(e:Ext [] w w2): MapT (μ:=μ) w2 b out:=h.kept (Z3T e) (by simp)
theorem Zhr{w: World}{base size: Nat}{e:TypeId}{xs:List Value}(h:MapT (μ:=μ) w b out)(ho:w.ownsRow base e size v n xs)(hg:w.grownBy w2 v.ownBlock): MapT (μ:=μ) w2 b out:=by
 refine h.kept hg ?_
 rcases ho.2 with⟨rfl,_⟩ | ⟨g,cap,cur,rfl,_,hgb,_⟩
 ·simp[Value.ownBlock]
 ·intro e
  exact h.ne hgb (fun _ _ h=>by cases h) (by simpa[Value.ownBlock] using e)
theorem Zhs{w: World}{D: Nat}{d:Option (List Deferred)}{o':Obj}(e:w2=w.putObj D o')(hD:w.heap[D]?=some (.deferred d))(h:MapT (μ:=μ) w b out): MapT (μ:=μ) w2 b out:=by
 rw[e];exact h.kept (grownBy_putObj' w D o') (fun e=>h.ne hD (fun _ _ h=>by cases h) (by simpa using e))
theorem ZeA(w:World):MapT (μ:=μ) (w.alloc (.map #[] 0)) w.heap.size []:=⟨.map [],World.ownsMap_made w _ _ _,fun f _ _=>rfl⟩
section
variable{ρ:Operand→Value}{o:Oper}{w:World}
theorem Zbi(ho:o.op = .makeMap t none): (execOp ρ o).run P w = .ok (.value (.map (some w.heap.size))) (w.alloc (.map #[] 0)):=by
 unfold execOp;simp[ho,run_makeMap,Result.andThen,go_sem]
theorem Zbg(ho:o.op = .lookup 157 x y false)(hx:ρ x = .map (some b))(hy:ρ y = .agg (tubC f))(hf:TubS f)(h:MapT (μ:=μ) w b out):
  ∃c,(execOp ρ o).run (Qy.prog μ) w = .ok (.value (.bool c)) w∧((∀t∈out,∃k,k<4∧f k≠val t k)→c=false):=by
 obtain⟨D,h1,h2⟩:=h;obtain⟨v,ps,hr,hv⟩:=h1.lookup Zcr Qy.underlying157 (z:=.bool false) (zd:=.lit (.bool false)) (zp:=[]) (by kernel_rfl) (plainElem_bool Qy.underlying4 false) (Z3d hf);obtain⟨c,rfl,hc⟩:=Z3n Qy.underlying4 hv;refine⟨c,?_,fun hn=>?_⟩
 ·unfold execOp
  simp[ho,hx,hy,hr,Result.andThen,go_sem]
 ·have h3:=h2 f hf hn
  simp only[Y9]at hc;rw[h3]at hc;simpa using hc.1.symm
theorem Zbj{t:List Int}(ho:o.op = .mapUpdate 157 x y z)(hx:ρ x = .map (some b))(hy:ρ y = .agg (tubC (val t)))(hz:ρ z = .bool true)(hf:TubS (val t))(hl:out.length<1000)(h:MapT (μ:=μ) w b out):
  ∃w',(execOp ρ o).run (Qy.prog μ) w = .ok .skip w'∧MapT (μ:=μ) w' b (out++[t])∧w.grownBy w' (some b):=by
 obtain⟨D,h1,h2⟩:=h;obtain⟨w',hr,h3,h4⟩:=h1.update Zcr Qy.underlying157 (by simp only[maxLen];omega) (Z3d hf) (plainElem_bool Qy.underlying4 true);refine⟨w',?_,⟨_,by rw[Ym];exact h3,fun f hff hn=>?_⟩,h4⟩
 ·unfold execOp
  simp[ho,hx,hy,hz,hr,Result.andThen,go_sem]
 ·obtain⟨k,hk,hne⟩:=hn t (by simp)
  rw[atKey_put_other (Zjh hff hf hk hne)];exact h2 f hff fun u hu=>hn u (by simp[hu])
end
end
section
open Go.RowKit Go.Maps
variable{μ:Nat}
section
variable{P:Program}{ops:Array Oper}{Q:Exit→Act→World→Prop}{o:Oper}{rest:List Oper}{N:Nat}{D:List Deferred}{a:Act}{L:List (Nat×Value)}{w w':World}{v:Value}
theorem ZjU{C:Value→Prop}(F:Has N D a L)(hd:o.dst=some d)(hN:d<N)(hw:Region.wanted o (yielded ops a.tmps)=true)(hr:∃v,(execOp a.eval o).run P w = .ok (.value v) w∧C v)(h:∀a2 v,Has N D a2 ((d,v)::L)→C v→wpList P ops Q rest a2 w): wpList P ops Q (o::rest) a w:=by
 obtain⟨v,h1,h2⟩:=hr;exact Z5R F hd hN hw h1 fun a2 F2=>h a2 v F2 h2
theorem ZjV{C:World→Prop}(hd:o.dst=none)(hw:Region.wanted o (yielded ops a.tmps)=true)(hr:∃w',(execOp a.eval o).run P w = .ok .skip w'∧C w')(h:∀w2,C w2→wpList P ops Q rest a w2): wpList P ops Q (o::rest) a w:=by
 obtain⟨w',h1,h2⟩:=hr;exact Z1n hd hw h1 fun w2 e=>h w2 (by rw[e];exact h2)
theorem Zab{G:Fence}(F:Has N D a L)(h:∀fb,Has N D fb L→c.wpIn G n P Q fb w): c.wpIn G n P Q a w:=h a F
theorem Has.param(F:Has N D a L){p:Nat}(hp:p<N)(v:Value): Has N [] {tmps:=(#[p].zip #[v]).foldl (fun t (p,v)=>t.setIfInBounds p v) a.tmps,defers:=[]} ((p,v)::L):=by
 have h:=F.put hp v;have e:({tmps:=(#[p].zip #[v]).foldl (fun t (p,v)=>t.setIfInBounds p v) a.tmps,defers:=[]}:Act)={a.put (some p) v with defers:=[]}:=by simp[Act.put]
 rw[e];exact⟨rfl,h.sz,h.get⟩
end
theorem Z1Q{w: World}{c: Nat}{cs:Array Value}{T:TypeId}{fz:Nat×Nat}(h:MapT (μ:=μ) w b out)(hg:w.grownBy w2 (some b))(q:w.heap[c]?=some (.cells cs T fz)): w2.heap[c]?=some (.cells cs T fz):=
 (hg.block c (Z3 q) (fun e=>h.ne q (fun _ _ h=>by cases h) (by simpa using e.symm))).trans q
theorem ZeM{w: World}{base size: Nat}{e:TypeId}{v:Value}{xs:List Value}(h:MapT (μ:=μ) w b out)(hg:w.grownBy w2 (some b))(ho:w.ownsRow base e size v n xs): w2.ownsRow base e size v n xs:=by
 refine ho.kept hg ?_
 rcases ho.2 with⟨rfl,_⟩ | ⟨g,cap,cur,rfl,_,hgb,_⟩
 ·exact .inl rfl
 ·exact .inr fun e=>h.ne hgb (fun _ _ h=>by cases h) (by simpa[Value.ownBlock] using e.symm)
theorem Z9q{a w: World}(h:Ext X a w)(hg:w.grownBy w2 (some b))(hb:b<a.heap.size→b∈X): Ext X a w2:=
 ⟨hg.os.trans h.os,hg.tape.trans h.tape,hg.output.trans h.output,Yd h.size hg.size,fun k hk hx=>(hg.block k (Y8 hk h.size) (fun e=>by cases e;exact hx (hb hk))).trans (h.block k hk hx)⟩
theorem Z1w{a w: World}{row:Option Nat}(h:Ext X a w)(hg:w.grownBy w2 row)(hb:∀b,row=some b→b<a.heap.size→b∈X): Ext X a w2:=
 ⟨hg.os.trans h.os,hg.tape.trans h.tape,hg.output.trans h.output,Yd h.size hg.size,fun k hk hx=>(hg.block k (Y8 hk h.size) (fun e=>by cases e;exact hx (hb _ rfl hk))).trans (h.block k hk hx)⟩
theorem Z0o{B:Nat}(h:Ext X W W')(hX:∀b∈X,b<B∨∃cs T fz,W.heap[b]?=some (.cells cs T fz)): KeepsFrom B W W':=
 ⟨h.size,fun k o hk ho hc=>h.keep ho fun hm=>by
  rcases hX k hm with h1 | ⟨cs,T,fz,h1⟩
  ·omega
  ·rw[h1]at ho;cases ho;cases hc⟩
theorem Z0A(h:Ext X W W')(hX:∀k cs T fz,W.heap[k]?=some (.cells cs T fz)→Safe Y ob k W→k ∉ X)(hr:Z11 ob W'=Z11 ob W∨∀r,Z11 ob W'=some r→W.heap.size≤r): KeepR Y ob W W':=
 ⟨h.size,fun k cs T fz hk hs=>h.keep hk (hX k cs T fz hk hs),hr⟩
theorem Z5E(h:Ext [] W W')(hob:ob<W.heap.size): KeepR Y ob W W':=
 Z0A h (fun _ _ _ _ _ _=>by simp) (.inl (Z7T (h.block ob hob (by simp))))
def tubE(f g:Nat→Int):Bool:=(List.range 4).all fun i=>decide (f i=g i)
theorem Za9{g: Nat→Int}: tubE f g=true↔∀k,k<4→f k=g k:=by
 simp[tubE,Yl]
theorem ZgU(f g:Nat→Int)(w:World):(Op.equalIn 10000 88 (.agg (tubC f)) (.agg (tubC g))).run (Qy.prog μ) w = .ok (tubE f g) w:=by
 refine Z1E (n:=1) Qy.underlying88 (by kernel_rfl) _ fun i hi=>?_;refine⟨.int .i64 (f i),.int .i64 (g i),?_,?_,run_equalIn_int w _ _ .i64 .i64 _ _ Qy.underlying3⟩
 ·rcases i with _ | _ | _ | _ | i
  ·exact ZS rfl
  ·exact ZS rfl
  ·exact ZS rfl
  ·exact ZS rfl
  ·omega
 ·rcases i with _ | _ | _ | _ | i
  ·exact ZS rfl
  ·exact ZS rfl
  ·exact ZS rfl
  ·exact ZS rfl
  ·omega
section
variable{ρ:Operand→Value}{o:Oper}{w:World}
theorem ZdJ{t':TypeId}{g: Nat→Int}(ho:o.op = .binOp .neq 88 x y t')(hx:ρ x = .agg (tubC f))(hy:ρ y = .agg (tubC g)):
  (execOp ρ o).run (Qy.prog μ) w = .ok (.value (.bool (!tubE f g))) w:=by
 have hg:(Qy.prog μ).eqGuardType (Qy.prog μ).depth 88=false:=by kernel_rfl
 unfold execOp;simp only[ho,hx,hy,Sem.run_bind,run_eqGuard_agg w .neq 88 x y (tubC f) (tubC g) hg,Result.andThen_ok,run_neq_struct,ZgU,Sem.run_pure]
theorem Zbf(ho:o.op = .lookup 157 x y false)(hx:ρ x = .map (some b))(hy:ρ y = .agg (tubC f))(hf:TubS f)(h:MapT (μ:=μ) w b out):
  ∃v,(execOp ρ o).run (Qy.prog μ) w = .ok (.value v) w∧∃c,v = .bool c∧((∀t∈out,∃k,k<4∧f k≠val t k)→c=false):=by
 obtain⟨c,h1,h2⟩:=Zbg ho hx hy hf h;exact⟨_,h1,c,rfl,h2⟩
end
instance (f:Nat→Int):Decidable (TubS f):=inferInstanceAs (Decidable (∀k,k<4→0≤f k∧f k≤6))
theorem Z6W:∀nd,nd<5→(recL nd).Nodup∧∀q∈recL nd,q.length=nd∧TubS (val q)∧0<gcE (val q)∧1≤q.sum∧q.sum≤6∧∀n∈q,0≤n∧n≤6:=by decide +kernel
theorem Z9S:∀nd,nd<5→(recL nd).length≤500:=by decide +kernel
end
end Go.Proofs.YtfelljbfeoplhaaGreat
