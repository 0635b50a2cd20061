/- Parts of a proof: Bp, Bq, Br, Dlt, Dki, Dch, Dcp, Dck, Dck2, Dvt, Dra, Dtb, Dvb, Uy, Zg, Jd, Ev. No conditions. -/
import Derived.Conc.SmallLaws
import Derived.Laws.IdiomCopy
import Derived.Laws.LoneSync
import Derived.Laws.Slices
import Derived.WideShapes
import Derived.Test.YtfelljbfeoplhaaGreatPpt1
import Derived.Test.YtfelljbfeoplhaaGreatPpt2
import Derived.Test.YtfelljbfeoplhaaGreatPpt3
import Derived.Test.YtfelljbfeoplhaaGreatPpt4
set_option linter.unusedVariables false
set_option linter.unusedSimpArgs false
set_option linter.unusedSectionVars false
set_option maxRecDepth 100000
set_option maxHeartbeats 4000000
namespace Go.Proofs.YtfelljbfeoplhaaGreat
variable{c d:Go.Code}{T t t':Go.TypeId}{cs cs':Array Go.Value}{p:Prop}{fz:Nat×Nat}{off:Nat}{l xs:List Int}{M:List (Go.Value×List Int)}{w:Go.World}{a:Option Go.Addr}{ρ ρ':Go.Operand->Go.Value}
section
open Go Go.RowKit
variable{μ:Nat}
def ZbP(P:Program)(t:TypeId):Bool:=match P.underlying t with
 | some d=>!d.isRow
 | none=>false
def rowB(P:Program)(t:TypeId)(k:Nat):Bool:=match P.underlying t,P.info? t with
 | some d,some i=>d.isRow&&Nat.beq i.size k
 | _,_=>false
def Z4x(P:Program)(t:TypeId)(k:Nat):Bool:=match P.info? t with
 | some i=>Nat.beq i.size k
 | _=>false
def slcB(P:Program)(t:TypeId):Bool:=match P.underlying t with
 | some (.slice _)=>true
 | _=>false
def eltB(P:Program)(t:TypeId)(k:Nat):Bool:=match P.underlying t with
 | some (.slice e)=>Z4x P e k
 | _=>false
def arrB(P:Program)(t:TypeId)(n k:Nat):Bool:=match P.underlying t with
 | some (.array m e)=>Nat.beq m n&&Z4x P e k
 | _=>false
def Zhj(P:Program)(t:TypeId)(n:Nat):Bool:=match P.underlying t with
 | some (.array m e)=>Nat.beq m n&&Z4x P e 1&&ZbP P e
 | _=>false
def fldO(P:Program)(t:TypeId)(f:Nat):Option Nat:=match P.underlying t with
 | some (.struct fs)=>match fs[f]? with
  | some fd=>match P.info? fd.type with
   | some i=>match i.size with
    | 0=>none
    | _+1=>some fd.offset
   | none=>none
  | none=>none
 | _=>none
theorem nea{c:Nat}{L:List Fc}(h:NeA c T L:=by repeat (first | exact .n | (refine .q (by omega) ?_) | (refine .e (λh=>by first | omega | (simp;done)) ?_) | (refine .o (by first | exact .inl (by decide) | exact .inr (.inl (by omega)) | exact .inr (.inr (by first | assumption | exact LtA.own 0 (by assumption) (by rfl) | exact LtA.own 1 (by assumption) (by rfl) | exact LtA.own 2 (by assumption) (by rfl) | exact LtA.own 3 (by assumption) (by rfl) | exact LtA.own 4 (by assumption) (by rfl) | exact LtA.own 5 (by assumption) (by rfl) | exact LtA.own 6 (by assumption) (by rfl) | exact LtA.own 7 (by assumption) (by rfl) | exact LtA.own 8 (by assumption) (by rfl) | exact LtA.own 9 (by assumption) (by rfl)))) ?_) | (refine .l (by omega) ?_) | (refine .f (by first | exact .inl (by omega) | exact .inr (by decide)) ?_))): NeA c T L:=h
theorem one1(h:cs.all (·.oneCell')=true:=by first | rfl | (simp[Value.oneCell'];done) | (simp[tubC,Value.oneCell'];done) | (simp[tubR,Value.oneCell'];done) | (simp[ZbM,Value.oneCell'];done)): cs.all (·.oneCell')=true:=h
section
variable{P:Program}{ops:Array Oper}{Q:Exit->Act->World->Prop}{o:Oper}{rest:List Oper}{N:Nat}{D:List Deferred}{a:Act}{L:List (Nat×Value)}{w w':World}{v:Value}{d:Nat}
theorem Z1H{t k:Nat}(h:Z4x P t k=true): (P.info? t).map (·.size)=some k:=by
 unfold Z4x at h
 split at h
 ·rename_i i hi
  rw[hi,Option.map_some,Nat.eq_of_beq_eq_true h]
 ·cases h
theorem Z9G{t:Nat}(h:ZbP P t=true): ∃d,P.underlying t=some d/\d.isRow=false:=by
 unfold ZbP at h
 split at h
 ·rename_i d hd
  exact⟨d,hd,by simpa using h⟩
 ·cases h
theorem ZgQ{t k:Nat}(h:rowB P t k=true): ∃d,P.underlying t=some d/\d.isRow=true/\(P.info? t).map (·.size)=some k:=by
 unfold rowB at h
 split at h
 ·rename_i d i hd hi
  simp only[Y5]at h;exact⟨d,hd,h.1,by rw[hi,Option.map_some,Nat.eq_of_beq_eq_true h.2]⟩
 ·cases h
theorem ZjK{t k:Nat}(h:eltB P t k=true): ∃e,P.underlying t=some (.slice e)/\(P.info? e).map (·.size)=some k:=by
 unfold eltB at h
 split at h
 ·rename_i e he
  exact⟨e,he,Z1H h⟩
 ·cases h
theorem Zjp{t n k:Nat}(h:arrB P t n k=true): ∃e,P.underlying t=some (.array n e)/\(P.info? e).map (·.size)=some k:=by
 unfold arrB at h
 split at h
 ·rename_i m e he
  simp only[Y5]at h;rw[<-Nat.eq_of_beq_eq_true h.1];exact⟨e,he,Z1H h.2⟩
 ·cases h
theorem ZkA{t:Nat}(h:slcB P t=true): P.underlying t=some (.slice (P.elem t)):=by
 unfold slcB at h
 split at h
 ·rename_i e he
  rw[he,Program.elem,he]
 ·cases h
theorem Zhk{t n:Nat}(h:Zhj P t n=true): ∃e,P.underlying t=some (.array n e)/\(P.info? e).map (·.size)=some 1/\∃d,P.underlying e=some d/\d.isRow=false:=by
 unfold Zhj at h
 split at h
 ·rename_i m e he
  simp only[Y5]at h;rw[<-Nat.eq_of_beq_eq_true h.1.1];exact⟨e,he,Z1H h.1.2,Z9G h.2⟩
 ·cases h
theorem Has.y(F:Has N D a L)(hr:(execOp a.eval o).run P w = .ok (.value v) w)(hd:o.dst=some d:=by rfl)(hN:d<N:=by decide)(hw:Z0j L ops o=some true:=by rfl)(h:∀{a2},Has N D a2 ((d,v)::L)->wpList P ops Q rest a2 w):wpList P ops Q (o::rest) a w:=Z6k F hd hN (F.want hw) hr λ_ F=>h F
theorem Has.m{x:Operand}(F:Has N D a L)(ho:mvO o.op=some x:=by rfl)(hx:opv L x=some v:=by rfl)(hd:o.dst=some d:=by rfl)(hN:d<N:=by decide)(hw:Z0j L ops o=some true:=by rfl)(h:∀{a2},Has N D a2 ((d,v)::L)->wpList P ops Q rest a2 w): wpList P ops Q (o::rest) a w:=by
 refine Z6k F hd hN (F.want hw) ?_ λ_ F=>h F;unfold mvO at ho
 split at ho
 ·cases ho
  exact Z0E (by assumption) (F.op hx)
 ·cases ho
  exact ZC (by assumption) (F.op hx)
 ·cases ho
theorem Has.n(F:Has N D a L)(hd:o.dst=some d:=by rfl)(hN:d<N:=by decide)(hw:Z0j L ops o=some false:=by rfl)(h:∀{a2},Has N D a2 ((d,undef)::L)->wpList P ops Q rest a2 w):wpList P ops Q (o::rest) a w:=Z31 F hd hN (F.want hw) λ_ F=>h F
theorem Has.s{K:Act->Prop}(F:Has N D a L)(hr:(execOp a.eval o).run P w = .ok (.value v) w)(hd:o.dst=some d:=by rfl)(hN:d<N:=by decide)(hw:Z0j L ops o=some true:=by rfl)(h:∀{a2},Has N D a2 ((d,v)::L)->wpStill P ops w K rest a2): wpStill P ops w K (o::rest) a:=ZgT F hd hN (F.want hw) hr λ_ F=>h F
theorem Has.sm{K:Act->Prop}{x:Operand}(F:Has N D a L)(ho:mvO o.op=some x:=by rfl)(hx:opv L x=some v:=by rfl)(hd:o.dst=some d:=by rfl)(hN:d<N:=by decide)(hw:Z0j L ops o=some true:=by rfl)(h:∀{a2},Has N D a2 ((d,v)::L)->wpStill P ops w K rest a2): wpStill P ops w K (o::rest) a:=by
 refine ZgT F hd hN (F.want hw) ?_ λ_ F=>h F;unfold mvO at ho
 split at ho
 ·cases ho
  exact Z0E (by assumption) (F.op hx)
 ·cases ho
  exact ZC (by assumption) (F.op hx)
 ·cases ho
theorem Has.sn{K:Act->Prop}(F:Has N D a L)(hd:o.dst=some d:=by rfl)(hN:d<N:=by decide)(hw:Z0j L ops o=some false:=by rfl)(h:∀{a2},Has N D a2 ((d,undef)::L)->wpStill P ops w K rest a2): wpStill P ops w K (o::rest) a:=Zm1 F hd hN (F.want hw) λ_ F=>h F
theorem Has.ls{x y:Operand}{k:IntKind}{n m:Int}(F:Has N D a L)(ho:o.op = .binOp .lss t x y t':=by rfl)(hx:opv L x=some (.int k n):=by rfl)(hy:opv L y=some (.int k m):=by rfl): (execOp a.eval o).run P w = .ok (.value (.bool (decide (n<m)))) w:=Z52 ho (F.op hx) (F.op hy)
theorem Has.lsT{x y:Operand}{k:IntKind}{n m:Int}(F:Has N D a L)(ho:o.op = .binOp .lss t x y t':=by rfl)(hx:opv L x=some (.int k n):=by rfl)(hy:opv L y=some (.int k m):=by rfl)(h:n<m:=by omega): (execOp a.eval o).run P w = .ok (.value (.bool true)) w:=Z9Q ho (F.op hx) (F.op hy) (decide_eq_true h)
theorem Has.lsF{x y:Operand}{k:IntKind}{n m:Int}(F:Has N D a L)(ho:o.op = .binOp .lss t x y t':=by rfl)(hx:opv L x=some (.int k n):=by rfl)(hy:opv L y=some (.int k m):=by rfl)(h:¬(n<m):=by omega): (execOp a.eval o).run P w = .ok (.value (.bool false)) w:=Z9Q ho (F.op hx) (F.op hy) (decide_eq_false h)
theorem Has.le{x y:Operand}{k:IntKind}{n m:Int}(F:Has N D a L)(ho:o.op = .binOp .leq t x y t':=by rfl)(hx:opv L x=some (.int k n):=by rfl)(hy:opv L y=some (.int k m):=by rfl): (execOp a.eval o).run P w = .ok (.value (.bool (decide (n<=m)))) w:=Zjd ho (F.op hx) (F.op hy)
theorem Has.leF{x y:Operand}{k:IntKind}{n m:Int}(F:Has N D a L)(ho:o.op = .binOp .leq t x y t':=by rfl)(hx:opv L x=some (.int k n):=by rfl)(hy:opv L y=some (.int k m):=by rfl)(h:¬(n<=m):=by omega): (execOp a.eval o).run P w = .ok (.value (.bool false)) w:=Zje ho (F.op hx) (F.op hy) (decide_eq_false h)
theorem Has.gt{x y:Operand}{k:IntKind}{n m:Int}(F:Has N D a L)(ho:o.op = .binOp .gtr t x y t':=by rfl)(hx:opv L x=some (.int k n):=by rfl)(hy:opv L y=some (.int k m):=by rfl): (execOp a.eval o).run P w = .ok (.value (.bool (decide (m<n)))) w:=Zh3 ho (F.op hx) (F.op hy)
theorem Has.gtT{x y:Operand}{k:IntKind}{n m:Int}(F:Has N D a L)(ho:o.op = .binOp .gtr t x y t':=by rfl)(hx:opv L x=some (.int k n):=by rfl)(hy:opv L y=some (.int k m):=by rfl)(h:m<n:=by omega): (execOp a.eval o).run P w = .ok (.value (.bool true)) w:=Zga ho (F.op hx) (F.op hy) (decide_eq_true h)
theorem Has.gtF{x y:Operand}{k:IntKind}{n m:Int}(F:Has N D a L)(ho:o.op = .binOp .gtr t x y t':=by rfl)(hx:opv L x=some (.int k n):=by rfl)(hy:opv L y=some (.int k m):=by rfl)(h:¬(m<n):=by omega): (execOp a.eval o).run P w = .ok (.value (.bool false)) w:=Zga ho (F.op hx) (F.op hy) (decide_eq_false h)
theorem Has.ge{x y:Operand}{k:IntKind}{n m:Int}(F:Has N D a L)(ho:o.op = .binOp .geq t x y t':=by rfl)(hx:opv L x=some (.int k n):=by rfl)(hy:opv L y=some (.int k m):=by rfl): (execOp a.eval o).run P w = .ok (.value (.bool (decide (m<=n)))) w:=Zl3 ho (F.op hx) (F.op hy)
theorem Has.eq{x y:Operand}{k:IntKind}{n m:Int}(F:Has N D a L)(ho:o.op = .binOp .eql t x y t':=by rfl)(hx:opv L x=some (.int k n):=by rfl)(hy:opv L y=some (.int k m):=by rfl): (execOp a.eval o).run P w = .ok (.value (.bool (decide (n=m)))) w:=Z9P ho (F.op hx) (F.op hy)
theorem Has.eqT{x y:Operand}{k:IntKind}{n m:Int}(F:Has N D a L)(ho:o.op = .binOp .eql t x y t':=by rfl)(hx:opv L x=some (.int k n):=by rfl)(hy:opv L y=some (.int k m):=by rfl)(h:n=m:=by omega): (execOp a.eval o).run P w = .ok (.value (.bool true)) w:=Z9O ho (F.op hx) (F.op hy) (decide_eq_true h)
theorem Has.ne{x y:Operand}{k:IntKind}{n m:Int}(F:Has N D a L)(ho:o.op = .binOp .neq t x y t':=by rfl)(hx:opv L x=some (.int k n):=by rfl)(hy:opv L y=some (.int k m):=by rfl): (execOp a.eval o).run P w = .ok (.value (.bool (decide (¬(n=m))))) w:=Zgb ho (F.op hx) (F.op hy)
theorem Has.neT{x y:Operand}{k:IntKind}{n m:Int}(F:Has N D a L)(ho:o.op = .binOp .neq t x y t':=by rfl)(hx:opv L x=some (.int k n):=by rfl)(hy:opv L y=some (.int k m):=by rfl)(h:¬(n=m):=by omega): (execOp a.eval o).run P w = .ok (.value (.bool true)) w:=Zc3 ho (F.op hx) (F.op hy) (decide_eq_false h)
theorem Has.neF{x y:Operand}{k:IntKind}{n m:Int}(F:Has N D a L)(ho:o.op = .binOp .neq t x y t':=by rfl)(hx:opv L x=some (.int k n):=by rfl)(hy:opv L y=some (.int k m):=by rfl)(h:n=m:=by omega): (execOp a.eval o).run P w = .ok (.value (.bool false)) w:=Zc3 ho (F.op hx) (F.op hy) (decide_eq_true h)
theorem Has.ad{x y:Operand}{n m:Int}(F:Has N D a L)(ho:o.op = .binOp .add t x y t':=by rfl)(hx:opv L x=some (.int .i64 n):=by rfl)(hy:opv L y=some (.int .i64 m):=by rfl)(h1:-9223372036854775808<=n+m:=by omega)(h2:n+m<=9223372036854775807:=by omega): (execOp a.eval o).run P w = .ok (.value (.int .i64 (n+m))) w:=Z5O ho (F.op hx) (F.op hy) h1 h2
theorem Has.sb{x y:Operand}{n m:Int}(F:Has N D a L)(ho:o.op = .binOp .sub t x y t':=by rfl)(hx:opv L x=some (.int .i64 n):=by rfl)(hy:opv L y=some (.int .i64 m):=by rfl)(h1:-9223372036854775808<=n-m:=by omega)(h2:n-m<=9223372036854775807:=by omega): (execOp a.eval o).run P w = .ok (.value (.int .i64 (n-m))) w:=Zh5 ho (F.op hx) (F.op hy) h1 h2
theorem Has.ml{x y:Operand}{n m:Int}(F:Has N D a L)(ho:o.op = .binOp .mul t x y t':=by rfl)(hx:opv L x=some (.int .i64 n):=by rfl)(hy:opv L y=some (.int .i64 m):=by rfl)(h1:-9223372036854775808<=n*m:=by omega)(h2:n*m<=9223372036854775807:=by omega): (execOp a.eval o).run P w = .ok (.value (.int .i64 (n*m))) w:=Zl6 ho (F.op hx) (F.op hy) h1 h2
theorem Has.ng{x:Operand}{n:Int}(F:Has N D a L)(ho:o.op = .unOp .neg t x:=by rfl)(hx:opv L x=some (.int .i64 n):=by rfl)(h1:-9223372036854775807<=n:=by omega)(h2:n<=9223372036854775807:=by omega): (execOp a.eval o).run P w = .ok (.value (.int .i64 (-n))) w:=Zl7 ho (F.op hx) h1 h2
theorem Has.nb{x:Operand}{b:Bool}(F:Has N D a L)(ho:o.op = .unOp .not t x:=by rfl)(hx:opv L x=some (.bool b):=by rfl): (execOp a.eval o).run P w = .ok (.value (.bool !b)) w:=Zb4 ho (F.op hx)
theorem Has.nd{x:Operand}{_:Decidable p}(F:Has N D a L)(ho:o.op = .unOp .not t x:=by rfl)(hx:opv L x=some (.bool (decide p)):=by rfl): (execOp a.eval o).run P w = .ok (.value (.bool (decide (¬p)))) w:=Zjf ho (F.op hx)
theorem Has.pT{c x y:Operand}(F:Has N D a L)(ho:o.op = .pick c x y:=by rfl)(hc:opv L c=some (.bool true):=by rfl)(hx:opv L x=some v:=by rfl): (execOp a.eval o).run P w = .ok (.value v) w:=Z53 ho (F.op hc) (F.op hx)
theorem Has.pF{c x y:Operand}(F:Has N D a L)(ho:o.op = .pick c x y:=by rfl)(hc:opv L c=some (.bool false):=by rfl)(hx:opv L y=some v:=by rfl): (execOp a.eval o).run P w = .ok (.value v) w:=Z6y ho (F.op hc) (F.op hx)
theorem Has.mo{x:Operand}(F:Has N D a L)(ho:mvO o.op=some x:=by rfl)(hx:opv L x=some v:=by rfl): (execOp a.eval o).run P w = .ok (.value v) w:=by
 unfold mvO at ho
 split at ho
 ·cases ho
  exact Z0E (by assumption) (F.op hx)
 ·cases ho
  exact ZC (by assumption) (F.op hx)
 ·cases ho
theorem Has.xt{x:Operand}{k:Nat}{vs:Array Value}(F:Has N D a L)(ho:o.op = .extract x k:=by rfl)(hx:opv L x=some (.tuple vs):=by rfl)(hv:getA vs k=some v:=by rfl): (execOp a.eval o).run P w = .ok (.value v) w:=Z2r ho (F.op hx) (ZcZ hv)
theorem Has.ln{x:Operand}{p:Option Addr}{n c:Nat}(F:Has N D a L)(ho:o.op = .call {callee:=.builtin .len,args:=#[x],argTypes:=#[t]}:=by rfl)(hx:opv L x=some (.slice p n c):=by rfl)(hu:slcB P t=true:=by kernel_rfl): (execOp a.eval o).run P w = .ok (.value (.int .i64 n)) w:=Z3r ho rfl (F.op hx) (ZkA hu)
theorem Has.mn{x y:Operand}{n m:Int}(F:Has N D a L)(ho:o.op = .call {callee:=.builtin .min,args:=#[x,y],argTypes:=#[t,t']}:=by rfl)(hx:opv L x=some (.int .i64 n):=by rfl)(hy:opv L y=some (.int .i64 m):=by rfl): (execOp a.eval o).run P w = .ok (.value (.int .i64 (min n m))) w:=Zl5 ho rfl (F.op hx) (F.op hy)
theorem Has.mx{x y:Operand}{n m:Int}(F:Has N D a L)(ho:o.op = .call {callee:=.builtin .max,args:=#[x,y],argTypes:=#[t,t']}:=by rfl)(hx:opv L x=some (.int .i64 n):=by rfl)(hy:opv L y=some (.int .i64 m):=by rfl): (execOp a.eval o).run P w = .ok (.value (.int .i64 (max n m))) w:=Zl4 ho rfl (F.op hx) (F.op hy)
theorem Has.nc{x:Operand}{b:Addr}(F:Has N D a L)(ho:o.op = .nilCheck x:=by rfl)(hx:opv L x=some (.pointer (some b)):=by rfl): (execOp a.eval o).run P w = .ok (.value (.pointer (some b))) w:=Zb3 ho (F.op hx)
theorem Has.fd{x:Operand}{t:TypeId}{f b off:Nat}(F:Has N D a L)(n:Nat)(ho:o.op = .fieldAddr t x f:=by rfl)(hx:opv L x=some (.pointer (some ⟨b,off,none⟩)):=by rfl)(hk:(fldO P t f).map (off + ·)=some n:=by kernel_rfl):(execOp a.eval o).run P w = .ok (.value (.pointer (some ⟨b,n,none⟩))) w:=by
 unfold fldO at hk
 split at hk
 ·rename_i fs hu
  split at hk
  ·rename_i fd hf
   split at hk
   ·rename_i i hi
    split at hk
    ·cases hk
    ·rename_i k hs
     simp only[Option.map_some,Y4]at hk;exact ZO ho (F.op hx) hu hf hk (sz:=k+1) (by rw[hi,Option.map_some,hs]) (by omega)
   ·cases hk
  ·cases hk
 ·cases hk
theorem Has.lb{x:Operand}{b:Nat}(F:Has N D a L)(H:w.heap[b]?=some (.cells cs T fz))(ho:o.op = .load t x:=by rfl)(hx:opv L x=some (.pointer (some ⟨b,0,none⟩)):=by rfl)(hk:rowB P t cs.size=true:=by kernel_rfl): (execOp a.eval o).run P w = .ok (.value (.agg cs)) w:=by
 obtain⟨d,h1,h2,h3⟩:=ZgQ hk;exact Zc ho (F.op hx) h1 h2 h3 H
theorem Has.lc{x:Operand}{b: Nat}(F:Has N D a L)(H:w.heap[b]?=some (.cells cs T fz))(ho:o.op = .load t x:=by rfl)(hx:opv L x=some (.pointer (some ⟨b,off,none⟩)):=by rfl)(hv:getA cs off=some v:=by rfl)(hk:ZbP P t=true:=by kernel_rfl): (execOp a.eval o).run P w = .ok (.value v) w:=by
 obtain⟨d,h1,h2⟩:=Z9G hk;exact ZH ho (F.op hx) h1 h2 ((Z1 H off).trans (ZcZ hv))
theorem Has.lr{x:Operand}{b: Nat}{cs:List Value}(F:Has N D a L)(H:w.rangeAt b off cs)(ho:o.op = .load t x:=by rfl)(hx:opv L x=some (.pointer (some ⟨b,off,none⟩)):=by rfl)(hk:rowB P t cs.length=true:=by kernel_rfl): (execOp a.eval o).run P w = .ok (.value (.agg cs.toArray)) w:=by
 obtain⟨d,h1,h2,h3⟩:=ZgQ hk;exact Z51 ho (F.op hx) h1 h2 h3 H
theorem Has.lw{x:Operand}{b: Nat}(F:Has N D a L)(H:w.cell? ⟨b,off,none⟩=some v)(ho:o.op = .load t x:=by rfl)(hx:opv L x=some (.pointer (some ⟨b,off,none⟩)):=by rfl)(hk:ZbP P t=true:=by kernel_rfl): (execOp a.eval o).run P w = .ok (.value v) w:=by
 obtain⟨d,h1,h2⟩:=Z9G hk;exact ZH ho (F.op hx) h1 h2 H
theorem Has.l1{x:Operand}{b: Nat}{cs:List Value}(F:Has N D a L)(H:w.rangeAt b off cs)(j:Nat)(ho:o.op = .load t x:=by rfl)(hx:opv L x=some (.pointer (some ⟨b,off+j,none⟩)):=by rfl)(hv:getV cs j=some v:=by rfl)(hk:ZbP P t=true:=by kernel_rfl): (execOp a.eval o).run P w = .ok (.value v) w:=F.lw (H j _ (Z96 hv)) ho hx hk
theorem Has.ia{x ix:Operand}{k:IntKind}{i:Int}{b: Nat}(F:Has N D a L)(n sz:Nat)(ho:o.op = .indexAddr t x ix:=by rfl)(hx:opv L x=some (.pointer (some ⟨b,off,none⟩)):=by rfl)(hi:opv L ix=some (.int k i):=by rfl)(hk:arrB P t n sz=true:=by kernel_rfl)(h0:0<=i:=by omega)(h1:i<n:=by omega): (execOp a.eval o).run P w = .ok (.value (.pointer (some ⟨b,off+i.toNat*sz,none⟩))) w:=by
 obtain⟨e,h2,h3⟩:=Zjp hk;exact Z25 ho (F.op hx) (F.op hi) h2 h3 h0 h1
theorem Has.iv{x ix:Operand}{k:IntKind}{i:Int}(F:Has N D a L)(n:Nat)(hv:cs[i.toNat]?=some v)(ho:o.op = .index t x ix:=by rfl)(hx:opv L x=some (.agg cs):=by rfl)(hi:opv L ix=some (.int k i):=by rfl)(hk:Zhj P t n=true:=by kernel_rfl)(h0:0<=i:=by omega)(h1:i<n:=by omega): (execOp a.eval o).run P w = .ok (.value v) w:=by
 obtain⟨e,h2,h3,d,h4,h5⟩:=Zhk hk;exact Zh4 ho (F.op hx) (F.op hi) h2 h3 h4 h5 h0 h1 hv
theorem Has.is{x ix:Operand}{k:IntKind}{i:Int}{p:Option Addr}{b len cap: Nat}(F:Has N D a L)(sz:Nat)(hp:∀m c,Value.slice p m c = .slice (some ⟨b,off,none⟩) m c)(ho:o.op = .indexAddr t x ix:=by rfl)(hx:opv L x=some (.slice p len cap):=by rfl)(hi:opv L ix=some (.int k i):=by rfl)(hk:eltB P t sz=true:=by kernel_rfl)(h0:0<=i:=by omega)(h1:i<len:=by omega): (execOp a.eval o).run P w = .ok (.value (.pointer (some ⟨b,off+i.toNat*sz,none⟩))) w:=by
 obtain⟨e,h2,h3⟩:=ZjK hk;exact Z50 ho ((F.op hx).trans (hp _ _)) (F.op hi) h2 h3 h0 h1
theorem Has.bv{l:List (Nat×Operand)}{vs:List (Nat×Value)}(F:Has N D a L)(cells:Array Value)(ho:o.op = .build t l.toArray:=by rfl)(hp:opvp L l=some vs:=by rfl)(h:P.built t vs=some cells:=by kernel_rfl): (execOp a.eval o).run P w = .ok (.value (.agg cells)) w:=Z9N ho (F.opp hp) h
theorem Has.mf{fn:Fn}{l1 l2:List Operand}{us vs:List Value}(F:Has N D a L)(ho:o.op = .makeFunc fn l1.toArray l2.toArray:=by rfl)(h1:opvs L l1=some us:=by rfl)(h2:opvs L l2=some vs:=by rfl): (execOp a.eval o).run P w = .ok (.value (.func fn us.toArray vs.toArray)) w:=Z15 ho (Z3i (F.ops h1)) (Z3i (F.ops h2))
def Z80(P:Program)(f:FuncId):Bool:=match P.funcs[f]? with
 | some fn=>fn.body.isSome && !(fn.name == "runtime.NumGoroutine")
 | none=>false
theorem Zhr{f:FuncId}(h:Z80 P f=true)(args:Array Value)(w:World): (callFunc f args).run P w = .ok (.enter f args) w:=by
 have e3:∀(Z:Program->Sem Next),(program >>= Z).run P w=(Z P).run P w:=λZ=>rfl;unfold Z80 at h
 split at h
 ·rename_i fn hf
  simp only[Y5,Bool.not_eq_true']at h;have h1:fn.body.isNone=false:=by cases hb:fn.body with
   | none=>rw[hb]at h;simp at h
   | some c=>rfl
  unfold callFunc;rw[e3];simp only[hf,h.2,h1]
  rfl
 ·cases h
theorem Has.rc{f:FuncId}{l:List Operand}{ts:Array TypeId}{vs:List Value}(F:Has N D a L)(C:Z80 P f=true)(ho:o.op = .call {callee:=.value (.func f),args:=l.toArray,argTypes:=ts})(ha:opvs L l=some vs): (execOp a.eval o).run P w = .ok (.enter f vs.toArray) w:=Za ho rfl (Zhr C) (F.ops ha)
theorem Has.k{f:FuncId}{l:List Operand}{ts:Array TypeId}{vs:List Value}{R:Ending->World->Prop}(F:Has N D a L)(hc:Calls P f vs.toArray w R)(C:Z80 P f=true:=by kernel_rfl)(ho:o.op = .call {callee:=.value (.func f),args:=l.toArray,argTypes:=ts}:=by rfl)(ha:opvs L l=some vs:=by rfl)(hd:o.dst=some d:=by rfl)(hN:d<N:=by decide)(hw:Z0j L ops o=some true:=by rfl)(h:∀e w',R e w'->∃v,e = .returned v/\∀{a2},Has N D a2 ((d,v)::L)->wpList P ops Q rest a2 w'): wpList P ops Q (o::rest) a w:=Z7w F hd hN (F.want hw) (F.rc C ho ha) hc λe w' hR=>by
 obtain⟨v,h1,h2⟩:=h e w' hR;exact⟨v,h1,λ_ F=>h2 F⟩
theorem Has.k0{f:FuncId}{l:List Operand}{ts:Array TypeId}{vs:List Value}{S:List Fc}(F:Has N D a L)(B:Bk w S)(hc:Calls P f vs.toArray w λe w'=>e = .returned v/\Ext [] w w')(C:Z80 P f=true:=by kernel_rfl)(ho:o.op = .call {callee:=.value (.func f),args:=l.toArray,argTypes:=ts}:=by rfl)(ha:opvs L l=some vs:=by rfl)(hd:o.dst=some d:=by rfl)(hN:d<N:=by decide)(hw:Z0j L ops o=some true:=by rfl)(h:∀{w' a2},Has N D a2 ((d,v)::L)->Bk w' S->wpList P ops Q rest a2 w'): wpList P ops Q (o::rest) a w:=F.k hc C ho ha hd hN hw λe w' hR=>⟨v,hR.1,λF=>h F (B.ex hR.2)⟩
def boxO:Value->Option (Array Value)
 | .agg cs=>some cs
 | v=>some #[v]
theorem Z9Z{v:Value}(h:boxO v=some cs): v.cells=cs:=by
 cases v<;>(simp only[boxO,Y4]at h;exact h)
theorem Has.al{T:TypeId}{z:Value}{cs:Array Value}{S:List Fc}(F:Has N D a L)(B:Bk w S)(hz:∀w,(zeroValue T).run P w = .ok z w)(ho:o.op = .alloc T:=by rfl)(hd:o.dst=some d:=by rfl)(hN:d<N:=by decide)(hw:Z0j L ops o=some true:=by rfl)(hv:boxO z=some cs:=by rfl)(h:∀{n w2 a2},LtA n S->Has N D a2 ((d,.pointer (some ⟨n,0,none⟩))::L)->Bk w2 (.q n cs T::S)->wpList P ops Q rest a2 w2):wpList P ops Q (o::rest) a w:=by
 obtain rfl:=Z9Z hv;exact Z6j F hd hN (F.want hw) (Ze ho hz) λ_ _ F hw=>h (B.lt rfl) F ⟨ZU hw rfl,B.al hw⟩
theorem Has.bx{x:Operand}{S:List Fc}(F:Has N D a L)(B:Bk w S)(ho:o.op = .box T x:=by rfl)(hx:opv L x=some v:=by rfl)(hv:boxO v=some cs:=by rfl)(hd:o.dst=some d:=by rfl)(hN:d<N:=by decide)(hw:Z0j L ops o=some true:=by rfl)(h:∀{n w2 a2},LtA n S->Has N D a2 ((d,.pointer (some ⟨n,0,none⟩))::L)->Bk w2 (.q n cs T::S)->wpList P ops Q rest a2 w2): wpList P ops Q (o::rest) a w:=by
 obtain rfl:=Z9Z hv;exact Z6j F hd hN (F.want hw) (Z1B ho (F.op hx)) λ_ _ F hw=>h (B.lt rfl) F ⟨ZU hw rfl,B.al hw⟩
theorem Has.st{x y:Operand}{t b T: Nat}{S S0 S':List Fc}(F:Has N D a L)(B:Bk w S)(i:Nat)(ho:o.op = .store t x y:=by rfl)(hx:opv L x=some (.pointer (some ⟨b,off,none⟩)):=by rfl)(hy:opv L y=some v:=by rfl)(hi:nth S i=some (.q b cs T):=by rfl)(hc:setA cs off v=some cs':=by rfl)(hu:upf S i (.q b cs' T)=some S':=by rfl)(h0:delf S i=some S0:=by rfl)(h1:v.oneCell'=true:=by rfl)(hs:Z4x P t 1=true:=by kernel_rfl)(hn:NeA b T S0:=by exact nea)(hd:o.dst=none:=by rfl)(hw:Z0j L ops o=some true:=by rfl)(h:∀{w2},Bk w2 S'->wpList P ops Q rest a w2): wpList P ops Q (o::rest) a w:=by
 obtain⟨hc1,u,hc2⟩:=ZdR hc;have q:=B.get hi;refine Z0T hd (F.want hw) (Z05 ho (F.op hx) (F.op hy) h1 (Z1H hs) ((Z1 q off).trans hc2) (Zd q off)) λw2 hw=>h ?_;exact Bk.up (g:=.q b cs' T) (ZG hw q hc1) hu λL0 h2=>by
  rw[h0]at h2
  cases h2
  exact Bk.cell hw q (B.del h0) hn
theorem Has.sr{x y:Operand}{t b T:Nat}{S S0 S':List Fc}(F:Has N D a L)(B:Bk w S)(i:Nat)(ho:o.op = .store t x y:=by rfl)(hx:opv L x=some (.pointer (some ⟨b,0,none⟩)):=by rfl)(hy:opv L y=some (.agg cs'):=by rfl)(hi:nth S i=some (.q b cs T):=by rfl)(hz:cs.size=cs'.size:=by rfl)(hu:upf S i (.q b cs' T)=some S':=by rfl)(h0:delf S i=some S0:=by rfl)(hs:Z4x P t cs'.size=true:=by kernel_rfl)(h1:cs'.all (·.oneCell')=true:=by exact one1)(hn:NeA b T S0:=by exact nea)(hd:o.dst=none:=by rfl)(hw:Z0j L ops o=some true:=by rfl)(h:∀{w2},Bk w2 S'->wpList P ops Q rest a w2): wpList P ops Q (o::rest) a w:=by
 have q:=B.get hi;refine Z0T hd (F.want hw) (ZW ho (F.op hx) (F.op hy) (Z1H hs) h1 q hz) λw2 hw=>h ?_;exact Bk.up (g:=.q b cs' T) (Z0I hw q hz) hu λL0 h2=>by
  rw[h0]at h2
  cases h2
  exact Bk.cells hw q (B.del h0) hn
end
variable{μ:Nat}
def ZeH:List Fc->Option (List Fc)
 | []=>some []
 | f::L=>match ZeH L with
  | some R=>some (f::R)
  | none=>none
def Zfx(L:List Fc):List Nat->Option (List Fc)
 | []=>some []
 | i::l=>match nth L i,Zfx L l with
  | some f,some R=>some (f::R)
  | _,_=>none
inductive AmF(L:List Fc):List Fc->Prop
 | n:AmF L []
 | c {f R} (i:Nat) (h:nth L i=some f) (r:AmF L R):AmF L (f::R)
theorem Bk.am{w:World}{L:List Fc}(B:Bk w L):∀{R:List Fc},AmF L R->Bk w R
 | [],_=>trivial
 | f::R,.c i h r=>⟨B.get h,Bk.am B r⟩
theorem Zcr:∀{L R:List Fc},ZeH L=some R->L=R
 | [],R,h=>by cases h;rfl
 | f::L,R,h=>by
  simp only[ZeH]at h
  split at h
  ·rename_i R' h1
   cases h
   rw[Zcr h1]
  ·cases h
theorem ZdE{L:List Fc}:∀{l:List Nat} {R:List Fc},Zfx L l=some R->AmF L R
 | [],R,h=>by cases h;exact .n
 | i::l,R,h=>by
  simp only[Zfx]at h
  split at h
  ·rename_i f R' h1 h2
   cases h
   exact .c i h1 (ZdE h2)
  ·cases h
theorem Bk.z{w:World}{L L':List Fc}(B:Bk w L)(h:ZeH L=some L':=by rfl): Bk w L':=Zcr h▸B
theorem Bk.u{w:World}{L L':List Fc}(B:Bk w L)(h:AmF L L':=by repeat (first | exact .n | refine .c 0 rfl ?_ | refine .c 1 rfl ?_ | refine .c 2 rfl ?_ | refine .c 3 rfl ?_ | refine .c 4 rfl ?_ | refine .c 5 rfl ?_ | refine .c 6 rfl ?_ | refine .c 7 rfl ?_ | refine .c 8 rfl ?_ | refine .c 9 rfl ?_ | refine .c 10 rfl ?_ | refine .c 11 rfl ?_ | refine .c 12 rfl ?_ | refine .c 13 rfl ?_ | refine .c 14 rfl ?_ | refine .c 15 rfl ?_ | refine .c 16 rfl ?_ | refine .c 17 rfl ?_ | refine .c 18 rfl ?_ | refine .c 19 rfl ?_ | refine .c 20 rfl ?_ | refine .c 21 rfl ?_ | refine .c 22 rfl ?_ | refine .c 23 rfl ?_)): Bk w L':=B.am h
theorem Bk.b{w:World}{L L':List Fc}(B:Bk w L)(l:List Nat)(h:Zfx L l=some L':=by rfl): Bk w L':=B.am (ZdE h)
section
variable{P:Program}{Q:Exit->Act->World->Prop}{N:Nat}{D:List Deferred}{a:Act}{L L0:List (Nat×Value)}{S:List Fc}{w:World}{v:Value}
theorem wR{id:Nat}{l:List Oper}{y:Code}(h:∀{K:Act->World->Prop},(∀{a w},y.wp P Q a w->K a w)->wpList P l.toArray (Exit.then K Q) l a w): (Code.seq (.region id l.toArray false) y).wp P Q a w:=wp_seq_k λK hK=>Yg (h λ{a w}=>hK a w)
theorem wQ{x y:Code}(h:∀{K:Act->World->Prop},(∀{a w},y.wp P Q a w->K a w)->x.wp P (Exit.then K Q) a w): (Code.seq x y).wp P Q a w:=wp_seq_k λK hK=>h λ{a w}=>hK a w
theorem ent{f:FuncId}{args:List Value}{R:Ending->World->Prop}(N:Nat)(fn:Func)(hb:fn.body=some c)(hf:P.funcs[f]?=some fn:=by kernel_rfl)(hN:fn.ntmps=N:=by rfl)(hle:args.length<=N:=by exact Nat.le_of_ble_eq_true rfl)(h:∀{a},Has N [] a (argL 0 args)->c.wp P (bodyPost P fn R) a w): Calls P f args.toArray w R:=ZS N hf hb hN hle λ_ F=>h F
theorem wX{id:Nat}{l:List Oper}(n:Nat)(B:Bk w S)(hm:P.follows .mixedOrders=true:=by exact follows)(hB:Region.lexTailB .any l.toArray n=true:=by kernel_rfl)(h:∀{W:World},Bk W S->wpStill P l.toArray W (λa'=>wpList P l.toArray Q (l.drop n) a' W) (l.take n) a): (Code.region id l.toArray true).wp P Q a w:=Z8L n hm hB λW hh eh=>h (B.ex eh)
theorem lpC(F:Has N D a L0)(B:Bk w S)(M:Nat)(f:Nat->List (Nat×Value))(h0:Has N D a (f 0++L0))(round:∀{a w} i,i<=M->Has N D a (f i++L0)->Bk w S->c.wp P (Exit.then (λa' w'=>i<M/\Has N D a' (f (i+1)++L0)/\Bk w' S) Q) a w): (Code.loop c).wp P Q a w:=
 Z6c F M (λi Lv W=>Lv=f i/\Bk W S) ⟨_,⟨rfl,B⟩,h0⟩ λi Lv a w hi h F=>by
  obtain⟨rfl,B⟩:=h;refine wp_mono (round i hi F B) λe a w h=>?_
  cases e<;>first | exact h | exact⟨h.1,_,⟨rfl,h.2.2⟩,h.2.1⟩
theorem lpB(F:Has N D a L0)(B:Bk w S)(M:Nat)(J:Nat->List (Nat×Value)->List Fc->World->Prop)(h0:∃Lv Sv,Has N D a (Lv++L0)/\Bk w (Sv++S)/\J 0 Lv Sv w)(round:∀i {a w Lv Sv},i<=M->J i Lv Sv w->Has N D a (Lv++L0)->Bk w (Sv++S)->c.wp P (Exit.then (λa' w'=>i<M/\∃Lv' Sv',Has N D a' (Lv'++L0)/\Bk w' (Sv'++S)/\J (i+1) Lv' Sv' w') Q) a w): (Code.loop c).wp P Q a w:=by
 obtain⟨Lv,Sv,h3,h2,h1⟩:=h0;refine Z6c F M (λi Lv W=>∃Sv,J i Lv Sv W/\Bk W (Sv++S)) ⟨Lv,⟨Sv,h1,h2⟩,h3⟩ λi Lv a w hi h F=>?_;obtain⟨Sv,h4,h5⟩:=h;refine wp_mono (round i hi h4 F h5) λe a w h=>?_
 cases e<;>first | exact h | exact⟨h.1,by obtain⟨-,Lv',Sv',h8,h7,h6⟩:=h;exact⟨Lv',⟨Sv',h6,h7⟩,h8⟩⟩
theorem Has.cT{x:Operand}(F:Has N D a L)(hx:opv L x=some (.bool true):=by rfl)(h:c.wp P Q a w): (Code.cond x c d).wp P Q a w:=wp_cond_true (F.op hx) h
theorem Has.cF{x:Operand}(F:Has N D a L)(hx:opv L x=some (.bool false):=by rfl)(h:d.wp P Q a w): (Code.cond x c d).wp P Q a w:=wp_cond_false (F.op hx) h
theorem Has.ci{k:Nat}{_:Decidable p}(F:Has N D a L)(ht:p->c.wp P Q a w)(hf:¬p->d.wp P Q a w)(hx:L.lookup k=some (.bool (decide p)):=by rfl): (Code.cond (.tmp k) c d).wp P Q a w:=Z6L F hx ht hf
theorem Has.cb{k:Nat}{b:Bool}(F:Has N D a L)(ht:b=true->c.wp P Q a w)(hf:b=false->d.wp P Q a w)(hx:L.lookup k=some (.bool b):=by rfl): (Code.cond (.tmp k) c d).wp P Q a w:=cd_b F hx ht hf
theorem Has.JF{k:Nat}{_:Decidable p}(F:Has N D a L)(hx:L.lookup k=some (.bool (decide p)):=by rfl)(hb:¬p:=by omega)(h:d.wp P Q a w): (Code.cond (.tmp k) c d).wp P Q a w:=wp_cond_false (by rw[F.at hx,decide_eq_false hb]) h
theorem Has.jF{k:Nat}{b:Bool}(F:Has N D a L)(hb:b=false)(hx:L.lookup k=some (.bool b):=by rfl)(h:d.wp P Q a w): (Code.cond (.tmp k) c d).wp P Q a w:=wp_cond_false (by rw[F.at hx,hb]) h
variable{fn:Func}{R:Ending->World->Prop}
inductive RetTo(Q':Exit->Act->World->Prop):(Exit->Act->World->Prop)->Prop
 | t {K:Act->World->Prop} {Z:Exit->Act->World->Prop} (h:RetTo Q' Z):RetTo Q' (Exit.then K Z)
 | b {id:Nat} {Z:Exit->Act->World->Prop} (h:RetTo Q' Z):RetTo Q' (Exit.inBlock id Z)
 | g {Z:Exit->Act->World->Prop} (h:RetTo Q' Z):RetTo Q' (Exit.noGoto Z)
 | r:RetTo Q' Q'
theorem RetTo.go{Q':Exit->Act->World->Prop}:∀{Q:Exit->Act->World->Prop},RetTo Q' Q->Q' .ret a w->Q .ret a w
 | _,.t h,k=>by have:=RetTo.go h k;exact this
 | _,.b h,k=>by have:=RetTo.go h k;exact this
 | _,.g h,k=>by have:=RetTo.go h k;exact this
 | _,.r,k=>k
theorem rtt{Z Z':Exit->Act->World->Prop}(h:RetTo Z Z':=by repeat (first | refine .t ?_ | refine .b ?_ | refine .g ?_ | exact .r)): RetTo Z Z':=h
theorem Has.rg(F:Has N [] a L)(hr:(results fn a.tmps).run P w = .ok v w)(hQ:RetTo (bodyPost P fn R) Q:=by exact rtt)(h:R (.returned v) w):Code.ret.wp P Q a w:=wp_ret (hQ.go (rt_v F hr h))
theorem Has.r1{t:Nat}(F:Has N [] a L)(hQ:RetTo (bodyPost P fn R) Q:=by exact rtt)(hr:fn.results=#[.tmp t]:=by rfl)(hv:L.lookup t=some v:=by rfl)(h:R (.returned v) w): Code.ret.wp P Q a w:=wp_ret (hQ.go (rt_v F (rs_1 F hr hv) h))
theorem Has.r2{t s:Nat}{u:Value}(F:Has N [] a L)(hQ:RetTo (bodyPost P fn R) Q:=by exact rtt)(hr:fn.results=#[.tmp t,.tmp s]:=by rfl)(hv:L.lookup t=some v:=by rfl)(hu:L.lookup s=some u:=by rfl)(h:R (.returned (.tuple #[v,u])) w): Code.ret.wp P Q a w:=wp_ret (hQ.go (rt_v F (rs_2 F hr hv hu) h))
inductive EndTo(Q':Exit->Act->World->Prop):(Exit->Act->World->Prop)->Exit->Prop
 | t {K:Act->World->Prop} {Z:Exit->Act->World->Prop} {i:Nat} (h:EndTo Q' Z (.exit i)):EndTo Q' (Exit.then K Z) (.exit i)
 | b {Z:Exit->Act->World->Prop} {i:Nat} (h:EndTo Q' Z .normal):EndTo Q' (Exit.inBlock i Z) (.exit i)
 | c {Z:Exit->Act->World->Prop} {i:Nat} (h:EndTo Q' Z .normal):EndTo Q' (Exit.inBlock i Z) .normal
 | d {Z:Exit->Act->World->Prop} {i j:Nat} (hn:(j==i)=false) (h:EndTo Q' Z (.exit j)):EndTo Q' (Exit.inBlock i Z) (.exit j)
 | r:EndTo Q' Q' .normal
theorem EndTo.go{Q':Exit->Act->World->Prop}{a:Act}{w:World}:∀{Q:Exit->Act->World->Prop} {e:Exit},EndTo Q' Q e->Q' .normal a w->Q e a w
 | _,_,.t h,k=>by have:=EndTo.go h k;exact this
 | _,_,.b h,k=>by have:=EndTo.go h k;show (if _ then _ else _);rw[if_pos rfl];exact this
 | _,_,.c h,k=>by have:=EndTo.go h k;exact this
 | _,_,.d hn h,k=>by have:=EndTo.go h k;show (if _ then _ else _);rw[if_neg (by simpa using hn)];exact this
 | _,_,.r,k=>k
variable{e:Exit}{ops:Array Oper}
theorem ett{Z Z':Exit->Act->World->Prop}(h:EndTo Z Z' e:=by repeat (first | refine .t ?_ | refine .b ?_ | refine .c ?_ | refine .d rfl ?_ | exact .r)): EndTo Z Z' e:=h
theorem Has.e0(F:Has N [] a L)(hQ:EndTo (bodyPost P fn R) Q e:=by exact ett)(hr:fn.results=#[]:=by rfl)(h:R (.returned (.tuple #[])) w):Q e a w:=hQ.go (ZiA F (rs_0 hr) h)
theorem Has.f0(F:Has N [] a L)(hQ:EndTo (bodyPost P fn R) Q .normal:=by exact ett)(hr:fn.results=#[]:=by rfl)(h:R (.returned (.tuple #[])) w):wpList P ops Q [] a w:=hQ.go (ZiA F (rs_0 hr) h)
end
variable{μ:Nat}
theorem nex{X:List Nat}{L:List Fc}(h:NeX X L:=by repeat (first | exact .n | (refine .q (by first | (simp;done) | (simp;omega)) ?_) | (refine .e (by intro i hi hl;simp only[Yc,Ya,or_false]at hi⊢;omega) ?_) | (refine .o (by first | (simp;done) | (simp;omega)) ?_) | (refine .f (by first | (simp;done) | (simp;omega)) ?_))): NeX X L:=h
theorem neg{B:Nat}{E:TypeId}{V:Value}{L:List Fc}(h:NeG B E V L:=by repeat (first | exact .n | (refine .q (by first | exact .inl (by decide) | exact .inr (.inl (by omega)) | exact .inr (.inr (by first | assumption | exact LtA.own 0 (by assumption) (by rfl) | exact LtA.own 1 (by assumption) (by rfl) | exact LtA.own 2 (by assumption) (by rfl) | exact LtA.own 3 (by assumption) (by rfl) | exact LtA.own 4 (by assumption) (by rfl) | exact LtA.own 5 (by assumption) (by rfl) | exact LtA.own 6 (by assumption) (by rfl) | exact LtA.own 7 (by assumption) (by rfl) | exact LtA.own 8 (by assumption) (by rfl) | exact LtA.own 9 (by assumption) (by rfl)))) ?_) | (refine .e (.inl (by omega)) ?_) | (refine .e (.inr (by intro c h;cases h;simp)) ?_) | (refine .o (by decide) ?_) | (refine .l ⟨by omega,by decide⟩ ?_) | (refine .f (by decide) ?_))): NeG B E V L:=h
section
variable{w w' w2 w0:World}{L L0 L' S S0 S':List Fc}{n c i b m:Nat}{T e s:Nat}{cs cs':Array Value}{X:List Nat}{v v':Value}{xs xs':List Value}
theorem Bk.rQ(B:Bk w L)(i:Nat)(h:w.heap[n]?=some (.cells cs T (0,0)))(hu:upf L i (.q n cs T)=some L':=by rfl):Bk w L':=B.r (g:=.q n cs T) i h hu
theorem Bk.rO(B:Bk w L)(i:Nat)(h:w.ownsRow b e s v n xs)(hu:upf L i (.o b e s v n xs)=some L':=by rfl):Bk w L':=B.r (g:=.o b e s v n xs) i h hu
theorem Bk.rF(B:Bk w L)(i:Nat)(h:FamT w b M)(hu:upf L i (.f b M)=some L':=by rfl): Bk w L':=B.r (g:=.f b M) i h hu
theorem Bk.rL(B:Bk w L)(i:Nat)(h:Zm w0 w b m v)(hu:upf L i (.l w0 b m v)=some L':=by rfl):Bk w L':=B.r (g:=.l w0 b m v) i h hu
theorem Bk.x(B:Bk w L)(h:Ext X w w')(hn:NeX X L:=by exact nex):Bk w' L:=Bk.xx h B hn
theorem Bk.xl(B:Bk w L)(i:Nat)(h:Ext X w w')(hl:Zm w0 w' b m v)(h0:delf L i=some L0:=by rfl)(hu:upf L i (.l w0 b m v)=some L':=by rfl)(hn:NeX X L0:=by exact nex):Bk w' L':=Bk.up (g:=.l w0 b m v) hl hu λL1 h1=>by
 rw[h0]at h1
 cases h1
 exact Bk.xx h (B.del h0) hn
theorem Bk.k(B:Bk w L)(i:Nat)(h:Ext X w w')(hi:nth L i=some (.q n cs T):=by rfl)(hx:n ∉ X:=by first | (simp;done) | (simp;omega)):w'.heap[n]?=some (.cells cs T (0,0)):=h.keep (B.get hi) hx
theorem Bk.gr{n':Nat}(B:Bk w L)(i:Nat)(hg:w.grownBy w' v.ownBlock)(ho:w'.ownsRow b e s v' n' xs')(hi:nth L i=some (.o b e s v n xs):=by rfl)(h0:delf L i=some L0:=by rfl)(hn:NeG b e v L0:=by exact neg)(hu:upf L i (.o b e s v' n' xs')=some L':=by rfl):Bk w' L':=Bk.up (g:=.o b e s v' n' xs') ho hu λL1 h1=>by
 rw[h0]at h1
 cases h1
 exact Bk.grow (B.get hi) hg (B.del h0) hn
theorem Bk.pr{l:List Value}(B:Bk w S)(i:Nat)(hw:w2=w.setCells n off l)(hp:w2.heap[n]?=some (.cells cs' T (0,0)))(hi:nth S i=some (.q n cs T):=by rfl)(hu:upf S i (.q n cs' T)=some S':=by rfl)(h0:delf S i=some S0:=by rfl)(hn:NeA n T S0:=by exact nea): Bk w2 S':=Bk.up (g:=.q n cs' T) hp hu λL1 h1=>by
 rw[h0]at h1
 cases h1
 exact Bk.cells hw (B.get hi) (B.del h0) hn
end
section
variable{P:Program}{ops:Array Oper}{Q:Exit->Act->World->Prop}{o:Oper}{rest:List Oper}{N:Nat}{D:List Deferred}{a:Act}{L:List (Nat×Value)}{w w0:World}{v:Value}{d:Nat}{S S0 S':List Fc}{X:List Nat}
def Z8t(P:Program)(t e k:TypeId):Bool:=match P.underlying t with
 | some (.slice e')=>Nat.beq e' e&&Z4x P e k
 | _=>false
theorem ZaI{t e k:Nat}(h:Z8t P t e k=true): P.underlying t=some (.slice e)/\(P.info? e).map (·.size)=some k:=by
 unfold Z8t at h
 split at h
 ·rename_i e' he
  simp only[Y5]at h;rw[he,Nat.eq_of_beq_eq_true h.1];exact⟨rfl,Z1H h.2⟩
 ·cases h
theorem Has.bS{t e n size:Nat}{l:List (Nat×Operand)}{vs:List (Nat×Value)}{z:Value}(F:Has N D a L)(cells:Array Value)(hz:∀w,(zeroValue e).run P w = .ok z w)(ho:o.op = .buildSlice t n l.toArray)(hp:opvp L l=some vs)(hk:Z8t P t e size=true)(hn:n*size<=2 ^ 24)(hn0:n*size≠0)(hf:Instr.fill (λi=>some (i*size,size)) ((Array.range (n*size)).map (z.cells[· % z.cells.size]!)) vs=some cells): (execOp a.eval o).run P w = .ok (.value (.slice (some ⟨w.heap.size,0,none⟩) n n)) (w.alloc (.cells cells e)):=ZI ho (F.opp hp) (ZaI hk).1 (ZaI hk).2 hn hn0 hz hf
theorem Has.bs{t e n:Nat}{l:List (Nat×Operand)}{vs:List (Nat×Value)}{z:Value}(F:Has N D a L)(B:Bk w S)(size:Nat)(cells:Array Value)(hz:∀w,(zeroValue e).run P w = .ok z w)(ho:o.op = .buildSlice t n l.toArray:=by rfl)(hp:opvp L l=some vs:=by rfl)(hk:Z8t P t e size=true:=by kernel_rfl)(hn:n*size<=2 ^ 24:=by decide)(hn0:n*size≠0:=by decide)(hf:Instr.fill (λi=>some (i*size,size)) ((Array.range (n*size)).map (z.cells[· % z.cells.size]!)) vs=some cells:=by kernel_rfl)(hd:o.dst=some d:=by rfl)(hN:d<N:=by decide)(hw:Z0j L ops o=some true:=by rfl)(h:∀{k w2 a2},LtA k S->Has N D a2 ((d,.slice (some ⟨k,0,none⟩) n n)::L)->Bk w2 (.q k cells e::S)->wpList P ops Q rest a2 w2): wpList P ops Q (o::rest) a w:=
 Z6j F hd hN (F.want hw) (F.bS cells hz ho hp hk hn hn0 hf) λ_ _ F hw=>h (B.lt rfl) F ⟨ZU hw rfl,B.al hw⟩
theorem Has.ixr{p:Option Addr}{sz n:Nat}{row:Nat->List Value}{x ix:Operand}{k:IntKind}{j:Int}{len cap:Nat}(F:Has N D a L)(H:SlAt X w0 p sz n row)(i:Nat)(hi:i<n)(ho:o.op = .indexAddr t x ix)(hx:opv L x=some (.slice p len cap))(hj:opv L ix=some (.int k j))(hij:j=(i:Int))(hl:i<len)(hk:eltB P t sz=true): ∃b off,(∀W,Ext X w0 W->W.rangeAt b (off+i*sz) (row i))/\∀{w},(execOp a.eval o).run P w = .ok (.value (.pointer (some ⟨b,off+i*sz,none⟩))) w:=by
 subst hij;obtain⟨b,off,hp,hr⟩:=H i hi;exact⟨b,off,hr,F.is sz hp ho hx hj hk (by omega) (by omega)⟩
theorem Has.ix{p:Option Addr}{sz n:Nat}{row:Nat->List Value}{x ix:Operand}{t:TypeId}{k:IntKind}{j:Int}{len cap:Nat}(F:Has N D a L)(H:SlAt X w0 p sz n row)(i:Nat)(hi:i<n:=by omega)(ho:o.op = .indexAddr t x ix:=by rfl)(hx:opv L x=some (.slice p len cap):=by rfl)(hj:opv L ix=some (.int k j):=by rfl)(hij:j=(i:Int):=by first | rfl | omega)(hl:i<len:=by omega)(hk:eltB P t sz=true:=by kernel_rfl)(hd:o.dst=some d:=by rfl)(hN:d<N:=by decide)(hw:Z0j L ops o=some true:=by rfl)
  (h:∀{b off a2},(∀W,Ext X w0 W->W.rangeAt b (off+i*sz) (row i))->Has N D a2 ((d,.pointer (some ⟨b,off+i*sz,none⟩))::L)->wpList P ops Q rest a2 w):wpList P ops Q (o::rest) a w:=by
 obtain⟨b,off,hr,h1⟩:=F.ixr H i hi ho hx hj hij hl hk;exact Has.y F h1 hd hN hw λF=>h hr F
theorem Has.sx{K:Act->Prop}{p:Option Addr}{sz n:Nat}{row:Nat->List Value}{x ix:Operand}{k:IntKind}{j:Int}{len cap:Nat}(F:Has N D a L)(H:SlAt X w0 p sz n row)(i:Nat)(hi:i<n:=by omega)(ho:o.op = .indexAddr t x ix:=by rfl)(hx:opv L x=some (.slice p len cap):=by rfl)(hj:opv L ix=some (.int k j):=by rfl)(hij:j=(i:Int):=by first | rfl | omega)(hl:i<len:=by omega)(hk:eltB P t sz=true:=by kernel_rfl)(hd:o.dst=some d:=by rfl)(hN:d<N:=by decide)(hw:Z0j L ops o=some true:=by rfl)(h:∀{b off a2},(∀W,Ext X w0 W->W.rangeAt b (off+i*sz) (row i))->Has N D a2 ((d,.pointer (some ⟨b,off+i*sz,none⟩))::L)->wpStill P ops w K rest a2): wpStill P ops w K (o::rest) a:=by
 obtain⟨b,off,hr,h1⟩:=F.ixr H i hi ho hx hj hij hl hk;exact Has.s F h1 hd hN hw λF=>h hr F
theorem Has.kr{f:FuncId}{args:Array Value}{R:Ending->World->Prop}(F:Has N D a L)(hr:(execOp a.eval o).run P w = .ok (.enter f args) w)(hc:Calls P f args w R)(hd:o.dst=some d:=by rfl)(hN:d<N:=by decide)(hw:Z0j L ops o=some true:=by rfl)(h:∀e w',R e w'->∃v,e = .returned v/\∀{a2},Has N D a2 ((d,v)::L)->wpList P ops Q rest a2 w'): wpList P ops Q (o::rest) a w:=Z7w F hd hN (F.want hw) hr hc λe w' hR=>by
 obtain⟨v,h1,h2⟩:=h e w' hR;exact⟨v,h1,λ_ F=>h2 F⟩
theorem Has.okr{i:Nat}{K:Act->World->Prop}{f:FuncId}{args:Array Value}{R:Ending->World->Prop}{oi:Oper}(F:Has N D a L)(hi:ops[i]?=some oi)(hr:(execOp a.eval oi).run P w = .ok (.enter f args) w)(hc:Calls P f args w R)(hd:oi.dst=some d:=by rfl)(hN:d<N:=by decide)(hw:Z0j L ops oi=some true:=by rfl)(h:∀e w',R e w'->∃v,e = .returned v/\∀{a2},Has N D a2 ((d,v)::L)->K a2 w'): wpOp P ops Q i K a w:=Z0C F hi hd hN (F.want hw) hr hc λe w' hR=>by
 obtain⟨v,h1,h2⟩:=h e w' hR;exact⟨v,h1,λ_ F=>h2 F⟩
theorem Has.sw{x y:Operand}{t b T: Nat}{cs cs':Array Value}{u:Value}(F:Has N D a L)(B:Bk w S)(i:Nat)(hc:w.cell? ⟨b,off,none⟩=some u)(hp:∀w2,w2=w.setCell ⟨b,off,none⟩ v->w2.heap[b]?=some (.cells cs' T (0,0)))(ho:o.op = .store t x y:=by rfl)(hx:opv L x=some (.pointer (some ⟨b,off,none⟩)):=by rfl)(hy:opv L y=some v:=by rfl)(hi:nth S i=some (.q b cs T):=by rfl)(hu:upf S i (.q b cs' T)=some S':=by rfl)(h0:delf S i=some S0:=by rfl)(h1:v.oneCell'=true:=by rfl)(hs:Z4x P t 1=true:=by kernel_rfl)(hn:NeA b T S0:=by exact nea)(hd:o.dst=none:=by rfl)(hw:Z0j L ops o=some true:=by rfl)(h:∀{w2},Bk w2 S'->wpList P ops Q rest a w2): wpList P ops Q (o::rest) a w:=by
 have q:=B.get hi;refine Z0T hd (F.want hw) (Z05 ho (F.op hx) (F.op hy) h1 (Z1H hs) hc (Zd q off)) λw2 hw=>h ?_;exact Bk.up (g:=.q b cs' T) (hp w2 hw) hu λL0 h2=>by
  rw[h0]at h2
  cases h2
  exact Bk.cell hw q (B.del h0) hn
theorem Has.sW{x y:Operand}{t b T:Nat}{cs cs' cs2:Array Value}(F:Has N D a L)(B:Bk w S)(i off:Nat)(hp:∀w2,w2=w.setCells b off cs'.toList->w2.heap[b]?=some (.cells cs2 T (0,0)))(ho:o.op = .store t x y:=by rfl)(hx:opv L x=some (.pointer (some ⟨b,off,none⟩)):=by rfl)(hy:opv L y=some (.agg cs'):=by rfl)(hi:nth S i=some (.q b cs T):=by rfl)(hz:off+cs'.size<=cs.size:=by simp)(hu:upf S i (.q b cs2 T)=some S':=by rfl)(h0:delf S i=some S0:=by rfl)(hs:Z4x P t cs'.size=true:=by kernel_rfl)(h1:cs'.all (·.oneCell')=true:=by exact one1)(hn:NeA b T S0:=by exact nea)(hd:o.dst=none:=by rfl)(hw:Z0j L ops o=some true:=by rfl)(h:∀{w2},Bk w2 S'->wpList P ops Q rest a w2): wpList P ops Q (o::rest) a w:=by
 have q:=B.get hi;refine Z0T hd (F.want hw) (Zb6 ho (F.op hx) (F.op hy) (Z1H hs) h1 q hz) λw2 hw=>h ?_;exact Bk.up (g:=.q b cs2 T) (hp w2 hw) hu λL0 h2=>by
  rw[h0]at h2
  cases h2
  exact Bk.cells hw q (B.del h0) hn
variable{md:Region.Mode}{T:World->Prop}{stop:Option Nat}{fuel:Nat}{listed:Array Bool}{K:Act->World->Prop}
def opAt(ops:Array Oper)(i:Nat):Oper:=match ops[i]? with
 | some o=>o
 | none=>{ dst:=none,op:=.move (.const (.bool true)),type:=0,pos:= "",after:=#[],guard:=none }
theorem Z0B{i:Nat}(h:(ops[i]?).isSome=true): ops[i]?=some (opAt ops i):=by
 unfold opAt
 cases hq:ops[i]? with
 | none=>rw[hq]at h;cases h
 | some o=>rfl
theorem wD{id:Nat}{l:List Oper}(X:List Nat)(stop:Option Nat)(B:Bk w S)(h:∀{W:World},Bk W (.e X w::S)->Zq P .any l.toArray Q (Ext X w) stop l.toArray.size (Array.replicate l.toArray.size false) a W)(hm:P.follows .mixedOrders=true:=by exact follows): (Code.region id l.toArray true).wp P Q a w:=Z7r (Ext X w) stop hm λW hh eh=>h ⟨eh.mono (by simp),B.ex eh⟩
theorem aD(hr:Region.ready md ops listed=[]:=by kernel_rfl)(h:Q .normal a w):Zq P md ops Q T stop fuel listed a w:=Z6F hr h fuel
theorem aO(i:Nat)(hr:Region.ready md ops listed=[i]:=by kernel_rfl)(h:wpOp P ops Q i (λa' w'=>(held stop (listed.setIfInBounds i true)=true->T w')/\Zq P md ops Q T stop fuel (listed.setIfInBounds i true) a' w') a w):Zq P md ops Q T stop (fuel+1) listed a w:=ZN hr h
theorem Has.z(F:Has N D a L)(i:Nat)(hT:held stop listed=true->T w)(hr:∀{w},(execOp a.eval (opAt ops i)).run P w = .ok (.value v) w)(hi:(ops[i]?).isSome=true:=by rfl)(hd:(opAt ops i).dst=some d:=by rfl)(hN:d<N:=by decide)(hk:Z4t md ops stop false listed i=true:=by kernel_rfl)(hQ:∀c a w,Q (.panic c) (a.put (opAt ops i).dst v) w->Q (.panic c) a w:=by exact λ_ _ _ h=>h)(hw:Z0j L ops (opAt ops i)=some true:=by rfl)(h:∀{a2},Has N D a2 ((d,v)::L)->Zq P md ops Q T stop fuel (listed.setIfInBounds i true) a2 w):Zq P md ops Q T stop (fuel+1) listed a w:=
 Zgj F (Z0B hi) hd hN hk hQ (F.want hw) (λw=>hr) hT λ_ F=>h F
theorem Has.zr(F:Has N D a L)(i:Nat)(hT:held stop listed=true->T w)(hr:∀{w},T w->(execOp a.eval (opAt ops i)).run P w = .ok (.value v) w)(hi:(ops[i]?).isSome=true:=by rfl)(hd:(opAt ops i).dst=some d:=by rfl)(hN:d<N:=by decide)(hk:Z4t md ops stop true listed i=true:=by kernel_rfl)(hQ:∀c a w,Q (.panic c) (a.put (opAt ops i).dst v) w->Q (.panic c) a w:=by exact λ_ _ _ h=>h)(hw:Z0j L ops (opAt ops i)=some true:=by rfl)(h:∀{a2},Has N D a2 ((d,v)::L)->Zq P md ops Q T stop fuel (listed.setIfInBounds i true) a2 w):Zq P md ops Q T stop (fuel+1) listed a w:=
 Zc9 F (Z0B hi) hd hN hk hQ (F.want hw) (λw h=>hr h) hT λ_ F=>h F
theorem Has.zR(F:Has N D a L)(i:Nat)(Z:List Nat)(hT:held stop listed=true->T w)(hr:∀{w},T w->(execOp a.eval (opAt ops i)).run P w = .ok (.value v) w)(hi:(ops[i]?).isSome=true:=by rfl)(hd:(opAt ops i).dst=some d:=by rfl)(hN:d<N:=by decide)(hk:Z9F md ops stop Z listed i=true:=by kernel_rfl)(hQ:∀c a w,Q (.panic c) (a.put (opAt ops i).dst v) w->Q (.panic c) a w:=by exact λ_ _ _ h=>h)(hw:Z0j L ops (opAt ops i)=some true:=by rfl)(h:∀{a2},Has N D a2 ((d,v)::L)->Zq P md ops Q T stop fuel (listed.setIfInBounds i true) a2 w):Zq P md ops Q T stop (fuel+1) listed a w:=
 F.xr2 Z (Z0B hi) (λw h=>hr h) hT (λ_ F=>h F) hd hN hk hQ (F.want hw)
theorem Has.ok{i:Nat}{f:FuncId}{l:List Operand}{ts:Array TypeId}{vs:List Value}{R:Ending->World->Prop}(F:Has N D a L)(hc:Calls P f vs.toArray w R)(hi:(ops[i]?).isSome=true:=by rfl)(C:Z80 P f=true:=by kernel_rfl)(ho:(opAt ops i).op = .call {callee:=.value (.func f),args:=l.toArray,argTypes:=ts}:=by rfl)(ha:opvs L l=some vs:=by rfl)(hd:(opAt ops i).dst=some d:=by rfl)(hN:d<N:=by decide)(hw:Z0j L ops (opAt ops i)=some true:=by rfl)(h:∀e w',R e w'->∃v,e = .returned v/\∀{a2},Has N D a2 ((d,v)::L)->K a2 w'): wpOp P ops Q i K a w:=Z0C F (Z0B hi) hd hN (F.want hw) (F.rc C ho ha) hc λe w' hR=>by
 obtain⟨v,h1,h2⟩:=h e w' hR;exact⟨v,h1,λ_ F=>h2 F⟩
theorem Has.ok0{i:Nat}{f:FuncId}{l:List Operand}{ts:Array TypeId}{vs:List Value}(F:Has N D a L)(B:Bk w S)(hc:Calls P f vs.toArray w λe w'=>e = .returned v/\Ext [] w w')(hi:(ops[i]?).isSome=true:=by rfl)(C:Z80 P f=true:=by kernel_rfl)(ho:(opAt ops i).op = .call {callee:=.value (.func f),args:=l.toArray,argTypes:=ts}:=by rfl)(ha:opvs L l=some vs:=by rfl)(hd:(opAt ops i).dst=some d:=by rfl)(hN:d<N:=by decide)(hw:Z0j L ops (opAt ops i)=some true:=by rfl)(h:∀{w' a2},Has N D a2 ((d,v)::L)->Bk w' S->K a2 w'): wpOp P ops Q i K a w:=F.ok hc hi C ho ha hd hN hw λe w' hR=>⟨v,hR.1,λF=>h F (B.ex hR.2)⟩
theorem Has.oa{i:Nat}{T:TypeId}{z:Value}{cs:Array Value}(F:Has N D a L)(B:Bk w S)(hz:∀w,(zeroValue T).run P w = .ok z w)(hi:(ops[i]?).isSome=true:=by rfl)(ho:(opAt ops i).op = .alloc T:=by rfl)(hd:(opAt ops i).dst=some d:=by rfl)(hN:d<N:=by decide)(hw:Z0j L ops (opAt ops i)=some true:=by rfl)(hv:boxO z=some cs:=by rfl)(h:∀{n w2 a2},LtA n S->Has N D a2 ((d,.pointer (some ⟨n,0,none⟩))::L)->Bk w2 (.q n cs T::S)->K a2 w2): wpOp P ops Q i K a w:=by
 obtain rfl:=Z9Z hv;exact Z06 F (Z0B hi) hd hN (F.want hw) (Ze ho hz) λ_ _ F hw=>h (B.lt rfl) F ⟨ZU hw rfl,B.al hw⟩
theorem Has.ob{i:Nat}{T:TypeId}{x:Operand}{cs:Array Value}(F:Has N D a L)(B:Bk w S)(hi:(ops[i]?).isSome=true:=by rfl)(ho:(opAt ops i).op = .box T x:=by rfl)(hx:opv L x=some v:=by rfl)(hv:boxO v=some cs:=by rfl)(hd:(opAt ops i).dst=some d:=by rfl)(hN:d<N:=by decide)(hw:Z0j L ops (opAt ops i)=some true:=by rfl)(h:∀{n w2 a2},LtA n S->Has N D a2 ((d,.pointer (some ⟨n,0,none⟩))::L)->Bk w2 (.q n cs T::S)->K a2 w2): wpOp P ops Q i K a w:=by
 obtain rfl:=Z9Z hv;exact Z06 F (Z0B hi) hd hN (F.want hw) (Z1B ho (F.op hx)) λ_ _ F hw=>h (B.lt rfl) F ⟨ZU hw rfl,B.al hw⟩
theorem Has.obs{i:Nat}{t e n:Nat}{l:List (Nat×Operand)}{vs:List (Nat×Value)}{z:Value}(F:Has N D a L)(B:Bk w S)(size:Nat)(cells:Array Value)(hz:∀w,(zeroValue e).run P w = .ok z w)(hi:(ops[i]?).isSome=true:=by rfl)(ho:(opAt ops i).op = .buildSlice t n l.toArray:=by rfl)(hp:opvp L l=some vs:=by rfl)(hk:Z8t P t e size=true:=by kernel_rfl)(hn:n*size<=2 ^ 24:=by decide)(hn0:n*size≠0:=by decide)(hf:Instr.fill (λi=>some (i*size,size)) ((Array.range (n*size)).map (z.cells[· % z.cells.size]!)) vs=some cells:=by kernel_rfl)(hd:(opAt ops i).dst=some d:=by rfl)(hN:d<N:=by decide)(hw:Z0j L ops (opAt ops i)=some true:=by rfl)(h:∀{k w2 a2},LtA k S->Has N D a2 ((d,.slice (some ⟨k,0,none⟩) n n)::L)->Bk w2 (.q k cells e::S)->K a2 w2): wpOp P ops Q i K a w:=
 Z06 F (Z0B hi) hd hN (F.want hw) (F.bS cells hz ho hp hk hn hn0 hf) λ_ _ F hw=>h (B.lt rfl) F ⟨ZU hw rfl,B.al hw⟩
theorem Has.os{i':Nat}{x y:Operand}{t b T: Nat}{cs cs':Array Value}(F:Has N D a L)(B:Bk w S)(i:Nat)(hj:(ops[i']?).isSome=true:=by rfl)(ho:(opAt ops i').op = .store t x y:=by rfl)(hx:opv L x=some (.pointer (some ⟨b,off,none⟩)):=by rfl)(hy:opv L y=some v:=by rfl)(hi:nth S i=some (.q b cs T):=by rfl)(hc:setA cs off v=some cs':=by rfl)(hu:upf S i (.q b cs' T)=some S':=by rfl)(h0:delf S i=some S0:=by rfl)(h1:v.oneCell'=true:=by rfl)(hs:Z4x P t 1=true:=by kernel_rfl)(hn:NeA b T S0:=by exact nea)(hd:(opAt ops i').dst=none:=by rfl)(hw:Z0j L ops (opAt ops i')=some true:=by rfl)(h:∀{w2},Bk w2 S'->K a w2): wpOp P ops Q i' K a w:=by
 obtain⟨hc1,u,hc2⟩:=ZdR hc;have q:=B.get hi;refine ZdB (Z0B hj) hd (F.want hw) (Z05 ho (F.op hx) (F.op hy) h1 (Z1H hs) ((Z1 q off).trans hc2) (Zd q off)) λw2 hw=>h ?_;exact Bk.up (g:=.q b cs' T) (ZG hw q hc1) hu λL0 h2=>by
  rw[h0]at h2
  cases h2
  exact Bk.cell hw q (B.del h0) hn
theorem Has.or{i':Nat}{x y:Operand}{t b T:Nat}{cs cs':Array Value}(F:Has N D a L)(B:Bk w S)(i:Nat)(hj:(ops[i']?).isSome=true:=by rfl)(ho:(opAt ops i').op = .store t x y:=by rfl)(hx:opv L x=some (.pointer (some ⟨b,0,none⟩)):=by rfl)(hy:opv L y=some (.agg cs'):=by rfl)(hi:nth S i=some (.q b cs T):=by rfl)(hz:cs.size=cs'.size:=by rfl)(hu:upf S i (.q b cs' T)=some S':=by rfl)(h0:delf S i=some S0:=by rfl)(hs:Z4x P t cs'.size=true:=by kernel_rfl)(h1:cs'.all (·.oneCell')=true:=by exact one1)(hn:NeA b T S0:=by exact nea)(hd:(opAt ops i').dst=none:=by rfl)(hw:Z0j L ops (opAt ops i')=some true:=by rfl)(h:∀{w2},Bk w2 S'->K a w2): wpOp P ops Q i' K a w:=by
 have q:=B.get hi;refine ZdB (Z0B hj) hd (F.want hw) (ZW ho (F.op hx) (F.op hy) (Z1H hs) h1 q hz) λw2 hw=>h ?_;exact Bk.up (g:=.q b cs' T) (Z0I hw q hz) hu λL0 h2=>by
  rw[h0]at h2
  cases h2
  exact Bk.cells hw q (B.del h0) hn
end
end
section
open Go.RowKit
variable{μ:Nat}
theorem Zdh(w0 w:World)(b k:Nat)(nv:Value)(h:Zm w0 w b k nv)(hk:k<=1000000):
  Calls (Qy.prog μ) 81 #[.pointer (some ⟨b,0,none⟩)] w λe w'=>∃v:Int,e = .returned (.int .u64 v)/\0<=v/\v<72057594037927936/\Zm w0 w' b (k+1) nv/\Ext [b] w w':=by
 obtain⟨hb,⟨na,nc,xs,rfl,hn⟩,E0,d,st,q,hd0,hdk,hs0,hs1⟩:=h;obtain⟨d,rfl⟩:=Int.eq_ofNat_of_zero_le hd0;have E:Ext [b] w w:=Ext.refl _ _;have HS:=Lib.hid (Z11 (X:=[b]) hn (λW e=>hn.ext e (by simp;omega)) 0);have G:=(Bk.nil w).ce E;replace G:=(G.ce E0).cq q;refine(ent 67 Tryz.f81 rfl) λF=>wR λk1=>(F.m) λF=>k1<|wR λk2=>(F.m) λF=>(F.m) λF=>(F.y F.nc) λF=>(F.y (F.fd 2)) λF=>(F.y (F.lc (G.q 0))) λF=>?_
 refine(F.y ((Z9R rfl (F.at rfl) (ev_c _ _)))) λF=>?_;refine(F.y ((Z54 rfl (F.at rfl) (ev_c _ _)))) λF=>?_;obtain⟨s1,hs1'⟩:∃s1,s1=IntKind.u64.wrap (IntKind.u64.wrap (st*6364136223846793005)+1442695040888963407):=⟨_,rfl⟩;have hw1:=Z4Y (IntKind.u64.wrap (st*6364136223846793005)+1442695040888963407);rw[<-hs1']at F hw1;refine(F.y F.nc) λF=>(F.y (F.fd 2)) λF=>(F.st G 0) λG=>k2<|wQ λk3=>wQ λk4=>(wX 9 G) λG=>(F.sm) λF=>(F.s F.nc) λF=>(F.s (F.fd 1)) λF=>(F.s (F.lc (G.q 0))) λF=>(F.sm) λF=>(F.s F.nc) λF=>(F.s (F.fd 0)) λF=>(F.s (F.lc (G.q 0))) λF=>(F.s F.ln) λF=>wpStill_nil<|(F.y F.ls) λF=>k4<|F.ci (λhc22=>?_) (λhc22=>?_)
 ·have hdx:d<xs.length:=by omega
  refine(wX 20 G) λG=>(F.sm) λF=>(F.sm) λF=>(F.s F.nc) λF=>(F.s (F.fd 2)) λF=>(F.s (F.lc (G.q 0))) λF=>(F.sm) λF=>(F.s F.nc) λF=>(F.s (F.fd 0)) λF=>(F.s (F.lc (G.q 0))) λF=>(F.sm) λF=>(F.s F.nc) λF=>(F.s (F.fd 1)) λF=>(F.s (F.lc (G.q 0))) λF=>(F.sx HS.out d) λxr5 F=>(F.s (F.l1 (xr5 _ (G.e 1)) 0)) λF=>?_;refine(F.s ((Z3q rfl (F.at rfl) Qy.underlying3 Qy.underlying75))) λF=>?_;refine(F.s ((Z9R rfl (F.at rfl) (ev_c _ _)))) λF=>?_;refine(F.s ((Z54 rfl (F.at rfl) (F.at rfl)))) λF=>(F.s F.nc) λF=>(F.s (F.fd 2)) λF=>wpStill_nil<|(F.st G 0) λG=>?_
  obtain⟨s2,hs2'⟩:∃s2,s2=IntKind.u64.wrap (s1+IntKind.u64.wrap (IntKind.u64.wrap (xs.getD d 0)*2862933555777941757)):=⟨_,rfl⟩;replace hw1:=Z4Y (s1+IntKind.u64.wrap (IntKind.u64.wrap (xs.getD d 0)*2862933555777941757));have q:=G.q 0;rw[<-hs2']at q hw1;replace G:=G.rQ 0 q;clear q;refine k3<|wR λk6=>(F.m) λF=>(F.y F.nc) λF=>(F.y (F.fd 1)) λF=>(F.y (F.lc (G.q 0))) λF=>(F.y F.ad) λF=>(F.y F.nc) λF=>(F.y (F.fd 1)) λF=>(F.st G 0) λG=>k6<|wQ λk7=>(wX 10 G) λG=>(F.sm) λF=>(F.s F.nc) λF=>(F.s (F.fd 2)) λF=>(F.s (F.lc (G.q 0))) λF=>(F.sm) λF=>(F.s F.nc) λF=>(F.s (F.fd 2)) λF=>?_
  refine(F.s (F.lc (G.q 0))) λF=>?_;refine(F.s ((Z8P (m:=29) rfl (F.at rfl) (ev_c _ _)))) λF=>?_;refine(F.s ((Zew rfl (F.at rfl) (F.at rfl)))) λF=>wpStill_nil<|(F.m) λF=>k7<|wQ λk8=>?_
  replace F:=F.b [3];refine Yg<|(F.m) λF=>?_
  refine(F.y ((Z9R rfl (F.at rfl) (ev_c _ _)))) λF=>?_;obtain⟨s3,hs3'⟩:∃s3,s3=IntKind.u64.wrap (bits .xor .u64 s2 (s2.fdiv (2 ^ min 29 IntKind.u64.bits))*2685821657736338717):=⟨_,rfl⟩;have hw3:=Z4Y (bits .xor .u64 s2 (s2.fdiv (2 ^ min 29 IntKind.u64.bits))*2685821657736338717);rw[<-hs3']at F hw3;refine(F.m) λF=>k8<|wR λk9=>(F.m) λF=>(F.m) λF=>?_
  refine(F.y ((Z8P (m:=32) rfl (F.at rfl) (ev_c _ _)))) λF=>?_;refine(F.y ((Zew rfl (F.at rfl) (F.at rfl)))) λF=>?_;refine(F.y ((Z8P (m:=8) rfl (F.at rfl) (ev_c _ _)))) λF=>(F.m) λF=>k9<|(F.r1) ?_
  have hf:=Zad s3 (min 32 IntKind.u64.bits) hw3.1;have hx:=Zeo s3 (s3.fdiv (2 ^ min 32 IntKind.u64.bits)) hw3 ⟨hf.1,by omega⟩;exact⟨_,rfl,(shr8 hx).1,(shr8 hx).2,⟨hb,⟨na,nc,xs,rfl,hn⟩,(G.e 1),_,s2,(G.q 0),by omega,by omega,hw1.1,hw1.2⟩,(G.e 2)⟩
 ·obtain⟨s2,hs2'⟩:∃s2,s2=s1:=⟨_,rfl⟩
  have q:=G.q 0;rw[<-hs2']at q hw1;replace G:=G.rQ 0 q;clear q;refine Yi<|k3<|wR λk10=>(F.m) λF=>(F.y F.nc) λF=>(F.y (F.fd 1)) λF=>(F.y (F.lc (G.q 0))) λF=>(F.y F.ad) λF=>(F.y F.nc) λF=>(F.y (F.fd 1)) λF=>(F.st G 0) λG=>k10<|wQ λk11=>(wX 10 G) λG=>(F.sm) λF=>(F.s F.nc) λF=>(F.s (F.fd 2)) λF=>(F.s (F.lc (G.q 0))) λF=>(F.sm) λF=>(F.s F.nc) λF=>(F.s (F.fd 2)) λF=>?_
  refine(F.s (F.lc (G.q 0))) λF=>?_;refine(F.s ((Z8P (m:=29) rfl (F.at rfl) (ev_c _ _)))) λF=>?_;refine(F.s ((Zew rfl (F.at rfl) (F.at rfl)))) λF=>wpStill_nil<|(F.m) λF=>k11<|wR λk12=>(F.m) λF=>?_
  refine(F.y ((Z9R rfl (F.at rfl) (ev_c _ _)))) λF=>?_;obtain⟨s3,hs3'⟩:∃s3,s3=IntKind.u64.wrap (bits .xor .u64 s2 (s2.fdiv (2 ^ min 29 IntKind.u64.bits))*2685821657736338717):=⟨_,rfl⟩;have hw3:=Z4Y (bits .xor .u64 s2 (s2.fdiv (2 ^ min 29 IntKind.u64.bits))*2685821657736338717);rw[<-hs3']at F hw3;refine(F.m) λF=>k12<|wR λk13=>(F.m) λF=>(F.m) λF=>?_
  refine(F.y ((Z8P (m:=32) rfl (F.at rfl) (ev_c _ _)))) λF=>?_;refine(F.y ((Zew rfl (F.at rfl) (F.at rfl)))) λF=>?_;refine(F.y ((Z8P (m:=8) rfl (F.at rfl) (ev_c _ _)))) λF=>(F.m) λF=>k13<|(F.r1) ?_
  have hf:=Zad s3 (min 32 IntKind.u64.bits) hw3.1;have hx:=Zeo s3 (s3.fdiv (2 ^ min 32 IntKind.u64.bits)) hw3 ⟨hf.1,by omega⟩;exact⟨_,rfl,(shr8 hx).1,(shr8 hx).2,⟨hb,⟨na,nc,xs,rfl,hn⟩,(G.e 1),_,s2,(G.q 0),by omega,by omega,hw1.1,hw1.2⟩,(G.e 2)⟩
theorem Z0K(w0 w:World)(b k:Nat)(nv:Value)(n:Int)(h:Zm w0 w b k nv)(hk:k<=1000000)(h0:-1000000<=n)(hn:n<=1000000):
  Calls (Qy.prog μ) 31 #[.pointer (some ⟨b,0,none⟩),.int .i64 n] w λe w'=>∃v:Int,e = .returned (.int .i64 v)/\0<=v/\v<=max n 0/\Zm w0 w' b (k+1) nv/\Ext [b] w w':=by
 have E:Ext [b] w w:=Ext.refl _ _;have HL:=h;clear h;have G:=((Bk.nil w).cl HL).ce E;refine(ent 14 Tryz.f31 rfl) λF=>wR λk1=>(F.m) λF=>k1<|wQ λk2=>wR λk3=>(F.m) λF=>(F.y F.ls) λF=>k3<|F.ci (λhc6=>?_) (λhc6=>?_)
 ·refine wR λk4=>(F.m) λF=>k4<|(F.r1) ?_
  exact⟨0,rfl,by omega,by omega,ZA (G.l 1) (by omega),(G.e 0)⟩
 ·refine Yi<|k2<|wR λk5=>(F.m) λF=>(F.k (Zdh w0 _ b k nv (G.l 1) hk)) ?_
  rintro _ w1 ⟨v,rfl,hv1,hv2,HL,e1⟩;refine⟨_,rfl,λF=>?_⟩;replace G:=G.xl 1 e1 HL;have hu:=Zg6 (n:=n) ⟨hv1,hv2⟩ ⟨by omega,hn⟩;refine(F.m) λF=>(F.y F.ad) λF=>?_;refine(F.y ((Z3q rfl (F.at rfl) Qy.underlying3 Qy.underlying75))) λF=>?_;rw[hu.1]at F;refine(F.y ((Zjg rfl (F.at rfl) (F.at rfl) (by omega)))) λF=>?_;refine(F.y ((Z3q rfl (F.at rfl) Qy.underlying75 Qy.underlying3))) λF=>?_;rw[hu.2.1]at F;refine(F.m) λF=>k5<|(F.r1) ?_
  exact⟨_,rfl,hu.2.2.1,by omega,(G.l 1),(G.e 0)⟩
theorem Z8c(w0 w:World)(b k:Nat)(nv:Value)(lo hi:Int)(h:Zm w0 w b k nv)(hk:k<=1000000)(h1:-1000<=lo)(h2:lo<=1000)(h3:-1000<=hi)(h4:hi<=1000):
  Calls (Qy.prog μ) 59 #[.pointer (some ⟨b,0,none⟩),.int .i64 lo,.int .i64 hi] w λe w'=>∃v:Int,e = .returned (.int .i64 v)/\lo<=v/\v<=max lo hi/\Zm w0 w' b (k+1) nv/\Ext [b] w w':=by
 have E:Ext [b] w w:=Ext.refl _ _;have HL:=h;clear h;have G:=((Bk.nil w).cl HL).ce E;refine(ent 14 Tryz.f59 rfl) λF=>wR λk1=>(F.m) λF=>k1<|wR λk2=>(F.m) λF=>(F.m) λF=>(F.m) λF=>(F.m) λF=>(F.y F.sb) λF=>(F.k (Z0K w0 _ b k nv (hi-lo) (G.l 1) hk (by omega) (by omega))) ?_
 rintro _ w1 ⟨v,rfl,hv1,hv2,HL,e1⟩;refine⟨_,rfl,λF=>?_⟩;replace G:=G.xl 1 e1 HL;refine(F.y F.ad) λF=>(F.m) λF=>k2<|(F.r1) ?_
 exact⟨_,rfl,by omega,by omega,(G.l 1),(G.e 0)⟩
theorem Zdv(w0 w:World)(b k:Nat)(nv:Value)(g:Nat)(T:TypeId)(xs:List Int)(h:Zm w0 w b k nv)(hk:k<=1000000)(hg:w.heap[g]?=some (.cells (xs.map (Value.int .i64)).toArray T (0,0)))(hgb:g≠b)(hx:0<xs.length)(hx2:xs.length<=1000):
  Calls (Qy.prog μ) 60 #[.pointer (some ⟨b,0,none⟩),.slice (some ⟨g,0,none⟩) xs.length xs.length] w λe w'=>∃v:Int,e = .returned (.int .i64 v)/\v∈xs/\Zm w0 w' b (k+1) nv/\Ext [b] w w':=by
 have E:Ext [b] w w:=Ext.refl _ _;have HL:=h;clear h;have HG:Hid (∀W,Ext [b] w W->Z8 W (.slice (some ⟨g,0,none⟩) xs.length xs.length) 1 (xs.map Z7)):=λW e=>Z01 xs xs.length (e.keep hg (by simp[hgb]));have HS:=Lib.hid (Z11 (X:=[b]) (HG.out _ E) (λW e=>HG.out _ e) 0);clear hg;have G:=((Bk.nil w).cl HL).ce E;refine(ent 13 Tryz.f60 rfl) λF=>wR λk1=>(F.m) λF=>k1<|wR λk2=>(F.m) λF=>(F.m) λF=>(F.m) λF=>(F.y F.ln) λF=>(F.y F.sb) λF=>(F.k (Z0K w0 _ b k nv ((xs.length:Int)-1) (G.l 1) hk (by omega) (by omega))) ?_
 rintro _ w1 ⟨v,rfl,hv1,hv2,HL,e1⟩;refine⟨_,rfl,λF=>?_⟩;replace G:=G.xl 1 e1 HL;obtain⟨i,rfl⟩:=Int.eq_ofNat_of_zero_le hv1;have hil:i<xs.length:=by omega
 refine(F.ix HS.out i) λxr3 F=>(F.y (F.l1 (xr3 _ (G.e 0)) 0)) λF=>(F.m) λF=>k2<|(F.r1) ?_
 exact⟨_,rfl,Zb 0 hil,(G.l 1),(G.e 0)⟩
theorem Z7p(w0 w:World)(b k:Nat)(nv:Value)(n:Int)(h:Zm w0 w b k nv)(hk:k<=1000000)(h0:1<=n)(hn:n<=1000000):
  Calls (Qy.prog μ) 69 #[.pointer (some ⟨b,0,none⟩),.int .i64 n] w λe w'=>∃r,e = .returned (.bool r)/\Zm w0 w' b (k+1) nv/\Ext [b] w w':=by
 have E:Ext [b] w w:=Ext.refl _ _;have G:=(Bk.nil w).ce E;refine(ent 10 Tryz.f69 rfl) λF=>wR λk1=>(F.m) λF=>k1<|wR λk2=>(F.m) λF=>(F.m) λF=>(F.y F.sb) λF=>(F.k (Z0K w0 _ b k nv (n-1) h hk (by omega) (by omega))) ?_
 rintro _ w1 ⟨v,rfl,hv0,hv1,HL,e1⟩;refine⟨_,rfl,λF=>?_⟩;replace G:=G.x e1;refine(F.y F.eq) λF=>(F.m) λF=>k2<|(F.r1) ?_
 exact⟨_,rfl,HL,(G.e 0)⟩
theorem Z9p(w:World)(a:Option Addr)(n c:Nat)(zs:List Int)(h:Zb1 .i64 w a n c zs):
  Calls (Qy.prog μ) 12 #[.slice a n c] w λe w'=>∃b,e = .returned (.pointer (some ⟨b,0,none⟩))/\w.heap.size<=b/\b<w'.heap.size/\Zm w w' b 0 (.slice a n c)/\Ext [] w w':=by
 obtain⟨xs,hxl,hr⟩:=Z7s h;subst hxl;have E:Ext [] w w:=Ext.refl _ _;have G:=(Bk.nil w).ce E;refine(ent 6 Tryz.f12 rfl) λF=>wR λk1=>(F.m) λF=>k1<|wR λk2=>(F.m) λF=>(F.y (F.bv #[.slice a xs.length c,.int .i64 0,.int .u64 1])) λF=>(F.bx G) @λn5 w1 _ yy F G=>(F.m) λF=>k2<|(F.r1) ?_
 exact⟨n5,rfl,yy.1,Z3 (G.q 0),⟨yy.1,⟨a,c,xs,rfl,hr⟩,(G.e 1).mono (λ_ h=>absurd h (by simp)),0,1,(G.q 0),by omega,by omega,by omega,by omega⟩,(G.e 1)⟩
variable{μ:Nat}
theorem ZaH{w': World}{sz n:Nat}{row:Nat->List Value}(h:SlAt [] w a sz n row)(e:Ext [] w w'): SlAt [] w' a sz n row:=λi hi=>by
 obtain⟨xb,xo,h1,h2⟩:=h i hi;exact⟨xb,xo,h1,λW hW=>h2 W (e.nil hW)⟩
def Z0M(w:World)(a:Option Addr)(L:List (Value×List Int)):Prop:=SlAt [] w a 1 L.length (λi=>[(L.getD i (.bool true,[])).1])/\∀p∈L,Z4v w p.1 p.2
theorem Z0M.ext{w W:World}{a:Option Addr}{L:List (Value×List Int)}(h:Z0M w a L)(e:Ext [] w W):Z0M W a L:=⟨ZaH h.1 e,λp hp=>(h.2 p hp).ext e⟩
theorem Z0c(xs ys:List Int)(a b:Option Addr)(ca cb:Nat)(w:World)(hx:Z8 w (.slice a xs.length ca) 1 (xs.map Z7))(hy:Z8 w (.slice b ys.length cb) 1 (ys.map Z7))(h1:xs.length<=1000000)(h2:ys.length<=1000000):
  Calls (Qy.prog μ) 16 #[.slice a xs.length ca,.slice b ys.length cb] w λe w'=>e = .returned (.bool (decide (xs=ys)))/\Ext [] w w':=by
 have HS:=Lib.hid (Zj hx 0);have HU:=Lib.hid (Zj hy 0);have E:Ext [] w w:=Ext.refl _ _;clear hx hy;have G:=(Bk.nil w).ce E;refine(ent 26 Tryz.f16 rfl) λF=>wR λk1=>(F.m) λF=>k1<|wQ λk2=>wR λk3=>(F.m) λF=>(F.y F.ln) λF=>(F.m) λF=>(F.y F.ln) λF=>(F.y F.ne) λF=>k3<|F.ci (λhc10=>?_) (λhc10=>?_)
 ·refine wR λk4=>(F.m) λF=>k4<|(F.r1) ?_
  exact⟨Z0Z (decide_eq_false λh=>by rw[h]at hc10;omega).symm,(G.e 0)⟩
 ·refine Yi<|k2<|wQ λk5=>wR λk6=>(F.m) λF=>k6<|Yh<|lpB (F.b [0,1]) G (xs.length) (λi Lv Sv W=>Lv=[(5,.int .i64 ((i:Nat):Int))]/\Sv=[]/\∀j,j<i->xs.getD j 0=ys.getD j 0) ⟨_,_,F.u,G.u,rfl,rfl,λj hj=>absurd hj (by omega)⟩ ?_
  clear F G;rintro i _ w1 _ _ hi1 ⟨rfl,rfl,hb⟩ F G;replace G:=G.z;refine wQ λk7=>wR λk8=>(F.m) λF=>(F.m) λF=>(F.y F.ln) λF=>(F.y F.ls) λF=>k8<|F.ci (λhc14=>?_) (λhc14=>?_)
  ·refine Yi<|k7<|wQ λk9=>Yh<|wQ λk10=>(wX 8 G) λG=>(F.sm) λF=>(F.sm) λF=>(F.sx HS.out i) λxr11 F=>(F.s (F.l1 (xr11 _ (G.e 0)) 0)) λF=>(F.sm) λF=>(F.sm) λF=>(F.sx HU.out i) λxr12 F=>(F.s (F.l1 (xr12 _ (G.e 0)) 0)) λF=>wpStill_nil<|(F.y F.ne) λF=>k10<|F.ci (λhc25=>?_) (λhc25=>?_)
   ·refine wR λk13=>(F.m) λF=>k13<|(F.r1) ?_
    exact⟨Z0Z (decide_eq_false λh=>hc25 (by rw[h])).symm,(G.e 0)⟩
   ·refine Yi<|k9<|Yg<|(F.m) λF=>(F.y F.ad) λF=>(F.m) λF=>?_
    show _/\_;exact⟨by omega,_,_,F.u,G.u,rfl,rfl,λj hj=>if e:j=i then e▸(by simpa using hc25) else hb j (by omega)⟩
  ·refine wp_exit<|k5<|wR λk14=>(F.m) λF=>k14<|(F.r1) ?_
   exact⟨Z0Z (decide_eq_true (List.ext_getElem (by omega) λj h1 h2=>by have:=hb j (by omega);simpa[h1,h2] using this)).symm,(G.e 0)⟩
variable{μ:Nat}
structure Vm where
 B:Int
 D:List (Value×List Int)
 da:Option Addr
 dc:Nat
 L:List (Value×List Int)
 la:Option Addr
 lc:Nat
 tol:Int
structure Vm.At(x:Vm)(w:World):Prop where
 d:Z0M w x.da x.D
 l:Z0M w x.la x.L
theorem Vm.At.ext{x:Vm}{w W:World}(h:x.At w)(e:Ext [] w W):x.At W:=⟨h.d.ext e,h.l.ext e⟩
def Z9S(L:List (Value×List Int)):Prop:=L.length<=1000/\∀p∈L,p.2.length<=1000
def outB(n lo hi:Int):Bool:=decide (n<lo)||decide (hi<n)
theorem Z1g{n lo hi:Int}: outB n lo hi=false↔lo<=n/\n<=hi:=by
 simp only[outB,Bool.or_eq_false_iff,decide_eq_false_iff_not];omega
def sizE(n most:Int):Int:=if n=0 then 7 else if most<n then 6 else 0
def numE(l:List Int)(many hi:Int):Int:=if (l.length:Int)≠many then 9 else if l.all (λn=>!outB n 0 hi) then 0 else 1
def numS(l:List Int)(many hi:Int):Int:=if numE l many hi=0 then l.sum else 0
theorem Z0r(n lo hi:Int)(w:World):Calls (Qy.prog μ) 92 #[.int .i64 n,.int .i64 lo,.int .i64 hi] w λe w'=>e = .returned (.bool (outB n lo hi))/\Ext [] w w':=by
 have E:Ext [] w w:=Ext.refl _ _;have hl:outB n lo hi=(decide (n<lo)||decide (hi<n)):=rfl;have G:=(Bk.nil w).ce E;refine(ent 15 Tryz.f92 rfl) λF=>wR λk1=>(F.m) λF=>k1<|wQ λk2=>?_
 by_cases c1:n<lo
 ·refine Yg<|(F.m) λF=>(F.m) λF=>(F.y F.lsT) λF=>(F.m) λF=>(F.n) λF=>(F.n) λF=>(F.n) λF=>(F.y F.pT) λF=>(F.m) λF=>?_
  rw[decide_eq_true c1,Bool.true_or]at hl;refine k2<|(F.r1) ?_
  exact⟨congrArg (λx=>Ending.returned (Value.bool x)) hl.symm,(G.e 0)⟩
 ·by_cases c2:hi<n
  ·refine Yg<|(F.m) λF=>(F.m) λF=>(F.y F.lsF) λF=>(F.m) λF=>(F.m) λF=>(F.m) λF=>(F.y F.gtT) λF=>(F.y F.pF) λF=>(F.m) λF=>?_
   rw[decide_eq_true c2,Bool.or_true]at hl;refine k2<|(F.r1) ?_
   exact⟨congrArg (λx=>Ending.returned (Value.bool x)) hl.symm,(G.e 0)⟩
  ·refine Yg<|(F.m) λF=>(F.m) λF=>(F.y F.lsF) λF=>(F.m) λF=>(F.m) λF=>(F.m) λF=>(F.y F.gtF) λF=>(F.y F.pF) λF=>(F.m) λF=>?_
   rw[decide_eq_false c1,decide_eq_false c2]at hl;refine k2<|(F.r1) ?_
   exact⟨congrArg (λx=>Ending.returned (Value.bool x)) hl.symm,(G.e 0)⟩
theorem Z3Q(n m:Int)(w:World):Calls (Qy.prog μ) 93 #[.int .i64 n,.int .i64 m] w λe w'=>e = .returned (.int .i64 (sizE n m))/\Ext [] w w':=by
 have E:Ext [] w w:=Ext.refl _ _;have G:=(Bk.nil w).ce E;refine(ent 12 Tryz.f93 rfl) λF=>wR λk1=>(F.m) λF=>k1<|wQ λk2=>Yh<|wR λk3=>(F.m) λF=>(F.y F.eq) λF=>(F.m) λF=>k3<|F.ci (λhc5=>?_) (λhc5=>?_)
 ·refine wR λk4=>(F.m) λF=>k4<|(F.r1) ?_
  first | exact⟨Zo (by rw[sizE,if_pos (by omega)]),(G.e 0)⟩ | exact⟨Zo (by rw[sizE,if_neg (by omega),if_pos (by omega)]),(G.e 0)⟩ | exact⟨Zo (by rw[sizE,if_neg (by omega),if_neg (by omega)]),(G.e 0)⟩
 ·refine wR λk5=>(F.m) λF=>(F.m) λF=>(F.y F.gt) λF=>(F.m) λF=>k5<|F.ci (λhc8=>?_) (λhc8=>?_)
  ·refine wR λk6=>(F.m) λF=>k6<|(F.r1) ?_
   first | exact⟨Zo (by rw[sizE,if_pos (by omega)]),(G.e 0)⟩ | exact⟨Zo (by rw[sizE,if_neg (by omega),if_pos (by omega)]),(G.e 0)⟩ | exact⟨Zo (by rw[sizE,if_neg (by omega),if_neg (by omega)]),(G.e 0)⟩
  ·refine Yi<|k2<|wR λk7=>(F.m) λF=>k7<|(F.r1) ?_
   first | exact⟨Zo (by rw[sizE,if_pos (by omega)]),(G.e 0)⟩ | exact⟨Zo (by rw[sizE,if_neg (by omega),if_pos (by omega)]),(G.e 0)⟩ | exact⟨Zo (by rw[sizE,if_neg (by omega),if_neg (by omega)]),(G.e 0)⟩
theorem ZeA{hi:Int}{i:Nat}(h:∀j,j<i->outB (l.getD j 0) 0 hi=false)(hi':i=l.length): l.all (λn=>!outB n 0 hi)=true:=by
 rw[Yl];intro n hn;obtain⟨j,hj,rfl⟩:=List.getElem_of_mem hn;have:=h j (by omega);rw[Y7,List.getElem?_eq_getElem hj]at this;simp only[Option.getD_some]at this;rw[this];rfl
theorem Zhg{hi:Int}{i:Nat}(hil:i<l.length)(h:outB (l.getD i 0) 0 hi=true): l.all (λn=>!outB n 0 hi)=false:=by
 rw[List.all_eq_false];refine⟨l.getD i 0,Zb 0 hil,by rw[h];simp⟩
theorem Z3Y(l:List Int){i:Nat}(h:i<l.length): (l.take (i+1)).sum=(l.take i).sum+l.getD i 0:=by
 rw[List.take_add_one,List.getElem?_eq_getElem h,List.sum_append];simp[Y7,List.getElem?_eq_getElem h]
theorem Z3j(l:List Int)(many hi:Int)(a:Option Addr)(c:Nat)(w:World)(h:Z8 w (.slice a l.length c) 1 (l.map Z7))(hl:l.length<=1000)(hh:hi<=1000):
  Calls (Qy.prog μ) 94 #[.slice a l.length c,.int .i64 many,.int .i64 hi] w λe w'=>e = .returned (.tuple #[.int .i64 (numS l many hi),.int .i64 (numE l many hi)])/\Ext [] w w':=by
 have HS:=Lib.hid (Zj h 0);have E:Ext [] w w:=Ext.refl _ _;clear h;have G:=(Bk.nil w).ce E;refine(ent 29 Tryz.f94 rfl) λF=>wR λk1=>(F.m) λF=>(F.m) λF=>k1<|wQ λk2=>wR λk3=>(F.m) λF=>(F.y F.ln) λF=>(F.m) λF=>(F.y F.ne) λF=>k3<|F.ci (λhc14=>?_) (λhc14=>?_)
 ·refine wR λk4=>(F.m) λF=>(F.m) λF=>k4<|(F.r2) ?_
  have e:numE l many hi=9:=(by rw[numE,if_pos (by omega)]);exact⟨by rw[numS,e];rfl,(G.e 0)⟩
 ·refine Yi<|k2<|wR λk5=>(F.m) λF=>?_
  rw[show (0:Int)=(l.take 0).sum from rfl]at F;refine k5<|wQ λk6=>wR λk7=>(F.m) λF=>(F.y F.ln) λF=>(F.m) λF=>k7<|Yh<|lpB (F.b [2,15,16]) G (l.length) (λi Lv Sv W=>Lv=[(8,.int .i64 ((l.take i).sum)),(17,.int .i64 ((i:Nat):Int))]/\Sv=[]/\(∀j,j<i->outB (l.getD j 0) 0 hi=false)/\0<=(l.take i).sum/\(l.take i).sum<=1000*(i:Int)) ⟨_,_,F.u,G.u,rfl,rfl,(λj hj=>absurd hj (by omega)),(by simp),(by simp)⟩ ?_
  clear F G;rintro i _ w1 _ _ hi1 ⟨rfl,rfl,hb,hs0,hs1⟩ F G;replace G:=G.z;refine wR λk8=>(F.y F.ls) λF=>k8<|wQ λk9=>F.ci (λhc18=>?_) (λhc18=>?_)
  ·refine Yi<|k9<|wQ λk10=>Yh<|wR λk11=>(F.ix HS.out i) λxr12 F=>(F.y (F.l1 (xr12 _ (G.e 0)) 0)) λF=>(F.m) λF=>k11<|wQ λk13=>wR λk14=>(F.m) λF=>(F.m) λF=>(F.k0 G (Z0r (l.getD i 0) 0 hi _)) λF G=>k14<|F.cb (λhc23=>?_) (λhc23=>?_)
   ·have hyes:outB (l.getD i 0) 0 hi=true:=by simpa using hc23
    refine wR λk15=>(F.m) λF=>(F.m) λF=>k15<|(F.r2) ?_
    have e:numE l many hi=1:=(by rw[numE,if_neg (by omega),Zhg (by omega) hyes];rfl);exact⟨by rw[numS,e];rfl,(G.e 0)⟩
   ·have hno:outB (l.getD i 0) 0 hi=false:=by simpa using hc23
    obtain⟨hn1,hn2⟩:=Z1g.1 hno;refine Yi<|k13<|Yg<|(F.m) λF=>(F.m) λF=>(F.y F.ad) λF=>?_
    rw[<-Z3Y l (show i<l.length by omega)]at F;refine(F.m) λF=>k10<|Yg<|(F.y F.ad) λF=>(F.m) λF=>?_
    show _/\_;exact⟨by omega,_,_,F.u,G.u,rfl,rfl,(λj hj=>if e:j=i then e▸hno else hb j (by omega)),(by rw[Z3Y l (by omega)];omega),(by rw[Z3Y l (by omega)];omega)⟩
  ·refine wp_exit<|k6<|wR λk16=>(F.m) λF=>(F.m) λF=>(F.m) λF=>k16<|(F.r2) ?_
   have e:numE l many hi=0:=(by rw[numE,if_neg (by omega),ZeA hb (by omega)];rfl);exact⟨by rw[numS,e,if_pos rfl,List.take_of_length_le (by omega)],(G.e 0)⟩
variable{μ:Nat}
section
variable{P:Program}{ρ:Operand->Value}{o:Oper}{w:World}
theorem ZbY{x y:Operand}{dT sT elem:TypeId}{b dLen dCap sLen sCap: Nat}{a:Addr}(cs:List Value)(ho:o.op = .call {callee:=.builtin .copy,args:=#[x,y],argTypes:=#[dT,sT]})(hx:ρ x = .slice (some ⟨b,off,none⟩) dLen dCap)(hy:ρ y = .slice (some a) sLen sCap)(hu:P.underlying dT=some (.slice elem))(hs:(P.info? elem).map (·.size)=some 1)(hn:cs.length=Nat.min sLen dLen)(hsrc:∀j v,cs[j]?=some v->w.cell? (a.add j)=some v)(hc:∀j,j<cs.length->(w.cell? ⟨b,off+j,none⟩).isSome=true)(hf:∀j,j<cs.length->w.frozen? ⟨b,off+j,none⟩=false)(h1:∀v∈cs,v.oneCell'=true):
  (execOp ρ o).run P w = .ok (.value (.int .i64 cs.length)) (w.setCells b off cs):=by
 unfold execOp;simp[ho,hx,hy,resolve,invoke,builtin,run_copy_cells w dT sT o.type elem b off dLen dCap a sLen sCap cs hu hs hn hsrc hc hf h1,goInt,go_sem]
theorem Z1K{x:Operand}{b n:Nat}(ho:o.op = .slice t x none none none)(hx:ρ x = .pointer (some ⟨b,0,none⟩))(hu:P.underlying t=some (.array (P.arrayLen t) (P.elem t)))(hs:(P.info? (P.elem t)).map (·.size)=some 1)(hn:P.arrayLen t=n):
  (execOp ρ o).run P w = .ok (.value (.slice (some ⟨b,0,none⟩) n n)) w:=by
 have h0:(sizeOf (P.elem t)).run P w = .ok 1 w:=by
  generalize P.elem t=e at hs
  cases hq:P.info? e with
  | none=>simp[hq]at hs
  | some j =>
   have hj:j.size=1:=by simpa[hq] using hs
   simp[sizeOf,typeInfo,hq,hj]
 have hr:=run_sliceAt_array_all (P:=P) w t ⟨b,0,none⟩ hu;rw[h0,hn]at hr;simp only[Result.andThen_ok,slicedAt,Nat.zero_mul,Nat.sub_zero]at hr;have ha:(if n=0 then(⟨b,0,none⟩:Addr) else Addr.add ⟨b,0,none⟩ 0)=⟨b,0,none⟩:=by split<;>rfl
 rw[ha]at hr;clear hu hs hn h0 ha;unfold execOp;simp only[ho,hx,Option.map_none,Sem.run_bind,hr,Result.andThen_ok,Sem.run_pure]
end
def Z4u(l:List Int):Array Value:=#[.int .i64 (l.getD 0 0),.int .i64 (l.getD 1 0),.int .i64 (l.getD 2 0)]
theorem ZdF{w w2:World}{b:Nat}(e:w2=w.setCells b 0 (l.map (Value.int .i64)))(H:w.heap[b]?=some (.cells #[.int .i64 0,.int .i64 0,.int .i64 0] T (0,0)))(hl:l.length<=3): w2.heap[b]?=some (.cells (Z4u l) T (0,0)):=by
 match l,hl with
 | [],_=>rw[e];exact H
 | [x],_=>exact ZG (w2:=w2) (by rw[e];rfl) H rfl
 | [x,y],_=>exact Z2j (w2:=w2) (by rw[e];rfl) H rfl
 | [x,y,z],_=>exact Z0I (cs:=Z4u [x,y,z]) (by rw[e];rfl) H rfl
 | x::y::z::u::l,h=>simp at h
def eqT(l m:List Int):Bool:=(List.range 3).all λi=>decide (l.getD i 0=m.getD i 0)
theorem Zhw{m: List Int}(hl:l.length=m.length)(h3:l.length<=3): eqT l m=true↔l=m:=by
 simp only[eqT,Yl,List.mem_range,decide_eq_true_eq]
 constructor
 ·intro h
  refine List.ext_getElem hl λj a b=>?_;simpa[a,b] using h j (by omega)
 ·rintro rfl;exact λ_ _=>rfl
section
variable{ρ:Operand->Value}{o:Oper}{w:World}
theorem ZcI(l m:List Int):(Op.equalIn 10000 116 (.agg (Z4u l)) (.agg (Z4u m))).run (Qy.prog μ) w = .ok (eqT l m) w:=by
 refine Z1Y (n:=1) Qy.underlying116 (by kernel_rfl) _ λi hi=>?_;refine⟨.int .i64 (l.getD i 0),.int .i64 (m.getD i 0),?_,?_,?_⟩
 ·rcases i with _ | _ | _ | i
  ·exact Z07 rfl
  ·exact Z07 rfl
  ·exact Z07 rfl
  ·omega
 ·rcases i with _ | _ | _ | i
  ·exact Z07 rfl
  ·exact Z07 rfl
  ·exact Z07 rfl
  ·omega
 ·exact run_equalIn_int w _ _ .i64 .i64 _ _ Qy.underlying3
theorem Zjc{x y:Operand}{m: List Int}(ho:o.op = .binOp .eql 116 x y t')(hx:ρ x = .agg (Z4u l))(hy:ρ y = .agg (Z4u m)):
  (execOp ρ o).run (Qy.prog μ) w = .ok (.value (.bool (eqT l m))) w:=by
 have hg:(Qy.prog μ).eqGuardType (Qy.prog μ).depth 116=false:=by kernel_rfl
 unfold execOp;simp only[ho,hx,hy,Sem.run_bind,run_eqGuard_agg w .eql 116 x y (Z4u l) (Z4u m) hg,Result.andThen_ok,run_eql_struct,ZcI,Sem.run_pure]
end
theorem Z6U{w:World}{n c sb so:Nat}(h:Z8 w (.slice (some ⟨sb,so,none⟩) n c) 1 (l.map Z7)): ∀(j:Nat) (v:Value),(l.map (Value.int .i64))[j]?=some v->w.cell? ((⟨sb,so,none⟩:Addr).add j)=some v:=by
 intro j v hv;rw[Yn,Y3]at hv;obtain⟨k,hk,rfl⟩:=hv;have hne:l.map Z7≠[]:=by
  intro e;have hl:l=[]:=by simpa using e
  rw[hl]at hk;simp at hk
 obtain⟨b,off,hb,-,hr⟩:=h.range rfl hne
 cases hb
 have:=hr j (Z7 k) (by rw[Yn,hk];rfl) 0 (.int .i64 k) rfl;rw[Nat.mul_one,Nat.add_zero]at this;rw[Go.WideShapes.add_plain];exact this
theorem ZeG{w:World}{b:Nat}{x y z:Value}(H:w.heap[b]?=some (.cells #[x,y,z] T (0,0))){n:Nat}(hn:n<=3): (∀j,j<n->(w.cell? ⟨b,0+j,none⟩).isSome=true)/\∀j,j<n->w.frozen? ⟨b,0+j,none⟩=false:=by
 refine⟨λj hj=>?_,λj hj=>Zd H _⟩;rw[Z1 H]
 rcases j with _ | _ | _ | j
 ·rfl
 ·rfl
 ·rfl
 ·omega
theorem Z4N(l:List Int):∀v∈l.map (Value.int .i64),v.oneCell'=true:=by
 intro v hv;obtain⟨k,-,rfl⟩:=List.mem_map.1 hv
 rfl
variable{μ:Nat}
def dyeE(B:Int):List (List Int)->List (List Int)->Int
 | _,[]=>0
 | met,d::ds=>if numE d B 9≠0 then numE d B 9 else if d∈met then 4 else dyeE B (met++[d]) ds
def Z2e(B:Int):List (List Int)->Int
 | []=>0
 | l::ls=>if numE l B 3≠0 then numE l B 3 else if l.sum=0 then 7 else Z2e B ls
def chkE(B:Int)(ds ls:List (List Int))(tol:Int):Int:=
 if outB B 1 3=true then 1 else if sizE ds.length 4≠0 then sizE ds.length 4 else if dyeE B [] ds≠0 then dyeE B [] ds
 else if sizE ls.length 3≠0 then sizE ls.length 3 else if Z2e B ls≠0 then Z2e B ls else if outB tol 0 12=true then 1 else 0
theorem Z03{α:Type}(l:List α)(d:α){i:Nat}(h:i<l.length): l.drop i=l.getD i d::l.drop (i+1):=by
 rw[List.drop_eq_getElem_cons h];simp[Y7,List.getElem?_eq_getElem h]
theorem Z2L{α:Type}(l:List α)(d:α){i:Nat}(h:i<l.length): l.take (i+1)=l.take i++[l.getD i d]:=by
 rw[List.take_add_one,List.getElem?_eq_getElem h];simp[Y7,List.getElem?_eq_getElem h]
theorem Zdt{m h:Int}(e:numE l m h=0): (l.length:Int)=m/\∀n∈l,0<=n/\n<=h:=by
 unfold numE at e
 split at e
 ·cases e
 ·rename_i hlen
  split at e
  ·rename_i ha
   refine⟨by omega,λn hn=>?_⟩;have:=Yl.1 ha n hn;exact Z1g.1 (by simpa using this)
  ·cases e
theorem Zhv{B:Int}{ds:List (List Int)}{i:Nat}(hi:i<ds.length)(h:numE (ds.getD i []) B 9≠0): dyeE B (ds.take i) (ds.drop i)=numE (ds.getD i []) B 9:=by
 rw[Z03 ds [] hi,dyeE,if_pos h]
theorem ZcC{B:Int}{ds:List (List Int)}{i j:Nat}(hi:i<ds.length)(h:numE (ds.getD i []) B 9=0)(hj:j<i)(e:ds.getD j []=ds.getD i []): dyeE B (ds.take i) (ds.drop i)=4:=by
 rw[Z03 ds [] hi,dyeE,if_neg (by rw[h];simp),if_pos];rw[<-e,Y7,List.getElem?_eq_getElem (show j<ds.length by omega)];exact List.mem_take_iff_getElem.2 ⟨j,by omega,rfl⟩
theorem ZjJ{B:Int}{ds:List (List Int)}{i:Nat}(hi:i<ds.length)(h:numE (ds.getD i []) B 9=0)(hn:∀j,j<i->ds.getD j []≠ds.getD i []): dyeE B (ds.take i) (ds.drop i)=dyeE B (ds.take (i+1)) (ds.drop (i+1)):=by
 rw[Z03 ds [] hi,dyeE,if_neg (by rw[h];simp),if_neg,<-Z2L ds [] hi];intro hm;obtain⟨j,hj,e⟩:=List.mem_take_iff_getElem.1 hm;have hj':j<i:=by omega
 refine hn j hj' ?_;rw[Y7,List.getElem?_eq_getElem (show j<ds.length by omega)];exact e
theorem Zf8{B:Int}{ls:List (List Int)}{i:Nat}(hi:i<ls.length)(h:numE (ls.getD i []) B 3≠0): Z2e B (ls.drop i)=numE (ls.getD i []) B 3:=by
 rw[Z03 ls [] hi,Z2e,if_pos h]
theorem Zdd{B:Int}{ls:List (List Int)}{i:Nat}(hi:i<ls.length)(h:numE (ls.getD i []) B 3=0)(h0:(ls.getD i []).sum=0): Z2e B (ls.drop i)=7:=by
 rw[Z03 ls [] hi,Z2e,if_neg (by rw[h];simp),if_pos h0]
theorem ZhO{B:Int}{ls:List (List Int)}{i:Nat}(hi:i<ls.length)(h:numE (ls.getD i []) B 3=0)(h0:(ls.getD i []).sum≠0): Z2e B (ls.drop i)=Z2e B (ls.drop (i+1)):=by
 rw[Z03 ls [] hi,Z2e,if_neg (by rw[h];simp),if_neg h0]
def ZbM(l:List Int):List Value:=[.int .i64 (l.getD 0 0),.int .i64 (l.getD 1 0),.int .i64 (l.getD 2 0)]
variable{μ:Nat}
theorem Z2d(M:List (Value×List Int)){i:Nat}(h:i<M.length): (M.map (·.2)).getD i []=(M.getD i (.bool true,[])).2:=Zf0 (λp:Value×List Int=>p.2) (.bool true,[]) M h
section
variable{B tol:Int}{ds ls:List (List Int)}
theorem chk1(h:outB B 1 3=true):chkE B ds ls tol=1:=if_pos h
theorem chk2(h:outB B 1 3=false)(h2:sizE ds.length 4≠0):chkE B ds ls tol=sizE ds.length 4:=by
 rw[chkE,if_neg (by rw[h];decide),if_pos h2]
theorem chk3(h:outB B 1 3=false)(h2:sizE ds.length 4=0)(h3:dyeE B [] ds≠0):chkE B ds ls tol=dyeE B [] ds:=by
 rw[chkE,if_neg (by rw[h];decide),if_neg (by rw[h2];decide),if_pos h3]
theorem chk4(h:outB B 1 3=false)(h2:sizE ds.length 4=0)(h3:dyeE B [] ds=0)(h4:sizE ls.length 3≠0):chkE B ds ls tol=sizE ls.length 3:=by
 rw[chkE,if_neg (by rw[h];decide),if_neg (by rw[h2];decide),if_neg (by rw[h3];decide),if_pos h4]
theorem chk5(h:outB B 1 3=false)(h2:sizE ds.length 4=0)(h3:dyeE B [] ds=0)(h4:sizE ls.length 3=0)(h5:Z2e B ls≠0):chkE B ds ls tol=Z2e B ls:=by
 rw[chkE,if_neg (by rw[h];decide),if_neg (by rw[h2];decide),if_neg (by rw[h3];decide),if_neg (by rw[h4];decide),if_pos h5]
theorem chk6(h:outB B 1 3=false)(h2:sizE ds.length 4=0)(h3:dyeE B [] ds=0)(h4:sizE ls.length 3=0)(h5:Z2e B ls=0):chkE B ds ls tol=if outB tol 0 12=true then 1 else 0:=by
 rw[chkE,if_neg (by rw[h];decide),if_neg (by rw[h2];decide),if_neg (by rw[h3];decide),if_neg (by rw[h4];decide),if_neg (by rw[h5];decide)]
end
theorem ZbQ(x:Vm)(w:World)(h:x.At w)(sd:Z9S x.D)(sl:Z9S x.L):
  Calls (Qy.prog μ) 37 #[.agg #[.int .i64 x.B,.slice x.da x.D.length x.dc,.slice x.la x.L.length x.lc,.int .i64 x.tol]] w λe w'=>e = .returned (.int .i64 (chkE x.B (x.D.map (·.2)) (x.L.map (·.2)) x.tol))/\Ext [] w w':=by
 have E:Ext [] w w:=Ext.refl _ _;have HA:=Lib.hid h;have HD:=Lib.hid h.d.1;have HL:=Lib.hid h.l.1;have SD:=Lib.hid sd;have SL:=Lib.hid sl;clear h;obtain⟨sd1,sd2⟩:=sd;obtain⟨sl1,sl2⟩:=sl;clear sd2 sl2;obtain⟨ds,hds⟩:∃ds,ds=x.D.map (·.2):=⟨_,rfl⟩;obtain⟨ls,hls⟩:∃ls,ls=x.L.map (·.2):=⟨_,rfl⟩;have hdl:ds.length=x.D.length:=by rw[hds,Yj]
 have hll:ls.length=x.L.length:=by rw[hls,Yj]
 have KD:Hid (∀i,i<x.D.length->ds.getD i []=(x.D.getD i (.bool true,[])).2):=λi hi=>by rw[hds];exact Z2d _ hi
 have KL:Hid (∀i,i<x.L.length->ls.getD i []=(x.L.getD i (.bool true,[])).2):=λi hi=>by rw[hls];exact Z2d _ hi
 rw[<-hds,<-hls];clear hds hls;have om:w.ownsRow w.heap.size 116 3 (.slice none 0 0) 0 (((ds.take 0).map ZbM).flatten):=World.ownsRow_nil _ _ _ _;have G:=(Bk.nil w).ce E;replace G:=G.co om;refine(ent 92 Tryz.f37 rfl) λF=>wR λk1=>(F.bx G) λyy F G=>(F.m) λF=>k1<|wQ λk2=>wR λk3=>(F.y (F.fd 0)) λF=>(F.y (F.lc (G.q 0))) λF=>(F.k0 G (Z0r x.B 1 3 _)) λF G=>k3<|F.cb (λhc19=>?_) (λhc19=>?_)
 ·have hb1:outB x.B 1 3=true:=by simpa using hc19
  refine wR λk4=>(F.m) λF=>k4<|(F.r1) ?_
  exact⟨Zo (chk1 hb1).symm,(G.e 2)⟩
 ·have hb1:outB x.B 1 3=false:=by simpa using hc19
  obtain⟨hB1,hB3⟩:=Z1g.1 hb1;refine Yi<|k2<|wQ λk5=>wR λk6=>(F.y (F.fd 1)) λF=>(F.y (F.lc (G.q 0))) λF=>(F.y F.ln) λF=>(F.k0 G (Z3Q (x.D.length:Nat) 4 _)) λF G=>(F.m) λF=>k6<|wR λk7=>(F.m) λF=>(F.y F.ne) λF=>k7<|F.ci (λhc25=>?_) (λhc25=>?_)
  ·refine wR λk8=>(F.m) λF=>(F.m) λF=>k8<|(F.r1) ?_
   exact⟨Zo (by rw[chk2 hb1 (by rw[hdl];exact hc25),hdl]),(G.e 2)⟩
  ·refine Yi<|k5<|wR λk9=>(F.m) λF=>k9<|wQ λk10=>wR λk11=>(F.y (F.fd 1)) λF=>(F.y (F.lc (G.q 0))) λF=>(F.y F.ln) λF=>(F.m) λF=>k11<|Yh<|lpB (F.b [1,28,29]) (G.b [0,2]) (x.D.length) (λi Lv Sv W=>∃va:Option Addr,∃vc:Nat,Lv=[(4,.slice va i vc),(30,.int .i64 ((i:Nat):Int))]/\Sv=[]/\W.ownsRow w.heap.size 116 3 (.slice va i vc) i (((ds.take i).map ZbM).flatten)/\dyeE x.B (ds.take i) (ds.drop i)=dyeE x.B [] ds/\(∀j,j<i->((x.D.getD j (.bool true,[])).2.length:Int)=x.B)) ⟨_,_,F.u,G.u,none,0,rfl,rfl,(G.o 1),rfl,(λj hj=>absurd hj (by omega))⟩ ?_
   clear F G;rintro i _ w4 _ _ hi1 ⟨va,vc,rfl,rfl,om,hd,hlen⟩ F G;replace G:=(G.z).co om;refine wR λk12=>(F.y F.ls) λF=>k12<|wQ λk13=>F.ci (λhc31=>?_) (λhc31=>?_)
   ·refine Yi<|k13<|wQ λk14=>Yh<|wQ λk15=>?_
    obtain⟨la,lca,hla,hlr⟩:=HA.out.d.2 _ (Zb (.bool true,[]) (show i<x.D.length by omega));have hsz:=SD.out.2 _ (Zb (.bool true,[]) (show i<x.D.length by omega));have hkd:=KD.out i (by omega);refine Yg<|(F.ix HD.out i) λxr16 F=>(F.y (F.l1 (xr16 _ (G.e 2)) 0)) λF=>?_
    rw[hla]at F;refine(F.m) λF=>k15<|wQ λk17=>wR λk18=>(F.m) λF=>(F.y (F.fd 0)) λF=>(F.y (F.lc (G.q 1))) λF=>(F.k0 G (Z3j (x.D.getD i (.bool true,[])).2 x.B 9 la lca _ (hlr.ext (G.e 2) (by simp)) hsz (by omega))) λF G=>(F.m) λF=>(F.y F.xt) λF=>(F.y F.xt) λF=>(F.m) λF=>(F.m) λF=>k18<|wR λk19=>(F.m) λF=>(F.y F.ne) λF=>k19<|F.ci (λhc42=>?_) (λhc42=>?_)
    ·refine wR λk20=>(F.m) λF=>(F.m) λF=>k20<|(F.r1) ?_
     have e:=Zhv (B:=x.B) (ds:=ds) (i:=i) (by omega) (by rw[hkd];exact hc42);rw[hd,hkd]at e;exact⟨Zo (by rw[chk3 hb1 (by rw[hdl];omega) (by rw[e];exact hc42),e]),(G.e 2)⟩
    ·have hz0:numE (x.D.getD i (.bool true,[])).2 x.B 9=0:=by omega
     obtain⟨hz1,hz2⟩:=Zdt hz0;refine Yi<|k17<|wR λk21=>(F.al G Qy.zeroValue116) λyy F G=>k21<|wQ λk22=>?_
     have hd3':(x.D.getD i (.bool true,[])).2.length<=3:=by omega
     refine Yg ?_;refine(F.y ((Z1K (n:=3) rfl (F.at rfl) (by kernel_rfl) (by kernel_rfl) (by kernel_rfl)))) λF=>(F.m) λF=>?_;have hlr2:=hlr.ext (G.e 3) (by simp);obtain⟨sb,so,hsa,-,-⟩:=hlr2.range rfl (by intro e;have hq:=congrArg List.length e;rw[Yj,List.length_nil]at hq;omega);rw[hsa]at hlr2;obtain⟨hcd,hcf⟩:=ZeG (G.q 0) (n:=(x.D.getD i (.bool true,[])).2.length) hd3';refine sqN F (ZbY ((x.D.getD i (.bool true,[])).2.map (Value.int .i64)) rfl (F.at rfl) ((F.at rfl).trans (congrArg (λz=>Value.slice z _ _) hsa)) Qy.underlying22 (by kernel_rfl) (by rw[Yj];exact(Nat.min_eq_left hd3').symm) (Z6U hlr2) (by rw[Yj];exact hcd) (by rw[Yj];exact hcf) (Z4N _)) ?_ (hw:=F.want rfl);clear F;rintro _ w7 F hw;replace G:=G.pr 0 hw (ZdF hw (G.q 0) hd3');refine k22<|wQ λk23=>wR λk24=>(F.m) λF=>(F.y F.ln) λF=>(F.m) λF=>?_
     have om:=G.o 1;have HMs:=Lib.hid (Z1z om (show i=(ds.take i).length by rw[List.length_take];omega) (λ_=>rfl) [] (by simp) []);have hml:(ds.take i).length=i:=(by rw[List.length_take];omega);rw[hml]at HMs;replace G:=G.hr [];refine k24<|Yh<|lpB (F.b [1,4,9,28,29,30,47,48]) G (i) (λj Lv Sv W=>Lv=[(49,.int .i64 ((j:Nat):Int))]/\Sv=[]/\(∀k,k<j->ds.getD k []≠ds.getD i [])) ⟨_,_,F.u,G.u,rfl,rfl,(λk hk=>absurd hk (by omega))⟩ ?_
     clear F G;rintro j _ w8 _ _ hi2 ⟨rfl,rfl,hn⟩ F G;replace G:=G.z;refine wR λk25=>(F.y F.ls) λF=>k25<|wQ λk26=>F.ci (λhc50=>?_) (λhc50=>?_)
     ·refine Yi<|k26<|wQ λk27=>Yh<|wQ λk28=>?_
      have hjj:(ds.take i).getD j []=ds.getD j []:=by simp[Y7,List.getElem?_take,show j<i by omega]
      have hkj:=KD.out j (by omega);have hlj:=hlen j (by omega);refine Yg<|(F.ix HMs.out j) λxr29 F=>(F.y (F.lr (xr29 _ (G.e 0)))) λF=>(F.al G Qy.zeroValue116) λyy F G=>(F.sr G 0) λG=>k28<|wR λk30=>(F.y (F.lb (G.q 0))) λF=>(F.y (F.lb (G.q 2))) λF=>?_
      refine(F.y ((Zjc (l:=(ds.take i).getD j []) (m:=(x.D.getD i (.bool true,[])).2) rfl (F.at rfl) (F.at rfl)))) λF=>?_;have hqq:=Zhw (l:=(ds.take i).getD j []) (m:=(x.D.getD i (.bool true,[])).2) (by rw[hjj,hkj];omega) (by rw[hjj,hkj];omega);refine k30<|F.cb (λhc55=>?_) (λhc55=>?_)
      ·have heq:ds.getD j []=ds.getD i []:=by rw[hkd,<-hjj];exact hqq.1 (by simpa using hc55)
       refine wR λk31=>(F.m) λF=>k31<|(F.r1) ?_
       have e:=ZcC (B:=x.B) (ds:=ds) (i:=i) (j:=j) (by omega) (by rw[hkd];exact hz0) (by omega) heq;rw[hd]at e;exact⟨Zo (by rw[chk3 hb1 (by rw[hdl];omega) (by rw[e];decide),e]),(G.e 5)⟩
      ·have hne:ds.getD j []≠ds.getD i []:=λe=>by rw[hkd,<-hjj]at e;exact Bool.noConfusion (hc55.symm.trans (hqq.2 e))
       refine Yi<|k27<|Yg<|(F.y F.ad) λF=>(F.m) λF=>?_
       show _/\_;exact⟨by omega,_,_,F.u,G.u,rfl,rfl,(λk hk=>if e:k=j then e▸hne else hn k (by omega))⟩
     ·refine wp_exit ?_
      have hji:j=i:=by omega
      refine k23<|Yg<|(F.m) λF=>(F.y (F.lb (G.q 1))) λF=>(F.bs G 3 #[.int .i64 ((x.D.getD i (.bool true,[])).2.getD 0 0),.int .i64 ((x.D.getD i (.bool true,[])).2.getD 1 0),.int .i64 ((x.D.getD i (.bool true,[])).2.getD 2 0)] Qy.zeroValue116) λyy F G=>?_
      have hEs:=(G.e 5).size;replace G:=G.d 1;refine ZK F rfl (by decide) (F.want rfl) (ZX rfl (w.heap.size) (e:=116) (size:=3) (bytes:=24) Qy.underlying113 (by kernel_rfl) (by decide) (F.at rfl) (G.o 2) (F.at rfl) (G.q 0) rfl (by simp[Value.oneCell']) (by omega) (by omega) (by omega)) ?_;clear F;rintro _ v' w12 F ⟨hown',hg⟩;obtain⟨va60,vc60,rfl⟩:=Zw hown';replace G:=(G.d 0).gr 1 hg hown';clear hg hown';have hd3:=(ZjJ (B:=x.B) (ds:=ds) (i:=i) (by omega) (by rw[hkd];exact hz0) (λk hk=>hn k (by omega))).symm.trans hd;have om:=G.o 1;rw[show ((ds.take i).map ZbM).flatten++[.int .i64 ((x.D.getD i (.bool true,[])).2.getD 0 0),.int .i64 ((x.D.getD i (.bool true,[])).2.getD 1 0),.int .i64 ((x.D.getD i (.bool true,[])).2.getD 2 0)]=((ds.take (i+1)).map ZbM).flatten by rw[Z2L ds [] (show i<ds.length by omega),List.map_append,List.flatten_append,hkd];simp[ZbM]]at om;replace G:=G.rO 1 om;clear om;refine(F.m) λF=>k14<|Yg<|(F.y F.ad) λF=>(F.m) λF=>?_
      show _/\_;exact⟨by omega,_,_,F.u,G.u,_,_,rfl,rfl,(G.o 1),hd3,(λj hj=>if e:j=i then e▸hz1 else hlen j (by omega))⟩
   ·refine wp_exit ?_
    have hd0:dyeE x.B [] ds=0:=by rw[<-hd,List.drop_eq_nil_of_le (by omega)];rfl
    refine k10<|wQ λk32=>wR λk33=>(F.y (F.fd 2)) λF=>(F.y (F.lc (G.q 1))) λF=>(F.y F.ln) λF=>(F.k0 G (Z3Q (x.L.length:Nat) 3 _)) λF G=>(F.m) λF=>k33<|wR λk34=>(F.m) λF=>(F.y F.ne) λF=>k34<|F.ci (λhc67=>?_) (λhc67=>?_)
    ·refine wR λk35=>(F.m) λF=>(F.m) λF=>k35<|(F.r1) ?_
     exact⟨Zo (by rw[chk4 hb1 (by rw[hdl];omega) hd0 (by rw[hll];exact hc67),hll]),(G.e 2)⟩
    ·refine Yi<|k32<|wQ λk36=>wR λk37=>(F.y (F.fd 2)) λF=>(F.y (F.lc (G.q 1))) λF=>(F.y F.ln) λF=>(F.m) λF=>k37<|Yh<|lpB (F.b [1,70,71]) G (x.L.length) (λk Lv Sv W=>Lv=[(72,.int .i64 ((k:Nat):Int))]/\Sv=[]/\Z2e x.B (ls.drop k)=Z2e x.B ls) ⟨_,_,F.u,G.u,rfl,rfl,rfl⟩ ?_
     clear F G;rintro k _ w14 _ _ hi3 ⟨rfl,rfl,hlm⟩ F G;replace G:=G.z;refine wR λk38=>(F.y F.ls) λF=>k38<|wQ λk39=>F.ci (λhc73=>?_) (λhc73=>?_)
     ·refine Yi<|k39<|wQ λk40=>Yh<|wQ λk41=>?_
      obtain⟨la,lca,hla,hlr⟩:=HA.out.l.2 _ (Zb (.bool true,[]) (show k<x.L.length by omega));have hsz:=SL.out.2 _ (Zb (.bool true,[]) (show k<x.L.length by omega));have hkl:=KL.out k (by omega);refine Yg<|(F.ix HL.out k) λxr42 F=>(F.y (F.l1 (xr42 _ (G.e 2)) 0)) λF=>?_
      rw[hla]at F;refine(F.m) λF=>k41<|wR λk43=>(F.m) λF=>(F.y (F.fd 0)) λF=>(F.y (F.lc (G.q 1))) λF=>(F.k0 G (Z3j (x.L.getD k (.bool true,[])).2 x.B 3 la lca _ (hlr.ext (G.e 2) (by simp)) hsz (by omega))) λF G=>(F.m) λF=>(F.y F.xt) λF=>(F.y F.xt) λF=>(F.m) λF=>(F.m) λF=>k43<|wQ λk44=>wR λk45=>(F.m) λF=>(F.y F.ne) λF=>k45<|F.ci (λhc84=>?_) (λhc84=>?_)
      ·refine wR λk46=>(F.m) λF=>(F.m) λF=>k46<|(F.r1) ?_
       have e:=Zf8 (B:=x.B) (ls:=ls) (i:=k) (by omega) (by rw[hkl];exact hc84);rw[hlm,hkl]at e;exact⟨Zo (by rw[chk5 hb1 (by rw[hdl];omega) hd0 (by rw[hll];omega) (by rw[e];exact hc84),e]),(G.e 2)⟩
      ·have hz0:numE (x.L.getD k (.bool true,[])).2 x.B 3=0:=by omega
       have hsum:numS (x.L.getD k (.bool true,[])).2 x.B 3=(x.L.getD k (.bool true,[])).2.sum:=by rw[numS,if_pos hz0]
       refine Yi<|k44<|wR λk47=>(F.m) λF=>(F.y F.eq) λF=>k47<|F.ci (λhc87=>?_) (λhc87=>?_)
       ·refine wR λk48=>(F.m) λF=>k48<|(F.r1) ?_
        have e:=Zdd (B:=x.B) (ls:=ls) (i:=k) (by omega) (by rw[hkl];exact hz0) (by rw[hkl];omega);rw[hlm]at e;exact⟨Zo (by rw[chk5 hb1 (by rw[hdl];omega) hd0 (by rw[hll];omega) (by rw[e];decide),e]),(G.e 2)⟩
       ·have hlm3:=(ZhO (B:=x.B) (ls:=ls) (i:=k) (by omega) (by rw[hkl];exact hz0) (by rw[hkl];omega)).symm.trans hlm
        refine Yi<|k40<|Yg<|(F.y F.ad) λF=>(F.m) λF=>?_
        show _/\_;exact⟨by omega,_,_,F.u,G.u,rfl,rfl,hlm3⟩
     ·refine wp_exit ?_
      have hl0:Z2e x.B ls=0:=by rw[<-hlm,List.drop_eq_nil_of_le (by omega)];rfl
      refine k36<|wQ λk49=>wR λk50=>(F.y (F.fd 3)) λF=>(F.y (F.lc (G.q 1))) λF=>(F.k0 G (Z0r x.tol 0 12 _)) λF G=>k50<|F.cb (λhc91=>?_) (λhc91=>?_)
      ·refine wR λk51=>(F.m) λF=>k51<|(F.r1) ?_
       exact⟨Zo (by rw[chk6 hb1 (by rw[hdl];omega) hd0 (by rw[hll];omega) hl0,if_pos (by simpa using hc91)]),(G.e 2)⟩
      ·refine Yi<|k49<|wR λk52=>(F.m) λF=>k52<|(F.r1) ?_
       exact⟨Zo (by rw[chk6 hb1 (by rw[hdl];omega) hd0 (by rw[hll];omega) hl0,if_neg (by simpa using hc91)]),(G.e 2)⟩
variable{μ:Nat}
theorem Z49{b b2:Nat}{c:Nat}(oo:w.ownsRow b 22 1 (.slice a M.length c) M.length (M.map (·.1)))(fam:FamT w b2 M): Z0M w a M:=⟨Z7u oo rfl,λp hp=>ZhE fam hp⟩
variable{μ:Nat}
def cntE(l:List Int)(many hi:Int):Int:=if (l.length:Int)<many then 7 else if many<l.length then 6 else if l.all (λn=>!outB n 0 hi) then 0 else 1
variable{μ:Nat}
def tubC(f:Nat->Int):Array Value:=#[.int .i64 (f 0),.int .i64 (f 1),.int .i64 (f 2),.int .i64 (f 3)]
def upF(f:Nat->Int)(k:Nat)(v:Int):Nat->Int:=λj=>if j=k then v else f j
def zf:Nat->Int:=λ_=>0
theorem Z6u{f:Nat->Int}{i:Int}{k:Nat}(h:i.toNat=k)(hk:k<4): (tubC f)[i.toNat]?=some (.int .i64 (f k)):=by
 subst h
 rcases hi:i.toNat with _ | _ | _ | _ | n
 ·rfl
 ·rfl
 ·rfl
 ·rfl
 ·omega
theorem Z2M{b:Nat}{f:Nat->Int}(H:w.heap[b]?=some (.cells (tubC f) T fz)){i:Int}{k:Nat}(h:i.toNat=k)(hk:k<4): w.cell? ⟨b,0+i.toNat*1,none⟩=some (.int .i64 (f k)):=by
 rw[Z1 H,Nat.zero_add,Nat.mul_one];exact Z6u h hk
theorem Z9t{w2: World}{b:Nat}{f:Nat->Int}{i v:Int}(e:w2=w.setCell ⟨b,0+i.toNat*1,none⟩ (.int .i64 v))(H:w.heap[b]?=some (.cells (tubC f) T (0,0))){k:Nat}(h:i.toNat=k)(hk:k<4): w2.heap[b]?=some (.cells (tubC (upF f k v)) T (0,0)):=by
 refine ZG e H ?_;rw[Nat.zero_add,Nat.mul_one,h];clear e H h
 match k,hk with
 | 0,_=>rfl
 | 1,_=>rfl
 | 2,_=>rfl
 | 3,_=>rfl
theorem Z3Z{f g:Nat->Int}(h:∀k,k<4->f k=g k): tubC f=tubC g:=by
 rw[tubC,tubC,h 0 (by omega),h 1 (by omega),h 2 (by omega),h 3 (by omega)]
def sumQ(f:Nat->Int):Nat->Int
 | 0=>0
 | n+1=>sumQ f n+f n
theorem Z24{f g:Nat->Int}:∀{n:Nat},(∀k,k<n->f k=g k)->sumQ f n=sumQ g n
 | 0,_=>rfl
 | n+1,h=>by rw[sumQ,sumQ,Z24 (n:=n) (λk hk=>h k (by omega)),h n (by omega)]
theorem Z7H{f:Nat->Int}{a b:Int}:∀{n:Nat},(∀k,k<n->a<=f k/\f k<=b)->a*n<=sumQ f n/\sumQ f n<=b*n
 | 0,_=>by simp[sumQ]
 | n+1,h=>by
  have h1:=Z7H (n:=n) (λk hk=>h k (by omega));have h2:=h n (by omega);rw[sumQ,show ((n+1:Nat):Int)=(n:Int)+1 from rfl,Int.mul_add,Int.mul_add];omega
theorem Z5I(l:List Int):∀n:Nat,l.length<=n->sumQ (val l) n=l.sum:=by
 have hk:∀n:Nat,n<=l.length->sumQ (val l) n=(l.take n).sum:=by
  intro n
  induction n with
  | zero=>intro _;simp[sumQ]
  | succ n ih=>intro h;rw[sumQ,ih (by omega),Z3Y l (by omega)];rfl
 intro n h
 induction n with
 | zero=>rw[hk 0 (by omega)];have:l=[]:=List.length_eq_zero_iff.1 (by omega);subst this;rfl
 | succ n ih =>
  by_cases e:l.length=n+1
  ·rw[hk (n+1) (by omega),List.take_of_length_le (by omega)]
  ·rw[sumQ,ih (by omega)]
   simp[val,List.getElem?_eq_none (show l.length<=n by omega)]
def prt(f:Nat->Int):Int:=sumQ f 4
def Zjj(f:Nat->Int):Prop:=∀k,k<4->0<=f k/\f k<=1000
theorem Z0b(f:Nat->Int)(hf:Zjj f)(w:World):Calls (Qy.prog μ) 83 #[.agg (tubC f)] w λe w'=>e = .returned (.int .i64 (prt f))/\Ext [] w w':=by
 have E:Ext [] w w:=Ext.refl _ _;have HF:=Lib.hid hf;clear hf;have G:=(Bk.nil w).ce E;refine(ent 15 Tryz.f83 rfl) λF=>wR λk1=>(F.bx G) λyy F G=>(F.m) λF=>k1<|wR λk2=>(F.m) λF=>?_
 rw[show (0:Int)=sumQ f 0 from rfl]at F;refine k2<|wQ λk3=>wR λk4=>(F.y (F.lb (G.q 0))) λF=>(F.m) λF=>?_
 rw[show (0:Int)=((0:Nat):Int) from rfl]at F;refine k4<|Yh<|lpB (F.b [6]) G (4) (λi Lv Sv W=>Lv=[(3,.int .i64 (sumQ f i)),(7,.int .i64 ((i:Nat):Int))]/\Sv=[]/\0<=sumQ f i/\sumQ f i<=1000*(i:Int)) ⟨_,_,F.u,G.u,rfl,rfl,(by simp[sumQ]),(by simp[sumQ])⟩ ?_
 clear F G;rintro i _ w2 _ _ hi1 ⟨rfl,rfl,hs0,hs1⟩ F G;replace G:=G.z;refine wR λk5=>(F.y F.ls) λF=>k5<|wQ λk6=>F.ci (λhc8=>?_) (λhc8=>?_)
 ·refine Yi<|k6<|wQ λk7=>Yh<|wR λk8=>(F.y (F.iv 4 (Z6u (k:=i) rfl (by omega)))) λF=>(F.m) λF=>k8 ?_
  obtain⟨hf0,hf1⟩:=HF.out i (by omega);refine Yg<|(F.m) λF=>(F.m) λF=>(F.y F.ad) λF=>?_
  rw[show sumQ f i+f i=sumQ f (i+1) from rfl]at F;refine(F.m) λF=>k7<|Yg<|(F.y F.ad) λF=>(F.m) λF=>?_
  show _/\_;exact⟨by omega,_,_,F.u,G.u,rfl,rfl,(by rw[sumQ];omega),(by rw[sumQ];omega)⟩
 ·refine wp_exit<|k3<|wR λk9=>(F.m) λF=>(F.m) λF=>k9<|(F.r1) ?_
  have hi:i=4:=(by omega);exact⟨Zo (by rw[hi,prt]),(G.e 1)⟩
variable{μ:Nat}
structure VOk(x:Vm):Prop where
 chk:chkE x.B (x.D.map (·.2)) (x.L.map (·.2)) x.tol=0
 b1:1<=x.B
 b3:x.B<=3
 d1:1<=x.D.length
 d4:x.D.length<=4
 dl:∀p∈x.D,(p.2.length:Int)=x.B/\∀n∈p.2,0<=n/\n<=9
 l1:1<=x.L.length
 l3:x.L.length<=3
 ll:∀p∈x.L,(p.2.length:Int)=x.B/\∀n∈p.2,0<=n/\n<=3
 t0:0<=x.tol
 t12:x.tol<=12
theorem VOk.sd{x:Vm}(h:VOk x):Z9S x.D:=⟨by have:=h.d4;omega,λp hp=>by have:=(h.dl p hp).1;have:=h.b3;omega⟩
theorem VOk.sl{x:Vm}(h:VOk x):Z9S x.L:=⟨by have:=h.l3;omega,λp hp=>by have:=(h.ll p hp).1;have:=h.b3;omega⟩
theorem Z9n(w:World):Calls (Qy.prog μ) 111 #[.int .i64 0] w λe w'=>e = .returned (.tuple #[])/\Ext [] w w':=by
 have E:Ext [] w w:=Ext.refl _ _;have G:=(Bk.nil w).ce E;refine(ent 6 Tryz.f111 rfl) λF=>wR λk1=>(F.m) λF=>(F.y F.neF) λF=>k1<|(F.cF)<|Yi<|(F.e0) ?_
 exact⟨rfl,(G.e 0)⟩
theorem ZZ(x:Vm)(hv:VOk x)(w:World)(h:x.At w):Calls (Qy.prog μ) 64 #[.agg #[.int .i64 x.B,.slice x.da x.D.length x.dc,.slice x.la x.L.length x.lc,.int .i64 x.tol]] w λe w'=>e = .returned (.agg #[.int .i64 x.B,.slice x.da x.D.length x.dc,.slice x.la x.L.length x.lc,.int .i64 x.tol])/\Ext [] w w':=by
 have E:Ext [] w w:=Ext.refl _ _;have HX:=Lib.hid h;have HV:=Lib.hid hv;clear h hv;have G:=(Bk.nil w).ce E;refine(ent 8 Tryz.f64 rfl) λF=>wR λk1=>(F.bx G) λyy F G=>(F.al G Qy.zeroValue85) λyy F G=>k1<|wR λk2=>(F.y (F.lb (G.q 1))) λF=>(F.k (ZbQ x _ (HX.out.ext (G.e 2)) HV.out.sd HV.out.sl)) ?_
 rintro _ w3 ⟨rfl,e9⟩;refine⟨_,rfl,λF=>?_⟩;replace G:=G.ex e9;rw[HV.out.chk]at F;refine(F.k0 G (Z9n _)) λF G=>k2<|wR λk3=>(F.y (F.lb (G.q 1))) λF=>(F.y (F.bv #[.int .i64 x.B,.slice x.da x.D.length x.dc,.slice x.la x.L.length x.lc,.int .i64 x.tol])) λF=>(F.sr G 0) λG=>k3 ?_
 refine(F.rg (rs_c F rfl rfl Qy.underlying85 rfl (by kernel_rfl) (G.q 0))) ?_;exact⟨rfl,(G.e 2)⟩
theorem Z99(x:Vm)(hv:VOk x)(n:Int)(h0:0<=n)(h1:n<x.L.length)(w:World):Calls (Qy.prog μ) 87 #[.agg #[.int .i64 x.B,.slice x.da x.D.length x.dc,.slice x.la x.L.length x.lc,.int .i64 x.tol],.int .i64 n] w λe w'=>e = .returned (.tuple #[])/\Ext [] w w':=by
 have E:Ext [] w w:=Ext.refl _ _;have ho:outB n 0 (((x.L.length:Nat):Int)-1)=false:=Z1g.2 (by omega);have hl3:=hv.l3;have G:=(Bk.nil w).ce E;refine(ent 12 Tryz.f87 rfl) λF=>wR λk1=>(F.bx G) λyy F G=>k1<|wR λk2=>(F.m) λF=>(F.y (F.fd 0)) λF=>(F.y (F.fd 2)) λF=>(F.y (F.lc (G.q 0))) λF=>(F.y F.ln) λF=>(F.y F.sb) λF=>(F.k0 G (Z0r n 0 (((x.L.length:Nat):Int)-1) _)) λF G=>k2<|(F.jF (ho))<|Yi<|(F.e0) ?_
 exact⟨rfl,(G.e 1)⟩
def dotE(a s:Nat->Int)(n:Nat):Int:=sumQ (λi=>a i*s i) n
theorem Zdq{a b:Int}(a0:0<=a)(a1:a<=10)(b0:0<=b)(b1:b<=100000): 0<=a*b/\a*b<=1000000:=by
 refine⟨Int.mul_nonneg a0 b0,?_⟩;have h1:a*b<=10*b:=Int.mul_le_mul_of_nonneg_right a1 b0;omega
def Vm.lamp(x:Vm)(k:Nat):List Int:=(x.L.getD k (.bool true,[])).2
def Vm.dye(x:Vm)(k:Nat):List Int:=(x.D.getD k (.bool true,[])).2
theorem Z2Z(x:Vm)(hv:VOk x)(k:Nat)(hk:k<x.L.length)(s:List Int)(hs:(s.length:Int)=x.B)(hb:∀n∈s,0<=n/\n<=100000)(a:Option Addr)(c:Nat)(w:World)(h:x.At w)(hr:Z8 w (.slice a s.length c) 1 (s.map Z7)):
  Calls (Qy.prog μ) 102 #[.agg #[.int .i64 x.B,.slice x.da x.D.length x.dc,.slice x.la x.L.length x.lc,.int .i64 x.tol],.int .i64 ((k:Nat):Int),.slice a s.length c] w λe w'=>e = .returned (.int .i64 (dotE (val (x.lamp k)) (val s) s.length))/\Ext [] w w':=by
 have E:Ext [] w w:=Ext.refl _ _;have HL:=Lib.hid h.l.1;have HS:=Lib.hid (Zj hr 0);obtain⟨la,lca,hla,hlr⟩:=h.l.2 _ (Zb (.bool true,[]) hk);obtain⟨hll,hln⟩:=hv.ll _ (Zb (.bool true,[]) hk);have HLR:=Lib.hid (Zj hlr 0);have HLN:=Lib.hid hln;have HB:=Lib.hid hb;have hl3:=hv.l3;have hb3:=hv.b3;clear h hr hv hlr hln hb;have G:=(Bk.nil w).ce E;refine(ent 32 Tryz.f102 rfl) λF=>wR λk1=>(F.bx G) λyy F G=>(F.m) λF=>k1<|wR λk2=>(F.m) λF=>?_
 rw[show (0:Int)=sumQ (λi=>val (x.lamp k) i*val s i) 0 from rfl]at F;refine k2<|wQ λk3=>wR λk4=>(F.y (F.fd 0)) λF=>(F.y (F.fd 2)) λF=>(F.y (F.lc (G.q 0))) λF=>(F.m) λF=>(F.ix HL.out k) λxr5 F=>(F.y (F.l1 (xr5 _ (G.e 1)) 0)) λF=>?_
 rw[hla]at F;refine(F.y F.ln) λF=>(F.m) λF=>k4<|Yh<|lpB (F.b [2,15,16]) G (s.length) (λi Lv Sv W=>Lv=[(7,.int .i64 (sumQ (λi=>val (x.lamp k) i*val s i) i)),(17,.int .i64 ((i:Nat):Int))]/\Sv=[]/\0<=sumQ (λi=>val (x.lamp k) i*val s i) i/\sumQ (λi=>val (x.lamp k) i*val s i) i<=1000000*(i:Int)) ⟨_,_,F.u,G.u,rfl,rfl,(by simp[sumQ]),(by simp[sumQ])⟩ ?_
 clear F G;rintro i _ w2 _ _ hi1 ⟨rfl,rfl,hs0,hs1⟩ F G;replace G:=G.z;refine wR λk6=>(F.y F.ls) λF=>k6<|wQ λk7=>F.ci (λhc18=>?_) (λhc18=>?_)
 ·refine Yi<|k7<|wQ λk8=>Yh<|wR λk9=>(F.m) λF=>(F.ix HLR.out i) λxr10 F=>(F.y (F.l1 (xr10 _ (G.e 1)) 0)) λF=>(F.m) λF=>(F.m) λF=>k9 ?_
  obtain⟨hf0,hf1⟩:=HLN.out _ (Zb (l:=(x.L.getD k (.bool true,[])).2) (i:=i) 0 (by omega));obtain⟨hg0,hg1⟩:=HB.out _ (Zb (l:=s) (i:=i) 0 (by omega));obtain⟨hm0,hm1⟩:=Zdq hf0 (by omega) hg0 hg1;refine Yg<|(F.m) λF=>(F.m) λF=>(F.m) λF=>(F.m) λF=>(F.ix HS.out i) λxr11 F=>(F.y (F.l1 (xr11 _ (G.e 1)) 0)) λF=>(F.y F.ml) λF=>(F.y F.ad) λF=>?_
  rw[show sumQ (λi=>val (x.lamp k) i*val s i) i+(x.L.getD k (.bool true,[])).2.getD i 0*s.getD i 0=sumQ (λi=>val (x.lamp k) i*val s i) (i+1) from rfl]at F;refine(F.m) λF=>k8<|Yg<|(F.y F.ad) λF=>(F.m) λF=>?_
  show _/\_;exact⟨by omega,_,_,F.u,G.u,rfl,rfl,(by rw[sumQ];simp only[val,Vm.lamp]at *;omega),(by rw[sumQ];simp only[val,Vm.lamp]at *;omega)⟩
 ·refine wp_exit<|k3<|wR λk12=>(F.m) λF=>(F.m) λF=>k12<|(F.r1) ?_
  have hi:i=s.length:=(by omega);exact⟨Zo (by rw[hi,dotE]),(G.e 1)⟩
end
section
open Go.RowKit Lift
variable{μ:Nat}
section
variable[Jk]{C:Inv}{r:Ren}{v w:World}
theorem Z4F(h:WH C r v w){b c o:Nat}(hb:r b=some c){x:Value}(hx:v.cell? ⟨b,o,none⟩=some x): ∃y,w.cell? ⟨c,o,none⟩=some y/\VR r x y:=by
 obtain⟨p,q,h1,h2,h3⟩:=h.on _ _ hb;unfold World.cell? at hx⊢;rw[h1]at hx;rw[h2]
 cases h3 with
 | cells k _ =>
  simp only[Option.isSome_none,Bool.false_eq_true,if_false]at hx⊢
  rcases k.get o with⟨a,_⟩ | ⟨x1,y1,a,b1,k1⟩
  ·rw[a]at hx;cases hx
  ·rw[a]at hx
   obtain rfl:=Y1 hx;exact⟨y1,b1,k1⟩
 | _=>cases hx
theorem Z0J{w:World}{b o:Nat}{x:Value}(h:w.cell? ⟨b,o,none⟩=some x):b<w.heap.size/\∃cs e fz,w.heap[b]?=some (.cells cs e fz):=by
 unfold World.cell? at h
 cases e:w.heap[b]? with
 | none=>rw[e]at h;cases h
 | some ob =>
  rw[e]at h;refine⟨(Y0.1 e).1,?_⟩
  cases ob<;>first | exact⟨_,_,_,rfl⟩ | cases h
theorem ZaE(h:WH C r v w){n c:Nat}(hx:Z8 v (.slice a n c) 1 (xs.map Z7)){y:Value}(hy:VR r (.slice a n c) y): ∃a',y = .slice a' n c/\Z8 w (.slice a' n c) 1 (xs.map Z7):=by
 obtain⟨a0,c0,e0,hl,hc⟩:=hx;simp only[Value.slice.injEq]at e0;obtain⟨rfl,hn,rfl⟩:=e0
 cases hy with
 | sl0 =>
  refine⟨none,rfl,none,c,by rw[hn],hl,λhne=>?_⟩;obtain⟨b,off,e,_⟩:=hc hne
  cases e
 | @sl a1 a2 _ _ q =>
  refine⟨some a2,rfl,some a2,c,by rw[hn],hl,λhne=>?_⟩;obtain⟨b,off,e,hb,hk⟩:=hc hne;obtain rfl:=Y1 e
  cases q with
  | @mk _ b' _ _ q =>
   obtain⟨_,h2⟩:b<v.heap.size/\b'<w.heap.size:=by
    obtain⟨p,p',g1,g2,_⟩:=h.on _ _ q;exact⟨(Y0.1 g1).1,(Y0.1 g2).1⟩
   refine⟨b',off,rfl,h2,λi j x hi hj=>?_⟩;have h3:=hk i j x hi hj;rw[Yn]at hi;obtain⟨z,_,rfl⟩:=Y3.1 hi;obtain rfl:j=0:=by omega
   have h4:v.cell? ⟨b,off+i*1+0,none⟩=some (.int .i64 z):=h3;obtain⟨y,h5,h6⟩:=Z4F h q h4
   cases h6
   exact h5
theorem ZdM(h:WH C r v w){x y:Value}(hx:Z4v v x xs)(hy:VR r x y): Z4v w y xs:=by
 obtain⟨a,c,rfl,hr⟩:=hx;obtain⟨a',rfl,hr'⟩:=ZaE h hr hy;exact⟨a',c,rfl,hr'⟩
theorem Z0e{w:World}{a:Option Addr}{n:Nat}{f:Nat->Value}:SlAt [] w a 1 n (λi=>[f i])↔∀i,i<n->∃b off,a=some ⟨b,off,none⟩/\w.cell? ⟨b,off+i,none⟩=some (f i):=by
 constructor
 ·intro h i hi
  obtain⟨b,off,h1,h2⟩:=h i hi;have e:=h1 0 0;simp only[Value.slice.injEq,and_true]at e;have:=h2 w (Ext.refl _ _) 0 (f i) (by simp);exact⟨b,off,e,by simpa using this⟩
 ·intro h i hi
  obtain⟨b,off,h1,h2⟩:=h i hi;refine⟨b,off,λm c=>by rw[h1],λW e j x hx=>?_⟩
  cases j with
  | zero =>
   simp only[List.getElem?_cons_zero,Y4]at hx;subst hx;have:=e.cell (a:=⟨b,off+i,none⟩) (Z0J h2).1 (by simp);simpa[this] using h2
  | succ j=>simp at hx
end
end
namespace Lift
open Go Go.Conc Go.RowKit
abbrev lawF:FuncId:=8
def lS:List Nat:=Qy.own++[15,26,66,185,186,lawF]
def gS(k:Nat):Bool:=lS.elem k
noncomputable def okS(k:Nat):Bool:=match (Qy.prog 0).funcs[k]? with
 | some fn=>!(fn.name == "runtime.NumGoroutine")&&match fn.body with
  | some c=>ZT (Qy.prog 0) gS (λ_ _=>false) false false false false c
  | none=>false
 | none=>false
theorem ZlN:lS.all okS=true:=by kernel_rfl
theorem Zdz {k:Nat} (h:gS k=true): ∃fn c,(Qy.prog 0).funcs[k]?=some fn/\(fn.name == "runtime.NumGoroutine")=false/\fn.body=some c/\ZT (Qy.prog 0) gS (λ_ _=>false) false false false false c=true:=by
 have h1:=Yl.1 ZlN k (List.elem_iff.1 h);unfold okS at h1
 cases e:(Qy.prog 0).funcs[k]? with
 | none=>rw[e]at h1;cases h1
 | some fn =>
  rw[e]at h1;simp only[Y5,Bool.not_eq_true']at h1
  cases eb:fn.body with
  | none=>have:=h1.2;rw[eb]at this;cases this
  | some c=>have:=h1.2;rw[eb]at this;exact⟨fn,c,rfl,h1.1,eb,this⟩
abbrev jk0:Jk:={j:=False,rest:=[],gd:=λf=>gS f=true}
theorem Z37:@Strip jk0 (Qy.prog 0) (Qy.F 0) (@CodeOk jk0 (Qy.prog 0) false) (λf=>gS f=true):=by
 refine @Strip.mk jk0 _ _ _ _ (λf h=>⟨rfl,id⟩) (λf fn h e=>?_) (λf fn c h e eb=>?_) (λf fn h e eb=>?_)<;>obtain⟨fn',c',h1,h2,h3,h4⟩:=Zdz h<;>have e:(Qy.prog 0).funcs[f]?=some fn:=e<;>rw[h1]at e<;>obtain rfl:=Y1 e
 ·exact h2
 ·rw[h3]at eb
  obtain rfl:=Y1 eb;refine⟨h1,?_,h⟩;have:=@Z27 jk0 (Qy.prog 0) gS false (λf q=>q) (λ_=>id) (λ_ _=>false) (λf n q=>by cases q) c' false false false h4;have e2:(false=true)=False:=by simp
  rw[e2]at this;exact this
 ·rw[h3]at eb;cases eb
theorem gokS:@GOk jk0 (Qy.prog 0) (Qy.F 0) (λf=>gS f=true):=by
 intro f h;obtain⟨fn,c,h1,h2,h3,h4⟩:=Zdz h;exact⟨rfl,⟨fn,c,h1,h3⟩,h,id⟩
theorem recS:@Rec jk0 (Qy.prog 0):=⟨(by kernel_rfl),λ_ h=>h⟩
theorem hQ0:PF (Qy.prog 0) (Qy.F 0)=Qy.prog 0:=rfl
section
variable[Jk]{P:Program}{F:Array Func}{G:FuncId->Prop}{Stop:List Frame->World->Prop}{V V':List Frame}{v v':World}
theorem Z4b(hQ:PF P F=P)(S:Strip P F (CodeOk P false) G)(hg:GOk P F G)(hrec:Rec P)(hP:∀x u,¬Stop [x] u)(k:Reach P Stop V v V' v')(hE:Ends P Stop V v)(h:Self P F V v):Self P F V' v':=by
 induction k with
 | refl=>exact h
 | @step f K v τ f' K' v1 es V' v' hn e t ih =>
  have hE1:Ends P Stop (f'::K') v1:=by
   cases hE with
   | stop q=>exact absurd q hn
   | step ok hk=>exact hk _ _ _ _ _ e
  rcases Self.step hQ S hg hrec h e with⟨rfl,hs⟩ | h1
  ·rw[<-hQ]at hE1
   exact absurd hE1 (Z0A hP hs)
  ·exact ih hE1 h1
theorem Z2C{f:Frame}{K:List Frame}(hn:¬Stop (f::K) v)(h:Z5W P Stop f K v V' v'): Reach P Stop (f::K) v V' v':=by
 obtain⟨τ,f',K',v1,es,e,t⟩:=h;exact .step hn e t
theorem Zbr(hQ:PF P F=P)(S:Strip P F (CodeOk P false) G)(hg:GOk P F G)(hrec:Rec P)(hP:∀x u,¬Stop [x] u){fr:Frame}{ch:List PanicEntry}(hm:fr.mode = .panicking ch)(hd:fr.defers=[])(hf:∃fn,P.funcs[fr.fn]?=some fn)(hE:Ends P Stop [fr,poison] v)(h:Self P F [fr,poison] v):Stop [fr,poison] v:=by
 cases hE with
 | stop q=>exact q
 | step ok hk =>
  exfalso;obtain⟨f0,A,r,hV,hi,hs,hw⟩:=h;simp only[List.cons.injEq]at hV;obtain⟨rfl,hA⟩:=hV;have hA:A=[]:=by
   cases A with
   | nil=>rfl
   | cons a tl=>have:=congrArg List.length hA;simp at this
  subst hA;have hfr:=hs.uncons.1;have hl:fr.leaving (PF P F) v (.panicked ch):=by rw[hQ];exact⟨hm,hd,hf⟩
  obtain⟨ch',h1,h2⟩:=Z3g (w:=re v v.tape) hfr hl true poison [];have hE1:=hk v.tape _ _ _ _ h2;rw[<-hQ]at hE1;have:Sour (poison.raise ch'):=.inr ⟨ch',rfl⟩;exact Z0A hP this hE1
end
section
variable[Jk]{C:Inv}{r:Ren}{u v w:World}
theorem Z2E(hh:∀b,b<v.heap.size->u.heap[b]?=v.heap[b]?)(hw:WH C r v w){n c:Nat}(hx:Z8 u (.slice a n c) 1 (xs.map Z7)){y:Value}(hy:VR r (.slice a n c) y): Z8 v (.slice a n c) 1 (xs.map Z7):=by
 obtain⟨a0,c0,e0,hl,hc⟩:=hx;refine⟨a0,c0,e0,hl,λhne=>?_⟩;obtain⟨b,off,rfl,hb,hk⟩:=hc hne;simp only[Value.slice.injEq]at e0;obtain⟨rfl,_,_⟩:=e0
 cases hy with
 | @sl a1 a2 _ _ q =>
  cases q with
  | @mk _ b' _ _ q =>
   obtain⟨o,_,h1,_⟩:=hw.on _ _ q;have hlt:=(Y0.1 h1).1;refine⟨b,off,rfl,hlt,λi j x hi hj=>?_⟩;rw[<-hk i j x hi hj];exact(World.cell?_of_block (w:=v) (hh b hlt)).symm
theorem Z4P(hh:∀b,b<v.heap.size->u.heap[b]?=v.heap[b]?)(hw:WH C r v w){n c:Nat}{L:List (Value×List Int)}(hx:Z0M u a L){y:Value}(hy:VR r (.slice a n c) y): Z0M v a L:=by
 obtain⟨h1,h2⟩:=hx;rw[Z0e]at h1;have key:∀i,i<L.length->∃b off,a=some ⟨b,off,none⟩/\v.cell? ⟨b,off+i,none⟩=some (L.getD i (.bool true,[])).1/\∃b',r b=some b':=by
  intro i hi;obtain⟨b,off,rfl,hc⟩:=h1 i hi
  cases hy with
  | @sl a1 a2 _ _ q =>
   cases q with
   | @mk _ b' _ _ q =>
    obtain⟨o,_,g1,_⟩:=hw.on _ _ q;have hlt:=(Y0.1 g1).1;exact⟨b,off,rfl,by rw[<-hc];exact(World.cell?_of_block (w:=v) (hh b hlt)).symm,b',q⟩
 refine⟨?_,λp hp=>?_⟩
 ·rw[Z0e]
  intro i hi;obtain⟨b,off,e,hc,_⟩:=key i hi;exact⟨b,off,e,hc⟩
 ·obtain⟨i,hi,rfl⟩:=List.getElem_of_mem hp
  obtain⟨b,off,e,hc,b',hb⟩:=key i hi;obtain⟨z,_,hz⟩:=Z4F hw hb hc;have e1:L.getD i (.bool true,[])=L[i]:=by simp[hi]
  rw[e1]at hz;obtain⟨a3,c3,e3,hr3⟩:=h2 _ (List.getElem_mem hi);rw[e3]at hz;exact⟨a3,c3,e3,Z2E hh hw hr3 hz⟩
end
end Lift
section
open Go
variable{μ:Nat}
def ToZ(P:Program)(K:List Frame)(Z:Frame->World->Prop)(f:Frame)(w:World):Prop:=∃f' w',Z f' w'/\Steps P (lone f K w) (lone f' K w')
section
variable{P:Program}{K:List Frame}{Z:Frame->World->Prop}{b f:Frame}{a:Act}{k:List Item}{w w':World}{x y c:Code}{ops:Array Oper}{i:Nat}{rest:List Nat}{o:Oper}
theorem ToZ.here(h:Z f w):ToZ P K Z f w:=⟨f,w,h,Steps.refl _ _⟩
theorem ToZ.go{f':Frame}(h:Steps P (lone f K w) (lone f' K w'))(q:ToZ P K Z f' w'): ToZ P K Z f w:=by
 obtain⟨f2,w2,h1,h2⟩:=q;exact⟨f2,w2,h1,h.trans h2⟩
theorem ToZ.one{f':Frame}(h:step P (lone f K w) = .next (lone f' K w'))(q:ToZ P K Z f' w'):ToZ P K Z f w:=q.go (.one h)
theorem tI{e:Exit}{q: Prop}(h:p): (e=e/\p)\/q:=.inl ⟨rfl,h⟩
theorem Z1r(h:ToZ P K Z (b.at a (.code x :: .code y::k)) w):ToZ P K Z (b.at a (.code (.seq x y)::k)) w:=h.one step_seq
theorem Z3o(h:x.wp P (λe a1 w1=>(e = .normal/\ToZ P K Z (b.at a1 k) w1)\/(e = .ret/\∀td,ToZ P K Z {b.at a1 td with mode:=.returning} w1)\/∃ch,e = .panic ch/\∀td,ToZ P K Z {b.at a1 td with mode:=.panicking ch} w1) a w):ToZ P K Z (b.at a (.code x::k)) w:=by
 obtain⟨e,a1,w1,hq,hr⟩:=h b k K
 rcases hq with⟨rfl,h1⟩ | ⟨rfl,h1⟩ | ⟨ch,rfl,h1⟩
 ·exact h1.go hr
 ·obtain⟨td,hr⟩:=hr
  exact(h1 td).go hr
 ·obtain⟨td,hr⟩:=hr
  exact(h1 td).go hr
end
end
namespace Ev
open Go Lift
def Z3l{α:Type}(P:Program):Sem α->Option α
 | .pure a=>some a
 | .program k=>Z3l P (k P)
 | _=>none
theorem Z2i{α:Type}{P:Program}{s:Sem α}{x:α}(h:Z3l P s=some x)(w:World): s.run P w = .ok x w/\∀es,s.events P w es=es:=by
 induction s with
 | pure a=>simp only[Z3l,Y4]at h;subst h;exact⟨rfl,λ_=>rfl⟩
 | program k ih=>exact ih P h
 | _=>cases h
structure FA where
 fn:FuncId
 n:Nat
 env:List (Nat×Value)
 todo:List Item
 defs:List Deferred
 kind:CallKind
 ret:Bool
structure FOk(a:FA)(f:Frame):Prop where
 fn:f.fn=a.fn
 size:f.tmps.size=a.n
 env:∀t v,a.env.lookup t=some v->f.tmps[t]?=some v
 todo:f.todo=a.todo
 defs:f.defers=a.defs
 kind:f.kind=a.kind
 mode:f.mode=if a.ret then .returning else .run
 round:f.roundOf=none
def FA.val(a:FA):Operand->Option Value
 | .tmp t=>a.env.lookup t
 | .const v=>some v
 | .func f=>some (.func (.func f) #[] #[])
 | .global _=>none
def FA.rho(a:FA)(x:Operand):Value:=(a.val x).getD undef
theorem FOk.val{a:FA}{f:Frame}(h:FOk a f){x:Operand}{v:Value}(e:a.val x=some v): f.eval x=v:=by
 cases x with
 | tmp t =>
  have:=h.env t v e;show f.tmps.getD t undef=v;rw[Y6,this];rfl
 | const u=>exact Y1 e
 | func g=>exact Y1 e
 | global g=>cases e
def ZdJ:Op->Option (List Operand)
 | .move x | .assign x | .nilCheck x=>some [x]
 | .pick c a b=>some [c,a,b]
 | .binOp _ _ x y _=>some [x,y]
 | .unOp _ _ x=>some [x]
 | .convert _ _ x=>some [x]
 | .fieldAddr _ x _=>some [x]
 | .indexAddr _ x i=>some [x,i]
 | .makeFunc _ xs ys=>some (xs.toList++ys.toList)
 | .typeAssert x _ _ _=>some [x]
 | .extract x _=>some [x]
 | .call c | .defer c=>match c.callee with
  | .value f=>some (f::c.args.toList)
  | _=>none
 | _=>none
theorem Z3J{xs:Array Operand}(h:∀x∈xs.toList,ρ x=ρ' x): xs.map ρ=xs.map ρ':=by
 apply Array.ext';rw[Array.toList_map,Array.toList_map];exact List.map_congr_left h
theorem Zbd{o:Oper}{l:List Operand}(hl:ZdJ o.op=some l)(h:∀x∈l,ρ x=ρ' x): execOp ρ o=execOp ρ' o:=by
 unfold execOp
 cases ho:o.op with
 | move x=>rw[ho]at hl;cases hl;simp only[h x (by simp)]
 | assign x=>rw[ho]at hl;cases hl;simp only[h x (by simp)]
 | nilCheck x=>rw[ho]at hl;cases hl;simp only[h x (by simp)]
 | pick c a b=>rw[ho]at hl;cases hl;simp only[h c (by simp),h a (by simp),h b (by simp)]
 | binOp op t x y u=>rw[ho]at hl;cases hl;simp only[h x (by simp),h y (by simp)]
 | unOp op t x=>rw[ho]at hl;cases hl;simp only[h x (by simp)]
 | convert s d x=>rw[ho]at hl;cases hl;simp only[h x (by simp)]
 | fieldAddr t x i=>rw[ho]at hl;cases hl;simp only[h x (by simp)]
 | indexAddr t x i=>rw[ho]at hl;cases hl;simp only[h x (by simp),h i (by simp)]
 | typeAssert x t u ok=>rw[ho]at hl;cases hl;simp only[h x (by simp)]
 | extract x i=>rw[ho]at hl;cases hl;simp only[h x (by simp)]
 | makeFunc fn xs ys =>
  rw[ho]at hl;cases hl;simp only[Z3J (xs:=xs) λx hx=>h x (by simp[Array.mem_toList_iff.1 hx]),Z3J (xs:=ys) λx hx=>h x (by simp[Array.mem_toList_iff.1 hx])]
 | call c =>
  rw[ho]at hl;obtain⟨callee,args,argTypes⟩:=c
  cases callee with
  | value f =>
   cases hl
   dsimp only;unfold resolve;dsimp only;rw[h f (by simp),Z3J (xs:=args) λx hx=>h x (by simp[Array.mem_toList_iff.1 hx])]
  | _=>cases hl
 | defer c =>
  rw[ho]at hl;obtain⟨callee,args,argTypes⟩:=c
  cases callee with
  | value f =>
   cases hl
   dsimp only;unfold resolve;dsimp only;rw[h f (by simp),Z3J (xs:=args) λx hx=>h x (by simp[Array.mem_toList_iff.1 hx])]
  | _=>cases hl
 | _=>simp[ho,ZdJ]at hl
def cvOk(P:Program)(s d:TypeId):Bool:=
 match P.underlying s,P.underlying d with
 | some (.pointer t),some .unsafePointer=>(P.info? t).map (λi=>decide (i.size=0))==some false
 | _,_=>false
def FA.op(P:Program)(a:FA)(o:Oper):Option (Next×List Addr):=
 let go:Unit->Option (Next×List Addr):=λ_=>match ZdJ o.op with
  | some l=>if l.all λx=>(a.val x).isSome then(Z3l P (execOp a.rho o)).map λn=>(n,[]) else none
  | none=>none
 match o.op with
 | .convert s d x=>match a.val x with
  | some (.pointer (some p))=>if cvOk P s d then some (.value (.pointer (some p)),[p]) else none
  | _=>go ()
 | _=>go ()
theorem Zfr {P:Program} {a:FA} {f:Frame} {o:Oper} {n:Next} {ps:List Addr} (h:FOk a f) (e:a.op P o=some (n,ps)) (w:World) (hp:∀p∈ps,∃v,w.cell? p=some v) :
    (execOp f.eval o).run P w = .ok n w/\∀es,(execOp f.eval o).events P w es=es:=by
  have gen:∀{n:Next} {ps:List Addr},(match ZdJ o.op with
    | some l=>if l.all λx=>(a.val x).isSome then(Z3l P (execOp a.rho o)).map λn=>(n,([]:List Addr)) else none
    | none=>none)=some (n,ps)->(execOp f.eval o).run P w = .ok n w/\∀es,(execOp f.eval o).events P w es=es:=by
    intro n ps e
    cases hl:ZdJ o.op with
    | none=>rw[hl]at e;cases e
    | some l =>
      rw[hl]at e;dsimp only at e
      split at e
      · rename_i hk
        have hag:execOp a.rho o=execOp f.eval o:=Zbd hl λx hx=>by
          have := Yl.1 hk x hx;obtain⟨v, hv⟩ := Option.isSome_iff_exists.1 this;rw[h.val hv, FA.rho, hv]; rfl
        obtain⟨m, hm, hm2⟩ := Y3.1 e;simp only[Y9]at hm2;obtain⟨rfl, _⟩ := hm2;rw[hag]at hm;exact Z2i hm w
      · cases e
  unfold FA.op at e;dsimp only at e
  cases ho:o.op with
  | convert s d x =>
    rw[ho]at e gen;dsimp only at e
    split at e
    · rename_i p hx
      split at e
      · rename_i hcv
        simp only[Y4, Y9]at e;obtain⟨rfl, rfl⟩ := e;obtain⟨v, hv⟩ := hp p (by simp);unfold cvOk at hcv
        split at hcv
        · rename_i t hs hd
          have hz:(P.info? t).map (λi=>decide (i.size=0))=some false:=by simpa using hcv
          have e1 := run_convert_to_unsafe (P := P) (w := w) hs hd hz hv;have e2 := λes => Conc.events_convert_to_unsafe (P := P) (w := w) hs hd hz hv es
          have he : execOp f.eval o = (do pure (Next.value (<- convert s d (.pointer (some p))))) := by
            unfold execOp;rw[ho];dsimp only;rw[h.val hx]
          rw[he];refine⟨?_, λes => ?_⟩
          · simp[e1]
          · simp[e1,e2]
        · cases hcv
      · cases e
    · exact gen e
  | _=>rw[ho]at e gen;exact gen e
def FA.ext(P:Program)(a:FA)(o:Oper):Option (FuncId×List Value):=
 match o.op with
 | .call c=>match c.callee with
  | .value (.func g)=>match P.funcs[g]? with
   | some fn=>if fn.body.isNone then(c.args.toList.mapM a.val).map λvs=>(g,vs) else none
   | none=>none
  | _=>none
 | _=>none
structure Xt where
 dis:FuncId
 en:FuncId
 acq:FuncId
 mrg:FuncId
 says:Bool
 pures:List (FuncId×Value)
inductive XEv where
 | none | dis | en | acq (p:Addr) | mrg (p:Addr)
def XEv.es:XEv->Array Event
 | .none=>#[]
 | .dis=>#[⟨.mark .disable,false,true⟩]
 | .en=>#[⟨.mark .enable,false,true⟩]
 | .acq p=>#[⟨.mark (.acquire p),false,true⟩]
 | .mrg p=>#[⟨.mark (.releaseMerge p),false,true⟩]
def Xt.act(X:Xt)(g:FuncId)(vs:List Value):Option (Value×XEv):=
 if g==X.dis then some (.tuple #[],.dis)
 else if g==X.en then some (.tuple #[],.en)
 else if X.says&&g==X.acq then match vs with
  | [.pointer (some p)]=>some (.tuple #[],.acq p)
  | _=>none
 else if X.says&&g==X.mrg then match vs with
  | [.pointer (some p)]=>some (.tuple #[],.mrg p)
  | _=>none
 else(X.pures.lookup g).map λv=>(v,.none)
structure St where
 top:FA
 rest:List FA
 cvs:List Addr
 mks:List Addr
 deaf:Nat
def FA.put(a:FA)(ops:Array Oper)(i:Nat)(rest:List Nat)(k:List Item)(v:Value):Option FA:=
 match (ops[i]?).bind (·.dst) with
 | some d=>if d<a.n then some {a with env:=(d,v)::a.env,todo:=.inRegion ops rest::k} else none
 | none=>some {a with todo:=.inRegion ops rest::k}
def FA.gd(a:FA)(ops:Array Oper)(o:Oper):Option Bool:=
 match o.guard with
 | none=>some true
 | some (j,want)=>match ((ops[j]?).bind (·.dst)) with
  | none=>some false
  | some d=>match a.env.lookup d with
   | some (.bool b)=>some (b==want)
   | some _=>some false
   | none=>none
structure Mv where
 top:FA
 rest:List FA
 ps:List Addr
 ev:XEv
def XEv.places:XEv->List Addr
 | .acq p | .mrg p=>[p]
 | _=>[]
def St.upd(s:St)(m:Mv):St:={top:=m.top,rest:=m.rest,cvs:=m.ps++s.cvs,mks:=m.ev.places++s.mks,deaf:=match m.ev with | .dis=>s.deaf+1 | .en=>s.deaf-1 | _=>s.deaf}
def Z85(g:FuncId)(fn:Func)(c:Code)(xs:Array Value)(k:CallKind):FA:=
 {fn:=g,n:=xs.size+(fn.ntmps-xs.size),env:=(List.range xs.size).zip xs.toList,todo:=[.code c],defs:=[],kind:=k,ret:=false}
def FA.to(a:FA)(cs:List FA)(k:List Item):Option Mv:=some ⟨{a with todo:=k},cs,[],.none⟩
def pmove(P:Program)(X:Xt)(a:FA)(r:List FA):Option Mv:=
 match a.ret with
 | true=>match a.defs with
  | d::ds=>match d.target with
   | .fn (.func g) ys=>match P.funcs[g]? with
    | some fn=>match fn.body with
     | some c=>if fn.name == "runtime.NumGoroutine" then none else some ⟨Z85 g fn c (d.args++ys) .deferred,{a with defs:=ds}::r,[],.none⟩
     | none=>if g==X.en then some ⟨{a with defs:=ds},r,[],.en⟩ else none
    | none=>none
   | _=>none
  | []=>match a.kind,r,P.funcs[a.fn]? with
   | .normal,c::cs,some fn=>match c.todo with
    | .inRegion ops (i::rest)::k=>match c.ret,fn.results.toList with
     | false,[]=>(c.put ops i rest k (.tuple #[])).map λc=>⟨c,cs,[],.none⟩
     | false,[.tmp t]=>(a.env.lookup t).bind λv=>(c.put ops i rest k v).map λc=>⟨c,cs,[],.none⟩
     | _,_=>none
    | _=>none
   | .deferred,c::cs,some fn=>match c.ret,fn.results.toList with
    | true,[]=>some ⟨c,cs,[],.none⟩
    | _,_=>none
   | _,_,_=>none
 | false=>match a.todo with
  | []=>some ⟨{a with ret:=true},r,[],.none⟩
  | .code .skip::k=>a.to r k
  | .code (.label _)::k=>a.to r k
  | .code (.seq x y)::k=>a.to r (.code x :: .code y::k)
  | .code (.block i c)::k=>a.to r (.code c :: .inBlock i::k)
  | .code (.loop c)::k=>a.to r (.code c :: .inLoop c::k)
  | .code (.scope c)::k=>a.to r (.code c :: .inScope c::k)
  | .code (.cond x y z)::k=>match a.val x with
   | some (.bool b)=>a.to r (.code (if b then y else z)::k)
   | _=>none
  | .code (.exit i)::k=>(exitTo i k).bind λk=>a.to r k
  | .code .ret::_=>some ⟨{a with ret:=true},r,[],.none⟩
  | .code (.region _ ops false)::k=>a.to r (.inRegion ops (List.range ops.size)::k)
  | .inBlock _::k=>a.to r k
  | .inScope _::k=>a.to r k
  | .inLoop c::k=>a.to r (.code c :: .inLoop c::k)
  | .inRegion _ []::k=>a.to r k
  | .inRegion ops (i::rest)::k=>match ops[i]? with
   | none=>none
   | some o=>match a.gd ops o with
    | some false=>(a.put ops i rest k undef).map λa=>⟨a,r,[],.none⟩
    | some true=>match a.ext P o with
     | some (g,vs)=>if a.kind == .early then none else match X.act g vs with
      | some (v,ev)=>(a.put ops i rest k v).map λa=>⟨a,r,[],ev⟩
      | none=>none
     | none=>match a.op P o with
      | some (.value v,ps)=>(a.put ops i rest k v).map λa=>⟨a,r,ps,.none⟩
      | some (.defer d,ps)=>(a.put ops i rest k undef).map λa=>⟨{a with defs:=d::a.defs},r,ps,.none⟩
      | some (.enter f xs,ps)=>match P.funcs[f]? with
       | some fn=>match fn.body with
        | some c=>some ⟨Z85 f fn c xs .normal,a::r,ps,.none⟩
        | none=>none
       | none=>none
      | _=>none
    | none=>none
  | _=>none
def pn(P:Program)(X:Xt):Nat->St->St
 | 0,s=>s
 | n+1,s=>match pmove P X s.top s.rest with
  | some m=>pn P X n (s.upd m)
  | none=>s
theorem pn_mono(P:Program)(X:Xt):∀(n:Nat) (s:St),(∀p∈s.cvs,p∈(pn P X n s).cvs)/\∀p∈s.mks,p∈(pn P X n s).mks
 | 0,s=>⟨λ_ h=>h,λ_ h=>h⟩
 | n+1,s=>by
  unfold pn
  split
  ·obtain⟨h1,h2⟩:=pn_mono P X n (s.upd ‹_›)
   exact⟨λp hp=>h1 p (List.mem_append_right _ hp),λp hp=>h2 p (List.mem_append_right _ hp)⟩
  ·exact⟨λ_ h=>h,λ_ h=>h⟩
end Ev
end Go.Proofs.YtfelljbfeoplhaaGreat
