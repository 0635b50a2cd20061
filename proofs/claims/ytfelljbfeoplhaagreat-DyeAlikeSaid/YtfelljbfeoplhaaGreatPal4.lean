/- Parts of a proof: Jc, Ck, Je, Qs, Ux. No conditions. -/
import Derived.Test.YtfelljbfeoplhaaGreatPal1
import Derived.Test.YtfelljbfeoplhaaGreatPal3
set_option linter.unusedVariables false
set_option linter.unusedSimpArgs false
set_option linter.unusedSectionVars false
set_option maxRecDepth 100000
set_option maxHeartbeats 4000000
variable {f:Go.Frame} {K:List Go.Frame} {t:Go.TypeId} {k:Nat}
namespace Go.Proofs.YtfelljbfeoplhaaGreat.Lift
open Go Go.Conc
variable [Jk]
section
variable {P:Program} {F:Array Func} {G:FuncId → Prop} {r r':Ren} {u u' v v' w w':World} {Stop:List Frame → World → Prop} {V V':List Frame}
theorem Z93 (hi:Idn r) (hs:v.heap.size = u.heap.size) (k:Kept r r' v v' u u'):Idn r' ∧ v'.heap.size = u'.heap.size:=by
 obtain ⟨h1,h2,_⟩:=k.par hs;refine ⟨fun b c q=>?_,h1⟩
 rcases h2 _ _ q with q | q
 ·exact hi _ _ q
 ·exact q.symm
def Self (P:Program) (F:Array Func) (V:List Frame) (v:World):Prop:=
 ∃ f A r,V = f :: (A ++ [poison]) ∧ Idn r ∧ Stk P F r (f :: A) (f :: A) ∧ WR (Iv P F) r v v
theorem WR.re (h:WR (Iv P F) r v v) (τ:Nat → Question → Nat):WR (Iv P F) r (re v τ) (re v τ):=⟨h.on,h.inj,fun _ _=>rfl,rfl⟩
theorem Z9a (S:Strip P F (CodeOk P false) G) (hg:GOk P F G) (hrec:Rec P) {g f': Frame} {A B K':List Frame} {es:Array Event} (hs:Stk P F r (f :: A) (g :: B)) (hw:WR (Iv P F) r v u) (m:Bool) (cs:List Frame) (e:stepG (PF P F) true (run1 f (A ++ [poison])) v = .go (run1 f' K') v' es):
  (K' = [] ∧ Sour f') ∨ ∃ A' g' B' r' u' ns,K' = A' ++ [poison] ∧ stepG P m (run1 g (B ++ cs)) u = .go (run1 g' (B' ++ cs)) u' ns ∧ Stk P F r' (f' :: A') (g' :: B') ∧ WR (Iv P F) r' v' u' ∧ Kept r r' v v' u u':=by
 have h:=Z6s (cs:=cs) (m:=m) S hg hrec.1 hs hw fun q=>hrec.2 _ q.1;rw [e] at h
 rcases h with h | ⟨r',g',W,u',ns,h0,_,_,_,⟨A',B',h4,h5,h6,h7⟩,h8,h9,h10⟩
 ·refine .inl ?_
  rcases h with h | ⟨c,h⟩
  ·simp only [run1,Goroutine.mk.injEq] at h
   exact ⟨h.2.1,.inl h.1⟩
  ·simp only [run1,Goroutine.mk.injEq] at h
   exact ⟨h.2.1,.inr ⟨c,h.1⟩⟩
 ·cases A' with
  | nil=>exact absurd rfl h6
  | cons a az =>
   cases B' with
   | nil=>have:=h7.rel;cases this
   | cons b bs =>
    simp only [run1,List.cons_append,List.cons.injEq] at h4 h5;obtain ⟨rfl,rfl⟩:=h4;obtain ⟨rfl,rfl⟩:=h5;exact .inr ⟨az,_,bs,r',u',ns,rfl,h0,h7,h8,h9⟩
theorem Self.step (hQ:PF P F = P) (S:Strip P F (CodeOk P false) G) (hg:GOk P F G) (hrec:Rec P) {f f':Frame} {K K':List Frame} {τ:Nat → Question → Nat} {es:Array Event} (h:Self P F (f :: K) v)
  (e:stepG P true (run1 f K) (re v τ) = .go (run1 f' K') v' es):(K' = [] ∧ Sour f') ∨ Self P F (f' :: K') v':=by
 obtain ⟨f0,A,r,hV,hi,hs,hw⟩:=h;simp only [List.cons.injEq] at hV;obtain ⟨rfl,rfl⟩:=hV;have e0:=e;rw [← hQ] at e0
 rcases Z9a S hg hrec hs (hw.re τ) true [poison] e0 with h | ⟨A',g',B',r',u',ns,rfl,e2,h1,h2,h3⟩
 ·exact .inl h
 ·rw [e] at e2
  simp only [GStep.go.injEq,run1,Goroutine.mk.injEq,and_true] at e2;obtain ⟨⟨rfl,q⟩,rfl,_⟩:=e2;obtain rfl:A' = B':=List.append_cancel_right q;exact .inr ⟨_,_,r',rfl,(Z93 hi rfl h3).1,h1,h2⟩
theorem Self.seat (hQ:PF P F = P) (h:Self P F (f :: K) v): Seat P F f K v:=by
 obtain ⟨f0,A,r,hV,hi,hs,hw⟩:=h;simp only [List.cons.injEq] at hV;obtain ⟨rfl,rfl⟩:=hV;exact .inl ⟨_,_,_,_,_,rfl,hs,hw⟩
theorem ZdW {m':Machine} (h:step P (lone f K v) = .next m') (hx:(∃ o w2 es,stepG P true (run1 f K) v = .ended o w2 es) ∨ ∃ f' K' v' es,stepG P true (run1 f K) v = .go (run1 f' K') v' es):
  ∃ f' K' v' es,stepG P true (run1 f K) v = .go (run1 f' K') v' es ∧ m' = lone f' K' v':=by
 rcases hx with ⟨o,w2,es,e⟩ | ⟨f',K',v',es,e⟩
 ·rw [step_end e] at h;cases h
 ·rw [Zdk e] at h
  injection h with h
  exact ⟨_,_,_,_,e,h.symm⟩
theorem ZgD (hQ:PF P F = P) (S:Strip P F (CodeOk P false) G) (hg:GOk P F G) (hrec:Rec P) (hS:∀ V v,Stop V v → V.length = 2):
  ∀ (n:Nat) {a b a':Frame} {A B:List Frame} {r:Ren} {v u v':World},runN P n (lone a (A ++ [poison]) v) = .next (lone a' [poison] v') → Stk P F r (a :: A) (b :: B) → WR (Iv P F) r v u → Idn r → v.heap.size = u.heap.size →
   ∃ b' r' u',Reach P Stop (b :: (B ++ [f,poison])) u (b' :: [f,poison]) u' ∧ Stk P F r' [a'] [b'] ∧ WR (Iv P F) r' v' u' ∧ Idn r' ∧ Kept r r' v v' u u':=by
 intro n
 induction n with
 | zero =>
  intro a b a' A B r v u v' h hs hw hi hz
  injection h with h
  have e1:v = v':=congrArg (·.world) h;have e2:=congrArg (·.gs) h;simp only [lone,Array.mk.injEq,List.cons.injEq,Goroutine.mk.injEq,and_true] at e2;obtain ⟨rfl,e3⟩:=e2;subst e1;have hA:A = []:=by simpa using e3
  subst hA;have hB:B = []:=by
   have:=hs.uncons.2.1.rel
   cases this
   rfl
  subst hB;exact ⟨b,r,u,.refl,hs,hw,hi,Kept.refl _ _ _⟩
 | succ n ih =>
  intro a b a' A B r v u v' h hs hw hi hz;have hst:=Seat.step S hg hrec (f:=a) (K:=A ++ [poison]) (.inl ⟨_,_,_,_,_,rfl,hs,hw⟩) v.tape;rw [hQ] at hst;have h0:runN P (n + 1) (lone a (A ++ [poison]) v) = match step P (lone a (A ++ [poison]) v) with | .next m=>runN P n m | e=>e:=rfl
  rw [h0] at h
  cases hx:step P (lone a (A ++ [poison]) v) with
  | ended o w2=>rw [hx] at h;cases h
  | next m1 =>
   rw [hx] at h;obtain ⟨a1,K1,v1,es,e,rfl⟩:=ZdW hx (by
    rcases hst with q | ⟨f',K',v',es,e,_⟩
    ·exact .inl q
    ·exact .inr ⟨f',K',v',es,e⟩)
   have e0:=e;rw [← hQ] at e0
   rcases Z9a S hg hrec hs hw true [f,poison] e0 with ⟨rfl,q⟩ | ⟨A1,b1,B1,r1,u1,ns,rfl,e2,h1,h2,h3⟩
   ·exfalso
    dsimp only at h
    cases n with
    | zero =>
     injection h with h
     have e2:=congrArg (·.gs) h;simp only [lone,Array.mk.injEq,List.cons.injEq,Goroutine.mk.injEq] at e2;exact absurd e2.1.2.1 (by simp)
    | succ n =>
     obtain ⟨o,w2,es2,e3⟩:=Z1R (Q:=P) q v1;have h1:runN P (n + 1) (lone a1 [] v1) = match step P (lone a1 [] v1) with | .next m=>runN P n m | e=>e:=rfl
     rw [h1,step_end e3] at h
     cases h
   ·obtain ⟨i1,i2⟩:=Z93 hi hz h3
    obtain ⟨b',r',u',t,q1,q2,q3,q4⟩:=ih h h1 h2 i1 i2;refine ⟨b',r',u',.step (τ:=u.tape) (fun q=>?_) e2 t,q1,q2,q3,h3.trans q4⟩;have:=hS _ _ q;simp at this
theorem ZiN {T T':Nat → Question → Nat} (k:Kept r r' (re v T) (re v' T') u u'):Kep r r' v v' u u':=
 ⟨k.le,rfl,rfl,⟨0,rfl,rfl⟩,k.os,k.sizeV,k.sizeW,k.far,k.new,k.shut,k.cells,k.farV,k.shutW,k.par,k.out⟩
theorem Z6p (hQ:PF P F = P) (S:Strip P F (CodeOk P false) G) (hg:GOk P F G) (hrec:Rec P) (hS:∀ V v,Stop V v → V.length = 2) {f:Frame} {jf:FuncId} {c:Call} (hs:Stk P F r [f] [f]) (hw:WR (Iv P F) r v v) (hi:Idn r)
  (hc:AtCall f jf c) (gf:G jf) (ha:∀ x ∈ c.args,RdOk x) (T:Nat → Question → Nat) {R:Ending → World → Prop} (hn:∀ u,¬ R .outgrown u) (hC:Calls P jf (c.args.map f.eval) (re v T) R) :
  ∃ e v' u' r',R e v' ∧ Idn r' ∧ WH (Iv P F) r' v' u' ∧ Kep r r' v v' v u' ∧
   ((∃ x y,e = .returned x ∧ VR r' x y ∧ Z5I P Stop f [poison] v [f.finish y,poison] u') ∨ ∃ ch ch',e = .panicked ch ∧ Lis (PR r') ch ch' ∧ Z5I P Stop f [poison] v [f.raise ch',poison] u'):=by
 obtain ⟨h1,⟨fn,b,h2,h3⟩,h4,h5⟩:=hg jf gf;rw [h1] at h2;have hf:=hs.uncons.1;have hst:=hc.step h2 h3 (S.name _ _ h4 (h1 ▸ h2)) hf.kind.2 true [poison] (re v T);have hfr:=Z0S S (Z2p hf.env ha) gf hg (k:=.normal) (.inl rfl);rw [hQ] at hfr;have hS1:Stk P F r [Frame.enter P jf (c.args.map f.eval) .normal] [Frame.enter P jf (c.args.map f.eval) .normal]:=⟨.cons hfr .nil,⟨.inl rfl,fun h=>absurd rfl h⟩,trivial⟩;obtain ⟨e,v',fr,hR,hcm,hfn,hl⟩:=hC [poison];have run:∀ n,runN P n (lone (Frame.enter P jf (c.args.map f.eval) .normal) [poison] (re v T)) = .next (lone fr [poison] v') → ∃ b' r' u',Reach P Stop [Frame.enter P jf (c.args.map f.eval) .normal,f,poison] (re v T) (b' :: [f,poison]) u' ∧ Stk P F r' [fr] [b'] ∧ WR (Iv P F) r' v' u' ∧ Idn r' ∧ Kept r r' (re v T) v' (re v T) u':=
  fun n hn=>ZgD hQ S hg hrec hS n (A:=[]) (B:=[]) hn hS1 (hw.re T) hi rfl
 cases e with
 | outgrown=>exact absurd hR (hn _)
 | returned x =>
  obtain ⟨n,hn⟩:=hcm;obtain ⟨b',r',u',t,q1,q2,q3,q4⟩:=run n hn;have hl':fr.leaving (PF P F) (re v' v'.tape) (.returned x):=by rw [hQ];exact hl
  obtain ⟨r2,T2,y,u2,ns,s1,s2,s3,s4,_⟩:=Z5d q1.uncons.1 q2.h hl' true f [poison];have z:=(q4.par rfl).1;obtain ⟨i1,_⟩:=Z93 q3 (by exact z) s4;refine ⟨_,v',u2,r2,hR,i1,s3.h.of rfl rfl s3.env,(Kep.of (v:=v) (v0:=Lift.re v T) (w:=v) (w0:=Lift.re v T) ⟨rfl,rfl,rfl⟩ ⟨rfl,rfl,rfl⟩ q4).trans (ZiN s4),.inl ⟨x,y,rfl,s2,T,_,_,_,_,hst,t.trans (.step (τ:=u'.tape) (fun q=>?_) s1 .refl)⟩⟩;have:=hS _ _ q;simp at this
 | panicked ch =>
  obtain ⟨n,hn⟩:=hcm;obtain ⟨b',r',u',t,q1,q2,q3,q4⟩:=run n hn;have hl':fr.leaving (PF P F) v' (.panicked ch):=by rw [hQ];exact hl
  obtain ⟨ch',s1,s2⟩:=Z2X (w:=u') q1.uncons.1 hl' true f [poison];refine ⟨_,v',u',r',hR,q3,q2.h,Kep.of (v:=v) (v0:=Lift.re v T) (w:=v) (w0:=Lift.re v T) ⟨rfl,rfl,rfl⟩ ⟨rfl,rfl,rfl⟩ q4,.inr ⟨ch,ch',rfl,s1,T,_,_,_,_,hst,t.trans (.step (τ:=u'.tape) (fun q=>?_) s2 .refl)⟩⟩;have:=hS _ _ q;simp at this
end
end Go.Proofs.YtfelljbfeoplhaaGreat.Lift
namespace Go.Proofs.YtfelljbfeoplhaaGreat.Lift
open Go Go.Conc
variable [Jk]
section
variable {P:Program}
def plB:Nat → Value → Bool
 | _,.bool _=>true
 | _,.int _ _=>true
 | _,.string _=>true
 | _,.pointer none=>true
 | _,.slice none _ _=>true
 | _,.map none=>true
 | _,.nilFunc=>true
 | _,.nilIface=>true
 | n + 1,.iface _ v=>plB n v
 | n + 1,.agg xs=>xs.all (plB n)
 | n + 1,.tuple xs=>xs.all (plB n)
 | _,_=>false
theorem ZfJ:∀ (n:Nat) (v:Value),plB n v = true → Z5B v:=by
 have arr:∀ (n:Nat) (xs:Array Value),(∀ v,plB n v = true → Z5B v) → xs.all (plB n) = true → ∀ r,VRs r xs xs:=by
  intro n xs ih h r;refine ⟨rfl,fun i x y a b=>?_⟩;rw [a] at b;obtain rfl:=Option.some.inj b;exact ih x (Array.all_eq_true_iff_forall_mem.1 h x (Array.mem_of_getElem? a)) r
 intro n
 induction n with
 | zero =>
  intro v h r
  cases v with
  | bool b=>exact .bool b
  | int k n=>exact .int k n
  | string s=>exact .string s
  | pointer a=>cases a <;> first | exact .ptr0 | cases h
  | slice a n c=>cases a <;> first | exact .sl0 n c | cases h
  | map a=>cases a <;> first | exact .map0 | cases h
  | nilFunc=>exact .func0
  | nilIface=>exact .iface0
  | _=>cases h
 | succ n ih =>
  intro v h r
  cases v with
  | bool b=>exact .bool b
  | int k n=>exact .int k n
  | string s=>exact .string s
  | pointer a=>cases a <;> first | exact .ptr0 | cases h
  | slice a n c=>cases a <;> first | exact .sl0 n c | cases h
  | map a=>cases a <;> first | exact .map0 | cases h
  | nilFunc=>exact .func0
  | nilIface=>exact .iface0
  | iface t v=>exact .iface t (ih v h r)
  | agg xs=>exact .aggA (arr n xs ih h r)
  | tuple xs=>exact .tupA (arr n xs ih h r)
  | _=>cases h
def zB (P:Program) (t:TypeId):Bool:=match P.info? t with
 | some i=>match i.zero with
  | some v=>plB 8 v
  | none=>true
 | none=>true
theorem Z8n (h:zB P t = true): ZOk P t:=by
 intro i v h1 h2;unfold zB at h;rw [h1] at h;dsimp only at h;rw [h2] at h;exact ZfJ 8 v h
def eqB (P:Program) (sj:Bool):Nat → TypeId → Bool
 | 0,_=>true
 | d + 1,t=>match P.underlying t with
  | some .bool=>true
  | some .string=>true
  | some (.slice _)=>true
  | some (.map _ _)=>true
  | some (.func _ _ _)=>!sj
  | some (.int _)=>match P.info? t with
   | some i=>match i.desc with
    | .named n _ => n != "sync.copyChecker"
    | _=>true
   | none=>true
  | some (.struct fs)=>fs.all fun f=>eqB P sj d f.type
  | some (.array _ e)=>eqB P sj d e
  | _=>false
theorem Z9O {sj:Bool} (nj:sj = false → ¬ Jk.j):∀ (d:Nat) (t:TypeId),eqB P sj d t = true → EqOk P d t
 | 0,_,_=>trivial
 | d + 1,t,h=>by
  unfold eqB at h;unfold EqOk
  cases hu:P.underlying t with
  | none=>rw [hu] at h;cases h
  | some k =>
   rw [hu] at h
   cases k with
   | int _ =>
    intro i hi u e;rw [hi] at h;dsimp only at h;rw [e] at h;simp at h
   | struct fs=>exact fun f hf=>Z9O nj d _ (Array.all_eq_true_iff_forall_mem.1 h f hf)
   | array n e=>exact Z9O nj d _ h
   | func _ _ _=>exact nj (by simpa using h)
   | _=>first | trivial | cases h
def seB (P:Program) (f:TypeId → Bool) (t:TypeId):Bool:=match P.underlying t with
 | some (.slice e)=>f e
 | _=>true
def rdB (gd:Nat → Bool):Operand → Bool
 | .const v=>plB 8 v
 | .global _=>false
 | .func f=>gd f
 | .tmp _=>true
def badB (P:Program):Bool:=(P.info? 1000000).isNone
def clB (P:Program) (gd:Nat → Bool) (sj:Bool) (c:Call):Bool:=c.args.all (rdB gd) && match c.callee with
 | .value f=>rdB gd f && badB P
 | .invoke _ _=>false
 | .builtin .append=>(match c.argTypes[1]? with
   | some t=>match P.underlying t with
    | some (.slice _)=>true
    | some .string=>true
    | _=>false
   | none=>true) && match c.argTypes[0]? with
   | some t=>seB P (zB P) t
   | none=>true
 | .builtin .copy=>true
 | .builtin .len=>true
 | .builtin .cap=>true
 | .builtin .min=>true
 | .builtin .max=>true
 | .builtin .recover=>true
 | .builtin _=>false
def intB (P:Program) (t:TypeId):Bool:=match P.underlying t with
 | some (.int _)=>true
 | _=>false
def mapB (P:Program) (t:TypeId):Bool:=match P.underlying t with
 | some (.map k e)=>eqB P false Op.maxDepth k && zB P e
 | _=>true
def opB (P:Program) (gd:Nat → Bool) (sj:Bool):Op → Bool
 | .move x=>rdB gd x
 | .assign x=>rdB gd x
 | .pick c a b=>rdB gd c && (rdB gd a && rdB gd b)
 | .alloc t=>zB P t
 | .box _ x=>rdB gd x
 | .build t ps=>zB P t && ps.all fun p=>rdB gd p.2
 | .buildSlice t _ ps=>seB P (zB P) t && ps.all fun p=>rdB gd p.2
 | .load _ a=>rdB gd a
 | .store _ a x=>rdB gd a && rdB gd x
 | .nilCheck x=>rdB gd x && badB P
 | .binOp .eql t x y _=>eqB P sj Op.maxDepth t && (rdB gd x && rdB gd y)
 | .binOp .neq t x y _=>eqB P sj Op.maxDepth t && (rdB gd x && rdB gd y)
 | .binOp _ t x y _=>rdB gd x && rdB gd y
 | .unOp _ _ x=>rdB gd x
 | .convert s d x=>intB P s && (intB P d && rdB gd x)
 | .makeInterface _ x=>rdB gd x
 | .makeFunc (.func f) xs ys=>gd f && (xs.all (rdB gd) && ys.all (rdB gd))
 | .makeMap _ x=>x.all (rdB gd)
 | .makeSlice t l c=>seB P (zB P) t && (rdB gd l && rdB gd c)
 | .slice _ x lo hi mx=>rdB gd x && (lo.all (rdB gd) && (hi.all (rdB gd) && mx.all (rdB gd)))
 | .fieldAddr _ x _=>rdB gd x
 | .indexAddr _ x i=>rdB gd x && rdB gd i
 | .index _ x i=>rdB gd x && rdB gd i
 | .lookup t x i _=>!sj && (mapB P t && (rdB gd x && rdB gd i))
 | .mapUpdate t m k x=>!sj && (mapB P t && (rdB gd m && (rdB gd k && rdB gd x)))
 | .typeAssert x _ u ok=>ok && (zB P u && rdB gd x)
 | .extract t _=>rdB gd t
 | .call c=>clB P gd sj c
 | .defer c=>clB P gd sj c && match c.callee with
  | .value (.func _)=>true
  | _=>false
 | .panic x=>rdB gd x
 | _=>false
section
variable {gd:Nat → Bool} {sj:Bool} (hgd:∀ f,gd f = true → Jk.gd f) (nj:sj = false → ¬ Jk.j)
include hgd
theorem Zq {x:Operand} (h:rdB gd x = true): RdOk x:=by
 cases x with
 | tmp t=>trivial
 | const v=>exact ZfJ 8 v h
 | global g=>cases h
 | func f=>exact hgd f h
theorem Zbn {xs:Array Operand} (h:xs.all (rdB gd) = true): ∀ x ∈ xs,RdOk x:=fun x hx=>Zq hgd (Array.all_eq_true_iff_forall_mem.1 h x hx)
theorem Zfx {xs:Array (Nat × Operand)} (h:(xs.all fun p=>rdB gd p.2) = true): ∀ x ∈ xs,RdOk x.2:=fun x hx=>Zq hgd (Array.all_eq_true_iff_forall_mem.1 h x hx)
theorem Z9Q {x:Option Operand} (h:x.all (rdB gd) = true): ∀ y,x = some y → RdOk y:=by
 rintro y rfl;exact Zq hgd h
omit hgd in
theorem seB_ok {f:TypeId → Bool} (h:seB P f t = true) {e:TypeId} (k:P.underlying t = some (.slice e)): f e = true:=by
 unfold seB at h;rw [k] at h;exact h
omit hgd in
theorem intB_ok (h:intB P t = true): ∃ k,P.underlying t = some (.int k):=by
 unfold intB at h
 cases e:P.underlying t with
 | none=>rw [e] at h;cases h
 | some d =>
  rw [e] at h
  cases d <;> first | exact ⟨_,rfl⟩ | cases h
omit hgd in
theorem badB_ok (h:badB P = true):Z7r P:=by simpa [badB,Z7r] using h
theorem Zfw (nj:sj = false → ¬ Jk.j) {c:Call} (h:clB P gd sj c = true):ClOk P c:=by
 unfold clB at h;unfold ClOk;simp only [Bool.and_eq_true] at h;refine ⟨Zbn hgd h.1,?_⟩;have h2:=h.2
 cases hc:c.callee with
 | value f=>rw [hc] at h2;simp only [Bool.and_eq_true] at h2;exact ⟨Zq hgd h2.1,badB_ok h2.2⟩
 | invoke x n=>rw [hc] at h2;cases h2
 | builtin b =>
  rw [hc] at h2
  cases b <;> dsimp only at h2 ⊢ <;> first | trivial | (cases h2;done) | skip
  simp only [Bool.and_eq_true] at h2;refine ⟨fun t ht=>?_,fun t e ht he=>?_⟩
  ·have h3:=h2.1
   rw [ht] at h3;dsimp only at h3
   cases e:P.underlying t with
   | none=>rw [e] at h3;cases h3
   | some d =>
    rw [e] at h3
    cases d <;> first | exact .inl ⟨_,rfl⟩ | exact .inr rfl | cases h3
  ·have h3:=h2.2
   rw [ht] at h3;exact Z8n (seB_ok h3 he)
include nj
theorem ZcW (hs:sj = false) (h:mapB P t = true): Zcp P t:=by
 refine ⟨nj hs,fun k e he=>?_⟩;unfold mapB at h;rw [he] at h;simp only [Bool.and_eq_true] at h;exact ⟨Z9O (fun _=>nj hs) _ _ h.1,Z8n h.2⟩
theorem ZiW {o:Op} (h:opB P gd sj o = true):OpOk P o:=by
 unfold OpOk
 cases o with
 | move x=>exact Zq hgd h
 | assign x=>exact Zq hgd h
 | pick c a b=>simp only [opB,Bool.and_eq_true] at h;exact ⟨Zq hgd h.1,Zq hgd h.2.1,Zq hgd h.2.2⟩
 | alloc t=>exact Z8n h
 | box t x=>exact Zq hgd h
 | build t ps=>simp only [opB,Bool.and_eq_true] at h;exact ⟨Z8n h.1,Zfx hgd h.2⟩
 | buildSlice t n ps=>simp only [opB,Bool.and_eq_true] at h;exact ⟨fun e he=>Z8n (seB_ok h.1 he),Zfx hgd h.2⟩
 | load t a=>exact Zq hgd h
 | store t a x=>simp only [opB,Bool.and_eq_true] at h;exact ⟨Zq hgd h.1,Zq hgd h.2⟩
 | nilCheck x=>simp only [opB,Bool.and_eq_true] at h;exact ⟨Zq hgd h.1,badB_ok h.2⟩
 | binOp op t x y u =>
  have:(op = .eql ∨ op = .neq → eqB P sj Op.maxDepth t = true) ∧ rdB gd x = true ∧ rdB gd y = true:=by
   cases op <;> simp only [opB,Bool.and_eq_true] at h <;> first | exact ⟨fun _=>h.1,h.2.1,h.2.2⟩ | exact ⟨fun q=>(by rcases q with q | q <;> cases q),h.1,h.2⟩
  exact ⟨fun q=>Z9O nj _ _ (this.1 q),Zq hgd this.2.1,Zq hgd this.2.2⟩
 | unOp op t x=>exact Zq hgd h
 | convert s d x=>simp only [opB,Bool.and_eq_true] at h;exact ⟨⟨intB_ok h.1,intB_ok h.2.1⟩,Zq hgd h.2.2⟩
 | makeInterface t x=>exact Zq hgd h
 | makeFunc fn xs ys =>
  cases fn with
  | func f=>simp only [opB,Bool.and_eq_true] at h;exact ⟨⟨f,rfl,hgd f h.1⟩,Zbn hgd h.2.1,Zbn hgd h.2.2⟩
  | _=>cases h
 | makeMap t x=>exact Z9Q hgd h
 | makeSlice t l c=>simp only [opB,Bool.and_eq_true] at h;exact ⟨fun e he=>Z8n (seB_ok h.1 he),Zq hgd h.2.1,Zq hgd h.2.2⟩
 | slice t x lo hi mx=>simp only [opB,Bool.and_eq_true] at h;exact ⟨Zq hgd h.1,Z9Q hgd h.2.1,Z9Q hgd h.2.2.1,Z9Q hgd h.2.2.2⟩
 | fieldAddr t x n=>exact Zq hgd h
 | indexAddr t x i=>simp only [opB,Bool.and_eq_true] at h;exact ⟨Zq hgd h.1,Zq hgd h.2⟩
 | index t x i=>simp only [opB,Bool.and_eq_true] at h;exact ⟨Zq hgd h.1,Zq hgd h.2⟩
 | lookup t x i c=>simp only [opB,Bool.and_eq_true,Bool.not_eq_true'] at h;exact ⟨ZcW hgd nj h.1 h.2.1,Zq hgd h.2.2.1,Zq hgd h.2.2.2⟩
 | mapUpdate t a b c=>simp only [opB,Bool.and_eq_true,Bool.not_eq_true'] at h;exact ⟨ZcW hgd nj h.1 h.2.1,Zq hgd h.2.2.1,Zq hgd h.2.2.2.1,Zq hgd h.2.2.2.2⟩
 | typeAssert x t u ok=>simp only [opB,Bool.and_eq_true] at h;exact ⟨h.1,Z8n h.2.1,Zq hgd h.2.2⟩
 | extract t n=>exact Zq hgd h
 | call c=>exact Zfw hgd nj h
 | defer c =>
  simp only [opB,Bool.and_eq_true] at h;refine ⟨Zfw hgd nj h.1,?_⟩
  cases hc:c.callee with
  | value f =>
   have h2:=h.2;rw [hc] at h2
   cases f with
   | func g=>exact ⟨_,rfl,g,rfl⟩
   | _=>cases h2
  | _=>have:=h.2;rw [hc] at this;cases this
 | panic x=>exact Zq hgd h
 | _=>cases h
def dfB:Op → Bool
 | .defer _=>false
 | _=>true
def jcB (jmp:Nat → Nat → Bool):Op → Bool
 | .call c=>(match c.callee with
  | .value (.func f)=>jmp f c.args.size
  | _=>false) && c.args.all (fun x=>match x with
   | .tmp _=>true
   | _=>false)
 | _=>false
def ZN (P:Program) (gd:Nat → Bool) (jmp:Nat → Nat → Bool) (sj J N:Bool):Bool → Code → Bool
 | b,.region _ ops _=>ops.all fun o=>(opB P gd sj o.op || (J && jcB jmp o.op)) && (dfB o.op || !(b || J))
 | b,.seq x y=>ZN P gd jmp sj J N b x && ZN P gd jmp sj J N b y
 | b,.cond c x y=>rdB gd c && (ZN P gd jmp sj J N b x && ZN P gd jmp sj J N b y)
 | b,.block _ x=>ZN P gd jmp sj J N b x
 | b,.loop x=>ZN P gd jmp sj J N b x
 | b,.scope x=>ZN P gd jmp sj J N b x
 | _,.rangeFunc f _ x y=>(!N && badB P) && (rdB gd f && (ZN P gd jmp sj false false true x && ZN P gd jmp sj false false true y))
 | _,.refuse _=>false
 | _,_=>true
theorem Z1O {jmp:Nat → Nat → Bool} (hj:∀ f n,jmp f n = true → Jk.jmp f ∧ n = Jk.ar f) {c:Code}:∀ {J N b:Bool},ZN P gd jmp sj J N b c = true → Z0C P (J = true) (N = true) b c:=by
 induction c with
 | region i ops d =>
  intro J N b h o ho;have h1:=Array.all_eq_true_iff_forall_mem.1 h o ho;simp only [Bool.and_eq_true,Bool.or_eq_true] at h1;refine ⟨?_,fun hb c e=>?_⟩
  ·rcases h1.1 with q | ⟨q1,q2⟩
   ·exact .inl (ZiW hgd nj q)
   ·refine .inr ⟨q1,?_⟩
    unfold jcB at q2;unfold ZdA
    cases hop:o.op with
    | call c =>
     rw [hop] at q2;simp only [Bool.and_eq_true] at q2;refine ⟨?_,fun x hx=>?_⟩
     rotate_left
     ·have q3:=Array.all_eq_true_iff_forall_mem.1 q2.2 x hx
      cases x with
      | tmp t=>exact ⟨t,rfl⟩
      | _=>cases q3
     cases hc:c.callee with
     | value f =>
      have h3:=q2.1;rw [hc] at h3
      cases f with
      | func f=>exact ⟨f,rfl,hj f _ h3⟩
      | _=>cases h3
     | _=>have h3:=q2.1;rw [hc] at h3;cases h3
    | _=>rw [hop] at q2;cases q2
  ·have h2:=h1.2
   rw [e] at h2;simp only [dfB,Bool.false_eq_true,false_or,Bool.not_eq_true',Bool.or_eq_false_iff] at h2
   rcases hb with hb | hb
   ·rw [h2.1] at hb;cases hb
   ·rw [h2.2] at hb;cases hb
 | seq x y ihx ihy=>intro J N b h;simp only [ZN,Bool.and_eq_true] at h;exact ⟨ihx h.1,ihy h.2⟩
 | cond c x y ihx ihy=>intro J N b h;simp only [ZN,Bool.and_eq_true] at h;exact ⟨Zq hgd h.1,ihx h.2.1,ihy h.2.2⟩
 | block i x ih=>intro J N b h;exact ih h
 | loop x ih=>intro J N b h;exact ih h
 | scope x ih=>intro J N b h;exact ih h
 | rangeFunc f ps x y ihx ihy =>
  intro J N b h;simp only [ZN,Bool.and_eq_true,Bool.not_eq_true'] at h;obtain ⟨⟨rfl,hbd⟩,h1,h2,h3⟩:=h;have e:(false = true) = False:=by simp
  have hx:=ihx h2;have hy:=ihy h3;rw [e] at hx hy ⊢;exact ⟨Zq hgd h1,hx,hy,id,badB_ok hbd⟩
 | refuse y=>intro J N b h;cases h
 | _=>intro J N b h;trivial
end
end
end Go.Proofs.YtfelljbfeoplhaaGreat.Lift
namespace Go.Proofs.YtfelljbfeoplhaaGreat.Lift
open Go Go.Conc
section
variable [Jk]
variable {P:Program} {C:Inv} {r r':Ren} {v v' w w':World}
theorem Z7j (h:WH C r v w) {b c:Nat} (hb:r b = some c) {cs:Array Value} {e:TypeId} (q:v.heap[b]? = some (.cells cs e (0,0))) (hs:cs.size ≠ 0): ∃ cs',w.heap[c]? = some (.cells cs' e (0,0)) ∧ VRs r cs cs':=by
 obtain ⟨o,o',h1,h2,h3⟩:=h.on _ _ hb;rw [q] at h1;obtain rfl:=Option.some.inj h1
 cases h3 with
 | cells p hf =>
  rcases hf with ⟨_,rfl⟩ | hf
  ·exact ⟨_,h2,p⟩
  ·simp only [Prod.mk.injEq,true_and] at hf
   exact absurd hf.symm hs
end
end Go.Proofs.YtfelljbfeoplhaaGreat.Lift
namespace Go.Proofs.YtfelljbfeoplhaaGreat.Lift
open Go
def gB (k:Nat):Bool:=Qy.own.elem k
theorem Z5P (h:gB k = true): k ∈ Qy.own:=List.elem_iff.1 h
abbrev jkN:Jk:={ j:=False,rest:=[],gd:=fun f=>gB f = true }
noncomputable def okFn (k:Nat):Bool:=match Tryz.prog.funcs[k]? with
 | some fn => !(fn.name == "runtime.NumGoroutine") && match fn.body with
  | some c=>ZN Tryz.prog gB (fun _ _=>false) false false false false c
  | none=>false
 | none=>false
theorem Zjw:Qy.own.all okFn = true:=by kernel_rfl
theorem Zdd (h : gB k = true): ∃ fn c, Tryz.prog.funcs[k]? = some fn ∧ (fn.name == "runtime.NumGoroutine") = false ∧ fn.body = some c ∧ ZN Tryz.prog gB (fun _ _ => false) false false false false c = true := by
 have h1:=List.all_eq_true.1 Zjw k (Z5P h);unfold okFn at h1
 cases e:Tryz.prog.funcs[k]? with
 | none=>rw [e] at h1;cases h1
 | some fn =>
  rw [e] at h1;simp only [Bool.and_eq_true,Bool.not_eq_true'] at h1
  cases eb:fn.body with
  | none=>have:=h1.2;rw [eb] at this;cases this
  | some c=>have:=h1.2;rw [eb] at this;exact ⟨fn,c,rfl,h1.1,eb,this⟩
section
variable {J:Jk} (nj:¬ J.j) (hg:∀ f,J.gd f ↔ gB f = true) (hl:∀ f,gB f = true → ¬ J.law f) (μ:Nat)
include nj hg hl
theorem ZeG:@Strip J Tryz.prog (Qy.F μ) (@CodeOk J Tryz.prog false) (fun f=>gB f = true):=by
 refine @Strip.mk J _ _ _ _ (fun f h=>⟨Qy.same μ f (Z5P ((hg f).1 h)),hl f ((hg f).1 h)⟩) (fun f fn h e=>?_) (fun f fn c h e eb=>?_) (fun f fn h e eb=>?_) <;> rw [Qy.same μ f (Z5P ((hg f).1 h))] at e <;> obtain ⟨fn',c',h1,h2,h3,h4⟩:=Zdd ((hg f).1 h) <;> rw [h1] at e <;> obtain rfl:=Option.some.inj e
 ·exact h2
 ·rw [h3] at eb
  obtain rfl:=Option.some.inj eb;refine ⟨h1,?_,(hg f).1 h⟩;have:=@Z1O J Tryz.prog gB false (fun f q=>(hg f).2 q) (fun _=>nj) (fun _ _=>false) (fun f n q=>by cases q) c' false false false h4;have e2:(false = true) = False:=by simp
  rw [e2] at this;exact this
 ·rw [h3] at eb;cases eb
theorem Zj5:@GOk J Tryz.prog (Qy.F μ) (fun f=>gB f = true):=by
 intro f h;obtain ⟨fn,c,h1,h2,h3,h4⟩:=Zdd h;have e:=Qy.same μ f (Z5P h);exact ⟨e,⟨fn,c,e.trans h1,h3⟩,(hg f).2 h,hl f h⟩
end
theorem Zj6 (μ:Nat):@Strip jkN Tryz.prog (Qy.F μ) (@CodeOk jkN Tryz.prog false) (fun f=>gB f = true):=ZeG (J:=jkN) id (fun _=>Iff.rfl) (fun _ _ h=>h) μ
theorem gokN (μ:Nat):@GOk jkN Tryz.prog (Qy.F μ) (fun f=>gB f = true):=Zj5 (J:=jkN) id (fun _=>Iff.rfl) (fun _ _ h=>h) μ
theorem recP:Tryz.prog.follows .rangeFuncRecover = true:=by kernel_rfl
theorem recN:@Rec jkN Tryz.prog:=⟨recP,fun _ h=>h⟩
def gT (k:Nat):Bool:=[79,67,80,68,88,82,83,102,118].elem k
noncomputable def okgT (k:Nat):Bool:=Qy.own.elem k && match Tryz.prog.funcs[k]? with
 | some fn => !(fn.name == "runtime.NumGoroutine") && match fn.body with
  | some c=>ZN Tryz.prog gT (fun _ _=>false) true false false false c
  | none=>false
 | none=>false
theorem Zk8:[79,67,80,68,88,82,83,102,118].all okgT = true:=by kernel_rfl
theorem Z6H (h : gT k = true): k ∈ Qy.own ∧ ∃ fn c, Tryz.prog.funcs[k]? = some fn ∧ (fn.name == "runtime.NumGoroutine") = false ∧ fn.body = some c ∧ ZN Tryz.prog gT (fun _ _ => false) true false false false c = true := by
 have h1:=List.all_eq_true.1 Zk8 k (List.elem_iff.1 h);unfold okgT at h1;rw [Bool.and_eq_true] at h1;obtain ⟨h0,h1⟩:=h1;refine ⟨List.elem_iff.1 h0,?_⟩
 cases e:Tryz.prog.funcs[k]? with
 | none=>rw [e] at h1;cases h1
 | some fn =>
  rw [e] at h1;simp only [Bool.and_eq_true,Bool.not_eq_true'] at h1
  cases eb:fn.body with
  | none=>have:=h1.2;rw [eb] at this;cases this
  | some c=>have:=h1.2;rw [eb] at this;exact ⟨fn,c,rfl,h1.1,eb,this⟩
section
variable {J:Jk} (hj:J.j) (hg:∀ f,J.gd f ↔ gT f = true) (hl:∀ f,¬ J.law f) (μ:Nat)
include hg hl
include hj in
theorem strip_T:@Strip J Tryz.prog (Qy.F μ) (@CodeOk J Tryz.prog false) (fun f=>gT f = true):=by
 refine @Strip.mk J _ _ _ _ (fun f h=>⟨Qy.same μ f (Z6H ((hg f).1 h)).1,hl f⟩) (fun f fn h e=>?_) (fun f fn c h e eb=>?_) (fun f fn h e eb=>?_) <;> rw [Qy.same μ f (Z6H ((hg f).1 h)).1] at e <;> obtain ⟨_,fn',c',h1,h2,h3,h4⟩:=Z6H ((hg f).1 h) <;> rw [h1] at e <;> obtain rfl:=Option.some.inj e
 ·exact h2
 ·rw [h3] at eb
  obtain rfl:=Option.some.inj eb;refine ⟨h1,?_,(hg f).1 h⟩;have:=@Z1O J Tryz.prog gT true (fun f q=>(hg f).2 q) (fun q=>by cases q) (fun _ _=>false) (fun f n q=>by cases q) c' false false false h4;have e2:(false = true) = False:=by simp
  rw [e2] at this;exact this
 ·rw [h3] at eb;cases eb
theorem Zho:@GOk J Tryz.prog (Qy.F μ) (fun f=>gT f = true):=by
 intro f h;obtain ⟨h0,fn,c,h1,h2,h3,h4⟩:=Z6H h;have e:=Qy.same μ f h0;exact ⟨e,⟨fn,c,e.trans h1,h3⟩,(hg f).2 h,hl f⟩
omit hg in
theorem rec_T:@Rec J Tryz.prog:=⟨recP,hl⟩
end
end Go.Proofs.YtfelljbfeoplhaaGreat.Lift
namespace Go.Proofs.YtfelljbfeoplhaaGreat.Lift
open Go Go.Conc
def PV (S:Nat → Prop):Value → Prop
 | .int _ _=>True
 | .bool _=>True
 | .pointer (some a)=>S a.block
 | .slice none _ _=>True
 | .slice (some a) _ _=>S a.block
 | _=>False
open Classical in
noncomputable def idS (S:Nat → Prop):Ren:=fun b=>if S b then some b else none
theorem Z1l {S:Nat → Prop} {b:Nat} (h:S b): idS S b = some b:=if_pos h
theorem Z0w {S:Nat → Prop} {b c:Nat} (h:idS S b = some c): S b ∧ c = b:=by
 unfold idS at h
 split at h
 ·exact ⟨by assumption,(Option.some.inj h).symm⟩
 ·cases h
theorem ZbS (S:Nat → Prop):Inj (idS S):=fun a b c h k=>by rw [← (Z0w h).2,← (Z0w k).2]
theorem Zg9 (S:Nat → Prop):Idn (idS S):=fun b c h=>(Z0w h).2
section
variable [Jk] {S:Nat → Prop} {r:Ren} {w:World}
theorem PV.vr {x:Value} (h:PV S x):VR (idS S) x x:=by
 cases x with
 | int k n=>exact .int k n
 | bool b=>exact .bool b
 | pointer a =>
  cases a with
  | none=>exact h.elim
  | some a=>exact .ptr (.mk (Z1l h))
 | slice a n c =>
  cases a with
  | none=>exact .sl0 n c
  | some a=>exact .sl n c (.mk (Z1l h))
 | _=>exact h.elim
theorem PV.same (hi:Idn r) {x y:Value} (h:PV S x) (k:VR r x y): y = x:=by
 cases k with
 | int k n=>rfl
 | bool b=>rfl
 | ptr q=>rw [q.id hi]
 | sl0 n c=>rfl
 | sl n c q=>rw [q.id hi]
 | _=>exact h.elim
theorem Z9V {R:Value → Value → Prop} {ys:Array Value} (h:∀ (i:Nat) y,ys[i]? = some y → ∃ x,R x y): ∃ xs:Array Value,Arr R xs ys:=by
 have h':∀ i:Fin ys.size,∃ x,R x ys[i]:=fun i=>h i _ (Array.getElem?_eq_getElem i.2);obtain ⟨f,hf⟩:=Classical.axiomOfChoice h';refine ⟨Array.ofFn f,by simp,fun i x y a b=>?_⟩;obtain ⟨h1,h2⟩:=Array.getElem?_eq_some_iff.1 b;have h3:i < (Array.ofFn f).size:=by simpa using h1
 rw [Array.getElem?_eq_getElem h3] at a;simp only [Array.getElem_ofFn,Option.some.injEq] at a;have:=hf ⟨i,h1⟩;rw [a] at this;exact h2 ▸ this
theorem ZhR (j:Jk.j):∀ (n:Nat) (y:Value),SizeOf.sizeOf y < n → ∃ x,VR r x y:=by
 intro n
 induction n with
 | zero=>intro y h;exact absurd h (Nat.not_lt_zero _)
 | succ n ih =>
  intro y hy;have junk:(∀ xs,y ≠ .agg xs) → (y ≠ .nilIface ∧ ∀ xs,y ≠ .tuple xs) → (y ≠ .pointer none ∧ y ≠ .nilFunc ∧ ∀ b,y ≠ .bool b) → ∃ x,VR r x y:=fun a b c=>⟨J0,.junk (.inl j) a b c⟩;have arr:∀ ys:Array Value,SizeOf.sizeOf ys < n → ∃ xs,VRs r xs ys:=fun ys hs=>Z9V fun i y hi=>ih y (by
   have:=Array.sizeOf_lt_of_mem (Array.mem_of_getElem? hi);omega)
  cases y with
  | bool b=>exact ⟨_,.bool b⟩
  | int k n=>exact ⟨_,.int k n⟩
  | string s=>exact ⟨_,.string s⟩
  | pointer a =>
   cases a with
   | none=>exact ⟨_,.ptr0⟩
   | some a=>exact junk (by simp) ⟨by simp,by simp⟩ (by simp)
  | nilFunc=>exact ⟨_,.func0⟩
  | nilIface=>exact ⟨_,.iface0⟩
  | agg ys =>
   obtain ⟨xs,h⟩:=arr ys (by simp only [Value.agg.sizeOf_spec] at hy;omega);exact ⟨_,.aggA h⟩
  | tuple ys =>
   obtain ⟨xs,h⟩:=arr ys (by simp only [Value.tuple.sizeOf_spec] at hy;omega);exact ⟨_,.tupA h⟩
  | _=>exact junk (by simp) ⟨by simp,by simp⟩ (by simp)
theorem Zfz (j:Jk.j) (ys:Array Value):∃ xs:Array Value,VRs (idS S) xs ys ∧ ∀ (i:Nat) y,ys[i]? = some y → PV S y → xs[i]? = some y:=by
 have:=Z9V (R:=fun x y=>VR (idS S) x y ∧ (PV S y → x = y)) (ys:=ys) fun i y hi=>by
  by_cases h:PV S y
  ·exact ⟨y,h.vr,fun _=>rfl⟩
  ·obtain ⟨x,hx⟩:=ZhR (r:=idS S) j _ y (Nat.lt_succ_self _)
   exact ⟨x,hx,fun q=>absurd q h⟩
 obtain ⟨xs,h1,h2⟩:=this;refine ⟨xs,⟨h1,fun i x y a b=>(h2 i x y a b).1⟩,fun i y hi hp=>?_⟩;have h3:i < xs.size:=by rw [h1];exact (Array.getElem?_eq_some_iff.1 hi).1
 have:=(h2 i _ y (Array.getElem?_eq_getElem h3) hi).2 hp;rw [Array.getElem?_eq_getElem h3,this]
structure Shadow (S:Nat → Prop) (w v:World):Prop where
 size:v.heap.size = w.heap.size
 os:v.os = w.os
 at_:∀ c,S c → ∀ cs e fz,w.heap[c]? = some (.cells cs e fz) → ∃ cs',v.heap[c]? = some (.cells cs' e (0,cs'.size)) ∧ cs'.size = cs.size ∧ ∀ (i:Nat) x,cs[i]? = some x → PV S x → cs'[i]? = some x
theorem Z2g {P:Program} {F:Array Func} (j:Jk.j) (h:∀ c,S c → ∃ cs e fz,w.heap[c]? = some (.cells cs e fz)):∃ v,Shadow S w v ∧ WH (Iv P F) (idS S) v w ∧ ∀ b c,idS S b = some c → Shut v b:=by
 obtain ⟨f,hf⟩:=Classical.axiomOfChoice fun ys:Array Value=>Zfz (S:=S) j ys
 classical
 let g:Nat → Obj → Obj:=fun c o=>if S c then (match o with
  | .cells cs e _=>.cells (f cs) e (0,(f cs).size)
  | o=>o) else o
 have hg:∀ c,S c → ∀ cs e fz,w.heap[c]? = some (.cells cs e fz) → (w.heap.mapIdx g)[c]? = some (.cells (f cs) e (0,(f cs).size)):=by
  intro c hc cs e fz hx;rw [Array.getElem?_mapIdx,hx];simp only [Option.map_some,g,if_pos hc]
 refine ⟨{ w with heap:=w.heap.mapIdx g },⟨by simp,rfl,fun c hc cs e fz hx=>⟨f cs,hg c hc cs e fz hx,(hf cs).1.1,fun i x hi hp=>(hf cs).2 i x hi hp⟩⟩,⟨fun b c hb=>?_,ZbS S,rfl⟩,fun b c hb=>?_⟩
 ·obtain ⟨hs,rfl⟩:=Z0w hb
  obtain ⟨cs,e,fz,hx⟩:=h _ hs;exact ⟨_,_,hg _ hs cs e fz hx,hx,.cells (hf cs).1 (.inr rfl)⟩
 ·obtain ⟨hs,rfl⟩:=Z0w hb
  obtain ⟨cs,e,fz,hx⟩:=h _ hs;exact ⟨_,_,hg _ hs cs e fz hx⟩
end
end Go.Proofs.YtfelljbfeoplhaaGreat.Lift
