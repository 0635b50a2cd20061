/- Parts of a proof: Gsy, Gko, Gkp, Gkq, Gen, Gca, Gsr, Gsl, Gcl, Gco, Ja, Jb. No conditions. -/
import Derived.Calls
import Derived.Conc.Beside
import Derived.Test.YtfelljbfeoplhaaGreatPal2
set_option linter.unusedVariables false
set_option linter.unusedSimpArgs false
set_option linter.unusedSectionVars false
set_option maxRecDepth 100000
set_option maxHeartbeats 4000000
variable {l l':Nat} {α:Type} {Q:Go.Program} {fn:Go.FuncId} {gs:Array Go.Goroutine} {q:Nat → Nat}
namespace Go.Proofs.YtfelljbfeoplhaaGreat.Lift
open Go
variable [Jk]
section
variable {P:Program} {F:Array Func} {G:FuncId → Prop} {r:Ren} {cs:List Frame} {v w:World}
theorem Zei {J N:Prop} {d:Bool} (i:Nat) {k k':List Item} (h:Todo P J N d r k k'): (exitTo i k = none ∧ (exitTo i k' = none ∨ d = false)) ∨ ∃ a b,exitTo i k = some a ∧ exitTo i k' = some b ∧ Todo P J N d r a b:=by
 induction h with
 | nil=>exact .inl ⟨rfl,.inl rfl⟩
 | tail hd _=>exact .inl ⟨rfl,.inr hd⟩
 | cut hd hl _=>exact .inl ⟨(hl i).1,.inr hd⟩
 | cons a t ih =>
  cases a with
  | inBlock j =>
   unfold exitTo
   by_cases e:(j == i) = true
   ·simp only [e,if_true];exact .inr ⟨_,_,rfl,rfl,t⟩
   ·simp only [e];exact ih
  | _=>exact ih
theorem ZgZ {J N:Prop} {e:Bool} (l:Nat) (c:Code): ∀ d,Z0C P J N e c → findLabel c l = some d → Z0C P J N e d:=by
 induction c with
 | seq a b iha ihb =>
  intro d h e;unfold findLabel at e
  cases ha:findLabel a l with
  | some x =>
   rw [ha] at e;obtain rfl:=Option.some.inj e;exact ⟨iha x h.1 ha,h.2⟩
  | none =>
   rw [ha] at e;exact ihb d h.2 e
 | label j =>
  intro d h e;unfold findLabel at e
  split at e
  ·obtain rfl:=Option.some.inj e;trivial
  ·cases e
 | _=>intro d h e;cases e
theorem ZeO {J N:Prop} {d:Bool} (l:Nat) {k k':List Item} (h:Todo P J N d r k k'): (gotoIn l k = none ∧ (gotoIn l k' = none ∨ d = false)) ∨ ∃ a b,gotoIn l k = some a ∧ gotoIn l k' = some b ∧ Todo P J N d r a b:=by
 induction h with
 | nil=>exact .inl ⟨rfl,.inl rfl⟩
 | tail hd _=>exact .inl ⟨rfl,.inr hd⟩
 | cut hd hl _=>exact .inl ⟨(hl l).2,.inr hd⟩
 | cons a t ih =>
  cases a with
  | @inScope c hc =>
   unfold gotoIn
   cases e:findLabel c l with
   | some d=>exact .inr ⟨_,_,rfl,rfl,.cons (.code (ZgZ l c d hc e)) (.cons (.inScope hc) t)⟩
   | none=>exact ih
  | _=>exact ih
def Z08 (p:Program) (main:Bool) (fr:Frame) (C:List Frame) (w:World) (jump:Option Code):GStep:=
 match fr.roundOf with
 | none => if jump matches none | some .ret then .go (run1 { fr with mode := .returning } C) w else .ended (.stuck "exit, goto: no such block or label" (fr.pos p)) w
 | some l=>.after (seen p fr.fn ((Instr.endRound l jump).events p w #[])) (match (Instr.endRound l jump).run p w with
  | .ok v w=>doReturn p main fr C none v w
  | .halt _ w => .ended (.stuck "range over a function: no such loop" (fr.pos p)) w)
section
variable {m:Bool} {f:Frame} {K:List Frame} {k:List Item} {c a b:Code} {i:Nat}
theorem Z9c (h:f.todo = []):stepG.exec P m true f K none w = Z08 P m f K w none:=by
 unfold stepG.exec Z08;rw [h];simp only [Sem.runT_eq]
 cases f.roundOf <;> rfl
theorem Z9q (h:f.todo = .code .ret :: k):stepG.exec P m true f K none w = Z08 P m f K w (some .ret):=by
 unfold stepG.exec Z08;rw [h];simp only [Sem.runT_eq]
 cases f.roundOf <;> rfl
theorem Z7d (h:f.todo = .code .skip :: k):stepG.exec P m true f K none w = .go (run1 { f with todo:=k } K) w:=by unfold stepG.exec;rw [h];rfl
theorem Z4o (h:f.todo = .code (.label i) :: k):stepG.exec P m true f K none w = .go (run1 { f with todo:=k } K) w:=by unfold stepG.exec;rw [h];rfl
theorem Z2m (h:f.todo = .inBlock i :: k):stepG.exec P m true f K none w = .go (run1 { f with todo:=k } K) w:=by unfold stepG.exec;rw [h];rfl
theorem Z2u (h:f.todo = .inScope c :: k):stepG.exec P m true f K none w = .go (run1 { f with todo:=k } K) w:=by unfold stepG.exec;rw [h];rfl
theorem Z2H (h:f.todo = .code (.seq a b) :: k):stepG.exec P m true f K none w = .go (run1 { f with todo:=.code a :: .code b :: k } K) w:=by unfold stepG.exec;rw [h];rfl
theorem Z4n (h:f.todo = .code (.block i c) :: k):stepG.exec P m true f K none w = .go (run1 { f with todo:=.code c :: .inBlock i :: k } K) w:=by unfold stepG.exec;rw [h];rfl
theorem Z73 (h:f.todo = .code (.loop c) :: k):stepG.exec P m true f K none w = .go (run1 { f with todo:=.code c :: .inLoop c :: k } K) w:=by unfold stepG.exec;rw [h];rfl
theorem Z3s (h:f.todo = .inLoop c :: k):stepG.exec P m true f K none w = .go (run1 { f with todo:=.code c :: .inLoop c :: k } K) w:=by unfold stepG.exec;rw [h];rfl
theorem Z4l (h:f.todo = .code (.scope c) :: k):stepG.exec P m true f K none w = .go (run1 { f with todo:=.code c :: .inScope c :: k } K) w:=by unfold stepG.exec;rw [h];rfl
theorem Z4z {x:Operand} (h:f.todo = .code (.cond x a b) :: k): stepG.exec P m true f K none w = match f.eval x with
  | .bool t=>.go (run1 { f with todo:=.code (if t then a else b) :: k } K) w
  | _ => .ended (.stuck "cond: bool expected" (f.pos P)) w := by unfold stepG.exec; rw [h]; rfl
theorem Z4F (h:f.todo = .code (.exit i) :: k):stepG.exec P m true f K none w = match exitTo i k with
  | some k'=>.go (run1 { f with todo:=k' } K) w
  | none=>Z08 P m f K w (some (.exit i)):=by
 unfold stepG.exec Z08;rw [h];simp only [Sem.runT_eq]
 cases exitTo i k with
 | some k'=>rfl
 | none=>cases f.roundOf <;> rfl
theorem Z6j (h:f.todo = .code (.goto i) :: k):stepG.exec P m true f K none w = match gotoIn i k with
  | some k'=>.go (run1 { f with todo:=k' } K) w
  | none=>Z08 P m f K w (some (.goto i)):=by
 unfold stepG.exec Z08;rw [h];simp only [Sem.runT_eq]
 cases gotoIn i k with
 | some k'=>rfl
 | none=>cases f.roundOf <;> rfl
theorem Z1B {y:String} (h:f.todo = .code (.refuse y) :: k): ∃ z,stepG.exec P m true f K none w = .ended (.unsupported z (f.pos P)) w:=⟨_,by unfold stepG.exec;rw [h]⟩
theorem Z6L (h : f.todo = .beginRound :: k) : stepG.exec P m true f K none w = stepG.apply P true f K none (do f.roundOf.elim (stuck "beginRound: no round") Instr.beginRound; pure .skip) w := by unfold stepG.exec; rw [h]
theorem Z5E (h:f.todo = .inRangeFunc l :: k): ∃ o w2 es,stepG.exec P m true f K none w = .ended o w2 es:=by unfold stepG.exec;rw [h];exact ⟨_,_,_,rfl⟩
theorem Z11 (h:f.todo = .endRangeFunc l :: k): stepG.exec P m true f K none w = .after (seen P f.fn ((Instr.endLoop l).events P w #[])) (match (Instr.endLoop l).run P w with
  | .ok jump w=>.go (run1 { f with todo:=(jump.map Item.code).toList ++ k } K) w
  | .halt (.panic v) w=>.go (run1 (f.raise [{ v,recovered:=false }]) K) w
  | .halt _ w => .ended (.stuck "range over a function: no such loop" (f.pos P)) w) := by
 unfold stepG.exec;rw [h];simp only [Sem.runT_eq]
 rfl
theorem Z32 {ops:Array Oper} (h:f.todo = .code (.region i ops false) :: k): stepG.exec P m true f K none w = .go (run1 { f with todo:=.inRegion ops (List.range ops.size) :: k } K) w:=by unfold stepG.exec;rw [h];rfl
theorem Z65 {ops:Array Oper} (h:f.todo = .code (.region i ops true) :: k): stepG.exec P m true f K none w =
  .go (run1 { f with todo:=.inRegion ops (Region.schedule (P.follows .mixedOrders) ops (w.tape w.drawn (.order f.fn i))) :: k } K) { w with drawn:=w.drawn + 1 }:=by unfold stepG.exec;rw [h];rfl
theorem Z6i {ops:Array Oper} (h:f.todo = .inRegion ops [] :: k): stepG.exec P m true f K none w = .go (run1 { f with todo:=k } K) w:=by unfold stepG.exec;rw [h];rfl
theorem Z1S {ops:Array Oper} {rest:List Nat} (h:f.todo = .inRegion ops (i :: rest) :: k): stepG.exec P m true f K none w =
  if ((ops[i]?).map (Region.wanted · (yielded ops f.tmps))).getD false then stepG.oper P true f K none w else .go (run1 (f.finish undef) K) w:=by unfold stepG.exec;rw [h];rfl
theorem Z3j {x : Operand} {ps : Array Tmp} (h : f.todo = .code (.rangeFunc x ps a b) :: k) : stepG.exec P m true f K none w =
    .after (seen P f.fn ((Instr.enterLoop f.fn f.tmps ps a b f.roundOf).events P w #[])) (match (Instr.enterLoop f.fn f.tmps ps a b f.roundOf).run P w with
      | .ok (l, mark) w => stepG.apply P true { f with todo := .inRangeFunc l :: k, defers := mark ++ f.defers } K none (do let d ← resolve f.eval { callee := .value x, args := #[.const (.func (.yield l) #[] #[])], argTypes := #[] } 0; invoke d.target d.args) w
      | .halt _ w => .ended (.stuck "range over a function: no such loop" (f.pos P)) w) := by
  unfold stepG.exec;rw [h];simp only [Sem.runT_eq]
  rfl
end
theorem Z4H (h:r l = some l') {j:Option Code} (hj:∀ c,j = some c → CodeOk P true c): SR (PF P F) P (Iv P F) VA r (Instr.endRound l j) (Instr.endRound l' j):=by
 unfold Instr.endRound;refine Z1t h fun r' hr o o' ho=>?_;exact .setObj (hr.1 _ _ h) (.loop ⟨rfl,⟨rfl,hj⟩,ho.fn,ho.tmps,ho.params,ho.assign,ho.body,ho.defers⟩) (by simp) (.pure (.bool _))
theorem Z3b (h:r l = some l'): SR (PF P F) P (Iv P F) EQ r (Instr.beginRound l) (Instr.beginRound l'):=by
 unfold Instr.beginRound;refine Z1t h fun r' hr o o' ho=>?_;refine .setObj (hr.1 _ _ h) (.loop ⟨rfl,ho.pending,ho.fn,ho.tmps,ho.params,ho.assign,ho.body,ho.defers⟩) (by simp) ?_;show SR _ _ _ _ _ (match o.state with | .ready=>pure () | .done=>_ | .busy=>_ | .exhausted=>_) (match o'.state with | .ready=>pure () | .done=>_ | .busy=>_ | .exhausted=>_);rw [ho.state]
 cases o'.state with
 | ready=>exact .pure rfl
 | _=>exact Z0H
theorem Z5r (h:r l = some l'): SR (PF P F) P (Iv P F) (fun _ a b=>a = b ∧ ∀ c,a = some c → CodeOk P true c) r (Instr.endLoop l) (Instr.endLoop l'):=by
 unfold Instr.endLoop;refine Z1t h fun r' hr o o' ho=>?_;rw [ho.state];refine Zx (fun _=>Z3C Z0H) fun _=>?_;refine .setObj (hr.1 _ _ h) (.loop ⟨rfl,ho.pending,ho.fn,ho.tmps,ho.params,ho.assign,ho.body,ho.defers⟩) (by simp) ?_;exact .pure ⟨ho.pending.1,ho.pending.2⟩
theorem Z2a {f : FuncId} (hf : (Iv P F).fn f) {xs ys : Array Value} (h : VRs r xs ys) {ps : Array Tmp} {a b : Code} (ha : CodeOk P true a) (hb : CodeOk P true b) {x y : Option Nat} (k : RoR r x y) :
    SR (PF P F) P (Iv P F) (fun r p q => r p.1 = some q.1 ∧ Lis (DR r) p.2 q.2) r (Instr.enterLoop f xs ps a b x) (Instr.enterLoop f ys ps a b y) := by
  unfold Instr.enterLoop;have last : ∀ {r' : Ren} {d d' : Nat} {ms ms' : List Deferred}, r.le r' → r' d = some d' → Lis (DR r') ms ms' → SR (PF P F) P (Iv P F) (fun r p q => r p.1 = some q.1 ∧ Lis (DR r) p.2 q.2) r'
      (do pure (← newObj (.loop { state := .ready, pending := none, fn := f, tmps := xs, params := ps, assign := a, body := b, defers := d }), ms))
      (do pure (← newObj (.loop { state := .ready, pending := none, fn := f, tmps := ys, params := ps, assign := a, body := b, defers := d' }), ms')) :=
    fun hr hd hm => SR.new (.loop ⟨rfl, ⟨rfl, by simp⟩, ⟨rfl, hf⟩, VRs.mono hr h, rfl, ⟨rfl, ha⟩, ⟨rfl, hb⟩, hd⟩) fun r2 hr2 b c hb => .pure ⟨hb, hm.imp fun _ _ => DR.mono hr2⟩
  cases k with
  | some q =>
    simp only [bind_assoc, pure_bind];refine Z1t q fun r' hr o o' ho => ?_;exact last hr ho.defers .nil
  | none =>
    simp only [bind_assoc, pure_bind];exact SR.new (.def1 .nil) fun r' hr b c hb => last hr hb (.cons ⟨.collected hb, .nil⟩ .nil)
theorem Z3o {f g:Frame} {A B:List Frame} (hs:Stk P F r (f :: A) (g :: B)) (hw:WR (Iv P F) r v w) {j:Option Code} (hj:∀ c,j = some c → CodeOk P true c) {m:Bool}:
  ZC P F cs r v w (Z08 (PF P F) true f (A ++ [poison]) v j) (Z08 P m g (B ++ cs) w j):=by
 obtain ⟨hf,hst,hd⟩:=hs.uncons;have hr:=hf.round;have ret:ZC P F cs r v w (.go (run1 { f with mode:=.returning } (A ++ [poison])) v) (.go (run1 { g with mode:=.returning } (B ++ cs)) w):=
  ZC.still (hst.cons ⟨hf.fn,hf.own,hf.tmps,hf.todo,hf.defers,.returning,hf.kind,hf.round⟩ hd) hw
 unfold Z08;generalize f.roundOf = x at hr ret ⊢;generalize g.roundOf = y at hr ret ⊢
 cases hr with
 | none =>
  dsimp only
  cases j with
  | none=>exact ret
  | some c=>cases c <;> first | exact ret | trivial
 | some q =>
  have o:=(Z4H (P:=P) (F:=F) q hj).sim v w hw #[];simp only [Sem.runT_eq] at o;dsimp only
  cases hr:(Instr.endRound _ j).run (PF P F) v with
  | halt x v'=>trivial
  | ok n v' =>
   rw [hr] at o;obtain ⟨r',b,w',ns,e,hw',hn,hk,he⟩:=o;simp only [Prod.mk.injEq] at e;rw [e.1];exact ZC.lift hk (Z0x e.2 he) (Z2j (hs.mono hk.le) hw' hn)
theorem Z3N {f:Frame} {K:List Frame} {ops:Array Oper} {i:Nat} {rest:List Nat} {k:List Item} {o:Oper} (h:f.todo = .inRegion ops (i :: rest) :: k) (ho:ops[i]? = some o) (hd:f.roundOf = none ∨ ∀ c,o.op ≠ .defer c):
  stepG.oper P true f K none w = stepG.apply P true f K none (execOp f.eval o) w:=by
 unfold stepG.oper Frame.oper?;rw [h];simp only [ho]
 rcases hd with hd | hd
 ·rw [hd]
 ·split
  ·rename_i e;exact absurd e (hd _)
  ·rfl
theorem Z5y {m : Bool} {f : Frame} {K : List Frame} {u : World} {c : Code} (h : f.roundOf.isSome = false) (hc : c ≠ .ret): Z08 Q m f K u (some c) = .ended (.stuck "exit, goto: no such block or label" (f.pos Q)) u := by
 unfold Z08
 cases hx:f.roundOf with
 | none=>cases c <;> first | rfl | exact absurd rfl hc
 | some l=>rw [hx] at h;cases h
theorem Z70 {f g:Frame} {A B:List Frame} (hs:Stk P F r (f :: A) (g :: B)) {k k':List Item} (q:Todo P (Jk.law f.fn) (¬ Jk.gd f.fn) f.roundOf.isSome r k k'): Stk P F r ({ f with todo:=k } :: A) ({ g with todo:=k' } :: B):=by
 obtain ⟨hf,hst,hd⟩:=hs.uncons;exact hst.cons ⟨hf.fn,hf.own,hf.tmps,q,hf.defers,hf.mode,hf.kind,hf.round⟩ hd
def Pend (f:Frame):Prop:=Jk.law f.fn ∧ f.mode = .run ∧ ∃ ops i rest k o,f.todo = .inRegion ops (i :: rest) :: k ∧ ops[i]? = some o ∧ Region.wanted o (yielded ops f.tmps) = true ∧ ZdA o.op
theorem Zeg (S : Strip P F (CodeOk P false) G) (hg : GOk P F G) (hrec : P.follows .rangeFuncRecover = true) {f g : Frame} {A B : List Frame} (hs : Stk P F r (f :: A) (g :: B)) (hw : WR (Iv P F) r v w) (hm : f.mode = .run) (np : ¬ Pend f) {m : Bool} :
    ZC P F cs r v w (stepG.exec (PF P F) true true f (A ++ [poison]) none v) (stepG.exec P m true g (B ++ cs) none w) := by
  obtain ⟨hf, hst, hd⟩ := hs.uncons;have ht := hf.todo;have to_ : ∀ {k k' : List Item}, Todo P (Jk.law f.fn) (¬ Jk.gd f.fn) f.roundOf.isSome r k k' → ZC P F cs r v w (.go (run1 { f with todo := k } (A ++ [poison])) v) (.go (run1 { g with todo := k' } (B ++ cs)) w) := fun q => ZC.still (Z70 hs q) hw;generalize h1 : f.todo = fk at ht;generalize h2 : g.todo = gk at ht
  cases ht with
  | nil => rw [Z9c h1, Z9c h2]; exact Z3o hs hw (by simp)
  | tail _ _ => rw [(Z1B h1).choose_spec]; trivial
  | cut hd0 hl h =>
    cases h with
    | stop _ => rw [(Z1B h1).choose_spec]; trivial
    | seq hx t => rw [Z2H h1, Z2H h2]; exact to_ (.cons (.code hx) (.cut hd0 hl t))
    | left t => rw [Z2H h1, Z2H h2]; exact to_ (.cut hd0 hl t)
  | @cons a b k k' hab hk =>
    cases hab with
    | @code c hc =>
      cases c with
      | skip => rw [Z7d h1, Z7d h2]; exact to_ hk
      | label i => rw [Z4o h1, Z4o h2]; exact to_ hk
      | ret => rw [Z9q h1, Z9q h2]; exact Z3o hs hw (by intro c e; cases e; trivial)
      | seq x y => rw [Z2H h1, Z2H h2]; exact to_ (.cons (.code hc.1) (.cons (.code hc.2) hk))
      | block i x => rw [Z4n h1, Z4n h2]; exact to_ (.cons (.code hc) (.cons (.inBlock i) hk))
      | loop x => rw [Z73 h1, Z73 h2]; exact to_ (.cons (.code hc) (.cons (.inLoop hc) hk))
      | scope x => rw [Z4l h1, Z4l h2]; exact to_ (.cons (.code hc) (.cons (.inScope hc) hk))
      | refuse y => rw [(Z1B h1).choose_spec]; trivial
      | cond x y z =>
        rw [Z4z h1, Z4z h2];have hx := hf.env x hc.1;generalize f.eval x = p at hx ⊢;generalize g.eval x = q at hx ⊢
        cases hx with
        | bool t =>
          cases t
          · exact to_ (.cons (.code hc.2.2) hk)
          · exact to_ (.cons (.code hc.2.1) hk)
        | _ => trivial
      | exit i =>
        rw [Z4F h1, Z4F h2]
        rcases Zei i hk with ⟨p, q | q⟩ | ⟨p, q, e1, e2, e3⟩
        · rw [p, q]; exact Z3o hs hw (by intro c e; cases e; trivial)
        · rw [p, Z5y q (by simp)]; trivial
        · rw [e1, e2]; exact to_ e3
      | goto i =>
        rw [Z6j h1, Z6j h2]
        rcases ZeO i hk with ⟨p, q | q⟩ | ⟨p, q, e1, e2, e3⟩
        · rw [p, q]; exact Z3o hs hw (by intro c e; cases e; trivial)
        · rw [p, Z5y q (by simp)]; trivial
        · rw [e1, e2]; exact to_ e3
      | region i ops draw =>
        cases draw with
        | false => rw [Z32 h1, Z32 h2]; exact to_ (.cons (.inRegion hc) hk)
        | true =>
          rw [Z65 h1, Z65 h2];have e : v.tape v.drawn (.order f.fn i) = w.tape w.drawn (.order g.fn i) := by rw [hf.fn]; exact hw.tape 0 _
          rw [e];refine ZC.go (Z70 hs (.cons (.inRegion hc) hk)) hw.draw ?_ (by simp)
          exact { le := Ren.le_refl _, tapeV := rfl, tapeW := rfl, drawn := ⟨1, rfl, rfl⟩, os := ⟨rfl, rfl⟩, sizeV := Nat.le_refl _, sizeW := Nat.le_refl _
                  far := fun _ _ _ => rfl, new := fun _ _ hb => .inl hb, shut := fun _ _ => rfl, cells := fun _ _ _ _ hi => ⟨_, _, hi⟩, farV := fun _ _ _ => rfl, shutW := fun _ _ _ _ => rfl, par := fun e => ⟨e, fun _ _ hb => .inl hb, fun i h1 h2 => absurd h2 (by dsimp only; omega)⟩ }
      | rangeFunc x ps y z =>
        rw [Z3j h1, Z3j h2];have hown : (Iv P F).fn f.fn := Classical.not_not.1 hc.2.2.2.1;have o := (Z2a (ps := ps) hown hf.tmps hc.2.1 hc.2.2.1 hf.round).sim v w hw #[];simp only [Sem.runT_eq] at o
        cases hr : (Instr.enterLoop f.fn f.tmps ps y z f.roundOf).run (PF P F) v with
        | halt x v' => trivial
        | ok n v' =>
          rw [hr] at o;obtain ⟨r', b, w', ns, e, hw', hn, hkk, he⟩ := o;simp only [Prod.mk.injEq] at e;rw [hf.fn] at e;rw [e.1];obtain ⟨l, mk⟩ := n;obtain ⟨l', mk'⟩ := b;obtain ⟨hl, hm⟩ := hn;have hf' := hf.mono hkk.le;refine ZC.lift hkk (Z0x e.2 he) (Z4U (df := False) (f := { f with todo := .inRangeFunc l :: k, defers := mk ++ f.defers }) (g := { g with todo := .inRangeFunc l' :: k', defers := mk' ++ g.defers }) S hg hrec ((hst.mono hkk.le).cons ?_ hd) hw' (fun q => q.elim) ?_)
          · exact ⟨hf'.fn, hf'.own, hf'.tmps, .cons (.inRange hc.2.2.2.1 hl) (hk.mono hkk.le), ⟨hm.append hf'.defers.1, fun l => absurd l (S.same _ hown).2⟩, hf'.mode, hf'.kind, hf'.round⟩
          · by_cases hz : f.eval x = J0
            · refine .dead ?_
              unfold resolve;dsimp only;rw [hz];exact Z3x hc.2.2.2.2 _
            refine Z4 (A := DR) ?_ fun _ _ a b q => Z2b S q.1 q.2;unfold resolve;have hy : VR r' (.func (.yield l) #[] #[]) (.func (.yield l') #[] #[]) := .func (.yield hl) rfl (by simp) rfl (by simp);refine Z3L hz (hf'.env x hc.1) ?_;have e3 : ∀ (h : Operand → Value) (z : Operand), #[z].map h = #[h z] := fun h z => by simp
            rw [e3, e3];exact Arr.one hy
    | inBlock i => rw [Z2m h1, Z2m h2]; exact to_ hk
    | inLoop hc => rw [Z3s h1, Z3s h2]; exact to_ (.cons (.code hc) (.cons (.inLoop hc) hk))
    | inScope hc => rw [Z2u h1, Z2u h2]; exact to_ hk
    | inRange n q =>
      obtain ⟨o, w2, es, e⟩ := Z5E (P := PF P F) (m := true) (K := A ++ [poison]) (w := v) h1;rw [e]; trivial
    | begin_ =>
      rw [Z6L h1, Z6L h2];refine Z4U (df := False) S hg hrec hs hw (fun q => q.elim) (sr_u ?_);have hr := hf.round;generalize f.roundOf = x at hr ⊢;generalize g.roundOf = y at hr ⊢
      cases hr with
      | none => exact Z2
      | some q => exact Z3b q
    | endRange nj q =>
      rw [Z11 h1, Z11 h2];have o := (Z5r (P := P) (F := F) q).sim v w hw #[];simp only [Sem.runT_eq] at o
      cases hr : (Instr.endLoop _).run (PF P F) v with
      | halt x v' =>
        rw [hr] at o
        cases x with
        | panic x =>
          obtain ⟨r', x', w', ns, e, hw', hx, hkk, he⟩ := o;simp only [Prod.mk.injEq] at e;rw [e.1];exact ZC.lift hkk (Z0x e.2 he) (ZC.still ((hst.mono hkk.le).cons ((hf.mono hkk.le).raise (.cons ⟨hx, rfl, rfl⟩ .nil)) (hd.raise _)) hw')
        | _ => trivial
      | ok n v' =>
        rw [hr] at o;obtain ⟨r', b, w', ns, e, hw', hn, hkk, he⟩ := o;simp only [Prod.mk.injEq] at e;rw [e.1];obtain ⟨rfl, hn⟩ := hn;refine ZC.lift hkk (Z0x e.2 he) (ZC.still (Z70 (hs.mono hkk.le) ?_) hw');have hk' := hk.mono (s := r') hkk.le
        cases n with
        | none => exact hk'
        | some c => exact .cons (.code ((hn c rfl).out (S.same _ (Classical.not_not.1 nj)).2 nj)) hk'
    | @inRegion ops todo hops =>
      cases todo with
      | nil => rw [Z6i h1, Z6i h2]; exact to_ hk
      | cons i rest =>
        rw [Z1S h1, Z1S h2];have hy : ∀ o, Region.wanted o (yielded ops f.tmps) = Region.wanted o (yielded ops g.tmps) := by
          intro o;have : yielded ops f.tmps = yielded ops g.tmps := by
            funext j
            unfold yielded
            cases ((ops[j]?).bind (·.dst)) with
            | none => rfl
            | some t =>
              simp only [Option.bind_some]
              rcases hf.tmps.get t with ⟨a, b⟩ | ⟨x, y, a, b, q⟩
              · rw [a, b]
              · rw [a, b]
                cases q with
                | junk _ _ _ m => cases y <;> first | rfl | exact absurd rfl (m.2.2 _)
                | _ => rfl
          rw [this]
        simp only [hy];have fin : ZC P F cs r v w (.go (run1 (f.finish undef) (A ++ [poison])) v) (.go (run1 (g.finish undef) (B ++ cs)) w) := ZC.still (hst.cons (hf.finish .undef) (hd.finish _)) hw
        cases ho : ops[i]? with
        | none => exact fin
        | some o =>
          by_cases hwant : ((some o).map (Region.wanted · (yielded ops g.tmps))).getD false = true
          · rw [if_pos hwant, if_pos hwant]
            have hop := hops o (Array.mem_of_getElem? ho);have hro : (f.roundOf = none ∧ g.roundOf = none) ∨ ∀ c, o.op ≠ .defer c := by
              have hr := hf.round;have h3 := hop.2;generalize f.roundOf = x at hr h3 ⊢;generalize g.roundOf = y at hr ⊢
              cases hr with
              | none => exact .inl ⟨rfl, rfl⟩
              | some q => exact .inr (h3 (.inl rfl))
            rw [Z3N h1 ho (hro.imp (·.1) id), Z3N h2 ho (hro.imp (·.2) id)];refine Z4U S hg hrec hs hw (fun ⟨c, e⟩ l => hop.2 (.inr l) c e) (Z7p S hw.inj (fun _ => rfl) hf.env (hop.1.resolve_right fun q => np ⟨q.1, hm, ops, i, rest, k, o, h1, ho, ?_, q.2⟩));rw [hy]; simpa using hwant
          · rw [if_neg hwant, if_neg hwant]; exact fin
theorem Z6s (S:Strip P F (CodeOk P false) G) (hg:GOk P F G) (hrec:P.follows .rangeFuncRecover = true) {f g:Frame} {A B:List Frame} (hs:Stk P F r (f :: A) (g :: B)) (hw:WR (Iv P F) r v w) (np:¬ Pend f) {m:Bool}:
  ZC P F cs r v w (stepG (PF P F) true (run1 f (A ++ [poison])) v) (stepG P m (run1 g (B ++ cs)) w):=by
 have hm:=(hs.uncons).1.mode;have e1:∀ {Q:Program} {b:Bool} {x:Frame} {K:List Frame} {u:World},x.mode = .run → stepG Q b (run1 x K) u = stepG.exec Q b true x K none u:=by
  intro Q b x K u h;unfold stepG run1;simp only [h]
 have e2:∀ {Q:Program} {b:Bool} {x:Frame} {K:List Frame} {u:World},x.mode ≠ .run → stepG Q b (run1 x K) u = unwind Q b x K none u:=by
  intro Q b x K u h;unfold stepG run1
  cases hx:x.mode with
  | run=>exact absurd hx h
  | _=>simp only [hx]
 generalize hx:f.mode = p at hm;generalize hy:g.mode = q at hm
 cases hm with
 | run=>rw [e1 hx,e1 hy];exact Zeg S hg hrec hs hw hx np
 | returning=>rw [e2 (by rw [hx];simp),e2 (by rw [hy];simp)];exact Z5z S hg hs hw
 | panicking q=>rw [e2 (by rw [hx];simp),e2 (by rw [hy];simp)];exact Z5z S hg hs hw
end
end Go.Proofs.YtfelljbfeoplhaaGreat.Lift
namespace Go.Proofs.YtfelljbfeoplhaaGreat.Lift
open Go
variable [Jk]
def re (w:World) (T:Nat → Question → Nat):World:={ w with tape:=T }
def Result.re {α:Type} (T:Nat → Question → Nat):Result α → Result α
 | .ok a w=>.ok a (Lift.re w T)
 | .halt h w=>.halt h (Lift.re w T)
def Zdx (T S:Nat → Question → Nat) (lo hi:Nat):Prop:=∀ i q,lo ≤ i → i < hi → T i q = S i q
section
variable {Q P:Program} {C:Inv} {r:Ren} {v w:World}
theorem WR.cells {b c o:Nat} {s:Option Nat} {x:Value} (h:WR C r v w) (hb:r b = some c) (hx:v.cell? ⟨b,o,s⟩ = some x) :
  s = none ∧ ∃ cs cs' e fr fr' x',v.heap[b]? = some (.cells cs e fr) ∧ w.heap[c]? = some (.cells cs' e fr') ∧ cs[o]? = some x ∧ cs'[o]? = some x' ∧ VR r x x' ∧ VRs r cs cs' ∧ ((fr = (0,0) ∧ fr' = (0,0)) ∨ fr = (0,cs.size)):=by
 obtain ⟨p,p',h1,h2,ho⟩:=h.on b c hb;unfold World.cell? at hx;rw [h1] at hx
 cases ho with
 | @cells cs cs' e fr fr' q hf =>
  cases s with
  | some s=>simp at hx
  | none =>
   simp at hx
   rcases q.get o with ⟨a,_⟩ | ⟨y,y',a,b,k⟩
   ·rw [a] at hx;cases hx
   ·rw [a] at hx
    obtain rfl:=Option.some.inj hx;exact ⟨rfl,_,_,_,_,_,_,h1,h2,a,b,k,q,hf⟩
 | _=>simp at hx
theorem WR.store {b c o:Nat} {x z z':Value} (h:WR C r v w) (hb:r b = some c) (hx:v.cell? ⟨b,o,none⟩ = some x) (hf:v.frozen? ⟨b,o,none⟩ = false) (hz:VR r z z') :
  WR C r (v.setCell ⟨b,o,none⟩ z) (w.setCell ⟨c,o,none⟩ z'):=by
 obtain ⟨_,cs,cs',e,fr,fr',x',h1,h2,h3,h4,h5,h6,h7⟩:=h.cells hb hx;have hfr:fr = (0,0) ∧ fr' = (0,0):=by
  rcases h7 with q | q
  ·exact q
  ·have hlt:o < cs.size:=(Array.getElem?_eq_some_iff.1 h3).1
   unfold World.frozen? at hf;rw [h1,q] at hf;simp at hf;omega
 have hv':∀ i,(v.setCell ⟨b,o,none⟩ z).heap[i]? = if b = i then some (.cells (cs.setIfInBounds o z) e fr) else v.heap[i]?:=by
  intro i;simp only [World.setCell,Array.getElem?_modify]
  by_cases e':b = i
  ·subst e';simp [h1]
  ·simp [e']
 have hw':∀ i,(w.setCell ⟨c,o,none⟩ z').heap[i]? = if c = i then some (.cells (cs'.setIfInBounds o z') e fr') else w.heap[i]?:=by
  intro i;simp only [World.setCell,Array.getElem?_modify]
  by_cases e':c = i
  ·subst e';simp [h2]
  ·simp [e']
 exact h.turn hb (.cells (h6.set o hz) (.inl hfr)) hv' hw' ⟨rfl,rfl,rfl,rfl,rfl,rfl⟩
def Live {α:Type} (x:Result α) (v':World):Prop:=(∃ a,x = .ok a v') ∨ ∃ y,x = .halt (.panic y) v'
theorem Live.kept {β: Type} {A:Ren → α → β → Prop} {s:Sem α} {s':Sem β} (k:SR Q P C A r s s') (h:WR C r v w) {v':World} (hl:Live (s.run Q v) v'): v.drawn ≤ v'.drawn ∧ v'.tape = v.tape:=by
 have o:=k.sim v w h #[]
 rcases hl with ⟨a,e⟩ | ⟨y,e⟩
 ·rw [e] at o
  obtain ⟨_,_,_,_,_,_,_,hk,_⟩:=o;obtain ⟨n,h1,_⟩:=hk.drawn;exact ⟨by omega,hk.tapeV⟩
 ·rw [e] at o
  obtain ⟨_,_,_,_,_,_,_,hk,_⟩:=o;obtain ⟨n,h1,_⟩:=hk.drawn;exact ⟨by omega,hk.tapeV⟩
theorem Z0D {h:Halt} {v v':World} (d:Dies h): ¬ Live (.halt h v:Result α) v':=by
 rintro (⟨a,e⟩ | ⟨y,e⟩)
 ·cases e
 ·cases e;exact d
theorem ZbG {b c o:Nat} {s:Option Nat} {m:Bool} (h:WR C r v w) (hb:r b = some c) (hx:v.cell? ⟨b,o,s⟩ = none): ∃ x,v.farLoad Q ⟨b,o,s⟩ m = .error x ∧ Dies x ∧ ∀ z,v.farStore Q ⟨b,o,s⟩ z m = .error x ∨ ∃ y,v.farStore Q ⟨b,o,s⟩ z m = .error y ∧ Dies y:=by
 obtain ⟨p,p',h1,h2,ho⟩:=h.on b c hb;unfold World.farLoad World.farStore World.noCell;rw [h1]
 cases ho <;> exact ⟨_,rfl,trivial,fun z=>.inr ⟨_,rfl,trivial⟩⟩
theorem SR.local {β: Type} {A:Ren → α → β → Prop} {s:Sem α} {s':Sem β} (k:SR Q P C A r s s'): ∀ v w:World,WR C r v w → ∀ v',Live (s.run Q v) v' → ∀ T,Zdx T v.tape v.drawn v'.drawn → ∀ es,
  s.runT Q (re v T) es = (Result.re T (s.runT Q v es).1,(s.runT Q v es).2):=by
 induction k with
 | pure q=>exact fun v w h v' hl T ht es=>rfl
 | @load r a a' k k' ha _ ih =>
  intro v w h v' hl T ht es
  cases ha with
  | @mk b c o s hb =>
  cases hx:v.cell? ⟨b,o,s⟩ with
  | none =>
   obtain ⟨x,e,d,_⟩:=ZbG (Q:=Q) (m:=false) h hb hx;refine absurd hl ?_;have:(Sem.load .plain ⟨b,o,s⟩ k).run Q v = .halt x v:=by
    simp only [Sem.run,hx];rw [show (Mode.plain == Mode.atomic) = false from rfl,e]
   rw [this];exact Z0D d
  | some x =>
   obtain ⟨rfl,cs,cs',e,fr,fr',x',_,_,_,_,hr,_⟩:=h.cells hb hx;have hx2:(re v T).cell? ⟨b,o,none⟩ = some x:=hx;have e1:(Sem.load .plain ⟨b,o,none⟩ k).run Q v = (k x).run Q v:=by simp only [Sem.run,hx]
   rw [e1] at hl;unfold Sem.runT;simp only [hx,hx2];exact ih _ (Ren.le_refl _) x x' hr v w h v' hl T ht _
 | @store r a a' z z' k k' ha hz _ ih =>
  intro v w h v' hl T ht es
  cases ha with
  | @mk b c o s hb =>
  by_cases hag:(∃ xs,z = .agg xs) ∨ ∃ xs,z = .tuple xs
  ·rcases hag with ⟨xs,rfl⟩ | ⟨xs,rfl⟩
   ·exact absurd hl (Z0D (h := .stuck "store: not the value of one cell") trivial)
   ·exact absurd hl (Z0D (h := .stuck "store: not the value of one cell") trivial)
  have na:(∀ xs,z ≠ .agg xs) ∧ ∀ xs,z ≠ .tuple xs:=⟨fun xs e=>hag (.inl ⟨xs,e⟩),fun xs e=>hag (.inr ⟨xs,e⟩)⟩;have run1:∀ u,(Sem.store .plain ⟨b,o,s⟩ z k).run Q u = match u.cell? ⟨b,o,s⟩ with
    | some _ => if u.frozen? ⟨b, o, s⟩ then .halt (.unsupported (.unsafePointer "a write to bytes that a string shares")) u else k.run Q (u.setCell ⟨b, o, s⟩ z)
    | none=>match u.farStore Q ⟨b,o,s⟩ z false with | .ok (w,_)=>k.run Q w | .error h=>.halt h u:=by
   intro u
   cases z <;> first | exact absurd rfl (na.1 _) | exact absurd rfl (na.2 _) | rfl
  have run2:∀ u,(Sem.store .plain ⟨b,o,s⟩ z k).runT Q u es = match u.cell? ⟨b,o,s⟩ with
    | some _ => if u.frozen? ⟨b, o, s⟩ then (.halt (.unsupported (.unsafePointer "a write to bytes that a string shares")) u, es) else k.runT Q (u.setCell ⟨b, o, s⟩ z) (es.push ⟨.cell ⟨b, o, s⟩, true, false⟩)
    | none=>match u.farStore Q ⟨b,o,s⟩ z false with | .ok (w,touched)=>k.runT Q w (es ++ touched.toArray.map (⟨.cell ·,true,false⟩)) | .error h=>(.halt h u,es):=by
   intro u
   cases z <;> first | exact absurd rfl (na.1 _) | exact absurd rfl (na.2 _) | rfl
  cases hx:v.cell? ⟨b,o,s⟩ with
  | none =>
   obtain ⟨x,e,d,f⟩:=ZbG (Q:=Q) (m:=false) h hb hx;refine absurd hl ?_;rw [run1,hx]
   rcases f z with f | ⟨y,f,d2⟩
   ·rw [f];exact Z0D d
   ·rw [f];exact Z0D d2
  | some x =>
   obtain ⟨rfl,_⟩:=h.cells hb hx;have hx2:(re v T).cell? ⟨b,o,none⟩ = some x:=hx
   cases hf:v.frozen? ⟨b,o,none⟩ with
   | true =>
    refine absurd hl ?_;rw [run1,hx,hf];exact Z0D (h := .unsupported (.unsafePointer "a write to bytes that a string shares")) trivial
   | false =>
    have hf2:(re v T).frozen? ⟨b,o,none⟩ = false:=hf;rw [run1,hx,hf] at hl;rw [run2,run2,hx,hx2,hf,hf2];exact ih _ _ (h.store hb hx hf hz) v' hl T ht _
 | @new r o o' k k' ho _ ih =>
  intro v w h v' hl T ht es;have hR:∃ r' c w',r.le r' ∧ r' v.heap.size = some c ∧ WR C r' { v with heap:=v.heap.push o } w':=by
   have o2:=(SR.new (Q:=Q) (P:=P) (A:=fun r (a b:Nat)=>r a = some b) ho (fun r' _ b c hb=>.pure hb)).sim v w h #[];obtain ⟨r',b,w',ns,_,h1,h2,h3,_⟩:=o2;exact ⟨r',b,w',h3.le,h2,h1⟩
  obtain ⟨r',c,w',h1,h2,h3⟩:=hR;unfold Sem.runT;exact ih r' h1 _ _ h2 _ _ h3 v' hl T ht es
 | @shape r b b' k k' hb _ ih =>
  intro v w h v' hl T ht es;unfold Sem.runT;exact ih _ v w h v' hl T ht es
 | @getObj r b b' k k' hb _ ih =>
  intro v w h v' hl T ht es;obtain ⟨o,o',h1,h2,ho⟩:=h.on b b' hb;have h1':(re v T).heap[b]? = some o:=h1
  rcases ho.flip with ⟨cs,e,f,rfl⟩ | ⟨n1,n2,n3⟩
  ·refine absurd hl ?_
   have : (Sem.getObj b k).run Q v = .halt (.stuck "getObj: a row of cells") v := by simp only [Sem.run, h1]
   rw [this];exact Z0D (h:=.stuck _) trivial
  ·have e1:(Sem.getObj b k).run Q v = (k o).run Q v:=by
    conv=>lhs;unfold Sem.run
    rw [h1]
    cases o <;> first | exact absurd rfl (n1 _ _ _) | rfl
   have e2:∀ u:World,u.heap[b]? = some o → (Sem.getObj b k).runT Q u es = (k o).runT Q u (es.push ⟨.obj b,false,o.isChan⟩):=by
    intro u hu
    conv=>lhs;unfold Sem.runT
    rw [hu]
    cases o <;> first | exact absurd rfl (n1 _ _ _) | rfl
   rw [e1] at hl;rw [e2 _ h1,e2 _ h1'];exact ih _ (Ren.le_refl _) o o' ho v w h v' hl T ht _
 | @setObj r b b' o o' k k' hb ho hc _ ih =>
  intro v w h v' hl T ht es;obtain ⟨x,x',h1,h2,hx⟩:=h.on b b' hb;have h1':(re v T).heap[b]? = some x:=h1
  rcases hx.flip with ⟨cs,e,f,rfl⟩ | ⟨n1,n2,n3⟩
  ·refine absurd hl ?_
   have : (Sem.setObj b o k).run Q v = .halt (.stuck "setObj: a row of cells") v := by simp only [Sem.run, h1]
   rw [this];exact Z0D (h:=.stuck _) trivial
  ·have e1:(Sem.setObj b o k).run Q v = k.run Q { v with heap:=v.heap.setIfInBounds b o }:=by
    conv=>lhs;unfold Sem.run
    rw [h1]
    cases x <;> first | exact absurd rfl (n1 _ _ _) | rfl
   have e2:∀ u:World,u.heap[b]? = some x → (Sem.setObj b o k).runT Q u es = k.runT Q { u with heap:=u.heap.setIfInBounds b o } (es.push ⟨.obj b,true,o.isChan⟩):=by
    intro u hu
    conv=>lhs;unfold Sem.runT
    rw [hu]
    cases x <;> first | exact absurd rfl (n1 _ _ _) | rfl
   have hR:∃ w',WR C r { v with heap:=v.heap.setIfInBounds b o } w':=by
    have hl2:=h.lt hb;refine ⟨{ w with heap:=w.heap.setIfInBounds b' o' },h.turn hb ho (fun i=>?_) (fun i=>?_) ⟨rfl,rfl,rfl,rfl,rfl,rfl⟩⟩
    ·show (v.heap.setIfInBounds b o)[i]? = _
     rw [Array.getElem?_setIfInBounds]
     by_cases e':b = i
     ·subst e';simp [hl2.1]
     ·simp [e']
    ·show (w.heap.setIfInBounds b' o')[i]? = _
     rw [Array.getElem?_setIfInBounds]
     by_cases e':b' = i
     ·subst e';simp [hl2.2]
     ·simp [e']
   obtain ⟨w',hR⟩:=hR;rw [e1] at hl;rw [e2 _ h1,e2 _ h1'];exact ih _ _ hR v' hl T ht _
 | @choose r q k k' k0 ih =>
  intro v w h v' hl T ht es;unfold Sem.runT
  by_cases hf:q.forced = true
  ·simp only [hf,if_true]
   simp only [Sem.run,hf,if_true] at hl;exact ih 0 v w h v' hl T ht es
  ·simp only [Sem.run,hf] at hl
   simp only [hf];have hk:=Live.kept (k0 _) h.draw hl;have e:T v.drawn q = v.tape v.drawn q:=ht _ _ (Nat.le_refl _) (by have:=hk.1;simp at this;omega);have e2:(re v T).tape (re v T).drawn q = v.tape v.drawn q:=e;simp only [e2];exact ih _ { v with drawn:=v.drawn + 1 } _ h.draw v' hl T (fun i q h1 h2=>ht i q (by simp at h1;omega) h2) es
 | program _ ih =>
  intro v w h v' hl T ht es;unfold Sem.runT;exact ih v w h v' hl T ht es
 | room _ ih =>
  intro v w h v' hl T ht es;unfold Sem.runT;exact ih v w h v' hl T ht _
 | @env r k k' _ ih =>
  intro v w h v' hl T ht es;unfold Sem.runT;rw [Z53,Z53];simp only [Sem.run,Z53] at hl;exact ih _ v w h v' hl T ht _
 | panic q=>exact fun v w h v' hl T ht es=>rfl
 | dead q =>
  intro v w h v' hl T ht es;obtain ⟨x,w',e,d⟩:=q v;rw [e] at hl;exact absurd hl (Z0D d)
end
end Go.Proofs.YtfelljbfeoplhaaGreat.Lift
namespace Go.Proofs.YtfelljbfeoplhaaGreat.Lift
open Go
variable [Jk]
def Loc (X:World → GStep) (v:World):Prop:=∀ g v' es,X v = .go g v' es → (v.drawn ≤ v'.drawn ∧ v'.tape = v.tape) ∧ ∀ T,Zdx T v.tape v.drawn v'.drawn → X (re v T) = .go g (re v' T) es
section
variable {P:Program} {F:Array Func} {G:FuncId → Prop} {r:Ren} {v w:World} {α β:Type}
theorem Zk (g:Goroutine) (es:Array Event):Loc (fun u=>.go g u es) v:=by
 intro g' v' es' h;simp only [GStep.go.injEq] at h;obtain ⟨rfl,rfl,rfl⟩:=h;exact ⟨⟨Nat.le_refl _,rfl⟩,fun T _=>rfl⟩
theorem Z03 {X:World → GStep} (h:∃ o w2 es,X v = .ended o w2 es):Loc X v:=by
 obtain ⟨o,w2,es,e⟩:=h;intro g' v' es' h;rw [e] at h
 cases h
theorem Loc.congr {X Y:World → GStep} (h:Loc Y v) (e:∀ u,X u = Y u):Loc X v:=by
 intro g v' es h';rw [e] at h';obtain ⟨h1,h2⟩:=h g v' es h';exact ⟨h1,fun T hT=>by rw [e];exact h2 T hT⟩
theorem Z2O {C:Inv} {A:Ren → α → β → Prop} {s:Sem α} {s':Sem β} (k:SR Q P C A r s s') (h:WR C r v w) {X:World → GStep} {Y:α → World → GStep} {Z:Value → World → GStep} (hY:∀ a v1,s.run Q v = .ok a v1 → (∃ r' b,A r' a b) → Loc (Y a) v1 ∧ ∀ u u1,s.run Q u = .ok a u1 → X u = .after (seen Q fn (s.events Q u #[])) (Y a u1)) (hZ:∀ x v1,s.run Q v = .halt (.panic x) v1 → Loc (Z x) v1 ∧ ∀ u u1,s.run Q u = .halt (.panic x) u1 → X u = .after (seen Q fn (s.events Q u #[])) (Z x u1)) (hD:∀ x u1,s.run Q v = .halt x u1 → Dies x → ∃ o w2 es,X v = .ended o w2 es): Loc X v:=by
 have o:=k.sim v w h #[];have go_:∀ {res:Result α} {v1:World} {Yv:World → GStep},s.run Q v = res → Live res v1 → (∀ T,Result.re T res = (match res with | .ok a _=>.ok a (re v1 T) | .halt x _=>.halt x (re v1 T))) → Loc Yv v1 →
   X v = .after (seen Q fn (s.events Q v #[])) (Yv v1) → (∀ T,s.run Q (re v T) = Result.re T res → X (re v T) = .after (seen Q fn (s.events Q (re v T) #[])) (Yv (re v1 T))) → Loc X v:=by
  intro res v1 Yv hr hl hre hloc e1 e2 g v' es hX;rw [e1] at hX;have hl':Live (s.run Q v) v1:=hr ▸ hl;obtain ⟨k1,k2⟩:=Live.kept k h hl'
  cases hy:Yv v1 with
  | go g1 w1 es1 =>
   rw [hy] at hX;simp only [GStep.after,GStep.go.injEq] at hX;obtain ⟨rfl,rfl,rfl⟩:=hX;obtain ⟨⟨h1,h2⟩,h3⟩:=hloc _ _ _ hy;refine ⟨⟨Nat.le_trans k1 h1,h2.trans k2⟩,fun T hT=>?_⟩;have hloc2:=k.local v w h v1 hl' T (fun i q a b=>hT i q a (Nat.lt_of_lt_of_le b h1)) #[];rw [Sem.runT_eq,Sem.runT_eq] at hloc2;simp only [Prod.mk.injEq] at hloc2;rw [e2 T (by rw [hloc2.1,hr]),hloc2.2];rw [h3 T (fun i q a b=>by rw [k2];exact hT i q (Nat.le_trans k1 a) b)]
   rfl
  | _=>rw [hy] at hX;cases hX
 cases hr:s.run Q v with
 | ok a v1 =>
  rw [hr] at o;obtain ⟨r',b,w',ns,e,hw',hn,hk,he⟩:=o;obtain ⟨h1,h2⟩:=hY a v1 hr ⟨r',b,hn⟩;exact go_ hr (.inl ⟨a,rfl⟩) (fun T=>rfl) h1 (h2 v v1 hr) fun T e=>h2 _ _ e
 | halt x v1 =>
  rw [hr] at o
  cases x with
  | panic x =>
   obtain ⟨h1,h2⟩:=hZ x v1 hr;exact go_ hr (.inr ⟨x,rfl⟩) (fun T=>rfl) h1 (h2 v v1 hr) fun T e=>h2 _ _ e
  | stuck y=>exact Z03 (hD _ _ hr trivial)
  | unsupported y=>exact Z03 (hD _ _ hr o)
  | _=>exact o.elim
def Z7B (P:Program) (f:Frame) (K:List Frame):Next → World → GStep
 | .value x,u=>.go (run1 (f.finish x) K) u
 | .skip,u=>.go (run1 (f.finish undef) K) u
 | .enter g xs,u=>.go (run1 (Frame.enter P g xs (Z2h f)) (f :: K)) u
 | .round l g xs a b,u=>.go (run1 (Frame.round l g xs a b .normal) (f :: K)) u
 | .defer d,u=>.go (run1 (Frame.finish { f with defers:=d :: f.defers } undef) K) u
 | .recover,u=>match tryRecover f K with
  | some (x,K')=>.go (run1 (f.finish x) K') u
  | none=>.go (run1 (f.finish .nilIface) K) u
 | _,u=>.ended default u
theorem Z5h (hrec:P.follows .rangeFuncRecover = true) {f:Frame} {K:List Frame} (hk:f.kind = .normal ∨ f.kind = .deferred) {df:Prop} {s s':Sem Next} (h:SR (PF P F) P (Iv P F) (NR (Iv P F) G df) r s s') (hw:WR (Iv P F) r v w):
  Loc (fun u=>stepG.apply (PF P F) true f K none s u) v:=by
 have hrec':(PF P F).follows .rangeFuncRecover = true:=hrec;have ke:(f.kind == CallKind.early) = false:=by rcases hk with q | q <;> rw [q] <;> rfl
 have el:∀ u,lst (PF P F) f s u = seen (PF P F) f.fn (s.events (PF P F) u #[]):=by intro u;unfold lst;rw [ke];rfl
 refine Z2O h hw (fn:=f.fn) (Y:=Z7B (PF P F) f K) (Z:=fun x u=>.go (run1 (f.raise [{ v:=x,recovered:=false }]) K) u) ?_ ?_ ?_
 ·rintro a v1 _ ⟨r',b,hn⟩
  cases hn with
  | value q=>exact ⟨Zk _ _,fun u u1 e=>by rw [Z0c e,el];rfl⟩
  | skip=>exact ⟨Zk _ _,fun u u1 e=>by rw [Z2l e,el];rfl⟩
  | enter gf q=>exact ⟨Zk _ _,fun u u1 e=>by rw [Z0r e,el];rfl⟩
  | round hl hn q ha hb=>exact ⟨Zk _ _,fun u u1 e=>by rw [Z2P e,el];rfl⟩
  | defer _ q=>exact ⟨Zk _ _,fun u u1 e=>by rw [Z20 e,el];rfl⟩
  | recover =>
   cases ht:tryRecover f K with
   | none=>exact ⟨(Zk (run1 (f.finish .nilIface) K) #[]).congr fun u=>by simp only [Z7B,ht],fun u u1 e=>by rw [Z2y hrec' e ht,el];simp only [Z7B,ht]⟩
   | some p =>
    obtain ⟨x,K'⟩:=p;exact ⟨(Zk (run1 (f.finish x) K') #[]).congr fun u=>by simp only [Z7B,ht],fun u u1 e=>by rw [Z3A hrec' e ht,el];simp only [Z7B,ht]⟩
 ·exact fun x v1 _=>⟨Zk _ _,fun u u1 e=>by rw [Z2S e,el]⟩
 ·exact fun x u1 e d=>Z3K e d
theorem Z8Q {m:Bool} {f a:Frame} {K:List Frame} {x:Value} (hk:f.kind = .normal ∨ f.kind = .deferred): Loc (fun u=>doReturn P m f (a :: K) none x u) v:=by
 rcases hk with hk | hk
 ·exact (Zk (run1 (a.finish x) K) #[]).congr fun u=>by unfold doReturn;simp only [hk];rfl
 ·refine (Zk (run1 (match a.mode with
    | .panicking ({ recovered:=true,.. } :: older)=>(match older.dropWhile (!·.goexit) with
     | []=>{ a with mode:=.returning }
     | rest=>{ a with mode:=.panicking rest })
    | _=>a) K) #[]).congr fun u=>?_
  unfold doReturn;simp only [hk]
  rfl
def cdY (P:Program) (f:Frame) (K:List Frame):Next → World → GStep
 | .enter g xs,u=>.go (run1 (Frame.enter P g xs .deferred) (f :: K)) u
 | .round l g xs a b,u=>.go (run1 (Frame.round l g xs a b .deferred) (f :: K)) u
 | .recover,u=>match f.mode,tryRecover f K with
  | .returning,some (_,K')=>.go (run1 f K') u
  | _,_=>.go (run1 f K) u
 | _,u=>.go (run1 f K) u
theorem Z3S (S:Strip P F (CodeOk P false) G) {f:Frame} {K:List Frame} {d d':Deferred} (hd:DR r d d') (hw:WR (Iv P F) r v w): Loc (fun u=>callDeferred (PF P F) f K none d u) v:=by
 have k:=Z2b (C:=Iv P F) (df:=False) S hd.1 hd.2;obtain ⟨t,az⟩:=d;obtain ⟨t',bs⟩:=d';obtain ⟨ht,ha⟩:=hd;dsimp only at ht ha k
 cases ht with
 | nil =>
  cases hm:f.mode with
  | run =>
   refine (Zk (run1 (f.raise [{ v := .iface (PF P F).rt.errorString (strVal "invalid memory address or nil pointer dereference"), recovered := false }]) K) (seen (PF P F) f.fn #[] ++ #[])).congr fun u => ?_;rw [Z67 (.inl hm)]
   rfl
  | returning =>
   refine (Zk (run1 (f.raise [{ v := .iface (PF P F).rt.errorString (strVal "invalid memory address or nil pointer dereference"), recovered := false }]) K) (seen (PF P F) f.fn #[] ++ #[])).congr fun u => ?_;rw [Z67 (.inr hm)]
   rfl
  | panicking ps=>exact Z03 (Zcs hm)
 | collected q=>exact Z03 ZbQ
 | fn hfn hx =>
  refine Z2O k hw (fn:=f.fn) (Y:=cdY (PF P F) f K) (Z:=fun x u=>.go (run1 (f.raise [{ v:=x,recovered:=false }]) K) u) ?_ ?_ ?_
  ·rintro a v1 _ ⟨r',b,hn⟩
   cases hn with
   | value q=>exact ⟨Zk _ _,fun u u1 e=>by rw [Z4i e];rfl⟩
   | skip=>exact ⟨Zk _ _,fun u u1 e=>by rw [Z91 e];rfl⟩
   | enter gf q=>exact ⟨Zk _ _,fun u u1 e=>by rw [Z34 e];rfl⟩
   | round hl hn q ha hb=>exact ⟨Zk _ _,fun u u1 e=>by rw [Z6a e];rfl⟩
   | defer _ q=>exact ⟨Zk _ _,fun u u1 e=>by rw [Z76 e];rfl⟩
   | recover =>
    refine ⟨?_,fun u u1 e=>by rw [Zbm e];rfl⟩
    cases hm:f.mode with
    | run=>exact (Zk (run1 f K) #[]).congr fun u=>by simp only [cdY,hm]
    | panicking ps=>exact (Zk (run1 f K) #[]).congr fun u=>by simp only [cdY,hm]
    | returning =>
     cases ht:tryRecover f K with
     | none=>exact (Zk (run1 f K) #[]).congr fun u=>by simp only [cdY,hm,ht]
     | some p=>exact (Zk (run1 f p.2) #[]).congr fun u=>by simp only [cdY,hm,ht]
  ·exact fun x v1 _=>⟨Zk _ _,fun u u1 e=>by rw [Z61 e];rfl⟩
  ·exact fun x u1 e d=>Z8O e d
end
end Go.Proofs.YtfelljbfeoplhaaGreat.Lift
namespace Go.Proofs.YtfelljbfeoplhaaGreat.Lift
open Go
variable [Jk]
section
variable {P:Program} {F:Array Func} {G:FuncId → Prop} {r:Ren} {v w:World} {α β:Type}
theorem Z3h {f g:Frame} {A B:List Frame} (hs:Stk P F r (f :: A) (g :: B)) (hw:WR (Iv P F) r v w) {j:Option Code} (hj:∀ c,j = some c → CodeOk P true c): Loc (fun u=>Z08 (PF P F) true f (A ++ [poison]) u j) v:=by
 have hr:=hs.uncons.1.round;have hk:=hs.uncons.1.kind.2;obtain ⟨a,K,hAK⟩:∃ a K,A ++ [poison] = a :: K:=by cases A <;> exact ⟨_,_,rfl⟩
 rw [hAK]
 cases hro:f.roundOf with
 | none =>
  by_cases e:(match j with | none=>true | some .ret=>true | _=>false) = true
  ·refine (Zk (run1 { f with mode:=.returning } (a :: K)) #[]).congr fun u=>?_
   unfold Z08;simp only [hro]
   cases j with
   | none=>rfl
   | some c=>cases c <;> first | rfl | cases e
  ·refine Z03 ?_
   unfold Z08;simp only [hro]
   cases j with
   | none=>exact absurd rfl e
   | some c=>cases c <;> first | exact absurd rfl e | exact ⟨_,_,_,rfl⟩
 | some l =>
  rw [hro] at hr;generalize g.roundOf = y at hr
  cases hr with
  | some q =>
   refine Z2O (Z4H (P := P) (F := F) q hj) hw (fn := f.fn) (Y := fun x u => doReturn (PF P F) true f (a :: K) none x u) (Z := fun x u => .ended (.stuck "range over a function: no such loop" (f.pos (PF P F))) u) ?_ ?_ ?_
   ·intro x v1 e _
    refine ⟨Z8Q hk,fun u u1 e=>?_⟩;unfold Z08;simp only [hro,e]
   ·intro x v1 e
    refine ⟨Z03 ⟨_,_,_,rfl⟩,fun u u1 e=>?_⟩;unfold Z08;simp only [hro,e]
   ·intro x u1 e d
    unfold Z08;simp only [hro,e];exact ⟨_,_,_,rfl⟩
theorem Z5x (S:Strip P F (CodeOk P false) G) {f g:Frame} {A B:List Frame} (hs:Stk P F r (f :: A) (g :: B)) (hw:WR (Iv P F) r v w): Loc (fun u=>unwind (PF P F) true f (A ++ [poison]) none u) v:=by
 have hd:=hs.uncons.1.defers.1;have hk:=hs.uncons.1.kind.2;have hf:=hs.uncons.1;obtain ⟨a,K,hAK⟩:∃ a K,A ++ [poison] = a :: K:=by cases A <;> exact ⟨_,_,rfl⟩
 rw [hAK]
 cases h1:f.defers with
 | cons d ds =>
  rw [h1] at hd;generalize g.defers = es at hd
  cases hd with
  | @cons d e ds es hde hrest =>
   obtain ⟨t,az⟩:=d;obtain ⟨t',bs⟩:=e;have hde0:=hde;obtain ⟨ht,ha⟩:=hde;dsimp only at ht ha
   cases ht with
   | @collected b c q =>
    refine Z2O (Zc7 (P := P) (F := F) q) hw (fn := f.fn) (Y := fun x u => .go (run1 { f with defers := x ++ ds } (a :: K)) u) (Z := fun x u => .ended (.stuck "the deferred calls of a range-over-func loop have been taken" (f.pos (PF P F))) u) ?_ ?_ ?_
    ·exact fun x v1 e _=>⟨Zk _ _,fun u u1 e=>by unfold unwind;simp only [h1,Sem.runT_eq,e];rfl⟩
    ·exact fun x v1 e=>⟨Z03 ⟨_,_,_,rfl⟩,fun u u1 e=>by unfold unwind;simp only [h1,Sem.runT_eq,e]⟩
    ·exact fun x u1 e d=>by unfold unwind;simp only [h1,Sem.runT_eq,e];exact ⟨_,_,_,rfl⟩
   | nil=>exact (Z3S S hde0 hw (f:={ f with defers:=ds }) (K:=a :: K)).congr fun u=>by unfold unwind;simp only [h1]
   | fn x y=>exact (Z3S S hde0 hw (f:={ f with defers:=ds }) (K:=a :: K)).congr fun u=>by unfold unwind;simp only [h1]
 | nil =>
  cases hm:f.mode with
  | run =>
   refine Z03 ⟨.stuck "unwind: the frame is running" (f.pos (PF P F)), v, #[], ?_⟩;unfold unwind;simp only [h1,hm]
  | panicking ps =>
   have c1:f.catches (PF P F) = false:=by
    unfold Frame.catches
    split
    ·rename_i e2;exact absurd e2 ((Z78 hf).1 _ _ _ _ _)
    ·rfl
   refine (Zk (run1 (a.raise ps) K) #[]).congr fun u=>?_;unfold unwind;simp only [h1,hm,c1]
   rfl
  | returning =>
   have e0:(PF P F).funcs = F:=rfl
   cases hfn:F[f.fn]? with
   | none=>exact (Z8Q (P:=PF P F) (m:=true) (a:=a) (K:=K) (x:=f.tmps.getD 0 undef) hk).congr fun u=>by unfold unwind;simp only [h1,hm,e0,hfn]
   | some fn =>
    refine Z2O (Z1y (P := P) (F := F) (fn := fn) hf.tmps) hw (fn := f.fn) (Y := fun x u => doReturn (PF P F) true f (a :: K) none x u) (Z := fun x u => .ended (.stuck "return: the result variables cannot be read" (f.pos (PF P F))) u) ?_ ?_ ?_
    ·exact fun x v1 e _=>⟨Z8Q hk,fun u u1 e=>by unfold unwind;simp only [h1,hm,e0,hfn,Sem.runT_eq,e]⟩
    ·exact fun x v1 e=>⟨Z03 ⟨_,_,_,rfl⟩,fun u u1 e=>by unfold unwind;simp only [h1,hm,e0,hfn,Sem.runT_eq,e]⟩
    ·intro x u1 e d
     unfold unwind;simp only [h1,hm,e0,hfn,Sem.runT_eq,e]
     cases x <;> exact ⟨_,_,_,rfl⟩
theorem ZeW (S : Strip P F (CodeOk P false) G) (hrec : P.follows .rangeFuncRecover = true) {f g : Frame} {A B : List Frame} (hs : Stk P F r (f :: A) (g :: B)) (hw : WR (Iv P F) r v w) (hm : f.mode = .run) (np : ¬ Pend f) :
    Loc (fun u => stepG.exec (PF P F) true true f (A ++ [poison]) none u) v := by
  obtain ⟨hf, hst, hd⟩ := hs.uncons;have ht := hf.todo;have hk := hf.kind.2;generalize h1 : f.todo = fk at ht;generalize h2 : g.todo = gk at ht
  cases ht with
  | nil => exact (Z3h hs hw (by simp)).congr fun u => Z9c h1
  | tail _ _ => exact Z03 ⟨_, _, _, (Z1B h1).choose_spec⟩
  | cut _ _ h =>
    cases h with
    | stop _ => exact Z03 ⟨_, _, _, (Z1B h1).choose_spec⟩
    | seq _ _ => exact (Zk _ _).congr fun u => Z2H h1
    | left _ => exact (Zk _ _).congr fun u => Z2H h1
  | @cons a b k k' hab hk2 =>
    cases hab with
    | @code c hc =>
      cases c with
      | skip => exact (Zk _ _).congr fun u => Z7d h1
      | label i => exact (Zk _ _).congr fun u => Z4o h1
      | ret => exact (Z3h hs hw (by intro c e; cases e; trivial)).congr fun u => Z9q h1
      | seq x y => exact (Zk _ _).congr fun u => Z2H h1
      | block i x => exact (Zk _ _).congr fun u => Z4n h1
      | loop x => exact (Zk _ _).congr fun u => Z73 h1
      | scope x => exact (Zk _ _).congr fun u => Z4l h1
      | refuse y => exact Z03 ⟨_, _, _, (Z1B h1).choose_spec⟩
      | cond x y z =>
        cases hx : f.eval x with
        | bool t => exact (Zk (run1 { f with todo := .code (if t then y else z) :: k } (A ++ [poison])) #[]).congr fun u => by rw [Z4z h1, hx]
        | _ => exact Z03 ⟨_, _, _, by rw [Z4z h1, hx]⟩
      | exit i =>
        cases e : exitTo i k with
        | some k2 => exact (Zk (run1 { f with todo := k2 } (A ++ [poison])) #[]).congr fun u => by rw [Z4F h1, e]
        | none => exact (Z3h hs hw (j := some (.exit i)) (by intro c e; cases e; trivial)).congr fun u => by rw [Z4F h1, e]
      | goto i =>
        cases e : gotoIn i k with
        | some k2 => exact (Zk (run1 { f with todo := k2 } (A ++ [poison])) #[]).congr fun u => by rw [Z6j h1, e]
        | none => exact (Z3h hs hw (j := some (.goto i)) (by intro c e; cases e; trivial)).congr fun u => by rw [Z6j h1, e]
      | region i ops draw =>
        cases draw with
        | false => exact (Zk _ _).congr fun u => Z32 h1
        | true =>
          intro g' v' es h;dsimp only at h ⊢;rw [Z65 h1] at h;simp only [GStep.go.injEq] at h;obtain ⟨rfl, rfl, rfl⟩ := h;refine ⟨⟨by simp, rfl⟩, fun T hT => ?_⟩;rw [Z65 h1];have e : (re v T).tape (re v T).drawn (.order f.fn i) = v.tape v.drawn (.order f.fn i) := hT _ _ (Nat.le_refl _) (Nat.lt_succ_self _);rw [e]
          rfl
      | rangeFunc x ps y z =>
        have hown : (Iv P F).fn f.fn := Classical.not_not.1 hc.2.2.2.1;refine Z2O (Z2a (ps := ps) hown hf.tmps hc.2.1 hc.2.2.1 hf.round) hw (fn := f.fn)
          (Y := fun n u => stepG.apply (PF P F) true { f with todo := .inRangeFunc n.1 :: k, defers := n.2 ++ f.defers } (A ++ [poison]) none (do let d ← resolve f.eval { callee := .value x, args := #[.const (.func (.yield n.1) #[] #[])], argTypes := #[] } 0; invoke d.target d.args) u)
          (Z := fun x u => .ended (.stuck "range over a function: no such loop" (f.pos (PF P F))) u) ?_ ?_ ?_
        · intro n v1 e _
          have o := (Z2a (P := P) (F := F) (ps := ps) hown hf.tmps hc.2.1 hc.2.2.1 hf.round).sim v w hw #[];rw [e] at o;obtain ⟨r', b, w', ns, _, hw', hn, hkk, _⟩ := o;obtain ⟨l, mk⟩ := n;obtain ⟨l', mk'⟩ := b;obtain ⟨hl, hm⟩ := hn;have hf' := hf.mono hkk.le
          refine ⟨Z5h (G := G) (df := False) (f := { f with todo := .inRangeFunc l :: k, defers := mk ++ f.defers }) (s' := (do let d ← resolve g.eval { callee := .value x, args := #[.const (.func (.yield l') #[] #[])], argTypes := #[] } 0; invoke d.target d.args)) hrec hk ?_ hw', fun u u1 e => by rw [Z3j h1, e]⟩
          by_cases hz : f.eval x = J0
          · refine .dead ?_
            unfold resolve;dsimp only;rw [hz];exact Z3x hc.2.2.2.2 _
          refine Z4 (A := DR) ?_ fun _ _ a b q => Z2b S q.1 q.2;unfold resolve;have hy : VR r' (.func (.yield l) #[] #[]) (.func (.yield l') #[] #[]) := .func (.yield hl) rfl (by simp) rfl (by simp);refine Z3L hz (hf'.env x hc.1) ?_;have e3 : ∀ (h : Operand → Value) (z : Operand), #[z].map h = #[h z] := fun h z => by simp
          rw [e3, e3];exact Arr.one hy
        · exact fun n v1 e => ⟨Z03 ⟨_, _, _, rfl⟩, fun u u1 e => by rw [Z3j h1, e]⟩
        · exact fun n u1 e d => by rw [Z3j h1, e]; exact ⟨_, _, _, rfl⟩
    | inBlock i => exact (Zk _ _).congr fun u => Z2m h1
    | inLoop hc => exact (Zk _ _).congr fun u => Z3s h1
    | inScope hc => exact (Zk _ _).congr fun u => Z2u h1
    | inRange _ q => exact Z03 (Z5E h1)
    | begin_ =>
      have hr := hf.round
      refine (Z5h (G := G) (df := False) (s' := (do g.roundOf.elim (stuck "beginRound: no round") Instr.beginRound; pure .skip)) hrec hk (sr_u ?_) hw).congr fun u => Z6L h1;generalize f.roundOf = x at hr ⊢;generalize g.roundOf = y at hr ⊢
      cases hr with
      | none => exact Z2
      | some q => exact Z3b q
    | @endRange l l' _ q =>
      refine Z2O (Z5r (P := P) (F := F) q) hw (fn := f.fn) (Y := fun j u => .go (run1 { f with todo := (j.map Item.code).toList ++ k } (A ++ [poison])) u) (Z := fun x u => .go (run1 (f.raise [{ v := x, recovered := false }]) (A ++ [poison])) u) ?_ ?_ ?_
      · exact fun j v1 e _ => ⟨Zk _ _, fun u u1 e => by rw [Z11 h1, e]⟩
      · exact fun x v1 e => ⟨Zk _ _, fun u u1 e => by rw [Z11 h1, e]⟩
      · intro x u1 e d
        rw [Z11 h1, e]
        cases x <;> first | exact ⟨_, _, _, rfl⟩ | exact d.elim
    | @inRegion ops todo hops =>
      cases todo with
      | nil => exact (Zk _ _).congr fun u => Z6i h1
      | cons i rest =>
        cases ho : ops[i]? with
        | none => exact (Zk (run1 (f.finish undef) (A ++ [poison])) #[]).congr fun u => by rw [Z1S h1, ho]; rfl
        | some o =>
          by_cases hwant : Region.wanted o (yielded ops f.tmps) = true
          · have hop := hops o (Array.mem_of_getElem? ho)
            have hro : f.roundOf = none ∨ ∀ c, o.op ≠ .defer c := by
              cases hx : f.roundOf with
              | none => exact .inl rfl
              | some l => exact .inr (hop.2 (.inl (by rw [hx]; rfl)))
            refine (Z5h (K := A ++ [poison]) hrec hk (Z7p S hw.inj (fun _ => rfl) hf.env (hop.1.resolve_right fun q => np ⟨q.1, hm, ops, i, rest, k, o, h1, ho, hwant, q.2⟩)) hw).congr fun u => ?_;rw [Z1S h1, ho, Z3N h1 ho hro];simp [hwant]
          · refine (Zk (run1 (f.finish undef) (A ++ [poison])) #[]).congr fun u => ?_
            rw [Z1S h1, ho];simp [hwant]
theorem ZaD (S:Strip P F (CodeOk P false) G) (hrec:P.follows .rangeFuncRecover = true) {f g:Frame} {A B:List Frame} (hs:Stk P F r (f :: A) (g :: B)) (hw:WR (Iv P F) r v w) (np:¬ Pend f):
  Loc (fun u=>stepG (PF P F) true (run1 f (A ++ [poison])) u) v:=by
 cases hx:f.mode with
 | run=>exact (ZeW S hrec hs hw hx np).congr fun u=>by unfold stepG run1;simp only [hx]
 | returning=>exact (Z5x S hs hw).congr fun u=>by unfold stepG run1;simp only [hx]
 | panicking q=>exact (Z5x S hs hw).congr fun u=>by unfold stepG run1;simp only [hx]
end
end Go.Proofs.YtfelljbfeoplhaaGreat.Lift
namespace Go.Proofs.YtfelljbfeoplhaaGreat.Lift
open Go
variable [Jk]
section
variable {P:Program} {F:Array Func} {G:FuncId → Prop} {r:Ren} {v w:World}
theorem WR.retape {C:Inv} (h:WR C r v w) (τ:Nat → Question → Nat):∃ σ,WR C r (re v τ) (re w σ):=
 ⟨fun i q=>τ (i - w.drawn + v.drawn) q,h.on,h.inj,fun i q=>by
  show τ (v.drawn + i) q = τ (w.drawn + i - w.drawn + v.drawn) q
  congr 1
  omega,h.env⟩
def Rec (P:Program):Prop:=P.follows .rangeFuncRecover = true ∧ ∀ f,¬ Jk.law f
theorem Z7q (S:Strip P F (CodeOk P false) G) (hg:GOk P F G) (hrec:Rec P) {f g:Frame} {A B:List Frame} (hs:Stk P F r (f :: A) (g :: B)) (hw:WR (Iv P F) r v w):
  (∃ o w2 es,stepG (PF P F) true (run1 f (A ++ [poison])) v = .ended o w2 es) ∨
  (∃ x v' es,stepG (PF P F) true (run1 f (A ++ [poison])) v = .go (run1 x []) v' es ∧ (x = poison ∨ ∃ c,x = { poison with mode:=.panicking c })) ∨
  ∃ f' A' g' B' r' v' w' es,stepG (PF P F) true (run1 f (A ++ [poison])) v = .go (run1 f' (A' ++ [poison])) v' es ∧ Stk P F r' (f' :: A') (g' :: B') ∧ WR (Iv P F) r' v' w':=by
 have h:=Z6s (cs:=[]) (m:=true) S hg hrec.1 hs hw fun q=>hrec.2 _ q.1
 cases e:stepG (PF P F) true (run1 f (A ++ [poison])) v with
 | ended o w2 es=>exact .inl ⟨_,_,_,rfl⟩
 | go g' v' es =>
  rw [e] at h
  rcases h with (h | ⟨c,h⟩) | ⟨r',f',W,w',ns,_,h1,h2,h3,⟨A',B',h4,h5,h6,h7⟩,h8,_⟩
  ·exact .inr (.inl ⟨_,_,_,by rw [h],.inl rfl⟩)
  ·exact .inr (.inl ⟨_,_,_,by rw [h],.inr ⟨c,rfl⟩⟩)
  ·cases A' with
   | nil=>exact absurd rfl h6
   | cons a az =>
    cases B' with
    | nil=>have:=h7.rel;cases this
    | cons b bs =>
     simp only [List.cons_append,List.cons.injEq] at h4;obtain ⟨fr,cl,st,dy,off⟩:=g';dsimp only at h1 h2 h3 h4;obtain ⟨rfl,rfl⟩:=h4;subst h1 h2 h3;exact .inr (.inr ⟨_,az,b,bs,r',v',w',es,rfl,h7,h8⟩)
 | _=>rw [e] at h;exact h.elim
theorem Z1R {x:Frame} (hx:x = poison ∨ ∃ c,x = { poison with mode:=.panicking c }) (u:World): ∃ o w2 es,stepG Q true (run1 x []) u = .ended o w2 es:=by
 rcases hx with rfl | ⟨c,rfl⟩
 ·exact ⟨_,_,_,rfl⟩
 ·exact ⟨_,_,_,rfl⟩
inductive Ends (Q:Program) (Stop:List Frame → World → Prop):List Frame → World → Prop
 | stop {V v} (h:Stop V v):Ends Q Stop V v
 | step {f K v} (ok:∀ τ,∃ f' K' v' es,stepG Q true (run1 f K) (re v τ) = .go (run1 f' K') v' es)
   (h:∀ τ f' K' v' es,stepG Q true (run1 f K) (re v τ) = .go (run1 f' K') v' es → Ends Q Stop (f' :: K') v'):Ends Q Stop (f :: K) v
theorem Ends.re {Stop:List Frame → World → Prop} (hS:∀ V v T,Stop V v → Stop V (Lift.re v T)) {V:List Frame} {v:World} (h:Ends Q Stop V v) (T:Nat → Question → Nat): Ends Q Stop V (Lift.re v T):=by
 cases h with
 | stop h=>exact .stop (hS _ _ _ h)
 | step ok h=>exact .step ok h
def Seat (P:Program) (F:Array Func) (f:Frame) (K:List Frame) (v:World):Prop:=
 (∃ A g B r w,K = A ++ [poison] ∧ Stk P F r (f :: A) (g :: B) ∧ WR (Iv P F) r v w) ∨ (K = [] ∧ (f = poison ∨ ∃ c,f = { poison with mode:=.panicking c }))
theorem Seat.step (S:Strip P F (CodeOk P false) G) (hg:GOk P F G) (hrec:Rec P) {f:Frame} {K:List Frame} (h:Seat P F f K v) (τ:Nat → Question → Nat) :
  (∃ o w2 es,stepG (PF P F) true (run1 f K) (re v τ) = .ended o w2 es) ∨ ∃ f' K' v' es,stepG (PF P F) true (run1 f K) (re v τ) = .go (run1 f' K') v' es ∧ Seat P F f' K' v':=by
 rcases h with ⟨A,g,B,r,w,rfl,hs,hw⟩ | ⟨rfl,hx⟩
 ·obtain ⟨σ,hw'⟩:=hw.retape τ
  rcases Z7q S hg hrec hs hw' with h | ⟨x,v',es,e,hx⟩ | ⟨f',A',g',B',r',v',w',es,e,h1,h2⟩
  ·exact .inl h
  ·exact .inr ⟨_,_,_,_,e,.inr ⟨rfl,hx⟩⟩
  ·exact .inr ⟨_,_,_,_,e,.inl ⟨_,_,_,_,_,rfl,h1,h2⟩⟩
 ·exact .inl (Z1R hx _)
theorem Seat.loc (S:Strip P F (CodeOk P false) G) (hrec:Rec P) {f:Frame} {K:List Frame} (h:Seat P F f K v) (τ:Nat → Question → Nat): Loc (fun u=>stepG (PF P F) true (run1 f K) u) (re v τ):=by
 rcases h with ⟨A,g,B,r,w,rfl,hs,hw⟩ | ⟨rfl,hx⟩
 ·obtain ⟨σ,hw'⟩:=hw.retape τ
  exact ZaD S hrec.1 hs hw' fun q=>hrec.2 _ q.1
 ·exact Z03 (Z1R hx _)
section
variable {Stop:List Frame → World → Prop}
structure Bad (P:Program) (F:Array Func) (Stop:List Frame → World → Prop) where
 f:Frame
 K:List Frame
 v:World
 seat:Seat P F f K v
 bad:¬ Ends (PF P F) Stop (f :: K) v
def Bad.Next (x:Bad P F Stop) (T:Nat → Question → Nat) (y:Option (Bad P F Stop)):Prop:=
 (∀ i q,i < x.v.drawn → T i q = x.v.tape i q) ∧ match y with
  | some y=>∃ es,stepG (PF P F) true (run1 x.f x.K) (re x.v T) = .go (run1 y.f y.K) y.v es
  | none=>∃ o w2 es,stepG (PF P F) true (run1 x.f x.K) (re x.v T) = .ended o w2 es
theorem Bad.next (S:Strip P F (CodeOk P false) G) (hg:GOk P F G) (hrec:Rec P) (hS:∀ V v T,Stop V v → Stop V (Lift.re v T)) (x:Bad P F Stop):∃ T y,x.Next T y:=by
 have:∃ τ,(∃ o w2 es,stepG (PF P F) true (run1 x.f x.K) (re x.v τ) = .ended o w2 es) ∨ ∃ f' K' v' es,stepG (PF P F) true (run1 x.f x.K) (re x.v τ) = .go (run1 f' K') v' es ∧ Seat P F f' K' v' ∧ ¬ Ends (PF P F) Stop (f' :: K') v':=by
  refine Classical.byContradiction fun hn=>x.bad ?_;have hn':∀ τ,∃ f' K' v' es,stepG (PF P F) true (run1 x.f x.K) (re x.v τ) = .go (run1 f' K') v' es ∧ Ends (PF P F) Stop (f' :: K') v':=by
   intro τ
   rcases x.seat.step S hg hrec τ with h | ⟨f',K',v',es,e,hs⟩
   ·exact absurd ⟨τ,.inl h⟩ hn
   ·exact ⟨f',K',v',es,e,Classical.byContradiction fun hb=>hn ⟨τ,.inr ⟨f',K',v',es,e,hs,hb⟩⟩⟩
  refine .step (fun τ=>?_) (fun τ f' K' v' es e=>?_)
  ·obtain ⟨f',K',v',es,e,_⟩:=hn' τ
   exact ⟨f',K',v',es,e⟩
  ·obtain ⟨f2,K2,v2,es2,e2,h2⟩:=hn' τ
   rw [e] at e2;simp only [GStep.go.injEq,run1,Goroutine.mk.injEq] at e2;obtain ⟨⟨rfl,rfl,_⟩,rfl,_⟩:=e2;exact h2
 obtain ⟨τ,hτ⟩:=this
 let T:Nat → Question → Nat:=fun i q=>if i < x.v.drawn then x.v.tape i q else τ i q
 have hT:∀ i q,i < x.v.drawn → T i q = x.v.tape i q:=fun i q h=>if_pos h;have hA:∀ hi,Zdx τ T x.v.drawn hi:=fun hi i q h1 _=>(if_neg (by omega)).symm
 rcases x.seat.step S hg hrec T with h | ⟨f',K',v',es,e,hs⟩
 ·exact ⟨T,none,hT,h⟩
 ·obtain ⟨⟨h1,h2⟩,h3⟩:=x.seat.loc S hrec T _ _ _ e
  have e3:stepG (PF P F) true (run1 x.f x.K) (re x.v τ) = .go (run1 f' K') (re v' τ) es:=h3 τ (hA _)
  rcases hτ with ⟨o,w2,es2,q⟩ | ⟨f2,K2,v2,es2,q,_,hb⟩
  ·rw [q] at e3;cases e3
  ·rw [q] at e3
   simp only [GStep.go.injEq,run1,Goroutine.mk.injEq] at e3;obtain ⟨⟨rfl,rfl,_⟩,rfl,_⟩:=e3;exact ⟨T,some ⟨_,_,v',hs,fun hE=>hb (hE.re hS τ)⟩,hT,es,e⟩
section
variable {Stop:List Frame → World → Prop}
structure Way (P:Program) (F:Array Func) (Stop:List Frame → World → Prop) where
 tp:Bad P F Stop → Nat → Question → Nat
 y:Bad P F Stop → Option (Bad P F Stop)
 h:∀ x:Bad P F Stop,x.Next (tp x) (y x)
def Way.chain (W:Way P F Stop) (x:Bad P F Stop):Nat → Option (Bad P F Stop)
 | 0=>some x
 | k + 1=>(W.chain x k).bind W.y
theorem Way.up (W:Way P F Stop) (S:Strip P F (CodeOk P false) G) (hrec:Rec P) {x y:Bad P F Stop} (h:W.y x = some y):x.v.drawn ≤ y.v.drawn:=by
 have:=(W.h x).2;rw [h] at this;obtain ⟨es,e⟩:=this;exact (x.seat.loc S hrec _ _ _ _ e).1.1
theorem Way.mono (W:Way P F Stop) (S:Strip P F (CodeOk P false) G) (hrec:Rec P) {x0 x z:Bad P F Stop} {j:Nat} (hj:W.chain x0 j = some x) :
  ∀ n,W.chain x0 (j + 1 + n) = some z → ∃ y,W.y x = some y ∧ y.v.drawn ≤ z.v.drawn:=by
 intro n
 induction n generalizing z with
 | zero =>
  intro h;simp only [Nat.add_zero,Way.chain,hj,Option.bind_some] at h;exact ⟨z,h,Nat.le_refl _⟩
 | succ n ih =>
  intro h;rw [show j + 1 + (n + 1) = (j + 1 + n) + 1 from rfl,Way.chain] at h;obtain ⟨m,hm,hz⟩:=Option.bind_eq_some_iff.1 h;obtain ⟨y,hy,hle⟩:=ih hm;exact ⟨y,hy,Nat.le_trans hle (W.up S hrec hz)⟩
def Way.own (W:Way P F Stop) (x:Bad P F Stop) (i:Nat):Prop:=x.v.drawn ≤ i ∧ ∀ y,W.y x = some y → i < y.v.drawn
theorem Way.tape (W:Way P F Stop) (S:Strip P F (CodeOk P false) G) (hrec:Rec P) (x0:Bad P F Stop) :
  ∃ T:Nat → Question → Nat,∀ k x,W.chain x0 k = some x → ∀ i q,W.own x i → T i q = W.tp x i q:=by
 have un:∀ j k x z i,W.chain x0 j = some x → W.chain x0 k = some z → W.own x i → W.own z i → x = z:=by
  intro j k x z i hj hk ho hz
  rcases Nat.lt_trichotomy j k with h | h | h
  ·obtain ⟨n,rfl⟩:∃ n,k = j + 1 + n:=⟨k - (j + 1),by omega⟩
   obtain ⟨y,hy,hle⟩:=W.mono S hrec hj n hk;have:=ho.2 y hy;have:=hz.1;omega
  ·subst h
   rw [hj] at hk;exact Option.some.inj hk
  ·obtain ⟨n,rfl⟩:∃ n,j = k + 1 + n:=⟨j - (k + 1),by omega⟩
   obtain ⟨y,hy,hle⟩:=W.mono S hrec hk n hj;have:=hz.2 y hy;have:=ho.1;omega
 have:∀ i,∃ t:Question → Nat,∀ k x,W.chain x0 k = some x → W.own x i → ∀ q,t q = W.tp x i q:=by
  intro i
  by_cases h:∃ k x,W.chain x0 k = some x ∧ W.own x i
  ·obtain ⟨k,x,hk,ho⟩:=h
   exact ⟨W.tp x i,fun k' x' hk' ho' q=>by rw [un k k' x x' i hk hk' ho ho']⟩
  ·exact ⟨fun _=>0,fun k x hk ho=>absurd ⟨k,x,hk,ho⟩ h⟩
 obtain ⟨t,ht⟩:=Classical.axiomOfChoice this;exact ⟨t,fun k x hk i q ho=>ht i k x hk ho q⟩
theorem Zdk {f f':Frame} {K K':List Frame} {v v':World} {es:Array Event} (h:stepG Q true (run1 f K) v = .go (run1 f' K') v' es): step Q (lone f K v) = .next (lone f' K' v'):=
 step_lone_go (by rw [show ({ frame:=f,callers:=K,status:=.running,dying:=none }:Goroutine) = run1 f K from rfl,h];rfl)
theorem step_end {f:Frame} {K:List Frame} {v w:World} {o:Outcome} {es:Array Event} (h:stepG Q true (run1 f K) v = .ended o w es): step Q (lone f K v) = .ended o w:=
 step_lone_ended (by rw [show ({ frame:=f,callers:=K,status:=.running,dying:=none }:Goroutine) = run1 f K from rfl,h];rfl)
theorem Zbt {m m1 m2:Machine} {k:Nat} (h:runN Q k m = .next m1) (h':step Q m1 = .next m2): runN Q (k + 1) m = .next m2:=by
 rw [runN_add,h];simp [runN,h']
theorem Way.runs (W:Way P F Stop) (S:Strip P F (CodeOk P false) G) (hrec:Rec P) (x0:Bad P F Stop) {T:Nat → Question → Nat} (hT:∀ k x,W.chain x0 k = some x → ∀ i q,W.own x i → T i q = W.tp x i q) :
  ∀ k x,W.chain x0 k = some x → runN (PF P F) k (lone x0.f x0.K (re x0.v T)) = .next (lone x.f x.K (re x.v T)):=by
 intro k
 induction k with
 | zero =>
  intro x h;simp only [Way.chain,Option.some.injEq] at h;subst h
  rfl
 | succ k ih =>
  intro z h;rw [Way.chain] at h;obtain ⟨x,hx,hz⟩:=Option.bind_eq_some_iff.1 h;refine Zbt (ih x hx) ?_;have hn:=(W.h x).2;rw [hz] at hn;obtain ⟨es,e⟩:=hn;have:=(x.seat.loc S hrec _ _ _ _ e).2 T fun i q h1 h2=>hT k x hx i q ⟨h1,fun y hy=>by
   rw [hz] at hy;obtain rfl:=Option.some.inj hy;exact h2⟩
  exact Zdk this
theorem Z1g (S:Strip P F (CodeOk P false) G) (hg:GOk P F G) (hrec:Rec P) (hS:∀ V v T,Stop V v → Stop V (Lift.re v T)) {f:Frame} {K:List Frame} (hst:Seat P F f K v) (h:∀ T,∃ n f' K' v',runN (PF P F) n (lone f K (re v T)) = .next (lone f' K' v') ∧ Stop (f' :: K') v'): Ends (PF P F) Stop (f :: K) v:=by
 refine Classical.byContradiction fun hb=>?_;have hW:∃ W:Way P F Stop,True:=by
  obtain ⟨tp,h1⟩:=Classical.axiomOfChoice fun x:Bad P F Stop=>x.next S hg hrec hS;obtain ⟨y,h2⟩:=Classical.axiomOfChoice h1;exact ⟨⟨tp,y,h2⟩,trivial⟩
 obtain ⟨W,-⟩:=hW
 let x0:Bad P F Stop:=⟨f,K,v,hst,hb⟩
 obtain ⟨T,hT⟩:=W.tape S hrec x0;have hr:=W.runs S hrec x0 hT;obtain ⟨n,f',K',v',hn,hs⟩:=h T
 cases hc:W.chain x0 n with
 | some x =>
  have e:=hr n x hc;rw [show lone x0.f x0.K (re x0.v T) = lone f K (re v T) from rfl,hn] at e
  injection e with e
  have e1:v' = re x.v T:=congrArg (·.world) e;have e2:=congrArg (·.gs) e;simp only [lone,Array.mk.injEq,List.cons.injEq,Goroutine.mk.injEq,and_true] at e2;obtain ⟨rfl,rfl,_⟩:=e2;subst e1;have h3:Stop (x.f :: x.K) (re (re x.v T) x.v.tape):=hS _ _ x.v.tape hs;exact x.bad (.stop h3)
 | none =>
  have:∀ n,W.chain x0 n = none → ∃ k x,k < n ∧ W.chain x0 k = some x ∧ W.y x = none:=by
   intro n
   induction n with
   | zero=>intro h;cases h
   | succ n ih =>
    intro h
    cases hm:W.chain x0 n with
    | none =>
     obtain ⟨k,x,h1,h2,h3⟩:=ih hm;exact ⟨k,x,by omega,h2,h3⟩
    | some x =>
     rw [Way.chain,hm] at h;exact ⟨n,x,by omega,hm,h⟩
  obtain ⟨k,x,hk,hx,hy⟩:=this n hc;have hA:∀ hi,Zdx (W.tp x) T x.v.drawn hi:=fun hi i q h1 _=>(hT k x hx i q ⟨h1,fun y h=>by rw [hy] at h;cases h⟩).symm;have hnx:=(W.h x).2;rw [hy] at hnx;obtain ⟨o,w2,es,he⟩:=hnx
  rcases x.seat.step S hg hrec T with ⟨o,w2,es,e⟩ | ⟨g,K2,v2,es2,e,_⟩
  ·obtain ⟨j,rfl⟩:∃ j,n = k + (1 + j):=⟨n - k - 1,by omega⟩
   have h1:=hr k x hx;rw [show lone x0.f x0.K (re x0.v T) = lone f K (re v T) from rfl] at h1;rw [runN_add,h1,Nat.add_comm 1 j] at hn;simp only [runN,step_end e] at hn
   cases hn
  ·have:stepG (PF P F) true (run1 x.f x.K) (re (re x.v T) (W.tp x)) = _:=(x.seat.loc S hrec T _ _ _ e).2 (W.tp x) (hA _)
   rw [show re (re x.v T) (W.tp x) = re x.v (W.tp x) from rfl,he] at this
   cases this
end
end
end
end Go.Proofs.YtfelljbfeoplhaaGreat.Lift
namespace Go.Proofs.YtfelljbfeoplhaaGreat.Lift
open Go
variable [Jk]
structure WH (C:Inv) (r:Ren) (v w:World):Prop where
 on:∀ b c,r b = some c → ∃ o o',v.heap[b]? = some o ∧ w.heap[c]? = some o' ∧ OR C r o o'
 inj:Inj r
 env:v.os.env = w.os.env
section
variable {P:Program} {F:Array Func} {G:FuncId → Prop} {r:Ren} {v w:World} {C:Inv}
theorem WR.h (h:WR C r v w):WH C r v w:=⟨h.on,h.inj,h.env⟩
theorem WH.tape (h:WH C r v w):∃ T,WR C r (re v T) w:=
 ⟨fun i q=>w.tape (w.drawn + (i - v.drawn)) q,h.on,h.inj,fun i q=>by
  show w.tape (w.drawn + (v.drawn + i - v.drawn)) q = _;rw [Nat.add_sub_cancel_left],h.env⟩
theorem WH.of (h:WH C r v w) {v' w':World} (hv:v'.heap = v.heap) (hw:w'.heap = w.heap) (e:v'.os.env = w'.os.env): WH C r v' w':=
 ⟨by rw [hv,hw];exact h.on,h.inj,e⟩
def Sour (x:Frame):Prop:=x = poison ∨ ∃ c,x = { poison with mode:=.panicking c }
theorem Z0m {Stop:List Frame → World → Prop} (hP:∀ x u,¬ Stop [x] u) {x:Frame} (hx:Sour x) {u:World}: ¬ Ends (PF P F) Stop [x] u:=by
 intro h
 cases h with
 | stop h=>exact hP _ _ h
 | step ok _ =>
  obtain ⟨f',K',v',es,e⟩:=ok u.tape;obtain ⟨o,w2,es2,e2⟩:=Z1R (Q:=PF P F) hx (re u u.tape);rw [e2] at e
  cases e
theorem Z54 (S:Strip P F (CodeOk P false) G) (hg:GOk P F G) (hrec:P.follows .rangeFuncRecover = true) {f g:Frame} {A B:List Frame} (hs:Stk P F r (f :: A) (g :: B)) (hw:WH (Iv P F) r v w) (np:¬ Pend f) (ok:∀ τ,∃ f' K' v' es,stepG (PF P F) true (run1 f (A ++ [poison])) (re v τ) = .go (run1 f' K') v' es) (m:Bool) (cs:List Frame):
  ∃ τ f' K' v' es,stepG (PF P F) true (run1 f (A ++ [poison])) (re v τ) = .go (run1 f' K') v' es ∧
   ((K' = [] ∧ Sour f') ∨ ∃ A' g' B' r' w' ns,K' = A' ++ [poison] ∧ stepG P m (run1 g (B ++ cs)) w = .go (run1 g' (B' ++ cs)) w' ns ∧ Stk P F r' (f' :: A') (g' :: B') ∧ WR (Iv P F) r' v' w' ∧ Kept r r' (re v τ) v' w w' ∧ ∀ e ∈ ns,EvG r' (re v τ) w' e):=by
 obtain ⟨τ,hw⟩:=hw.tape;obtain ⟨f',K',v',es,e⟩:=ok τ;refine ⟨τ,f',K',v',es,e,?_⟩;have h:=Z6s (cs:=cs) (m:=m) S hg hrec hs hw np;rw [e] at h
 rcases h with h | ⟨r',g',W,w',ns,h0,_,_,_,⟨A',B',h4,h5,h6,h7⟩,h8,h9,h10⟩
 ·refine .inl ?_
  rcases h with h | ⟨c,h⟩
  ·simp only [run1,Goroutine.mk.injEq] at h
   exact ⟨h.2.1,.inl h.1⟩
  ·simp only [run1,Goroutine.mk.injEq] at h
   exact ⟨h.2.1,.inr ⟨c,h.1⟩⟩
 ·cases A' with
  | nil=>exact absurd rfl h6
  | cons a az =>
   cases B' with
   | nil=>have:=h7.rel;cases this
   | cons b bs =>
    simp only [run1,List.cons_append,List.cons.injEq] at h4 h5;obtain ⟨rfl,rfl⟩:=h4;obtain ⟨rfl,rfl⟩:=h5;exact .inr ⟨az,_,bs,r',w',ns,rfl,h0,h7,h8,h9,h10⟩
def Done (P:Program) (F:Array Func) (f:FuncId) (R:Ending → World → Prop) (V:List Frame) (u:World):Prop:=
 ∃ T e fr,V = [fr,poison] ∧ fr.fn = f ∧ fr.leaving (PF P F) (re u T) e ∧ R e u ∧ e ≠ .outgrown
theorem Z3f {f:FuncId} {R:Ending → World → Prop} (x:Frame) (u:World): ¬ Done P F f R [x] u:=by
 rintro ⟨T,e,fr,h,_⟩
 cases h
theorem Z1V (S:Strip P F (CodeOk P false) G) (hg:GOk P F G) (hrec:Rec P) {f:FuncId} {xs ys:Array Value} (g:G f) (ha:VRs r xs ys) (hw:WH (Iv P F) r v w) {R:Ending → World → Prop}
  (hR:∀ e u T,R e (re u T) → R e u) (ho:∀ u,¬ R .outgrown u) (hC:∀ T,Calls (PF P F) f xs (re v T) R) :
  Ends (PF P F) (Done P F f R) [Frame.enter (PF P F) f xs .normal,poison] v:=by
 have hfr:=Z0S S ha g hg (k:=.normal) (.inl rfl);obtain ⟨T,hwT⟩:=hw.tape;have hseat:Seat P F (Frame.enter (PF P F) f xs .normal) [poison] v:=by
  obtain ⟨σ,hw2⟩:=hwT.retape v.tape;exact .inl ⟨[],_,[],r,_,rfl,⟨.cons hfr .nil,⟨.inl rfl,fun h=>absurd rfl h⟩,trivial⟩,hw2⟩
 refine Z1g S hg hrec ?_ hseat fun T=>?_
 ·rintro V u T ⟨T',e,fr,h1,h2,h3,h4,h5⟩
  exact ⟨T',e,fr,h1,h2,h3,hR e (re u T) u.tape h4,h5⟩
 ·obtain ⟨e,w',fr,h1,h2,h3,h4⟩:=hC T [poison]
  cases e with
  | outgrown=>exact absurd h1 (ho _)
  | returned x =>
   obtain ⟨n,hn⟩:=h2;exact ⟨n,fr,[poison],w',hn,w'.tape,_,fr,rfl,h3,h4,h1,by simp⟩
  | panicked c =>
   obtain ⟨n,hn⟩:=h2;exact ⟨n,fr,[poison],w',hn,w'.tape,_,fr,rfl,h3,h4,h1,by simp⟩
end
end Go.Proofs.YtfelljbfeoplhaaGreat.Lift
namespace Go.Proofs.YtfelljbfeoplhaaGreat.Lift
open Go Go.Conc
open Go.ConcN (sumTo upd sumTo_upd upd_ne upd_same)
variable [Jk]
def Dk (D:Nat → Prop):Go.Loc → Prop:=fun l=>(∃ a,l = .cell a ∧ D a.block) ∨ ∃ c,l = .obj c ∧ D c
def Run (P:Program) (Post:Value → World → Prop) (m:Machine) (t:Trace):Prop:=
 ∃ N last o w' t',runNT P (N + 1) m t = (.ended o w',t') ∧ runN P N m = .next last ∧ step P last = .ended o w' ∧ Conc.Good P Post last o w' t'
def Like (w w1:World):Prop:=w1.heap = w.heap ∧ w1.os = w.os ∧ w1.output = w.output
theorem Like.refl (w:World):Like w w:=⟨rfl,rfl,rfl⟩
theorem Like.trans {a b c:World} (h:Like a b) (k:Like b c):Like a c:=⟨k.1.trans h.1,k.2.1.trans h.2.1,k.2.2.trans h.2.2⟩
theorem Like.at {a b:World} (h:Like a b) (d:Nat): Like a (b.at d):=⟨h.1,h.2.1,h.2.2⟩
section
variable {P:Program} {Post:Value → World → Prop} {D:Nat → Prop} {m m':Machine} {t:Trace} {ops:Array MemOp} {g:Goroutine} {w w':World}
theorem Run.next (h:stepT P m = (.next m',ops)) (k:Run P Post m' (t ++ ops)):Run P Post m t:=by
 obtain ⟨n,last,o,w,t',h1,h2,h3,h4⟩:=k;exact ⟨n + 1,last,o,w,t',by rw [runNT_succ_next h];exact h1,by rw [runN_succ_next h];exact h2,h3,h4⟩
theorem Run.end {o:Outcome} {w:World} (h:stepT P m = (.ended o w,ops)) (k:Conc.Good P Post m o w (t ++ ops)): Run P Post m t:=
 ⟨0,m,o,w,t ++ ops,by simp [runNT,h],rfl,by simp [step,h],k⟩
def Sure (P:Program) (Post:Value → World → Prop) (D:Nat → Prop) (g:Goroutine) (w:World):Prop:=
 ∀ w1,Like w w1 → ∀ (gs:Array Goroutine) sl t q,gs[0]? = some g → Leavers P t gs q → Past (Dk D) w.heap.size t → Run P Post (crowd gs w1 sl) t
theorem Sure.like (h:Sure P Post D g w) (k:Like w w'):Sure P Post D g w':=fun w1 hw gs sl t q h0 hL hP=>h w1 (k.trans hw) gs sl t q h0 hL (k.1 ▸ hP)
theorem Z3R (h0:gs[0]? = some g) (hr:g.status = .running) (hL:Leavers P t gs q): ∀ x ∈ gs,awake x:=by
 intro x hx;obtain ⟨i,hi,rfl⟩:=Array.mem_iff_getElem.1 hx
 rcases Nat.eq_zero_or_pos i with rfl | hpos
 ·have:gs[0] = g:=by simpa [Array.getElem?_eq_getElem hi] using h0
  rw [this];exact awake_of (.inl hr)
 ·exact awake_of ((hL.old i _ hpos (Array.getElem?_eq_getElem hi)).status.elim .inl fun x=>.inr (.inr x))
theorem Sure.moves (hr:g.status = .running)
  (hm:∀ w1,Like w w1 → ∀ (gs:Array Goroutine) sl t q,gs[0]? = some g → Leavers P t gs q → Past (Dk D) w.heap.size t → ∀ m0,stepT P m0 = runT P (crowd gs w1 sl) 0 → Run P Post m0 t):Sure P Post D g w:=by
 have key:∀ (M:Nat) w1,Like w w1 → ∀ (gs:Array Goroutine) sl t q,sumTo gs.size q < M → gs[0]? = some g → Leavers P t gs q → Past (Dk D) w.heap.size t → Run P Post (crowd gs w1 sl) t:=by
  intro M
  induction M with
  | zero=>exact fun w1 hw gs sl t q hM=>absurd hM (Nat.not_lt_zero _)
  | succ M ih =>
   intro w1 hw gs sl t q hM h0 hL hP;obtain ⟨i,x,d,sl',hi,hx,hst⟩:=crowd_pick (P:=P) (w:=w1) (sl:=sl) (Z3R h0 hr hL) ⟨0,g,h0,hr⟩
   rcases Nat.eq_zero_or_pos i with rfl | hpos
   ·exact hm (w1.at d) (hw.at d) gs sl' t q h0 hL hP _ hst
   ·have hq:=hL.old i x hpos hi
    have hi0:(i == 0) = false:=by simp;omega
    have hlt:i < gs.size:=(Array.getElem?_eq_some_iff.1 hi).1
    cases hqi:q i with
    | zero=>rw [hqi] at hq;rw [hq.1] at hx;cases hx
    | succ k =>
     rw [hqi] at hq
     rcases hq with ⟨hf,_⟩ | ⟨_,x',es,hmu,hstp,hq'⟩
     ·rw [hf] at hx;cases hx
     have hrunT:=runT_crowd_go (P:=P) (sl:=sl') (i:=i) hi (by rw [hi0];exact hstp (w1.at d));have hsz:((gs.map (woken P x x' (w1.at d))).setIfInBounds i x').size = gs.size:=by simp
     have hsum:sumTo gs.size (upd q i k) + (k + 1) = sumTo gs.size q + k:=by
      have:=sumTo_upd q k id hlt;simpa [hqi] using this
     have hne:i ≠ 0:=by omega
     refine Run.next (hst.trans hrunT) (ih (w1.at d) (hw.at d) _ sl' _ (upd q i k) (by rw [hsz];omega) ?_ ⟨fun j y hj hy=>?_,fun j hj=>?_⟩ (hP.mute hne hmu))
     ·rw [Array.getElem?_setIfInBounds_ne hne,Array.getElem?_map,h0]
      simp [woken_run hr]
     ·by_cases hji:i = j
      ·subst hji
       rw [Array.getElem?_setIfInBounds_self_of_lt (by simpa using hlt)] at hy;obtain rfl:=Option.some.inj hy;rw [upd_same,Deaf_own];exact hq'
      ·rw [Array.getElem?_setIfInBounds_ne hji,Array.getElem?_map] at hy
       obtain ⟨z,hz,rfl⟩:=Option.map_eq_some_iff.1 hy;have hqj:=hL.old j z hj hz;rw [woken_quitsD hqj,upd_ne q k (Ne.symm hji),Deaf_other t hji _ (fun op hop=>by obtain ⟨e,_,rfl⟩:=Go.Conc.mem_ofEvents hop;rfl)];exact hqj
     ·rw [Deaf_other t (g':=i) (by simp at hj;omega) _ (fun op hop=>by obtain ⟨e,_,rfl⟩:=Go.Conc.mem_ofEvents hop;rfl)]
      exact hL.above j (by simpa using hj)
 exact fun w1 hw gs sl t q h0 hL hP=>key _ w1 hw gs sl t q (Nat.lt_succ_self _) h0 hL hP
theorem Z2F {g':Goroutine} {pos:String} {es:Array Event} {w1:World} (hlt:0 < gs.size) (hL:Leavers P t gs q):
  Leavers P (t ++ MemOp.ofEvents 0 fn pos es) ((gs.map (woken P g g' w1)).setIfInBounds 0 g') q:=
 ⟨fun j x hj hx=>by
  have hne:0 ≠ j:=by omega
  rw [Array.getElem?_setIfInBounds_ne hne,Array.getElem?_map] at hx;obtain ⟨y,hy,rfl⟩:=Option.map_eq_some_iff.1 hx;have hq:=hL.old j y hj hy;rw [woken_quitsD hq,Deaf_other t (by omega) _ (fun op hop=>by obtain ⟨e,_,rfl⟩:=Go.Conc.mem_ofEvents hop;rfl)];exact hq,fun j hj=>by
  rw [Deaf_other t (g':=0) (by simp at hj;omega) _ (fun op hop=>by obtain ⟨e,_,rfl⟩:=Go.Conc.mem_ofEvents hop;rfl)];exact hL.above j (by simpa using hj)⟩
theorem Sure.step (hr:g.status = .running)
  (h:∀ w1,Like w w1 → ∃ g' w' es,stepG P true g w1 = .go g' w' es ∧ (∀ e ∈ es,EvL (Dk D) w'.heap.size e) ∧ w.heap.size ≤ w'.heap.size ∧ Sure P Post D g' w'):Sure P Post D g w:=by
 refine Sure.moves hr fun w1 hw gs sl t q h0 hL hP m0 hm=>?_;obtain ⟨g',w',es,hst,he,hsz,hs⟩:=h w1 hw;have hrunT:=runT_crowd_go (P:=P) (sl:=sl) (i:=0) h0 (show stepG P (0 == 0) g w1 = _ from hst);have hlt:0 < gs.size:=(Array.getElem?_eq_some_iff.1 h0).1;exact Run.next (hm.trans hrunT) (hs w' (Like.refl _) _ sl _ q (by simp [hlt]) (Z2F hlt hL) ((hP.mono hsz).own he))
end
end Go.Proofs.YtfelljbfeoplhaaGreat.Lift
namespace Go.Proofs.YtfelljbfeoplhaaGreat.Lift
open Go Go.Conc
variable [Jk]
def Kep (r r':Ren) (v v' w w':World):Prop:=Kept r r' v { v' with tape:=v.tape,drawn:=v.drawn } w { w' with tape:=w.tape,drawn:=w.drawn }
theorem Kep.of {r r':Ren} {v v0 v' w w0 w':World} (hv:Like v v0) (hw:Like w w0) (k:Kept r r' v0 v' w0 w'): Kep r r' v v' w w':=by
 obtain ⟨a1,a2,a3,a4,a5⟩:=v0;obtain ⟨b1,b2,b3,b4,b5⟩:=w0;obtain ⟨h1,h2,h5⟩:=hv;obtain ⟨h3,h4,h6⟩:=hw;dsimp only at h1 h2 h3 h4 h5 h6;subst h1 h2 h3 h4 h5 h6;exact ⟨k.le,rfl,rfl,⟨0,rfl,rfl⟩,k.os,k.sizeV,k.sizeW,k.far,k.new,k.shut,k.cells,k.farV,k.shutW,k.par,k.out⟩
theorem Kep.refl (r:Ren) (v w:World):Kep r r v v w w:=Kep.of (Like.refl _) (Like.refl _) (Kept.refl r v w)
theorem Kep.trans {r r' r'':Ren} {v v' v'' w w' w'':World} (h:Kep r r' v v' w w') (k:Kep r' r'' v' v'' w' w''):Kep r r'' v v'' w w'':=by
 have k2:Kept r' r'' { v' with tape:=v.tape,drawn:=v.drawn } { v'' with tape:=v.tape,drawn:=v.drawn } { w' with tape:=w.tape,drawn:=w.drawn } { w'' with tape:=w.tape,drawn:=w.drawn }:=
  ⟨k.le,rfl,rfl,⟨0,rfl,rfl⟩,k.os,k.sizeV,k.sizeW,k.far,k.new,k.shut,k.cells,k.farV,k.shutW,k.par,k.out⟩
 exact Kept.trans h k2
section
variable {P:Program} {F:Array Func} {G:FuncId → Prop} {Post:Value → World → Prop} {D:Nat → Prop} {r r':Ren} {v v' w w':World}
structure Off (D:Nat → Prop) (r:Ren) (w:World):Prop where
 names:∀ b c,r b = some c → ¬ D c
 low:∀ c,D c → c < w.heap.size
theorem Off.kept (h:Off D r w) (k:Kept r r' v v' w w'):Off D r' w':=
 ⟨fun b c hb hd=>by
  rcases k.new b c hb with q | ⟨_,q⟩
  ·exact h.names b c q hd
  ·have:=h.low c hd
   omega,fun c hd=>Nat.lt_of_lt_of_le (h.low c hd) k.sizeW⟩
theorem Off.like (h:Off D r w) (k:Like w w'):Off D r w':=⟨h.names,fun c hd=>by rw [k.1];exact h.low c hd⟩
theorem Z9b {e:Event} (h:EvG r v w e) (ho:∀ b c,r b = some c → ¬ D c):EvL (Dk D) w.heap.size e:=by
 rcases h with ⟨a,wr,b,rfl,hb,hl,_⟩ | ⟨c,wr,b,rfl,hb,hl,_⟩ | rfl | rfl
 ·refine ⟨fun x hx hs=>?_,by simp,by simp,hl⟩
  simp only [MemAct.ofEvent,MemAct.touch?,Option.some.injEq] at hx;subst hx
  rcases hs with ⟨a',e,hd⟩ | ⟨c,e,_⟩
  ·simp only [Go.Loc.cell.injEq] at e
   subst e;exact absurd hd (ho _ _ hb)
  ·cases e
 ·have e0:MemAct.ofEvent ⟨.obj c,wr,false⟩ = .access ⟨.obj c,wr,false⟩:=by cases wr <;> rfl
  refine ⟨fun x hx hs=>?_,by simp,by simp,by rw [e0];exact hl⟩;rw [e0] at hx;simp only [MemAct.touch?,Option.some.injEq] at hx;subst hx
  rcases hs with ⟨a',e,_⟩ | ⟨c',e,hd⟩
  ·cases e
  ·simp only [Go.Loc.obj.injEq] at e
   subst e;exact absurd hd (ho _ _ hb)
 ·exact ⟨fun x hx hs=>by simp [MemAct.ofEvent,MemAct.touch?] at hx,by simp,by simp,trivial⟩
 ·refine ⟨fun x hx hs=>?_,by simp,by simp,trivial⟩
  simp only [MemAct.ofEvent,MemAct.touch?,Option.some.injEq] at hx;subst hx
  rcases hs with ⟨a',e,_⟩ | ⟨c',e,_⟩ <;> cases e
theorem Sure.lone (S:Strip P F (CodeOk P false) G) (hg:GOk P F G) (hrec:Rec P) {Stop:List Frame → World → Prop} (hP:∀ x u,¬ Stop [x] u) {cs:List Frame} {V:List Frame} (hE:Ends (PF P F) Stop V v):
  ∀ {f A g B r w},V = f :: (A ++ [poison]) → Stk P F r (f :: A) (g :: B) → WH (Iv P F) r v w → Off D r w →
   (∀ f' A' g' B' r' v' w',Stop (f' :: (A' ++ [poison])) v' → Stk P F r' (f' :: A') (g' :: B') → WH (Iv P F) r' v' w' → Kep r r' v v' w w' → Sure P Post D (run1 g' (B' ++ cs)) w') → Sure P Post D (run1 g (B ++ cs)) w:=by
 induction hE with
 | @stop V v h =>
  intro f A g B r w hV hs hw ho fin;subst hV;exact fin _ _ _ _ _ _ _ h hs hw (Kep.refl _ _ _)
 | @step f K v ok h ih =>
  intro f0 A g B r w hV hs hw ho fin;simp only [List.cons.injEq] at hV;obtain ⟨rfl,rfl⟩:=hV;refine Sure.step rfl fun w1 hl=>?_;have hw1:WH (Iv P F) r v w1:=hw.of rfl hl.1 (by rw [hl.2.1];exact hw.env);obtain ⟨τ,f',K',v',es,e,hc⟩:=Z54 S hg hrec.1 hs hw1 (fun q=>hrec.2 _ q.1) ok true cs
  rcases hc with ⟨rfl,hx⟩ | ⟨A',g',B',r',w',ns,rfl,e2,hs',hw',hk,he⟩
  ·exact absurd (h τ _ _ _ _ e) (Z0m hP hx)
  ·have hk2:Kep r r' v v' w w':=Kep.of (v0:=re v τ) ⟨rfl,rfl,rfl⟩ hl hk
   refine ⟨_,w',ns,e2,fun x hx=>Z9b (he x hx) ((ho.like hl).kept hk).names,by rw [← hl.1];exact hk.sizeW,?_⟩;exact ih τ _ _ _ _ e rfl hs' hw'.h ((ho.like hl).kept hk) fun f2 A2 g2 B2 r2 v2 w2 h1 h2 h3 h4=>fin f2 A2 g2 B2 r2 v2 w2 h1 h2 h3 (hk2.trans h4)
end
end Go.Proofs.YtfelljbfeoplhaaGreat.Lift
namespace Go.Proofs.YtfelljbfeoplhaaGreat.Lift
open Go Go.Conc
variable [Jk]
section
variable {P:Program} {F:Array Func} {G:FuncId → Prop} {Post:Value → World → Prop} {D:Nat → Prop} {r r':Ren} {v v' w w':World}
theorem WH.some (h:WH (Iv P F) r v w) (T:Nat → Question → Nat):∃ σ,WR (Iv P F) r (re v T) (re w σ):=by
 obtain ⟨T',h'⟩:=h.tape;obtain ⟨σ,h2⟩:=h'.retape T;exact ⟨σ,h2⟩
theorem Z40 {fn:Func} {xs ys:Array Value} (ht:VRs r xs ys) (hw:WH (Iv P F) r v w) {T:Nat → Question → Nat} {x:Value} (h:(results fn xs).run (PF P F) (re v T) = .ok x (re v T)) (T':Nat → Question → Nat):
  (results fn xs).run (PF P F) (re v T') = .ok x (re v T'):=by
 obtain ⟨σ,h1⟩:=hw.some T;have:=(Z1y (P:=P) (F:=F) (fn:=fn) ht).local (re v T) _ h1 (re v T) (.inl ⟨x,h⟩) T' (fun i q a b=>absurd b (Nat.not_lt.2 a)) #[];have e:=congrArg Prod.fst this;simp only [Sem.runT_eq] at e;rw [h] at e;exact e
theorem Z5d {fr g:Frame} (hf:FrR P F r fr g) (hw:WH (Iv P F) r v w) {T:Nat → Question → Nat} {x:Value} (hl:fr.leaving (PF P F) (re v T) (.returned x)) (m:Bool) (c:Frame) (cs:List Frame):
  ∃ r' T' y w' ns,stepG P m (run1 g (c :: cs)) w = .go (run1 (c.finish y) cs) w' ns ∧ VR r' x y ∧ WR (Iv P F) r' (re v T') w' ∧ Kept r r' (re v T') (re v T') w w' ∧ ∀ e ∈ ns,EvG r' (re v T') w' e:=by
 obtain ⟨hm,hd,hk,fn,hfn,hr⟩:=hl;obtain ⟨T',hw'⟩:=hw.tape;have hr':=Z40 hf.tmps hw hr T';have o:=(Z1y (P:=P) (F:=F) (fn:=fn) hf.tmps).sim (re v T') w hw' #[];rw [hr'] at o;obtain ⟨r',y,w',ns,e,hw2,hn,hkk,he⟩:=o;have gm:g.mode = .returning:=by
  have:=hf.mode;rw [hm] at this;generalize g.mode = z at this ⊢
  cases this
  rfl
 have gd:g.defers = []:=by
  have:=hf.defers.1;rw [hd] at this;generalize g.defers = z at this ⊢
  cases this
  rfl
 have gk:g.kind = .normal:=hf.kind.1 ▸ hk;have gf:P.funcs[g.fn]? = some fn:=by rw [← hf.fn,← hf.own];exact hfn
 have e1:(results fn g.tmps).run P w = .ok y w':=by
  have:=congrArg Prod.fst e;simpa only [Sem.runT_eq] using this
 have e2:(results fn g.tmps).events P w #[] = #[] ++ ns:=by
  have:=congrArg Prod.snd e;simpa only [Sem.runT_eq] using this
 refine ⟨r',T',y,w',seen P g.fn ((results fn g.tmps).events P w #[]) ++ #[],?_,hn,hw2,hkk,?_⟩
 ·unfold stepG run1
  simp only [gm];unfold unwind;simp only [gd,gm,gf,Sem.runT_eq,e1];unfold doReturn;simp only [gk]
  rfl
 ·intro x hx
  rw [Array.append_empty] at hx;exact Z0x e2 he x hx
theorem Z2X {fr g:Frame} (hf:FrR P F r fr g) {u:World} {ch:List PanicEntry} (hl:fr.leaving (PF P F) u (.panicked ch)) (m:Bool) (c:Frame) (cs:List Frame):
  ∃ ch',Lis (PR r) ch ch' ∧ stepG P m (run1 g (c :: cs)) w = .go (run1 (c.raise ch') cs) w #[]:=by
 obtain ⟨hm,hd,fn,hfn⟩:=hl;have gm:=hf.mode;rw [hm] at gm;generalize hz:g.mode = z at gm
 cases gm with
 | panicking q =>
  refine ⟨_,q,?_⟩;have gd:g.defers = []:=by
   have:=hf.defers.1;rw [hd] at this;generalize g.defers = z at this ⊢
   cases this
   rfl
  have c2:g.catches P = false:=by
   unfold Frame.catches
   split
   ·rename_i e2;exact absurd e2 ((Z78 hf).2 _ _ _ _ _)
   ·rfl
  unfold stepG run1;simp only [hz];unfold unwind;simp only [gd,hz,c2]
  rfl
theorem Sure.done (S:Strip P F (CodeOk P false) G) (hg:GOk P F G) (hrec:Rec P) {f:FuncId} {fr0 gr0:Frame} {R:Ending → World → Prop} (hE:Ends (PF P F) (Done P F f R) [fr0,poison] v) (hst:Stk P F r [fr0] [gr0]) (hw:WH (Iv P F) r v w) (ho:Off D r w) {c:Frame} {cs:List Frame} (ret:∀ r' v' w' x y,R (.returned x) v' → VR r' x y → WH (Iv P F) r' v' w' → Kep r r' v v' w w' → Off D r' w' → Sure P Post D (run1 (c.finish y) cs) w') (pan:∀ r' v' w' ch ch',R (.panicked ch) v' → Lis (PR r') ch ch' → WH (Iv P F) r' v' w' → Kep r r' v v' w w' → Off D r' w' → Sure P Post D (run1 (c.raise ch') cs) w'):
  Sure P Post D (run1 gr0 (c :: cs)) w:=by
 refine Sure.lone (A:=[]) (B:=[]) S hg hrec Z3f hE rfl hst hw ho ?_;intro f' A' g' B' r' v' w' hs hst hw' hk;obtain ⟨T,e,fr,h1,h2,h3,h4,h5⟩:=hs;simp only [List.cons.injEq] at h1;obtain ⟨rfl,h1⟩:=h1;have hA:A' = []:=by
  cases A' with
  | nil=>rfl
  | cons a az =>
   have:=congrArg List.length h1;simp at this
 subst hA;have hB:B' = []:=by
  obtain ⟨_,h,_⟩:=hst.uncons;have:=h.rel
  cases B' with
  | nil=>rfl
  | cons b bs=>cases this
 subst hB;have hf:=hst.uncons.1;have ho':Off D r' w':=⟨fun b c hb hd=>by
  rcases hk.new b c hb with q | ⟨_,q⟩
  ·exact ho.names b c q hd
  ·have:=ho.low c hd
   omega,fun c hd=>Nat.lt_of_lt_of_le (ho.low c hd) hk.sizeW⟩
 cases e with
 | outgrown=>exact absurd rfl h5
 | returned x =>
  refine Sure.step rfl fun w1 hl=>?_;have hw1:WH (Iv P F) r' v' w1:=hw'.of rfl hl.1 (by rw [hl.2.1];exact hw'.env);obtain ⟨r2,T2,y,w2,ns,e2,hv,hw2,hk2,he⟩:=Z5d hf hw1 h3 true c cs;have ho2:=(ho'.like hl).kept hk2;refine ⟨_,w2,ns,e2,fun x hx=>Z9b (he x hx) ho2.names,by rw [← hl.1];exact hk2.sizeW,?_⟩;have hk3:Kep r' r2 v' v' w' w2:=Kep.of (v0:=re v' T2) (v':=re v' T2) ⟨rfl,rfl,rfl⟩ hl hk2;exact ret r2 v' w2 x y h4 hv (hw2.h.of rfl rfl hw2.env) (hk.trans hk3) ho2
 | panicked ch =>
  refine Sure.step rfl fun w1 hl=>?_;have hw1:WH (Iv P F) r' v' w1:=hw'.of rfl hl.1 (by rw [hl.2.1];exact hw'.env);obtain ⟨ch',hc,e2⟩:=Z2X (w:=w1) hf h3 true c cs;refine ⟨_,w1,#[],e2,by simp,by rw [hl.1];exact Nat.le_refl _,?_⟩;exact (pan r' v' w' ch ch' h4 hc hw' hk ho').like hl
theorem Sure.called (S:Strip P F (CodeOk P false) G) (hg:GOk P F G) (hrec:Rec P) {f:FuncId} {xs ys:Array Value} (g:G f) (ha:VRs r xs ys) (hw:WH (Iv P F) r v w) (ho:Off D r w) {R:Ending → World → Prop}
  (hR:∀ e u T,R e (re u T) → R e u) (hn:∀ u,¬ R .outgrown u) (hC:∀ T,Calls (PF P F) f xs (re v T) R) {c:Frame} {cs:List Frame}
  (ret:∀ r' v' w' x y,R (.returned x) v' → VR r' x y → WH (Iv P F) r' v' w' → Kep r r' v v' w w' → Off D r' w' → Sure P Post D (run1 (c.finish y) cs) w')
  (pan:∀ r' v' w' ch ch',R (.panicked ch) v' → Lis (PR r') ch ch' → WH (Iv P F) r' v' w' → Kep r r' v v' w w' → Off D r' w' → Sure P Post D (run1 (c.raise ch') cs) w') :
  Sure P Post D (run1 (Frame.enter P f ys .normal) (c :: cs)) w:=by
 have hfr:=Z0S S ha g hg (k:=.normal) (.inl rfl);have hE:=Z1V S hg hrec g ha hw hR hn hC;exact Sure.done S hg hrec hE ⟨.cons hfr .nil,⟨.inl rfl,fun h=>absurd rfl h⟩,trivial⟩ hw ho ret pan
end
end Go.Proofs.YtfelljbfeoplhaaGreat.Lift
namespace Go.Proofs.YtfelljbfeoplhaaGreat.Lift
open Go Go.Conc
variable [Jk]
section
variable {P:Program} {F:Array Func} {G:FuncId → Prop} {Post:Value → World → Prop} {D:Nat → Prop} {r r':Ren} {v v' w w':World} {b:Frame} {cs:List Frame}
structure AcR (r:Ren) (a a':Act):Prop where
 tmps:VRs r a.tmps a'.tmps
 defers:Lis (DR r) a.defers a'.defers
theorem AcR.mono (h:r.le r') {a a':Act} (k:AcR r a a'):AcR r' a a':=⟨VRs.mono h k.tmps,k.defers.imp fun _ _=>DR.mono h⟩
end
end Go.Proofs.YtfelljbfeoplhaaGreat.Lift
namespace Go.Proofs.YtfelljbfeoplhaaGreat.Lift
open Go Go.Conc
variable [Jk]
inductive Reach (Q:Program) (Stop:List Frame → World → Prop):List Frame → World → List Frame → World → Prop
 | refl {V v}:Reach Q Stop V v V v
 | step {f K v τ f' K' v1 es V' v'} (hn:¬ Stop (f :: K) v) (h:stepG Q true (run1 f K) (re v τ) = .go (run1 f' K') v1 es) (t:Reach Q Stop (f' :: K') v1 V' v'):Reach Q Stop (f :: K) v V' v'
section
variable {Q P:Program} {F:Array Func} {G:FuncId → Prop} {Post:Value → World → Prop} {r r':Ren} {v v' w w':World} {Stop:List Frame → World → Prop} {V V':List Frame}
theorem Ends.reach (h:Ends Q Stop V v) (k:Reach Q Stop V v V' v'):Ends Q Stop V' v':=by
 induction k with
 | refl=>exact h
 | step hn e _ ih =>
  cases h with
  | stop q=>exact absurd q hn
  | step ok hk=>exact ih (hk _ _ _ _ _ e)
theorem Reach.trans {V'':List Frame} {v'':World} (h:Reach Q Stop V v V' v') (k:Reach Q Stop V' v' V'' v''): Reach Q Stop V v V'' v'':=by
 induction h with
 | refl=>exact k
 | step hn e _ ih=>exact .step hn e (ih k)
def Z5I (Q:Program) (Stop:List Frame → World → Prop) (f:Frame) (K:List Frame) (v:World) (V':List Frame) (v':World):Prop:=
 ∃ τ f' K' v1 es,stepG Q true (run1 f K) (re v τ) = .go (run1 f' K') v1 es ∧ Reach Q Stop (f' :: K') v1 V' v'
theorem Sure.jumps (S:Strip P F (CodeOk P false) G) (hg:GOk P F G) (hrec:P.follows .rangeFuncRecover = true) (hP:∀ x u,¬ Stop [x] u) {cs:List Frame} {I:List Frame → World → Prop} (hI:∀ f K v τ f' K' v' es,I (f :: K) v → stepG (PF P F) true (run1 f K) (re v τ) = .go (run1 f' K') v' es → (K' = [] ∧ Sour f') ∨ I (f' :: K') v') {J:(Nat → Prop) → Ren → World → World → Prop} (hJ:∀ D r r' v v' w w',Kep r r' v v' w w' → J D r v w → J D r' v' w') (H:∀ D f g r v w,Stk P F r [f] [g] → WH (Iv P F) r v w → Off D r w → J D r v w → I [f,poison] v → Pend f → Ends (PF P F) Stop [f,poison] v →
   (∀ x y r' v' w' D',Z5I (PF P F) Stop f [poison] v [f.finish x,poison] v' → I [f.finish x,poison] v' → Stk P F r' [f] [g] → VR r' x y → WH (Iv P F) r' v' w' → Off D' r' w' → J D' r' v' w' → Sure P Post D' (run1 (g.finish y) cs) w') →
   Sure P Post D (run1 g cs) w) (fin:∀ D f A g B r v w,Stop (f :: (A ++ [poison])) v → Stk P F r (f :: A) (g :: B) → WH (Iv P F) r v w → Off D r w → J D r v w → Sure P Post D (run1 g (B ++ cs)) w) (hE:Ends (PF P F) Stop V v): ∀ D f A g B r w,V = f :: (A ++ [poison]) → Stk P F r (f :: A) (g :: B) → WH (Iv P F) r v w → Off D r w → J D r v w → I V v → Sure P Post D (run1 g (B ++ cs)) w:=by
 have key:∀ V' v',Reach (PF P F) Stop V v V' v' → ∀ D f A g B r w,V' = f :: (A ++ [poison]) → Stk P F r (f :: A) (g :: B) → WH (Iv P F) r v' w → Off D r w → J D r v' w → I V' v' → Sure P Post D (run1 g (B ++ cs)) w:=by
  induction hE with
  | stop h =>
   intro V' v' hr D f A g B r w hV hs hw ho hj hi
   cases hr with
   | refl=>subst hV;exact fin D _ _ _ _ _ _ _ h hs hw ho hj
   | step hn _ _=>exact absurd h hn
  | @step f K v ok h ih =>
   intro V' v' hr
   cases hr with
   | step _ e t=>exact ih _ _ _ _ _ e _ _ t
   | refl =>
    intro D f0 A g B r w hV hs hw ho hj hi;simp only [List.cons.injEq] at hV;obtain ⟨rfl,rfl⟩:=hV
    by_cases np:Pend f
    ·have hA:A = []:=by
      cases A with
      | nil=>rfl
      | cons a az=>exact absurd np.1 (hs.uncons.2.2.2 (by simp))
     subst hA;have hB:B = []:=by
      have:=hs.uncons.2.1.rel
      cases this
      rfl
     subst hB;refine H D f g r v w hs hw ho hj hi np (.step ok h) fun x y r' v' w' D' hr hi' hs' hx hw' ho' hj'=>?_;obtain ⟨τ,f',K',v1,es,e,t⟩:=hr;obtain ⟨q1,q2,q3⟩:=hs'.uncons;exact ih _ _ _ _ _ e _ _ t D' (f.finish x) [] (g.finish y) [] r' w' rfl (q2.cons (q1.finish hx) (q3.finish x)) hw' ho' hj' hi'
    ·refine Sure.step rfl fun w1 hl=>?_
     have hw1:WH (Iv P F) r v w1:=hw.of rfl hl.1 (by rw [hl.2.1];exact hw.env);obtain ⟨τ,f',K',v',es,e,hc⟩:=Z54 S hg hrec hs hw1 np ok true cs
     rcases hc with ⟨rfl,hx⟩ | ⟨A',g',B',r',w',ns,rfl,e2,hs',hw',hk,he⟩
     ·exact absurd (h τ _ _ _ _ e) (Z0m hP hx)
     ·have hk2:Kep r r' v v' w w':=Kep.of (v0:=re v τ) ⟨rfl,rfl,rfl⟩ hl hk
      refine ⟨_,w',ns,e2,fun x hx=>Z9b (he x hx) ((ho.like hl).kept hk).names,by rw [← hl.1];exact hk.sizeW,?_⟩;refine ih τ _ _ _ _ e _ _ .refl D f' A' g' B' r' w' rfl hs' hw'.h ((ho.like hl).kept hk) (hJ _ _ _ _ _ _ _ hk2 hj) ?_
      rcases hI _ _ _ _ _ _ _ _ hi e with ⟨q,_⟩ | q
      ·simp at q
      ·exact q
 exact fun D f A g B r w=>key _ _ .refl D f A g B r w
end
end Go.Proofs.YtfelljbfeoplhaaGreat.Lift
namespace Go.Proofs.YtfelljbfeoplhaaGreat.Lift
open Go Go.Conc
variable [Jk]
section
variable {P:Program} {F:Array Func} {G:FuncId → Prop} {C:Inv} {r r':Ren} {u u' v v' w w':World} {Stop:List Frame → World → Prop} {V V':List Frame}
structure AtCall (f:Frame) (jf:FuncId) (c:Call):Prop where
 ex:∃ ops i rest k o,f.mode = .run ∧ f.todo = .inRegion ops (i :: rest) :: k ∧ ops[i]? = some o ∧ Region.wanted o (yielded ops f.tmps) = true ∧ o.op = .call c ∧ c.callee = .value (.func jf)
theorem Pend.at {f:Frame} (h:Pend f):∃ jf c,Jk.jmp jf ∧ AtCall f jf c ∧ (∀ x ∈ c.args,∃ t,x = .tmp t) ∧ c.args.size = Jk.ar jf:=by
 obtain ⟨_,hm,ops,i,rest,k,o,h1,h2,h3,h4⟩:=h
 cases ho:o.op with
 | call c =>
  rw [ho] at h4;obtain ⟨⟨jf,h5,h6,h8⟩,h7⟩:=h4;exact ⟨jf,c,h6,⟨ops,i,rest,k,o,hm,h1,h2,h3,ho,h5⟩,h7,h8⟩
 | _=>rw [ho] at h4;exact h4.elim
theorem Zaz {f g:Frame} (hf:FrR P F r f g) (ops:Array Oper) (o:Oper): Region.wanted o (yielded ops f.tmps) = Region.wanted o (yielded ops g.tmps):=by
 have:yielded ops f.tmps = yielded ops g.tmps:=by
  funext j
  unfold yielded
  cases ((ops[j]?).bind (·.dst)) with
  | none=>rfl
  | some t =>
   simp only [Option.bind_some]
   rcases hf.tmps.get t with ⟨a,b⟩ | ⟨x,y,a,b,q⟩
   ·rw [a,b]
   ·rw [a,b]
    cases q with
    | junk _ _ _ m=>cases y <;> first | rfl | exact absurd rfl (m.2.2 _)
    | _=>rfl
 rw [this]
theorem AtCall.rel {f g:Frame} (hf:FrR P F r f g) {jf:FuncId} {c:Call} (h:AtCall f jf c):AtCall g jf c:=by
 obtain ⟨ops,i,rest,k,o,hm,h1,h2,h3,h4,h5⟩:=h.ex;have ht:=hf.todo;have hmd:=hf.mode;rw [h1] at ht;rw [hm] at hmd;rw [Zaz hf] at h3;generalize hz:g.todo = z at ht;generalize hy:g.mode = y at hmd
 cases hmd
 cases ht with
 | cons a t =>
  cases a with
  | inRegion _=>exact ⟨ops,i,rest,_,o,hy,hz,h2,h3,h4,h5⟩
theorem ZbN (fn:FuncId):seen P fn #[] = #[]:=by
 unfold seen
 rfl
theorem AtCall.step {f : Frame} {jf : FuncId} {c : Call} (h : AtCall f jf c) {fn : Func} {b : Code} (hf : P.funcs[jf]? = some fn) (hb : fn.body = some b) (hn : (fn.name == "runtime.NumGoroutine") = false) (hk : f.kind = .normal ∨ f.kind = .deferred) (m : Bool) (K : List Frame) (w : World) :
    stepG P m (run1 f K) w = .go (run1 (Frame.enter P jf (c.args.map f.eval) .normal) (f :: K)) w #[] := by
  obtain ⟨ops, i, rest, k, o, hm, h1, h2, h3, h4, h5⟩ := h.ex;have he : f.eval (.func jf) = .func (.func jf) #[] #[] := rfl;have hex : (execOp f.eval o).run P w = .ok (.enter jf (c.args.map f.eval)) w ∧ (execOp f.eval o).events P w #[] = #[] := by
    have : execOp f.eval o = (do let d ← resolve f.eval c o.type; invoke d.target d.args) := by
      unfold execOp;rw [h4]
    rw [this];unfold resolve;rw [h5];simp only [he, Deferred.ofValue, pure_bind, invoke, callFunc];have e2 : #[] ++ c.args.map f.eval ++ #[] = c.args.map f.eval := by simp
    rw [e2];have e3 : ∀ (Z : Program → Sem Next), (program >>= Z).run P w = (Z P).run P w ∧ (program >>= Z).events P w #[] = (Z P).events P w #[] := fun Z => ⟨rfl, rfl⟩;have e4 := e3 fun p => match p.funcs[jf]? with
      | none => stuck "call: no such function"
      | some fn => if fn.name == "runtime.NumGoroutine" then pure .numGoroutine
        else if fn.body.isNone then do
          mark (.extern jf)
          if let some e := Extern.findNext fn then return ← e (c.args.map f.eval)
          match Extern.find fn with
          | some e => pure (.value (← e (c.args.map f.eval)))
          | none =>
            if fn.name.endsWith ".init" && !fn.name.startsWith "(" && !fn.name.startsWith "gosem." then pure (.value (.tuple #[]))
            else unsupported (.extern fn.name)
        else pure (.enter jf (c.args.map f.eval))
    simp only [hf, hb, hn, Bool.false_eq_true, if_false, Option.isNone_some] at e4;exact ⟨e4.1, e4.2⟩
  have e1 : stepG P m (run1 f K) w = stepG.exec P m true f K none w := by
    unfold stepG run1;simp only [hm]
  rw [e1, Z1S h1, if_pos (by simp [h2, h3]), Z3N h1 h2 (.inr fun c e => by rw [h4] at e; cases e), Z0r hex.1];unfold lst;have ke : (f.kind == CallKind.early) = false := by rcases hk with q | q <;> rw [q] <;> rfl
  have kk : Z2h f = .normal := by unfold Z2h; rw [h1]
  rw [ke, kk];simp only [Bool.false_eq_true, if_false];rw [hex.2, ZbN];simp [GStep.after]
def Idn (r:Ren):Prop:=∀ b c,r b = some c → c = b
theorem Zbw {R:α → α → Prop} (hR:∀ x y,R x y → x = y) {xs ys:Array α} (h:Arr R xs ys): xs = ys:=by
 apply Array.ext h.1;intro i h1 h2;exact hR _ _ (h.2 i _ _ (Array.getElem?_eq_getElem h1) (Array.getElem?_eq_getElem h2))
theorem AR.id (hi:Idn r) {a b:Addr} (h:AR r a b):a = b:=by
 cases h with
 | mk q=>rw [hi _ _ q]
theorem VR.id (nj:¬ Jk.j) (hi:Idn r) {x y:Value} (h:VR r x y):x = y:=by
 have arr:∀ {xs ys:Array Value},xs.size = ys.size → (∀ (i:Nat) x y,xs[i]? = some x → ys[i]? = some y → x = y) → xs = ys:=fun hs hk=>Zbw (R:=Eq) (fun _ _ e=>e) ⟨hs,hk⟩
 induction h with
 | ptr q=>rw [q.id hi]
 | sl n c q=>rw [q.id hi]
 | map q=>rw [hi _ _ q]
 | @func f f' xs xs' ys ys' hf hx _ hy _ ih ih2 =>
  rw [arr hx ih,arr hy ih2]
  cases hf with
  | func f h=>rfl
  | yield q=>rw [hi _ _ q]
 | iface t _ ih=>rw [ih]
 | agg hs _ ih=>rw [arr hs ih]
 | tuple hs _ ih=>rw [arr hs ih]
 | junk j=>exact (j.resolve_left nj).symm
 | _=>rfl
theorem Z94 (nj:¬ Jk.j) (hi:Idn r) {xs ys:Array Value} (h:VRs r xs ys): xs = ys:=Zbw (fun _ _=>VR.id nj hi) h
theorem Zie {R:α → α → Prop} (hR:∀ x y,R x y → x = y) {xs ys:List α} (h:Lis R xs ys): xs = ys:=by
 induction h with
 | nil=>rfl
 | cons a _ ih=>rw [hR _ _ a,ih]
theorem TR.id (nj:¬ Jk.j) (hi:Idn r) {x y:Target} (h:TR r x y):x = y:=by
 cases h with
 | fn hf q =>
  rw [Z94 nj hi q]
  cases hf with
  | func f h=>rfl
  | yield q=>rw [hi _ _ q]
 | nil=>rfl
 | collected q=>rw [hi _ _ q]
theorem OR.id (nj:¬ Jk.j) (hi:Idn r) {o o':Obj} (h:OR C r o o'):(∃ cs e,o = .cells cs e (0,cs.size)) ∨ o = o':=by
 cases h with
 | @cells cs cs' e fr fr' q hf =>
  rcases hf with ⟨rfl,rfl⟩ | rfl
  ·exact .inr (by rw [Z94 nj hi q])
  ·exact .inl ⟨cs,e,rfl⟩
 | number l q=>exact .inr (by rw [q.id hi])
 | map n q =>
  refine .inr ?_;rw [Zbw (fun a b (k:ER r a b)=>?_) q];obtain ⟨k1,v1,b1⟩:=a;obtain ⟨k2,v2,b2⟩:=b;obtain ⟨h1,h2,h3⟩:=k;have e1:=VR.id nj hi h1;have e2:=VR.id nj hi h2;dsimp only at e1 e2 h3;rw [e1,e2,h3]
 | @loop l l' q =>
  refine .inr ?_;obtain ⟨q1,q2,q3,q4,q5,q6,q7,q8⟩:=q;obtain ⟨a1,a2,a3,a4,a5,a6,a7,a8⟩:=l;obtain ⟨b1,b2,b3,b4,b5,b6,b7,b8⟩:=l';have e4:=Z94 nj hi q4;have e8:=hi _ _ q8;dsimp only at *;rw [q1,q2.1,q3.1,e4,q5,q6.1,q7.1,e8]
 | def0=>exact .inr rfl
 | def1 q =>
  refine .inr ?_;rw [Zie (fun a b (k:DR r a b)=>?_) q];obtain ⟨t1,a1⟩:=a;obtain ⟨t2,a2⟩:=b;obtain ⟨h1,h2⟩:=k;have e1:=TR.id nj hi h1;have e2:=Z94 nj hi h2;dsimp only at e1 e2;rw [e1,e2]
theorem Kep.old (nj:¬ Jk.j) (hi:Idn r') (k:Kep r r' v v' v u') (hw:WH C r' v' u') {b:Nat} (hb:b < v.heap.size) (e:v'.heap[b]? = v.heap[b]?):u'.heap[b]? = v.heap[b]?:=by
 cases hr:r b with
 | none =>
  refine k.far b hb fun a q=>?_;have:=hi _ _ (k.le.1 _ _ q);subst this;rw [hr] at q
  cases q
 | some c =>
  have hc:=hi _ _ (k.le.1 _ _ hr);subst hc;obtain ⟨o,o',h1,h2,ho⟩:=hw.on _ _ (k.le.1 _ _ hr)
  rcases OR.id nj hi ho with ⟨cs,e',rfl⟩ | rfl
  ·exact k.shutW _ _ ⟨cs,e',e ▸ h1⟩ hr
  ·rw [h2,← e,h1]
theorem Kep.fresh (nj:¬ Jk.j) (hi:Idn r') (hw:WH C r' v' u') {b:Nat} {o:Obj} (hb:r' b = some b) (e:v'.heap[b]? = some o) (ns:¬ ∃ cs e,o = .cells cs e (0,cs.size)):u'.heap[b]? = some o:=by
 obtain ⟨o1,o',h1,h2,ho⟩:=hw.on _ _ hb;rw [e] at h1;obtain rfl:=Option.some.inj h1
 rcases OR.id nj hi ho with q | rfl
 ·exact absurd q ns
 ·exact h2
end
end Go.Proofs.YtfelljbfeoplhaaGreat.Lift
