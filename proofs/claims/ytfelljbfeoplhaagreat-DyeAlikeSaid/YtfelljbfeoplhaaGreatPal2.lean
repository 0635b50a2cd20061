/- Parts of a proof: Lx, Ly, Lz, Gma, Gbu, Gex, Gfr, Gst, Gsu, Gsx. No conditions. -/
import Derived.Conc.Listed
import Derived.Test.YtfelljbfeoplhaaGreatPal1
set_option linter.unusedVariables false
set_option linter.unusedSimpArgs false
set_option linter.unusedSectionVars false
set_option maxRecDepth 100000
set_option maxHeartbeats 4000000
variable {t:Go.TypeId}
namespace Go.Proofs.YtfelljbfeoplhaaGreat.Lift
open Go
variable [Jk]
section
variable {P:Program} {F:Array Func} {C:Inv} {r:Ren} {α β γ δ:Type} {A:Ren → α → β → Prop} {B:Ren → γ → δ → Prop}
theorem Z4Y {op:BinOp} {k:IntKind} {x y:Int}: SR (PF P F) P C VA r (Op.intArith op k x y) (Op.intArith op k x y):=by
 cases op <;> first | exact Z2 | exact .pure (.int _ _)
theorem Z5a {op:BinOp} {x y:Int}: SR (PF P F) P C VA r (Op.intCmp op x y) (Op.intCmp op x y):=by
 cases op <;> first | exact Z2 | exact .pure (.bool _)
theorem Z5U {op:BinOp} {k:IntKind} {x y:Int}: SR (PF P F) P C VA r (Op.intBits op k x y) (Op.intBits op k x y):=by
 cases op <;> first | exact Z2 | exact .pure (.int _ _)
theorem ZbM {op:BinOp} {k:IntKind} {x y:Int}: SR (PF P F) P C VA r (Op.intDiv op k x y) (Op.intDiv op k x y):=by
 unfold Op.intDiv;refine Zx (fun _=>Z0H) fun _=>?_
 cases op <;> first | exact Z2 | exact .pure (.int _ _)
theorem ZdF {op:BinOp} {k j:IntKind} {x y:Int}: SR (PF P F) P C VA r (Op.shift op k x j y) (Op.shift op k x j y):=by
 unfold Op.shift;refine Zx (fun _=>Z0H) fun _=>?_
 cases op <;> first | exact Z2 | exact .pure (.int _ _)
theorem Z0Q {op:BinOp} {x y:ByteArray}:SR (PF P F) P C VA r (Op.stringOp op x y) (Op.stringOp op x y):=by
 unfold Op.stringOp
 cases op <;> first | exact Z2 | exact .pure (.bool _) | exact Zx (fun _=>Zo (by simp)) fun _=>.pure (.string _)
theorem ZdQ {op:UnOp} {x y:Value} (h:VR r x y): SR (PF P F) P C VA r (Op.unary op x) (Op.unary op y):=by
 unfold Op.unary
 cases op <;> cases h <;> first | exact Z2 | exact Z4Y | exact Z5U | exact .pure (.bool _) | exact Zo (by simp)
theorem Z52 {b c:Nat} (h:r b = some c): SR (PF P F) P C (fun r x y=>(x = none ∧ y = none) ∨ ∃ a a' l,x = some (a,l) ∧ y = some (a',l) ∧ AR r a a') r (numberAt b) (numberAt c):=by
 unfold numberAt;refine SR.shape h fun s=>?_
 cases s with
 | some s=>exact .pure (.inl ⟨rfl,rfl⟩)
 | none =>
  refine SR.getObj h fun r' hr o o' ho=>?_
  cases ho <;> first | exact .pure (.inl ⟨rfl,rfl⟩) | (rename_i q;exact .pure (.inr ⟨_,_,_,rfl,rfl,q⟩))
theorem Z0W {a b:Addr} (h:AR r a b): SR (PF P F) P C (fun r x y=>AR r x.1 y.1 ∧ x.2 = y.2) r (behindNumber a) (behindNumber b):=by
 unfold behindNumber;have h0:=h
 cases h with
 | mk h =>
 refine Z4 (Z52 h) fun r' hr x y q=>?_
 rcases q with ⟨rfl,rfl⟩ | ⟨a,a',l,rfl,rfl,q⟩
 ·exact .pure ⟨h0.mono hr,rfl⟩
 ·exact .pure ⟨q,rfl⟩
theorem Z2t {ι σ:Type} (l:List ι) {f g:ι → σ → Sem (ForInStep σ)}: ∀ (s:σ) {r:Ren},(∀ a,a ∈ l → ∀ s r',r.le r' → SR (PF P F) P C EQ r' (f a s) (g a s)) → SR (PF P F) P C EQ r (forIn l s f) (forIn l s g):=by
 induction l with
 | nil=>exact fun s r _=>.pure rfl
 | cons a l ih =>
  intro s r h;simp only [List.forIn_cons];refine Z4 (h a (by simp) s r (Ren.le_refl _)) ?_;rintro r1 hr1 x _ rfl
  cases x with
  | done s=>exact .pure rfl
  | yield s=>exact ih s fun a ha s r' hr=>h a (by simp [ha]) s r' (Ren.le_trans hr1 hr)
def EqOk (P:Program):Nat → TypeId → Prop
 | 0,_=>True
 | d + 1,t=>match P.underlying t with
  | some .bool | some .string | some (.slice _) | some (.map _ _)=>True
  | some (.func _ _ _)=>¬ Jk.j
  | some (.int _) => ∀ i, P.info? t = some i → ∀ u, i.desc ≠ .named "sync.copyChecker" u
  | some (.struct fs)=>∀ f ∈ fs,EqOk P d f.type
  | some (.array _ e)=>EqOk P d e
  | _=>False
def EqAt (P:Program) (F:Array Func) (C:Inv) (d:Nat):Prop:=∀ (t:TypeId) {r:Ren} {x y u v:Value},EqOk P d t → VR r x y → VR r u v → SR (PF P F) P C EQ r (Op.equalIn d t x u) (Op.equalIn d t y v)
theorem Zf0 {d : Nat} (ih : EqAt P F C d) {elem : TypeId} (ok : EqOk P d elem) {len : Nat} {xs xs' ys ys' : Array Value} (h : VRs r xs xs') (k : VRs r ys ys') :
    SR (PF P F) P C EQ r
      (do let n ← sizeOf elem
          for i in [0:len] do
            if !(← Op.equalIn d elem (← part elem xs (i * n)) (← part elem ys (i * n))) then return false
          pure true)
      (do let n ← sizeOf elem
          for i in [0:len] do
            if !(← Op.equalIn d elem (← part elem xs' (i * n)) (← part elem ys' (i * n))) then return false
          pure true) := by
  refine ZG fun n => ?_;simp only [Std.Legacy.Range.forIn_eq_forIn_range'];refine Z4 (Z2t _ _ fun i _ s r' hr => ?_) ?_
  · refine Z4 (Z12 (VRs.mono hr h) _) fun r1 hr1 a b q => ?_
    refine Z4 (Z12 (VRs.mono (Ren.le_trans hr hr1) k) _) fun r2 hr2 a2 b2 q2 => ?_;refine Z4 (ih _ ok (q.mono hr2) q2) ?_;rintro r3 hr3 z _ rfl
    cases z <;> exact .pure rfl
  · rintro r1 hr1 z _ rfl
    obtain ⟨z, _⟩ := z
    cases z <;> exact .pure rfl
theorem Zdz {d : Nat} (ih : EqAt P F C d) {t : TypeId} {fs : Array Field} (ok : ∀ f ∈ fs, EqOk P d f.type) {xs xs' ys ys' : Array Value} (h : VRs r xs xs') (k : VRs r ys ys') (why : String) (st : (PF P F).stoodInHeld t = P.stoodInHeld t) :
    SR (PF P F) P C EQ r
      (do if (← program).stoodInHeld t then unsupported (.noEntry why)
          for f in fs do
            if f.name ≠ "_" then
              if !(← Op.equalIn d f.type (← part f.type xs f.offset) (← part f.type ys f.offset)) then return false
          pure true)
      (do if (← program).stoodInHeld t then unsupported (.noEntry why)
          for f in fs do
            if f.name ≠ "_" then
              if !(← Op.equalIn d f.type (← part f.type xs' f.offset) (← part f.type ys' f.offset)) then return false
          pure true) := by
  refine Z0R ?_;rw [st];refine Zx (fun _ => .dead ((Zm (by simp)).bind _)) fun _ => ?_;simp only [← Array.forIn_toList];refine Z4 (Z2t _ _ fun f hf s r' hr => ?_) ?_
  · refine Zx (fun _ => ?_) fun _ => .pure rfl
    refine Z4 (Z12 (VRs.mono hr h) _) fun r1 hr1 a b q => ?_;refine Z4 (Z12 (VRs.mono (Ren.le_trans hr hr1) k) _) fun r2 hr2 a2 b2 q2 => ?_;refine Z4 (ih _ (ok f (by simpa using hf)) (q.mono hr2) q2) ?_;rintro r3 hr3 z _ rfl
    cases z <;> exact .pure rfl
  · rintro r1 hr1 z _ rfl
    obtain ⟨z, _⟩ := z
    cases z <;> exact .pure rfl
theorem Z29 {f:Program → Sem α} (h:Dead (PF P F) (f (PF P F))):Dead (PF P F) (program >>= f):=h
theorem Z4D {f:TypeInfo → Sem α} (h:∀ i,P.info? t = some i → Dead (PF P F) (f i)): Dead (PF P F) (typeInfo t >>= f):=by
 refine Z29 (f := fun p => (match p.info? t with | some i => pure i | none => stuck "no such type") >>= f) ?_;rw [info_pf]
 cases e:P.info? t with
 | none=>exact Ze.bind _
 | some i=>exact h i e
theorem Zeu {t : TypeId} (ok : ∀ i, P.info? t = some i → ∀ u, i.desc ≠ .named "sync.copyChecker" u) {a a' b b' : Addr} (h : AR r a a') (k : AR r b b') :
    SR (PF P F) P C EQ r
      (do let (a, b) := ((← behindNumber a).1, (← behindNumber b).1)
          if a.block == b.block && a.block < (← program).globals.size then return (← byteOf a) == (← byteOf b)
          let .named "sync.copyChecker" _ := (← typeInfo t).desc | unsupported .addressObserved
          if a == b then pure true else unsupported .addressObserved)
      (do let (a, b) := ((← behindNumber a').1, (← behindNumber b').1)
          if a.block == b.block && a.block < (← program).globals.size then return (← byteOf a) == (← byteOf b)
          let .named "sync.copyChecker" _ := (← typeInfo t).desc | unsupported .addressObserved
          if a == b then pure true else unsupported .addressObserved) := by
  refine Z4 (Z0W h) fun r1 hr1 x x' hx => ?_;refine Z4 (Z0W (k.mono hr1)) fun r2 hr2 y y' hy => ?_;refine .dead (Z29 ?_);have e : (x.1.block == y.1.block && decide (x.1.block < (PF P F).globals.size)) = false := by simp [Z5G]
  simp only [e];refine Z4D fun i hi => ?_;have := ok i hi
  split
  · rename_i q
    exact absurd q (this _)
  · exact Zm (by simp)
theorem Zb7 (hs:∀ t,(PF P F).stoodInHeld t = P.stoodInHeld t) (d:Nat):EqAt P F C d:=by
 induction d with
 | zero=>exact fun t r x y u v _ _ _=>Zo (by simp)
 | succ d ih =>
  intro t r x y u v ok hx hu;unfold Op.equalIn;refine Zc fun k hk=>?_;unfold EqOk at ok;rw [hk] at ok
  cases k <;> try exact ok.elim
  ·cases hx <;> cases hu <;> first | exact Z2 | exact .pure rfl
  ·rename_i kk
   cases hx with
   | int k n =>
    rcases n with (_ | n) | n <;> cases hu <;> first | exact Z2 | exact Zo (by simp) | exact .pure rfl | exact Zx (fun _=>.pure rfl) fun _=>Z2
   | ptr0=>cases hu <;> first | exact Zo (by simp) | exact Z2
   | ptr q =>
    cases hu with
    | int j m=>rcases m with (_ | m) | m <;> first | exact .pure rfl | exact Zo (by simp)
    | ptr q2=>exact Zeu ok q q2
    | _=>exact Zo (by simp)
   | _ =>
    cases hu with
    | int j m=>rcases m with (_ | m) | m <;> first | exact Z2 | exact Zo (by simp)
    | _=>first | exact Z2 | exact Zo (by simp)
  ·cases hx <;> cases hu <;> first | exact Z2 | exact .pure rfl
  ·cases hx <;> cases hu <;> first | exact Z2 | exact .pure rfl
  ·cases hx with
   | agg h1 q1 =>
    cases hu with
    | agg h2 q2=>exact Zf0 ih ok ⟨h1,q1⟩ ⟨h2,q2⟩
    | _=>exact Z2
   | _=>cases hu <;> exact Z2
  ·cases hx <;> cases hu <;> first | exact Z2 | exact .pure rfl
  ·cases hx with
   | agg h1 q1 =>
    cases hu with
    | agg h2 q2=>exact Zdz ih ok ⟨h1,q1⟩ ⟨h2,q2⟩ _ (hs t)
    | _=>exact Z2
   | _=>cases hu <;> exact Z2
  ·cases hx <;> cases hu <;> first | exact Z2 | exact .pure rfl | (rename_i j _ _ _;rcases j with j | rfl <;> first | exact absurd j ok | exact Z2 | exact .pure rfl) | (rename_i j _ _ _ j2 _ _ _;rcases j with j | rfl <;> rcases j2 with j2 | rfl <;> first | exact absurd j ok | exact absurd j2 ok | exact Z2 | exact .pure rfl)
end
end Go.Proofs.YtfelljbfeoplhaaGreat.Lift
namespace Go.Proofs.YtfelljbfeoplhaaGreat.Lift
open Go
variable [Jk]
section
variable {P:Program} {F:Array Func} {C:Inv} {r:Ren} {α β γ δ:Type} {A:Ren → α → β → Prop} {B:Ren → γ → δ → Prop}
theorem Zf6 (d:Nat):∀ t u,(PF P F).alikeButTags d t u = P.alikeButTags d t u:=by
 induction d with
 | zero=>exact fun _ _=>rfl
 | succ d ih =>
  intro t u;simp only [Program.alikeButTags,info_pf,ih]
theorem Zar (t:TypeId):(PF P F).underlyingId t = P.underlyingId t:=by
 unfold Program.underlyingId;simp only [info_pf]
theorem Zef (t:TypeId):(PF P F).stoodInHeld t = P.stoodInHeld t:=by
 have e:(PF P F).cutTypes = P.cutTypes:=rfl;unfold Program.stoodInHeld Program.stoodInAs;simp only [info_pf,under_pf,Zf6,Zar,e,Z4j]
theorem Z68 (ok:EqOk P Op.maxDepth t) {x y u v:Value} (h:VR r x y) (k:VR r u v): SR (PF P F) P C EQ r (Op.equal t x u) (Op.equal t y v):=Zb7 Zef _ t ok h k
def GuAt (P:Program) (F:Array Func) (C:Inv) (d:Nat):Prop:=∀ (t:TypeId) {r:Ren} {x y u v:Value},VR r x y → VR r u v → SR (PF P F) P C EQ r (Op.eqGuardIn d t x u) (Op.eqGuardIn d t y v)
theorem ZdN {d : Nat} (ih : GuAt P F C d) {elem : TypeId} {len : Nat} {xs xs' ys ys' : Array Value} (h : VRs r xs xs') (k : VRs r ys ys') :
    SR (PF P F) P C EQ r
      (do let n ← sizeOf elem
          for i in [0:len] do
            if ← Op.eqGuardIn d elem (← part elem xs (i * n)) (← part elem ys (i * n)) then return true
          pure false)
      (do let n ← sizeOf elem
          for i in [0:len] do
            if ← Op.eqGuardIn d elem (← part elem xs' (i * n)) (← part elem ys' (i * n)) then return true
          pure false) := by
  refine ZG fun n => ?_;simp only [Std.Legacy.Range.forIn_eq_forIn_range'];refine Z4 (Z2t _ _ fun i _ s r' hr => ?_) ?_
  · refine Z4 (Z12 (VRs.mono hr h) _) fun r1 hr1 a b q => ?_
    refine Z4 (Z12 (VRs.mono (Ren.le_trans hr hr1) k) _) fun r2 hr2 a2 b2 q2 => ?_;refine Z4 (ih _ (q.mono hr2) q2) ?_;rintro r3 hr3 z _ rfl
    cases z <;> exact .pure rfl
  · rintro r1 hr1 z _ rfl
    obtain ⟨z, _⟩ := z
    cases z <;> exact .pure rfl
theorem ZdS {d : Nat} (ih : GuAt P F C d) {fs : Array Field} {xs xs' ys ys' : Array Value} (h : VRs r xs xs') (k : VRs r ys ys') :
    SR (PF P F) P C EQ r
      (do for f in fs do
            if f.name ≠ "_" then
              if ← Op.eqGuardIn d f.type (← part f.type xs f.offset) (← part f.type ys f.offset) then return true
          pure false)
      (do for f in fs do
            if f.name ≠ "_" then
              if ← Op.eqGuardIn d f.type (← part f.type xs' f.offset) (← part f.type ys' f.offset) then return true
          pure false) := by
  simp only [← Array.forIn_toList];refine Z4 (Z2t _ _ fun f hf s r' hr => ?_) ?_
  · refine Zx (fun _ => ?_) fun _ => .pure rfl
    refine Z4 (Z12 (VRs.mono hr h) _) fun r1 hr1 a b q => ?_;refine Z4 (Z12 (VRs.mono (Ren.le_trans hr hr1) k) _) fun r2 hr2 a2 b2 q2 => ?_;refine Z4 (ih _ (q.mono hr2) q2) ?_;rintro r3 hr3 z _ rfl
    cases z <;> exact .pure rfl
  · rintro r1 hr1 z _ rfl
    obtain ⟨z, _⟩ := z
    cases z <;> exact .pure rfl
theorem Z5Q (d:Nat):GuAt P F C d:=by
 induction d with
 | zero=>exact fun t r x y u v _ _=>Zo (by simp)
 | succ d ih =>
  intro t r x y u v hx hu;unfold Op.eqGuardIn;refine Zc fun k hk=>?_
  cases k with
  | interface ms =>
   cases hx with
   | junk _ h1 n1 _=>cases y <;> first | exact absurd rfl (h1 _) | exact absurd rfl n1.1 | exact .pure rfl
   | iface0 =>
    cases hu with
    | junk _ h1 n1 _=>cases v <;> first | exact absurd rfl (h1 _) | exact absurd rfl n1.1 | exact .pure rfl
    | _=>exact .pure rfl
   | _=>exact .pure rfl
  | array n e =>
   cases hx with
   | agg h1 q1 =>
    cases hu with
    | agg h2 q2=>exact ZdN ih ⟨h1,q1⟩ ⟨h2,q2⟩
    | junk _ h1 n1 _=>cases v <;> first | exact absurd rfl (h1 _) | exact .pure rfl
    | _=>exact .pure rfl
   | junk _ h1 n1 _=>cases y <;> first | exact absurd rfl (h1 _) | exact .pure rfl
   | _=>exact .pure rfl
  | struct fs =>
   cases hx with
   | agg h1 q1 =>
    cases hu with
    | agg h2 q2=>exact ZdS ih ⟨h1,q1⟩ ⟨h2,q2⟩
    | junk _ h1 n1 _=>cases v <;> first | exact absurd rfl (h1 _) | exact .pure rfl
    | _=>exact .pure rfl
   | junk _ h1 n1 _=>cases y <;> first | exact absurd rfl (h1 _) | exact .pure rfl
   | _=>exact .pure rfl
  | _=>exact .pure rfl
theorem Z5l (d:Nat):∀ t,(PF P F).eqGuardType d t = P.eqGuardType d t:=by
 induction d with
 | zero=>exact fun _=>rfl
 | succ d ih =>
  intro t;simp only [Program.eqGuardType,under_pf,ih]
theorem ZaR {op:BinOp} {a b:Operand} {x y u v:Value} (h:VR r x y) (k:VR r u v): SR (PF P F) P C EQ r (eqGuard op t a b x u) (eqGuard op t a b y v):=by
 unfold eqGuard;refine Zx (fun _=>.pure rfl) fun _=>?_
 cases h with
 | iface0 =>
  cases k with
  | iface0 =>
   refine Zx (fun _=>.pure rfl) fun _=>?_;refine Z4 (Z5Q _ _ .iface0 .iface0) ?_;rintro _ _ z _ rfl;exact Zx (fun _=>Zo (by simp)) fun _=>.pure rfl
  | junk _ h1 n1 _=>cases v <;> first | exact absurd rfl (h1 _) | exact absurd rfl n1.1 | exact .pure rfl
  | _=>exact .pure rfl
 | agg h1 q1 =>
  cases k with
  | agg h2 q2 =>
   refine Z0R (Z0R ?_);rw [Z5l,Z4j];refine Zx (fun _=>.pure rfl) fun _=>?_;refine Z4 (Z5Q _ _ (.agg h1 q1) (.agg h2 q2)) ?_;rintro _ _ z _ rfl;exact Zx (fun _=>Zo (by simp)) fun _=>.pure rfl
  | junk _ h1 n1 _=>cases v <;> first | exact absurd rfl (h1 _) | exact absurd rfl n1.1 | exact .pure rfl
  | _=>exact .pure rfl
 | junk _ h1 n1 _=>cases y <;> first | exact absurd rfl (h1 _) | exact absurd rfl n1.1 | exact .pure rfl
 | _=>exact .pure rfl
end
end Go.Proofs.YtfelljbfeoplhaaGreat.Lift
namespace Go.Proofs.YtfelljbfeoplhaaGreat.Lift
open Go
variable [Jk]
section
variable {P:Program} {F:Array Func} {C:Inv} {r:Ren} {α β γ δ:Type} {A:Ren → α → β → Prop} {B:Ren → γ → δ → Prop}
theorem Z6t (d:Nat):∀ t o,cellOfByte (PF P F) d t o = cellOfByte P d t o:=by
 induction d with
 | zero=>exact fun _ _=>rfl
 | succ d ih =>
  intro t o;simp only [cellOfByte,under_pf,Z1I,Z2z,ih]
theorem Zde (d:Nat) (e:TypeId) (n o:Nat) (b:Int):cellAtBytes (PF P F) d e n o b = cellAtBytes P d e n o b:=by
 simp only [cellAtBytes,Z6t,Z3p,Z1I,Z2z]
theorem Z3T {a b:Addr} {x y:Value} (h:AR r a b) (k:VR r x y): SR (PF P F) P C (fun r x y=>∃ a b,x = .pointer (some a) ∧ y = .pointer (some b) ∧ AR r a b) r
  (Builtin.unsafeAdd_ #[] t #[.pointer (some a),x]) (Builtin.unsafeAdd_ #[] t #[.pointer (some b),y]):=by
 have h0:=h
 cases h with
 | @mk b c o s h =>
 unfold Builtin.unsafeAdd_;refine Z4 (Z3r k) ?_;rintro r1 hr1 n _ rfl;refine Zx (fun _=>?_) fun _=>?_
 ·refine Z7G (hr1.1 _ _ h) fun r2 hr2=>?_
  exact .pure ⟨_,_,rfl,rfl,.mk (hr2.1 _ _ (hr1.1 _ _ h))⟩
 ·refine Zx (fun _=>.dead ((Zm (by simp)).bind _)) fun _=>?_
  refine SR.shape (hr1.1 _ _ h) fun s=>?_
  cases s with
  | none=>exact Zo (fun _=>by simp)
  | some s =>
   refine Z0R ?_;simp only [Zde,Z1I,Z4j]
   cases cellAtBytes P P.depth s.1 (s.2 / P.cellsOf s.1) o n with
   | none=>exact Zo (fun _=>by simp)
   | some z=>exact .pure ⟨_,_,rfl,rfl,.mk (hr1.1 _ _ h)⟩
theorem Z1k {t : TypeId} {a b : Addr} {x y : Value} (h : AR r a b) (k : VR r x y) : SR (PF P F) P C VA r (movedNumber t (.pointer (some a)) x) (movedNumber t (.pointer (some b)) y) := by
  unfold movedNumber;refine Zc fun d hd => ?_;have rest : SR (PF P F) P C VA r
    (do let (a, lost) ← behindNumber a
        match ← Builtin.unsafeAdd_ #[] t #[.pointer (some a), x] with
        | .pointer (some b) => asNumber b lost
        | v => pure v)
    (do let (a, lost) ← behindNumber b
        match ← Builtin.unsafeAdd_ #[] t #[.pointer (some a), y] with
        | .pointer (some b) => asNumber b lost
        | v => pure v) := by
    refine Z4 (Z0W h) fun r1 hr1 p q hpq => ?_;obtain ⟨p1, p2⟩ := p;obtain ⟨q1, q2⟩ := q;obtain ⟨hp, rfl⟩ := hpq;refine Z4 (Z3T hp (k.mono hr1)) fun r2 hr2 u v huv => ?_;obtain ⟨a, b, rfl, rfl, q⟩ := huv;exact SR.new (.number _ q) fun r' _ b c hb => .pure (.ptr (.mk hb))
  cases d <;> first | exact rest | exact Zx (fun _ => .dead ((Zm (by simp)).bind _)) (fun h => absurd rfl h)
theorem Zev {a b:Addr}: Dead (PF P F) (Op.twoPlaces a b):=by
 unfold Op.twoPlaces;refine Z29 ?_;have e:(a.block != b.block || decide (a.block ≥ (PF P F).globals.size)) = true:=by simp [Z5G]
 simp only [e,if_true];exact (Zm (by simp)).bind _
theorem Z5X {k:IntKind} {a b:Addr} (h:AR r a b) (n:Int): SR (PF P F) P C VA r (Op.addrMod k a n) (Op.addrMod k b n):=by
 have h0:=h
 cases h with
 | mk h =>
 unfold Op.addrMod;refine SR.shape h fun s=>?_
 cases s with
 | none=>exact Zo (fun _=>by simp)
 | some s =>
  refine Z1m fun i _=>?_;refine Zx (fun _=>.dead ((Zm (by simp)).bind _)) fun _=>?_;refine Z4 (Z5b h0) ?_;rintro _ _ z _ rfl;exact .pure (.int _ _)
theorem Z4x {a b:Addr} {x y:Value} (h:AR r a b) (k:VR r x y): SR (PF P F) P C VA r (movedPointer t (.pointer (some a)) x) (movedPointer t (.pointer (some b)) y):=by
 have h0:=h
 cases h with
 | mk h =>
 unfold movedPointer;refine Z4 (Z52 h) fun r1 hr1 p q hpq=>?_
 rcases hpq with ⟨rfl,rfl⟩ | ⟨a,a',l,rfl,rfl,_⟩
 ·refine SR.imp (Z3T (t:=t) (h0.mono hr1) (k.mono hr1)) ?_
  rintro r2 u v _ ⟨a,b,rfl,rfl,q⟩;exact .ptr q
 ·exact Zx (fun _=>.dead ((Zm (by simp)).bind _)) (fun h=>absurd rfl h)
theorem Z3a {x y:Value} (k:VR r x y): SR (PF P F) P C VA r (Builtin.unsafeAdd_ #[] t #[.pointer none,x]) (Builtin.unsafeAdd_ #[] t #[.pointer none,y]):=by
 unfold Builtin.unsafeAdd_;refine Z4 (Z3r k) ?_;rintro r1 hr1 n _ rfl;refine Zx (fun _=>Zo (by simp)) fun _=>?_;exact Zx (fun _=>.dead ((Zm (by simp)).bind _)) fun _=>Zo (by simp)
theorem Z14 {x y:Value} (k:VR r x y): SR (PF P F) P C VA r (movedNumber t (.pointer none) x) (movedNumber t (.pointer none) y):=by
 unfold movedNumber;refine Zc fun d hd=>?_;have rest:=Z3a (P:=P) (F:=F) (C:=C) (t:=t) k
 cases d <;> first | exact rest | exact Zx (fun _=>.dead ((Zm (by simp)).bind _)) (fun h=>absurd rfl h)
theorem Z41 {x y:Value} (k:VR r x y): SR (PF P F) P C VA r (movedPointer t (.pointer none) x) (movedPointer t (.pointer none) y):=Z3a (t:=t) k
theorem Z5q {f:TypeDesc → Sem α} (h:∀ k,(PF P F).underlying t = some k → Dead (PF P F) (f k)): Dead (PF P F) (underlying t >>= f):=by
 show Dead _ (Sem.program fun p => Sem.bind (match p.underlying t with | some i => pure i | none => stuck "no such type") f);intro w;show ∃ h w', (Sem.bind (match (PF P F).underlying t with | some i => pure i | none => stuck "no such type") f).run (PF P F) w = .halt h w' ∧ Dies h
 cases e:(PF P F).underlying t with
 | none=>exact (Ze.bind _) w
 | some i=>exact h i e w
theorem Z3l (j:Jk.j) (d:Nat) (t:TypeId) (ok:EqOk P d t) (x:Value):Dead (PF P F) (Op.equalIn d t J0 x) ∧ Dead (PF P F) (Op.equalIn d t x J0):=by
 cases d with
 | zero=>exact ⟨Zm (by simp),Zm (by simp)⟩
 | succ d =>
  unfold Op.equalIn
  constructor
  ·refine Z5q fun k hk=>?_
   rw [under_pf] at hk;unfold EqOk at ok;rw [hk] at ok
   cases k <;> first | exact absurd j ok | exact Ze | (cases x <;> first | exact Ze | exact Zm (by simp))
  ·refine Z5q fun k hk=>?_
   rw [under_pf] at hk;unfold EqOk at ok;rw [hk] at ok
   cases k <;> first | exact absurd j ok | exact Ze | (cases x <;> first | exact Ze | exact Zm (by simp) | (rename_i a;cases a <;> first | exact Ze | exact Zm (by simp)) | (rename_i a _ _;cases a <;> exact Ze))
def Ze1 (P:Program) (op:BinOp) (t:TypeId):Prop:=(op = .eql ∨ op = .neq) → EqOk P Op.maxDepth t
theorem Z82 (j:Jk.j) {op:BinOp} (ok:Ze1 P op t) {x:Value}: Dead (PF P F) (binOp op t J0 x):=by
 cases op with
 | eql=>exact (Z3l j _ t (ok (.inl rfl)) x).1.bind _
 | neq=>exact (Z3l j _ t (ok (.inr rfl)) x).1.bind _
 | _=>cases x <;> first | exact Ze | exact Zm (by simp)
theorem Z1C (j:Jk.j) {op:BinOp} (ok:Ze1 P op t) {x:Value}: Dead (PF P F) (binOp op t x J0):=by
 cases op with
 | eql=>cases x <;> exact (Z3l j _ t (ok (.inl rfl)) _).2.bind _
 | neq=>cases x <;> exact (Z3l j _ t (ok (.inr rfl)) _).2.bind _
 | _=>cases x <;> first | exact Ze | exact Zm (by simp) | (rename_i a;cases a <;> first | exact Ze | exact Zm (by simp))
theorem Zem {op : BinOp} {t : TypeId} (ok : Ze1 P op t) {x y u v : Value} (h : VR r x y) (k : VR r u v) : SR (PF P F) P C VA r (binOp op t x u) (binOp op t y v) := by
  cases op with
  | eql =>
    have q : SR (PF P F) P C VA r (do pure (.bool (← Op.equal t x u))) (do pure (.bool (← Op.equal t y v))) :=
      Z4 (Z68 (ok (.inl rfl)) h k) (by rintro _ _ z _ rfl; exact .pure (.bool _))
    cases h with
    | int i n =>
      cases k with
      | int j m => exact Zx (fun _ => Z2) fun _ => Z5a
      | junk j _ _ _ =>
        rcases j with j | rfl
        · exact .dead (Z1C j ok)
        · exact q
      | _ => exact q
    | string a =>
      cases k with
      | string b => exact (Z0Q (op := .eql) : SR (PF P F) P C VA r (Op.stringOp .eql a b) (Op.stringOp .eql a b))
      | junk j _ _ _ =>
        rcases j with j | rfl
        · exact .dead (Z1C j ok)
        · exact q
      | _ => exact q
    | junk j _ _ _ =>
      rcases j with j | rfl
      · exact .dead (Z82 j ok)
      · cases k <;> exact q
    | _ =>
      cases k with
      | junk j _ _ _ =>
        rcases j with j | rfl
        · exact .dead (Z1C j ok)
        · exact q
      | _ => exact q
  | neq =>
    have q : SR (PF P F) P C VA r (do pure (.bool (!(← Op.equal t x u)))) (do pure (.bool (!(← Op.equal t y v)))) :=
      Z4 (Z68 (ok (.inr rfl)) h k) (by rintro _ _ z _ rfl; exact .pure (.bool _))
    cases h with
    | int i n =>
      cases k with
      | int j m => exact Zx (fun _ => Z2) fun _ => Z5a
      | junk j _ _ _ =>
        rcases j with j | rfl
        · exact .dead (Z1C j ok)
        · exact q
      | _ => exact q
    | string a =>
      cases k with
      | string b => exact (Z0Q (op := .neq) : SR (PF P F) P C VA r (Op.stringOp .neq a b) (Op.stringOp .neq a b))
      | junk j _ _ _ =>
        rcases j with j | rfl
        · exact .dead (Z1C j ok)
        · exact q
      | _ => exact q
    | junk j _ _ _ =>
      rcases j with j | rfl
      · exact .dead (Z82 j ok)
      · cases k <;> exact q
    | _ =>
      cases k with
      | junk j _ _ _ =>
        rcases j with j | rfl
        · exact .dead (Z1C j ok)
        · exact q
      | _ => exact q
  | _ =>
    unfold binOp
    cases h with
    | int i n =>
      cases k with
      | int j m => first | exact ZdF | (exact Zx (fun _ => Z2) fun _ => (by first | exact Z4Y | exact ZbM | exact Z5U | exact Z5a))
      | ptr q => first | exact Z1k q (.int _ _) | (refine Z4 (Z0W q) ?_; rintro r1 _ a b ⟨h, _⟩; exact Z5X h _) | exact Zo (fun _ => by simp) | exact Z2
      | ptr0 => first | exact Z14 (.int _ _) | exact Z2 | exact Zo (fun _ => by simp)
      | junk _ _ _ _ => first | exact Z2 | exact Zo (fun _ => by simp)
      | _ => first | exact Z2 | exact Zo (fun _ => by simp)
    | ptr0 =>
      cases k with
      | int j m =>
        have h1 := Z41 (P := P) (F := F) (C := C) (t := t) (r := r) (.int j m);have h2 := Z14 (P := P) (F := F) (C := C) (t := t) (r := r) (.int j m)
        first | exact h2 | exact Z14 (.int _ _) | (refine Zc fun d hd => ?_; cases d <;> first | exact h1 | exact h2) | exact Zo (fun _ => by simp) | exact Z2
      | _ => first | exact Z2 | exact Zo (fun _ => by simp)
    | string a =>
      cases k with
      | string b => exact Z0Q
      | _ => first | exact Z2 | exact Zo (fun _ => by simp)
    | ptr q =>
      cases k with
      | int j m => first | (refine Z4 (Z0W q) ?_; rintro r1 _ a b ⟨h, _⟩; exact Z5X h _) | exact Z1k q (.int _ _) | (refine Zc fun d hd => ?_; cases d <;> first | exact Z4x q (.int _ _) | exact Z1k q (.int _ _)) | exact Zo (fun _ => by simp) | exact Z2
      | ptr q2 => first | exact Zo (fun _ => by simp) | exact Z2 | (refine Z4 (Z0W q) ?_; rintro r1 hr1 a b ⟨h, _⟩; refine Z4 (Z0W (q2.mono hr1)) ?_; rintro r2 hr2 a2 b2 ⟨h2, _⟩; exact .dead (Zev.bind _))
      | _ => first | exact Zo (fun _ => by simp) | exact Z2
    | _ => cases k <;> first | exact Z2 | exact Zo (fun _ => by simp)
end
end Go.Proofs.YtfelljbfeoplhaaGreat.Lift
namespace Go.Proofs.YtfelljbfeoplhaaGreat.Lift
open Go
variable [Jk]
section
variable {P:Program} {F:Array Func} {C:Inv} {r:Ren} {α β γ δ:Type} {A:Ren → α → β → Prop} {B:Ren → γ → δ → Prop}
theorem Z85 {b c:Nat} {f:Obj → Sem γ} {g:Obj → Sem δ} (h:r b = some c) (t:∀ r',r.le r' → ∀ o o',OR C r' o o' → SR (PF P F) P C B r' (f o) (g o')): SR (PF P F) P C B r (getObj b >>= f) (getObj c >>= g):=SR.getObj h t
theorem Z37 {why:String} {f:α → Sem γ} {y:Sem δ}: SR (PF P F) P C B r (stuck why >>= f) y:=.dead (Ze.bind _)
theorem AR.beq (hi:Inj r) {a a' b b':Addr} (h:AR r a a') (k:AR r b b'): (a == b) = (a' == b'):=by
 cases h with
 | @mk x y o s h =>
 cases k with
 | @mk x2 y2 o2 s2 k =>
 rw [Bool.eq_iff_iff];simp only [beq_iff_eq,Addr.mk.injEq]
 constructor
 ·rintro ⟨rfl,q⟩
  exact ⟨Option.some.inj (h.symm.trans k),q⟩
 ·rintro ⟨rfl,q⟩
  exact ⟨hi _ _ _ h k,q⟩
theorem Zhf {xs xs' ys ys':List Value} (p:Value → Value → Bool) (q:∀ x x' y y',VR r x x' → VR r y y' → p x y = p x' y') (h:Lis (VR r) xs xs') (k:Lis (VR r) ys ys'):
  (xs.zip ys).all (fun (x,y)=>p x y) = (xs'.zip ys').all (fun (x,y)=>p x y):=by
 induction h generalizing ys ys' with
 | nil=>rfl
 | cons a _ ih =>
  cases k with
  | nil=>rfl
  | cons b t=>simp only [List.zip_cons_cons,List.all_cons,q _ _ _ _ a b,ih t]
theorem Z8y (nj:¬ Jk.j) (hi:Inj r) (n:Nat):∀ {x x' y y':Value},VR r x x' → VR r y y' → Instr.sameBits n x y = Instr.sameBits n x' y':=by
 induction n with
 | zero =>
  intro x x' y y' h k
  cases h with
  | ptr q =>
   cases k with
   | ptr q2 =>
    have:=AR.beq hi q q2;simp only [Instr.sameBits];rw [Bool.eq_iff_iff] at this ⊢;simpa using this
   | junk j _ _ _ =>
    rcases j with j | rfl
    ·exact absurd j nj
    ·rfl
   | _=>rfl
  | junk j _ _ _ =>
   rcases j with j | rfl
   ·exact absurd j nj
   ·cases k <;> first | rfl | (rename_i j _ _ _;rcases j with j | rfl <;> first | exact absurd j nj | rfl)
  | _=>cases k <;> first | rfl | (rename_i j _ _ _;rcases j with j | rfl <;> first | exact absurd j nj | rfl)
 | succ n ih =>
  intro x x' y y' h k
  cases h with
  | iface t q =>
   cases k with
   | iface u q2=>simp only [Instr.sameBits,ih q q2]
   | junk j _ _ _ =>
    rcases j with j | rfl
    ·exact absurd j nj
    ·rfl
   | _=>rfl
  | agg h1 q1 =>
   cases k with
   | agg h2 q2=>simp only [Instr.sameBits,h1,h2,Zhf _ (fun _ _ _ _ a b=>ih a b) (Arr.lis ⟨h1,q1⟩) (Arr.lis ⟨h2,q2⟩)]
   | junk j _ _ _ =>
    rcases j with j | rfl
    ·exact absurd j nj
    ·rfl
   | _=>rfl
  | ptr q =>
   cases k with
   | ptr q2 =>
    have:=AR.beq hi q q2;simp only [Instr.sameBits];rw [Bool.eq_iff_iff] at this ⊢;simpa using this
   | junk j _ _ _ =>
    rcases j with j | rfl
    ·exact absurd j nj
    ·rfl
   | _=>rfl
  | junk j _ _ _ =>
   rcases j with j | rfl
   ·exact absurd j nj
   ·cases k <;> first | rfl | (rename_i j _ _ _;rcases j with j | rfl <;> first | exact absurd j nj | rfl)
  | _=>cases k <;> first | rfl | (rename_i j _ _ _;rcases j with j | rfl <;> first | exact absurd j nj | rfl)
def OpV (r:Ren):Option (Nat × Value) → Option (Nat × Value) → Prop
 | none,none=>True
 | some p,some q=>p.1 = q.1 ∧ VR r p.2 q.2
 | _,_=>False
theorem Z8d {x x' y y':Value} (nj:¬ Jk.j) (hi:Inj r) (h:VR r x x') (k:VR r y y'): SR (PF P F) P C VA r (Instr.keyThatStays x y) (Instr.keyThatStays x' y'):=by
 unfold Instr.keyThatStays;rw [Z8y nj hi _ h k];refine Zx (fun _=>.pure k) fun _=>Z3i fun n=>?_
 split
 ·exact .pure k
 ·exact .pure h
def CkAt (P:Program) (F:Array Func) (C:Inv) (e:Bool) (d:Nat):Prop:=∀ (t:TypeId) {r:Ren} {x y:Value},EqOk P d t → VR r x y → SR (PF P F) P C EQ r (Instr.checkKey e d t x) (Instr.checkKey e d t y)
theorem ZeM {b : Bool} {d : Nat} (ih : CkAt P F C b d) {elem : TypeId} (ok : EqOk P d elem) {len : Nat} {xs xs' : Array Value} (h : VRs r xs xs') :
    SR (PF P F) P C EQ r
      (do for i in [0:len] do Instr.checkKey b d elem (← part elem xs (i * (← sizeOf elem))))
      (do for i in [0:len] do Instr.checkKey b d elem (← part elem xs' (i * (← sizeOf elem)))) := by
  simp only [Std.Legacy.Range.forIn_eq_forIn_range'];refine Z4 (Z2t _ _ fun i _ s r' hr => ?_) ?_
  · refine ZG fun n => ?_
    refine Z4 (Z12 (VRs.mono hr h) _) fun r1 hr1 a b q => ?_;refine Z4 (ih _ ok q) ?_;rintro r3 hr3 z _ rfl;exact .pure rfl
  · rintro r1 hr1 z _ rfl
    exact .pure rfl
theorem Ze9 {b : Bool} {d : Nat} (ih : CkAt P F C b d) {fs : Array Field} (ok : ∀ f ∈ fs, EqOk P d f.type) {xs xs' : Array Value} (h : VRs r xs xs') :
    SR (PF P F) P C EQ r
      (do for f in fs do
            if f.name ≠ "_" then Instr.checkKey b d f.type (← part f.type xs f.offset))
      (do for f in fs do
            if f.name ≠ "_" then Instr.checkKey b d f.type (← part f.type xs' f.offset)) := by
  simp only [← Array.forIn_toList];refine Z4 (Z2t _ _ fun f hf s r' hr => ?_) ?_
  · refine Zx (fun _ => ?_) fun _ => .pure rfl
    refine Z4 (Z12 (VRs.mono hr h) _) fun r1 hr1 a b q => ?_;refine Z4 (ih _ (ok f (by simpa using hf)) q) ?_;rintro r3 hr3 z _ rfl;exact .pure rfl
  · rintro r1 hr1 z _ rfl
    exact .pure rfl
theorem Z5c {b:Bool} (d:Nat): CkAt P F C b d:=by
 induction d with
 | zero=>exact fun t r x y _ _=>Zo (by simp)
 | succ d ih =>
  intro t r x y ok hx;unfold Instr.checkKey;refine Zc fun k hk=>?_;unfold EqOk at ok;rw [hk] at ok
  cases k with
  | array n e =>
   cases hx with
   | agg h1 q1=>exact ZeM ih ok ⟨h1,q1⟩
   | _=>exact Z2
  | struct fs =>
   cases hx with
   | agg h1 q1=>exact Ze9 ih ok ⟨h1,q1⟩
   | _=>exact Z2
  | _=>first | exact ok.elim | exact .pure rfl
def Slw:Value → Prop
 | .int _ _=>False
 | .string _=>False
 | .bool _=>False
 | _=>True
theorem Zfj (nj:¬ Jk.j) {x x':Value} (h:VR r x x'): x = x' ∨ (Slw x ∧ Slw x'):=by
 cases h with
 | junk j _ _ _ =>
  rcases j with j | rfl
  ·exact absurd j nj
  ·exact .inl rfl
 | _=>first | exact .inl rfl | exact .inr ⟨trivial,trivial⟩
theorem Z1W {d:TypeDesc} {x y:Value} (h:Slw x ∨ Slw y): Instr.sameNow d x y = none:=by
 cases d <;> first | rfl | (cases x <;> first | rfl | (cases y <;> first | rfl | exact (h.elim (fun q=>False.elim q) fun q=>False.elim q)))
theorem Zal (nj:¬ Jk.j) {d:TypeDesc} {x x' y y':Value} (h:VR r x x') (k:VR r y y'): Instr.sameNow d x y = Instr.sameNow d x' y':=by
 rcases Zfj nj h with rfl | ⟨a,b⟩
 ·rcases Zfj nj k with rfl | ⟨a,b⟩
  ·rfl
  ·rw [Z1W (.inr a),Z1W (.inr b)]
 ·rw [Z1W (.inl a),Z1W (.inl b)]
theorem Zb0 (nj:¬ Jk.j) {d:TypeDesc} {x x':Value} (h:VR r x x') {es es':List MapEntry} (k:Lis (ER r) es es') (i:Nat):
  (Instr.findNow d x es i = none ∧ Instr.findNow d x' es' i = none) ∨ ∃ p q,Instr.findNow d x es i = some p ∧ Instr.findNow d x' es' i = some q ∧ OpV r p q:=by
 induction k generalizing i with
 | nil=>exact .inr ⟨none,none,rfl,rfl,trivial⟩
 | cons a _ ih =>
  unfold Instr.findNow;rw [Zal nj h a.1]
  split
  ·exact .inr ⟨_,_,rfl,rfl,rfl,a.2.1⟩
  ·exact ih _
  ·exact .inl ⟨rfl,rfl⟩
theorem Z6T (ok:EqOk P Op.maxDepth t) {es es':List MapEntry} {r:Ren} (k:Lis (ER r) es es'): ∀ {x x':Value} (i:Nat),VR r x x' → SR (PF P F) P C OpV r (Instr.findAsking t x es i) (Instr.findAsking t x' es' i):=by
 induction es generalizing es' r with
 | nil=>cases k;exact fun i _=>.pure trivial
 | cons e es ih =>
  cases k with
  | cons a k =>
  intro x x' i h;unfold Instr.findAsking;refine Z4 (Z68 ok h a.1) ?_;rintro r1 hr1 z _ rfl;refine Zx (fun _=>.pure ⟨rfl,a.2.1.mono hr1⟩) fun _=>?_;exact ih (k.imp fun _ _=>ER.mono hr1) _ (h.mono hr1)
theorem Z5S (nj:¬ Jk.j) (ok:EqOk P Op.maxDepth t) {x x':Value} (h:VR r x x') {es es':List MapEntry} (k:Lis (ER r) es es'): SR (PF P F) P C OpV r (Instr.findKey t x es) (Instr.findKey t x' es'):=by
 unfold Instr.findKey;refine Zc fun d hd=>?_
 rcases Zb0 nj (d:=d) h k 0 with ⟨a,b⟩ | ⟨p,q,a,b,c⟩
 ·rw [a,b];exact Z6T ok k _ h
 ·rw [a,b];exact .pure c
def Zcp (P:Program) (t:TypeId):Prop:=¬ Jk.j ∧ ∀ k e,P.underlying t = some (.map k e) → EqOk P Op.maxDepth k ∧ ZOk P e
theorem ZbB {t : TypeId} (ok : Zcp P t) {x x' i i' : Value} (h : VR r x x') (k : VR r i i') (c : Bool) : SR (PF P F) P C VA r (Instr.lookup t x i c) (Instr.lookup t x' i' c) := by
  unfold Instr.lookup;refine Zc fun d hd => ?_
  cases d <;> try exact Z2
  rename_i key elem;obtain ⟨ok1, ok2⟩ := ok.2 _ _ hd;have nj := ok.1;have rest : ∀ {r' : Ren} (es es' : Array MapEntry), r.le r' → Arr (ER r') es es' → SR (PF P F) P C VA r'
      (do Instr.checkKey es.isEmpty 10000 key i
          let (v, ok) ← match ← Instr.findKey key i es.toList with
            | some (_, v) => pure (v, true)
            | none => pure (← zeroValue elem, false)
          pure (if c then .tuple #[v, .bool ok] else v))
      (do Instr.checkKey es'.isEmpty 10000 key i'
          let (v, ok) ← match ← Instr.findKey key i' es'.toList with
            | some (_, v) => pure (v, true)
            | none => pure (← zeroValue elem, false)
          pure (if c then .tuple #[v, .bool ok] else v)) := by
    intro r' es es' hr he;have e : es.isEmpty = es'.isEmpty := by simp only [Array.isEmpty, he.1]
    rw [e];refine Z4 (Z5c 10000 _ ok1 (k.mono hr)) ?_;rintro r1 hr1 _ _ _;refine Z4 (Z5S nj ok1 (k.mono (Ren.le_trans hr hr1)) (he.imp fun _ _ => ER.mono hr1).lis) fun r2 hr2 p q hpq => ?_;have out : ∀ {r3 : Ren} {v v' : Value} (b : Bool), VR r3 v v' → SR (PF P F) P C VA r3 (pure (if c then .tuple #[v, .bool b] else v)) (pure (if c then .tuple #[v', .bool b] else v')) := by
      intro r3 v v' b hv
      cases c
      · exact .pure hv
      · exact .pure (.tupA (Arr.two hv (.bool _)))
    cases p with
    | none =>
      cases q with
      | none => simp only [bind_assoc, pure_bind]; exact Z2T ok2 fun v hv => out _ (hv _)
      | some q => exact hpq.elim
    | some p =>
      cases q with
      | none => exact hpq.elim
      | some q =>
        obtain ⟨p1, p2⟩ := p;obtain ⟨q1, q2⟩ := q;simp only [pure_bind];exact out _ hpq.2
  cases h <;> try exact .dead (Ze.bind _)
  · simp only [pure_bind]; exact rest _ _ (Ren.le_refl _) .nil
  · rename_i q
    simp only [bind_assoc];refine Z85 q fun r' hr o o' ho => ?_
    cases ho with
    | map n he =>
      simp only [pure_bind];exact rest _ _ hr he
    | _ => exact Z37
theorem ZiL {es es':Array MapEntry} (h:Arr (ER r) es es') (i:Nat) {f g:MapEntry → MapEntry} (k:∀ a b,ER r a b → ER r (f a) (g b)):Arr (ER r) (es.modify i f) (es'.modify i g):=by
 refine ⟨by simpa using h.1,fun j a b ha hb=>?_⟩;rw [Array.getElem?_modify] at ha hb
 split at ha
 ·rename_i e
  rw [if_pos e] at hb;obtain ⟨x,hx,rfl⟩:=Option.map_eq_some_iff.1 ha;obtain ⟨y,hy,rfl⟩:=Option.map_eq_some_iff.1 hb;exact k _ _ (h.2 j x y hx hy)
 ·rename_i e
  rw [if_neg e] at hb;exact h.2 j a b ha hb
theorem Z7z (hi:Inj r) (ok:Zcp P t) {x x' i i' v v':Value} (h:VR r x x') (k:VR r i i') (hv:VR r v v'): SR (PF P F) P C EQ r (Instr.mapUpdate t x i v) (Instr.mapUpdate t x' i' v'):=by
 unfold Instr.mapUpdate;refine Zc fun d hd=>?_
 cases d <;> try exact Z2
 rename_i key elem;obtain ⟨ok1,ok2⟩:=ok.2 _ _ hd;have nj:=ok.1
 cases h with
 | map0=>exact ZeR
 | map q =>
  refine Z85 q fun r1 hr1 o o' ho=>?_
  cases ho with
  | @map es es' n he =>
   refine Z4 (Z5c 10000 _ ok1 (k.mono hr1)) ?_;rintro r2 hr2 _ _ _;refine Z4 (Z5S nj ok1 (k.mono (Ren.le_trans hr1 hr2)) (he.imp fun _ _=>ER.mono hr2).lis) fun r3 hr3 p q' hpq=>?_;have hr:=Ren.le_trans hr1 (Ren.le_trans hr2 hr3);have he3:=he.imp fun _ _=>ER.mono (Ren.le_trans hr2 hr3)
   cases p with
   | none =>
    cases q' with
    | none=>exact .setObj (hr.1 _ _ q) (.map _ (he3.push ⟨k.mono hr,hv.mono hr,rfl⟩)) (by simp) (.pure rfl)
    | some q'=>exact hpq.elim
   | some p =>
    cases q' with
    | none=>exact hpq.elim
    | some q' =>
     obtain ⟨p1,p2⟩:=p;obtain ⟨q1,q2⟩:=q';obtain ⟨e,_⟩:=hpq;obtain rfl:p1 = q1:=e;have hk:VR r3 ((es[p1]?.map (·.key)).getD i) ((es'[p1]?.map (·.key)).getD i'):=by
      rcases he3.get p1 with ⟨a,b⟩ | ⟨x,y,a,b,c⟩
      ·rw [a,b];exact k.mono hr
      ·rw [a,b];exact c.1
     refine Z4 (Z8d nj (hr.2 hi) hk (k.mono hr)) fun r4 hr4 z z' hz=>?_;have hr5:=Ren.le_trans hr hr4;exact .setObj (hr5.1 _ _ q) (.map _ (ZiL (he3.imp fun _ _=>ER.mono hr4) _ fun a b hab=>⟨hz,hv.mono hr5,hab.2.2⟩)) (by simp) (.pure rfl)
  | _=>exact Z2
 | _=>exact Z2
end
end Go.Proofs.YtfelljbfeoplhaaGreat.Lift
namespace Go.Proofs.YtfelljbfeoplhaaGreat.Lift
open Go
variable [Jk]
section
variable {P:Program} {F:Array Func} {C:Inv} {r:Ren} {α β γ δ:Type} {A:Ren → α → β → Prop} {B:Ren → γ → δ → Prop}
theorem Z79 {t u : TypeId} (hz : ZOk P u) {x y : Value} (h : VR r x y) : SR (PF P F) P C VA r (Instr.typeAssert x t u true) (Instr.typeAssert y t u true) := by
  have fails : SR (PF P F) P C VA r (do pure (.tuple #[← zeroValue u, .bool false])) (do pure (.tuple #[← zeroValue u, .bool false])) :=
    Z2T hz fun v hv => .pure (.tupA (Arr.two (hv r) (.bool _)))
  have holds : ∀ {a b : Value}, VR r a b → SR (PF P F) P C VA r (pure (.tuple #[a, .bool true])) (pure (.tuple #[b, .bool true])) := fun q => .pure (.tupA (Arr.two q (.bool _)));unfold Instr.typeAssert;refine Zc fun d hd => ?_
  cases d with
  | interface ms =>
    cases h with
    | iface0 => exact fails
    | iface w q =>
      refine Z1m fun i _ => ?_
      cases Instr.missingMethod ms i.methods with
      | none => exact holds (.iface w q)
      | some m => exact fails
    | _ => exact Z2
  | _ =>
    cases h with
    | iface0 => exact fails
    | iface w q => exact Zx (fun _ => holds q) fun _ => fails
    | _ => exact Z2
theorem Z47 {x y:Value} (h:VR r x y): SR (PF P F) P C EQ r (Builtin.lenOf x) (Builtin.lenOf y):=by
 cases h <;> first | exact Z2 | exact .pure rfl
theorem ZX {x y:Value} (h:VR r x y) (n m:Nat): SR (PF P F) P C VRs r (Builtin.firstCells n m x) (Builtin.firstCells n m y):=by
 cases h with
 | sl0 a b=>exact .pure .nil
 | sl a b q=>exact Z3X q _
 | string s =>
  refine .pure (Arr.map (R:=fun a b=>a = b) ⟨rfl,fun i x y a b=>?_⟩ fun x y e=>?_)
  ·rw [a] at b;exact Option.some.inj b
  ·subst e;exact .int _ _
 | _=>exact Z2
theorem Z3B {s:Sem α} {f:α → Sem β} (h:∀ w,∃ a w',s.run (PF P F) w = .ok a w') (k:∀ a,Dead (PF P F) (f a)):Dead (PF P F) (s >>= f):=fun w=>by
 obtain ⟨a,w',e⟩:=h w;obtain ⟨x,w2,e2,d⟩:=k a w';refine ⟨x,w2,?_,d⟩;show (Sem.bind s f).run _ _ = _;rw [Sem.run_bind',e];exact e2
def Calm (Q:Program) (s:Sem α):Prop:=∀ w,∃ a w',s.run Q w = .ok a w'
theorem Z1H (a:α):Calm (PF P F) (pure a:Sem α):=fun w=>⟨a,w,rfl⟩
theorem Z3m {s:Sem α} {f:α → Sem β} (h:Calm (PF P F) s) (k:∀ a,Calm (PF P F) (f a)):Calm (PF P F) (s >>= f):=fun w=>by
 obtain ⟨a,w',e⟩:=h w;obtain ⟨b,w2,e2⟩:=k a w';refine ⟨b,w2,?_⟩;show (Sem.bind s f).run _ _ = _;rw [Sem.run_bind',e];exact e2
theorem Zb9 (b:Nat):Calm (PF P F) (shape b):=fun w=>⟨_,w,rfl⟩
theorem Z8T (a:Addr):Calm (PF P F) (frozen a):=fun w=>⟨_,w,rfl⟩
theorem Z5H (a:Addr) (n:Nat):Calm (PF P F) (Builtin.holdsCells a n):=by
 unfold Builtin.holdsCells;refine Z3m (Zb9 _) fun s=>?_
 cases s <;> exact Z1H _
theorem ZaG (a b c : Nat) (x : Option Addr) (y : Value) : Calm (PF P F) (Builtin.mayShare a b c x y) := by
  have tail : Calm (PF P F) (match y with
      | .slice (some b) _ _ => do pure (!(← Builtin.holdsCells b (c * a)) || x.any (·.block == b.block))
      | _ => pure false : Sem Bool) := by
    cases y with
    | slice b n m =>
      cases b with
      | none => exact Z1H _
      | some b => exact Z3m (Z5H _ _) fun _ => Z1H _
    | _ => exact Z1H _
  unfold Builtin.mayShare
  cases x with
  | none =>
    simp only [pure_bind];exact tail
  | some x =>
    simp only [bind_assoc];refine Z3m (Z5H _ _) fun z => ?_
    cases z
    · simp only [pure_bind]
      exact Z1H (P := P) (F := F) _
    · simp only [bind_assoc, pure_bind]
      refine Z3m (Z8T _) fun z => ?_
      cases z
      · exact tail
      · exact Z1H (P := P) (F := F) _
theorem Z35 {elem : TypeId} (hz : ZOk P elem) {size m sCap need : Nat} {s s' x x' : Value} (hs : VR r s s') (h : VR r x x') (k : Nat) :
    SR (PF P F) P C VA r
      (do let newCap ← choose (.appendCap need sCap elem)
          askRoom (newCap * (← typeInfo elem).bytes)
          let old ← Builtin.firstCells size m s
          let new ← Builtin.firstCells size k x
          let rest := Builtin.zeroCells (← zeroValue elem).cells (newCap - need)
          pure (.slice (some (← newRow elem (old ++ new ++ rest))) need newCap))
      (do let newCap ← choose (.appendCap need sCap elem)
          askRoom (newCap * (← typeInfo elem).bytes)
          let old ← Builtin.firstCells size m s'
          let new ← Builtin.firstCells size k x'
          let rest := Builtin.zeroCells (← zeroValue elem).cells (newCap - need)
          pure (.slice (some (← newRow elem (old ++ new ++ rest))) need newCap)) := by
  refine Z3i fun c => ?_;refine Z1m fun i _ => ?_;refine Z4 Z5A ?_;rintro r1 hr1 _ _ _;refine Z4 (ZX (hs.mono hr1) _ _) fun r2 hr2 a b hab => ?_;refine Z4 (ZX (h.mono (Ren.le_trans hr1 hr2)) _ _) fun r3 hr3 a2 b2 hab2 => ?_;refine Z2T hz fun v hv => ?_;exact Z4 (Z26 (((VRs.mono hr3 hab).append hab2).append (Z6h (VR.arr1 hv) _))) fun _ _ a b q => .pure (.sl _ _ q)
def Zja (P:Program) (ts:Array TypeId):Prop:=
 (∀ t,ts[1]? = some t → (∃ e,P.underlying t = some (.slice e)) ∨ P.underlying t = some .string) ∧ ∀ t e,ts[0]? = some t → P.underlying t = some (.slice e) → ZOk P e
theorem Zcf {ts : Array TypeId} (ok : Zja P ts) {t : TypeId} {xs ys : Array Value} (h : VRs r xs ys) : SR (PF P F) P C VA r (Builtin.append_ ts t xs) (Builtin.append_ ts t ys) := by
  unfold Builtin.append_
  cases e0 : ts[0]? with
  | none => exact Z2
  | some st =>
  rcases h.get 0 with ⟨a0, b0⟩ | ⟨s, s', a0, b0, hs⟩
  · simp only [a0, b0]; exact Z2
  rcases h.get 1 with ⟨a1, b1⟩ | ⟨x, x', a1, b1, hx⟩
  · simp only [a0, b0, a1, b1]; exact Z2
  simp only [a0, b0, a1, b1];refine Zc fun d hd => ?_
  cases d <;> try exact Z2
  rename_i elem;have hz := ok.2 _ _ e0 hd
  have huge : ∀ (size sLen n : Nat) (base : Option Addr) (x : Value) (w : Unit → Sem Value), Dead (PF P F) ((do
      let b ← Builtin.mayShare size sLen n base x
      if (!b) = true then do
          mark Mark.noRoom
          unsupported (Unsupported.resourceLimit "append: a slice or a string whose bytes no memory bears")
        else unsupported (Unsupported.resourceLimit "append: a slice or a string whose bytes no memory bears")) >>= w) := by
    intro size sLen n base x w;refine (Z3B (ZaG _ _ _ _ _) fun b => ?_).bind _
    cases b
    · exact Z3B (fun w => ⟨(), w, rfl⟩) fun _ => Zm (by simp)
    · exact Zm (by simp)
  have flat : ∀ {f g : Bool → Sem Value}, SR (PF P F) P C VA r (f false) (g false) →
      SR (PF P F) P C VA r (match ts[1]? with | some xType => (underlying xType >>= fun d => (pure (match d with | .int _ => true | _ => false) : Sem Bool) >>= f) | none => (pure false : Sem Bool) >>= f)
        (match ts[1]? with | some xType => (underlying xType >>= fun d => (pure (match d with | .int _ => true | _ => false) : Sem Bool) >>= g) | none => (pure false : Sem Bool) >>= g) := by
    intro f g h
    cases e1 : ts[1]? with
    | none => exact h
    | some t1 =>
      refine Zc fun d1 hd1 => ?_
      rcases ok.1 t1 e1 with ⟨e, q⟩ | q
      · obtain rfl : d1 = .slice e := Option.some.inj (hd1.symm.trans q)
        exact h
      · obtain rfl : d1 = .string := Option.some.inj (hd1.symm.trans q)
        exact h
  cases hs with
  | sl0 sLen sCap =>
    refine ZG fun size => ?_;refine flat ?_;simp only [pure_bind, Bool.false_eq_true, if_false, Bool.not_false, if_true, false_or];refine Z4 (Z47 hx) ?_;rintro r1 hr1 n _ rfl;refine Zx (fun _ => Z4 (ZX (hx.mono hr1) _ _) fun _ _ _ _ _ => .pure (.sl0 _ _)) fun _ => ?_;refine Z1m fun i _ => ?_;refine Zx (fun _ => Z3C Z0H) fun _ => ?_;refine Z1m fun i2 _ => ?_;exact Zx (fun _ => .dead (huge _ _ _ _ _ _)) fun _ => Z35 hz (.sl0 _ _) (hx.mono hr1) _
  | sl sLen sCap q =>
    refine ZG fun size => ?_;refine flat ?_;simp only [pure_bind, Bool.false_eq_true, if_false, Bool.not_false, if_true, false_or];refine Z4 (Z47 hx) ?_;rintro r1 hr1 n _ rfl;refine Zx (fun _ => Z4 (ZX (hx.mono hr1) _ _) fun r2 hr2 u v huv => ?_) fun _ => ?_
    · refine Z4 (Z1Y huv.lis ((q.mono (Ren.le_trans hr1 hr2)).add _) 0) fun r3 hr3 _ _ _ => ?_
      exact .pure (.sl _ _ (q.mono (Ren.le_trans hr1 (Ren.le_trans hr2 hr3))))
    refine Z1m fun i _ => ?_;refine Zx (fun _ => Z3C Z0H) fun _ => ?_;refine Z1m fun i2 _ => ?_;exact Zx (fun _ => .dead (huge _ _ _ _ _ _)) fun _ => Z35 hz (.sl _ _ (q.mono hr1)) (hx.mono hr1) _
  | _ => exact Z2
theorem Zgx {ts:Array TypeId} {xs ys:Array Value} (h:VRs r xs ys): SR (PF P F) P C VA r (Builtin.copy_ ts t xs) (Builtin.copy_ ts t ys):=by
 unfold Builtin.copy_
 cases e0:ts[0]? with
 | none=>exact Z2
 | some st =>
 rcases h.get 0 with ⟨a0,b0⟩ | ⟨s,s',a0,b0,hs⟩
 ·simp only [a0,b0];exact Z2
 rcases h.get 1 with ⟨a1,b1⟩ | ⟨x,x',a1,b1,hx⟩
 ·simp only [a0,b0,a1,b1];exact Z2
 simp only [a0,b0,a1,b1];refine Zc fun d hd=>?_
 cases d <;> try exact Z2
 cases hs with
 | sl0 n c =>
  refine Z4 (Z47 hx) ?_;rintro r1 hr1 n _ rfl;refine ZG fun m=>?_;exact Z4 (ZX (hx.mono hr1) _ _) fun _ _ _ _ _=>.pure (.int _ _)
 | sl n c q =>
  refine Z4 (Z47 hx) ?_;rintro r1 hr1 n _ rfl;refine ZG fun m=>?_;refine Z4 (ZX (hx.mono hr1) _ _) fun r2 hr2 u v huv=>?_;exact Z4 (Z1Y huv.lis (q.mono (Ren.le_trans hr1 hr2)) 0) fun _ _ _ _ _=>.pure (.int _ _)
 | _=>exact Z2
theorem Zjx {ts:Array TypeId} {xs ys:Array Value} (h:VRs r xs ys): SR (PF P F) P C VA r (Builtin.cap_ ts t xs) (Builtin.cap_ ts t ys):=by
 unfold Builtin.cap_
 cases e0:ts[0]? with
 | none=>exact Z2
 | some st =>
 rcases h.get 0 with ⟨a0,b0⟩ | ⟨s,s',a0,b0,hs⟩
 ·simp only [a0,b0];exact Z2
 simp only [a0,b0];refine Zc fun d hd=>?_
 cases d with
 | array n e=>exact .pure (.int _ _)
 | pointer e =>
  refine Zc fun d2 hd2=>?_
  cases d2 <;> first | exact .pure (.int _ _) | exact Z2
 | slice e=>cases hs <;> first | exact .pure (.int _ _) | exact Z2
 | chan e f=>cases hs <;> exact Z2
 | _=>exact Z2
theorem ZjS {ts:Array TypeId} {xs ys:Array Value} (h:VRs r xs ys): SR (PF P F) P C VA r (Builtin.len_ ts t xs) (Builtin.len_ ts t ys):=by
 unfold Builtin.len_
 cases e0:ts[0]? with
 | none=>exact Z2
 | some st =>
 rcases h.get 0 with ⟨a0,b0⟩ | ⟨s,s',a0,b0,hs⟩
 ·simp only [a0,b0];exact Z2
 simp only [a0,b0];refine Zc fun d hd=>?_
 cases d with
 | array n e=>exact .pure (.int _ _)
 | pointer e =>
  refine Zc fun d2 hd2=>?_
  cases d2 <;> first | exact Z2 | exact .pure (.int _ _)
 | map k e =>
  cases hs with
  | map0=>exact .pure (.int _ _)
  | map q =>
   refine Z85 q fun r1 hr1 o o' ho=>?_
   cases ho with
   | map n he =>
    have e:=he.1;simp only [e];exact .pure (.int _ _)
   | _=>exact Z2
  | _=>exact Z2
 | _=>cases hs <;> first | exact Z2 | exact .pure (.int _ _)
theorem Zh2 {x y u v:Value} (h:VR r x y) (k:VR r u v): SR (PF P F) P C VA r (Builtin.min2 x u) (Builtin.min2 y v):=by
 cases h with
 | int i n=>cases k <;> first | exact .pure (.int _ _) | exact Z2 | exact Zo (by simp)
 | string s =>
  cases k with
  | string s2=>exact Z4 Z0Q fun _ _ a b q=>Z4 (Z4V q) (by rintro _ _ z _ rfl;exact .pure (.string _))
  | _=>first | exact Z2 | exact Zo (by simp)
 | _=>cases k <;> first | exact Z2 | exact Zo (by simp)
theorem ZgK {x y u v:Value} (h:VR r x y) (k:VR r u v): SR (PF P F) P C VA r (Builtin.max2 x u) (Builtin.max2 y v):=by
 cases h with
 | int i n=>cases k <;> first | exact .pure (.int _ _) | exact Z2 | exact Zo (by simp)
 | string s =>
  cases k with
  | string s2=>exact Z4 Z0Q fun _ _ a b q=>Z4 (Z4V q) (by rintro _ _ z _ rfl;exact .pure (.string _))
  | _=>first | exact Z2 | exact Zo (by simp)
 | _=>cases k <;> first | exact Z2 | exact Zo (by simp)
theorem Z9r {f:Value → Value → Sem Value} (hf:∀ {r:Ren} {x y u v:Value},VR r x y → VR r u v → SR (PF P F) P C VA r (f x u) (f y v)) {xs ys:List Value} {r:Ren} (h:Lis (VR r) xs ys):
  ∀ {x y:Value},VR r x y → SR (PF P F) P C VA r (xs.foldlM f x) (ys.foldlM f y):=by
 induction xs generalizing ys r with
 | nil=>cases h;exact fun q=>.pure q
 | cons a xs ih =>
  cases h with
  | cons a t =>
  intro x y q;simp only [List.foldlM_cons];exact Z4 (hf q a) fun r1 hr1 u v huv=>ih (t.imp fun _ _=>VR.mono hr1) huv
theorem Zjt {ts:Array TypeId} {xs ys:Array Value} (h:VRs r xs ys): SR (PF P F) P C VA r (Builtin.min_ ts t xs) (Builtin.min_ ts t ys):=by
 unfold Builtin.min_;have:=h.lis;generalize xs.toList = l at this ⊢;generalize ys.toList = l' at this ⊢
 cases this with
 | nil=>exact Z2
 | cons a t=>exact Z9r Zh2 t a
theorem Zjr {ts:Array TypeId} {xs ys:Array Value} (h:VRs r xs ys): SR (PF P F) P C VA r (Builtin.max_ ts t xs) (Builtin.max_ ts t ys):=by
 unfold Builtin.max_;have:=h.lis;generalize xs.toList = l at this ⊢;generalize ys.toList = l' at this ⊢
 cases this with
 | nil=>exact Z2
 | cons a t=>exact Z9r ZgK t a
theorem ZaU {x y:Value} (h:VR r x y): SR (PF P F) P C VA r (Instr.panic x) (Instr.panic y):=by
 cases h with
 | iface t q=>exact .panic (.iface t q)
 | iface0 =>
  refine Z4 (A:=EQ) (SR.env fun e=>SR.program (.pure rfl)) ?_;rintro r1 hr1 n _ rfl;refine Zx (fun _=>.panic .iface0) fun _=>?_;refine Z0R ?_;unfold elemOf;simp only [bind_assoc];refine Zc fun d hd=>?_
  cases d <;> try exact Z37
  simp only [pure_bind];exact Z4 (Z4L (.aggA .nil)) fun _ _ a b q=>.panic (.iface _ (.ptr q))
 | _=>exact Z2
def CvOk (P:Program) (s d:TypeId):Prop:=(∃ k,P.underlying s = some (.int k)) ∧ ∃ k,P.underlying d = some (.int k)
theorem ZaJ {s d:TypeId} (ok:CvOk P s d) {x y:Value} (h:VR r x y): SR (PF P F) P C VA r (convert s d x) (convert s d y):=by
 obtain ⟨⟨k,hk⟩,⟨j,hj⟩⟩:=ok;unfold convert;refine Zc fun a ha=>Zc fun b hb=>?_;obtain rfl:a = .int k:=Option.some.inj (ha.symm.trans hk);obtain rfl:b = .int j:=Option.some.inj (hb.symm.trans hj)
 cases h <;> first | exact .pure (.int _ _) | exact Zo (by simp)
end
end Go.Proofs.YtfelljbfeoplhaaGreat.Lift
namespace Go.Proofs.YtfelljbfeoplhaaGreat.Lift
open Go
variable [Jk]
inductive NR (C:Inv) (G:FuncId → Prop) (df:Prop) (r:Ren):Next → Next → Prop
 | value {x y} (h:VR r x y):NR C G df r (.value x) (.value y)
 | skip:NR C G df r .skip .skip
 | enter {f xs ys} (g:G f) (h:VRs r xs ys):NR C G df r (.enter f xs) (.enter f ys)
 | round {l l' f xs ys a b} (hl:r l = some l') (hf:C.fn f) (h:VRs r xs ys) (ha:C.code a) (hb:C.code b):NR C G df r (.round l f xs a b) (.round l' f ys a b)
 | defer {d d'} (hd:df) (h:DR r d d'):NR C G df r (.defer d) (.defer d')
 | recover:NR C G df r .recover .recover
structure Strip (P:Program) (F:Array Func) (K:Code → Prop) (G:FuncId → Prop):Prop where
 same:∀ f:FuncId,Jk.gd f → F[f]? = P.funcs[f]? ∧ ¬ Jk.law f
 name : ∀ (f : FuncId) (fn : Func), Jk.gd f → F[f]? = some fn → (fn.name == "runtime.NumGoroutine") = false
 own:∀ (f:FuncId) (fn:Func) (c:Code),Jk.gd f → F[f]? = some fn → fn.body = some c → P.funcs[f]? = some fn ∧ K c ∧ G f
 none : ∀ (f : FuncId) (fn : Func), Jk.gd f → F[f]? = some fn → fn.body = .none → Extern.findNext fn = .none ∧ Extern.find fn = .none ∧ (fn.name.endsWith ".init" && !fn.name.startsWith "(" && !fn.name.startsWith "gosem.") = false
section
variable {P:Program} {F:Array Func} {C:Inv} {K:Code → Prop} {G:FuncId → Prop} {df:Prop} {r:Ren} {α β γ δ:Type} {A:Ren → α → β → Prop} {B:Ren → γ → δ → Prop}
theorem Z8W (S:Strip P F K G) {f:FuncId} (gf:Jk.gd f) {xs ys:Array Value} (h:VRs r xs ys): SR (PF P F) P C (NR C G df) r (callFunc f xs) (callFunc f ys):=by
 unfold callFunc;refine Z0R ?_;have e0:(PF P F).funcs = F:=rfl;rw [e0]
 cases e:F[f]? with
 | none=>exact Z2
 | some fn =>
  have hn:=S.name f fn gf e
  cases hb:fn.body with
  | some c =>
   obtain ⟨hp,hc,hg⟩:=S.own f fn c gf e hb;simp only [hp,hn,hb,Bool.false_eq_true,if_false,Option.isNone_some];exact .pure (.enter hg h)
  | none =>
   obtain ⟨h1,h2,h3⟩:=S.none f fn gf e hb;refine .dead ?_;simp only [hn,hb,Bool.false_eq_true,if_false,Option.isNone_none,if_true,h1,h2,h3];exact Z3B (fun w=>⟨(),w,rfl⟩) fun _=>Zm (by simp)
theorem Zhb {ps:List Tmp} {az bs:List Value} (h:Lis (VR r) az bs): ∀ {us vs:Array Value},VRs r us vs →
  VRs r ((ps.zip az).foldl (fun tmps (t,a)=>tmps.setIfInBounds t a) us) ((ps.zip bs).foldl (fun tmps (t,a)=>tmps.setIfInBounds t a) vs):=by
 induction h generalizing ps with
 | nil=>simp
 | cons a _ ih =>
  cases ps with
  | nil=>simp
  | cons p ps =>
   intro us vs k;simp only [List.zip_cons_cons,List.foldl_cons];exact ih (k.set _ a)
theorem Z1t {l l':Nat} (h:r l = some l') {f:Loop → Sem γ} {g:Loop → Sem δ} (t:∀ r',r.le r' → ∀ o o',LpR C r' o o' → SR (PF P F) P C B r' (f o) (g o')): SR (PF P F) P C B r (Instr.getLoop l >>= f) (Instr.getLoop l' >>= g):=by
 unfold Instr.getLoop;simp only [bind_assoc];refine Z85 h fun r' hr o o' ho=>?_
 cases ho with
 | loop q=>exact t r' hr _ _ q
 | _=>exact Z37
theorem ZeX {l l':Nat} (h:r l = some l') {xs ys:Array Value} (k:VRs r xs ys): SR (PF P F) P C (NR C G df) r (Instr.yield l xs) (Instr.yield l' ys):=by
 unfold Instr.yield;refine Z1t h fun r' hr o o' ho=>?_;rw [k.1,ho.params,ho.fn.1];refine Zx (fun _=>Z37) fun _=>?_;rw [ho.assign.1,ho.body.1];refine .pure (.round (hr.1 _ _ h) (ho.fn.1 ▸ ho.fn.2) ?_ (ho.assign.1 ▸ ho.assign.2) (ho.body.1 ▸ ho.body.2));rw [← Array.foldl_toList,← Array.foldl_toList];simp only [Array.toList_zip];exact Zhb (VRs.mono hr k).lis ho.tmps
theorem Z2b (S:Strip P F K G) {t t':Target} {xs ys:Array Value} (h:TR r t t') (k:VRs r xs ys): SR (PF P F) P C (NR C G df) r (invoke t xs) (invoke t' ys):=by
 cases h with
 | nil=>exact Z0T
 | collected q=>exact Z2
 | fn hf hx =>
  cases hf with
  | func f gf=>exact Z8W S gf (k.append hx)
  | yield q=>exact ZeX q k
def RdOk:Operand → Prop
 | .const v=>Z5B v
 | .global _=>False
 | .func f=>Jk.gd f
 | _=>True
def EnvR (r:Ren) (e e':Operand → Value):Prop:=∀ x,RdOk x → VR r (e x) (e' x)
def Z7r (P:Program):Prop:=P.info? 1000000 = none
def ClOk (P:Program) (c:Call):Prop:=(∀ x ∈ c.args,RdOk x) ∧ match c.callee with
 | .value f=>RdOk f ∧ Z7r P
 | .invoke _ _=>False
 | .builtin .append=>Zja P c.argTypes
 | .builtin .copy | .builtin .len | .builtin .cap | .builtin .min | .builtin .max | .builtin .recover=>True
 | .builtin _=>False
def OpOk (P:Program):Op → Prop
 | .move x | .assign x=>RdOk x
 | .pick c a b=>RdOk c ∧ RdOk a ∧ RdOk b
 | .alloc t=>ZOk P t
 | .box _ x=>RdOk x
 | .build t ps=>ZOk P t ∧ ∀ p ∈ ps,RdOk p.2
 | .buildSlice t _ ps=>(∀ e,P.underlying t = some (.slice e) → ZOk P e) ∧ ∀ p ∈ ps,RdOk p.2
 | .load _ a=>RdOk a
 | .store _ a x=>RdOk a ∧ RdOk x
 | .nilCheck x=>RdOk x ∧ Z7r P
 | .binOp op t x y _=>Ze1 P op t ∧ RdOk x ∧ RdOk y
 | .unOp _ _ x=>RdOk x
 | .convert s d x=>CvOk P s d ∧ RdOk x
 | .makeInterface _ x=>RdOk x
 | .makeFunc fn xs ys=>(∃ f,fn = .func f ∧ Jk.gd f) ∧ (∀ x ∈ xs,RdOk x) ∧ ∀ x ∈ ys,RdOk x
 | .makeMap _ x=>∀ y,x = some y → RdOk y
 | .makeSlice t l c=>(∀ e,P.underlying t = some (.slice e) → ZOk P e) ∧ RdOk l ∧ RdOk c
 | .slice _ x lo hi mx=>RdOk x ∧ (∀ y,lo = some y → RdOk y) ∧ (∀ y,hi = some y → RdOk y) ∧ ∀ y,mx = some y → RdOk y
 | .fieldAddr _ x _=>RdOk x
 | .indexAddr _ x i | .index _ x i=>RdOk x ∧ RdOk i
 | .lookup t x i _=>Zcp P t ∧ RdOk x ∧ RdOk i
 | .mapUpdate t m k x=>Zcp P t ∧ RdOk m ∧ RdOk k ∧ RdOk x
 | .typeAssert x _ u ok=>ok = true ∧ ZOk P u ∧ RdOk x
 | .extract t _=>RdOk t
 | .call c=>ClOk P c
 | .defer c=>ClOk P c ∧ ∃ f,c.callee = .value f ∧ ∃ g,f = .func g
 | .panic x=>RdOk x
 | _=>False
theorem Z3L {x y:Value} {xs ys:Array Value} (nz:x ≠ J0) (h:VR r x y) (k:VRs r xs ys): SR (PF P F) P C DR r (Deferred.ofValue x xs) (Deferred.ofValue y ys):=by
 cases h with
 | func hf hx q hy q2=>exact .pure ⟨.fn hf ⟨hy,q2⟩,Arr.append ⟨hx,q⟩ k⟩
 | func0=>exact .pure ⟨.nil,k⟩
 | junk _ _ _ _=>exact absurd rfl nz
 | _=>exact Z2
theorem Z8P (hb:Z7r P) (n:Nat) (v:Value) (name:String):Dead (PF P F) (method n 1000000 v name):=by
 cases n with
 | zero=>unfold method;first | exact Ze | exact Zm (by simp)
 | succ n=>unfold method;exact Z4D fun i hi=>by rw [hb] at hi;cases hi
theorem Z3x (hb : Z7r P) (xs : Array Value) : Dead (PF P F) (do let d ← Deferred.ofValue J0 xs; invoke d.target d.args) := by
  show Dead _ (invoke (.fn (.method "") #[]) (#[.iface 1000000 (.bool false)] ++ xs));have e : (#[Value.iface 1000000 (.bool false)] ++ xs)[0]? = some (.iface 1000000 (.bool false)) := by rw [Array.getElem?_append_left (by decide)]; rfl
  unfold invoke;simp only [e];unfold callMethod;refine Z29 ?_;exact (Z8P hb _ _ _).bind _
theorem Zdm (hb : Z7r P) (n : Nat) {f : Option Bool → Sem α} (h : Dead (PF P F) (f none)) : Dead (PF P F) (nilAhead n 1000000 (.bool false) "" >>= f) := by
 cases n with
 | zero=>exact h
 | succ n=>unfold nilAhead;exact (Z4D fun i hi=>by rw [hb] at hi;cases hi).bind _
theorem sr_v {x : Sem Value} {y : Sem Value} (h : SR (PF P F) P C VA r x y) : SR (PF P F) P C (NR C G df) r (do pure (.value (← x))) (do pure (.value (← y))) := Z4 h fun _ _ a b q => .pure (.value q)
theorem sr_u {x:Sem Unit} {y:Sem Unit} (h:SR (PF P F) P C EQ r x y):SR (PF P F) P C (NR C G df) r (do x;pure .skip) (do y;pure .skip):=Z4 h fun _ _ a b q=>.pure .skip
theorem Z2p {e e':Operand → Value} (h:EnvR r e e') {xs:Array Operand} (k:∀ x ∈ xs,RdOk x):VRs r (xs.map e) (xs.map e'):=by
 refine ⟨by simp,fun i x y a b=>?_⟩;simp only [Array.getElem?_map] at a b;obtain ⟨z,hz,rfl⟩:=Option.map_eq_some_iff.1 a;rw [hz] at b;obtain rfl:=Option.some.inj b;exact h z (k z (Array.mem_of_getElem? hz))
theorem Z7i {e e':Operand → Value} (h:EnvR r e e') {xs:Array (Nat × Operand)} (k:∀ x ∈ xs,RdOk x.2): Arr (PaR r) (xs.map fun (i,x)=>(i,e x)) (xs.map fun (i,x)=>(i,e' x)):=by
 refine ⟨by simp,fun i x y a b=>?_⟩;simp only [Array.getElem?_map] at a b;obtain ⟨z,hz,rfl⟩:=Option.map_eq_some_iff.1 a;rw [hz] at b;obtain rfl:=Option.some.inj b;exact ⟨rfl,h _ (k z (Array.mem_of_getElem? hz))⟩
theorem Z6z {e e':Operand → Value} (h:EnvR r e e') {x:Option Operand} (k:∀ y,x = some y → RdOk y): OpR (VR r) (x.map e) (x.map e'):=by
 cases x with
 | none=>exact .none
 | some x=>exact .some (h x (k x rfl))
theorem Z5t {e e':Operand → Value} (h:EnvR r e e') {c:Call} {f:Operand} (hc:c.callee = .value f) (ok:ClOk P c) (nz:e f ≠ J0): SR (PF P F) P C DR r (resolve e c t) (resolve e' c t):=by
 obtain ⟨h1,h2⟩:=ok;rw [hc] at h2;unfold resolve;rw [hc];exact Z3L nz (h f h2.1) (Z2p h h1)
theorem Zhu (S : Strip P F K G) {e e' : Operand → Value} (h : EnvR r e e') {c : Call} {t : TypeId} (ok : ClOk P c) :
    SR (PF P F) P C (NR C G df) r (do let d ← resolve e c t; invoke d.target d.args) (do let d ← resolve e' c t; invoke d.target d.args) := by
  cases hc : c.callee with
  | value f =>
    by_cases nz : e f = J0
    · obtain ⟨_, h2⟩ := ok
      rw [hc] at h2;refine .dead ?_;unfold resolve;rw [hc];dsimp only;rw [nz];exact Z3x h2.2 _
    · exact Z4 (Z5t h hc ok nz) fun _ _ a b q => Z2b S q.1 q.2
  | invoke x n => unfold ClOk at ok; rw [hc] at ok; exact ok.2.elim
  | builtin b =>
    obtain ⟨h1, h2⟩ := ok;rw [hc] at h2;have k := Z2p h h1;unfold resolve;rw [hc];simp only [pure_bind]
    cases b <;> first | exact h2.elim | exact sr_v (Zcf h2 k) | exact sr_v (Zgx k) | exact sr_v (ZjS k) | exact sr_v (Zjx k) | exact sr_v (Zjt k) | exact sr_v (Zjr k) | exact .pure .recover
theorem Z7p (S:Strip P F K G) (hi:Inj r) {e e':Operand → Value} (he:∀ g,e (.func g) = .func (.func g) #[] #[]) (h:EnvR r e e') {o:Oper} (ok:OpOk P o.op): SR (PF P F) P C (NR C G (∃ c,o.op = .defer c)) r (execOp e o) (execOp e' o):=by
 unfold execOp
 cases ho:o.op with
 | move x=>rw [ho] at ok;exact .pure (.value (h x ok))
 | assign x=>rw [ho] at ok;exact .pure (.value (h x ok))
 | pick c a b =>
  rw [ho] at ok;refine Z4 (Z4V (h c ok.1)) ?_;rintro r1 hr1 z _ rfl
  cases z
  ·exact .pure (.value ((h b ok.2.2).mono hr1))
  ·exact .pure (.value ((h a ok.2.1).mono hr1))
 | alloc t=>rw [ho] at ok;exact sr_v (ZdI ok)
 | box t x=>rw [ho] at ok;exact sr_v (Zih (h x ok))
 | build t ps=>rw [ho] at ok;exact sr_v (ZdV ok.1 (Z7i h ok.2))
 | buildSlice t n ps=>rw [ho] at ok;exact sr_v (Z6c ok.1 (Z7i h ok.2))
 | load t a=>rw [ho] at ok;exact sr_v (ZbD (h a ok))
 | store t a x=>rw [ho] at ok;exact sr_u (ZaS (h a ok.1) (h x ok.2))
 | nilCheck x =>
  rw [ho] at ok;have hx:=h x ok.1;dsimp only;generalize e x = v at hx ⊢;generalize e' x = v' at hx ⊢
  cases hx with
  | func hf a b c d =>
   cases hf with
   | func f gf=>exact .pure (.value (.func (.func f gf) a b c d))
   | yield q=>exact .pure (.value (.func (.yield q) a b c d))
  | ptr0=>exact Z0T
  | func0=>exact Z0T
  | iface0=>exact Z0T
  | bool b=>exact .pure (.value (.bool b))
  | int k n=>exact .pure (.value (.int k n))
  | string s=>exact .pure (.value (.string s))
  | ptr q=>exact .pure (.value (.ptr q))
  | sl0 a b=>exact .pure (.value (.sl0 a b))
  | sl a b q=>exact .pure (.value (.sl a b q))
  | map0=>exact .pure (.value .map0)
  | map q=>exact .pure (.value (.map q))
  | iface t q=>exact .pure (.value (.iface t q))
  | agg a b=>exact .pure (.value (.agg a b))
  | tuple a b=>exact .pure (.value (.tuple a b))
  | junk j _ _ _ =>
   refine .dead ?_;unfold J0;dsimp only;refine Z29 ?_;exact Zdm ok.2 _ fun w=>⟨_,w,rfl,trivial⟩
 | binOp op t x y u =>
  rw [ho] at ok;refine sr_v ?_;refine Z4 (ZaR (h x ok.2.1) (h y ok.2.2)) ?_;rintro r1 hr1 _ _ _;exact Zem ok.1 ((h x ok.2.1).mono hr1) ((h y ok.2.2).mono hr1)
 | unOp op t x=>rw [ho] at ok;exact sr_v (ZdQ (h x ok))
 | convert s d x=>rw [ho] at ok;exact sr_v (ZaJ ok.1 (h x ok.2))
 | makeInterface t x=>rw [ho] at ok;exact sr_v (Z44 (h x ok))
 | makeFunc fn xs ys =>
  rw [ho] at ok;obtain ⟨⟨f,rfl,gf⟩,h1,h2⟩:=ok;exact sr_v (Z8f (.func f gf) (Z2p h h1) (Z2p h h2))
 | makeMap t x=>rw [ho] at ok;exact sr_v (Zaq (Z6z h ok))
 | makeSlice t l c=>rw [ho] at ok;exact sr_v (Z7W ok.1 (h l ok.2.1) (h c ok.2.2))
 | slice t x lo hi mx=>rw [ho] at ok;exact sr_v (ZaM (h x ok.1) (Z6z h ok.2.1) (Z6z h ok.2.2.1) (Z6z h ok.2.2.2))
 | fieldAddr s x f=>rw [ho] at ok;exact sr_v (Zai (h x ok) f)
 | indexAddr t x i=>rw [ho] at ok;exact sr_v (Zax (h x ok.1) (h i ok.2))
 | index t x i=>rw [ho] at ok;exact sr_v (ZeD (h x ok.1) (h i ok.2))
 | lookup t x i c=>rw [ho] at ok;exact sr_v (ZbB ok.1 (h x ok.2.1) (h i ok.2.2) c)
 | mapUpdate t m k x=>rw [ho] at ok;exact sr_u (Z7z hi ok.1 (h m ok.2.1) (h k ok.2.2.1) (h x ok.2.2.2))
 | typeAssert x t u c =>
  rw [ho] at ok;obtain ⟨rfl,h1,h2⟩:=ok;exact sr_v (Z79 h1 (h x h2))
 | extract t i=>rw [ho] at ok;exact sr_v (Zat (h t ok) i)
 | call c=>rw [ho] at ok;exact Zhu S h ok
 | defer c =>
  rw [ho] at ok;obtain ⟨h1,f,hc,hf⟩:=ok;have nz:e f ≠ J0:=fun q=>by
   have h2:=h1.2;rw [hc] at h2;obtain ⟨g,rfl⟩:=hf;rw [he] at q;unfold J0 at q
   cases q
  exact Z4 (Z5t h hc h1 nz) fun _ _ a b q=>.pure (.defer ⟨_,rfl⟩ q)
 | panic x=>rw [ho] at ok;exact sr_v (ZaU (h x ok))
 | _=>rw [ho] at ok;exact ok.elim
end
end Go.Proofs.YtfelljbfeoplhaaGreat.Lift
namespace Go.Proofs.YtfelljbfeoplhaaGreat.Lift
open Go
variable [Jk]
def ZdA:Op → Prop
 | .call c=>(∃ f,c.callee = .value (.func f) ∧ Jk.jmp f ∧ c.args.size = Jk.ar f) ∧ ∀ x ∈ c.args,∃ t,x = .tmp t
 | _=>False
def Z0C (P:Program) (J N:Prop) (b:Bool):Code → Prop
 | .region _ ops _=>∀ o ∈ ops,(OpOk P o.op ∨ (J ∧ ZdA o.op)) ∧ (b = true ∨ J → ∀ c,o.op ≠ .defer c)
 | .seq x y=>Z0C P J N b x ∧ Z0C P J N b y
 | .cond c x y=>RdOk c ∧ Z0C P J N b x ∧ Z0C P J N b y
 | .block _ x | .loop x | .scope x=>Z0C P J N b x
 | .rangeFunc f _ x y=>RdOk f ∧ Z0C P False False true x ∧ Z0C P False False true y ∧ ¬ N ∧ Z7r P
 | .refuse _=>False
 | _=>True
abbrev CodeOk (P:Program) (b:Bool):Code → Prop:=Z0C P False False b
theorem Z0C.out {P:Program} {J N:Prop} {b:Bool} {c:Code} (nj:¬ J) (nn:¬ N): CodeOk P true c → Z0C P J N b c:=by
 induction c with
 | region i ops d=>exact fun h o ho=>⟨.inl ((h o ho).1.resolve_right fun q=>q.1),fun _=>(h o ho).2 (.inl rfl)⟩
 | seq x y ihx ihy=>exact fun h=>⟨ihx h.1,ihy h.2⟩
 | cond c x y ihx ihy=>exact fun h=>⟨h.1,ihx h.2.1,ihy h.2.2⟩
 | block i x ih=>exact fun h=>ih h
 | loop x ih=>exact fun h=>ih h
 | scope x ih=>exact fun h=>ih h
 | rangeFunc f ps x y _ _=>exact fun h=>⟨h.1,h.2.1,h.2.2.1,nn,h.2.2.2.2⟩
 | refuse y=>exact fun h=>h
 | _=>exact fun _=>trivial
theorem Z0C.weak {P:Program} {J N:Prop} {b:Bool} {c:Code} (nj:¬ J) (nn:¬ N): CodeOk P b c → Z0C P J N b c:=by
 induction c with
 | region i ops d=>exact fun h o ho=>⟨.inl ((h o ho).1.resolve_right fun q=>q.1),fun q=>(h o ho).2 (.inl (q.resolve_right nj))⟩
 | seq x y ihx ihy=>exact fun h=>⟨ihx h.1,ihy h.2⟩
 | cond c x y ihx ihy=>exact fun h=>⟨h.1,ihx h.2.1,ihy h.2.2⟩
 | block i x ih=>exact fun h=>ih h
 | loop x ih=>exact fun h=>ih h
 | scope x ih=>exact fun h=>ih h
 | rangeFunc f ps x y _ _=>exact fun h=>⟨h.1,h.2.1,h.2.2.1,nn,h.2.2.2.2⟩
 | refuse y=>exact fun h=>h
 | _=>exact fun _=>trivial
def Iv (P:Program) (F:Array Func):Inv:=⟨CodeOk P true,Jk.gd⟩
inductive IR (P:Program) (J N:Prop) (d:Bool) (r:Ren):Item → Item → Prop
 | code {c} (h:Z0C P J N d c):IR P J N d r (.code c) (.code c)
 | inBlock (i):IR P J N d r (.inBlock i) (.inBlock i)
 | inLoop {c} (h:Z0C P J N d c):IR P J N d r (.inLoop c) (.inLoop c)
 | inScope {c} (h:Z0C P J N d c):IR P J N d r (.inScope c) (.inScope c)
 | inRegion {ops todo} (h:∀ o ∈ ops,(OpOk P o.op ∨ (J ∧ ZdA o.op)) ∧ (d = true ∨ J → ∀ c,o.op ≠ .defer c)):IR P J N d r (.inRegion ops todo) (.inRegion ops todo)
 | inRange {l l'} (nj:¬ N) (h:r l = some l'):IR P J N d r (.inRangeFunc l) (.inRangeFunc l')
 | endRange {l l'} (nj:¬ N) (h:r l = some l'):IR P J N d r (.endRangeFunc l) (.endRangeFunc l')
 | begin_:IR P J N d r .beginRound .beginRound
def mild:Item → Bool
 | .code _ | .inBlock _ | .inLoop _ | .inScope _=>true
 | _=>false
inductive Cut (P:Program) (J N:Prop) (d:Bool):Code → Code → List Item → Prop
 | stop {y k} (h : Jk.rest = .code y :: k) : Cut P J N d (.refuse "") y k
 | seq {x c c' k} (h:Z0C P J N d x) (t:Cut P J N d c c' k):Cut P J N d (.seq x c) (.seq x c') k
 | left {c c' y k} (t : Cut P J N d c c' (.code y :: k)) : Cut P J N d (.seq c (.refuse "")) (.seq c' y) k
inductive Todo (P:Program) (J N:Prop) (d:Bool) (r:Ren):List Item → List Item → Prop
 | nil:Todo P J N d r [] []
 | cons {x y k k'} (h:IR P J N d r x y) (t:Todo P J N d r k k'):Todo P J N d r (x :: k) (y :: k')
 | tail (hd : d = false) (hk : ∀ x, Jk.rest.head? = some x → mild x = true) : Todo P J N d r [.code (.refuse "")] Jk.rest
 | cut {c c' l k} (hd:d = false) (hl:∀ i,exitTo i l = none ∧ gotoIn i l = none) (h:Cut P J N d c c' k):Todo P J N d r (.code c :: l) (.code c' :: k)
def PR (r:Ren) (p q:PanicEntry):Prop:=VR r p.v q.v ∧ p.recovered = q.recovered ∧ p.goexit = q.goexit
inductive MR (r:Ren):FrameMode → FrameMode → Prop
 | run:MR r .run .run
 | returning:MR r .returning .returning
 | panicking {ps qs} (h:Lis (PR r) ps qs):MR r (.panicking ps) (.panicking qs)
inductive RoR (r:Ren):Option Nat → Option Nat → Prop
 | none:RoR r none none
 | some {l l'} (h:r l = some l'):RoR r (some l) (some l')
structure FrR (P:Program) (F:Array Func) (r:Ren) (f g:Frame):Prop where
 fn:f.fn = g.fn
 own:F[f.fn]? = P.funcs[f.fn]?
 tmps:VRs r f.tmps g.tmps
 todo:Todo P (Jk.law f.fn) (¬ Jk.gd f.fn) f.roundOf.isSome r f.todo g.todo
 defers:Lis (DR r) f.defers g.defers ∧ (Jk.law f.fn → f.defers = [])
 mode:MR r f.mode g.mode
 kind:f.kind = g.kind ∧ (f.kind = .normal ∨ f.kind = .deferred)
 round:RoR r f.roundOf g.roundOf
section
variable {P:Program} {F:Array Func} {G:FuncId → Prop} {r s:Ren}
theorem IR.mono {J N:Prop} {d:Bool} (h:r.le s) {x y:Item} (k:IR P J N d r x y):IR P J N d s x y:=by
 cases k with
 | code h=>exact .code h
 | inBlock i=>exact .inBlock i
 | inLoop h=>exact .inLoop h
 | inScope h=>exact .inScope h
 | inRegion h=>exact .inRegion h
 | inRange n q=>exact .inRange n (h.1 _ _ q)
 | endRange n q=>exact .endRange n (h.1 _ _ q)
 | begin_=>exact .begin_
theorem Todo.mono {J N:Prop} {d:Bool} (h:r.le s) {x y:List Item} (k:Todo P J N d r x y):Todo P J N d s x y:=by
 induction k with
 | nil=>exact .nil
 | cons a _ ih=>exact .cons (a.mono h) ih
 | tail hd hk=>exact .tail hd hk
 | cut hd hl h=>exact .cut hd hl h
theorem PR.mono (h:r.le s) {x y:PanicEntry} (k:PR r x y):PR s x y:=⟨k.1.mono h,k.2⟩
theorem MR.mono (h:r.le s) {x y:FrameMode} (k:MR r x y):MR s x y:=by
 cases k with
 | run=>exact .run
 | returning=>exact .returning
 | panicking q=>exact .panicking (q.imp fun _ _=>PR.mono h)
theorem RoR.mono (h:r.le s) {x y:Option Nat} (k:RoR r x y):RoR s x y:=by
 cases k with
 | none=>exact .none
 | some q=>exact .some (h.1 _ _ q)
theorem FrR.mono (h:r.le s) {f g:Frame} (k:FrR P F r f g):FrR P F s f g:=
 ⟨k.fn,k.own,VRs.mono h k.tmps,k.todo.mono h,⟨k.defers.1.imp fun _ _=>DR.mono h,k.defers.2⟩,k.mode.mono h,k.kind,k.round.mono h⟩
theorem FrR.env {f g:Frame} (k:FrR P F r f g):EnvR r f.eval g.eval:=by
 intro x hx
 cases x with
 | tmp t =>
  show VR r (f.tmps.getD t undef) (g.tmps.getD t undef);rw [Array.getD_eq_getD_getElem?,Array.getD_eq_getD_getElem?]
  rcases k.tmps.get t with ⟨a,b⟩ | ⟨x,y,a,b,q⟩
  ·rw [a,b];exact .undef
  ·rw [a,b];exact q
 | const v=>exact hx r
 | global g=>exact hx.elim
 | func f=>exact .func (.func f hx) rfl (by simp) rfl (by simp)
theorem FrR.finish {f g:Frame} (k:FrR P F r f g) {x y:Value} (h:VR r x y):FrR P F r (f.finish x) (g.finish y):=by
 have kt:=k.todo;obtain ⟨ft,fm⟩:∃ t,t = f.todo:=⟨_,rfl⟩;obtain ⟨gt,gm⟩:∃ t,t = g.todo:=⟨_,rfl⟩;unfold Frame.finish;rw [← fm,← gm] at kt ⊢
 cases kt with
 | nil=>exact k
 | @cons a b az bs hab ht =>
  cases hab with
  | @inRegion ops todo hops =>
   cases todo with
   | nil=>exact k
   | cons i rest =>
    refine ⟨k.fn,k.own,?_,.cons (.inRegion hops) ht,k.defers,k.mode,k.kind,k.round⟩;dsimp only
    cases ((ops[i]?).bind (·.dst)) with
    | none=>exact k.tmps
    | some d=>exact k.tmps.set d h
  | inRange n q=>exact ⟨k.fn,k.own,k.tmps,.cons (.endRange n q) ht,k.defers,k.mode,k.kind,k.round⟩
  | begin_=>exact ⟨k.fn,k.own,k.tmps,ht,k.defers,k.mode,k.kind,k.round⟩
  | _=>exact k
 | cut hd hl h=>exact k
 | tail hd hk =>
  generalize (Jk.rest:List Item) = z at hk ⊢
  cases z with
  | nil=>exact k
  | cons y ys =>
   have:=hk y rfl
   cases y <;> first | exact k | cases this
theorem FrR.raise {f g:Frame} (k:FrR P F r f g) {ps qs:List PanicEntry} (h:Lis (PR r) ps qs):FrR P F r (f.raise ps) (g.raise qs):=by
 unfold Frame.raise;have km:=k.mode;generalize f.mode = a at km ⊢;generalize g.mode = b at km ⊢
 cases km with
 | run=>exact ⟨k.fn,k.own,k.tmps,k.todo,k.defers,.panicking h,k.kind,k.round⟩
 | returning=>exact ⟨k.fn,k.own,k.tmps,k.todo,k.defers,.panicking h,k.kind,k.round⟩
 | panicking q=>exact ⟨k.fn,k.own,k.tmps,k.todo,k.defers,.panicking (h.append q),k.kind,k.round⟩
def poison : Frame := { fn := 0, tmps := #[], todo := [.code (.refuse "")], defers := [{ target := .nil, args := #[] }], mode := .run, kind := .normal, roundOf := none }
def Low (f:Frame) (A:List Frame):Prop:=(f.kind = .normal ∨ A ≠ []) ∧ (A ≠ [] → ¬ Jk.law f.fn)
def LowL:List Frame → Prop
 | []=>True
 | f :: A=>Low f A ∧ LowL A
theorem Low.raise {f:Frame} {A:List Frame} (h:Low f A) (ps:List PanicEntry):Low (f.raise ps) A:=by
 unfold Frame.raise
 split <;> exact h
theorem Low.finish {f:Frame} {A:List Frame} (h:Low f A) (x:Value):Low (f.finish x) A:=by
 unfold Frame.finish
 split <;> exact h
structure Stk (P:Program) (F:Array Func) (r:Ren) (A B:List Frame):Prop where
 rel:Lis (FrR P F r) A B
 low:LowL A
theorem Stk.mono (h:r.le s) {A B:List Frame} (k:Stk P F r A B):Stk P F s A B:=⟨k.rel.imp fun _ _=>FrR.mono h,k.low⟩
theorem Stk.cons {A B:List Frame} {f g:Frame} (h:FrR P F r f g) (k:Stk P F r A B) (hk:Low f A):Stk P F r (f :: A) (g :: B):=⟨.cons h k.rel,hk,k.low⟩
theorem Stk.uncons {A B:List Frame} {f g:Frame} (k:Stk P F r (f :: A) (g :: B)):FrR P F r f g ∧ Stk P F r A B ∧ Low f A:=by
 obtain ⟨h,t⟩:=k
 cases h with
 | cons h1 h2=>exact ⟨h1,⟨h2,t.2⟩,t.1⟩
def run1 (f:Frame) (cs:List Frame):Goroutine:={ frame:=f,callers:=cs,status:=.running,dying:=none }
def Sunk (g:Goroutine):Prop:=g = run1 poison [] ∨ ∃ c,g = run1 { poison with mode:=.panicking c } []
def ZC (P:Program) (F:Array Func) (cs:List Frame) (r:Ren) (v w:World):GStep → GStep → Prop
 | .go g v' _,q=>Sunk g ∨ ∃ r' f W w' ns,q = .go (run1 f W) w' ns ∧ g.status = .running ∧ g.dying = none ∧ g.offers = none ∧ (∃ A B,g.frame :: g.callers = A ++ [poison] ∧ f :: W = B ++ cs ∧ A ≠ [] ∧ Stk P F r' A B) ∧ WR (Iv P F) r' v' w' ∧ Kept r r' v v' w w' ∧ ∀ e ∈ ns,EvG r' v w' e
 | .ended _ _ _,_=>True
 | _,_=>False
end
end Go.Proofs.YtfelljbfeoplhaaGreat.Lift
namespace Go.Proofs.YtfelljbfeoplhaaGreat.Lift
open Go
variable [Jk]
section
variable {P:Program} {F:Array Func} {G:FuncId → Prop} {r:Ren} {cs:List Frame} {v w:World}
theorem ZC.go {f g:Frame} {A B:List Frame} {v' w':World} {r':Ren} {es ns:Array Event} (h:Stk P F r' (f :: A) (g :: B)) (hw:WR (Iv P F) r' v' w') (hk:Kept r r' v v' w w') (he:∀ e ∈ ns,EvG r' v w' e):
  ZC P F cs r v w (.go (run1 f (A ++ [poison])) v' es) (.go (run1 g (B ++ cs)) w' ns):=.inr ⟨r',g,B ++ cs,w',ns,rfl,rfl,rfl,rfl,⟨f :: A,g :: B,rfl,rfl,by simp,h⟩,hw,hk,he⟩
theorem ZC.after {e1 e2:Array Event} {x y:GStep} (h:ZC P F cs r v w x y) (he:∀ r' w',r.le r' → (∀ e ∈ e2,EvG r' v w' e)):ZC P F cs r v w (.after e1 x) (.after e2 y):=by
 cases x with
 | go g v' es =>
  rcases h with h | ⟨r',f,W,w',ns,rfl,h1,h2,h3,h4,h5,h6,h7⟩
  ·exact .inl h
  ·exact .inr ⟨r',f,W,w',e2 ++ ns,rfl,h1,h2,h3,h4,h5,h6,fun e hm=>(Array.mem_append.1 hm).elim (he r' w' h6.le e) (h7 e)⟩
 | ended o v' es=>trivial
 | _=>exact h.elim
theorem Z4T {f g:Frame} {A B:List Frame} (hs:Stk P F r (f :: A) (g :: B)):
  (tryRecover f (A ++ [poison]) = none ∧ tryRecover g (B ++ cs) = none) ∨ ∃ x A' y B',tryRecover f (A ++ [poison]) = some (x,A' ++ [poison]) ∧ tryRecover g (B ++ cs) = some (y,B' ++ cs) ∧ VR r x y ∧ Stk P F r A' B' ∧ Low f A':=by
 obtain ⟨hf,hs,hd⟩:=hs.uncons;obtain ⟨k1,k2⟩:=hf.kind
 rcases k2 with k2 | k2
 ·refine .inl ⟨?_,?_⟩
  ·unfold tryRecover;rw [k2]
  ·unfold tryRecover;rw [← k1,k2]
 ·obtain ⟨c,cb⟩:=hs
  cases c with
  | nil =>
   rcases hd.1 with hd | hd
   ·rw [k2] at hd;cases hd
   ·exact absurd rfl hd
  | @cons a b az bs hab hrest =>
   have km:=hab.mode;simp only [List.cons_append];unfold tryRecover;rw [← k1,k2];dsimp only;generalize ha:a.mode = am at km;generalize hb:b.mode = bm at km
   cases km with
   | run=>exact .inl ⟨rfl,rfl⟩
   | returning=>exact .inl ⟨rfl,rfl⟩
   | panicking q =>
    cases q with
    | nil=>exact .inl ⟨rfl,rfl⟩
    | @cons p q ps qs hpq hps =>
     obtain ⟨pv,pr,pg⟩:=p;obtain ⟨qv,qr,qg⟩:=q;obtain ⟨h1,h2,h3⟩:=hpq;obtain rfl:pr = qr:=h2;obtain rfl:pg = qg:=h3
     cases pr <;> cases pg <;> first | exact .inl ⟨rfl,rfl⟩ | skip
     obtain ⟨hfr,hst,hk⟩:=Stk.uncons (P:=P) (F:=F) (r:=r) (f:=a) (g:=b) ⟨.cons hab hrest,cb⟩;refine .inr ⟨_,_ :: az,_,_ :: bs,rfl,rfl,h1,hst.cons ⟨hab.fn,hab.own,hab.tmps,hab.todo,hab.defers,.panicking (.cons ⟨h1,rfl,rfl⟩ hps),hab.kind,hab.round⟩ hk,.inr (by simp),fun _=>hd.2 (by simp)⟩
theorem Z78 {f g:Frame} (h:FrR P F r f g): (∀ d b x s k,f.todo ≠ .call d b x s :: k) ∧ ∀ d b x s k,g.todo ≠ .call d b x s :: k:=by
 have:=h.todo
 constructor
 ·intro d b x s k e
  rw [e] at this;generalize g.todo = y at this
  cases this with
  | cons a _=>cases a
 ·intro d b x s k e
  rw [e] at this;generalize f.todo = y at this;generalize hz:(Item.call d b x s :: k) = z at this
  cases this with
  | nil=>cases hz
  | cons a _=>cases hz;cases a
  | tail _ hk=>cases hk _ (by rw [← hz];rfl)
  | cut _ _ _=>cases hz
theorem Z0S (S:Strip P F (CodeOk P false) G) {f:FuncId} {xs ys:Array Value} (h:VRs r xs ys) (g:G f) (hg:∀ f,G f → F[f]? = P.funcs[f]? ∧ (∃ fn c,F[f]? = some fn ∧ fn.body = some c) ∧ Jk.gd f ∧ ¬ Jk.law f) {k:CallKind} (hk:k = .normal ∨ k = .deferred) :
  FrR P F r (Frame.enter (PF P F) f xs k) (Frame.enter P f ys k):=by
 obtain ⟨e,⟨fn,c,hf,hc⟩,gf,nl⟩:=hg f g;have e0:(PF P F).funcs = F:=rfl;have hp:P.funcs[f]? = some fn:=e ▸ hf;unfold Frame.enter;rw [e0,hf,hp];obtain ⟨_,h2,_⟩:=S.own f fn c gf hf hc;refine ⟨rfl,e,?_,?_,⟨.nil,fun _=>rfl⟩,.run,⟨rfl,hk⟩,.none⟩
 ·simp only [h.1]
  exact h.append (Arr.replicate _ .undef)
 ·simp only [Option.bind_some,hc,Option.getD_some]
  exact .cons (.code (J:=Jk.law f) (N:=¬ Jk.gd f) (h2.weak nl (fun h=>h gf))) .nil
theorem Z7h {f:FuncId} {xs:Array Value} {k:CallKind} {A:List Frame} {P:Program} (nl:¬ Jk.law f) (h:k = .normal ∨ A ≠ []): Low (Frame.enter P f xs k) A:=⟨h,fun _=>nl⟩
def GOk (P:Program) (F:Array Func) (G:FuncId → Prop):Prop:=∀ f,G f → F[f]? = P.funcs[f]? ∧ (∃ fn c,F[f]? = some fn ∧ fn.body = some c) ∧ Jk.gd f ∧ ¬ Jk.law f
def Z2h (fr:Frame):CallKind:=match fr.todo with | .call _ true _ _ :: _=>.wrapped | _=>.normal
def lst (P:Program) (fr:Frame) (s:Sem Next) (w:World):Array Event:=seen P fr.fn (if fr.kind == .early then #[] else s.events P w #[])
section
variable {f:Frame} {C:List Frame} {s:Sem Next} {w':World}
theorem Z0c {x:Value} (h:s.run P w = .ok (.value x) w'): stepG.apply P true f C none s w = .after (lst P f s w) (.go (run1 (f.finish x) C) w'):=by
 unfold stepG.apply;simp only [if_true,Sem.runT_eq,h]
 rfl
theorem Z2l (h:s.run P w = .ok .skip w'):stepG.apply P true f C none s w = .after (lst P f s w) (.go (run1 (f.finish undef) C) w'):=by
 unfold stepG.apply;simp only [if_true,Sem.runT_eq,h]
 rfl
theorem Z0r {x:FuncId} {xs:Array Value} (h:s.run P w = .ok (.enter x xs) w'): stepG.apply P true f C none s w = .after (lst P f s w) (.go (run1 (Frame.enter P x xs (Z2h f)) (f :: C)) w'):=by
 unfold stepG.apply;simp only [if_true,Sem.runT_eq,h]
 rfl
theorem Z2P {l:Nat} {x:FuncId} {xs:Array Value} {a b:Code} (h:s.run P w = .ok (.round l x xs a b) w'): stepG.apply P true f C none s w = .after (lst P f s w) (.go (run1 (Frame.round l x xs a b .normal) (f :: C)) w'):=by
 unfold stepG.apply;simp only [if_true,Sem.runT_eq,h]
 rfl
theorem Z20 {d:Deferred} (h:s.run P w = .ok (.defer d) w'): stepG.apply P true f C none s w = .after (lst P f s w) (.go (run1 (Frame.finish { f with defers:=d :: f.defers } undef) C) w'):=by
 unfold stepG.apply;simp only [if_true,Sem.runT_eq,h]
 rfl
theorem Z2S {x:Value} (h:s.run P w = .halt (.panic x) w'): stepG.apply P true f C none s w = .after (lst P f s w) (.go (run1 (f.raise [{ v:=x,recovered:=false }]) C) w'):=by
 unfold stepG.apply;simp only [if_true,Sem.runT_eq,h]
 rfl
theorem Z2y (hrec:P.follows .rangeFuncRecover = true) (h:s.run P w = .ok .recover w') (k:tryRecover f C = none):stepG.apply P true f C none s w = .after (lst P f s w) (.go (run1 (f.finish .nilIface) C) w'):=by
 unfold stepG.apply;simp only [if_true,Sem.runT_eq,h,hrec,k]
 cases f.roundOf <;> rfl
theorem Z3A (hrec:P.follows .rangeFuncRecover = true) {x:Value} {C':List Frame} (h:s.run P w = .ok .recover w') (k:tryRecover f C = some (x,C')): stepG.apply P true f C none s w = .after (lst P f s w) (.go (run1 (f.finish x) C') w'):=by
 unfold stepG.apply;simp only [if_true,Sem.runT_eq,h,hrec,k]
 cases f.roundOf <;> rfl
theorem Z3K {x:Halt} (h:s.run P w = .halt x w') (d:Dies x):∃ o w2 es,stepG.apply P true f C none s w = .ended o w2 es:=by
 unfold stepG.apply;simp only [if_true,Sem.runT_eq,h]
 cases x with
 | stuck y=>exact ⟨_,_,_,rfl⟩
 | unsupported y=>cases y <;> first | exact ⟨_,_,_,rfl⟩ | exact d.elim
 | _=>exact d.elim
end
theorem Z4I {f g:Frame} (h:FrR P F r f g): Z2h f = .normal ∧ Z2h g = .normal:=by
 have:=h.todo;unfold Z2h;generalize f.todo = x at this ⊢;generalize g.todo = y at this ⊢
 cases this with
 | nil=>exact ⟨rfl,rfl⟩
 | cons a b=>cases a <;> exact ⟨rfl,rfl⟩
 | cut _ _ _=>exact ⟨rfl,rfl⟩
 | tail _ hk =>
  refine ⟨rfl,?_⟩
  split
  ·rename_i e;cases hk _ (by rw [e];rfl)
  ·rfl
theorem Z4U (S:Strip P F (CodeOk P false) G) (hg:GOk P F G) (hrec:P.follows .rangeFuncRecover = true) {f g:Frame} {A B:List Frame} (hs:Stk P F r (f :: A) (g :: B)) (hw:WR (Iv P F) r v w) {s s':Sem Next} {df:Prop} (hdf:df → ¬ Jk.law f.fn) (h:SR (PF P F) P (Iv P F) (NR (Iv P F) G df) r s s'): ZC P F cs r v w (stepG.apply (PF P F) true f (A ++ [poison]) none s v) (stepG.apply P true g (B ++ cs) none s' w):=by
 obtain ⟨hf,hst,hd⟩:=hs.uncons;have o:=h.sim v w hw #[];have ke2:(g.kind == CallKind.early) = false:=by rw [← hf.kind.1];rcases hf.kind.2 with q | q <;> rw [q] <;> rfl
 have go_:∀ {r':Ren} {f' g':Frame} {A' B':List Frame} {v' w':World} {ns:Array Event} (e1:Array Event),s'.events P w #[] = #[] ++ ns → Stk P F r' (f' :: A') (g' :: B') → WR (Iv P F) r' v' w' → Kept r r' v v' w w' → (∀ e ∈ ns,EvG r' v w' e) →
   ZC P F cs r v w (.after e1 (.go (run1 f' (A' ++ [poison])) v')) (.after (lst P g s' w) (.go (run1 g' (B' ++ cs)) w')):=by
  intro r' f' g' A' B' v' w' ns e1 he h1 h2 h3 h4;refine ZC.go h1 h2 h3 fun e hm=>?_;simp only [Array.append_empty] at hm;have:=Conc.mem_seen hm;rw [ke2,he] at this;simp only [Bool.false_eq_true,if_false,Array.empty_append] at this;exact h4 e this
 rw [Sem.runT_eq] at o
 cases hr:s.run (PF P F) v with
 | halt x v' =>
  rw [hr] at o
  cases x with
  | panic x =>
   obtain ⟨r',x',w',ns,e,hw',hx,hk,he⟩:=o;simp only [Prod.mk.injEq] at e;rw [Z2S hr,Z2S e.1];exact go_ _ e.2 ((hst.mono hk.le).cons ((hf.mono hk.le).raise (.cons ⟨hx,rfl,rfl⟩ .nil)) (hd.raise _)) hw' hk he
  | stuck y =>
   obtain ⟨o2,w2,es,e⟩:=Z3K (f:=f) (C:=A ++ [poison]) hr trivial;rw [e];trivial
  | unsupported y =>
   obtain ⟨o2,w2,es,e⟩:=Z3K (f:=f) (C:=A ++ [poison]) hr o;rw [e];trivial
  | _=>exact o.elim
 | ok n v' =>
  rw [hr] at o;obtain ⟨r',b,w',ns,e,hw',hn,hk,he⟩:=o;simp only [Prod.mk.injEq] at e;obtain ⟨e1,e2⟩:=e;have hf':=hf.mono hk.le;have hst':=hst.mono hk.le
  cases hn with
  | value q =>
   rw [Z0c hr,Z0c e1];exact go_ _ e2 (hst'.cons (hf'.finish q) (hd.finish _)) hw' hk he
  | skip =>
   rw [Z2l hr,Z2l e1];exact go_ _ e2 (hst'.cons (hf'.finish .undef) (hd.finish _)) hw' hk he
  | enter gf q =>
   rw [Z0r hr,Z0r e1,(Z4I hf).1,(Z4I hf).2];exact go_ (A':=f :: A) (B':=g :: B) _ e2 ((hst'.cons hf' hd).cons (Z0S S q gf hg (.inl rfl)) (Z7h (hg _ gf).2.2.2 (.inl rfl))) hw' hk he
  | round hl hn q ha hb =>
   rw [Z2P hr,Z2P e1];refine go_ (A':=f :: A) (B':=g :: B) _ e2 ((hst'.cons hf' hd).cons ?_ ⟨.inl rfl,fun _=>(S.same _ hn).2⟩) hw' hk he;exact ⟨rfl,(S.same _ hn).1,q,.cons (.code (ha.weak (S.same _ hn).2 (fun h=>h hn))) (.cons .begin_ (.cons (.code (hb.weak (S.same _ hn).2 (fun h=>h hn))) .nil)),⟨.nil,fun _=>rfl⟩,.run,⟨rfl,.inl rfl⟩,.some hl⟩
  | defer dq q =>
   rw [Z20 hr,Z20 e1];have hfd:FrR P F r' { f with defers:=_ :: f.defers } { g with defers:=_ :: g.defers }:=⟨hf'.fn,hf'.own,hf'.tmps,hf'.todo,⟨.cons q hf'.defers.1,fun l=>absurd l (hdf dq)⟩,hf'.mode,hf'.kind,hf'.round⟩;refine go_ (A':=A) (B':=B) _ e2 (hst'.cons (hfd.finish .undef) (Low.finish (f:={ f with defers:=_ :: f.defers }) hd _)) hw' hk he
  | recover =>
   rcases Z4T (cs:=cs) (hst'.cons hf' hd) with ⟨h1,h2⟩ | ⟨x,A',y,B',h1,h2,h3,h4,h5⟩
   ·rw [Z2y (P:=PF P F) hrec hr h1,Z2y hrec e1 h2]
    exact go_ _ e2 (hst'.cons (hf'.finish .iface0) (hd.finish _)) hw' hk he
   ·rw [Z3A (P:=PF P F) hrec hr h1,Z3A hrec e1 h2]
    exact go_ _ e2 (h4.cons (hf'.finish h3) (h5.finish _)) hw' hk he
end
end Go.Proofs.YtfelljbfeoplhaaGreat.Lift
namespace Go.Proofs.YtfelljbfeoplhaaGreat.Lift
open Go
variable [Jk]
section
variable {P:Program} {F:Array Func} {G:FuncId → Prop} {r:Ren} {cs:List Frame} {v w:World}
theorem ZC.lift {r₁:Ren} {v₁ w₁:World} {x y:GStep} {e1 e2:Array Event} (hk:Kept r r₁ v v₁ w w₁) (he:∀ e ∈ e2,EvG r₁ v w₁ e) (h:ZC P F cs r₁ v₁ w₁ x y):ZC P F cs r v w (.after e1 x) (.after e2 y):=by
 cases x with
 | go g v' es =>
  rcases h with h | ⟨r',f,W,w',ns,rfl,h1,h2,h3,h4,h5,h6,h7⟩
  ·exact .inl h
  ·refine .inr ⟨r',f,W,w',e2 ++ ns,rfl,h1,h2,h3,h4,h5,hk.trans h6,fun e hm=>?_⟩
   rcases Array.mem_append.1 hm with q | q
   ·exact (he e q).more h6.le h6.sizeW
   ·exact (h7 e q).lift hk
 | ended o v' es=>trivial
 | _=>exact h.elim
theorem ZC.still {f g:Frame} {A B:List Frame} (h:Stk P F r (f :: A) (g :: B)) (hw:WR (Iv P F) r v w): ZC P F cs r v w (.go (run1 f (A ++ [poison])) v) (.go (run1 g (B ++ cs)) w):=ZC.go h hw (Kept.refl _ _ _) (by simp)
theorem ZdP {ps qs:List PanicEntry} (h:Lis (PR r) ps qs):Lis (PR r) (ps.dropWhile (!·.goexit)) (qs.dropWhile (!·.goexit)):=by
 induction h with
 | nil=>exact .nil
 | cons a t ih =>
  rw [List.dropWhile_cons,List.dropWhile_cons,a.2.2]
  split
  ·exact ih
  ·exact .cons a t
theorem Z2j {f g:Frame} {A B:List Frame} (hs:Stk P F r (f :: A) (g :: B)) (hw:WR (Iv P F) r v w) {x y:Value} (hx:VR r x y) {m:Bool}:
  ZC P F cs r v w (doReturn (PF P F) true f (A ++ [poison]) none x v) (doReturn P m g (B ++ cs) none y w):=by
 obtain ⟨hf,hst,hd⟩:=hs.uncons;obtain ⟨c,cb⟩:=hst;obtain ⟨k1,k2⟩:=hf.kind
 cases c with
 | nil =>
  have hk:=hd.1.resolve_right (by simp);unfold doReturn;simp only [List.nil_append,hk];exact .inl (.inl rfl)
 | @cons a b az bs hab hrest =>
  obtain ⟨hfr,hst,hk⟩:=Stk.uncons (P:=P) (F:=F) (r:=r) (f:=a) (g:=b) ⟨.cons hab hrest,cb⟩;unfold doReturn;simp only [List.cons_append,← k1]
  rcases k2 with k2 | k2
  ·simp only [k2]
   exact ZC.still (hst.cons (hfr.finish hx) (hk.finish _)) hw
  ·simp only [k2]
   have km:=hfr.mode;have out:∀ {am bm:FrameMode},MR r am bm → ZC P F cs r v w (.go (run1 { a with mode:=am } (az ++ [poison])) v) (.go (run1 { b with mode:=bm } (bs ++ cs)) w):=fun q =>
    ZC.still (hst.cons ⟨hfr.fn,hfr.own,hfr.tmps,hfr.todo,hfr.defers,q,hfr.kind,hfr.round⟩ hk) hw
   have same:ZC P F cs r v w (.go (run1 a (az ++ [poison])) v) (.go (run1 b (bs ++ cs)) w):=ZC.still (hst.cons hfr hk) hw;generalize ha:a.mode = am at km;generalize hb:b.mode = bm at km
   cases km with
   | run=>exact same
   | returning=>exact same
   | panicking q =>
    cases q with
    | nil=>exact same
    | @cons p q ps qs hpq hps =>
     obtain ⟨pv,pr,pg⟩:=p;obtain ⟨qv,qr,qg⟩:=q;obtain ⟨h1,h2,h3⟩:=hpq;obtain rfl:pr = qr:=h2
     cases pr
     ·exact same
     ·have:=ZdP hps
      dsimp only;generalize ps.dropWhile (!·.goexit) = d1 at this ⊢;generalize qs.dropWhile (!·.goexit) = d2 at this ⊢
      cases this with
      | nil=>exact out .returning
      | cons u t=>exact out (.panicking (.cons u t))
theorem Z1y {fn:Func} {xs ys:Array Value} (h:VRs r xs ys): SR (PF P F) P (Iv P F) VA r (results fn xs) (results fn ys):=by
 unfold results;rw [Array.mapM_eq_mapM_toList,Array.mapM_eq_mapM_toList];simp only [map_eq_pure_bind,bind_assoc,pure_bind];have key:∀ (l:List ResultVar) {r:Ren} {f g:List Value → Sem Value},VRs r xs ys → (∀ r',r.le r' → ∀ us vs,Lis (VR r') us vs → SR (PF P F) P (Iv P F) VA r' (f us) (g vs)) →
   SR (PF P F) P (Iv P F) VA r
    (l.mapM (fun | .tmp t=>pure (xs.getD t undef) | .cell a t=>(do loadVar t (← asAddr (xs.getD a undef)):Sem Value)) >>= f)
    (l.mapM (fun | .tmp t=>pure (ys.getD t undef) | .cell a t=>(do loadVar t (← asAddr (ys.getD a undef)):Sem Value)) >>= g):=by
  intro l
  induction l with
  | nil=>exact fun h k=>k _ (Ren.le_refl _) _ _ .nil
  | cons a l ih =>
   intro r f g h k;have gt:∀ {r':Ren} (t:Tmp),r.le r' → VR r' (xs.getD t undef) (ys.getD t undef):=by
    intro r' t hr;rw [Array.getD_eq_getD_getElem?,Array.getD_eq_getD_getElem?]
    rcases (VRs.mono hr h).get t with ⟨a,b⟩ | ⟨x,y,a,b,q⟩
    ·rw [a,b];exact .undef
    ·rw [a,b];exact q
   simp only [List.mapM_cons,bind_assoc,pure_bind];have step:SR (PF P F) P (Iv P F) VA r
     (match a with | .tmp t=>pure (xs.getD t undef) | .cell a t=>(do loadVar t (← asAddr (xs.getD a undef)):Sem Value))
     (match a with | .tmp t=>pure (ys.getD t undef) | .cell a t=>(do loadVar t (← asAddr (ys.getD a undef)):Sem Value)):=by
    cases a with
    | tmp t=>exact .pure (gt t (Ren.le_refl _))
    | cell a t=>exact Z4 (Z83 (gt a (Ren.le_refl _))) fun _ _ x y q=>Z5K q
   refine Z4 step fun r1 hr1 x y q=>?_;exact ih (VRs.mono hr1 h) fun r2 hr2 us vs huv=>k r2 (Ren.le_trans hr1 hr2) _ _ (.cons (q.mono hr2) huv)
 refine key _ h fun r' hr us vs huv=>?_
 cases huv with
 | nil=>exact .pure (.tupA .nil)
 | @cons u v us vs a t =>
  cases t with
  | nil=>exact .pure a
  | cons b t =>
   refine .pure ?_;rw [dif_neg (by simp),dif_neg (by simp)];exact .tupA (Lis.arr (.cons a (.cons b t)))
theorem Zdu (S:Strip P F (CodeOk P false) G) {l l':Nat} {f:FuncId} {xs ys:Array Value} {a b:Code} {k:CallKind} (hk:k = .normal ∨ k = .deferred) (hl:r l = some l') (hn:(Iv P F).fn f) (q:VRs r xs ys) (ha:(Iv P F).code a) (hb:(Iv P F).code b):
  FrR P F r (Frame.round l f xs a b k) (Frame.round l' f ys a b k):=
 ⟨rfl,(S.same _ hn).1,q,.cons (.code (ha.weak (S.same _ hn).2 (fun h=>h hn))) (.cons .begin_ (.cons (.code (hb.weak (S.same _ hn).2 (fun h=>h hn))) .nil)),⟨.nil,fun _=>rfl⟩,.run,⟨rfl,hk⟩,.some hl⟩
def lsd (P:Program) (fr:Frame) (t:Target) (az:Array Value) (w:World):Array Event:=seen P fr.fn ((invoke t az).events P w #[])
section
variable {f:Frame} {K:List Frame} {x:Fn} {xs az:Array Value} {w':World}
theorem Z4i {y:Value} (h:(invoke (.fn x xs) az).run P w = .ok (.value y) w'): callDeferred P f K none ⟨.fn x xs,az⟩ w = .after (lsd P f (.fn x xs) az w) (.go (run1 f K) w'):=by
 unfold callDeferred;simp only [Sem.runT_eq,h]
 rfl
theorem Z91 (h:(invoke (.fn x xs) az).run P w = .ok .skip w'):callDeferred P f K none ⟨.fn x xs,az⟩ w = .after (lsd P f (.fn x xs) az w) (.go (run1 f K) w'):=by
 unfold callDeferred;simp only [Sem.runT_eq,h]
 rfl
theorem Z76 {d:Deferred} (h:(invoke (.fn x xs) az).run P w = .ok (.defer d) w'): callDeferred P f K none ⟨.fn x xs,az⟩ w = .after (lsd P f (.fn x xs) az w) (.go (run1 f K) w'):=by
 unfold callDeferred;simp only [Sem.runT_eq,h]
 rfl
theorem Z34 {y:FuncId} {ys:Array Value} (h:(invoke (.fn x xs) az).run P w = .ok (.enter y ys) w'): callDeferred P f K none ⟨.fn x xs,az⟩ w = .after (lsd P f (.fn x xs) az w) (.go (run1 (Frame.enter P y ys .deferred) (f :: K)) w'):=by
 unfold callDeferred;simp only [Sem.runT_eq,h]
 rfl
theorem Z6a {l:Nat} {y:FuncId} {ys:Array Value} {a b:Code} (h:(invoke (.fn x xs) az).run P w = .ok (.round l y ys a b) w'): callDeferred P f K none ⟨.fn x xs,az⟩ w = .after (lsd P f (.fn x xs) az w) (.go (run1 (Frame.round l y ys a b .deferred) (f :: K)) w'):=by
 unfold callDeferred;simp only [Sem.runT_eq,h]
 rfl
theorem Z61 {y:Value} (h:(invoke (.fn x xs) az).run P w = .halt (.panic y) w'): callDeferred P f K none ⟨.fn x xs,az⟩ w = .after (lsd P f (.fn x xs) az w) (.go (run1 (f.raise [{ v:=y,recovered:=false }]) K) w'):=by
 unfold callDeferred;simp only [Sem.runT_eq,h]
 rfl
theorem Z8O {y:Halt} (h:(invoke (.fn x xs) az).run P w = .halt y w') (d:Dies y):∃ o w2 es,callDeferred P f K none ⟨.fn x xs,az⟩ w = .ended o w2 es:=by
 unfold callDeferred;simp only [Sem.runT_eq,h]
 cases y with
 | stuck y=>exact ⟨_,_,_,rfl⟩
 | unsupported y=>exact ⟨_,_,_,rfl⟩
 | _=>exact d.elim
theorem ZbQ {b:Nat}: ∃ o w2 es,callDeferred P f K none ⟨.collected b,az⟩ w = .ended o w2 es:=by
 unfold callDeferred;exact ⟨_,_,_,rfl⟩
theorem Zcs {ps:List PanicEntry} (hm:f.mode = .panicking ps):∃ o w2 es,callDeferred P f K none ⟨.nil,az⟩ w = .ended o w2 es:=by
 unfold callDeferred;rw [hm];exact ⟨_,_,_,rfl⟩
theorem Z67 (hm : f.mode = .run ∨ f.mode = .returning) : callDeferred P f K none ⟨.nil, az⟩ w = .after (lsd P f .nil az w) (.go (run1 (f.raise [{ v := .iface P.rt.errorString (strVal "invalid memory address or nil pointer dereference"), recovered := false }]) K) w) := by
 unfold callDeferred
 rcases hm with hm | hm
 ·simp only [Sem.runT_eq]
  rw [hm]
  rfl
 ·simp only [Sem.runT_eq]
  rw [hm]
  rfl
theorem Zbm (h:(invoke (.fn x xs) az).run P w = .ok .recover w'):callDeferred P f K none ⟨.fn x xs,az⟩ w = .after (lsd P f (.fn x xs) az w) (match f.mode,tryRecover f K with
  | .returning,some (_,K')=>.go (run1 f K') w'
  | _,_=>.go (run1 f K) w'):=by
 unfold callDeferred;simp only [Sem.runT_eq,h]
 rfl
end
theorem Z22 (S:Strip P F (CodeOk P false) G) (hg:GOk P F G) {f g:Frame} {A B:List Frame} (hs:Stk P F r (f :: A) (g :: B)) (hw:WR (Iv P F) r v w) {d d':Deferred} (hd:DR r d d'):
  ZC P F cs r v w (callDeferred (PF P F) f (A ++ [poison]) none d v) (callDeferred P g (B ++ cs) none d' w):=by
 obtain ⟨hf,hst,hb⟩:=hs.uncons;have o:=(Z2b (df:=True) S hd.1 hd.2).sim v w hw #[];obtain ⟨t,az⟩:=d;obtain ⟨t',bs⟩:=d';obtain ⟨ht,ha⟩:=hd;dsimp only at ht ha o;rw [Sem.runT_eq] at o;have go_:∀ {r':Ren} {f' g':Frame} {A' B':List Frame} {v' w':World} {ns:Array Event} (e1:Array Event),(invoke t' bs).events P w #[] = #[] ++ ns → Stk P F r' (f' :: A') (g' :: B') → WR (Iv P F) r' v' w' → Kept r r' v v' w w' → (∀ e ∈ ns,EvG r' v w' e) →
   ZC P F cs r v w (.after e1 (.go (run1 f' (A' ++ [poison])) v')) (.after (lsd P g t' bs w) (.go (run1 g' (B' ++ cs)) w')):=by
  intro r' f' g' A' B' v' w' ns e1 he h1 h2 h3 h4;refine ZC.go h1 h2 h3 fun e hm=>?_;simp only [Array.append_empty] at hm;have:=Conc.mem_seen hm;rw [he] at this;simp only [Array.empty_append] at this;exact h4 e this
 cases ht with
 | nil =>
  have km:=hf.mode;have run_:(f.mode = .run ∨ f.mode = .returning) → (g.mode = .run ∨ g.mode = .returning) → ZC P F cs r v w (callDeferred (PF P F) f (A ++ [poison]) none ⟨.nil,az⟩ v) (callDeferred P g (B ++ cs) none ⟨.nil,bs⟩ w):=by
   intro h1 h2;rw [Z67 h1,Z67 h2];exact go_ (ns:=#[]) _ rfl (hst.cons (hf.raise (.cons ⟨.iface _ (.string _),rfl,rfl⟩ .nil)) (hb.raise _)) hw (Kept.refl _ _ _) (by simp)
  generalize hx:f.mode = fm at km;generalize hy:g.mode = gm at km
  cases km with
  | run=>exact run_ (.inl hx) (.inl hy)
  | returning=>exact run_ (.inr hx) (.inr hy)
  | panicking q =>
   obtain ⟨o2,w2,es,e⟩:=Zcs (P:=PF P F) (K:=A ++ [poison]) (az:=az) (w:=v) hx;rw [e];trivial
 | collected q =>
  obtain ⟨o2,w2,es,e⟩:=ZbQ (P:=PF P F) (f:=f) (K:=A ++ [poison]) (az:=az) (w:=v);rw [e];trivial
 | fn hfn hx =>
  cases hr:(invoke (.fn _ _) az).run (PF P F) v with
  | halt x v' =>
   rw [hr] at o
   cases x with
   | panic x =>
    obtain ⟨r',x',w',ns,e,hw',hx,hk,he⟩:=o;simp only [Prod.mk.injEq] at e;rw [Z61 hr,Z61 e.1];exact go_ _ e.2 ((hst.mono hk.le).cons ((hf.mono hk.le).raise (.cons ⟨hx,rfl,rfl⟩ .nil)) (hb.raise _)) hw' hk he
   | stuck y =>
    obtain ⟨o2,w2,es,e⟩:=Z8O (f:=f) (K:=A ++ [poison]) hr trivial;rw [e];trivial
   | unsupported y =>
    obtain ⟨o2,w2,es,e⟩:=Z8O (f:=f) (K:=A ++ [poison]) hr o;rw [e];trivial
   | _=>exact o.elim
  | ok n v' =>
   rw [hr] at o;obtain ⟨r',b,w',ns,e,hw',hn,hk,he⟩:=o;simp only [Prod.mk.injEq] at e;obtain ⟨e1,e2⟩:=e;have hf':=hf.mono hk.le;have hst':=hst.mono hk.le
   cases hn with
   | value q=>rw [Z4i hr,Z4i e1];exact go_ _ e2 (hst'.cons hf' hb) hw' hk he
   | skip=>rw [Z91 hr,Z91 e1];exact go_ _ e2 (hst'.cons hf' hb) hw' hk he
   | enter gf q=>rw [Z34 hr,Z34 e1];exact go_ (A':=f :: A) (B':=g :: B) _ e2 ((hst'.cons hf' hb).cons (Z0S S q gf hg (.inr rfl)) (Z7h (hg _ gf).2.2.2 (.inr (by simp)))) hw' hk he
   | round hl hn q ha hb2=>rw [Z6a hr,Z6a e1];exact go_ (A':=f :: A) (B':=g :: B) _ e2 ((hst'.cons hf' hb).cons (Zdu S (.inr rfl) hl hn q ha hb2) ⟨.inr (by simp),fun _=>(S.same _ hn).2⟩) hw' hk he
   | defer _ q=>rw [Z76 hr,Z76 e1];exact go_ _ e2 (hst'.cons hf' hb) hw' hk he
   | recover =>
    rw [Zbm hr,Zbm e1];have same:=fun e0=>go_ (f':=f) (g':=g) (A':=A) (B':=B) e0 e2 (hst'.cons hf' hb) hw' hk he;have km:=hf'.mode;generalize f.mode = fm at km ⊢;generalize g.mode = gm at km ⊢
    rcases Z4T (cs:=cs) (hst'.cons hf' hb) with ⟨h1,h2⟩ | ⟨x,A',y,B',h1,h2,h3,h4,h5⟩
    ·rw [h1,h2]
     cases km <;> exact same _
    ·rw [h1,h2]
     cases km with
     | returning=>exact go_ (A':=A') (B':=B') _ e2 (h4.cons hf' h5) hw' hk he
     | run=>exact same _
     | panicking q=>exact same _
end
end Go.Proofs.YtfelljbfeoplhaaGreat.Lift
namespace Go.Proofs.YtfelljbfeoplhaaGreat.Lift
open Go
variable [Jk]
section
variable {P:Program} {F:Array Func} {G:FuncId → Prop} {r:Ren} {cs:List Frame} {v w:World}
theorem Z0x {g:Frame} {es:Array Event} {ns:Array Event} {r':Ren} {w':World} (h:es = #[] ++ ns) (he:∀ e ∈ ns,EvG r' v w' e): ∀ e ∈ seen P g.fn es,EvG r' v w' e:=fun e hm=>by
 have:=Conc.mem_seen hm;rw [h] at this;simp only [Array.empty_append] at this;exact he e this
theorem Zc7 {b c:Nat} (h:r b = some c): SR (PF P F) P (Iv P F) (fun r a b=>Lis (DR r) a b) r (Instr.takeDeferred b) (Instr.takeDeferred c):=by
 unfold Instr.takeDeferred;refine Z85 h fun r' hr o o' ho=>?_
 cases ho with
 | def1 q=>exact .setObj (hr.1 _ _ h) .def0 (by simp) (.pure q)
 | _=>exact Z2
theorem Z5z (S:Strip P F (CodeOk P false) G) (hg:GOk P F G) {f g:Frame} {A B:List Frame} (hs:Stk P F r (f :: A) (g :: B)) (hw:WR (Iv P F) r v w) {m:Bool}:
  ZC P F cs r v w (unwind (PF P F) true f (A ++ [poison]) none v) (unwind P m g (B ++ cs) none w):=by
 obtain ⟨hf,hst,hb⟩:=hs.uncons;have hd:=hf.defers.1;have nl:f.defers ≠ [] → ¬ Jk.law f.fn:=fun h l=>h (hf.defers.2 l);unfold unwind;generalize f.defers = ds at hd nl ⊢;generalize g.defers = es at hd ⊢;have with_:∀ {r':Ren} {xs ys:List Deferred},r.le r' → Lis (DR r') xs ys → ds ≠ [] → Stk P F r' ({ f with defers:=xs } :: A) ({ g with defers:=ys } :: B):=by
  intro r' xs ys hr q hne;have hf':=hf.mono hr;exact (hst.mono hr).cons ⟨hf'.fn,hf'.own,hf'.tmps,hf'.todo,⟨q,fun l=>absurd l (nl hne)⟩,hf'.mode,hf'.kind,hf'.round⟩ hb
 cases hd with
 | @cons d e ds es hde hrest =>
  obtain ⟨t,az⟩:=d;obtain ⟨t',bs⟩:=e;have hde0:=hde;obtain ⟨ht,ha⟩:=hde;dsimp only at ht ha
  cases ht with
  | collected q =>
   have o:=(Zc7 (P:=P) (F:=F) q).sim v w hw #[];simp only [Sem.runT_eq] at o ⊢
   cases hr:(Instr.takeDeferred _).run (PF P F) v with
   | halt x v'=>trivial
   | ok n v' =>
    rw [hr] at o;obtain ⟨r',b,w',ns,e,hw',hn,hk,he⟩:=o;simp only [Prod.mk.injEq] at e;rw [e.1,e.2];refine ZC.lift hk (Z0x rfl he) (ZC.still (with_ hk.le (hn.append (hrest.imp fun _ _=>DR.mono hk.le)) (by simp)) hw')
  | nil=>exact Z22 S hg (with_ (Ren.le_refl _) hrest (by simp)) hw hde0
  | fn a b=>exact Z22 S hg (with_ (Ren.le_refl _) hrest (by simp)) hw hde0
 | nil =>
  have km:=hf.mode;dsimp only;generalize hx:f.mode = fm at km;generalize hy:g.mode = gm at km
  cases km with
  | run=>trivial
  | panicking q =>
   have c1:f.catches (PF P F) = false:=by
    unfold Frame.catches
    split
    ·rename_i e2;exact absurd e2 ((Z78 hf).1 _ _ _ _ _)
    ·rfl
   have c2:g.catches P = false:=by
    unfold Frame.catches
    split
    ·rename_i e2;exact absurd e2 ((Z78 hf).2 _ _ _ _ _)
    ·rfl
   dsimp only;rw [c1,c2];obtain ⟨c,cb⟩:=hst
   cases c with
   | nil=>exact .inl (.inr ⟨_,rfl⟩)
   | @cons a b az bs hab hrest =>
    obtain ⟨hfr,hst,hk⟩:=Stk.uncons (P:=P) (F:=F) (r:=r) (f:=a) (g:=b) ⟨.cons hab hrest,cb⟩;exact ZC.still (hst.cons (hfr.raise q) (hk.raise _)) hw
  | returning =>
   dsimp only;have e0:(PF P F).funcs = F:=rfl;rw [e0,hf.own,← hf.fn]
   cases hfn:P.funcs[f.fn]? with
   | none =>
    refine Z2j hs hw ?_;rw [Array.getD_eq_getD_getElem?,Array.getD_eq_getD_getElem?]
    rcases hf.tmps.get 0 with ⟨a,b⟩ | ⟨x,y,a,b,q⟩
    ·rw [a,b];exact .undef
    ·rw [a,b];exact q
   | some fn =>
    have o:=(Z1y (P:=P) (F:=F) (fn:=fn) hf.tmps).sim v w hw #[];simp only [Sem.runT_eq] at o ⊢
    cases hr:(results fn f.tmps).run (PF P F) v with
    | halt x v'=>cases x <;> trivial
    | ok n v' =>
     rw [hr] at o;obtain ⟨r',b,w',ns,e,hw',hn,hk,he⟩:=o;simp only [Prod.mk.injEq] at e;rw [e.1,e.2];rw [hf.fn];exact ZC.lift hk (Z0x rfl he) (Z2j (hs.mono hk.le) hw' hn)
end
end Go.Proofs.YtfelljbfeoplhaaGreat.Lift
