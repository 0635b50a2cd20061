/- Parts of a proof: Bk, Bo, Bp, Bq, Br, Dlt, Dki, Dch, Dcp, Dck. No conditions. -/
import Derived.Laws.IdiomCopy
import Derived.Laws.Slices
import Derived.WideShapes
import Derived.Test.YtfelljbfeoplhaaGreatPal5
set_option linter.unusedVariables false
set_option linter.unusedSimpArgs false
set_option linter.unusedSectionVars false
set_option maxRecDepth 100000
set_option maxHeartbeats 4000000
variable {c:Go.Code}
namespace Go.Proofs.YtfelljbfeoplhaaGreat
open Go Go.RowKit
variable {μ:Nat}
inductive Fc where
 | q (n:Nat) (cs:Array Value) (T:TypeId)
 | e (X:List Nat) (w0:World)
 | o (base:Nat) (e:TypeId) (sz:Nat) (v:Value) (n:Nat) (xs:List Value)
 | l (w0:World) (b k:Nat) (nv:Value)
 | f (b:Nat) (M:List (Value × List Int))
def Fc.At (w:World):Fc → Prop
 | .q m cs T=>w.heap[m]? = some (.cells cs T (0,0))
 | .e X w0=>Ext X w0 w
 | .o base E sz v m xs=>w.ownsRow base E sz v m xs
 | .l w0 b k nv=>Zh w0 w b k nv
 | .f b M=>FamT w b M
def Bk (w:World):List Fc → Prop
 | []=>True
 | f :: L=>f.At w ∧ Bk w L
theorem Bk.nil (w:World):Bk w []:=trivial
def nth:List Fc → Nat → Option Fc
 | [],_=>none
 | f :: _,0=>some f
 | _ :: L,i + 1=>nth L i
def upf:List Fc → Nat → Fc → Option (List Fc)
 | [],_,_=>none
 | _ :: L,0,g=>some (g :: L)
 | f :: L,i + 1,g=>match upf L i g with
  | some R=>some (f :: R)
  | none=>none
def delf:List Fc → Nat → Option (List Fc)
 | [],_=>none
 | _ :: L,0=>some L
 | f :: L,i + 1=>match delf L i with
  | some R=>some (f :: R)
  | none=>none
@[reducible] def Fc.lt (n:Nat):Fc → Prop
 | .q k _ _=>k < n
 | .e _ w0=>w0.heap.size ≤ n
 | .o _ _ _ v _ _=>some n ≠ v.ownBlock
 | .l w0 b _ _=>w0.heap.size ≤ n ∧ b < n
 | .f ..=>True
@[reducible] def LtA (n:Nat):List Fc → Prop
 | []=>True
 | f :: L=>f.lt n ∧ LtA n L
inductive NeA (c:Nat) (T:TypeId):List Fc → Prop
 | n:NeA c T []
 | q {n cs t L} (h:n ≠ c) (r:NeA c T L):NeA c T (.q n cs t :: L)
 | e {X w0 L} (h:c < w0.heap.size → c ∈ X) (r:NeA c T L):NeA c T (.e X w0 :: L)
 | o {b e s v n xs L} (h:T ≠ e ∨ c < b ∨ some c ≠ v.ownBlock) (r:NeA c T L):NeA c T (.o b e s v n xs :: L)
 | l {w0 b k nv L} (h:w0.heap.size ≤ c ∧ b ≠ c) (r:NeA c T L):NeA c T (.l w0 b k nv :: L)
 | f {b M L} (h:c < b ∨ T ≠ 3) (r:NeA c T L):NeA c T (.f b M :: L)
inductive NeX (X:List Nat):List Fc → Prop
 | n:NeX X []
 | q {n cs t L} (h:n ∉ X) (r:NeX X L):NeX X (.q n cs t :: L)
 | e {Y w0 L} (h:∀ i ∈ X,i < w0.heap.size → i ∈ Y) (r:NeX X L):NeX X (.e Y w0 :: L)
 | o {b e s v n xs L} (h:∀ i ∈ X,i < b) (r:NeX X L):NeX X (.o b e s v n xs :: L)
 | l {w0 b k nv L} (h:False) (r:NeX X L):NeX X (.l w0 b k nv :: L)
 | f {b M L} (h:∀ i ∈ X,i < b) (r:NeX X L):NeX X (.f b M :: L)
inductive NeG (B:Nat) (E:TypeId) (V:Value):List Fc → Prop
 | n:NeG B E V []
 | q {n cs t L} (h:t ≠ E ∨ n < B ∨ some n ≠ V.ownBlock) (r:NeG B E V L):NeG B E V (.q n cs t :: L)
 | e {Y w0 L} (h:w0.heap.size ≤ B) (r:NeG B E V L):NeG B E V (.e Y w0 :: L)
 | o {b e s v n xs L} (h:e ≠ E) (r:NeG B E V L):NeG B E V (.o b e s v n xs :: L)
 | l {w0 b k nv L} (h:w0.heap.size ≤ B ∧ 77 ≠ E) (r:NeG B E V L):NeG B E V (.l w0 b k nv :: L)
 | f {b M L} (h:3 ≠ E) (r:NeG B E V L):NeG B E V (.f b M :: L)
section
variable {w w' w2:World} {L L0 L':List Fc} {n c i:Nat} {T:TypeId} {cs cs':Array Value}
theorem Bk.get:∀ {L:List Fc} {i:Nat} {f:Fc},Bk w L → nth L i = some f → f.At w
 | f :: L,0,g,B,h=>by cases h;exact B.1
 | f :: L,i + 1,g,B,h=>Bk.get (L:=L) (i:=i) B.2 h
theorem Bk.q (B:Bk w L) (i:Nat) (h:nth L i = some (.q n cs T):=by rfl):w.heap[n]? = some (.cells cs T (0,0)):=B.get h
theorem Bk.e {X:List Nat} {w0:World} (B:Bk w L) (i:Nat) (h:nth L i = some (.e X w0):=by rfl): Ext X w0 w:=B.get h
theorem Bk.t {X:List Nat} {w0:World} {p:Prop} (B:Bk w L) (i:Nat) (h:nth L i = some (.e X w0):=by rfl): p → Ext X w0 w:=fun _=>B.get h
theorem Bk.o {b s:Nat} {e:TypeId} {v:Value} {xs:List Value} (B:Bk w L) (i:Nat) (h:nth L i = some (.o b e s v n xs):=by rfl): w.ownsRow b e s v n xs:=B.get h
theorem Bk.l {b k:Nat} {w0:World} {nv:Value} (B:Bk w L) (i:Nat) (h:nth L i = some (.l w0 b k nv):=by rfl): Zh w0 w b k nv:=B.get h
theorem Bk.f {b:Nat} {M:List (Value × List Int)} (B:Bk w L) (i:Nat) (h:nth L i = some (.f b M):=by rfl): FamT w b M:=B.get h
theorem Bk.lt:∀ {L:List Fc},Bk w L → n = w.heap.size → LtA n L
 | [],_,_=>trivial
 | .q .. :: L,B,h=>⟨by rw [h];exact Z3 B.1,Bk.lt (L:=L) B.2 h⟩
 | .e .. :: L,B,h=>⟨by rw [h];exact B.1.size,Bk.lt (L:=L) B.2 h⟩
 | .o .. :: L,B,h=>⟨Z0f B.1 h,Bk.lt (L:=L) B.2 h⟩
 | .l .. :: L,B,h=>⟨⟨by rw [h];exact B.1.2.2.1.size,by rw [h];exact Z2N B.1⟩,Bk.lt (L:=L) B.2 h⟩
 | .f .. :: L,B,h=>⟨trivial,Bk.lt (L:=L) B.2 h⟩
theorem Bk.al {o:Obj} (hw:w2 = w.alloc o):∀ {L:List Fc},Bk w L → Bk w2 L
 | [],_=>trivial
 | .q .. :: L,B=>⟨Z1 hw B.1,Bk.al hw (L:=L) B.2⟩
 | .e .. :: L,B=>⟨Z6 B.1 hw,Bk.al hw (L:=L) B.2⟩
 | .o .. :: L,B=>⟨Z00 hw B.1,Bk.al hw (L:=L) B.2⟩
 | .l .. :: L,B=>⟨ZaE hw B.1,Bk.al hw (L:=L) B.2⟩
 | .f .. :: L,B=>⟨Z0I B.1 fun _ _ _ h=>Z00 hw h,Bk.al hw (L:=L) B.2⟩
theorem Bk.ex:∀ {L:List Fc},Bk w L → Ext [] w w' → Bk w' L
 | [],_,_=>trivial
 | .q .. :: L,B,h=>⟨h.keep0 B.1,Bk.ex (L:=L) B.2 h⟩
 | .e .. :: L,B,h=>⟨Zj B.1 h,Bk.ex (L:=L) B.2 h⟩
 | .o .. :: L,B,h=>⟨Z0n B.1 h (by simp),Bk.ex (L:=L) B.2 h⟩
 | .l .. :: L,B,h=>⟨Z9X h B.1,Bk.ex (L:=L) B.2 h⟩
 | .f .. :: L,B,h=>⟨Z0I B.1 fun _ _ _ k=>Z0n k h (by simp),Bk.ex (L:=L) B.2 h⟩
theorem Bk.up:∀ {L L':List Fc} {i:Nat} {g:Fc},g.At w → upf L i g = some L' → (∀ L0,delf L i = some L0 → Bk w L0) → Bk w L'
 | [],_,_,_,_,h,_=>by cases h
 | f :: L,L',0,g,hg,h,H=>by cases h;exact ⟨hg,H _ rfl⟩
 | f :: L,L',i + 1,g,hg,h,H=>by
  cases hu:upf L i g with
  | none=>simp [upf,hu] at h
  | some R =>
   simp only [upf,hu,Option.some.injEq] at h;subst h
   cases hd:delf L i with
   | none =>
    exfalso;have key:∀ (L:List Fc) (i:Nat) R,upf L i g = some R → delf L i ≠ none:=by
     intro L
     induction L with
     | nil=>intro i R h;cases h
     | cons f L ih =>
      intro i R h
      cases i with
      | zero=>simp [delf]
      | succ i =>
       cases hu:upf L i g with
       | none=>simp [upf,hu] at h
       | some R =>
        have:=ih i R hu
        cases hd:delf L i with
        | none=>exact absurd hd this
        | some R'=>simp [delf,hd]
    exact key _ _ _ hu hd
   | some R0 =>
    have h1:=H (f :: R0) (by simp [delf,hd]);exact ⟨h1.1,Bk.up hg hu fun L0 h0=>by rw [hd] at h0;cases h0;exact h1.2⟩
theorem Bk.del:∀ {L L0:List Fc} {i:Nat},Bk w L → delf L i = some L0 → Bk w L0
 | [],_,_,_,h=>by cases h
 | f :: L,_,0,B,h=>by cases h;exact B.2
 | f :: L,L0,i + 1,B,h=>by
  cases hd:delf L i with
  | none=>simp [delf,hd] at h
  | some R =>
   simp only [delf,hd,Option.some.injEq] at h;subst h;exact ⟨B.1,Bk.del B.2 hd⟩
theorem Bk.d (B:Bk w L) (i:Nat) (h:delf L i = some L0:=by rfl):Bk w L0:=B.del h
theorem Bk.r {g:Fc} (B:Bk w L) (i:Nat) (hg:g.At w) (h:upf L i g = some L':=by rfl):Bk w L':=Bk.up hg h fun _ h0=>B.del h0
theorem Bk.cq (B:Bk w L) (h:w.heap[n]? = some (.cells cs T (0,0))):Bk w (.q n cs T :: L):=⟨h,B⟩
theorem Bk.ce {X:List Nat} {w0:World} (B:Bk w L) (h:Ext X w0 w): Bk w (.e X w0 :: L):=⟨h,B⟩
theorem Bk.co {b s:Nat} {e:TypeId} {v:Value} {xs:List Value} (B:Bk w L) (h:w.ownsRow b e s v n xs): Bk w (.o b e s v n xs :: L):=⟨h,B⟩
theorem Bk.cl {b k:Nat} {w0:World} {nv:Value} (B:Bk w L) (h:Zh w0 w b k nv): Bk w (.l w0 b k nv :: L):=⟨h,B⟩
theorem Bk.cf {b:Nat} {M:List (Value × List Int)} (B:Bk w L) (h:FamT w b M): Bk w (.f b M :: L):=⟨h,B⟩
theorem Bk.hr (B:Bk w L) (X:List Nat):Bk w (.e X w :: L):=⟨Ext.refl _ _,B⟩
theorem Bk.here (B:Bk w L):Bk w (.e [] w :: L):=⟨Ext.refl _ _,B⟩
theorem Bk.cells {o:Nat} {l:List Value} (hw:w2 = w.setCells c o l) (hc:w.heap[c]? = some (.cells cs T (0,0))):∀ {L:List Fc},Bk w L → NeA c T L → Bk w2 L
 | [],_,_=>trivial
 | .q .. :: L,B,.q h r=>⟨Z0N hw B.1 h,Bk.cells hw hc (L:=L) B.2 r⟩
 | .e .. :: L,B,.e h r=>⟨Z4X B.1 hw h,Bk.cells hw hc (L:=L) B.2 r⟩
 | .o .. :: L,B,.o h r=>⟨by
   rcases h with h | h | h
   ·exact Z0P hw B.1 (ZT B.1 hc h)
   ·exact Z5T hw B.1 h
   ·exact Z0P hw B.1 h,Bk.cells hw hc (L:=L) B.2 r⟩
 | .l .. :: L,B,.l h r=>⟨Zb8 hw B.1 h.1 h.2,Bk.cells hw hc (L:=L) B.2 r⟩
 | .f .. :: L,B,.f h r=>⟨Z0I B.1 fun _ _ _ k=>by
   rcases h with h | h
   ·exact Z5T hw k h
   ·exact Z0P hw k (ZT k hc h),Bk.cells hw hc (L:=L) B.2 r⟩
theorem Bk.cell {o:Nat} {u:Value} (hw:w2 = w.setCell ⟨c,o,none⟩ u) (hc:w.heap[c]? = some (.cells cs T (0,0))):∀ {L:List Fc},Bk w L → NeA c T L → Bk w2 L
 | [],_,_=>trivial
 | .q .. :: L,B,.q h r=>⟨Z1z hw B.1 h,Bk.cell hw hc (L:=L) B.2 r⟩
 | .e .. :: L,B,.e h r=>⟨Z6E B.1 hw h,Bk.cell hw hc (L:=L) B.2 r⟩
 | .o .. :: L,B,.o h r=>⟨by
   rcases h with h | h | h
   ·exact Z0M hw B.1 (ZT B.1 hc h)
   ·exact Z7K hw B.1 h
   ·exact Z0M hw B.1 h,Bk.cell hw hc (L:=L) B.2 r⟩
 | .l .. :: L,B,.l h r=>⟨ZcN hw B.1 h.1 h.2,Bk.cell hw hc (L:=L) B.2 r⟩
 | .f .. :: L,B,.f h r=>⟨Z0I B.1 fun _ _ _ k=>by
   rcases h with h | h
   ·exact Z7K hw k h
   ·exact Z0M hw k (ZT k hc h),Bk.cell hw hc (L:=L) B.2 r⟩
theorem Bk.xx {X:List Nat} (e:Ext X w w'):∀ {L:List Fc},Bk w L → NeX X L → Bk w' L
 | [],_,_=>trivial
 | .q .. :: L,B,.q h r=>⟨e.keep B.1 h,Bk.xx e (L:=L) B.2 r⟩
 | .e .. :: L,B,.e h r=>⟨B.1.trans' e h,Bk.xx e (L:=L) B.2 r⟩
 | .o .. :: L,B,.o h r=>⟨Z0n B.1 e h,Bk.xx e (L:=L) B.2 r⟩
 | .l .. :: L,B,.l h r=>h.elim
 | .f .. :: L,B,.f h r=>⟨Z0I B.1 fun _ _ _ k=>Z0n k e h,Bk.xx e (L:=L) B.2 r⟩
theorem Bk.grow {B0 s m:Nat} {E:TypeId} {V:Value} {ys:List Value} (ho:w.ownsRow B0 E s V m ys) (hg:w.grownBy w' V.ownBlock):∀ {L:List Fc},Bk w L → NeG B0 E V L → Bk w' L
 | [],_,_=>trivial
 | .q .. :: L,B,.q h r=>⟨by
   rcases h with h | h | h
   ·exact ZR ho hg B.1 h
   ·exact Z8m ho hg B.1 h
   ·exact (hg.block _ (Z3 B.1) h).trans B.1,Bk.grow ho hg (L:=L) B.2 r⟩
 | .e .. :: L,B,.e h r=>⟨Z0t B.1 ho hg h,Bk.grow ho hg (L:=L) B.2 r⟩
 | .o .. :: L,B,.o h r=>⟨Z5Y B.1 ho hg h,Bk.grow ho hg (L:=L) B.2 r⟩
 | .l .. :: L,B,.l h r=>⟨Z8o B.1 ho hg h.1 h.2,Bk.grow ho hg (L:=L) B.2 r⟩
 | .f .. :: L,B,.f h r=>⟨Z0I B.1 fun _ _ _ k=>Z5Y k ho hg h,Bk.grow ho hg (L:=L) B.2 r⟩
theorem Bk.gn (hg:w.grownBy w' none):∀ {L:List Fc},Bk w L → Bk w' L
 | [],_=>trivial
 | .q .. :: L,B=>⟨Z27 hg B.1,Bk.gn hg (L:=L) B.2⟩
 | .e .. :: L,B=>⟨Z66 B.1 hg,Bk.gn hg (L:=L) B.2⟩
 | .o .. :: L,B=>⟨Z7Q hg B.1,Bk.gn hg (L:=L) B.2⟩
 | .l .. :: L,B=>⟨Z9X (Z66 (Ext.refl [] _) hg) B.1,Bk.gn hg (L:=L) B.2⟩
 | .f .. :: L,B=>⟨Z0I B.1 fun _ _ _ k=>Z7Q hg k,Bk.gn hg (L:=L) B.2⟩
theorem LtA.own {b e s m n:Nat} {v:Value} {xs:List Value}:∀ {L:List Fc} (i:Nat),LtA n L → nth L i = some (.o b e s v m xs) → some n ≠ v.ownBlock
 | f :: L,0,h,k=>by cases k;exact h.1
 | f :: L,i + 1,h,k=>LtA.own (L:=L) i h.2 k
end
variable {μ:Nat}
def opv (L:List (Nat × Value)):Operand → Option Value
 | .tmp k=>L.lookup k
 | .const v=>some v
 | _=>none
def opvs (L:List (Nat × Value)):List Operand → Option (List Value)
 | []=>some []
 | x :: l=>match opv L x,opvs L l with
  | some v,some vs=>some (v :: vs)
  | _,_=>none
def opvp (L:List (Nat × Value)):List (Nat × Operand) → Option (List (Nat × Value))
 | []=>some []
 | (i,x) :: l=>match opv L x,opvp L l with
  | some v,some vs=>some ((i,v) :: vs)
  | _,_=>none
def mvO:Op → Option Operand
 | .move x=>some x
 | .assign x=>some x
 | _=>none
def getV:List Value → Nat → Option Value
 | [],_=>none
 | v :: _,0=>some v
 | _ :: l,k + 1=>getV l k
def getA (cs:Array Value) (k:Nat):Option Value:=getV cs.toList k
def setV:List Value → Nat → Value → Option (List Value)
 | [],_,_=>none
 | _ :: l,0,v=>some (v :: l)
 | x :: l,k + 1,v=>match setV l k v with
  | some r=>some (x :: r)
  | none=>none
def setA (cs:Array Value) (k:Nat) (v:Value):Option (Array Value):=match setV cs.toList k v with
 | some l=>some l.toArray
 | none=>none
def Z0e (L:List (Nat × Value)) (ops:Array Oper) (o:Oper):Option Bool:=match o.guard with
 | none=>some true
 | some (j,b)=>match (ops[j]?).bind (·.dst) with
  | some s=>match L.lookup s with
   | some (.bool c)=>some (c == b)
   | some (.tuple _)=>some false
   | _=>none
  | none=>none
def subO (L:List (Nat × Value)):List Nat → Option (List (Nat × Value))
 | []=>some []
 | k :: ks=>match L.lookup k,subO L ks with
  | some v,some R=>some ((k,v) :: R)
  | _,_=>none
section
variable {N:Nat} {D:List Deferred} {a:Act} {L R:List (Nat × Value)}
theorem Has.op (F:Has N D a L) {x:Operand} {v:Value} (h:opv L x = some v): a.eval x = v:=by
 cases x with
 | tmp k=>exact F.at h
 | const u=>cases h;rfl
 | global g=>cases h
 | func f=>cases h
theorem Has.ops (F:Has N D a L):∀ {l:List Operand} {vs:List Value},opvs L l = some vs → l.map a.eval = vs
 | [],vs,h=>by cases h;rfl
 | x :: l,vs,h=>by
  simp only [opvs] at h
  split at h
  ·rename_i v us h1 h2
   cases h
   rw [List.map_cons,F.op h1,Has.ops F h2]
  ·cases h
theorem Has.opp (F:Has N D a L):∀ {l:List (Nat × Operand)} {vs:List (Nat × Value)},opvp L l = some vs → l.map (fun p=>(p.1,a.eval p.2)) = vs
 | [],vs,h=>by cases h;rfl
 | (i,x) :: l,vs,h=>by
  simp only [opvp] at h
  split at h
  ·rename_i v us h1 h2
   cases h
   rw [List.map_cons,F.op h1,Has.opp F h2]
  ·cases h
theorem Z8e:∀ {l:List Value} {k:Nat} {v:Value},getV l k = some v → l[k]? = some v
 | v :: l,0,u,h=>by cases h;rfl
 | v :: l,k + 1,u,h=>by simpa using Z8e (l:=l) h
theorem Zdl {cs:Array Value} {k:Nat} {v:Value} (h:getA cs k = some v): cs[k]? = some v:=by simpa using Z8e h
theorem Zd8:∀ {l r:List Value} {k:Nat} {v:Value},setV l k v = some r → l.set k v = r ∧ k < l.length
 | x :: l,r,0,u,h=>by cases h;exact ⟨rfl,by simp⟩
 | x :: l,r,k + 1,u,h=>by
  simp only [setV] at h
  split at h
  ·rename_i r' h1
   cases h
   have:=Zd8 h1;exact ⟨by rw [List.set_cons_succ,this.1],by simpa using this.2⟩
  ·cases h
theorem ZcS {cs r:Array Value} {k:Nat} {v:Value} (h:setA cs k v = some r): cs.setIfInBounds k v = r ∧ ∃ u,cs[k]? = some u:=by
 simp only [setA] at h
 split at h
 ·rename_i l h1
  cases h
  have:=Zd8 h1;refine ⟨?_,cs.toList[k],by simp [this.2]⟩;rw [← this.1];apply Array.ext';simp
 ·cases h
theorem Has.want (F:Has N D a L) {ops:Array Oper} {o:Oper} {b:Bool} (h:Z0e L ops o = some b):Region.wanted o (yielded ops a.tmps) = b:=by
 unfold Z0e at h;unfold Region.wanted yielded
 split at h
 ·rename_i hg
  cases h
  simp [hg]
 ·rename_i j c hg
  split at h
  ·rename_i s hs
   simp only [hg,hs,Option.bind_some]
   split at h
   ·rename_i c' hl
    cases h
    have h1:=F.get _ _ hl
    rcases Nat.lt_or_ge s a.tmps.size with h2 | h2
    ·rw [Array.getD_eq_getD_getElem?,Array.getElem?_eq_getElem h2] at h1
     rw [Array.getElem?_eq_getElem h2];simp only [Option.getD_some] at h1;rw [h1]
     cases c' <;> cases c <;> rfl
    ·rw [Array.getD_eq_getD_getElem?,Array.getElem?_eq_none h2] at h1
     cases h1
   ·rename_i x hl
    cases h
    have h1:=F.get _ _ hl
    rcases Nat.lt_or_ge s a.tmps.size with h2 | h2
    ·rw [Array.getD_eq_getD_getElem?,Array.getElem?_eq_getElem h2] at h1
     rw [Array.getElem?_eq_getElem h2];simp only [Option.getD_some] at h1;rw [h1]
     rfl
    ·rw [Array.getElem?_eq_none h2]
     rfl
   ·cases h
  ·cases h
theorem Z87:∀ {ks:List Nat} {L R:List (Nat × Value)},subO L ks = some R → Z55 L R
 | [],L,R,h=>by cases h;trivial
 | k :: ks,L,R,h=>by
  simp only [subO] at h
  split at h
  ·rename_i v R' h1 h2
   cases h
   exact ⟨h1,Z87 h2⟩
  ·cases h
theorem Has.b (F:Has N D a L) (ks:List Nat) (h:subO L ks = some R:=by rfl):Has N D a R:=F.sub (Z87 h)
theorem Has.u (F:Has N D a L) (h:Z55 L R:=by repeat (first | exact .n | refine .c _ rfl ?_)):Has N D a R:=F.sub h
end
variable {μ:Nat}
def Zb3 (P:Program) (t:TypeId):Bool:=match P.underlying t with
 | some d=>!d.isRow
 | none=>false
def rowB (P:Program) (t:TypeId) (k:Nat):Bool:=match P.underlying t,P.info? t with
 | some d,some i=>d.isRow && Nat.beq i.size k
 | _,_=>false
def Z45 (P:Program) (t:TypeId) (k:Nat):Bool:=match P.info? t with
 | some i=>Nat.beq i.size k
 | _=>false
def slcB (P:Program) (t:TypeId):Bool:=match P.underlying t with
 | some (.slice _)=>true
 | _=>false
def eltB (P:Program) (t:TypeId) (k:Nat):Bool:=match P.underlying t with
 | some (.slice e)=>Z45 P e k
 | _=>false
def arrB (P:Program) (t:TypeId) (n k:Nat):Bool:=match P.underlying t with
 | some (.array m e)=>Nat.beq m n && Z45 P e k
 | _=>false
def Zht (P:Program) (t:TypeId) (n:Nat):Bool:=match P.underlying t with
 | some (.array m e)=>Nat.beq m n && Z45 P e 1 && Zb3 P e
 | _=>false
def fldO (P:Program) (t:TypeId) (f:Nat):Option Nat:=match P.underlying t with
 | some (.struct fs)=>match fs[f]? with
  | some fd=>match P.info? fd.type with
   | some i=>match i.size with
    | 0=>none
    | _ + 1=>some fd.offset
   | none=>none
  | none=>none
 | _=>none
theorem nea {c:Nat} {T:TypeId} {L:List Fc} (h:NeA c T L:=by repeat (first | exact .n | (refine .q (by omega) ?_) | (refine .e (fun h=>by first | omega | (simp;done)) ?_) | (refine .o (by first | exact .inl (by decide) | exact .inr (.inl (by omega)) | exact .inr (.inr (by first | assumption | exact LtA.own 0 (by assumption) (by rfl) | exact LtA.own 1 (by assumption) (by rfl) | exact LtA.own 2 (by assumption) (by rfl) | exact LtA.own 3 (by assumption) (by rfl) | exact LtA.own 4 (by assumption) (by rfl) | exact LtA.own 5 (by assumption) (by rfl) | exact LtA.own 6 (by assumption) (by rfl) | exact LtA.own 7 (by assumption) (by rfl) | exact LtA.own 8 (by assumption) (by rfl) | exact LtA.own 9 (by assumption) (by rfl)))) ?_) | (refine .l (by omega) ?_) | (refine .f (by first | exact .inl (by omega) | exact .inr (by decide)) ?_))): NeA c T L:=h
theorem one1 {cs:Array Value} (h:cs.all (·.oneCell') = true:=by first | rfl | (simp [Value.oneCell'];done) | (simp [tubC,Value.oneCell'];done) | (simp [tubR,Value.oneCell'];done) | (simp [ZaF,Value.oneCell'];done)): cs.all (·.oneCell') = true:=h
section
variable {P:Program} {ops:Array Oper} {Q:Exit → Act → World → Prop} {o:Oper} {rest:List Oper} {N:Nat} {D:List Deferred} {a:Act} {L:List (Nat × Value)} {w w':World} {v:Value} {d:Nat}
theorem Z1o {t k:Nat} (h:Z45 P t k = true): (P.info? t).map (·.size) = some k:=by
 unfold Z45 at h
 split at h
 ·rename_i i hi
  rw [hi,Option.map_some,Nat.eq_of_beq_eq_true h]
 ·cases h
theorem Z8A {t:Nat} (h:Zb3 P t = true): ∃ d,P.underlying t = some d ∧ d.isRow = false:=by
 unfold Zb3 at h
 split at h
 ·rename_i d hd
  exact ⟨d,hd,by simpa using h⟩
 ·cases h
theorem ZfN {t k:Nat} (h:rowB P t k = true): ∃ d,P.underlying t = some d ∧ d.isRow = true ∧ (P.info? t).map (·.size) = some k:=by
 unfold rowB at h
 split at h
 ·rename_i d i hd hi
  simp only [Bool.and_eq_true] at h;exact ⟨d,hd,h.1,by rw [hi,Option.map_some,Nat.eq_of_beq_eq_true h.2]⟩
 ·cases h
theorem ZhZ {t k:Nat} (h:eltB P t k = true): ∃ e,P.underlying t = some (.slice e) ∧ (P.info? e).map (·.size) = some k:=by
 unfold eltB at h
 split at h
 ·rename_i e he
  exact ⟨e,he,Z1o h⟩
 ·cases h
theorem ZiM {t n k:Nat} (h:arrB P t n k = true): ∃ e,P.underlying t = some (.array n e) ∧ (P.info? e).map (·.size) = some k:=by
 unfold arrB at h
 split at h
 ·rename_i m e he
  simp only [Bool.and_eq_true] at h;rw [← Nat.eq_of_beq_eq_true h.1];exact ⟨e,he,Z1o h.2⟩
 ·cases h
theorem Ziv {t:Nat} (h:slcB P t = true): P.underlying t = some (.slice (P.elem t)):=by
 unfold slcB at h
 split at h
 ·rename_i e he
  rw [he,Program.elem,he]
 ·cases h
theorem ZhV {t n:Nat} (h:Zht P t n = true): ∃ e,P.underlying t = some (.array n e) ∧ (P.info? e).map (·.size) = some 1 ∧ ∃ d,P.underlying e = some d ∧ d.isRow = false:=by
 unfold Zht at h
 split at h
 ·rename_i m e he
  simp only [Bool.and_eq_true] at h;rw [← Nat.eq_of_beq_eq_true h.1.1];exact ⟨e,he,Z1o h.1.2,Z8A h.2⟩
 ·cases h
theorem Has.y (F:Has N D a L) (hr:(execOp a.eval o).run P w = .ok (.value v) w) (hd:o.dst = some d:=by rfl) (hN:d < N:=by decide) (hw:Z0e L ops o = some true:=by rfl) (h:∀ {a2},Has N D a2 ((d,v) :: L) → wpList P ops Q rest a2 w):wpList P ops Q (o :: rest) a w:=Z5s F hd hN (F.want hw) hr fun _ F=>h F
theorem Has.m {x:Operand} (F:Has N D a L) (ho:mvO o.op = some x:=by rfl) (hx:opv L x = some v:=by rfl) (hd:o.dst = some d:=by rfl) (hN:d < N:=by decide) (hw:Z0e L ops o = some true:=by rfl) (h:∀ {a2},Has N D a2 ((d,v) :: L) → wpList P ops Q rest a2 w): wpList P ops Q (o :: rest) a w:=by
 refine Z5s F hd hN (F.want hw) ?_ fun _ F=>h F;unfold mvO at ho
 split at ho
 ·cases ho
  exact Z1w (by assumption) (F.op hx)
 ·cases ho
  exact ZH (by assumption) (F.op hx)
 ·cases ho
theorem Has.n (F:Has N D a L) (hd:o.dst = some d:=by rfl) (hN:d < N:=by decide) (hw:Z0e L ops o = some false:=by rfl) (h:∀ {a2},Has N D a2 ((d,undef) :: L) → wpList P ops Q rest a2 w):wpList P ops Q (o :: rest) a w:=Z2B F hd hN (F.want hw) fun _ F=>h F
theorem Has.s {K:Act → Prop} (F:Has N D a L) (hr:(execOp a.eval o).run P w = .ok (.value v) w) (hd:o.dst = some d:=by rfl) (hN:d < N:=by decide) (hw:Z0e L ops o = some true:=by rfl) (h:∀ {a2},Has N D a2 ((d,v) :: L) → wpStill P ops w K rest a2): wpStill P ops w K (o :: rest) a:=ZfO F hd hN (F.want hw) hr fun _ F=>h F
theorem Has.sm {K:Act → Prop} {x:Operand} (F:Has N D a L) (ho:mvO o.op = some x:=by rfl) (hx:opv L x = some v:=by rfl) (hd:o.dst = some d:=by rfl) (hN:d < N:=by decide) (hw:Z0e L ops o = some true:=by rfl) (h:∀ {a2},Has N D a2 ((d,v) :: L) → wpStill P ops w K rest a2): wpStill P ops w K (o :: rest) a:=by
 refine ZfO F hd hN (F.want hw) ?_ fun _ F=>h F;unfold mvO at ho
 split at ho
 ·cases ho
  exact Z1w (by assumption) (F.op hx)
 ·cases ho
  exact ZH (by assumption) (F.op hx)
 ·cases ho
theorem Has.sn {K:Act → Prop} (F:Has N D a L) (hd:o.dst = some d:=by rfl) (hN:d < N:=by decide) (hw:Z0e L ops o = some false:=by rfl) (h:∀ {a2},Has N D a2 ((d,undef) :: L) → wpStill P ops w K rest a2): wpStill P ops w K (o :: rest) a:=Zl0 F hd hN (F.want hw) fun _ F=>h F
theorem Has.ls {x y:Operand} {t t':TypeId} {k:IntKind} {n m:Int} (F:Has N D a L) (ho:o.op = .binOp .lss t x y t':=by rfl) (hx:opv L x = some (.int k n):=by rfl) (hy:opv L y = some (.int k m):=by rfl): (execOp a.eval o).run P w = .ok (.value (.bool (decide (n < m)))) w:=Z7R ho (F.op hx) (F.op hy)
theorem Has.lsT {x y:Operand} {t t':TypeId} {k:IntKind} {n m:Int} (F:Has N D a L) (ho:o.op = .binOp .lss t x y t':=by rfl) (hx:opv L x = some (.int k n):=by rfl) (hy:opv L y = some (.int k m):=by rfl) (h:n < m:=by omega): (execOp a.eval o).run P w = .ok (.value (.bool true)) w:=ZcK ho (F.op hx) (F.op hy) (decide_eq_true h)
theorem Has.lsF {x y:Operand} {t t':TypeId} {k:IntKind} {n m:Int} (F:Has N D a L) (ho:o.op = .binOp .lss t x y t':=by rfl) (hx:opv L x = some (.int k n):=by rfl) (hy:opv L y = some (.int k m):=by rfl) (h:¬ (n < m):=by omega): (execOp a.eval o).run P w = .ok (.value (.bool false)) w:=ZcK ho (F.op hx) (F.op hy) (decide_eq_false h)
theorem Has.le {x y:Operand} {t t':TypeId} {k:IntKind} {n m:Int} (F:Has N D a L) (ho:o.op = .binOp .leq t x y t':=by rfl) (hx:opv L x = some (.int k n):=by rfl) (hy:opv L y = some (.int k m):=by rfl): (execOp a.eval o).run P w = .ok (.value (.bool (decide (n ≤ m)))) w:=Zjd ho (F.op hx) (F.op hy)
theorem Has.leF {x y:Operand} {t t':TypeId} {k:IntKind} {n m:Int} (F:Has N D a L) (ho:o.op = .binOp .leq t x y t':=by rfl) (hx:opv L x = some (.int k n):=by rfl) (hy:opv L y = some (.int k m):=by rfl) (h:¬ (n ≤ m):=by omega): (execOp a.eval o).run P w = .ok (.value (.bool false)) w:=Zj7 ho (F.op hx) (F.op hy) (decide_eq_false h)
theorem Has.gt {x y:Operand} {t t':TypeId} {k:IntKind} {n m:Int} (F:Has N D a L) (ho:o.op = .binOp .gtr t x y t':=by rfl) (hx:opv L x = some (.int k n):=by rfl) (hy:opv L y = some (.int k m):=by rfl): (execOp a.eval o).run P w = .ok (.value (.bool (decide (m < n)))) w:=ZiY ho (F.op hx) (F.op hy)
theorem Has.gtT {x y:Operand} {t t':TypeId} {k:IntKind} {n m:Int} (F:Has N D a L) (ho:o.op = .binOp .gtr t x y t':=by rfl) (hx:opv L x = some (.int k n):=by rfl) (hy:opv L y = some (.int k m):=by rfl) (h:m < n:=by omega): (execOp a.eval o).run P w = .ok (.value (.bool true)) w:=ZfW ho (F.op hx) (F.op hy) (decide_eq_true h)
theorem Has.gtF {x y:Operand} {t t':TypeId} {k:IntKind} {n m:Int} (F:Has N D a L) (ho:o.op = .binOp .gtr t x y t':=by rfl) (hx:opv L x = some (.int k n):=by rfl) (hy:opv L y = some (.int k m):=by rfl) (h:¬ (m < n):=by omega): (execOp a.eval o).run P w = .ok (.value (.bool false)) w:=ZfW ho (F.op hx) (F.op hy) (decide_eq_false h)
theorem Has.ge {x y:Operand} {t t':TypeId} {k:IntKind} {n m:Int} (F:Has N D a L) (ho:o.op = .binOp .geq t x y t':=by rfl) (hx:opv L x = some (.int k n):=by rfl) (hy:opv L y = some (.int k m):=by rfl): (execOp a.eval o).run P w = .ok (.value (.bool (decide (m ≤ n)))) w:=ZjL ho (F.op hx) (F.op hy)
theorem Has.geF {x y:Operand} {t t':TypeId} {k:IntKind} {n m:Int} (F:Has N D a L) (ho:o.op = .binOp .geq t x y t':=by rfl) (hx:opv L x = some (.int k n):=by rfl) (hy:opv L y = some (.int k m):=by rfl) (h:¬ (m ≤ n):=by omega): (execOp a.eval o).run P w = .ok (.value (.bool false)) w:=Zj2 ho (F.op hx) (F.op hy) (decide_eq_false h)
theorem Has.eq {x y:Operand} {t t':TypeId} {k:IntKind} {n m:Int} (F:Has N D a L) (ho:o.op = .binOp .eql t x y t':=by rfl) (hx:opv L x = some (.int k n):=by rfl) (hy:opv L y = some (.int k m):=by rfl): (execOp a.eval o).run P w = .ok (.value (.bool (decide (n = m)))) w:=Z9i ho (F.op hx) (F.op hy)
theorem Has.eqT {x y:Operand} {t t':TypeId} {k:IntKind} {n m:Int} (F:Has N D a L) (ho:o.op = .binOp .eql t x y t':=by rfl) (hx:opv L x = some (.int k n):=by rfl) (hy:opv L y = some (.int k m):=by rfl) (h:n = m:=by omega): (execOp a.eval o).run P w = .ok (.value (.bool true)) w:=Z9h ho (F.op hx) (F.op hy) (decide_eq_true h)
theorem Has.ne {x y:Operand} {t t':TypeId} {k:IntKind} {n m:Int} (F:Has N D a L) (ho:o.op = .binOp .neq t x y t':=by rfl) (hx:opv L x = some (.int k n):=by rfl) (hy:opv L y = some (.int k m):=by rfl): (execOp a.eval o).run P w = .ok (.value (.bool (decide (¬ (n = m))))) w:=ZiF ho (F.op hx) (F.op hy)
theorem Has.neF {x y:Operand} {t t':TypeId} {k:IntKind} {n m:Int} (F:Has N D a L) (ho:o.op = .binOp .neq t x y t':=by rfl) (hx:opv L x = some (.int k n):=by rfl) (hy:opv L y = some (.int k m):=by rfl) (h:n = m:=by omega): (execOp a.eval o).run P w = .ok (.value (.bool false)) w:=Zfi ho (F.op hx) (F.op hy) (decide_eq_true h)
theorem Has.ad {x y:Operand} {t t':TypeId} {n m:Int} (F:Has N D a L) (ho:o.op = .binOp .add t x y t':=by rfl) (hx:opv L x = some (.int .i64 n):=by rfl) (hy:opv L y = some (.int .i64 m):=by rfl) (h1:-9223372036854775808 ≤ n + m:=by omega) (h2:n + m ≤ 9223372036854775807:=by omega): (execOp a.eval o).run P w = .ok (.value (.int .i64 (n + m))) w:=Z6Y ho (F.op hx) (F.op hy) h1 h2
theorem Has.sb {x y:Operand} {t t':TypeId} {n m:Int} (F:Has N D a L) (ho:o.op = .binOp .sub t x y t':=by rfl) (hx:opv L x = some (.int .i64 n):=by rfl) (hy:opv L y = some (.int .i64 m):=by rfl) (h1:-9223372036854775808 ≤ n - m:=by omega) (h2:n - m ≤ 9223372036854775807:=by omega): (execOp a.eval o).run P w = .ok (.value (.int .i64 (n - m))) w:=ZhK ho (F.op hx) (F.op hy) h1 h2
theorem Has.ml {x y:Operand} {t t':TypeId} {n m:Int} (F:Has N D a L) (ho:o.op = .binOp .mul t x y t':=by rfl) (hx:opv L x = some (.int .i64 n):=by rfl) (hy:opv L y = some (.int .i64 m):=by rfl) (h1:-9223372036854775808 ≤ n * m:=by omega) (h2:n * m ≤ 9223372036854775807:=by omega): (execOp a.eval o).run P w = .ok (.value (.int .i64 (n * m))) w:=Zkp ho (F.op hx) (F.op hy) h1 h2
theorem Has.ng {x:Operand} {t:TypeId} {n:Int} (F:Has N D a L) (ho:o.op = .unOp .neg t x:=by rfl) (hx:opv L x = some (.int .i64 n):=by rfl) (h1:-9223372036854775807 ≤ n:=by omega) (h2:n ≤ 9223372036854775807:=by omega): (execOp a.eval o).run P w = .ok (.value (.int .i64 (-n))) w:=Zk3 ho (F.op hx) h1 h2
theorem Has.nb {x:Operand} {t:TypeId} {b:Bool} (F:Has N D a L) (ho:o.op = .unOp .not t x:=by rfl) (hx:opv L x = some (.bool b):=by rfl): (execOp a.eval o).run P w = .ok (.value (.bool !b)) w:=ZaA ho (F.op hx)
theorem Has.nd {x:Operand} {t:TypeId} {p:Prop} {_:Decidable p} (F:Has N D a L) (ho:o.op = .unOp .not t x:=by rfl) (hx:opv L x = some (.bool (decide p)):=by rfl): (execOp a.eval o).run P w = .ok (.value (.bool (decide (¬ p)))) w:=Zit ho (F.op hx)
theorem Has.pT {c x y:Operand} (F:Has N D a L) (ho:o.op = .pick c x y:=by rfl) (hc:opv L c = some (.bool true):=by rfl) (hx:opv L x = some v:=by rfl): (execOp a.eval o).run P w = .ok (.value v) w:=Z58 ho (F.op hc) (F.op hx)
theorem Has.pF {c x y:Operand} (F:Has N D a L) (ho:o.op = .pick c x y:=by rfl) (hc:opv L c = some (.bool false):=by rfl) (hx:opv L y = some v:=by rfl): (execOp a.eval o).run P w = .ok (.value v) w:=Z6W ho (F.op hc) (F.op hx)
theorem Has.mo {x:Operand} (F:Has N D a L) (ho:mvO o.op = some x:=by rfl) (hx:opv L x = some v:=by rfl): (execOp a.eval o).run P w = .ok (.value v) w:=by
 unfold mvO at ho
 split at ho
 ·cases ho
  exact Z1w (by assumption) (F.op hx)
 ·cases ho
  exact ZH (by assumption) (F.op hx)
 ·cases ho
theorem Has.xt {x:Operand} {k:Nat} {vs:Array Value} (F:Has N D a L) (ho:o.op = .extract x k:=by rfl) (hx:opv L x = some (.tuple vs):=by rfl) (hv:getA vs k = some v:=by rfl): (execOp a.eval o).run P w = .ok (.value v) w:=Z5e ho (F.op hx) (Zdl hv)
theorem Has.ln {x:Operand} {t:TypeId} {p:Option Addr} {n c:Nat} (F:Has N D a L) (ho:o.op = .call { callee:=.builtin .len,args:=#[x],argTypes:=#[t] }:=by rfl) (hx:opv L x = some (.slice p n c):=by rfl) (hu:slcB P t = true:=by kernel_rfl): (execOp a.eval o).run P w = .ok (.value (.int .i64 n)) w:=Z77 ho rfl (F.op hx) (Ziv hu)
theorem Has.mn {x y:Operand} {t t':TypeId} {n m:Int} (F:Has N D a L) (ho:o.op = .call { callee:=.builtin .min,args:=#[x,y],argTypes:=#[t,t'] }:=by rfl) (hx:opv L x = some (.int .i64 n):=by rfl) (hy:opv L y = some (.int .i64 m):=by rfl): (execOp a.eval o).run P w = .ok (.value (.int .i64 (min n m))) w:=Zku ho rfl (F.op hx) (F.op hy)
theorem Has.mx {x y:Operand} {t t':TypeId} {n m:Int} (F:Has N D a L) (ho:o.op = .call { callee:=.builtin .max,args:=#[x,y],argTypes:=#[t,t'] }:=by rfl) (hx:opv L x = some (.int .i64 n):=by rfl) (hy:opv L y = some (.int .i64 m):=by rfl): (execOp a.eval o).run P w = .ok (.value (.int .i64 (max n m))) w:=ZkW ho rfl (F.op hx) (F.op hy)
theorem Has.nc {x:Operand} {b:Addr} (F:Has N D a L) (ho:o.op = .nilCheck x:=by rfl) (hx:opv L x = some (.pointer (some b)):=by rfl): (execOp a.eval o).run P w = .ok (.value (.pointer (some b))) w:=Zan ho (F.op hx)
theorem Has.fd {x:Operand} {t:TypeId} {f b off:Nat} (F:Has N D a L) (n:Nat) (ho:o.op = .fieldAddr t x f:=by rfl) (hx:opv L x = some (.pointer (some ⟨b,off,none⟩)):=by rfl) (hk:(fldO P t f).map (off + ·) = some n:=by kernel_rfl):(execOp a.eval o).run P w = .ok (.value (.pointer (some ⟨b,n,none⟩))) w:=by
 unfold fldO at hk
 split at hk
 ·rename_i fs hu
  split at hk
  ·rename_i fd hf
   split at hk
   ·rename_i i hi
    split at hk
    ·cases hk
    ·rename_i k hs
     simp only [Option.map_some,Option.some.injEq] at hk;exact ZO ho (F.op hx) hu hf hk (sz:=k + 1) (by rw [hi,Option.map_some,hs]) (by omega)
   ·cases hk
  ·cases hk
 ·cases hk
theorem Has.lb {x:Operand} {t:TypeId} {b:Nat} {cs:Array Value} {T:TypeId} {fz:Nat × Nat} (F:Has N D a L) (H:w.heap[b]? = some (.cells cs T fz)) (ho:o.op = .load t x:=by rfl) (hx:opv L x = some (.pointer (some ⟨b,0,none⟩)):=by rfl) (hk:rowB P t cs.size = true:=by kernel_rfl): (execOp a.eval o).run P w = .ok (.value (.agg cs)) w:=by
 obtain ⟨d,h1,h2,h3⟩:=ZfN hk;exact Zf ho (F.op hx) h1 h2 h3 H
theorem Has.lc {x:Operand} {t:TypeId} {b off:Nat} {cs:Array Value} {T:TypeId} {fz:Nat × Nat} (F:Has N D a L) (H:w.heap[b]? = some (.cells cs T fz)) (ho:o.op = .load t x:=by rfl) (hx:opv L x = some (.pointer (some ⟨b,off,none⟩)):=by rfl) (hv:getA cs off = some v:=by rfl) (hk:Zb3 P t = true:=by kernel_rfl): (execOp a.eval o).run P w = .ok (.value v) w:=by
 obtain ⟨d,h1,h2⟩:=Z8A hk;exact ZD ho (F.op hx) h1 h2 ((Z0 H off).trans (Zdl hv))
theorem Has.lr {x:Operand} {t:TypeId} {b off:Nat} {cs:List Value} (F:Has N D a L) (H:w.rangeAt b off cs) (ho:o.op = .load t x:=by rfl) (hx:opv L x = some (.pointer (some ⟨b,off,none⟩)):=by rfl) (hk:rowB P t cs.length = true:=by kernel_rfl): (execOp a.eval o).run P w = .ok (.value (.agg cs.toArray)) w:=by
 obtain ⟨d,h1,h2,h3⟩:=ZfN hk;exact Z56 ho (F.op hx) h1 h2 h3 H
theorem Has.lw {x:Operand} {t:TypeId} {b off:Nat} (F:Has N D a L) (H:w.cell? ⟨b,off,none⟩ = some v) (ho:o.op = .load t x:=by rfl) (hx:opv L x = some (.pointer (some ⟨b,off,none⟩)):=by rfl) (hk:Zb3 P t = true:=by kernel_rfl): (execOp a.eval o).run P w = .ok (.value v) w:=by
 obtain ⟨d,h1,h2⟩:=Z8A hk;exact ZD ho (F.op hx) h1 h2 H
theorem Has.l1 {x:Operand} {t:TypeId} {b off:Nat} {cs:List Value} (F:Has N D a L) (H:w.rangeAt b off cs) (j:Nat) (ho:o.op = .load t x:=by rfl) (hx:opv L x = some (.pointer (some ⟨b,off + j,none⟩)):=by rfl) (hv:getV cs j = some v:=by rfl) (hk:Zb3 P t = true:=by kernel_rfl): (execOp a.eval o).run P w = .ok (.value v) w:=F.lw (H j _ (Z8e hv)) ho hx hk
theorem Has.ia {x ix:Operand} {t:TypeId} {k:IntKind} {i:Int} {b off:Nat} (F:Has N D a L) (n sz:Nat) (ho:o.op = .indexAddr t x ix:=by rfl) (hx:opv L x = some (.pointer (some ⟨b,off,none⟩)):=by rfl) (hi:opv L ix = some (.int k i):=by rfl) (hk:arrB P t n sz = true:=by kernel_rfl) (h0:0 ≤ i:=by omega) (h1:i < n:=by omega): (execOp a.eval o).run P w = .ok (.value (.pointer (some ⟨b,off + i.toNat * sz,none⟩))) w:=by
 obtain ⟨e,h2,h3⟩:=ZiM hk;exact Z1N ho (F.op hx) (F.op hi) h2 h3 h0 h1
theorem Has.iv {x ix:Operand} {t:TypeId} {k:IntKind} {i:Int} {cs:Array Value} (F:Has N D a L) (n:Nat) (hv:cs[i.toNat]? = some v) (ho:o.op = .index t x ix:=by rfl) (hx:opv L x = some (.agg cs):=by rfl) (hi:opv L ix = some (.int k i):=by rfl) (hk:Zht P t n = true:=by kernel_rfl) (h0:0 ≤ i:=by omega) (h1:i < n:=by omega): (execOp a.eval o).run P w = .ok (.value v) w:=by
 obtain ⟨e,h2,h3,d,h4,h5⟩:=ZhV hk;exact Zhe ho (F.op hx) (F.op hi) h2 h3 h4 h5 h0 h1 hv
theorem Has.is {x ix:Operand} {t:TypeId} {k:IntKind} {i:Int} {p:Option Addr} {b off len cap:Nat} (F:Has N D a L) (sz:Nat) (hp:∀ m c,Value.slice p m c = .slice (some ⟨b,off,none⟩) m c) (ho:o.op = .indexAddr t x ix:=by rfl) (hx:opv L x = some (.slice p len cap):=by rfl) (hi:opv L ix = some (.int k i):=by rfl) (hk:eltB P t sz = true:=by kernel_rfl) (h0:0 ≤ i:=by omega) (h1:i < len:=by omega): (execOp a.eval o).run P w = .ok (.value (.pointer (some ⟨b,off + i.toNat * sz,none⟩))) w:=by
 obtain ⟨e,h2,h3⟩:=ZhZ hk;exact Z7J ho ((F.op hx).trans (hp _ _)) (F.op hi) h2 h3 h0 h1
theorem Has.bv {t:TypeId} {l:List (Nat × Operand)} {vs:List (Nat × Value)} (F:Has N D a L) (cells:Array Value) (ho:o.op = .build t l.toArray:=by rfl) (hp:opvp L l = some vs:=by rfl) (h:P.built t vs = some cells:=by kernel_rfl): (execOp a.eval o).run P w = .ok (.value (.agg cells)) w:=Z9g ho (F.opp hp) h
theorem Has.mf {fn:Fn} {l1 l2:List Operand} {us vs:List Value} (F:Has N D a L) (ho:o.op = .makeFunc fn l1.toArray l2.toArray:=by rfl) (h1:opvs L l1 = some us:=by rfl) (h2:opvs L l2 = some vs:=by rfl): (execOp a.eval o).run P w = .ok (.value (.func fn us.toArray vs.toArray)) w:=Z2v ho (Z4Q (F.ops h1)) (Z4Q (F.ops h2))
def Z7C (P:Program) (f:FuncId):Bool:=match P.funcs[f]? with
 | some fn => fn.body.isSome && !(fn.name == "runtime.NumGoroutine")
 | none=>false
theorem ZhB {f:FuncId} (h:Z7C P f = true) (args:Array Value) (w:World): (callFunc f args).run P w = .ok (.enter f args) w:=by
 have e3:∀ (Z:Program → Sem Next),(program >>= Z).run P w = (Z P).run P w:=fun Z=>rfl;unfold Z7C at h
 split at h
 ·rename_i fn hf
  simp only [Bool.and_eq_true,Bool.not_eq_true'] at h;have h1:fn.body.isNone = false:=by cases hb:fn.body with
   | none=>rw [hb] at h;simp at h
   | some c=>rfl
  unfold callFunc;rw [e3];simp only [hf,h.2,h1]
  rfl
 ·cases h
theorem Has.rc {f:FuncId} {l:List Operand} {ts:Array TypeId} {vs:List Value} (F:Has N D a L) (C:Z7C P f = true) (ho:o.op = .call { callee:=.value (.func f),args:=l.toArray,argTypes:=ts }) (ha:opvs L l = some vs): (execOp a.eval o).run P w = .ok (.enter f vs.toArray) w:=Z0d ho rfl (ZhB C) (F.ops ha)
theorem Has.k {f:FuncId} {l:List Operand} {ts:Array TypeId} {vs:List Value} {R:Ending → World → Prop} (F:Has N D a L) (hc:Calls P f vs.toArray w R) (C:Z7C P f = true:=by kernel_rfl) (ho:o.op = .call { callee:=.value (.func f),args:=l.toArray,argTypes:=ts }:=by rfl) (ha:opvs L l = some vs:=by rfl) (hd:o.dst = some d:=by rfl) (hN:d < N:=by decide) (hw:Z0e L ops o = some true:=by rfl) (h:∀ e w',R e w' → ∃ v,e = .returned v ∧ ∀ {a2},Has N D a2 ((d,v) :: L) → wpList P ops Q rest a2 w'): wpList P ops Q (o :: rest) a w:=Z6N F hd hN (F.want hw) (F.rc C ho ha) hc fun e w' hR=>by
 obtain ⟨v,h1,h2⟩:=h e w' hR;exact ⟨v,h1,fun _ F=>h2 F⟩
theorem Has.k0 {f:FuncId} {l:List Operand} {ts:Array TypeId} {vs:List Value} {S:List Fc} (F:Has N D a L) (B:Bk w S) (hc:Calls P f vs.toArray w fun e w'=>e = .returned v ∧ Ext [] w w') (C:Z7C P f = true:=by kernel_rfl) (ho:o.op = .call { callee:=.value (.func f),args:=l.toArray,argTypes:=ts }:=by rfl) (ha:opvs L l = some vs:=by rfl) (hd:o.dst = some d:=by rfl) (hN:d < N:=by decide) (hw:Z0e L ops o = some true:=by rfl) (h:∀ {w' a2},Has N D a2 ((d,v) :: L) → Bk w' S → wpList P ops Q rest a2 w'): wpList P ops Q (o :: rest) a w:=F.k hc C ho ha hd hN hw fun e w' hR=>⟨v,hR.1,fun F=>h F (B.ex hR.2)⟩
def boxO:Value → Option (Array Value)
 | .agg cs=>some cs
 | v=>some #[v]
theorem Zab {v:Value} {cs:Array Value} (h:boxO v = some cs): v.cells = cs:=by
 cases v <;> (simp only [boxO,Option.some.injEq] at h;exact h)
theorem Has.al {T:TypeId} {z:Value} {cs:Array Value} {S:List Fc} (F:Has N D a L) (B:Bk w S) (hz:∀ w,(zeroValue T).run P w = .ok z w) (ho:o.op = .alloc T:=by rfl) (hd:o.dst = some d:=by rfl) (hN:d < N:=by decide) (hw:Z0e L ops o = some true:=by rfl) (hv:boxO z = some cs:=by rfl) (h:∀ {n w2 a2},LtA n S → Has N D a2 ((d,.pointer (some ⟨n,0,none⟩)) :: L) → Bk w2 (.q n cs T :: S) → wpList P ops Q rest a2 w2):wpList P ops Q (o :: rest) a w:=by
 obtain rfl:=Zab hv;exact Z5L F hd hN (F.want hw) (ZV ho hz) fun _ _ F hw=>h (B.lt rfl) F ⟨Z05 hw rfl,B.al hw⟩
theorem Has.bx {T:TypeId} {x:Operand} {cs:Array Value} {S:List Fc} (F:Has N D a L) (B:Bk w S) (ho:o.op = .box T x:=by rfl) (hx:opv L x = some v:=by rfl) (hv:boxO v = some cs:=by rfl) (hd:o.dst = some d:=by rfl) (hN:d < N:=by decide) (hw:Z0e L ops o = some true:=by rfl) (h:∀ {n w2 a2},LtA n S → Has N D a2 ((d,.pointer (some ⟨n,0,none⟩)) :: L) → Bk w2 (.q n cs T :: S) → wpList P ops Q rest a2 w2): wpList P ops Q (o :: rest) a w:=by
 obtain rfl:=Zab hv;exact Z5L F hd hN (F.want hw) (Z3e ho (F.op hx)) fun _ _ F hw=>h (B.lt rfl) F ⟨Z05 hw rfl,B.al hw⟩
theorem Has.st {x y:Operand} {t b off T:Nat} {cs cs':Array Value} {S S0 S':List Fc} (F:Has N D a L) (B:Bk w S) (i:Nat) (ho:o.op = .store t x y:=by rfl) (hx:opv L x = some (.pointer (some ⟨b,off,none⟩)):=by rfl) (hy:opv L y = some v:=by rfl) (hi:nth S i = some (.q b cs T):=by rfl) (hc:setA cs off v = some cs':=by rfl) (hu:upf S i (.q b cs' T) = some S':=by rfl) (h0:delf S i = some S0:=by rfl) (h1:v.oneCell' = true:=by rfl) (hs:Z45 P t 1 = true:=by kernel_rfl) (hn:NeA b T S0:=by exact nea) (hd:o.dst = none:=by rfl) (hw:Z0e L ops o = some true:=by rfl) (h:∀ {w2},Bk w2 S' → wpList P ops Q rest a w2): wpList P ops Q (o :: rest) a w:=by
 obtain ⟨hc1,u,hc2⟩:=ZcS hc;have q:=B.get hi;refine Z1j hd (F.want hw) (ZS ho (F.op hx) (F.op hy) h1 (Z1o hs) ((Z0 q off).trans hc2) (Za q off)) fun w2 hw=>h ?_;exact Bk.up (g:=.q b cs' T) (ZE hw q hc1) hu fun L0 h2=>by
  rw [h0] at h2
  cases h2
  exact Bk.cell hw q (B.del h0) hn
theorem Has.sr {x y:Operand} {t b T:Nat} {cs cs':Array Value} {S S0 S':List Fc} (F:Has N D a L) (B:Bk w S) (i:Nat) (ho:o.op = .store t x y:=by rfl) (hx:opv L x = some (.pointer (some ⟨b,0,none⟩)):=by rfl) (hy:opv L y = some (.agg cs'):=by rfl) (hi:nth S i = some (.q b cs T):=by rfl) (hz:cs.size = cs'.size:=by rfl) (hu:upf S i (.q b cs' T) = some S':=by rfl) (h0:delf S i = some S0:=by rfl) (hs:Z45 P t cs'.size = true:=by kernel_rfl) (h1:cs'.all (·.oneCell') = true:=by exact one1) (hn:NeA b T S0:=by exact nea) (hd:o.dst = none:=by rfl) (hw:Z0e L ops o = some true:=by rfl) (h:∀ {w2},Bk w2 S' → wpList P ops Q rest a w2): wpList P ops Q (o :: rest) a w:=by
 have q:=B.get hi;refine Z1j hd (F.want hw) (Z0u ho (F.op hx) (F.op hy) (Z1o hs) h1 q hz) fun w2 hw=>h ?_;exact Bk.up (g:=.q b cs' T) (Z1J hw q hz) hu fun L0 h2=>by
  rw [h0] at h2
  cases h2
  exact Bk.cells hw q (B.del h0) hn
end
variable {μ:Nat}
def ZdK:List Fc → Option (List Fc)
 | []=>some []
 | f :: L=>match ZdK L with
  | some R=>some (f :: R)
  | none=>none
def Zew (L:List Fc):List Nat → Option (List Fc)
 | []=>some []
 | i :: l=>match nth L i,Zew L l with
  | some f,some R=>some (f :: R)
  | _,_=>none
inductive AmF (L:List Fc):List Fc → Prop
 | n:AmF L []
 | c {f R} (i:Nat) (h:nth L i = some f) (r:AmF L R):AmF L (f :: R)
theorem Bk.am {w:World} {L:List Fc} (B:Bk w L):∀ {R:List Fc},AmF L R → Bk w R
 | [],_=>trivial
 | f :: R,.c i h r=>⟨B.get h,Bk.am B r⟩
theorem ZcL:∀ {L R:List Fc},ZdK L = some R → L = R
 | [],R,h=>by cases h;rfl
 | f :: L,R,h=>by
  simp only [ZdK] at h
  split at h
  ·rename_i R' h1
   cases h
   rw [ZcL h1]
  ·cases h
theorem ZcA {L:List Fc}:∀ {l:List Nat} {R:List Fc},Zew L l = some R → AmF L R
 | [],R,h=>by cases h;exact .n
 | i :: l,R,h=>by
  simp only [Zew] at h
  split at h
  ·rename_i f R' h1 h2
   cases h
   exact .c i h1 (ZcA h2)
  ·cases h
theorem Bk.z {w:World} {L L':List Fc} (B:Bk w L) (h:ZdK L = some L':=by rfl): Bk w L':=ZcL h ▸ B
theorem Bk.u {w:World} {L L':List Fc} (B:Bk w L) (h:AmF L L':=by repeat (first | exact .n | refine .c 0 rfl ?_ | refine .c 1 rfl ?_ | refine .c 2 rfl ?_ | refine .c 3 rfl ?_ | refine .c 4 rfl ?_ | refine .c 5 rfl ?_ | refine .c 6 rfl ?_ | refine .c 7 rfl ?_ | refine .c 8 rfl ?_ | refine .c 9 rfl ?_ | refine .c 10 rfl ?_ | refine .c 11 rfl ?_ | refine .c 12 rfl ?_ | refine .c 13 rfl ?_ | refine .c 14 rfl ?_ | refine .c 15 rfl ?_ | refine .c 16 rfl ?_ | refine .c 17 rfl ?_ | refine .c 18 rfl ?_ | refine .c 19 rfl ?_ | refine .c 20 rfl ?_ | refine .c 21 rfl ?_ | refine .c 22 rfl ?_ | refine .c 23 rfl ?_)): Bk w L':=B.am h
theorem Bk.b {w:World} {L L':List Fc} (B:Bk w L) (l:List Nat) (h:Zew L l = some L':=by rfl): Bk w L':=B.am (ZcA h)
section
variable {P:Program} {Q:Exit → Act → World → Prop} {N:Nat} {D:List Deferred} {a:Act} {L L0:List (Nat × Value)} {S:List Fc} {w:World} {v:Value}
theorem wR {id:Nat} {l:List Oper} {y:Code} (h:∀ {K:Act → World → Prop},(∀ {a w},y.wp P Q a w → K a w) → wpList P l.toArray (Exit.then K Q) l a w): (Code.seq (.region id l.toArray false) y).wp P Q a w:=wp_seq_k fun K hK=>wp_region_lit (h fun {a w}=>hK a w)
theorem wQ {x y:Code} (h:∀ {K:Act → World → Prop},(∀ {a w},y.wp P Q a w → K a w) → x.wp P (Exit.then K Q) a w): (Code.seq x y).wp P Q a w:=wp_seq_k fun K hK=>h fun {a w}=>hK a w
theorem ent {f:FuncId} {args:List Value} {R:Ending → World → Prop} (N:Nat) (fn:Func) (hb:fn.body = some c) (hf:P.funcs[f]? = some fn:=by kernel_rfl) (hN:fn.ntmps = N:=by rfl) (hle:args.length ≤ N:=by exact Nat.le_of_ble_eq_true rfl) (h:∀ {a},Has N [] a (argL 0 args) → c.wp P (bodyPost P fn R) a w): Calls P f args.toArray w R:=Z0q N hf hb hN hle fun _ F=>h F
theorem wX {id:Nat} {l:List Oper} (n:Nat) (B:Bk w S) (hm:P.follows .mixedOrders = true:=by exact follows) (hB:Region.lexTailB .any l.toArray n = true:=by kernel_rfl) (h:∀ {W:World},Bk W S → wpStill P l.toArray W (fun a'=>wpList P l.toArray Q (l.drop n) a' W) (l.take n) a): (Code.region id l.toArray true).wp P Q a w:=Z7x n hm hB fun W hh eh=>h (B.ex eh)
theorem lpC (F:Has N D a L0) (B:Bk w S) (M:Nat) (f:Nat → List (Nat × Value)) (h0:Has N D a (f 0 ++ L0)) (round:∀ {a w} i,i ≤ M → Has N D a (f i ++ L0) → Bk w S → c.wp P (Exit.then (fun a' w'=>i < M ∧ Has N D a' (f (i + 1) ++ L0) ∧ Bk w' S) Q) a w): (Code.loop c).wp P Q a w:=
 Z7A F M (fun i Lv W=>Lv = f i ∧ Bk W S) ⟨_,⟨rfl,B⟩,h0⟩ fun i Lv a w hi h F=>by
  obtain ⟨rfl,B⟩:=h;refine wp_mono (round i hi F B) fun e a w h=>?_
  cases e <;> first | exact h | exact ⟨h.1,_,⟨rfl,h.2.2⟩,h.2.1⟩
theorem lpB (F:Has N D a L0) (B:Bk w S) (M:Nat) (J:Nat → List (Nat × Value) → List Fc → World → Prop) (h0:∃ Lv Sv,Has N D a (Lv ++ L0) ∧ Bk w (Sv ++ S) ∧ J 0 Lv Sv w) (round:∀ i {a w Lv Sv},i ≤ M → J i Lv Sv w → Has N D a (Lv ++ L0) → Bk w (Sv ++ S) → c.wp P (Exit.then (fun a' w'=>i < M ∧ ∃ Lv' Sv',Has N D a' (Lv' ++ L0) ∧ Bk w' (Sv' ++ S) ∧ J (i + 1) Lv' Sv' w') Q) a w): (Code.loop c).wp P Q a w:=by
 obtain ⟨Lv,Sv,h3,h2,h1⟩:=h0;refine Z7A F M (fun i Lv W=>∃ Sv,J i Lv Sv W ∧ Bk W (Sv ++ S)) ⟨Lv,⟨Sv,h1,h2⟩,h3⟩ fun i Lv a w hi h F=>?_;obtain ⟨Sv,h4,h5⟩:=h;refine wp_mono (round i hi h4 F h5) fun e a w h=>?_
 cases e <;> first | exact h | exact ⟨h.1,by obtain ⟨-,Lv',Sv',h8,h7,h6⟩:=h;exact ⟨Lv',⟨Sv',h6,h7⟩,h8⟩⟩
theorem Has.cT {x:Operand} {d: Code} (F:Has N D a L) (hx:opv L x = some (.bool true):=by rfl) (h:c.wp P Q a w): (Code.cond x c d).wp P Q a w:=wp_cond_true (F.op hx) h
theorem Has.cF {x:Operand} {d: Code} (F:Has N D a L) (hx:opv L x = some (.bool false):=by rfl) (h:d.wp P Q a w): (Code.cond x c d).wp P Q a w:=wp_cond_false (F.op hx) h
theorem Has.ci {k:Nat} {d: Code} {p:Prop} {_:Decidable p} (F:Has N D a L) (ht:p → c.wp P Q a w) (hf:¬ p → d.wp P Q a w) (hx:L.lookup k = some (.bool (decide p)):=by rfl): (Code.cond (.tmp k) c d).wp P Q a w:=ZcM F hx ht hf
theorem Has.cb {k:Nat} {d: Code} {b:Bool} (F:Has N D a L) (ht:b = true → c.wp P Q a w) (hf:b = false → d.wp P Q a w) (hx:L.lookup k = some (.bool b):=by rfl): (Code.cond (.tmp k) c d).wp P Q a w:=cd_b F hx ht hf
theorem Has.JF {k:Nat} {d: Code} {p:Prop} {_:Decidable p} (F:Has N D a L) (hx:L.lookup k = some (.bool (decide p)):=by rfl) (hb:¬ p:=by omega) (h:d.wp P Q a w): (Code.cond (.tmp k) c d).wp P Q a w:=wp_cond_false (by rw [F.at hx,decide_eq_false hb]) h
theorem Has.jF {k:Nat} {d: Code} {b:Bool} (F:Has N D a L) (hb:b = false) (hx:L.lookup k = some (.bool b):=by rfl) (h:d.wp P Q a w): (Code.cond (.tmp k) c d).wp P Q a w:=wp_cond_false (by rw [F.at hx,hb]) h
variable {fn:Func} {R:Ending → World → Prop}
inductive RetTo (Q':Exit → Act → World → Prop):(Exit → Act → World → Prop) → Prop
 | t {K:Act → World → Prop} {Z:Exit → Act → World → Prop} (h:RetTo Q' Z):RetTo Q' (Exit.then K Z)
 | b {id:Nat} {Z:Exit → Act → World → Prop} (h:RetTo Q' Z):RetTo Q' (Exit.inBlock id Z)
 | g {Z:Exit → Act → World → Prop} (h:RetTo Q' Z):RetTo Q' (Exit.noGoto Z)
 | r:RetTo Q' Q'
theorem RetTo.go {Q':Exit → Act → World → Prop}:∀ {Q:Exit → Act → World → Prop},RetTo Q' Q → Q' .ret a w → Q .ret a w
 | _,.t h,k=>by have:=RetTo.go h k;exact this
 | _,.b h,k=>by have:=RetTo.go h k;exact this
 | _,.g h,k=>by have:=RetTo.go h k;exact this
 | _,.r,k=>k
theorem rtt {Z Z':Exit → Act → World → Prop} (h:RetTo Z Z':=by repeat (first | refine .t ?_ | refine .b ?_ | refine .g ?_ | exact .r)): RetTo Z Z':=h
theorem Has.rg (F:Has N [] a L) (hr:(results fn a.tmps).run P w = .ok v w) (hQ:RetTo (bodyPost P fn R) Q:=by exact rtt) (h:R (.returned v) w):Code.ret.wp P Q a w:=wp_ret (hQ.go (rt_v F hr h))
theorem Has.r1 {t:Nat} (F:Has N [] a L) (hQ:RetTo (bodyPost P fn R) Q:=by exact rtt) (hr:fn.results = #[.tmp t]:=by rfl) (hv:L.lookup t = some v:=by rfl) (h:R (.returned v) w): Code.ret.wp P Q a w:=wp_ret (hQ.go (rt_v F (rs_1 F hr hv) h))
theorem Has.r2 {t s:Nat} {u:Value} (F:Has N [] a L) (hQ:RetTo (bodyPost P fn R) Q:=by exact rtt) (hr:fn.results = #[.tmp t,.tmp s]:=by rfl) (hv:L.lookup t = some v:=by rfl) (hu:L.lookup s = some u:=by rfl) (h:R (.returned (.tuple #[v,u])) w): Code.ret.wp P Q a w:=wp_ret (hQ.go (rt_v F (rs_2 F hr hv hu) h))
inductive EndTo (Q':Exit → Act → World → Prop):(Exit → Act → World → Prop) → Exit → Prop
 | t {K:Act → World → Prop} {Z:Exit → Act → World → Prop} {i:Nat} (h:EndTo Q' Z (.exit i)):EndTo Q' (Exit.then K Z) (.exit i)
 | b {Z:Exit → Act → World → Prop} {i:Nat} (h:EndTo Q' Z .normal):EndTo Q' (Exit.inBlock i Z) (.exit i)
 | c {Z:Exit → Act → World → Prop} {i:Nat} (h:EndTo Q' Z .normal):EndTo Q' (Exit.inBlock i Z) .normal
 | d {Z:Exit → Act → World → Prop} {i j:Nat} (hn:(j == i) = false) (h:EndTo Q' Z (.exit j)):EndTo Q' (Exit.inBlock i Z) (.exit j)
 | r:EndTo Q' Q' .normal
theorem EndTo.go {Q':Exit → Act → World → Prop} {a:Act} {w:World}:∀ {Q:Exit → Act → World → Prop} {e:Exit},EndTo Q' Q e → Q' .normal a w → Q e a w
 | _,_,.t h,k=>by have:=EndTo.go h k;exact this
 | _,_,.b h,k=>by have:=EndTo.go h k;show (if _ then _ else _);rw [if_pos rfl];exact this
 | _,_,.c h,k=>by have:=EndTo.go h k;exact this
 | _,_,.d hn h,k=>by have:=EndTo.go h k;show (if _ then _ else _);rw [if_neg (by simpa using hn)];exact this
 | _,_,.r,k=>k
variable {e:Exit} {ops:Array Oper}
theorem ett {Z Z':Exit → Act → World → Prop} (h:EndTo Z Z' e:=by repeat (first | refine .t ?_ | refine .b ?_ | refine .c ?_ | refine .d rfl ?_ | exact .r)): EndTo Z Z' e:=h
theorem Has.e0 (F:Has N [] a L) (hQ:EndTo (bodyPost P fn R) Q e:=by exact ett) (hr:fn.results = #[]:=by rfl) (h:R (.returned (.tuple #[])) w):Q e a w:=hQ.go (ZgF F (rs_0 hr) h)
theorem Has.f0 (F:Has N [] a L) (hQ:EndTo (bodyPost P fn R) Q .normal:=by exact ett) (hr:fn.results = #[]:=by rfl) (h:R (.returned (.tuple #[])) w):wpList P ops Q [] a w:=hQ.go (ZgF F (rs_0 hr) h)
end
variable {μ:Nat}
theorem nex {X:List Nat} {L:List Fc} (h:NeX X L:=by repeat (first | exact .n | (refine .q (by first | (simp;done) | (simp;omega)) ?_) | (refine .e (by intro i hi hl;simp only [List.mem_cons,List.not_mem_nil,or_false] at hi ⊢;omega) ?_) | (refine .o (by first | (simp;done) | (simp;omega)) ?_) | (refine .f (by first | (simp;done) | (simp;omega)) ?_))): NeX X L:=h
theorem neg {B:Nat} {E:TypeId} {V:Value} {L:List Fc} (h:NeG B E V L:=by repeat (first | exact .n | (refine .q (by first | exact .inl (by decide) | exact .inr (.inl (by omega)) | exact .inr (.inr (by first | assumption | exact LtA.own 0 (by assumption) (by rfl) | exact LtA.own 1 (by assumption) (by rfl) | exact LtA.own 2 (by assumption) (by rfl) | exact LtA.own 3 (by assumption) (by rfl) | exact LtA.own 4 (by assumption) (by rfl) | exact LtA.own 5 (by assumption) (by rfl) | exact LtA.own 6 (by assumption) (by rfl) | exact LtA.own 7 (by assumption) (by rfl) | exact LtA.own 8 (by assumption) (by rfl) | exact LtA.own 9 (by assumption) (by rfl)))) ?_) | (refine .e (by omega) ?_) | (refine .o (by decide) ?_) | (refine .l ⟨by omega,by decide⟩ ?_) | (refine .f (by decide) ?_))): NeG B E V L:=h
section
variable {w w' w2 w0:World} {L L0 L' S S0 S':List Fc} {n c i b m:Nat} {T e s:Nat} {cs cs':Array Value} {X:List Nat} {v v':Value} {xs xs':List Value}
theorem Bk.rQ (B:Bk w L) (i:Nat) (h:w.heap[n]? = some (.cells cs T (0,0))) (hu:upf L i (.q n cs T) = some L':=by rfl):Bk w L':=B.r (g:=.q n cs T) i h hu
theorem Bk.rO (B:Bk w L) (i:Nat) (h:w.ownsRow b e s v n xs) (hu:upf L i (.o b e s v n xs) = some L':=by rfl):Bk w L':=B.r (g:=.o b e s v n xs) i h hu
theorem Bk.rF {M:List (Value × List Int)} (B:Bk w L) (i:Nat) (h:FamT w b M) (hu:upf L i (.f b M) = some L':=by rfl): Bk w L':=B.r (g:=.f b M) i h hu
theorem Bk.rL (B:Bk w L) (i:Nat) (h:Zh w0 w b m v) (hu:upf L i (.l w0 b m v) = some L':=by rfl):Bk w L':=B.r (g:=.l w0 b m v) i h hu
theorem Bk.x (B:Bk w L) (h:Ext X w w') (hn:NeX X L:=by exact nex):Bk w' L:=Bk.xx h B hn
theorem Bk.xl (B:Bk w L) (i:Nat) (h:Ext X w w') (hl:Zh w0 w' b m v) (h0:delf L i = some L0:=by rfl) (hu:upf L i (.l w0 b m v) = some L':=by rfl) (hn:NeX X L0:=by exact nex):Bk w' L':=Bk.up (g:=.l w0 b m v) hl hu fun L1 h1=>by
 rw [h0] at h1
 cases h1
 exact Bk.xx h (B.del h0) hn
theorem Bk.k (B:Bk w L) (i:Nat) (h:Ext X w w') (hi:nth L i = some (.q n cs T):=by rfl) (hx:n ∉ X:=by first | (simp;done) | (simp;omega)):w'.heap[n]? = some (.cells cs T (0,0)):=h.keep (B.get hi) hx
theorem Bk.gr {n':Nat} (B:Bk w L) (i:Nat) (hg:w.grownBy w' v.ownBlock) (ho:w'.ownsRow b e s v' n' xs') (hi:nth L i = some (.o b e s v n xs):=by rfl) (h0:delf L i = some L0:=by rfl) (hn:NeG b e v L0:=by exact neg) (hu:upf L i (.o b e s v' n' xs') = some L':=by rfl):Bk w' L':=Bk.up (g:=.o b e s v' n' xs') ho hu fun L1 h1=>by
 rw [h0] at h1
 cases h1
 exact Bk.grow (B.get hi) hg (B.del h0) hn
theorem Bk.pr {off:Nat} {l:List Value} (B:Bk w S) (i:Nat) (hw:w2 = w.setCells n off l) (hp:w2.heap[n]? = some (.cells cs' T (0,0))) (hi:nth S i = some (.q n cs T):=by rfl) (hu:upf S i (.q n cs' T) = some S':=by rfl) (h0:delf S i = some S0:=by rfl) (hn:NeA n T S0:=by exact nea): Bk w2 S':=Bk.up (g:=.q n cs' T) hp hu fun L1 h1=>by
 rw [h0] at h1
 cases h1
 exact Bk.cells hw (B.get hi) (B.del h0) hn
end
section
variable {P:Program} {ops:Array Oper} {Q:Exit → Act → World → Prop} {o:Oper} {rest:List Oper} {N:Nat} {D:List Deferred} {a:Act} {L:List (Nat × Value)} {w w0:World} {v:Value} {d:Nat} {S S0 S':List Fc} {X:List Nat}
def Z9H (P:Program) (t e k:TypeId):Bool:=match P.underlying t with
 | some (.slice e')=>Nat.beq e' e && Z45 P e k
 | _=>false
theorem Z9I {t e k:Nat} (h:Z9H P t e k = true): P.underlying t = some (.slice e) ∧ (P.info? e).map (·.size) = some k:=by
 unfold Z9H at h
 split at h
 ·rename_i e' he
  simp only [Bool.and_eq_true] at h;rw [he,Nat.eq_of_beq_eq_true h.1];exact ⟨rfl,Z1o h.2⟩
 ·cases h
theorem Has.bS {t e n size:Nat} {l:List (Nat × Operand)} {vs:List (Nat × Value)} {z:Value} (F:Has N D a L) (cells:Array Value) (hz:∀ w,(zeroValue e).run P w = .ok z w) (ho:o.op = .buildSlice t n l.toArray) (hp:opvp L l = some vs) (hk:Z9H P t e size = true) (hn:n * size ≤ 2 ^ 24) (hn0:n * size ≠ 0) (hf:Instr.fill (fun i=>some (i * size,size)) ((Array.range (n * size)).map (z.cells[· % z.cells.size]!)) vs = some cells): (execOp a.eval o).run P w = .ok (.value (.slice (some ⟨w.heap.size,0,none⟩) n n)) (w.alloc (.cells cells e)):=ZY ho (F.opp hp) (Z9I hk).1 (Z9I hk).2 hn hn0 hz hf
theorem Has.bs {t e n:Nat} {l:List (Nat × Operand)} {vs:List (Nat × Value)} {z:Value} (F:Has N D a L) (B:Bk w S) (size:Nat) (cells:Array Value) (hz:∀ w,(zeroValue e).run P w = .ok z w) (ho:o.op = .buildSlice t n l.toArray:=by rfl) (hp:opvp L l = some vs:=by rfl) (hk:Z9H P t e size = true:=by kernel_rfl) (hn:n * size ≤ 2 ^ 24:=by decide) (hn0:n * size ≠ 0:=by decide) (hf:Instr.fill (fun i=>some (i * size,size)) ((Array.range (n * size)).map (z.cells[· % z.cells.size]!)) vs = some cells:=by kernel_rfl) (hd:o.dst = some d:=by rfl) (hN:d < N:=by decide) (hw:Z0e L ops o = some true:=by rfl) (h:∀ {k w2 a2},LtA k S → Has N D a2 ((d,.slice (some ⟨k,0,none⟩) n n) :: L) → Bk w2 (.q k cells e :: S) → wpList P ops Q rest a2 w2): wpList P ops Q (o :: rest) a w:=
 Z5L F hd hN (F.want hw) (F.bS cells hz ho hp hk hn hn0 hf) fun _ _ F hw=>h (B.lt rfl) F ⟨Z05 hw rfl,B.al hw⟩
theorem Has.ixr {p:Option Addr} {sz n:Nat} {row:Nat → List Value} {x ix:Operand} {t:TypeId} {k:IntKind} {j:Int} {len cap:Nat} (F:Has N D a L) (H:SlAt X w0 p sz n row) (i:Nat) (hi:i < n) (ho:o.op = .indexAddr t x ix) (hx:opv L x = some (.slice p len cap)) (hj:opv L ix = some (.int k j)) (hij:j = (i:Int)) (hl:i < len) (hk:eltB P t sz = true): ∃ b off,(∀ W,Ext X w0 W → W.rangeAt b (off + i * sz) (row i)) ∧ ∀ {w},(execOp a.eval o).run P w = .ok (.value (.pointer (some ⟨b,off + i * sz,none⟩))) w:=by
 subst hij;obtain ⟨b,off,hp,hr⟩:=H i hi;exact ⟨b,off,hr,F.is sz hp ho hx hj hk (by omega) (by omega)⟩
theorem Has.ix {p:Option Addr} {sz n:Nat} {row:Nat → List Value} {x ix:Operand} {t:TypeId} {k:IntKind} {j:Int} {len cap:Nat} (F:Has N D a L) (H:SlAt X w0 p sz n row) (i:Nat) (hi:i < n:=by omega) (ho:o.op = .indexAddr t x ix:=by rfl) (hx:opv L x = some (.slice p len cap):=by rfl) (hj:opv L ix = some (.int k j):=by rfl) (hij:j = (i:Int):=by first | rfl | omega) (hl:i < len:=by omega) (hk:eltB P t sz = true:=by kernel_rfl) (hd:o.dst = some d:=by rfl) (hN:d < N:=by decide) (hw:Z0e L ops o = some true:=by rfl)
  (h:∀ {b off a2},(∀ W,Ext X w0 W → W.rangeAt b (off + i * sz) (row i)) → Has N D a2 ((d,.pointer (some ⟨b,off + i * sz,none⟩)) :: L) → wpList P ops Q rest a2 w):wpList P ops Q (o :: rest) a w:=by
 obtain ⟨b,off,hr,h1⟩:=F.ixr H i hi ho hx hj hij hl hk;exact Has.y F h1 hd hN hw fun F=>h hr F
theorem Has.sx {K:Act → Prop} {p:Option Addr} {sz n:Nat} {row:Nat → List Value} {x ix:Operand} {t:TypeId} {k:IntKind} {j:Int} {len cap:Nat} (F:Has N D a L) (H:SlAt X w0 p sz n row) (i:Nat) (hi:i < n:=by omega) (ho:o.op = .indexAddr t x ix:=by rfl) (hx:opv L x = some (.slice p len cap):=by rfl) (hj:opv L ix = some (.int k j):=by rfl) (hij:j = (i:Int):=by first | rfl | omega) (hl:i < len:=by omega) (hk:eltB P t sz = true:=by kernel_rfl) (hd:o.dst = some d:=by rfl) (hN:d < N:=by decide) (hw:Z0e L ops o = some true:=by rfl) (h:∀ {b off a2},(∀ W,Ext X w0 W → W.rangeAt b (off + i * sz) (row i)) → Has N D a2 ((d,.pointer (some ⟨b,off + i * sz,none⟩)) :: L) → wpStill P ops w K rest a2): wpStill P ops w K (o :: rest) a:=by
 obtain ⟨b,off,hr,h1⟩:=F.ixr H i hi ho hx hj hij hl hk;exact Has.s F h1 hd hN hw fun F=>h hr F
theorem Has.kr {f:FuncId} {args:Array Value} {R:Ending → World → Prop} (F:Has N D a L) (hr:(execOp a.eval o).run P w = .ok (.enter f args) w) (hc:Calls P f args w R) (hd:o.dst = some d:=by rfl) (hN:d < N:=by decide) (hw:Z0e L ops o = some true:=by rfl) (h:∀ e w',R e w' → ∃ v,e = .returned v ∧ ∀ {a2},Has N D a2 ((d,v) :: L) → wpList P ops Q rest a2 w'): wpList P ops Q (o :: rest) a w:=Z6N F hd hN (F.want hw) hr hc fun e w' hR=>by
 obtain ⟨v,h1,h2⟩:=h e w' hR;exact ⟨v,h1,fun _ F=>h2 F⟩
theorem Has.okr {i:Nat} {K:Act → World → Prop} {f:FuncId} {args:Array Value} {R:Ending → World → Prop} {oi:Oper} (F:Has N D a L) (hi:ops[i]? = some oi) (hr:(execOp a.eval oi).run P w = .ok (.enter f args) w) (hc:Calls P f args w R) (hd:oi.dst = some d:=by rfl) (hN:d < N:=by decide) (hw:Z0e L ops oi = some true:=by rfl) (h:∀ e w',R e w' → ∃ v,e = .returned v ∧ ∀ {a2},Has N D a2 ((d,v) :: L) → K a2 w'): wpOp P ops Q i K a w:=Z7b F hi hd hN (F.want hw) hr hc fun e w' hR=>by
 obtain ⟨v,h1,h2⟩:=h e w' hR;exact ⟨v,h1,fun _ F=>h2 F⟩
theorem Has.sw {x y:Operand} {t b off T:Nat} {cs cs':Array Value} {u:Value} (F:Has N D a L) (B:Bk w S) (i:Nat) (hc:w.cell? ⟨b,off,none⟩ = some u) (hp:∀ w2,w2 = w.setCell ⟨b,off,none⟩ v → w2.heap[b]? = some (.cells cs' T (0,0))) (ho:o.op = .store t x y:=by rfl) (hx:opv L x = some (.pointer (some ⟨b,off,none⟩)):=by rfl) (hy:opv L y = some v:=by rfl) (hi:nth S i = some (.q b cs T):=by rfl) (hu:upf S i (.q b cs' T) = some S':=by rfl) (h0:delf S i = some S0:=by rfl) (h1:v.oneCell' = true:=by rfl) (hs:Z45 P t 1 = true:=by kernel_rfl) (hn:NeA b T S0:=by exact nea) (hd:o.dst = none:=by rfl) (hw:Z0e L ops o = some true:=by rfl) (h:∀ {w2},Bk w2 S' → wpList P ops Q rest a w2): wpList P ops Q (o :: rest) a w:=by
 have q:=B.get hi;refine Z1j hd (F.want hw) (ZS ho (F.op hx) (F.op hy) h1 (Z1o hs) hc (Za q off)) fun w2 hw=>h ?_;exact Bk.up (g:=.q b cs' T) (hp w2 hw) hu fun L0 h2=>by
  rw [h0] at h2
  cases h2
  exact Bk.cell hw q (B.del h0) hn
theorem Has.sW {x y:Operand} {t b T:Nat} {cs cs' cs2:Array Value} (F:Has N D a L) (B:Bk w S) (i off:Nat) (hp:∀ w2,w2 = w.setCells b off cs'.toList → w2.heap[b]? = some (.cells cs2 T (0,0))) (ho:o.op = .store t x y:=by rfl) (hx:opv L x = some (.pointer (some ⟨b,off,none⟩)):=by rfl) (hy:opv L y = some (.agg cs'):=by rfl) (hi:nth S i = some (.q b cs T):=by rfl) (hz:off + cs'.size ≤ cs.size:=by simp) (hu:upf S i (.q b cs2 T) = some S':=by rfl) (h0:delf S i = some S0:=by rfl) (hs:Z45 P t cs'.size = true:=by kernel_rfl) (h1:cs'.all (·.oneCell') = true:=by exact one1) (hn:NeA b T S0:=by exact nea) (hd:o.dst = none:=by rfl) (hw:Z0e L ops o = some true:=by rfl) (h:∀ {w2},Bk w2 S' → wpList P ops Q rest a w2): wpList P ops Q (o :: rest) a w:=by
 have q:=B.get hi;refine Z1j hd (F.want hw) (ZaY ho (F.op hx) (F.op hy) (Z1o hs) h1 q hz) fun w2 hw=>h ?_;exact Bk.up (g:=.q b cs2 T) (hp w2 hw) hu fun L0 h2=>by
  rw [h0] at h2
  cases h2
  exact Bk.cells hw q (B.del h0) hn
variable {md:Region.Mode} {T:World → Prop} {stop:Option Nat} {fuel:Nat} {listed:Array Bool} {K:Act → World → Prop}
def opAt (ops:Array Oper) (i:Nat):Oper:=match ops[i]? with
 | some o=>o
 | none => { dst := none, op := .move (.const (.bool true)), type := 0, pos := "", after := #[], guard := none }
theorem Z16 {i:Nat} (h:(ops[i]?).isSome = true): ops[i]? = some (opAt ops i):=by
 unfold opAt
 cases hq:ops[i]? with
 | none=>rw [hq] at h;cases h
 | some o=>rfl
theorem wD {id:Nat} {l:List Oper} (X:List Nat) (stop:Option Nat) (B:Bk w S) (h:∀ {W:World},Bk W (.e X w :: S) → Zp P .any l.toArray Q (Ext X w) stop l.toArray.size (Array.replicate l.toArray.size false) a W) (hm:P.follows .mixedOrders = true:=by exact follows): (Code.region id l.toArray true).wp P Q a w:=Z9m (Ext X w) stop hm fun W hh eh=>h ⟨eh.mono (by simp),B.ex eh⟩
theorem aD (hr:Region.ready md ops listed = []:=by kernel_rfl) (h:Q .normal a w):Zp P md ops Q T stop fuel listed a w:=Z71 hr h fuel
theorem aO (i:Nat) (hr:Region.ready md ops listed = [i]:=by kernel_rfl) (h:wpOp P ops Q i (fun a' w'=>(held stop (listed.setIfInBounds i true) = true → T w') ∧ Zp P md ops Q T stop fuel (listed.setIfInBounds i true) a' w') a w):Zp P md ops Q T stop (fuel + 1) listed a w:=Z3G hr h
theorem Has.z (F:Has N D a L) (i:Nat) (hT:held stop listed = true → T w) (hr:∀ {w},(execOp a.eval (opAt ops i)).run P w = .ok (.value v) w) (hi:(ops[i]?).isSome = true:=by rfl) (hd:(opAt ops i).dst = some d:=by rfl) (hN:d < N:=by decide) (hk:Z3Z md ops stop false listed i = true:=by kernel_rfl) (hQ:∀ c a w,Q (.panic c) (a.put (opAt ops i).dst v) w → Q (.panic c) a w:=by exact fun _ _ _ h=>h) (hw:Z0e L ops (opAt ops i) = some true:=by rfl) (h:∀ {a2},Has N D a2 ((d,v) :: L) → Zp P md ops Q T stop fuel (listed.setIfInBounds i true) a2 w):Zp P md ops Q T stop (fuel + 1) listed a w:=
 Zfo F (Z16 hi) hd hN hk hQ (F.want hw) (fun w=>hr) hT fun _ F=>h F
theorem Has.zr (F:Has N D a L) (i:Nat) (hT:held stop listed = true → T w) (hr:∀ {w},T w → (execOp a.eval (opAt ops i)).run P w = .ok (.value v) w) (hi:(ops[i]?).isSome = true:=by rfl) (hd:(opAt ops i).dst = some d:=by rfl) (hN:d < N:=by decide) (hk:Z3Z md ops stop true listed i = true:=by kernel_rfl) (hQ:∀ c a w,Q (.panic c) (a.put (opAt ops i).dst v) w → Q (.panic c) a w:=by exact fun _ _ _ h=>h) (hw:Z0e L ops (opAt ops i) = some true:=by rfl) (h:∀ {a2},Has N D a2 ((d,v) :: L) → Zp P md ops Q T stop fuel (listed.setIfInBounds i true) a2 w):Zp P md ops Q T stop (fuel + 1) listed a w:=
 ZbU F (Z16 hi) hd hN hk hQ (F.want hw) (fun w h=>hr h) hT fun _ F=>h F
theorem Has.ok {i:Nat} {f:FuncId} {l:List Operand} {ts:Array TypeId} {vs:List Value} {R:Ending → World → Prop} (F:Has N D a L) (hc:Calls P f vs.toArray w R) (hi:(ops[i]?).isSome = true:=by rfl) (C:Z7C P f = true:=by kernel_rfl) (ho:(opAt ops i).op = .call { callee:=.value (.func f),args:=l.toArray,argTypes:=ts }:=by rfl) (ha:opvs L l = some vs:=by rfl) (hd:(opAt ops i).dst = some d:=by rfl) (hN:d < N:=by decide) (hw:Z0e L ops (opAt ops i) = some true:=by rfl) (h:∀ e w',R e w' → ∃ v,e = .returned v ∧ ∀ {a2},Has N D a2 ((d,v) :: L) → K a2 w'): wpOp P ops Q i K a w:=Z7b F (Z16 hi) hd hN (F.want hw) (F.rc C ho ha) hc fun e w' hR=>by
 obtain ⟨v,h1,h2⟩:=h e w' hR;exact ⟨v,h1,fun _ F=>h2 F⟩
theorem Has.ok0 {i:Nat} {f:FuncId} {l:List Operand} {ts:Array TypeId} {vs:List Value} (F:Has N D a L) (B:Bk w S) (hc:Calls P f vs.toArray w fun e w'=>e = .returned v ∧ Ext [] w w') (hi:(ops[i]?).isSome = true:=by rfl) (C:Z7C P f = true:=by kernel_rfl) (ho:(opAt ops i).op = .call { callee:=.value (.func f),args:=l.toArray,argTypes:=ts }:=by rfl) (ha:opvs L l = some vs:=by rfl) (hd:(opAt ops i).dst = some d:=by rfl) (hN:d < N:=by decide) (hw:Z0e L ops (opAt ops i) = some true:=by rfl) (h:∀ {w' a2},Has N D a2 ((d,v) :: L) → Bk w' S → K a2 w'): wpOp P ops Q i K a w:=F.ok hc hi C ho ha hd hN hw fun e w' hR=>⟨v,hR.1,fun F=>h F (B.ex hR.2)⟩
theorem Has.oa {i:Nat} {T:TypeId} {z:Value} {cs:Array Value} (F:Has N D a L) (B:Bk w S) (hz:∀ w,(zeroValue T).run P w = .ok z w) (hi:(ops[i]?).isSome = true:=by rfl) (ho:(opAt ops i).op = .alloc T:=by rfl) (hd:(opAt ops i).dst = some d:=by rfl) (hN:d < N:=by decide) (hw:Z0e L ops (opAt ops i) = some true:=by rfl) (hv:boxO z = some cs:=by rfl) (h:∀ {n w2 a2},LtA n S → Has N D a2 ((d,.pointer (some ⟨n,0,none⟩)) :: L) → Bk w2 (.q n cs T :: S) → K a2 w2): wpOp P ops Q i K a w:=by
 obtain rfl:=Zab hv;exact Zfh F (Z16 hi) hd hN (F.want hw) (ZV ho hz) fun _ _ F hw=>h (B.lt rfl) F ⟨Z05 hw rfl,B.al hw⟩
theorem Has.ob {i:Nat} {T:TypeId} {x:Operand} {cs:Array Value} (F:Has N D a L) (B:Bk w S) (hi:(ops[i]?).isSome = true:=by rfl) (ho:(opAt ops i).op = .box T x:=by rfl) (hx:opv L x = some v:=by rfl) (hv:boxO v = some cs:=by rfl) (hd:(opAt ops i).dst = some d:=by rfl) (hN:d < N:=by decide) (hw:Z0e L ops (opAt ops i) = some true:=by rfl) (h:∀ {n w2 a2},LtA n S → Has N D a2 ((d,.pointer (some ⟨n,0,none⟩)) :: L) → Bk w2 (.q n cs T :: S) → K a2 w2): wpOp P ops Q i K a w:=by
 obtain rfl:=Zab hv;exact Zfh F (Z16 hi) hd hN (F.want hw) (Z3e ho (F.op hx)) fun _ _ F hw=>h (B.lt rfl) F ⟨Z05 hw rfl,B.al hw⟩
theorem Has.os {i':Nat} {x y:Operand} {t b off T:Nat} {cs cs':Array Value} (F:Has N D a L) (B:Bk w S) (i:Nat) (hj:(ops[i']?).isSome = true:=by rfl) (ho:(opAt ops i').op = .store t x y:=by rfl) (hx:opv L x = some (.pointer (some ⟨b,off,none⟩)):=by rfl) (hy:opv L y = some v:=by rfl) (hi:nth S i = some (.q b cs T):=by rfl) (hc:setA cs off v = some cs':=by rfl) (hu:upf S i (.q b cs' T) = some S':=by rfl) (h0:delf S i = some S0:=by rfl) (h1:v.oneCell' = true:=by rfl) (hs:Z45 P t 1 = true:=by kernel_rfl) (hn:NeA b T S0:=by exact nea) (hd:(opAt ops i').dst = none:=by rfl) (hw:Z0e L ops (opAt ops i') = some true:=by rfl) (h:∀ {w2},Bk w2 S' → K a w2): wpOp P ops Q i' K a w:=by
 obtain ⟨hc1,u,hc2⟩:=ZcS hc;have q:=B.get hi;refine ZbH (Z16 hj) hd (F.want hw) (ZS ho (F.op hx) (F.op hy) h1 (Z1o hs) ((Z0 q off).trans hc2) (Za q off)) fun w2 hw=>h ?_;exact Bk.up (g:=.q b cs' T) (ZE hw q hc1) hu fun L0 h2=>by
  rw [h0] at h2
  cases h2
  exact Bk.cell hw q (B.del h0) hn
theorem Has.or {i':Nat} {x y:Operand} {t b T:Nat} {cs cs':Array Value} (F:Has N D a L) (B:Bk w S) (i:Nat) (hj:(ops[i']?).isSome = true:=by rfl) (ho:(opAt ops i').op = .store t x y:=by rfl) (hx:opv L x = some (.pointer (some ⟨b,0,none⟩)):=by rfl) (hy:opv L y = some (.agg cs'):=by rfl) (hi:nth S i = some (.q b cs T):=by rfl) (hz:cs.size = cs'.size:=by rfl) (hu:upf S i (.q b cs' T) = some S':=by rfl) (h0:delf S i = some S0:=by rfl) (hs:Z45 P t cs'.size = true:=by kernel_rfl) (h1:cs'.all (·.oneCell') = true:=by exact one1) (hn:NeA b T S0:=by exact nea) (hd:(opAt ops i').dst = none:=by rfl) (hw:Z0e L ops (opAt ops i') = some true:=by rfl) (h:∀ {w2},Bk w2 S' → K a w2): wpOp P ops Q i' K a w:=by
 have q:=B.get hi;refine ZbH (Z16 hj) hd (F.want hw) (Z0u ho (F.op hx) (F.op hy) (Z1o hs) h1 q hz) fun w2 hw=>h ?_;exact Bk.up (g:=.q b cs' T) (Z1J hw q hz) hu fun L0 h2=>by
  rw [h0] at h2
  cases h2
  exact Bk.cells hw q (B.del h0) hn
end
end Go.Proofs.YtfelljbfeoplhaaGreat
namespace Go.Proofs.YtfelljbfeoplhaaGreat
open Go.RowKit
variable {μ:Nat}
theorem Zd6 (w0 w:World) (b k:Nat) (nv:Value) (h:Zh w0 w b k nv) (hk:k ≤ 1000000) :
  Calls (Qy.prog μ) 81 #[.pointer (some ⟨b,0,none⟩)] w fun e w'=>∃ v:Int,e = .returned (.int .u64 v) ∧ 0 ≤ v ∧ v < 72057594037927936 ∧ Zh w0 w' b (k + 1) nv ∧ Ext [b] w w':=by
 obtain ⟨hb,⟨na,nc,xs,rfl,hn⟩,E0,d,st,q,hd0,hdk,hs0,hs1⟩:=h;obtain ⟨d,rfl⟩:=Int.eq_ofNat_of_zero_le hd0;have E:Ext [b] w w:=Ext.refl _ _;have HS:=Lib.hid (Z0E (X:=[b]) hn (fun W e=>hn.ext e (by simp;omega)) 0);have G:=(Bk.nil w).ce E;replace G:=(G.ce E0).cq q;refine (ent 67 Tryz.f81 rfl) fun F=>wR fun k1=>(F.m) fun F=>k1 <|wR fun k2=>(F.m) fun F=>(F.m) fun F=>(F.y F.nc) fun F=>(F.y (F.fd 2)) fun F=>(F.y (F.lc (G.q 0))) fun F=>?_
 refine (F.y ((Z9L rfl (F.at rfl) (ev_c _ _)))) fun F=>?_;refine (F.y ((Z4S rfl (F.at rfl) (ev_c _ _)))) fun F=>?_;obtain ⟨s1,hs1'⟩:∃ s1,s1 = IntKind.u64.wrap (IntKind.u64.wrap (st * 6364136223846793005) + 1442695040888963407):=⟨_,rfl⟩;have hw1:=Z4f (IntKind.u64.wrap (st * 6364136223846793005) + 1442695040888963407);rw [← hs1'] at F hw1;refine (F.y F.nc) fun F=>(F.y (F.fd 2)) fun F=>(F.st G 0) fun G=>k2 <|wQ fun k3=>wQ fun k4=>(wX 9 G) fun G=>(F.sm) fun F=>(F.s F.nc) fun F=>(F.s (F.fd 1)) fun F=>(F.s (F.lc (G.q 0))) fun F=>(F.sm) fun F=>(F.s F.nc) fun F=>(F.s (F.fd 0)) fun F=>(F.s (F.lc (G.q 0))) fun F=>(F.s F.ln) fun F=>wpStill_nil <|(F.y F.ls) fun F=>k4 <|F.ci (fun hc22=>?_) (fun hc22=>?_)
 ·have hdx:d < xs.length:=by omega
  refine (wX 20 G) fun G=>(F.sm) fun F=>(F.sm) fun F=>(F.s F.nc) fun F=>(F.s (F.fd 2)) fun F=>(F.s (F.lc (G.q 0))) fun F=>(F.sm) fun F=>(F.s F.nc) fun F=>(F.s (F.fd 0)) fun F=>(F.s (F.lc (G.q 0))) fun F=>(F.sm) fun F=>(F.s F.nc) fun F=>(F.s (F.fd 1)) fun F=>(F.s (F.lc (G.q 0))) fun F=>(F.sx HS.out d) fun xr5 F=>(F.s (F.l1 (xr5 _ (G.e 1)) 0)) fun F=>?_;refine (F.s ((Z3c rfl (F.at rfl) Qy.underlying3 Qy.underlying75))) fun F=>?_;refine (F.s ((Z9L rfl (F.at rfl) (ev_c _ _)))) fun F=>?_;refine (F.s ((Z4S rfl (F.at rfl) (F.at rfl)))) fun F=>(F.s F.nc) fun F=>(F.s (F.fd 2)) fun F=>wpStill_nil <|(F.st G 0) fun G=>?_
  obtain ⟨s2,hs2'⟩:∃ s2,s2 = IntKind.u64.wrap (s1 + IntKind.u64.wrap (IntKind.u64.wrap (xs.getD d 0) * 2862933555777941757)):=⟨_,rfl⟩;replace hw1:=Z4f (s1 + IntKind.u64.wrap (IntKind.u64.wrap (xs.getD d 0) * 2862933555777941757));have q:=G.q 0;rw [← hs2'] at q hw1;replace G:=G.rQ 0 q;clear q;refine k3 <|wR fun k6=>(F.m) fun F=>(F.y F.nc) fun F=>(F.y (F.fd 1)) fun F=>(F.y (F.lc (G.q 0))) fun F=>(F.y F.ad) fun F=>(F.y F.nc) fun F=>(F.y (F.fd 1)) fun F=>(F.st G 0) fun G=>k6 <|wQ fun k7=>(wX 10 G) fun G=>(F.sm) fun F=>(F.s F.nc) fun F=>(F.s (F.fd 2)) fun F=>(F.s (F.lc (G.q 0))) fun F=>(F.sm) fun F=>(F.s F.nc) fun F=>(F.s (F.fd 2)) fun F=>?_
  refine (F.s (F.lc (G.q 0))) fun F=>?_;refine (F.s ((Z8M (m:=29) rfl (F.at rfl) (ev_c _ _)))) fun F=>?_;refine (F.s ((Zfa rfl (F.at rfl) (F.at rfl)))) fun F=>wpStill_nil <|(F.m) fun F=>k7 <|wQ fun k8=>?_
  replace F:=F.b [3];refine wG <|(F.m) fun F=>?_
  refine (F.y ((Z9L rfl (F.at rfl) (ev_c _ _)))) fun F=>?_;obtain ⟨s3,hs3'⟩:∃ s3,s3 = IntKind.u64.wrap (bits .xor .u64 s2 (s2.fdiv (2 ^ min 29 IntKind.u64.bits)) * 2685821657736338717):=⟨_,rfl⟩;have hw3:=Z4f (bits .xor .u64 s2 (s2.fdiv (2 ^ min 29 IntKind.u64.bits)) * 2685821657736338717);rw [← hs3'] at F hw3;refine (F.m) fun F=>k8 <|wR fun k9=>(F.m) fun F=>(F.m) fun F=>?_
  refine (F.y ((Z8M (m:=32) rfl (F.at rfl) (ev_c _ _)))) fun F=>?_;refine (F.y ((Zfa rfl (F.at rfl) (F.at rfl)))) fun F=>?_;refine (F.y ((Z8M (m:=8) rfl (F.at rfl) (ev_c _ _)))) fun F=>(F.m) fun F=>k9 <|(F.r1) ?_
  have hf:=Z9z s3 (min 32 IntKind.u64.bits) hw3.1;have hx:=ZbX s3 (s3.fdiv (2 ^ min 32 IntKind.u64.bits)) hw3 ⟨hf.1,by omega⟩;exact ⟨_,rfl,(shr8 hx).1,(shr8 hx).2,⟨hb,⟨na,nc,xs,rfl,hn⟩,(G.e 1),_,s2,(G.q 0),by omega,by omega,hw1.1,hw1.2⟩,(G.e 2)⟩
 ·obtain ⟨s2,hs2'⟩:∃ s2,s2 = s1:=⟨_,rfl⟩
  have q:=G.q 0;rw [← hs2'] at q hw1;replace G:=G.rQ 0 q;clear q;refine wp_skip <|k3 <|wR fun k10=>(F.m) fun F=>(F.y F.nc) fun F=>(F.y (F.fd 1)) fun F=>(F.y (F.lc (G.q 0))) fun F=>(F.y F.ad) fun F=>(F.y F.nc) fun F=>(F.y (F.fd 1)) fun F=>(F.st G 0) fun G=>k10 <|wQ fun k11=>(wX 10 G) fun G=>(F.sm) fun F=>(F.s F.nc) fun F=>(F.s (F.fd 2)) fun F=>(F.s (F.lc (G.q 0))) fun F=>(F.sm) fun F=>(F.s F.nc) fun F=>(F.s (F.fd 2)) fun F=>?_
  refine (F.s (F.lc (G.q 0))) fun F=>?_;refine (F.s ((Z8M (m:=29) rfl (F.at rfl) (ev_c _ _)))) fun F=>?_;refine (F.s ((Zfa rfl (F.at rfl) (F.at rfl)))) fun F=>wpStill_nil <|(F.m) fun F=>k11 <|wR fun k12=>(F.m) fun F=>?_
  refine (F.y ((Z9L rfl (F.at rfl) (ev_c _ _)))) fun F=>?_;obtain ⟨s3,hs3'⟩:∃ s3,s3 = IntKind.u64.wrap (bits .xor .u64 s2 (s2.fdiv (2 ^ min 29 IntKind.u64.bits)) * 2685821657736338717):=⟨_,rfl⟩;have hw3:=Z4f (bits .xor .u64 s2 (s2.fdiv (2 ^ min 29 IntKind.u64.bits)) * 2685821657736338717);rw [← hs3'] at F hw3;refine (F.m) fun F=>k12 <|wR fun k13=>(F.m) fun F=>(F.m) fun F=>?_
  refine (F.y ((Z8M (m:=32) rfl (F.at rfl) (ev_c _ _)))) fun F=>?_;refine (F.y ((Zfa rfl (F.at rfl) (F.at rfl)))) fun F=>?_;refine (F.y ((Z8M (m:=8) rfl (F.at rfl) (ev_c _ _)))) fun F=>(F.m) fun F=>k13 <|(F.r1) ?_
  have hf:=Z9z s3 (min 32 IntKind.u64.bits) hw3.1;have hx:=ZbX s3 (s3.fdiv (2 ^ min 32 IntKind.u64.bits)) hw3 ⟨hf.1,by omega⟩;exact ⟨_,rfl,(shr8 hx).1,(shr8 hx).2,⟨hb,⟨na,nc,xs,rfl,hn⟩,(G.e 1),_,s2,(G.q 0),by omega,by omega,hw1.1,hw1.2⟩,(G.e 2)⟩
theorem Z1e (w0 w:World) (b k:Nat) (nv:Value) (n:Int) (h:Zh w0 w b k nv) (hk:k ≤ 1000000) (h0:-1000000 ≤ n) (hn:n ≤ 1000000) :
  Calls (Qy.prog μ) 31 #[.pointer (some ⟨b,0,none⟩),.int .i64 n] w fun e w'=>∃ v:Int,e = .returned (.int .i64 v) ∧ 0 ≤ v ∧ v ≤ max n 0 ∧ Zh w0 w' b (k + 1) nv ∧ Ext [b] w w':=by
 have E:Ext [b] w w:=Ext.refl _ _;have HL:=h;clear h;have G:=((Bk.nil w).cl HL).ce E;refine (ent 14 Tryz.f31 rfl) fun F=>wR fun k1=>(F.m) fun F=>k1 <|wQ fun k2=>wR fun k3=>(F.m) fun F=>(F.y F.ls) fun F=>k3 <|F.ci (fun hc6=>?_) (fun hc6=>?_)
 ·refine wR fun k4=>(F.m) fun F=>k4 <|(F.r1) ?_
  exact ⟨0,rfl,by omega,by omega,ZF (G.l 1) (by omega),(G.e 0)⟩
 ·refine wp_skip <|k2 <|wR fun k5=>(F.m) fun F=>(F.k (Zd6 w0 _ b k nv (G.l 1) hk)) ?_
  rintro _ w1 ⟨v,rfl,hv1,hv2,HL,e1⟩;refine ⟨_,rfl,fun F=>?_⟩;replace G:=G.xl 1 e1 HL;have hu:=ZdR (n:=n) ⟨hv1,hv2⟩ ⟨by omega,hn⟩;refine (F.m) fun F=>(F.y F.ad) fun F=>?_;refine (F.y ((Z3c rfl (F.at rfl) Qy.underlying3 Qy.underlying75))) fun F=>?_;rw [hu.1] at F;refine (F.y ((Zjl rfl (F.at rfl) (F.at rfl) (by omega)))) fun F=>?_;refine (F.y ((Z3c rfl (F.at rfl) Qy.underlying75 Qy.underlying3))) fun F=>?_;rw [hu.2.1] at F;refine (F.m) fun F=>k5 <|(F.r1) ?_
  exact ⟨_,rfl,hu.2.2.1,by omega,(G.l 1),(G.e 0)⟩
theorem Z7M (w0 w:World) (b k:Nat) (nv:Value) (lo hi:Int) (h:Zh w0 w b k nv) (hk:k ≤ 1000000) (h1:-1000 ≤ lo) (h2:lo ≤ 1000) (h3:-1000 ≤ hi) (h4:hi ≤ 1000) :
  Calls (Qy.prog μ) 59 #[.pointer (some ⟨b,0,none⟩),.int .i64 lo,.int .i64 hi] w fun e w'=>∃ v:Int,e = .returned (.int .i64 v) ∧ lo ≤ v ∧ v ≤ max lo hi ∧ Zh w0 w' b (k + 1) nv ∧ Ext [b] w w':=by
 have E:Ext [b] w w:=Ext.refl _ _;have HL:=h;clear h;have G:=((Bk.nil w).cl HL).ce E;refine (ent 14 Tryz.f59 rfl) fun F=>wR fun k1=>(F.m) fun F=>k1 <|wR fun k2=>(F.m) fun F=>(F.m) fun F=>(F.m) fun F=>(F.m) fun F=>(F.y F.sb) fun F=>(F.k (Z1e w0 _ b k nv (hi - lo) (G.l 1) hk (by omega) (by omega))) ?_
 rintro _ w1 ⟨v,rfl,hv1,hv2,HL,e1⟩;refine ⟨_,rfl,fun F=>?_⟩;replace G:=G.xl 1 e1 HL;refine (F.y F.ad) fun F=>(F.m) fun F=>k2 <|(F.r1) ?_
 exact ⟨_,rfl,by omega,by omega,(G.l 1),(G.e 0)⟩
theorem Zfl (w0 w:World) (b k:Nat) (nv:Value) (g:Nat) (T:TypeId) (xs:List Int) (h:Zh w0 w b k nv) (hk:k ≤ 1000000) (hg:w.heap[g]? = some (.cells (xs.map (Value.int .i64)).toArray T (0,0))) (hgb:g ≠ b) (hx:0 < xs.length) (hx2:xs.length ≤ 1000) :
  Calls (Qy.prog μ) 60 #[.pointer (some ⟨b,0,none⟩),.slice (some ⟨g,0,none⟩) xs.length xs.length] w fun e w'=>∃ v:Int,e = .returned (.int .i64 v) ∧ v ∈ xs ∧ Zh w0 w' b (k + 1) nv ∧ Ext [b] w w':=by
 have E:Ext [b] w w:=Ext.refl _ _;have HL:=h;clear h;have HG:Hid (∀ W,Ext [b] w W → Z7 W (.slice (some ⟨g,0,none⟩) xs.length xs.length) 1 (xs.map Z5)):=fun W e=>ZP xs xs.length (e.keep hg (by simp [hgb]));have HS:=Lib.hid (Z0E (X:=[b]) (HG.out _ E) (fun W e=>HG.out _ e) 0);clear hg;have G:=((Bk.nil w).cl HL).ce E;refine (ent 13 Tryz.f60 rfl) fun F=>wR fun k1=>(F.m) fun F=>k1 <|wR fun k2=>(F.m) fun F=>(F.m) fun F=>(F.m) fun F=>(F.y F.ln) fun F=>(F.y F.sb) fun F=>(F.k (Z1e w0 _ b k nv ((xs.length:Int) - 1) (G.l 1) hk (by omega) (by omega))) ?_
 rintro _ w1 ⟨v,rfl,hv1,hv2,HL,e1⟩;refine ⟨_,rfl,fun F=>?_⟩;replace G:=G.xl 1 e1 HL;obtain ⟨i,rfl⟩:=Int.eq_ofNat_of_zero_le hv1;have hil:i < xs.length:=by omega
 refine (F.ix HS.out i) fun xr3 F=>(F.y (F.l1 (xr3 _ (G.e 0)) 0)) fun F=>(F.m) fun F=>k2 <|(F.r1) ?_
 exact ⟨_,rfl,Z8 0 hil,(G.l 1),(G.e 0)⟩
theorem Za0 (w0 w:World) (b k:Nat) (nv:Value) (n:Int) (h:Zh w0 w b k nv) (hk:k ≤ 1000000) (h0:1 ≤ n) (hn:n ≤ 1000000) :
  Calls (Qy.prog μ) 69 #[.pointer (some ⟨b,0,none⟩),.int .i64 n] w fun e w'=>∃ r,e = .returned (.bool r) ∧ Zh w0 w' b (k + 1) nv ∧ Ext [b] w w':=by
 have E:Ext [b] w w:=Ext.refl _ _;have G:=(Bk.nil w).ce E;refine (ent 10 Tryz.f69 rfl) fun F=>wR fun k1=>(F.m) fun F=>k1 <|wR fun k2=>(F.m) fun F=>(F.m) fun F=>(F.y F.sb) fun F=>(F.k (Z1e w0 _ b k nv (n - 1) h hk (by omega) (by omega))) ?_
 rintro _ w1 ⟨v,rfl,hv0,hv1,HL,e1⟩;refine ⟨_,rfl,fun F=>?_⟩;replace G:=G.x e1;refine (F.y F.eq) fun F=>(F.m) fun F=>k2 <|(F.r1) ?_
 exact ⟨_,rfl,HL,(G.e 0)⟩
theorem Z8R (w:World) (a:Option Addr) (n c:Nat) (zs:List Int) (h:ZaL .i64 w a n c zs) :
  Calls (Qy.prog μ) 12 #[.slice a n c] w fun e w'=>∃ b,e = .returned (.pointer (some ⟨b,0,none⟩)) ∧ w.heap.size ≤ b ∧ b < w'.heap.size ∧ Zh w w' b 0 (.slice a n c) ∧ Ext [] w w':=by
 obtain ⟨xs,hxl,hr⟩:=Z69 h;subst hxl;have E:Ext [] w w:=Ext.refl _ _;have G:=(Bk.nil w).ce E;refine (ent 6 Tryz.f12 rfl) fun F=>wR fun k1=>(F.m) fun F=>k1 <|wR fun k2=>(F.m) fun F=>(F.y (F.bv #[.slice a xs.length c,.int .i64 0,.int .u64 1])) fun F=>(F.bx G) @fun n5 w1 _ yy F G=>(F.m) fun F=>k2 <|(F.r1) ?_
 exact ⟨n5,rfl,yy.1,Z3 (G.q 0),⟨yy.1,⟨a,c,xs,rfl,hr⟩,(G.e 1).mono (fun _ h=>absurd h (by simp)),0,1,(G.q 0),by omega,by omega,by omega,by omega⟩,(G.e 1)⟩
variable {μ:Nat}
theorem Z9y {w w':World} {a:Option Addr} {sz n:Nat} {row:Nat → List Value} (h:SlAt [] w a sz n row) (e:Ext [] w w'): SlAt [] w' a sz n row:=fun i hi=>by
 obtain ⟨xb,xo,h1,h2⟩:=h i hi;exact ⟨xb,xo,h1,fun W hW=>h2 W (e.nil hW)⟩
def Z0y (w:World) (a:Option Addr) (L:List (Value × List Int)):Prop:=SlAt [] w a 1 L.length (fun i=>[(L.getD i (.bool true,[])).1]) ∧ ∀ p ∈ L,Z42 w p.1 p.2
theorem Z0y.ext {w W:World} {a:Option Addr} {L:List (Value × List Int)} (h:Z0y w a L) (e:Ext [] w W):Z0y W a L:=⟨Z9y h.1 e,fun p hp=>(h.2 p hp).ext e⟩
theorem Z0h (xs ys:List Int) (a b:Option Addr) (ca cb:Nat) (w:World) (hx:Z7 w (.slice a xs.length ca) 1 (xs.map Z5)) (hy:Z7 w (.slice b ys.length cb) 1 (ys.map Z5)) (h1:xs.length ≤ 1000000) (h2:ys.length ≤ 1000000) :
  Calls (Qy.prog μ) 16 #[.slice a xs.length ca,.slice b ys.length cb] w fun e w'=>e = .returned (.bool (decide (xs = ys))) ∧ Ext [] w w':=by
 have HS:=Lib.hid (Zb hx 0);have HU:=Lib.hid (Zb hy 0);have E:Ext [] w w:=Ext.refl _ _;clear hx hy;have G:=(Bk.nil w).ce E;refine (ent 26 Tryz.f16 rfl) fun F=>wR fun k1=>(F.m) fun F=>k1 <|wQ fun k2=>wR fun k3=>(F.m) fun F=>(F.y F.ln) fun F=>(F.m) fun F=>(F.y F.ln) fun F=>(F.y F.ne) fun F=>k3 <|F.ci (fun hc10=>?_) (fun hc10=>?_)
 ·refine wR fun k4=>(F.m) fun F=>k4 <|(F.r1) ?_
  exact ⟨Z0L (decide_eq_false fun h=>by rw [h] at hc10;omega).symm,(G.e 0)⟩
 ·refine wp_skip <|k2 <|wQ fun k5=>wR fun k6=>(F.m) fun F=>k6 <|wp_block <|lpB (F.b [0,1]) G (xs.length) (fun i Lv Sv W=>Lv = [(5,.int .i64 ((i:Nat):Int))] ∧ Sv = [] ∧ ∀ j,j < i → xs.getD j 0 = ys.getD j 0) ⟨_,_,F.u,G.u,rfl,rfl,fun j hj=>absurd hj (by omega)⟩ ?_
  clear F G;rintro i _ w1 _ _ hi1 ⟨rfl,rfl,hb⟩ F G;replace G:=G.z;refine wQ fun k7=>wR fun k8=>(F.m) fun F=>(F.m) fun F=>(F.y F.ln) fun F=>(F.y F.ls) fun F=>k8 <|F.ci (fun hc14=>?_) (fun hc14=>?_)
  ·refine wp_skip <|k7 <|wQ fun k9=>wp_block <|wQ fun k10=>(wX 8 G) fun G=>(F.sm) fun F=>(F.sm) fun F=>(F.sx HS.out i) fun xr11 F=>(F.s (F.l1 (xr11 _ (G.e 0)) 0)) fun F=>(F.sm) fun F=>(F.sm) fun F=>(F.sx HU.out i) fun xr12 F=>(F.s (F.l1 (xr12 _ (G.e 0)) 0)) fun F=>wpStill_nil <|(F.y F.ne) fun F=>k10 <|F.ci (fun hc25=>?_) (fun hc25=>?_)
   ·refine wR fun k13=>(F.m) fun F=>k13 <|(F.r1) ?_
    exact ⟨Z0L (decide_eq_false fun h=>hc25 (by rw [h])).symm,(G.e 0)⟩
   ·refine wp_skip <|k9 <|wp_region_lit <|(F.m) fun F=>(F.y F.ad) fun F=>(F.m) fun F=>?_
    show _ ∧ _;exact ⟨by omega,_,_,F.u,G.u,rfl,rfl,fun j hj=>if e:j = i then e ▸ (by simpa using hc25) else hb j (by omega)⟩
  ·refine wp_exit <|k5 <|wR fun k14=>(F.m) fun F=>k14 <|(F.r1) ?_
   exact ⟨Z0L (decide_eq_true (List.ext_getElem (by omega) fun j h1 h2=>by have:=hb j (by omega);simpa [h1,h2] using this)).symm,(G.e 0)⟩
variable {μ:Nat}
structure Vm where
 B:Int
 D:List (Value × List Int)
 da:Option Addr
 dc:Nat
 L:List (Value × List Int)
 la:Option Addr
 lc:Nat
 tol:Int
structure Vm.At (x:Vm) (w:World):Prop where
 d:Z0y w x.da x.D
 l:Z0y w x.la x.L
theorem Vm.At.ext {x:Vm} {w W:World} (h:x.At w) (e:Ext [] w W):x.At W:=⟨h.d.ext e,h.l.ext e⟩
def Z9R (L:List (Value × List Int)):Prop:=L.length ≤ 1000 ∧ ∀ p ∈ L,p.2.length ≤ 1000
def outB (n lo hi:Int):Bool:=decide (n < lo) || decide (hi < n)
theorem Z28 {n lo hi:Int}: outB n lo hi = false ↔ lo ≤ n ∧ n ≤ hi:=by
 simp only [outB,Bool.or_eq_false_iff,decide_eq_false_iff_not];omega
def sizE (n most:Int):Int:=if n = 0 then 7 else if most < n then 6 else 0
def numE (l:List Int) (many hi:Int):Int:=if (l.length:Int) ≠ many then 9 else if l.all (fun n=>!outB n 0 hi) then 0 else 1
def numS (l:List Int) (many hi:Int):Int:=if numE l many hi = 0 then l.sum else 0
theorem Z0U (n lo hi:Int) (w:World):Calls (Qy.prog μ) 92 #[.int .i64 n,.int .i64 lo,.int .i64 hi] w fun e w'=>e = .returned (.bool (outB n lo hi)) ∧ Ext [] w w':=by
 have E:Ext [] w w:=Ext.refl _ _;have hl:outB n lo hi = (decide (n < lo) || decide (hi < n)):=rfl;have G:=(Bk.nil w).ce E;refine (ent 15 Tryz.f92 rfl) fun F=>wR fun k1=>(F.m) fun F=>k1 <|wQ fun k2=>?_
 by_cases c1:n < lo
 ·refine wG <|(F.m) fun F=>(F.m) fun F=>(F.y F.lsT) fun F=>(F.m) fun F=>(F.n) fun F=>(F.n) fun F=>(F.n) fun F=>(F.y F.pT) fun F=>(F.m) fun F=>?_
  rw [decide_eq_true c1,Bool.true_or] at hl;refine k2 <|(F.r1) ?_
  exact ⟨congrArg (fun x=>Ending.returned (Value.bool x)) hl.symm,(G.e 0)⟩
 ·by_cases c2:hi < n
  ·refine wG <|(F.m) fun F=>(F.m) fun F=>(F.y F.lsF) fun F=>(F.m) fun F=>(F.m) fun F=>(F.m) fun F=>(F.y F.gtT) fun F=>(F.y F.pF) fun F=>(F.m) fun F=>?_
   rw [decide_eq_true c2,Bool.or_true] at hl;refine k2 <|(F.r1) ?_
   exact ⟨congrArg (fun x=>Ending.returned (Value.bool x)) hl.symm,(G.e 0)⟩
  ·refine wG <|(F.m) fun F=>(F.m) fun F=>(F.y F.lsF) fun F=>(F.m) fun F=>(F.m) fun F=>(F.m) fun F=>(F.y F.gtF) fun F=>(F.y F.pF) fun F=>(F.m) fun F=>?_
   rw [decide_eq_false c1,decide_eq_false c2] at hl;refine k2 <|(F.r1) ?_
   exact ⟨congrArg (fun x=>Ending.returned (Value.bool x)) hl.symm,(G.e 0)⟩
theorem Z4J (n m:Int) (w:World):Calls (Qy.prog μ) 93 #[.int .i64 n,.int .i64 m] w fun e w'=>e = .returned (.int .i64 (sizE n m)) ∧ Ext [] w w':=by
 have E:Ext [] w w:=Ext.refl _ _;have G:=(Bk.nil w).ce E;refine (ent 12 Tryz.f93 rfl) fun F=>wR fun k1=>(F.m) fun F=>k1 <|wQ fun k2=>wp_block <|wR fun k3=>(F.m) fun F=>(F.y F.eq) fun F=>(F.m) fun F=>k3 <|F.ci (fun hc5=>?_) (fun hc5=>?_)
 ·refine wR fun k4=>(F.m) fun F=>k4 <|(F.r1) ?_
  first | exact ⟨Zi (by rw [sizE,if_pos (by omega)]),(G.e 0)⟩ | exact ⟨Zi (by rw [sizE,if_neg (by omega),if_pos (by omega)]),(G.e 0)⟩ | exact ⟨Zi (by rw [sizE,if_neg (by omega),if_neg (by omega)]),(G.e 0)⟩
 ·refine wR fun k5=>(F.m) fun F=>(F.m) fun F=>(F.y F.gt) fun F=>(F.m) fun F=>k5 <|F.ci (fun hc8=>?_) (fun hc8=>?_)
  ·refine wR fun k6=>(F.m) fun F=>k6 <|(F.r1) ?_
   first | exact ⟨Zi (by rw [sizE,if_pos (by omega)]),(G.e 0)⟩ | exact ⟨Zi (by rw [sizE,if_neg (by omega),if_pos (by omega)]),(G.e 0)⟩ | exact ⟨Zi (by rw [sizE,if_neg (by omega),if_neg (by omega)]),(G.e 0)⟩
  ·refine wp_skip <|k2 <|wR fun k7=>(F.m) fun F=>k7 <|(F.r1) ?_
   first | exact ⟨Zi (by rw [sizE,if_pos (by omega)]),(G.e 0)⟩ | exact ⟨Zi (by rw [sizE,if_neg (by omega),if_pos (by omega)]),(G.e 0)⟩ | exact ⟨Zi (by rw [sizE,if_neg (by omega),if_neg (by omega)]),(G.e 0)⟩
theorem ZeA {l:List Int} {hi:Int} {i:Nat} (h:∀ j,j < i → outB (l.getD j 0) 0 hi = false) (hi':i = l.length): l.all (fun n=>!outB n 0 hi) = true:=by
 rw [List.all_eq_true];intro n hn;obtain ⟨j,hj,rfl⟩:=List.getElem_of_mem hn;have:=h j (by omega);rw [List.getD_eq_getElem?_getD,List.getElem?_eq_getElem hj] at this;simp only [Option.getD_some] at this;rw [this];rfl
theorem Zh8 {l:List Int} {hi:Int} {i:Nat} (hil:i < l.length) (h:outB (l.getD i 0) 0 hi = true): l.all (fun n=>!outB n 0 hi) = false:=by
 rw [List.all_eq_false];refine ⟨l.getD i 0,Z8 0 hil,by rw [h];simp⟩
theorem Z3d (l:List Int) {i:Nat} (h:i < l.length): (l.take (i + 1)).sum = (l.take i).sum + l.getD i 0:=by
 rw [List.take_add_one,List.getElem?_eq_getElem h,List.sum_append];simp [List.getD_eq_getElem?_getD,List.getElem?_eq_getElem h]
theorem Z2M (l:List Int) (many hi:Int) (a:Option Addr) (c:Nat) (w:World) (h:Z7 w (.slice a l.length c) 1 (l.map Z5)) (hl:l.length ≤ 1000) (hh:hi ≤ 1000) :
  Calls (Qy.prog μ) 94 #[.slice a l.length c,.int .i64 many,.int .i64 hi] w fun e w'=>e = .returned (.tuple #[.int .i64 (numS l many hi),.int .i64 (numE l many hi)]) ∧ Ext [] w w':=by
 have HS:=Lib.hid (Zb h 0);have E:Ext [] w w:=Ext.refl _ _;clear h;have G:=(Bk.nil w).ce E;refine (ent 29 Tryz.f94 rfl) fun F=>wR fun k1=>(F.m) fun F=>(F.m) fun F=>k1 <|wQ fun k2=>wR fun k3=>(F.m) fun F=>(F.y F.ln) fun F=>(F.m) fun F=>(F.y F.ne) fun F=>k3 <|F.ci (fun hc14=>?_) (fun hc14=>?_)
 ·refine wR fun k4=>(F.m) fun F=>(F.m) fun F=>k4 <|(F.r2) ?_
  have e:numE l many hi = 9:=(by rw [numE,if_pos (by omega)]);exact ⟨by rw [numS,e];rfl,(G.e 0)⟩
 ·refine wp_skip <|k2 <|wR fun k5=>(F.m) fun F=>?_
  rw [show (0:Int) = (l.take 0).sum from rfl] at F;refine k5 <|wQ fun k6=>wR fun k7=>(F.m) fun F=>(F.y F.ln) fun F=>(F.m) fun F=>k7 <|wp_block <|lpB (F.b [2,15,16]) G (l.length) (fun i Lv Sv W=>Lv = [(8,.int .i64 ((l.take i).sum)),(17,.int .i64 ((i:Nat):Int))] ∧ Sv = [] ∧ (∀ j,j < i → outB (l.getD j 0) 0 hi = false) ∧ 0 ≤ (l.take i).sum ∧ (l.take i).sum ≤ 1000 * (i:Int)) ⟨_,_,F.u,G.u,rfl,rfl,(fun j hj=>absurd hj (by omega)),(by simp),(by simp)⟩ ?_
  clear F G;rintro i _ w1 _ _ hi1 ⟨rfl,rfl,hb,hs0,hs1⟩ F G;replace G:=G.z;refine wR fun k8=>(F.y F.ls) fun F=>k8 <|wQ fun k9=>F.ci (fun hc18=>?_) (fun hc18=>?_)
  ·refine wp_skip <|k9 <|wQ fun k10=>wp_block <|wR fun k11=>(F.ix HS.out i) fun xr12 F=>(F.y (F.l1 (xr12 _ (G.e 0)) 0)) fun F=>(F.m) fun F=>k11 <|wQ fun k13=>wR fun k14=>(F.m) fun F=>(F.m) fun F=>(F.k0 G (Z0U (l.getD i 0) 0 hi _)) fun F G=>k14 <|F.cb (fun hc23=>?_) (fun hc23=>?_)
   ·have hyes:outB (l.getD i 0) 0 hi = true:=by simpa using hc23
    refine wR fun k15=>(F.m) fun F=>(F.m) fun F=>k15 <|(F.r2) ?_
    have e:numE l many hi = 1:=(by rw [numE,if_neg (by omega),Zh8 (by omega) hyes];rfl);exact ⟨by rw [numS,e];rfl,(G.e 0)⟩
   ·have hno:outB (l.getD i 0) 0 hi = false:=by simpa using hc23
    obtain ⟨hn1,hn2⟩:=Z28.1 hno;refine wp_skip <|k13 <|wp_region_lit <|(F.m) fun F=>(F.m) fun F=>(F.y F.ad) fun F=>?_
    rw [← Z3d l (show i < l.length by omega)] at F;refine (F.m) fun F=>k10 <|wp_region_lit <|(F.y F.ad) fun F=>(F.m) fun F=>?_
    show _ ∧ _;exact ⟨by omega,_,_,F.u,G.u,rfl,rfl,(fun j hj=>if e:j = i then e ▸ hno else hb j (by omega)),(by rw [Z3d l (by omega)];omega),(by rw [Z3d l (by omega)];omega)⟩
  ·refine wp_exit <|k6 <|wR fun k16=>(F.m) fun F=>(F.m) fun F=>(F.m) fun F=>k16 <|(F.r2) ?_
   have e:numE l many hi = 0:=(by rw [numE,if_neg (by omega),ZeA hb (by omega)];rfl);exact ⟨by rw [numS,e,if_pos rfl,List.take_of_length_le (by omega)],(G.e 0)⟩
variable {μ:Nat}
section
variable {P:Program} {ρ:Operand → Value} {o:Oper} {w:World}
theorem ZfU {x y:Operand} {dT sT elem:TypeId} {b off dLen dCap sLen sCap:Nat} {a:Addr} (cs:List Value) (ho:o.op = .call { callee:=.builtin .copy,args:=#[x,y],argTypes:=#[dT,sT] }) (hx:ρ x = .slice (some ⟨b,off,none⟩) dLen dCap) (hy:ρ y = .slice (some a) sLen sCap) (hu:P.underlying dT = some (.slice elem)) (hs:(P.info? elem).map (·.size) = some 1) (hn:cs.length = Nat.min sLen dLen) (hsrc:∀ j v,cs[j]? = some v → w.cell? (a.add j) = some v) (hc:∀ j,j < cs.length → (w.cell? ⟨b,off + j,none⟩).isSome = true) (hf:∀ j,j < cs.length → w.frozen? ⟨b,off + j,none⟩ = false) (h1:∀ v ∈ cs,v.oneCell' = true):
  (execOp ρ o).run P w = .ok (.value (.int .i64 cs.length)) (w.setCells b off cs):=by
 unfold execOp;simp [ho,hx,hy,resolve,invoke,builtin,run_copy_cells w dT sT o.type elem b off dLen dCap a sLen sCap cs hu hs hn hsrc hc hf h1,goInt,go_sem]
theorem Z2o {x:Operand} {t:TypeId} {b n:Nat} (ho:o.op = .slice t x none none none) (hx:ρ x = .pointer (some ⟨b,0,none⟩)) (hu:P.underlying t = some (.array (P.arrayLen t) (P.elem t))) (hs:(P.info? (P.elem t)).map (·.size) = some 1) (hn:P.arrayLen t = n):
  (execOp ρ o).run P w = .ok (.value (.slice (some ⟨b,0,none⟩) n n)) w:=by
 have h0:(sizeOf (P.elem t)).run P w = .ok 1 w:=by
  generalize P.elem t = e at hs
  cases hq:P.info? e with
  | none=>simp [hq] at hs
  | some j =>
   have hj:j.size = 1:=by simpa [hq] using hs
   simp [sizeOf,typeInfo,hq,hj]
 have hr:=run_sliceAt_array_all (P:=P) w t ⟨b,0,none⟩ hu;rw [h0,hn] at hr;simp only [Result.andThen_ok,slicedAt,Nat.zero_mul,Nat.sub_zero] at hr;have ha:(if n = 0 then (⟨b,0,none⟩:Addr) else Addr.add ⟨b,0,none⟩ 0) = ⟨b,0,none⟩:=by split <;> rfl
 rw [ha] at hr;clear hu hs hn h0 ha;unfold execOp;simp only [ho,hx,Option.map_none,Sem.run_bind,hr,Result.andThen_ok,Sem.run_pure]
end
def Z3P (l:List Int):Array Value:=#[.int .i64 (l.getD 0 0),.int .i64 (l.getD 1 0),.int .i64 (l.getD 2 0)]
theorem Zdg {w w2:World} {b:Nat} {l:List Int} {T:TypeId} (e:w2 = w.setCells b 0 (l.map (Value.int .i64))) (H:w.heap[b]? = some (.cells #[.int .i64 0,.int .i64 0,.int .i64 0] T (0,0))) (hl:l.length ≤ 3): w2.heap[b]? = some (.cells (Z3P l) T (0,0)):=by
 match l,hl with
 | [],_=>rw [e];exact H
 | [x],_=>exact ZE (w2:=w2) (by rw [e];rfl) H rfl
 | [x,y],_=>exact Z21 (w2:=w2) (by rw [e];rfl) H rfl
 | [x,y,z],_=>exact Z1J (cs:=Z3P [x,y,z]) (by rw [e];rfl) H rfl
 | x :: y :: z :: u :: l,h=>simp at h
def eqT (l m:List Int):Bool:=(List.range 3).all fun i=>decide (l.getD i 0 = m.getD i 0)
theorem ZgA {l m:List Int} (hl:l.length = m.length) (h3:l.length ≤ 3): eqT l m = true ↔ l = m:=by
 simp only [eqT,List.all_eq_true,List.mem_range,decide_eq_true_eq]
 constructor
 ·intro h
  refine List.ext_getElem hl fun j a b=>?_;simpa [a,b] using h j (by omega)
 ·rintro rfl;exact fun _ _=>rfl
section
variable {ρ:Operand → Value} {o:Oper} {w:World}
theorem Zd2 (l m:List Int):(Op.equalIn 10000 116 (.agg (Z3P l)) (.agg (Z3P m))).run (Qy.prog μ) w = .ok (eqT l m) w:=by
 refine Z1E (n:=1) Qy.underlying116 (by kernel_rfl) _ fun i hi=>?_;refine ⟨.int .i64 (l.getD i 0),.int .i64 (m.getD i 0),?_,?_,?_⟩
 ·rcases i with _ | _ | _ | i
  ·exact ZQ rfl
  ·exact ZQ rfl
  ·exact ZQ rfl
  ·omega
 ·rcases i with _ | _ | _ | i
  ·exact ZQ rfl
  ·exact ZQ rfl
  ·exact ZQ rfl
  ·omega
 ·exact run_equalIn_int w _ _ .i64 .i64 _ _ Qy.underlying3
theorem Zif {x y:Operand} {t':TypeId} {l m:List Int} (ho:o.op = .binOp .eql 116 x y t') (hx:ρ x = .agg (Z3P l)) (hy:ρ y = .agg (Z3P m)):
  (execOp ρ o).run (Qy.prog μ) w = .ok (.value (.bool (eqT l m))) w:=by
 have hg:(Qy.prog μ).eqGuardType (Qy.prog μ).depth 116 = false:=by kernel_rfl
 unfold execOp;simp only [ho,hx,hy,Sem.run_bind,run_eqGuard_agg w .eql 116 x y (Z3P l) (Z3P m) hg,Result.andThen_ok,run_eql_struct,Zd2,Sem.run_pure]
end
theorem Z9M {w:World} {n c sb so:Nat} {l:List Int} (h:Z7 w (.slice (some ⟨sb,so,none⟩) n c) 1 (l.map Z5)): ∀ (j:Nat) (v:Value),(l.map (Value.int .i64))[j]? = some v → w.cell? ((⟨sb,so,none⟩:Addr).add j) = some v:=by
 intro j v hv;rw [List.getElem?_map,Option.map_eq_some_iff] at hv;obtain ⟨k,hk,rfl⟩:=hv;have hne:l.map Z5 ≠ []:=by
  intro e;have hl:l = []:=by simpa using e
  rw [hl] at hk;simp at hk
 obtain ⟨b,off,hb,-,hr⟩:=h.range rfl hne
 cases hb
 have:=hr j (Z5 k) (by rw [List.getElem?_map,hk];rfl) 0 (.int .i64 k) rfl;rw [Nat.mul_one,Nat.add_zero] at this;rw [Go.WideShapes.add_plain];exact this
theorem ZeU {w:World} {b:Nat} {x y z:Value} {T:TypeId} (H:w.heap[b]? = some (.cells #[x,y,z] T (0,0))) {n:Nat} (hn:n ≤ 3): (∀ j,j < n → (w.cell? ⟨b,0 + j,none⟩).isSome = true) ∧ ∀ j,j < n → w.frozen? ⟨b,0 + j,none⟩ = false:=by
 refine ⟨fun j hj=>?_,fun j hj=>Za H _⟩;rw [Z0 H]
 rcases j with _ | _ | _ | j
 ·rfl
 ·rfl
 ·rfl
 ·omega
theorem Z6x (l:List Int):∀ v ∈ l.map (Value.int .i64),v.oneCell' = true:=by
 intro v hv;obtain ⟨k,-,rfl⟩:=List.mem_map.1 hv
 rfl
variable {μ:Nat}
def dyeE (B:Int):List (List Int) → List (List Int) → Int
 | _,[]=>0
 | met,d :: ds=>if numE d B 9 ≠ 0 then numE d B 9 else if d ∈ met then 4 else dyeE B (met ++ [d]) ds
def Z1L (B:Int):List (List Int) → Int
 | []=>0
 | l :: ls=>if numE l B 3 ≠ 0 then numE l B 3 else if l.sum = 0 then 7 else Z1L B ls
def chkE (B:Int) (ds ls:List (List Int)) (tol:Int):Int:=
 if outB B 1 3 = true then 1 else if sizE ds.length 4 ≠ 0 then sizE ds.length 4 else if dyeE B [] ds ≠ 0 then dyeE B [] ds
 else if sizE ls.length 3 ≠ 0 then sizE ls.length 3 else if Z1L B ls ≠ 0 then Z1L B ls else if outB tol 0 12 = true then 1 else 0
theorem ZK {α:Type} (l:List α) (d:α) {i:Nat} (h:i < l.length): l.drop i = l.getD i d :: l.drop (i + 1):=by
 rw [List.drop_eq_getElem_cons h];simp [List.getD_eq_getElem?_getD,List.getElem?_eq_getElem h]
theorem Z2f {α:Type} (l:List α) (d:α) {i:Nat} (h:i < l.length): l.take (i + 1) = l.take i ++ [l.getD i d]:=by
 rw [List.take_add_one,List.getElem?_eq_getElem h];simp [List.getD_eq_getElem?_getD,List.getElem?_eq_getElem h]
theorem Zd5 {l:List Int} {m h:Int} (e:numE l m h = 0): (l.length:Int) = m ∧ ∀ n ∈ l,0 ≤ n ∧ n ≤ h:=by
 unfold numE at e
 split at e
 ·cases e
 ·rename_i hlen
  split at e
  ·rename_i ha
   refine ⟨by omega,fun n hn=>?_⟩;have:=List.all_eq_true.1 ha n hn;exact Z28.1 (by simpa using this)
  ·cases e
theorem ZgO {B:Int} {ds:List (List Int)} {i:Nat} (hi:i < ds.length) (h:numE (ds.getD i []) B 9 ≠ 0): dyeE B (ds.take i) (ds.drop i) = numE (ds.getD i []) B 9:=by
 rw [ZK ds [] hi,dyeE,if_pos h]
theorem Zdf {B:Int} {ds:List (List Int)} {i j:Nat} (hi:i < ds.length) (h:numE (ds.getD i []) B 9 = 0) (hj:j < i) (e:ds.getD j [] = ds.getD i []): dyeE B (ds.take i) (ds.drop i) = 4:=by
 rw [ZK ds [] hi,dyeE,if_neg (by rw [h];simp),if_pos];rw [← e,List.getD_eq_getElem?_getD,List.getElem?_eq_getElem (show j < ds.length by omega)];exact List.mem_take_iff_getElem.2 ⟨j,by omega,rfl⟩
theorem Ziq {B:Int} {ds:List (List Int)} {i:Nat} (hi:i < ds.length) (h:numE (ds.getD i []) B 9 = 0) (hn:∀ j,j < i → ds.getD j [] ≠ ds.getD i []): dyeE B (ds.take i) (ds.drop i) = dyeE B (ds.take (i + 1)) (ds.drop (i + 1)):=by
 rw [ZK ds [] hi,dyeE,if_neg (by rw [h];simp),if_neg,← Z2f ds [] hi];intro hm;obtain ⟨j,hj,e⟩:=List.mem_take_iff_getElem.1 hm;have hj':j < i:=by omega
 refine hn j hj' ?_;rw [List.getD_eq_getElem?_getD,List.getElem?_eq_getElem (show j < ds.length by omega)];exact e
theorem Zep {B:Int} {ls:List (List Int)} {i:Nat} (hi:i < ls.length) (h:numE (ls.getD i []) B 3 ≠ 0): Z1L B (ls.drop i) = numE (ls.getD i []) B 3:=by
 rw [ZK ls [] hi,Z1L,if_pos h]
theorem Zdj {B:Int} {ls:List (List Int)} {i:Nat} (hi:i < ls.length) (h:numE (ls.getD i []) B 3 = 0) (h0:(ls.getD i []).sum = 0): Z1L B (ls.drop i) = 7:=by
 rw [ZK ls [] hi,Z1L,if_neg (by rw [h];simp),if_pos h0]
theorem Zh3 {B:Int} {ls:List (List Int)} {i:Nat} (hi:i < ls.length) (h:numE (ls.getD i []) B 3 = 0) (h0:(ls.getD i []).sum ≠ 0): Z1L B (ls.drop i) = Z1L B (ls.drop (i + 1)):=by
 rw [ZK ls [] hi,Z1L,if_neg (by rw [h];simp),if_neg h0]
def ZaF (l:List Int):List Value:=[.int .i64 (l.getD 0 0),.int .i64 (l.getD 1 0),.int .i64 (l.getD 2 0)]
end Go.Proofs.YtfelljbfeoplhaaGreat
