/- Parts of a proof: Rm. No conditions. -/
import Derived.Test.YtholfdgebdlgjaaPE13
set_option linter.unusedVariables false
set_option linter.unusedSimpArgs false
namespace Go.Proofs.Ytholfdgebdlgjaa
open Go.RowKit
structure Chg (base:Nat) (T:TypeId) (w w':World):Prop where
 os:w'.os = w.os
 tape:w'.tape = w.tape
 output:w'.output = w.output
 size:w.heap.size ≤ w'.heap.size
 block:∀ k,k < w.heap.size → (k < base ∨ ∀ cs fz,w.heap[k]? ≠ some (.cells cs T fz)) → w'.heap[k]? = w.heap[k]?
theorem Z6C {b:Nat} {T:TypeId} {a w w':World} (h:Chg b T a w) (e:Ext [] w w'):Chg b T a w':=
 ⟨e.os.trans h.os,e.tape.trans h.tape,e.output.trans h.output,Nat.le_trans h.size e.size,fun k hk hc=>(e.block k (Nat.lt_of_lt_of_le hk h.size) (by simp)).trans (h.block k hk hc)⟩
theorem Z9I (b:Nat) (T:TypeId) (w:World):Chg b T w w:=⟨rfl,rfl,rfl,Nat.le_refl _,fun _ _ _=>rfl⟩
theorem Z6i {b:Nat} {T:TypeId} {a w w2:World} {ob:Obj} (hw:w2 = w.alloc ob) (h:Chg b T a w):Chg b T a w2:=Z6C h (Z2 (Ext.refl [] w) hw)
theorem Z8U {b:Nat} {T:TypeId} {a w w':World} (h:Chg b T a w) (k:Chg b T w w'):Chg b T a w':=
 ⟨k.os.trans h.os,k.tape.trans h.tape,k.output.trans h.output,Nat.le_trans h.size k.size,fun i hi hc=>(k.block i (Nat.lt_of_lt_of_le hi h.size) (by
  rcases hc with hc | hc
  ·exact .inl hc
  ·rw [h.block i hi (.inr hc)];exact .inr hc)).trans (h.block i hi hc)⟩
theorem Z4C {X:List Nat} {b:Nat} {T:TypeId} {w0 w w':World} (E:Ext X w0 w) (h:Chg b T w w') (hb:w0.heap.size ≤ b):Ext X w0 w':=
 ⟨h.os.trans E.os,h.tape.trans E.tape,h.output.trans E.output,Nat.le_trans E.size h.size,fun k hk hx=>(h.block k (Nat.lt_of_lt_of_le hk E.size) (.inl (Nat.lt_of_lt_of_le hk hb))).trans (E.block k hk hx)⟩
theorem Z12 {b:Nat} {T T':TypeId} {w w':World} {k:Nat} {cs:Array Value} {fz:Nat × Nat} (h:Chg b T w w') (q:w.heap[k]? = some (.cells cs T' fz)) (hT:T' ≠ T):w'.heap[k]? = some (.cells cs T' fz):=by
 rw [h.block k (Z7 q) (.inr fun cs fz e=>by rw [q] at e;cases e;exact hT rfl),q]
theorem Z8i {b base n size:Nat} {T:TypeId} {a w w':World} {v:Value} {xs:List Value} (h:Chg b T a w) (ho:w.ownsRow base T size v n xs) (hg:w.grownBy w' v.ownBlock) (hb:b ≤ base):Chg b T a w':=by
 refine Z8U h ⟨hg.os,hg.tape,hg.output,hg.size,fun k hk hc=>hg.block k hk fun e=>?_⟩
 rcases hc with hc | hc
 ·have:=(ho.lt k e.symm).1
  omega
 ·rcases ho.2 with ⟨h1,-⟩ | ⟨g,cap,cur,h1,h2,h3,h4⟩
  ·rw [h1] at e;cases e
  ·rw [h1] at e
   cases e
   exact hc _ _ h3
def rowM (n:Nat) (m:Nat → Nat → Int) (i:Nat):List Int:=(List.range n).map (m i)
theorem Z4l (n:Nat) (m:Nat → Nat → Int) (i:Nat):(rowM n m i).length = n:=by simp [rowM]
theorem Z9u {n:Nat} {m:Nat → Nat → Int} {i j:Nat} (h:j < n):(rowM n m i).getD j 0 = m i j:=by simp [rowM,h]
theorem Z9R {n:Nat} {m:Nat → Nat → Int} {x y:Nat} (v:Int):(rowM n m x).set y v = rowM n (upd m x y v) x:=by
 apply List.ext_getElem
 ·simp [rowM]
 ·intro i h1 h2
  simp only [rowM,List.getElem_set,List.getElem_map,List.getElem_range,upd]
  by_cases e:y = i
  ·subst e;simp
  ·rw [if_neg e,if_neg (by omega)]
theorem Z7A {n:Nat} {m:Nat → Nat → Int} {x y i:Nat} (v:Int) (h:i ≠ x):rowM n (upd m x y v) i = rowM n m i:=by
 simp [rowM,upd,h]
structure IsM (w:World) (base:Nat) (oa:Option Addr) (oc:Nat) (va:Nat → Option Addr) (vc:Nat → Nat) (n:Nat) (m:Nat → Nat → Int):Prop where
 o:w.ownsRow base 29 1 (.slice oa n oc) n ((List.range n).map fun i=>.slice (va i) n (vc i))
 r:∀ i,i < n → w.ownsRow base 3 1 (.slice (va i) n (vc i)) n (ivs (rowM n m i))
 d:∀ i j,i < n → j < n → i ≠ j → ∀ b,(Value.slice (va i) n (vc i)).ownBlock = some b → (Value.slice (va j) n (vc j)).ownBlock ≠ some b
theorem Z0i {w w':World} {base base':Nat} {oa:Option Addr} {oc:Nat} {va:Nat → Option Addr} {vc:Nat → Nat} {n:Nat} {m:Nat → Nat → Int} (h:IsM w base oa oc va vc n m)
  (k1:∀ v n xs,w.ownsRow base 29 1 v n xs → w'.ownsRow base' 29 1 v n xs) (k2:∀ v n xs,w.ownsRow base 3 1 v n xs → w'.ownsRow base' 3 1 v n xs):IsM w' base' oa oc va vc n m:=
 ⟨k1 _ _ _ h.o,fun i hi=>k2 _ _ _ (h.r i hi),h.d⟩
theorem Z6w {w w':World} {base:Nat} {oa:Option Addr} {oc:Nat} {va:Nat → Option Addr} {vc:Nat → Nat} {n:Nat} {m:Nat → Nat → Int} {x y:Nat} {v:Int} (h:IsM w base oa oc va vc n m) (hx:x < n)
  (hv:w'.ownsRow base 3 1 (.slice (va x) n (vc x)) n ((ivs (rowM n m x)).set y (.int .i64 v))) (hg:w.grownBy w' (Value.slice (va x) n (vc x)).ownBlock):IsM w' base oa oc va vc n (upd m x y v):=by
 refine ⟨Zx h.o (h.r x hx) hg (by decide),fun i hi=>?_,h.d⟩
 by_cases e:i = x
 ·subst e
  rw [show (ivs (rowM n m i)).set y (.int .i64 v) = ivs ((rowM n m i).set y v) by simp [ivs,List.map_set],Z9R] at hv
  exact hv
 ·rw [Z7A v e]
  refine (h.r i hi).kept hg ?_
  cases hq:(Value.slice (va i) n (vc i)).ownBlock with
  | none=>exact .inl rfl
  | some b =>
   refine .inr fun hc=>?_
   exact h.d i x hi hx e b hq hc.symm
theorem Z3b {w:World} {base:Nat} {oa:Option Addr} {oc:Nat} {va:Nat → Option Addr} {vc:Nat → Nat} {n:Nat} {m:Nat → Nat → Int} (h:IsM w base oa oc va vc n m):SlAt [] w oa 1 n (fun i=>[.slice (va i) n (vc i)]):=by
 have o:=h.o
 rw [show (List.range n).map (fun i=>Value.slice (va i) n (vc i)) = ((List.range n).map fun i=>[Value.slice (va i) n (vc i)]).flatten by induction List.range n with | nil=>rfl | cons a l ih=>simp [ih]] at o
 have:=Z2B (row:=fun i=>[Value.slice (va i) n (vc i)]) (xs:=List.range n) o (by simp) (fun _=>rfl) [] (by simp) 0
 intro i hi
 obtain ⟨xb,xo,h1,h2⟩:=this i (by simpa using hi)
 refine ⟨xb,xo,h1,fun W e=>?_⟩
 have:=h2 W e
 simp only [List.getD_eq_getElem?_getD,List.getElem?_range hi,Option.getD_some] at this
 exact this
theorem Z3V {w:World} {base:Nat} {oa:Option Addr} {oc:Nat} {va:Nat → Option Addr} {vc:Nat → Nat} {n:Nat} {m:Nat → Nat → Int} (h:IsM w base oa oc va vc n m) {x:Nat} (hx:x < n):SlAt [] w (va x) 1 n (fun i=>[.int .i64 (m x i)]):=by
 have:=Z6J (h.r x hx) (Z4l n m x).symm [] (by simp)
 intro i hi
 obtain ⟨xb,xo,h1,h2⟩:=this i (by rw [Z4l];exact hi)
 refine ⟨xb,xo,h1,fun W e=>?_⟩
 have:=h2 W e
 simp only [Z9u hi] at this
 exact this
theorem Z7L {w:World} {base:Nat} {oa:Option Addr} {oc:Nat} {n:Nat} {m:Nat → Nat → Int} {O:List (Value × List Int)} (oo:w.ownsRow base 29 1 (.slice oa n oc) n (O.map (·.1))) (fam:FamT w base O) (hl:O.length = n)
  (hr:∀ i,i < n → (O.getD i (.bool true,[])).2 = rowM n m i):∃ va vc,IsM w base oa oc va vc n m:=by
 have hc:∀ i,∃ p:Option Addr × Nat,i < n → (O.getD i (.bool true,[])).1 = .slice p.1 n p.2:=fun i=>by
  by_cases hi:i < n
  ·have o:=fam.1 _ (Z0m (.bool true,[]) (show i < O.length by omega))
   rw [hr i hi,Z4l] at o
   obtain ⟨a,c,e⟩:=Zs o
   exact ⟨(a,c),fun _=>e⟩
  ·exact ⟨(none,0),fun h=>absurd h hi⟩
 obtain ⟨f,hf⟩:=Classical.axiomOfChoice hc
 refine ⟨fun i=>(f i).1,fun i=>(f i).2,?_,fun i hi=>?_,fun i j hi hj hne b hb=>?_⟩
 ·rw [show (List.range n).map (fun i=>Value.slice (f i).1 n (f i).2) = O.map (·.1) from ?_]
  ·exact oo
  ·apply List.ext_getElem
   ·simp [hl]
   ·intro i h1 h2
    have hi:i < n:=by simpa using h1
    have:=hf i hi
    simp only [List.getElem_map,List.getElem_range]
    rw [← this]
    simp [show i < O.length by omega]
 ·have o:=fam.1 _ (Z0m (.bool true,[]) (show i < O.length by omega))
  rw [hf i hi,hr i hi,Z4l] at o
  exact o
 ·have hp:=fam.2
  have e1:=hf i hi
  have e2:=hf j hj
  rw [← e1] at hb
  show (Value.slice (f j).1 n (f j).2).ownBlock ≠ some b
  rw [← e2]
  have g1:O.getD i (.bool true,[]) = O[i]'(by omega):=by simp [show i < O.length by omega]
  have g2:O.getD j (.bool true,[]) = O[j]'(by omega):=by simp [show j < O.length by omega]
  rw [g1] at hb
  rw [g2]
  rw [List.pairwise_iff_getElem] at hp
  rcases Nat.lt_or_gt_of_ne hne with h | h
  ·exact hp i j (by omega) (by omega) h b hb
  ·exact fun hc=>hp j i (by omega) (by omega) h b hc hb
theorem Z56 {w w':World} {base B1 n:Nat} {v:Value} {xs:List Value} {L:List (Value × List Int)} (fam:FamT w base L) (hlt:∀ q ∈ L,∀ b,q.1.ownBlock = some b → b < B1) (ro:w.ownsRow B1 3 1 v n xs) (hg:w.grownBy w' v.ownBlock):FamT w' base L:=
 ⟨fun p hp=>(fam.1 p hp).kept hg (by
  cases hq:p.1.ownBlock with
  | none=>exact .inl rfl
  | some b =>
   refine .inr fun e=>?_
   have:=hlt p hp b hq
   have:=(ro.lt b e.symm).1
   omega),fam.2⟩
set_option maxRecDepth 100000 in
set_option maxHeartbeats 1000000 in
theorem Z1K {n:Nat} (hn:n ≤ 13) {w:World} {base:Nat} {oa:Option Addr} {oc:Nat} {va:Nat → Option Addr} {vc:Nat → Nat} {m:Nat → Nat → Int} (ism0:IsM w base oa oc va vc n m) (hb:base ≤ w.heap.size) (x y:Nat) (hx:x < n) (hy:y < n) (lo hi:Int) (l1:-100000 ≤ lo) (l2:lo ≤ 100000) :
  Calls Try.prog 135 #[.agg #[.slice oa n oc],.int .i64 x,.int .i64 y,.agg #[.int .i64 lo,.int .i64 hi]] w fun e w'=>e = .returned (.tuple #[]) ∧ IsM w' base oa oc va vc n (Z0A m x y lo hi) ∧ Chg base 3 w w':=by
 have chg:=Z9I base 3 w
 have ism:=ism0
 clear ism0
 refine Z01 45 Try.func135 rfl Try.ntmps135 (Nat.le_of_ble_eq_true rfl) ?_
 intro fa F
 refine wp_seq_k fun K1 hK1=>?_
 refine wp_region_lit ?_
 refine Z00 F rfl (by decide) rfl (Z0z rfl (F.at rfl)) ?_;clear F fa;intro fa w1 F hw
 obtain ⟨n4,hn⟩:∃ n,n = w.heap.size:=⟨_,rfl⟩
 rw [← hn] at F
 have s4:w.heap.size ≤ n4:=Nat.le_of_eq hn.symm
 replace ism:=Z0i ism (fun _ _ _ h=>Zc hw h) (fun _ _ _ h=>Zc hw h)
 replace chg:=Z6i hw chg
 have q4:=Zr hw hn
 clear hw hn
 refine Z00 F rfl (by decide) rfl (Z0z rfl (F.at rfl)) ?_;clear F fa;intro fa w2 F hw
 obtain ⟨n7,hn⟩:∃ n,n = w1.heap.size:=⟨_,rfl⟩
 rw [← hn] at F
 have s7:w1.heap.size ≤ n7:=Nat.le_of_eq hn.symm
 have m7_4:n4 < n7:=by rw [hn];exact Z7 q4
 replace ism:=Z0i ism (fun _ _ _ h=>Zc hw h) (fun _ _ _ h=>Zc hw h)
 replace chg:=Z6i hw chg
 replace q4:=Z1 hw q4
 have q7:=Zr hw hn
 clear hw hn
 refine wpList_nil ?_
 refine hK1 _ _ ?_
 clear hK1
 refine wp_seq_k fun K2 hK2=>?_
 have EX:Ext [] w2 w2:=Ext.refl _ _
 have HO:=Lib.hid (Z3b ism)
 have HR:=Lib.hid (Z3V ism hx)
 have hil:(ivs (rowM n m x)).length = n:=by simp [ivs,rowM]
 refine Z0P (Ext [] w2) (some 18) follows fun w3 hh eh=>?_
 have q4_:=q4
 replace q4:=Zn hh q4
 have q7_:=q7
 replace q7:=Zn hh q7
 have EX_:=EX
 have zEXw3:=EX.size
 replace EX:=Z4 EX eh
 replace ism:=Z0i ism (fun _ _ _ h=>ZW hh h) (fun _ _ _ h=>ZW hh h)
 replace chg:=Z6C chg eh
 have eT:=eh
 clear hh eh
 refine F.x (i:=0) rfl (fun w'=>Z9 rfl (F.at rfl) Try.underlying111 rfl (n:=0) (sz:=1) rfl (by kernel_rfl) (by decide)) (fun _=>eT) ?_;clear F fa;intro fa F
 refine F.xr (i:=1) rfl (fun w' hS=>Zh rfl (F.at rfl) Try.underlying50 rfl ((Z0 (hS.keep q4_ (by simp)) 0).trans (get0))) (fun _=>eT) ?_;clear F fa;intro fa F
 refine F.x (i:=2) rfl (fun w'=>Zi rfl (F.at rfl)) (fun _=>eT) ?_;clear F fa;intro fa F
 obtain ⟨xb3,xo3,xa3,xr3⟩:=HO.out x (by omega)
 refine F.x (i:=3) rfl (fun w'=>ZJ (sz:=1) rfl ((F.at rfl).trans (xa3 _ _)) (F.at rfl) Try.underlying50 (by kernel_rfl) (by omega) (by omega)) (fun _=>eT) ?_;clear F fa;intro fa F
 refine F.xr (i:=4) rfl (fun w' hS=>Zh rfl (F.at rfl) Try.underlying29 rfl (xr3 _ (EX_.nil hS) 0 _ rfl)) (fun _=>eT) ?_;clear F fa;intro fa F
 refine F.x (i:=5) rfl (fun w'=>Zi rfl (F.at rfl)) (fun _=>eT) ?_;clear F fa;intro fa F
 refine F.x (i:=6) rfl (fun w'=>Z9 rfl (F.at rfl) Try.underlying111 rfl (n:=0) (sz:=1) rfl (by kernel_rfl) (by decide)) (fun _=>eT) ?_;clear F fa;intro fa F
 refine F.xr (i:=7) rfl (fun w' hS=>Zh rfl (F.at rfl) Try.underlying50 rfl ((Z0 (hS.keep q4_ (by simp)) 0).trans (get0))) (fun _=>eT) ?_;clear F fa;intro fa F
 refine F.x (i:=8) rfl (fun w'=>Zi rfl (F.at rfl)) (fun _=>eT) ?_;clear F fa;intro fa F
 obtain ⟨xb4,xo4,xa4,xr4⟩:=HO.out x (by omega)
 refine F.x (i:=9) rfl (fun w'=>ZJ (sz:=1) rfl ((F.at rfl).trans (xa4 _ _)) (F.at rfl) Try.underlying50 (by kernel_rfl) (by omega) (by omega)) (fun _=>eT) ?_;clear F fa;intro fa F
 refine F.xr (i:=10) rfl (fun w' hS=>Zh rfl (F.at rfl) Try.underlying29 rfl (xr4 _ (EX_.nil hS) 0 _ rfl)) (fun _=>eT) ?_;clear F fa;intro fa F
 refine F.x (i:=11) rfl (fun w'=>Zi rfl (F.at rfl)) (fun _=>eT) ?_;clear F fa;intro fa F
 obtain ⟨xb5,xo5,xa5,xr5⟩:=HR.out y (by omega)
 refine F.x (i:=12) rfl (fun w'=>ZJ (sz:=1) rfl ((F.at rfl).trans (xa5 _ _)) (F.at rfl) Try.underlying29 (by kernel_rfl) (by omega) (by omega)) (fun _=>eT) ?_;clear F fa;intro fa F
 refine F.xr (i:=13) rfl (fun w' hS=>Zh rfl (F.at rfl) Try.underlying3 rfl (xr5 _ (EX_.nil hS) 0 _ rfl)) (fun _=>eT) ?_;clear F fa;intro fa F
 refine F.x (i:=14) rfl (fun w'=>Z9 rfl (F.at rfl) Try.underlying23 rfl (n:=1) (sz:=1) rfl (by kernel_rfl) (by decide)) (fun _=>eT) ?_;clear F fa;intro fa F
 refine F.xr (i:=15) rfl (fun w' hS=>Zh rfl (F.at rfl) Try.underlying3 rfl ((Z0 (hS.keep q7_ (by simp)) 1).trans (getS (get0)))) (fun _=>eT) ?_;clear F fa;intro fa F
 refine F.x (i:=16) rfl (fun w'=>Z4O rfl rfl (F.at rfl) (F.at rfl)) (fun _=>eT) ?_;clear F fa;intro fa F
 obtain ⟨xb6,xo6,xa6,xr6⟩:=HR.out y (by omega)
 refine F.x (i:=17) rfl (fun w'=>ZJ (sz:=1) rfl ((F.at rfl).trans (xa6 _ _)) (F.at rfl) Try.underlying29 (by kernel_rfl) (by omega) (by omega)) (fun _=>eT) ?_;clear F fa;intro fa F
 have orow:=ism.r x hx
 obtain ⟨⟨u0,hcu⟩,hfu,hst⟩:=Z5p orow xa6 (j:=y) (p:=xo6 + ((y:Nat):Int).toNat * 1) (by first | omega | (simp;omega)) (by omega)
 refine Zv (i:=18) (by kernel_rfl) (Z0u rfl rfl rfl (ZR rfl (F.at rfl) (F.at rfl) rfl (by kernel_rfl) hcu hfu) ?_);intro w4 hw
 obtain ⟨hown',hg⟩:=hst _ _ hw
 clear hst hcu hfu hw
 replace q4:=Zb orow hg q4 (by decide)
 replace q7:=Zb orow hg q7 (by decide)
 replace ism:=Z6w ism hx hown' hg
 replace chg:=Z8i chg orow hg (Nat.le_refl _)
 replace orow:=hown'
 clear hg
 refine ⟨gone (by kernel_rfl),?_⟩
 clear orow
 refine Z0a (by kernel_rfl) ?_ _
 clear eT q4_ q7_ EX_
 obtain ⟨m1,hm1⟩:∃ m1,m1 = upd m x y (min (m x y) hi):=⟨_,rfl⟩
 rw [← hm1] at ism
 clear HO HR hil
 refine hK2 _ _ ?_
 clear hK2
 have EX:Ext [] w4 w4:=Ext.refl _ _
 have HO:=Lib.hid (Z3b ism)
 have HR:=Lib.hid (Z3V ism hy)
 have hil:(ivs (rowM n m1 y)).length = n:=by simp [ivs,rowM]
 refine Z0P (Ext [] w4) (some 19) follows fun w5 hh eh=>?_
 have q4_:=q4
 replace q4:=Zn hh q4
 have q7_:=q7
 replace q7:=Zn hh q7
 have EX_:=EX
 have zEXw5:=EX.size
 replace EX:=Z4 EX eh
 replace ism:=Z0i ism (fun _ _ _ h=>ZW hh h) (fun _ _ _ h=>ZW hh h)
 replace chg:=Z6C chg eh
 have eT:=eh
 clear hh eh
 refine F.x (i:=0) rfl (fun w'=>Z9 rfl (F.at rfl) Try.underlying111 rfl (n:=0) (sz:=1) rfl (by kernel_rfl) (by decide)) (fun _=>eT) ?_;clear F fa;intro fa F
 refine F.xr (i:=1) rfl (fun w' hS=>Zh rfl (F.at rfl) Try.underlying50 rfl ((Z0 (hS.keep q4_ (by simp)) 0).trans (get0))) (fun _=>eT) ?_;clear F fa;intro fa F
 refine F.x (i:=2) rfl (fun w'=>Zi rfl (F.at rfl)) (fun _=>eT) ?_;clear F fa;intro fa F
 obtain ⟨xb7,xo7,xa7,xr7⟩:=HO.out y (by omega)
 refine F.x (i:=3) rfl (fun w'=>ZJ (sz:=1) rfl ((F.at rfl).trans (xa7 _ _)) (F.at rfl) Try.underlying50 (by kernel_rfl) (by omega) (by omega)) (fun _=>eT) ?_;clear F fa;intro fa F
 refine F.xr (i:=4) rfl (fun w' hS=>Zh rfl (F.at rfl) Try.underlying29 rfl (xr7 _ (EX_.nil hS) 0 _ rfl)) (fun _=>eT) ?_;clear F fa;intro fa F
 refine F.x (i:=5) rfl (fun w'=>Zi rfl (F.at rfl)) (fun _=>eT) ?_;clear F fa;intro fa F
 refine F.x (i:=6) rfl (fun w'=>Z9 rfl (F.at rfl) Try.underlying111 rfl (n:=0) (sz:=1) rfl (by kernel_rfl) (by decide)) (fun _=>eT) ?_;clear F fa;intro fa F
 refine F.xr (i:=7) rfl (fun w' hS=>Zh rfl (F.at rfl) Try.underlying50 rfl ((Z0 (hS.keep q4_ (by simp)) 0).trans (get0))) (fun _=>eT) ?_;clear F fa;intro fa F
 refine F.x (i:=8) rfl (fun w'=>Zi rfl (F.at rfl)) (fun _=>eT) ?_;clear F fa;intro fa F
 obtain ⟨xb8,xo8,xa8,xr8⟩:=HO.out y (by omega)
 refine F.x (i:=9) rfl (fun w'=>ZJ (sz:=1) rfl ((F.at rfl).trans (xa8 _ _)) (F.at rfl) Try.underlying50 (by kernel_rfl) (by omega) (by omega)) (fun _=>eT) ?_;clear F fa;intro fa F
 refine F.xr (i:=10) rfl (fun w' hS=>Zh rfl (F.at rfl) Try.underlying29 rfl (xr8 _ (EX_.nil hS) 0 _ rfl)) (fun _=>eT) ?_;clear F fa;intro fa F
 refine F.x (i:=11) rfl (fun w'=>Zi rfl (F.at rfl)) (fun _=>eT) ?_;clear F fa;intro fa F
 obtain ⟨xb9,xo9,xa9,xr9⟩:=HR.out x (by omega)
 refine F.x (i:=12) rfl (fun w'=>ZJ (sz:=1) rfl ((F.at rfl).trans (xa9 _ _)) (F.at rfl) Try.underlying29 (by kernel_rfl) (by omega) (by omega)) (fun _=>eT) ?_;clear F fa;intro fa F
 refine F.xr (i:=13) rfl (fun w' hS=>Zh rfl (F.at rfl) Try.underlying3 rfl (xr9 _ (EX_.nil hS) 0 _ rfl)) (fun _=>eT) ?_;clear F fa;intro fa F
 refine F.x (i:=14) rfl (fun w'=>Z9 rfl (F.at rfl) Try.underlying23 rfl (n:=0) (sz:=1) rfl (by kernel_rfl) (by decide)) (fun _=>eT) ?_;clear F fa;intro fa F
 refine F.xr (i:=15) rfl (fun w' hS=>Zh rfl (F.at rfl) Try.underlying3 rfl ((Z0 (hS.keep q7_ (by simp)) 0).trans (get0))) (fun _=>eT) ?_;clear F fa;intro fa F
 refine F.x (i:=16) rfl (fun w'=>Z6D rfl (F.at rfl) (by omega) (by omega)) (fun _=>eT) ?_;clear F fa;intro fa F
 refine F.x (i:=17) rfl (fun w'=>Z4O rfl rfl (F.at rfl) (F.at rfl)) (fun _=>eT) ?_;clear F fa;intro fa F
 obtain ⟨xb10,xo10,xa10,xr10⟩:=HR.out x (by omega)
 refine F.x (i:=18) rfl (fun w'=>ZJ (sz:=1) rfl ((F.at rfl).trans (xa10 _ _)) (F.at rfl) Try.underlying29 (by kernel_rfl) (by omega) (by omega)) (fun _=>eT) ?_;clear F fa;intro fa F
 have orow:=ism.r y hy
 obtain ⟨⟨u0,hcu⟩,hfu,hst⟩:=Z5p orow xa10 (j:=x) (p:=xo10 + ((x:Nat):Int).toNat * 1) (by first | omega | (simp;omega)) (by omega)
 refine Zv (i:=19) (by kernel_rfl) (Z0u rfl rfl rfl (ZR rfl (F.at rfl) (F.at rfl) rfl (by kernel_rfl) hcu hfu) ?_);intro w6 hw
 obtain ⟨hown',hg⟩:=hst _ _ hw
 clear hst hcu hfu hw
 replace q4:=Zb orow hg q4 (by decide)
 replace q7:=Zb orow hg q7 (by decide)
 replace ism:=Z6w ism hy hown' hg
 replace chg:=Z8i chg orow hg (Nat.le_refl _)
 replace orow:=hown'
 clear hg
 refine ⟨gone (by kernel_rfl),?_⟩
 clear orow
 refine Z0a (by kernel_rfl) ?_ _
 clear eT q4_ q7_ EX_
 (try simp only [Exit.inBlock,Exit.then])
 refine Zbx F (rs_0 rfl) ?_
 exact ⟨rfl,by subst hm1;exact ism,chg⟩
def Z9p (n:Nat) (w:World) (e:Ending) (w':World):Prop:=∃ oa oc va vc,e = .returned (.agg #[.slice oa n oc]) ∧ IsM w' w.heap.size oa oc va vc n farM ∧ Ext [] w w'
set_option maxRecDepth 100000 in
set_option maxHeartbeats 1000000 in
theorem Z6h (n:Nat) (hn:n ≤ 13) (w:World):Calls Try.prog 134 #[.int .i64 n] w (Z9p n w):=by
 have E:Ext [] w w:=Ext.refl _ _
 have oo:w.ownsRow w.heap.size 29 1 (.slice none 0 0) 0 (([]:List (Value × List Int)).map (·.1)):=World.ownsRow_nil _ _ _ _
 have fam:FamT w w.heap.size []:=Z4x _ _
 refine Z01 33 Try.func134 rfl Try.ntmps134 (Nat.le_of_ble_eq_true rfl) ?_
 intro fa F
 refine wp_seq_k fun K1 hK1=>?_
 refine wp_region_lit ?_
 refine Z00 F rfl (by decide) rfl (ZB rfl Try.zeroValue111) ?_;clear F fa;intro fa w1 F hw
 obtain ⟨n2,hn⟩:∃ n,n = w.heap.size:=⟨_,rfl⟩
 rw [← hn] at F
 have s2:w.heap.size ≤ n2:=Nat.le_of_eq hn.symm
 have l2_E:w.heap.size ≤ n2:=by rw [hn];exact E.size
 have o2_oo:=Lib.hid (Zo oo hn)
 replace oo:=Zc hw oo
 replace fam:=ZL fam fun _ _ _ h=>Zc hw h
 replace E:=Z2 E hw
 have q2:=Zr hw hn
 clear hw hn
 refine wpList_nil ?_
 refine hK1 _ _ ?_
 clear hK1
 refine wp_seq_k fun K2 hK2=>?_
 refine wp_region_lit ?_
 refine Z00 F rfl (by decide) rfl (ZB rfl Try.zeroValue111) ?_;clear F fa;intro fa w2 F hw
 obtain ⟨n3,hn⟩:∃ n,n = w1.heap.size:=⟨_,rfl⟩
 rw [← hn] at F
 have s3:w1.heap.size ≤ n3:=Nat.le_of_eq hn.symm
 have l3_E:w.heap.size ≤ n3:=by rw [hn];exact E.size
 have m3_2:n2 < n3:=by rw [hn];exact Z7 q2
 have o3_oo:=Lib.hid (Zo oo hn)
 replace oo:=Zc hw oo
 replace fam:=ZL fam fun _ _ _ h=>Zc hw h
 replace q2:=Z1 hw q2
 replace E:=Z2 E hw
 have q3:=Zr hw hn
 clear hw hn
 refine wpList_nil ?_
 refine hK2 _ _ ?_
 clear hK2
 refine wp_seq_k fun K3 hK3=>?_
 refine wp_seq_k fun K4 hK4=>?_
 refine wp_region_lit ?_
 refine F.vl (Z8 rfl (ev_c fa _)) ?_;clear F fa;intro fa F
 refine wpList_nil ?_
 refine hK4 _ _ ?_
 clear hK4
 refine wp_block ?_
 have F0:=F.sub (.c 0 rfl (.c 2 rfl (.c 3 rfl .n)))
 refine Z0U F0 (n) (fun i Lv W=>∃ va:Option Addr,∃ vc:Nat,∃ O:List (Value × List Int),Lv = [(4,.int .i64 ((i:Nat):Int))] ∧ Ext [] w W ∧ W.heap[n2]? = some (.cells #[.slice none 0 0] 111 (0,0)) ∧ W.heap[n3]? = some (.cells #[.slice va O.length vc] 111 (0,0)) ∧ W.ownsRow w.heap.size 29 1 (.slice va O.length vc) O.length (O.map (·.1)) ∧ FamT W w.heap.size O ∧ O.length = i ∧ Hid (∀ j,j < i → (O.getD j (.bool true,[])).2 = rowM n farM j)) ⟨_,⟨none,0,[],rfl,E,q2,q3,oo,fam,rfl,Lib.hid fun j hj=>absurd hj (by omega)⟩,F.sub (.c 4 rfl (.c 0 rfl (.c 2 rfl (.c 3 rfl .n))))⟩ ?_
 clear F F0
 clear E q2 q3
 clear oo
 clear fam
 rintro i _ fa w3 hi1 ⟨va,vc,O,rfl,E,q2,q3,oo,fam,hOl,hO⟩ F
 refine wp_seq_k fun K5 hK5=>?_
 refine wp_seq_k fun K6 hK6=>?_
 refine wp_region_lit ?_
 refine F.mv ?_;clear F fa;intro fa F
 refine F.mv ?_;clear F fa;intro fa F
 refine F.vl (Z1d rfl (F.at rfl) (F.at rfl)) ?_;clear F fa;intro fa F
 refine wpList_nil ?_
 refine hK6 _ _ ?_
 clear hK6
 refine Z0J F rfl (fun hc9=>?_) (fun hc9=>?_)
 ·skip
  refine wp_skip ?_
  refine hK5 _ _ ?_
  clear hK5
  refine wp_seq_k fun K7 hK7=>?_
  refine wp_block ?_
  refine wp_seq_k fun K8 hK8=>?_
  refine wp_region_lit ?_
  refine F.vl (Z8 rfl (ev_c fa _)) ?_;clear F fa;intro fa F
  refine wpList_nil ?_
  have hflt:=Lib.hid (Z5R fam)
  obtain ⟨B1,hB1⟩:∃ B1,B1 = w3.heap.size:=⟨_,rfl⟩
  rw [← hB1] at hflt
  have hB1w:w.heap.size ≤ B1:=by rw [hB1];exact E.size
  have ho:w3.ownsRow B1 3 1 (.slice none 0 0) 0 (ivs []):=World.ownsRow_nil _ _ _ _
  have EB:Ext [] w3 w3:=Ext.refl _ _
  refine hK8 _ _ ?_
  clear hK8
  refine wp_seq_k fun K9 hK9=>?_
  refine wp_seq_k fun K10 hK10=>?_
  refine wp_region_lit ?_
  refine F.vl (Z8 rfl (ev_c fa _)) ?_;clear F fa;intro fa F
  refine wpList_nil ?_
  refine hK10 _ _ ?_
  clear hK10
  refine wp_block ?_
  have F0:=F.sub (.c 0 rfl (.c 2 rfl (.c 3 rfl (.c 4 rfl .n))))
  refine Z0U F0 (n) (fun k Lv W=>∃ vb:Option Addr,∃ vd:Nat,∃ R:List Int,Lv = [(5,.slice vb R.length vd),(6,.int .i64 ((k:Nat):Int))] ∧ Ext [] w W ∧ Ext [] w3 W ∧ W.heap[n2]? = some (.cells #[.slice none 0 0] 111 (0,0)) ∧ W.heap[n3]? = some (.cells #[.slice va O.length vc] 111 (0,0)) ∧ W.ownsRow w.heap.size 29 1 (.slice va O.length vc) O.length (O.map (·.1)) ∧ FamT W w.heap.size O ∧ W.ownsRow B1 3 1 (.slice vb R.length vd) R.length (ivs R) ∧ R = (List.range k).map (farM i)) ⟨_,⟨none,0,[],rfl,E,EB,q2,q3,oo,fam,ho,rfl⟩,F.sub (.c 5 rfl (.c 6 rfl (.c 0 rfl (.c 2 rfl (.c 3 rfl (.c 4 rfl .n))))))⟩ ?_
  clear F F0
  clear E EB q2 q3 oo fam
  clear ho
  rintro k _ fa w4 hi2 ⟨vb,vd,R,rfl,E,EB,q2,q3,oo,fam,ho,hR⟩ F
  have hRl:R.length = k:=by rw [hR];simp
  have hBs:=E.size
  refine wp_seq_k fun K11 hK11=>?_
  refine wp_seq_k fun K12 hK12=>?_
  refine wp_region_lit ?_
  refine F.mv ?_;clear F fa;intro fa F
  refine F.mv ?_;clear F fa;intro fa F
  refine F.vl (Z1d rfl (F.at rfl) (F.at rfl)) ?_;clear F fa;intro fa F
  refine wpList_nil ?_
  refine hK12 _ _ ?_
  clear hK12
  refine Z0J F rfl (fun hc14=>?_) (fun hc14=>?_)
  ·skip
   refine wp_skip ?_
   refine hK11 _ _ ?_
   clear hK11
   refine wp_seq_k fun K13 hK13=>?_
   refine wp_block ?_
   refine wp_seq_k fun K14 hK14=>?_
   refine wp_region_lit ?_
   refine F.mv ?_;clear F fa;intro fa F
   refine F.mv ?_;clear F fa;intro fa F
   refine F.vl (Z5T rfl (F.at rfl) (F.at rfl)) ?_;clear F fa;intro fa F
   refine wpList_nil ?_
   refine hK14 _ _ ?_
   clear hK14
   refine Z0J F rfl (fun hc19=>?_) (fun hc19=>?_)
   ·skip
    refine wp_region_lit ?_
    refine F.mv ?_;clear F fa;intro fa F
    refine Z00 F rfl (by decide) rfl (Z09 rfl (prS (ev_c fa _) pr0) Try.underlying29 (size:=1) (by kernel_rfl) (by decide) (by decide) Try.zeroValue3 (cells:=#[.int .i64 0]) (by kernel_rfl)) ?_;clear F fa;intro fa w5 F hw
    obtain ⟨n21,hn⟩:∃ n,n = w4.heap.size:=⟨_,rfl⟩
    rw [← hn] at F
    have s21:w4.heap.size ≤ n21:=Nat.le_of_eq hn.symm
    have l21_E:w.heap.size ≤ n21:=by rw [hn];exact E.size
    have l21_EB:w3.heap.size ≤ n21:=by rw [hn];exact EB.size
    have m21_2:n2 < n21:=by rw [hn];exact Z7 q2
    have m21_3:n3 < n21:=by rw [hn];exact Z7 q3
    have o21_oo:=Lib.hid (Zo oo hn)
    have o21_ho:=Lib.hid (Zo ho hn)
    replace oo:=Zc hw oo
    replace fam:=ZL fam fun _ _ _ h=>Zc hw h
    replace ho:=Zc hw ho
    replace q2:=Z1 hw q2
    replace q3:=Z1 hw q3
    replace E:=Z2 E hw
    replace EB:=Z2 EB hw
    have q21:=Zw hw hn
    clear hw hn
    have hB9:=EB.size
    refine Z27 F rfl (by decide) rfl (Z0T rfl (B1) (e:=3) (size:=1) (bytes:=8) Try.underlying29 (by kernel_rfl) (by decide) (F.at rfl) ho (F.at rfl) q21 rfl (by simp [Value.oneCell']) (by omega) (by omega) (by omega)) ?_;clear F fa;rintro fa v' w6 F ⟨hown',hg⟩
    obtain ⟨va22,vc22,rfl⟩:=Zs hown'
    replace q2:=Zb ho hg q2 (by decide)
    replace q3:=Zb ho hg q3 (by decide)
    replace oo:=Zx oo ho hg (by decide)
    replace fam:=Z56 fam hflt.out ho hg
    replace E:=Zd E ho hg (by omega)
    replace EB:=Zd EB ho hg (by omega)
    replace ho:=hown'
    clear hg
    obtain ⟨R2,hR2e⟩:∃ R2,R2 = R ++ [(0:Int)]:=⟨_,rfl⟩
    have hRl2:R.length + 1 = R2.length:=by rw [hR2e,List.length_append];rfl
    rw [Z21,← hR2e,hRl2] at ho
    rw [hRl2] at F
    have hR2:R2 = (List.range (k + 1)).map (farM i):=by rw [hR2e,hR,List.range_succ,List.map_append,List.map_singleton,farM,if_pos (by omega)]
    refine F.as ?_;clear F fa;intro fa F
    refine wpList_nil ?_
    refine hK13 _ _ ?_
    clear hK13
    refine wp_region_lit ?_
    refine F.mv ?_;clear F fa;intro fa F
    refine F.vl (Z0F rfl (F.at rfl) (ev_c fa _) (by omega) (by omega)) ?_;clear F fa;intro fa F
    refine F.as ?_;clear F fa;intro fa F
    refine wpList_nil ?_
    show _ ∧ _
    exact ⟨by omega,_,⟨_,_,_,rfl,E,EB,q2,q3,oo,fam,ho,hR2⟩,F.sub (.c 5 rfl (.c 6 rfl (.c 0 rfl (.c 2 rfl (.c 3 rfl (.c 4 rfl .n))))))⟩
   ·skip
    refine wp_region_lit ?_
    refine F.mv ?_;clear F fa;intro fa F
    refine Z00 F rfl (by decide) rfl (Z09 rfl (prS (ev_c fa _) pr0) Try.underlying29 (size:=1) (by kernel_rfl) (by decide) (by decide) Try.zeroValue3 (cells:=#[.int .i64 1048576]) (by kernel_rfl)) ?_;clear F fa;intro fa w7 F hw
    obtain ⟨n24,hn⟩:∃ n,n = w4.heap.size:=⟨_,rfl⟩
    rw [← hn] at F
    have s24:w4.heap.size ≤ n24:=Nat.le_of_eq hn.symm
    have l24_E:w.heap.size ≤ n24:=by rw [hn];exact E.size
    have l24_EB:w3.heap.size ≤ n24:=by rw [hn];exact EB.size
    have m24_2:n2 < n24:=by rw [hn];exact Z7 q2
    have m24_3:n3 < n24:=by rw [hn];exact Z7 q3
    have o24_oo:=Lib.hid (Zo oo hn)
    have o24_ho:=Lib.hid (Zo ho hn)
    replace oo:=Zc hw oo
    replace fam:=ZL fam fun _ _ _ h=>Zc hw h
    replace ho:=Zc hw ho
    replace q2:=Z1 hw q2
    replace q3:=Z1 hw q3
    replace E:=Z2 E hw
    replace EB:=Z2 EB hw
    have q24:=Zw hw hn
    clear hw hn
    have hB9:=EB.size
    refine Z27 F rfl (by decide) rfl (Z0T rfl (B1) (e:=3) (size:=1) (bytes:=8) Try.underlying29 (by kernel_rfl) (by decide) (F.at rfl) ho (F.at rfl) q24 rfl (by simp [Value.oneCell']) (by omega) (by omega) (by omega)) ?_;clear F fa;rintro fa v' w8 F ⟨hown',hg⟩
    obtain ⟨va25,vc25,rfl⟩:=Zs hown'
    replace q2:=Zb ho hg q2 (by decide)
    replace q3:=Zb ho hg q3 (by decide)
    replace oo:=Zx oo ho hg (by decide)
    replace fam:=Z56 fam hflt.out ho hg
    replace E:=Zd E ho hg (by omega)
    replace EB:=Zd EB ho hg (by omega)
    replace ho:=hown'
    clear hg
    obtain ⟨R2,hR2e⟩:∃ R2,R2 = R ++ [(1048576:Int)]:=⟨_,rfl⟩
    have hRl2:R.length + 1 = R2.length:=by rw [hR2e,List.length_append];rfl
    rw [Z21,← hR2e,hRl2] at ho
    rw [hRl2] at F
    have hR2:R2 = (List.range (k + 1)).map (farM i):=by rw [hR2e,hR,List.range_succ,List.map_append,List.map_singleton,farM,if_neg (by omega)]
    refine F.as ?_;clear F fa;intro fa F
    refine wpList_nil ?_
    refine hK13 _ _ ?_
    clear hK13
    refine wp_region_lit ?_
    refine F.mv ?_;clear F fa;intro fa F
    refine F.vl (Z0F rfl (F.at rfl) (ev_c fa _) (by omega) (by omega)) ?_;clear F fa;intro fa F
    refine F.as ?_;clear F fa;intro fa F
    refine wpList_nil ?_
    show _ ∧ _
    exact ⟨by omega,_,⟨_,_,_,rfl,E,EB,q2,q3,oo,fam,ho,hR2⟩,F.sub (.c 5 rfl (.c 6 rfl (.c 0 rfl (.c 2 rfl (.c 3 rfl (.c 4 rfl .n))))))⟩
  ·skip
   refine wp_exit ?_
   have hRr:R = rowM n farM i:=by rw [hR,rowM,show k = n by omega]
   refine hK9 _ _ ?_
   clear hK9
   refine wp_region_lit ?_
   refine F.vl (Z9 rfl (F.at rfl) Try.underlying111 rfl (n:=0) (sz:=1) rfl (by kernel_rfl) (by decide)) ?_;clear F fa;intro fa F
   refine F.vl (Zh rfl (F.at rfl) Try.underlying50 rfl ((Z0 q3 0).trans (get0))) ?_;clear F fa;intro fa F
   refine F.mv ?_;clear F fa;intro fa F
   refine Z00 F rfl (by decide) rfl (Z09 rfl (prS (F.at rfl) pr0) Try.underlying50 (size:=1) (by kernel_rfl) (by decide) (by decide) Try.zeroValue29 (cells:=#[.slice vb R.length vd]) (by kernel_rfl)) ?_;clear F fa;intro fa w9 F hw
   obtain ⟨n29,hn⟩:∃ n,n = w4.heap.size:=⟨_,rfl⟩
   rw [← hn] at F
   have s29:w4.heap.size ≤ n29:=Nat.le_of_eq hn.symm
   have l29_E:w.heap.size ≤ n29:=by rw [hn];exact E.size
   have m29_2:n2 < n29:=by rw [hn];exact Z7 q2
   have m29_3:n3 < n29:=by rw [hn];exact Z7 q3
   have o29_oo:=Lib.hid (Zo oo hn)
   have o29_ho:=Lib.hid (Zo ho hn)
   replace oo:=Zc hw oo
   replace fam:=ZL fam fun _ _ _ h=>Zc hw h
   replace ho:=Zc hw ho
   replace q2:=Z1 hw q2
   replace q3:=Z1 hw q3
   replace E:=Z2 E hw
   have q29:=Zw hw hn
   clear hw hn
   have hEs:=E.size
   refine Z27 F rfl (by decide) rfl (Z0T rfl (w.heap.size) (e:=29) (size:=1) (bytes:=24) Try.underlying50 (by kernel_rfl) (by decide) (F.at rfl) oo (F.at rfl) q29 rfl (by simp [Value.oneCell']) (by omega) (by omega) (by omega)) ?_;clear F fa;rintro fa v' w10 F ⟨hown',hg⟩
   obtain ⟨va30,vc30,rfl⟩:=Zs hown'
   replace q2:=Zb oo hg q2 (by decide)
   replace q3:=Zb oo hg q3 (by decide)
   replace fam:=ZL fam fun _ _ _ h=>Zx h oo hg (by decide)
   replace ho:=Zx ho oo hg (by decide)
   replace E:=Zd E oo hg (by omega)
   replace oo:=hown'
   clear hg
   obtain ⟨O2,hO2e⟩:∃ O2,O2 = O ++ [(Value.slice vb R.length vd,R)]:=⟨_,rfl⟩
   have hOl3:O.length + 1 = O2.length:=by rw [hO2e,List.length_append];rfl
   rw [show O.map (·.1) ++ [Value.slice vb R.length vd] = O2.map (·.1) by rw [hO2e,List.map_append];rfl,hOl3] at oo
   rw [hOl3] at F
   have fam2:=Z3D (Z3C (b1:=B1) (L:=[(Value.slice vb R.length vd,R)]) ⟨fun p hp=>(by obtain rfl:p = (Value.slice vb R.length vd,R):=(by simpa using hp);exact ho),List.pairwise_singleton _ _⟩ fam hflt.out hB1w) (M:=O ++ [(Value.slice vb R.length vd,R)]) List.perm_append_comm
   rw [← hO2e] at fam2
   clear fam ho
   have fam:=fam2
   clear fam2
   have hOl2:O2.length = i + 1:=by omega
   have hO2:Hid (∀ j,j < i + 1 → (O2.getD j (.bool true,[])).2 = rowM n farM j):=Lib.hid fun j hj=>if e:j = i then (by subst e;rw [hO2e,← hOl];simp [hOl,hRr]) else (by rw [hO2e,List.getD_eq_getElem?_getD,List.getElem?_append_left (by omega),← List.getD_eq_getElem?_getD];exact hO.out j (by omega))
   refine F.vl (Z9 rfl (F.at rfl) Try.underlying111 rfl (n:=0) (sz:=1) rfl (by kernel_rfl) (by decide)) ?_;clear F fa;intro fa F
   refine Z1L rfl rfl (ZR rfl (F.at rfl) (F.at rfl) rfl (by kernel_rfl) ((Z0 q3 0).trans (get0)) (Zl q3 0)) ?_;intro w11 hw
   replace oo:=Ze hw oo (Z6 oo q3 (by decide))
   replace fam:=ZL fam fun _ _ _ h=>Ze hw h (Z6 h q3 (by decide))
   replace q2:=ZA hw q2 (by omega)
   replace q3:=ZK hw q3 (by simp only [List.setIfInBounds_toArray,ls,lz];exact rfl)
   replace E:=ZF E hw (fun h=>by first | exact absurd h (by omega) | simp)
   clear hw
   refine wpList_nil ?_
   refine hK7 _ _ ?_
   clear hK7
   refine wp_region_lit ?_
   refine F.mv ?_;clear F fa;intro fa F
   refine F.vl (Z0F rfl (F.at rfl) (ev_c fa _) (by omega) (by omega)) ?_;clear F fa;intro fa F
   refine F.as ?_;clear F fa;intro fa F
   refine wpList_nil ?_
   show _ ∧ _
   exact ⟨by omega,_,⟨_,_,_,rfl,E,q2,q3,oo,fam,hOl2,hO2⟩,F.sub (.c 4 rfl (.c 0 rfl (.c 2 rfl (.c 3 rfl .n))))⟩
 ·skip
  refine wp_exit ?_
  have hin:i = n:=by omega
  refine hK3 _ _ ?_
  clear hK3
  refine wp_seq_k fun K15 hK15=>?_
  refine wp_region_lit ?_
  refine F.vl (Zt rfl (F.at rfl) Try.underlying111 rfl (by kernel_rfl) q3) ?_;clear F fa;intro fa F
  refine Z1L rfl rfl (Zg rfl (F.at rfl) (F.at rfl) (by kernel_rfl) (by first | (simp [Value.oneCell'];done) | (simp [Value.oneCell',Z0K,Z0B,Z0L];done)) q2 rfl) ?_;intro w12 hw
  replace oo:=Zu hw oo (Z6 oo q2 (by decide))
  replace fam:=ZL fam fun _ _ _ h=>Zu hw h (Z6 h q2 (by decide))
  replace q2:=Zz hw q2 rfl
  replace q3:=Z5 hw q3 (by omega)
  replace E:=Za E hw (fun h=>by first | exact absurd h (by omega) | simp)
  clear hw
  refine wpList_nil ?_
  refine hK15 _ _ ?_
  clear hK15
  refine wp_ret ?_
  (try simp only [Exit.inBlock,Exit.then])
  refine rt_v F (rs_c F rfl rfl Try.underlying111 rfl (by kernel_rfl) q2) ?_
  obtain ⟨ra,rc,hI⟩:=Z7L (m:=farM) (n:=n) (by rw [← hin,← hOl];exact oo) fam (by omega) (fun j hj=>hO.out j (by omega));exact ⟨va,vc,ra,rc,by rw [hOl,hin],hI,E⟩
end Go.Proofs.Ytholfdgebdlgjaa
