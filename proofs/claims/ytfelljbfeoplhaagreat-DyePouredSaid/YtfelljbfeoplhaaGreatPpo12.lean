/- Parts of a proof: Xh, Xi, Xm, Dkr, Xp, Dks, Dkv, LDyePoured, Xk, FrDyePoured, ClDyePoured. No conditions. -/
import Derived.Below
import Derived.ChangeOld
import Derived.Conc.Holds
import Derived.Conc.HoldsTime
import Derived.Leaving
import Derived.OpenShut
import Derived.ProofKit
import Derived.ShutString
import Derived.WalkKit
import Derived.Test.YtfelljbfeoplhaaGreatPpo1
import Derived.Test.YtfelljbfeoplhaaGreatPpo5
import Derived.Test.YtfelljbfeoplhaaGreatPpo7
import Derived.Test.YtfelljbfeoplhaaGreatPpo8
import Derived.Test.YtfelljbfeoplhaaGreatPpo11
set_option linter.unusedVariables false
set_option linter.unusedSimpArgs false
set_option linter.unusedSectionVars false
set_option maxRecDepth 100000
set_option maxHeartbeats 4000000
namespace Go.Proofs.YtfelljbfeoplhaaGreat
variable{D S:Nat→Prop}{W u v w:Go.World}{y:Go.Value}{a b l m s t:List Int}{R:Go.Ending→Go.World→Prop}{Post:Go.Value→Go.World→Prop}{f g:Go.Frame}{cs:List Go.Frame}{xs:Array Go.Value}{base c k n:Nat}{P:Go.Program}{e:Go.TypeId}
namespace Lift
open Go Go.Conc Go.RowKit Ev
open Go.ConcM (OsLater)
abbrev jkV(TG:FuncId→Prop):Jk:={j:=True,rest:=[],gd:=fun f=>gJ f=true,law:=fun f=>f=lawF,jmp:=fun f=>TG f∨f=19,ar:=fun f=>if f=19 then 0 else 3}
theorem Zku(TG:FuncId→Prop):@Strip (jkV TG) PP (Qy.F 0) (@CodeOk (jkV TG) PP false) (fun f=>gJ f=true):=strip_J (J:=jkV TG) trivial (fun _=>Iff.rfl) lawJ 0
theorem gokV(TG:FuncId→Prop):@GOk (jkV TG) PP (Qy.F 0) (fun f=>gJ f=true):=Zjy (J:=jkV TG) (fun _=>Iff.rfl) lawJ 0
structure CoA(D:Nat→Prop)(L:List Int)(w w':World)(y:Value)(D':Nat→Prop):Prop where
 lst:IntR w.heap.size w' L y
 old:∀b,b<w.heap.size→w'.heap[b]?=w.heap[b]?
 size:w.heap.size≤w'.heap.size
 os:OsLater w.os w'.os
 out:w'.output=w.output
 dis:∀c,D' c→D c∨w.heap.size≤c
 low:∀c,D' c→c<w'.heap.size
 ne:∀g n c,y = .slice (some ⟨g,0,none⟩) n c→w.heap.size≤g→¬D' g
def CoT(TG:FuncId→Prop)(t:FuncId)(Pre:Array Value→World→Prop):Prop:=∀{D:Nat→Prop} {r:Ren} {v w u:World} {xs zs:Array Value},Pre xs u→(∀b,b<v.heap.size→u.heap[b]?=v.heap[b]?) → @WH (jkV TG) (@Iv (jkV TG) PP (Qy.F 0)) r v w→Off D r w → @VRs (jkV TG) r xs zs →
 ∃(L:List Int) (er:Int),L.length≤6 ∧
  (∀tp,Calls (Qy.prog 0) t xs (re v tp) fun e u=>((e = .panicked [bunV t xs]∧∃d,7<(Question.appendCap 7 0 3).cut (tp d (.appendCap 7 0 3)))∧Ext [] (re v tp) u)∨∃y,e = .returned (.tuple #[y,.int .i64 er])∧IntR v.heap.size u L y∧ZbD (re v tp) y∧Ext [] (re v tp) u) ∧
  ∀{Post:Value→World→Prop} {c:Frame} {cs:List Frame},(∀w' y D',CoA D L w w' y D'→Sure PP Post D' (run1 (c.finish (.tuple #[y,.int .i64 er])) cs) w')→Sure PP Post D (run1 (Frame.enter PP t zs .normal) (c::cs)) w
theorem Zjc{L:List Int}{w': World}{Mu Wg:Nat}(hD:∀c,D c→c<w.heap.size)(U:UnE L w w' y Mu Wg): CoA D L w w' y fun c=>D c∨c=Mu∨c=Wg:=
 ⟨U.lst,U.old,U.size,U.os,U.out,fun c h=>by
  have m1:=U.mu.1;have m2:=U.wg.1
  rcases h with h | rfl | rfl
  ·exact .inl h
  ·exact .inr m1
  ·exact .inr m2,fun c h=>by
  have m1:=U.mu.2;have m2:=U.wg.2
  rcases h with h | rfl | rfl
  ·exact Y8 (hD c h) U.size
  ·exact m1
  ·exact m2,fun g n c e hg h=>by
  have:=U.ne g n c e
  rcases h with h | h | h
  ·have:=hD g h;omega
  ·exact this.1 h
  ·exact this.2 h⟩
theorem ZeQ (TG : FuncId→Prop) {t : FuncId} {Pre : Array Value→World→Prop} (hgS : gS t=true) (hbT : ∀(y0 y1 y2 : Value) (w : World), (∀d, 7<(Question.appendCap 7 0 3).cut (w.tape d (.appendCap 7 0 3)))→Calls (Qy.prog 0) t #[y0, y1, y2] w fun e w' => e = .panicked [bunV t #[y0, y1, y2]]∧Ext [] w w') (hco : CoT TG t Pre) {fn : Func} {bd : Code} (hfn : PP.funcs[t]?=some fn) (hbd : fn.body=some bd) (hnm : (fn.name == "runtime.NumGoroutine")=false) {r : Ren} (hR : ∀xs u, R (.panicked [bunV t xs]) u→Pre xs u) (hs : @Stk (jkV TG) PP (Qy.F 0) r [f] [g]) (hw : @WH (jkV TG) (@Iv (jkV TG) PP (Qy.F 0)) r v w) (ho : Off D r w) (hI : @Self jk0 (Qy.prog 0) (Qy.F 0) [f, poison] v) (hlaw : f.fn=lawF) (hrun : f.mode = .run) {c : Call} (hat : AtCall f t c) (hrd : ∀x∈c.args, ∃t, x = .tmp t) (h3 : c.args.size=3) (hE : Ends (Qy.prog 0) (Done PP (Qy.F 0) lawF R) [f, poison] v) (k : ∀x y r' v' w' D', Z5J (Qy.prog 0) (Done PP (Qy.F 0) lawF R) f [poison] v [f.finish x, poison] v' → @Self jk0 (Qy.prog 0) (Qy.F 0) [f.finish x, poison] v' → @Stk (jkV TG) PP (Qy.F 0) r' [f] [g] → @VR (jkV TG) r' x y → @WH (jkV TG) (@Iv (jkV TG) PP (Qy.F 0)) r' v' w'→Off D' r' w'→KeptW v v' w w' r r'→Sure PP Post D' (run1 (g.finish y) cs) w'): Sure PP Post D (run1 g cs) w := by
 letI:Jk:=jkV TG;have hP:∀x u,¬Done PP (Qy.F 0) lawF R [x] u:=Z3h;have hSt:∀V u,Done PP (Qy.F 0) lawF R V u→V.length=2:=by
  rintro V u ⟨T,e,fr,rfl,_⟩
  rfl
 have hf:=(@Stk.uncons (jkV TG) _ _ _ _ _ _ _ hs).1;have hdf:f.defers=[]:=(@FrR.defers (jkV TG) _ _ _ _ _ hf).2 hlaw;have hIs:=hI;obtain⟨f0,A,r0,hV,hi0,hs0,hw0⟩:=hI;simp only[List.cons.injEq]at hV;obtain⟨rfl,hA⟩:=hV;have hA:A=[]:=by
  cases A with
  | nil=>rfl
  | cons a tl=>have:=congrArg List.length hA;simp at this
 subst hA;have hnp:¬Done PP (Qy.F 0) lawF R [f,poison] v:=by
  rintro⟨T,e,fr,q1,q2,q3,q4,q5⟩;simp only[List.cons.injEq]at q1;obtain⟨rfl,_⟩:=q1
  cases e with
  | returned x=>have:=q3.1;rw[hrun]at this;cases this
  | panicked ch=>have:=q3.1;rw[hrun]at this;cases this
  | outgrown=>exact q5 rfl
 have hrd0:∀x∈c.args,@RdOk jk0 x:=fun x hx=>by
  obtain⟨t,rfl⟩:=hrd x hx;trivial
 obtain⟨y0,y1,y2,hargs⟩:=ZlC (xs:=c.args.map f.eval) (by simp[h3])
 -- the bad tape
 have hbad:Calls (Qy.prog 0) t (c.args.map f.eval) (re v fun _ _=>1) (fun e u=>e = .panicked [bunV t #[y0,y1,y2]]∧Ext [] (re v fun _ _=>1) u):=by
  rw[hargs];exact hbT y0 y1 y2 _ fun d=>by show 7<7+1 % (2 ^ 63-7);decide
 obtain⟨e,v1,u1,r1,he,hi1,hw1,hk1,hcase⟩:=@Z6G jk0 (Qy.prog 0) (Qy.F 0) _ r0 v _ hQ0 Z2V gokS recS hSt f t c hs0 hw0 hi0 hat hgS hrd0 (fun _ _=>1) _ (fun u q=>by cases q.1) hbad;obtain⟨rfl,hE1⟩:=he
 rcases hcase with⟨x,y,q,_⟩ | ⟨ch,ch',q,hpr,hreach⟩
 ·cases q
 obtain rfl:=Ending.panicked.inj q;have hch:ch'=[bunV t #[y0,y1,y2]]:=by
  cases hpr with
  | cons a t =>
   cases t
   obtain⟨a1,a2,a3⟩:=a;rename_i z;obtain⟨zv,zr,zg⟩:=z;have:=@VR.id jk0 _ id hi1 _ _ a1;dsimp only[bunV]at this a2 a3;subst this a2 a3
   rfl
 subst hch;have hr1:=Z2m hnp hreach;have hE2:=hE.reach hr1;have hS2:=@Z3X jk0 _ _ _ _ _ _ _ _ hQ0 Z2V gokS recS hP hr1 hE hIs;have hmr:(f.raise [bunV t #[y0,y1,y2]]).mode = .panicking [bunV t #[y0,y1,y2]]:=by
  unfold Frame.raise;rw[hrun]
 have hdr:(f.raise [bunV t #[y0,y1,y2]]).defers=[]:=by
  unfold Frame.raise;rw[hrun];exact hdf
 have hfr:(f.raise [bunV t #[y0,y1,y2]]).fn=lawF:=by
  unfold Frame.raise;rw[hrun];exact hlaw
 have hst:=@Zb9 jk0 _ _ _ _ _ hQ0 Z2V gokS recS hP _ _ hmr hdr (by rw[hfr];exact⟨_,(Zdj (k:=lawF) (by decide)).choose_spec.choose_spec.1⟩) hE2 hS2;obtain⟨T,e,fr,q1,q2,q3,q4,q5⟩:=hst;simp only[List.cons.injEq]at q1;obtain⟨rfl,_⟩:=q1;have hpre:Pre #[y0,y1,y2] u1:=by
  cases e with
  | returned x=>have:=q3.1;rw[hmr]at this;cases this
  | outgrown=>exact absurd rfl q5
  | panicked ch =>
   have:=q3.1;rw[hmr]at this;obtain rfl:=FrameMode.panicking.inj this;exact hR _ _ q4
 have hold:∀b,b<v.heap.size→u1.heap[b]?=v.heap[b]?:=fun b hb=>@Kep.old jk0 _ _ _ _ _ _ id hi1 hk1 hw1 _ hb (hE1.block b hb (by simp));have hys:@VRs (jkV TG) r (c.args.map f.eval) (c.args.map g.eval):=@Z2E (jkV TG) _ _ _ (@FrR.env (jkV TG) _ _ _ _ _ hf) _ (fun x hx=>by
  obtain⟨t,rfl⟩:=hrd x hx;trivial)
 rw[hargs]at hys;obtain⟨L,er,hL6,hcg,hcc⟩:=hco hpre hold hw ho hys;have hatg:=@AtCall.rel (jkV TG) _ _ _ _ _ hf _ _ hat
 have hkg:g.kind = .normal∨g.kind = .deferred:=by
  have:=@FrR.kind (jkV TG) _ _ _ _ _ hf;rw[←this.1];exact this.2
 refine @Sure.step (jkV TG) _ _ _ _ _ rfl fun w1 hl1=>⟨_,w1,#[],@AtCall.step (jkV TG) _ _ _ _ hatg _ _ hfn hbd hnm hkg true cs w1,by simp,by rw[hl1.1];exact Ye _,?_⟩;refine Sure.like ?_ hl1;refine hcc fun w3 y D' U=>?_
 -- the good tape
 obtain⟨cp,hcp⟩:∃cp:Nat,cp≤maxLen∧∀g n c,y = .slice (some ⟨g,0,none⟩) n c→c=cp∧n≤cp∧n≠7:=by
  rcases U.lst with⟨_,rfl⟩ | ⟨gc,cc,_,rfl,_,hcq,hmm,_⟩
  ·exact⟨0,Nat.zero_le _,fun g n c e=>by cases e⟩
  ·refine⟨cc,hmm,fun g n c e=>?_⟩
   simp only[Value.slice.injEq]at e;obtain⟨_,rfl,rfl⟩:=e;exact⟨rfl,hcq,by omega⟩
 have hgood:Calls (Qy.prog 0) t (c.args.map f.eval) (re v (tG cp)) (fun e u=>∃y,e = .returned (.tuple #[y,.int .i64 er])∧IntR v.heap.size u L y∧ZbD (re v (tG cp)) y∧Ext [] (re v (tG cp)) u):=by
  rw[hargs];refine(hcg (tG cp)).mono fun e u h=>?_
  rcases h with⟨⟨_,d,hd⟩,_⟩ | h
  ·exact absurd hd (by show ¬7<7+0 % (2 ^ 63-7);decide)
  ·exact h
 obtain⟨e,v2,u2,r2,he,hi2,hw2,hk2,hcase⟩:=@Z6G jk0 (Qy.prog 0) (Qy.F 0) _ r0 v _ hQ0 Z2V gokS recS hSt f t c hs0 hw0 hi0 hat hgS hrd0 (tG cp) _ (fun u q=>by obtain⟨_,q,_⟩:=q;cases q) hgood;obtain⟨y0',rfl,hI2,hC2,hE3⟩:=he
 rcases hcase with⟨x2,y2',q,hvr,hreach2⟩ | ⟨ch,ch',q,_⟩
 rotate_left
 ·cases q
 obtain rfl:=Ending.returned.inj q;have hyy:=@VR.id jk0 _ id hi2 _ _ hvr;subst hyy;have hr2:=Z2m hnp hreach2;have hS3:=@Z3X jk0 _ _ _ _ _ _ _ _ hQ0 Z2V gokS recS hP hr2 hE hIs;have hold2:∀b,b<v.heap.size→u2.heap[b]?=v.heap[b]?:=fun b hb=>@Kep.old jk0 _ _ _ _ _ _ id hi2 hk2 hw2 _ hb (hE3.block b hb (by simp));have henv:u2.os.env=w3.os.env:=by
  have e1:u2.os=v.os:=hk2.os.2.symm;rw[e1,Z9b U.os];exact hw.env
 have hofD:∀b d,r b=some d→¬D' d:=fun b d hb hd=>by
  obtain⟨_,_,_,g2,_⟩:=hw.on _ _ hb;have:=(Y0.1 g2).1
  rcases U.dis d hd with q | q
  ·exact ho.names b d hb q
  ·omega
 have kw:∀r',(∀a b,r' a=some b→r a=some b∨w.heap.size≤b)→KeptW v u2 w w3 r r':=fun r' h=>⟨hold2,U.old,U.size,U.os,U.out,h⟩
 rcases hI2 with⟨hL,rfl⟩ | ⟨g0,k0,hL,rfl,hb0,hc0,hm0,hq0⟩
 ·have hy:y = .slice none 0 0:=by
   rcases U.lst with⟨_,q⟩ | ⟨_,_,q,_⟩
   ·exact q
   ·exact absurd hL q
  subst hy;refine k _ _ r u2 w3 _ hreach2 hS3 hs ?_ (@Ze6 (jkV TG) _ _ _ _ _ _ hw hold2 U.old henv) ⟨hofD,U.low⟩ (kw r fun a b h=>.inl h);refine @VR.tuple (jkV TG) _ _ _ rfl fun i a b h1 h2=>?_;rw[h1]at h2;obtain rfl:=Y1 h2;have:=Yk h1;simp only[Yb,Yc,Ya,or_false]at this
  rcases this with rfl | rfl
  ·exact @VR.sl0 (jkV TG) _ _ _
  ·exact @VR.int (jkV TG) _ _ _
 ·obtain⟨gc,cc,_,hy,hbc,hcc,hmc,hqc⟩:∃gc cc,L≠[]∧y = .slice (some ⟨gc,0,none⟩) L.length cc∧w.heap.size≤gc∧L.length≤cc∧cc≤maxLen∧w3.heap[gc]?=some (.cells (ivs (L)++List.replicate (cc-L.length) (Value.int .i64 0)).toArray 3 (0,0)):=by
   rcases U.lst with⟨q,_⟩ | q
   ·exact absurd q hL
   ·exact q
  obtain⟨rfl,hn1,hn7⟩:=hcp.2 _ _ _ hy;have hkc:k0=cc:=by
   obtain⟨d,hd⟩:=hC2 _ _ _ rfl;have hd:k0=L.length+(if L.length=7 then 0 else cc-L.length) % (2 ^ 63-L.length):=hd;rw[if_neg hn7,Nat.mod_eq_of_lt (by simp only[maxLen]at hmc;omega)]at hd;omega
  subst hkc;subst hy;have hpos:0<L.length:=List.length_pos_iff.2 hL;have hg0:r2 g0=some g0:=by
   cases hvr with
   | tuple _ t =>
    have:=t 0 _ _ rfl rfl
    cases this with
    | sl _ _ q=>cases q with | mk q=>exact q
  have hq2:u2.heap[g0]?=some (.cells (ivs (L)++List.replicate (k0-L.length) (Value.int .i64 0)).toArray 3 (0,0)):=by
   refine @Kep.fresh jk0 _ _ _ _ id hi2 hw2 _ _ hg0 hq0 ?_;rintro⟨cs2,e2,q⟩;simp only[Obj.cells.injEq,Y9,true_and]at q;obtain⟨rfl,_,q⟩:=q;simp only[List.size_toArray,Ym,List.length_replicate,ivs,Yj]at q;omega
  have hce:∀z∈(ivs (L)++List.replicate (k0-L.length) (Value.int .i64 0)).toArray,∃n,z = .int .i64 n:=by
   intro z hz;simp only[Yb,List.mem_append,ivs,List.mem_map,List.mem_replicate]at hz
   rcases hz with⟨n,_,rfl⟩ | ⟨_,rfl⟩<;>exact⟨_,rfl⟩
  obtain⟨hwm,hle⟩:=@ZiM (jkV TG) _ _ _ _ _ _ hw hold2 U.old henv g0 gc _ _ hq2 hqc hb0 hbc hce;refine k _ _ (r.add g0 gc) u2 w3 _ hreach2 hS3 (@Stk.mono (jkV TG) _ _ _ _ hle _ _ hs) ?_ hwm ⟨fun a b h hd=>?_  ,U.low⟩ (kw _ fun a b h=>?_)
  ·refine @VR.tuple (jkV TG) _ _ _ rfl fun i a b h1 h2=>?_
   rcases i with _ | _ | i
   ·obtain rfl:=Y1 h1
    obtain rfl:=Y1 h2;exact @VR.sl (jkV TG) _ _ _ _ _ (.mk (by unfold Ren.add;rw[if_pos rfl]))
   ·obtain rfl:=Y1 h1
    obtain rfl:=Y1 h2;exact @VR.int (jkV TG) _ _ _
   ·simp at h1
  ·unfold Ren.add at h
   split at h
   ·obtain rfl:=Y1 h
    exact U.ne _ _ _ rfl hbc hd
   ·exact hofD _ _ h hd
  ·unfold Ren.add at h
   split at h
   ·obtain rfl:=Y1 h
    exact .inr hbc
   ·exact .inl h
theorem ZcS(TG:FuncId→Prop){r:Ren}(hs:@Stk (jkV TG) PP (Qy.F 0) r [f] [g])(hw:@WH (jkV TG) (@Iv (jkV TG) PP (Qy.F 0)) r v w)(ho:Off D r w)(hI:@Self jk0 (Qy.prog 0) (Qy.F 0) [f,poison] v)(hlaw:f.fn=lawF)(hrun:f.mode = .run){c:Call}(hat:AtCall f 19 c)(h3:c.args.size=0)(hE:Ends (Qy.prog 0) (Done PP (Qy.F 0) lawF R) [f,poison] v)(k:∀x y r' v' w' D',Z5J (Qy.prog 0) (Done PP (Qy.F 0) lawF R) f [poison] v [f.finish x,poison] v' → @Self jk0 (Qy.prog 0) (Qy.F 0) [f.finish x,poison] v' → @Stk (jkV TG) PP (Qy.F 0) r' [f] [g] → @VR (jkV TG) r' x y → @WH (jkV TG) (@Iv (jkV TG) PP (Qy.F 0)) r' v' w'→Off D' r' w'→KeptW v v' w w' r r'→Sure PP Post D' (run1 (g.finish y) cs) w'): Sure PP Post D (run1 g cs) w:=by
 letI:Jk:=jkV TG;have hP:∀x u,¬Done PP (Qy.F 0) lawF R [x] u:=Z3h;have hSt:∀V u,Done PP (Qy.F 0) lawF R V u→V.length=2:=by
  rintro V u ⟨T,e,fr,rfl,_⟩
  rfl
 have hf:=(@Stk.uncons (jkV TG) _ _ _ _ _ _ _ hs).1;have hIs:=hI;obtain⟨f0,A,r0,hV,hi0,hs0,hw0⟩:=hI;simp only[List.cons.injEq]at hV;obtain⟨rfl,hA⟩:=hV;have hA:A=[]:=by
  cases A with
  | nil=>rfl
  | cons a tl=>have:=congrArg List.length hA;simp at this
 subst hA;have hnp:¬Done PP (Qy.F 0) lawF R [f,poison] v:=by
  rintro⟨T,e,fr,q1,q2,q3,q4,q5⟩;simp only[List.cons.injEq]at q1;obtain⟨rfl,_⟩:=q1
  cases e with
  | returned x=>have:=q3.1;rw[hrun]at this;cases this
  | panicked ch=>have:=q3.1;rw[hrun]at this;cases this
  | outgrown=>exact q5 rfl
 have ha0:c.args=#[]:=Array.eq_empty_of_size_eq_zero h3;have hargs:c.args.map f.eval=#[]:=by rw[ha0];simp
 have hargg:c.args.map g.eval=#[]:=by rw[ha0];simp
 have hgood:Calls (Qy.prog 0) 19 (c.args.map f.eval) (re v fun _ _=>0) (fun e u=>e = .returned (.bool true)∧Ext [] (re v fun _ _=>0) u):=by
  rw[hargs];exact Z3j (μ:=0) _
 obtain⟨e,v2,u2,r2,he,hi2,hw2,hk2,hcase⟩:=@Z6G jk0 (Qy.prog 0) (Qy.F 0) _ r0 v _ hQ0 Z2V gokS recS hSt f 19 c hs0 hw0 hi0 hat (by decide) (fun x hx=>by rw[ha0]at hx;simp at hx) (fun _ _=>0) _ (fun u q=>by cases q.1) hgood;obtain⟨rfl,hE3⟩:=he
 rcases hcase with⟨x2,y2',q,hvr,hreach2⟩ | ⟨ch,ch',q,_⟩
 rotate_left
 ·cases q
 obtain rfl:=Ending.returned.inj q;have hyy:=@VR.id jk0 _ id hi2 _ _ hvr;subst hyy;have hr2:=Z2m hnp hreach2;have hS3:=@Z3X jk0 _ _ _ _ _ _ _ _ hQ0 Z2V gokS recS hP hr2 hE hIs;have hold2:∀b,b<v.heap.size→u2.heap[b]?=v.heap[b]?:=fun b hb=>@Kep.old jk0 _ _ _ _ _ _ id hi2 hk2 hw2 _ hb (hE3.block b hb (by simp));have hatg:=@AtCall.rel (jkV TG) _ _ _ _ _ hf _ _ hat
 have hkg:g.kind = .normal∨g.kind = .deferred:=by
  have:=@FrR.kind (jkV TG) _ _ _ _ _ hf;rw[←this.1];exact this.2
 have hfn:PP.funcs[(19:Nat)]?=some Tryz.f19:=by kernel_rfl
 obtain⟨bd,hbd⟩:∃b,Tryz.f19.body=some b:=⟨_,rfl⟩;refine @Sure.step (jkV TG) _ _ _ _ _ rfl fun w1 hl1=>⟨_,w1,#[],@AtCall.step (jkV TG) _ _ _ _ hatg _ _ hfn hbd (by kernel_rfl) hkg true cs w1,by simp,by rw[hl1.1];exact Ye _,?_⟩;refine Sure.like ?_ hl1;rw[hargg];have hwn:@WH jkN (@Iv jkN PP (Qy.F 0)) (fun _=>none) w w:=@WH.mk jkN _ _ _ _ (fun b c h=>by cases h) (fun a b c h=>by cases h) rfl;refine @Sure.called jkN PP (Qy.F 0) (fun f=>gB f=true) _ _ _ _ _ (Zkt 0) (gokN 0) recN 19 #[] #[] (by decide) (@Arr.nil jkN _ _ _) hwn ⟨fun b c h=>by(cases h),ho.low⟩ (fun e u=>e = .returned (.bool true)) (fun e u T q=>q) (fun u q=>by cases q) (fun T=>(Z3j (μ:=0) (re w T)).mono fun e u q=>q.1) g cs (fun r' v' w' x y hx hv hw' hk ho'=>?_) (fun r' v' w' ch ch' hx=>by cases hx);obtain rfl:=Ending.returned.inj hx;have hy:y = .bool true:=by cases hv;rfl
 subst hy;have hold:∀b,b<w.heap.size→w'.heap[b]?=w.heap[b]?:=fun b hb=>hk.far b hb fun a h=>by cases h
 have hos:w'.os=w.os:=hk.os.2.symm;have henv:u2.os.env=w'.os.env:=by
  have e1:u2.os=v.os:=hk2.os.2.symm;rw[e1,hos];exact hw.env
 refine k _ _ r u2 w' D hreach2 hS3 hs (@VR.bool (jkV TG) _ _) (@Ze6 (jkV TG) _ _ _ _ _ _ hw hold2 hold henv) ⟨ho.names,fun d hd=>Y8 (ho.low d hd) hk.sizeW⟩ ⟨hold2,hold,hk.sizeW,by rw[hos];exact OsLater.refl _,hk.out,fun a b h=>.inl h⟩
def ZgN(xs:Array Value)(u:World):Prop:=∃(x:Vm) (l s:List Int) (a1 a2:Option Addr) (c1 c2:Nat),xs=#[x.val,.slice a1 l.length c1,.slice a2 s.length c2]∧VOk x∧x.At u∧l≠[]∧l.length≤1000∧Z1z x s∧Z7 u (.slice a1 l.length c1) 1 (l.map Z6)∧Z7 u (.slice a2 s.length c2) 1 (s.map Z6)
theorem Zjd(TG:FuncId→Prop):CoT TG 26 ZgN:=by
 letI:Jk:=jkV TG;intro D r v w u xs zs hpre hold hw ho hys;obtain⟨x,l,s,a1,a2,c1,c2,rfl,hv,hx,hl0,hll,hs,hrw,hrw'⟩:=hpre;obtain⟨z0,z1,z2,rfl,hz0,hz1,hz2⟩:=arr3 hys;have hxd:x.At v:=by
  have hz0:VR r (.agg #[.int .i64 x.B,.slice x.da x.D.length x.dc,.slice x.la x.L.length x.lc,.int .i64 x.tol]) z0:=hz0
  cases hz0 with
  | @agg _ ys hs1 hs2 =>
   obtain⟨_,_,_,_,_,_,g2,g3,_⟩:=arr4 (R:=VR r) ⟨hs1,hs2⟩;exact⟨Za1 hold hw hx.d g2,Za1 hold hw hx.l g3⟩
 have hrd1:=Z5d hold hw hrw hz1;have hrd2:=Z5d hold hw hrw' hz2;have hs0:s≠[]:=Z55 (p:=(.bool true,s)) hv.b1 hs.1;obtain⟨x',rfl,halk,hvc⟩:=ZkF hv hxd hw ho hz0;obtain⟨b1,rfl,hw1r,hp1⟩:=Zan hw hl0 hrd1 hz1;obtain⟨b2,rfl,hw2r,hp2⟩:=Zan hw hs0 hrd2 hz2;have hvx:VOk x':=halk.ok hv;have hsx:Z1z x' s:=⟨hs.1.trans halk.b.symm,hs.2⟩;have hrc:rcpE x' l=rcpE x l:=by unfold rcpE;rw[halk.dl]
 have hl3:=hv.l3;refine⟨matA x l s,rcpE x l,?_,fun tp=>?_,fun {Post c cs} ret=>?_⟩
 ·unfold matA
  split
  ·have:=Z50 x.L.length fun k=>matE x (val l) (val s) [((k:Nat):Int)]
   omega
  ·simp
 ·exact Z3J x hv l s hll hs a1 a2 c1 c2 (re v tp) (Z4P (v:=v) (v2:=re v tp) (fun b _=>rfl) hxd) hrd1 hrd2
 ·unfold matA at ret
  by_cases he:rcpE x l=0
  ·rw[if_pos he,he]at ret
   refine Z93 hvx hvc (Z2J.1 (hrc.trans he)) hsx hw1r hw2r hp1 hp2 fun w3 y Mu Wg U=>ret _ _ _ (Zjc ho.low ?_);have hbb:Z0r x'.L.length (matB x' (val l) (val s))=Z0r x.L.length fun k=>matE x (val l) (val s) [((k:Nat):Int)]:=by
    rw[halk.ll];refine ZaY fun k hk=>?_;simp only[matB,halk.ll,halk.mat,hk,decide_true,Bool.true_and]
   rw[←hbb];exact U
  ·rw[if_neg he]at ret
   refine Z94 hvx hvc hll (by rw[hrc];exact he) hw1r hp1 hp2 fun w3 h1 h2 h3 h4=>?_;rw[hrc];exact ret _ _ D ⟨.inl ⟨rfl,rfl⟩,h1,h2,by rw[h3];exact OsLater.refl _,h4,fun c h=>.inl h,fun c h=>Y8 (ho.low c h) h2,fun g n c e=>by cases e⟩
end Lift
namespace Lift
open Go Go.Conc Go.RowKit Ev
open Go.ConcM (OsLater)
structure Tgt(TG:FuncId→Prop)(t:FuncId)(Pre:Array Value→World→Prop):Prop where
 gs:gS t=true
 bad:∀(y0 y1 y2:Value) (w:World),(∀d,7<(Question.appendCap 7 0 3).cut (w.tape d (.appendCap 7 0 3)))→Calls (Qy.prog 0) t #[y0,y1,y2] w fun e w'=>e = .panicked [bunV t #[y0,y1,y2]]∧Ext [] w w'
 co:CoT TG t Pre
 fn : ∃fn bd, PP.funcs[t]?=some fn∧fn.body=some bd∧(fn.name == "runtime.NumGoroutine")=false
 ng:gJ t=false
theorem Ziw(TG:FuncId→Prop):Tgt TG 26 ZgN:=⟨by decide,ZdW,Zjd TG,⟨_,_,Za8,Zd4,by kernel_rfl⟩,by decide⟩
def LawV(Pre:FuncId→Array Value→World→Prop)(e:Ending)(u:World):Prop:=e = .returned (.bool true)∨∃t xs,gJ t=false∧e = .panicked [bunV t xs]∧Pre t xs u
theorem ZcY(TG:FuncId→Prop)(Pre:FuncId→Array Value→World→Prop)(hT:∀t,TG t→Tgt TG t (Pre t)){w0:World}{r:Ren}(hR:∀t xs u,R (.panicked [bunV t xs]) u→Pre t xs u)(hret:∀x u,R (.returned x) u→x = .bool true)(hpan:∀ch u,R (.panicked ch) u→∃t xs,gJ t=false∧ch=[bunV t xs])(hini:PP.inits.idxOf? lawF=none)(hfn:f.fn=lawF)(hs:@Stk (jkV TG) PP (Qy.F 0) r [f] [g])(hw:@WH (jkV TG) (@Iv (jkV TG) PP (Qy.F 0)) r v w0)(hsh:∀a b,r a=some b→Shut v a)(hI:@Self jk0 (Qy.prog 0) (Qy.F 0) [f,poison] v)(hE:Ends (Qy.prog 0) (Done PP (Qy.F 0) lawF R) [f,poison] v):
  Sure PP (ZiS w0) (fun _=>False) (run1 g []) w0:=by
 letI:Jk:=jkV TG;refine Sure.jumps (P:=PP) (F:=Qy.F 0) (G:=fun f=>gJ f=true) (Stop:=Done PP (Qy.F 0) lawF R) (V:=[f,poison]) (v:=v) (cs:=[]) (Zku TG) (gokV TG) recP Z3h (I:=fun V v=>@Self jk0 (Qy.prog 0) (Qy.F 0) V v) ?_ (J:=fun _ r v w=>Since w0 r v w) (fun D r r' v v' w w' k h=>h.kep k) ?_ ?_ hE (fun _=>False) f [] g [] r w0 rfl hs hw ⟨fun _ _ _ h=>h,fun _ h=>h.elim⟩ ⟨fun _ _=>rfl,Ye _,OsLater.refl _,rfl,fun a b h _=>hsh a b h⟩ hI
 ·intro f K v τ f' K' v' es h e
  exact @Self.step jk0 _ _ _ _ _ hQ0 Z2V gokS recS _ _ _ _ _ _ h e
 ·intro D f g r v w hs hw ho hj hi hp hE k
  have hlt:∀a b,r a=some b→a<v.heap.size:=fun a b q=>by
   obtain⟨_,_,g1,_⟩:=hw.on _ _ q;exact(Y0.1 g1).1
  obtain⟨jf,c,hjf,hat,hrd,h3⟩:=Pend.at hp
  by_cases hd:jf=19
  ·subst hd
   exact ZcS TG hs hw ho hi hp.1 hp.2.1 hat (h3.trans (if_pos rfl)) hE fun x y r' v' w' D' h1 h2 h3 h4 h5 h6 h7=>k x y r' v' w' D' h1 h2 h3 h4 h5 h6 (hj.more h7 hlt)
  ·obtain⟨q1,q2,q3,⟨fn,bd,q4,q5,q6⟩,_⟩:=hT jf (hjf.resolve_right hd)
   exact ZeQ TG q1 q2 q3 q4 q5 q6 (hR jf) hs hw ho hi hp.1 hp.2.1 hat hrd (h3.trans (if_neg hd)) hE fun x y r' v' w' D' h1 h2 h3 h4 h5 h6 h7=>k x y r' v' w' D' h1 h2 h3 h4 h5 h6 (hj.more h7 hlt)
 ·intro D f A g B r v w h hs hw ho hj
  obtain⟨T,e,fr,q1,q2,q3,q4,q5⟩:=h;simp only[List.cons.injEq]at q1;obtain⟨rfl,hA⟩:=q1;have hA:A=[]:=by
   cases A with
   | nil=>rfl
   | cons a tl=>have:=congrArg List.length hA;simp at this
  subst hA;have hB:B=[]:=by
   obtain⟨_,h,_⟩:=hs.uncons;have:=h.rel
   cases B with
   | nil=>rfl
   | cons b bs=>cases this
  subst hB;have hf:=hs.uncons.1
  cases e with
  | outgrown=>exact absurd rfl q5
  | returned x =>
   obtain rfl:=hret _ _ q4;have hgi:PP.inits.idxOf? g.fn=none:=by rw[←hf.fn,q2];exact hini
   refine Sure.last rfl fun w1 hl=>?_;have hw1:WH (Iv PP (Qy.F 0)) r v w1:=hw.of rfl hl.1 (by rw[hl.2.1];exact hw.env);obtain⟨r2,T2,y,w2,ns,e2,hv,hw2,hk2,he⟩:=ZcZ hf hw1 q3 hgi;have ho2:=(ho.like hl).kept hk2;have hk3:Kep r r2 v v w w2:=Kep.of (v0:=re v T2) (v':=re v T2) ⟨rfl,rfl,rfl⟩ hl hk2;refine⟨y,w2,ns,e2,fun x hx=>Z7Y (he x hx) ho2.names,by rw[←hl.1];exact hk2.sizeW,?_⟩
   cases hv
   have:=hj.kep hk3;exact⟨rfl,this.old,this.size,this.os,this.out⟩
  | panicked ch =>
   exfalso;obtain⟨tq,xs,hng,rfl⟩:=hpan _ _ q4;have hm:=hf.mode;rw[q3.1]at hm;generalize g.mode=z at hm
   cases hm with
   | panicking q =>
    cases q with
    | cons a t =>
     have a1:=a.1;dsimp only[bunV]at a1;generalize PanicEntry.v _=z2 at a1
     cases a1 with
     | iface _ k =>
      cases k with
      | func hf _ _ _ _ =>
       cases hf with
       | func _ h =>
        have h:gJ tq=true:=h;rw[hng]at h
        cases h
end Lift
namespace Lift
open Go Go.Conc Go.RowKit Ev
def TL(f:FuncId):Prop:=f=26
def PreL(t:FuncId)(xs:Array Value)(u:World):Prop:=t=26∧ZgN xs u
theorem tgtL(t:FuncId)(h:TL t):Tgt TL t (PreL t):=by
 obtain rfl:t=26:=h;have q:=Ziw TL;exact⟨q.gs,q.bad,fun h=>q.co h.2,q.fn,q.ng⟩
theorem Zid{t:FuncId}{T:Nat→Question→Nat}(h:PreL t xs (re u T)): PreL t xs u:=by
 obtain⟨h0,x,l,s,a1,a2,c1,c2,h2,h3,h4,h5,h6,h7,h8,h9⟩:=h;letI:Jk:=jk0;exact⟨h0,x,l,s,a1,a2,c1,c2,h2,h3,Z4P (v:=re u T) (v2:=u) (fun _ _=>rfl) h4,h5,h6,h7,h8,h9⟩
def jmpB(f n:Nat):Bool:=(f==26&&n==3)||(f==19&&n==0)
theorem Zhw(f:FuncId)(n:Nat)(q:jmpB f n=true):(jkV TL).jmp f∧n=(jkV TL).ar f:=by
 unfold jmpB at q;simp only[Yo,Y5,beq_iff_eq]at q
 rcases q with⟨rfl,rfl⟩ | ⟨rfl,rfl⟩
 ·exact⟨.inl rfl,rfl⟩
 ·exact⟨.inr rfl,rfl⟩
theorem lawV_m{x:Vm}{a1 a2:Option Addr}{n1 n2 c1 c2:Nat}(hv:VOk x)(h:x.At u)(hl0:l≠[])(hll:l.length≤1000)(hs:Z1z x s)(e1:l.length=n1)(e2:s.length=n2)(hr:Z7 u (.slice a1 n1 c1) 1 (l.map Z6))(hr':Z7 u (.slice a2 n2 c2) 1 (s.map Z6)):
  LawV PreL (.panicked [bunV 26 #[.agg #[.int .i64 x.B,.slice x.da x.D.length x.dc,.slice x.la x.L.length x.lc,.int .i64 x.tol],.slice a1 n1 c1,.slice a2 n2 c2]]) u:=by
 subst e1 e2;exact .inr ⟨_,_,by decide,rfl,rfl,x,l,s,a1,a2,c1,c2,rfl,hv,h,hl0,hll,hs,hr,hr'⟩
end Lift
section
open Go.RowKit
variable{μ:Nat}
theorem ZdX:∀(xs:List Int) (i:Nat) (v:Int),i<xs.length→(xs.set i v).sum=xs.sum-xs.getD i 0+v
 | [],i,v,h=>by simp at h
 | x::xs,0,v,h=>by simp;omega
 | x::xs,i+1,v,h=>by
  have:=ZdX xs i v (by simpa using h);simp only[List.set_cons_succ,List.sum_cons,this,List.getD_cons_succ];omega
theorem Za0{xs:List Int}(h:∀n∈xs,0≤n): ∀n∈xs,n≤xs.sum:=by
 induction xs with
 | nil=>intro n hn;simp at hn
 | cons x xs ih =>
  intro n hn;have h0:0≤xs.sum:=by
   clear ih hn
   induction xs with
   | nil=>simp
   | cons y ys ih2 =>
    have:=h y (by simp);have:=ih2 fun m hm=>h m (by simp only[Yc]at hm⊢;rcases hm with rfl | hm<;>simp[*]);simp only[List.sum_cons];omega
  have hx:=h x (by simp);rw[List.sum_cons]
  rcases Yc.1 hn with rfl | hn
  ·omega
  ·have:=ih (fun m hm=>h m (by simp[hm])) n hn;omega
def ZgS(x:Vm)(w0:World)(b k:Nat)(nv:Value)(w:World)(e:Ending)(w':World):Prop:=∃(a:Option Addr) (xs:List Int),e = .returned (.slice a x.D.length x.D.length)∧RcpOk x xs∧w'.ownsRow w.heap.size 3 1 (.slice a x.D.length x.D.length) x.D.length (ivs xs)∧Zh w0 w' b (k+10) nv∧Ext [b] w w'
theorem Z2n(x:Vm)(hv:VOk x)(w0 w:World)(b k:Nat)(nv:Value)(h:Zh w0 w b k nv)(hk:k≤900000):
  Calls (Qy.prog μ) 14 #[.pointer (some ⟨b,0,none⟩),.agg #[.int .i64 x.B,.slice x.da x.D.length x.dc,.slice x.la x.L.length x.lc,.int .i64 x.tol]] w (ZgS x w0 b k nv w):=by
 have HL:=h;have hbw:=Z1r HL;have hws:w0.heap.size≤w.heap.size:=HL.2.2.1.size;have E:Ext [b] w w:=Ext.refl _ _;have hd1:=hv.d1;have hd4:=hv.d4;clear h hv;have G:=((Bk.nil w).cl HL).ce E;refine(ent 31 Tryz.f14 rfl) fun F=>wR fun k1=>(F.bx G) @fun n3 w1 _ yy F G=>(F.m) fun F=>k1<|wR fun k2=>(F.y (F.fd 1)) fun F=>(F.y (F.lc (G.q 0))) fun F=>(F.y F.ln) fun F=>?_
 have hEs:=(G.e 1).size;refine ZK F rfl (by decide) (F.want rfl) (Z4x rfl (w.heap.size) (e:=3) (bytes:=8) (z:=.int .i64 0) Qy.underlying22 (by kernel_rfl) rfl (F.at rfl) (F.at rfl) (n:=x.D.length) (by omega) (by decide) (by omega)) ?_;clear F;rintro _ v' w2 F ⟨oo,hg,rfl⟩;obtain⟨n10,hn⟩:=eQ w1.heap.size;rw[←hn]at F oo;have s10:=G.lt hn;replace G:=G.gn hg;clear hg hn;replace G:=G.co oo;have oo:=G.o 0;rw[show List.replicate x.D.length (Value.int .i64 0)=ivs (List.replicate x.D.length 0) by simp[ivs]]at oo;replace G:=G.rO 0 oo;clear oo;refine(F.m) fun F=>k2<|wQ fun k3=>wR fun k4=>(F.m) fun F=>(F.m) fun F=>(F.bs G 1 #[.int .i64 1,.int .i64 2,.int .i64 3,.int .i64 6] Qy.zeroValue3) @fun n13 w3 _ yy F G=>(F.k (Zdf w0 _ b _ nv n13 _ [1,2,3,6] (G.l 4) (by omega) (G.q 0) (by omega) (by decide) (by decide))) ?_
 rintro _ w4 ⟨v,rfl,hvm,HL,e9⟩;refine⟨_,rfl,fun F=>?_⟩;replace G:=G.xl 4 e9 HL;have hv6:1≤v∧v≤6:=by simp only[Yc,Ya,or_false]at hvm;omega
 refine(F.k (Z81 w0 _ b _ nv 1 v (G.l 4) (by omega) (by omega) (by omega) (by omega) (by omega))) ?_;rintro _ w5 ⟨n,rfl,hn1,hn2,HL,e9⟩;refine⟨_,rfl,fun F=>?_⟩;replace G:=(G.xl 4 e9 HL).d 0;refine(F.m) fun F=>?_;rw[show n=n-((0:Nat):Int) by omega]at F;refine k4<|Yh ?_
 replace G:=G.rL 3 (show Zh w0 w5 b (k+2+0) nv from Zp (G.l 3) (by omega));refine lpB (F.b [0,5]) (G.b [1,2]) (6) (fun i Lv Sv W=>∃xs:List Int,Lv=[(6,.int .i64 (n-((i:Nat):Int)))]∧Sv=[.l w0 b (k+2+i) nv]∧W.ownsRow w.heap.size 3 1 (.slice (some ⟨n10,0,none⟩) x.D.length x.D.length) x.D.length (ivs xs)∧xs.length=x.D.length∧(∀m∈xs,0≤m)∧xs.sum=i∧(i:Int)≤n) ⟨_,_,F.u,G.u,_,rfl,rfl,(G.o 0),(by simp),(by simp),(by simp),(by omega)⟩ ?_;clear F G;rintro i _ w6 _ _ hi1 ⟨xs,rfl,rfl,oo,hxl,hx0,hxs,hin⟩ F G;replace G:=(G.z).co oo;refine wQ fun k5=>wR fun k6=>(F.m) fun F=>(F.y F.gt) fun F=>k6<|F.ci (fun hc17=>?_) (fun hc17=>?_)
 ·refine Yi<|k5<|wQ fun k7=>Yh<|Yg<|(F.m) fun F=>(F.m) fun F=>(F.m) fun F=>(F.y F.ln) fun F=>(F.y F.sb) fun F=>(F.k (Z0w w0 _ b _ nv (((x.D.length:Nat):Int)-1) (G.l 1) (by omega) (by omega) (by omega))) ?_
  rintro _ w7 ⟨u,rfl,hu0,hu1,HL,e9⟩;refine⟨_,rfl,fun F=>?_⟩;replace G:=G.xl 1 e9 HL;obtain⟨u,rfl⟩:=Int.eq_ofNat_of_zero_le hu0;have hux:u<xs.length:=by rw[hxl];omega
  have oo:=G.o 0;have HS:=Lib.hid (ZJ oo hxl.symm [] (by simp));have hil:=Z1j xs;have hm0:=hx0 _ (Z8 0 hux);have hmS:=Za0 hx0 _ (Z8 0 hux);replace G:=G.hr [];obtain⟨xb8,xo8,xa8,xr8⟩:=HS.out u (by omega);refine(F.y (F.is 1 xa8)) fun F=>(F.y (F.l1 (xr8 _ (G.e 0)) 0)) fun F=>(F.y F.ad) fun F=>?_;obtain⟨xb9,xo9,xa9,xr9⟩:=HS.out u (by omega);refine(F.y (F.is 1 xa9)) fun F=>?_;replace G:=G.d 0;obtain⟨⟨u0,hcu⟩,hfu,hst⟩:=Z2l (G.o 0) xa9 (j:=u) (p:=xo9+((u:Nat):Int).toNat*1) (by first | omega | (simp;omega)) (by omega);refine Z0N rfl (F.want rfl) (ZN rfl (F.at rfl) (F.at rfl) rfl (by kernel_rfl) hcu hfu) ?_;intro w8 hw;obtain⟨hown',hg⟩:=hst _ _ hw;replace G:=G.gr 0 hg hown';clear hst hcu hfu hw hg hown';have oo:=G.o 0;rw[Z1k]at oo;have hst:=ZdX xs u (xs.getD u 0+1) hux;have hx2:∀m∈xs.set u (xs.getD u 0+1),0≤m:=by intro m hm;rcases List.mem_or_eq_of_mem_set hm with hm | rfl;(· exact hx0 m hm);(· omega)
  replace G:=G.rO 0 oo;clear oo;refine k7<|Yg<|(F.m) fun F=>(F.y F.sb) fun F=>?_
  rw[show n-((i:Nat):Int)-1=n-((i+1:Nat):Int) by omega]at F;refine(F.m) fun F=>?_;replace G:=G.rL 1 (show Zh w0 w8 b (k+2+(i+1)) nv from Zp (G.l 1) (by omega));show _∧_;exact⟨by omega,_,_,F.u,G.u,_,rfl,rfl,(G.o 0),(by rw[List.length_set];exact hxl),hx2,(by omega),(by omega)⟩
 ·refine wp_exit<|k3<|wR fun k10=>(F.m) fun F=>(F.m) fun F=>k10<|(F.r1) ?_
  have oo:=G.o 0;refine⟨_,xs,rfl,⟨hxl,fun m hm=>⟨hx0 m hm,?_⟩,by omega,by omega⟩,oo,Zp (G.l 1) (by omega),(G.e 3)⟩;have:=Za0 hx0 m hm;omega
variable{μ:Nat}
def adK(t m:List Int)(k n:Nat):List Int:=(List.range n).map fun j=>if j<k then val t j+val m j else val t j
def adL(t m:List Int)(n:Nat):List Int:=(List.range n).map fun k=>val t k+val m k
theorem ZgX(t m:List Int)(k n:Nat):(adK t m k n).length=n:=by simp[adK]
theorem Z4K(t m:List Int)(n:Nat):(adL t m n).length=n:=by simp[adL]
theorem Zeh(h:t.length=n): adK t m 0 n=t:=by
 refine List.ext_getElem (by simp[adK,h]) fun j h1 h2=>?_;simp[adK,val,h2]
theorem ZgV(t m:List Int)(n:Nat):adK t m n n=adL t m n:=List.map_congr_left fun j hj=>if_pos (List.mem_range.1 hj)
theorem ZgW(h:k<n): (adK t m k n).getD k 0=val t k:=by simp[adK,h]
theorem ZgY(h:k<n): (adK t m k n).set k (val t k+val m k)=adK t m (k+1) n:=by
 refine List.ext_getElem (by simp[adK]) fun j h1 h2=>?_;rw[List.getElem_set]
 by_cases e:k=j
 ·subst e;simp[adK]
 ·simp only[adK,List.getElem_map,List.getElem_range,if_neg e]
  by_cases h3:j<k
  ·rw[if_pos h3,if_pos (by omega)]
  ·rw[if_neg h3,if_neg (by omega)]
theorem Z9q(h:l.length≤k): val l k=0:=by simp[val,List.getElem?_eq_none h]
theorem ZbQ(ht:t.length=n)(hm:m.length=n)(k:Nat): val (adL t m n) k=val t k+val m k:=by
 by_cases h:k<n
 ·simp[adL,val,h]
 ·rw[Z9q (by rw[Z4K];omega),Z9q (by omega),Z9q (by omega)];rfl
theorem Z3K(f g:Nat→Int):∀n,sumQ (fun i=>f i+g i) n=sumQ f n+sumQ g n
 | 0=>rfl
 | n+1=>by rw[sumQ,sumQ,sumQ,Z3K f g n];omega
theorem Zi4(x:Vm)(k:Nat){f g h:Nat→Int}(e:∀j,h j=f j+g j)(s:Nat→Int): prt h=prt f+prt g∧offE x k h s=offE x k f s+offE x k g s:=by
 have e1:prt h=prt f+prt g:=(Z0U fun j _=>e j).trans (Z3K f g 4);have e2:∀j,tnE x h j=tnE x f j+tnE x g j:=fun j=>by
  unfold tnE tonE;rw[←Z3K];exact Z0U fun d _=>by rw[e,Int.add_mul]
 have e3:dotE (val (x.lamp k)) (tnE x h) x.B.toNat=dotE (val (x.lamp k)) (tnE x f) x.B.toNat+dotE (val (x.lamp k)) (tnE x g) x.B.toNat:=by
  unfold dotE;rw[←Z3K];exact Z0U fun d _=>by rw[e2,Int.mul_add]
 refine⟨e1,?_⟩;unfold offE;rw[e1,e3,Int.add_mul];omega
theorem ZhX{x:Vm}{f s:Nat→Int}: matE x f s [((k:Nat):Int)]=true↔max (offE x k f s) (-offE x k f s)≤x.tol*prt f:=by
 simp[matE]
theorem Zf1{x:Vm}{s:Nat→Int}(ha:a.length=n)(hb:b.length=n)(h1:matE x (val a) s [((k:Nat):Int)]=true)(h2:matE x (val b) s [((k:Nat):Int)]=true): matE x (val (adL a b n)) s [((k:Nat):Int)]=true:=by
 rw[ZhX]at h1 h2⊢;obtain⟨e1,e2⟩:=Zi4 x k (fun j=>ZbQ ha hb j) s;rw[e1,e2,Int.mul_add];omega
theorem ZbP(ha:a.length=n)(hb:b.length=n)(hn:n≤4): (adL a b n).sum=a.sum+b.sum:=by
 have h1:=Z2v (adL a b n) 4 (by rw[Z4K];exact hn);rw[←h1,←Z2v a 4 (by omega),←Z2v b 4 (by omega),←Z3K];exact Z0U fun j _=>ZbQ ha hb j
theorem Zg1(ht:∀q∈t,0≤q∧q≤6)(hm:∀q∈m,0≤q∧q≤6): ∀q∈adL t m n,0≤q∧q≤12:=by
 intro q hq;obtain⟨j,-,rfl⟩:=List.mem_map.1 hq;have h1:=Z8t ht (by omega) (by omega) j;have h2:=Z8t hm (by omega) (by omega) j;omega
theorem Zae{x:Vm}(hv:VOk x)(ha:RcpOk x a)(hb:RcpOk x b): rcpE x (adL a b x.D.length)=0↔a.sum+b.sum≤6:=by
 have hs:=ZbP ha.len hb.len (by have:=hv.d4;omega);have hbd:=Zg1 (n:=x.D.length) ha.bd hb.bd;rw[Z2J]
 constructor
 ·intro h
  have:=h.s6;omega
 ·intro h
  refine⟨Z4K _ _ _,fun q hq=>⟨(hbd q hq).1,?_⟩,?_,by omega⟩
  ·have:=Za0 (fun q hq=>(hbd q hq).1) q hq
   omega
  ·have:=ha.s1
   have:=hb.s1;omega
theorem Z8F{i: Nat}{β:Nat→Bool}(h:i<n): (0≤atI (Z0r n β) ((i:Nat):Int))↔β i=true:=by
 have hm:((i:Nat):Int)∈Z0r n β↔β i=true:=by
  unfold Z0r;simp only[List.mem_map,List.mem_filter,List.mem_range]
  constructor
  ·rintro⟨j,⟨_,hj⟩,e⟩
   obtain rfl:j=i:=by omega
   exact hj
  ·exact fun hb=>⟨i,⟨h,hb⟩,rfl⟩
 rw[←hm];unfold atI
 cases e:(Z0r n β).findIdx? (· == ((i:Nat):Int)) with
 | none =>
  rw[List.findIdx?_eq_none_iff]at e
  constructor
  ·intro q;simp at q
  ·intro q;have:=e _ q;simp at this
 | some j =>
  rw[List.findIdx?_eq_some_iff_getElem]at e;obtain⟨hj,e1,_⟩:=e;have e2:(Z0r n β)[j]=((i:Nat):Int):=by simpa using e1
  exact⟨fun _=>e2▸List.getElem_mem hj,fun _=>by simp⟩
theorem ZbO{ρ:Operand→Value}{o:Oper}{x y:Operand}{t t':TypeId}{p q b:Bool}(ho:o.op = .binOp .neq t x y t')(hx:ρ x = .bool p)(hy:ρ y = .bool q)(hu:P.underlying t=some .bool)(hb:(p != q)=b): (execOp ρ o).run P w = .ok (.value (.bool b)) w:=by
 subst hb;unfold execOp
 cases p<;>cases q<;>simp[ho,hx,hy,run_neq_bool (h:=hu),go_sem]
def usP(l:List Int)(n:Nat):Int:=rowU (fun k=>decide (l.getD k 0≠0)) n
theorem Z41{l:List Int}(h:∀n∈l,0≤n∧n≤12)(h4:l.length≤1000):∀i,i≤l.length→0≤(l.take i).sum∧(l.take i).sum≤12*i
 | 0,_=>by simp
 | i+1,hi=>by
  have h1:=Z41 h h4 i (by omega);have h2:=h _ (Z8 0 (show i<l.length by omega));rw[Z1o l (by omega)];omega
theorem ZkD(l:List Int)(hb:∀n∈l,0≤n∧n≤12)(h4:l.length≤1000)(a:Option Addr)(c:Nat)(w:World)(h:Z7 w (.slice a l.length c) 1 (l.map Z6)):
  Calls (Qy.prog μ) 28 #[.slice a l.length c] w fun e w'=>e = .returned (.tuple #[.int .i64 (usP l l.length),.int .i64 l.sum])∧Ext [] w w':=by
 have E:Ext [] w w:=Ext.refl _ _;have HS:=Lib.hid (Za h 0);have HB:=Lib.hid hb;clear h hb;have G:=(Bk.nil w).ce E;refine(ent 28 Tryz.f28 rfl) fun F=>wR fun k1=>(F.m) fun F=>(F.m) fun F=>k1<|wR fun k2=>(F.m) fun F=>(F.m) fun F=>?_
 rw[show (0:Int)=usP l 0 from rfl]at F;replace F:=F.re (k:=5) rfl (show Value.int .i64 (usP l 0) = .int .i64 (l.take 0).sum from rfl);refine k2<|wQ fun k3=>wR fun k4=>(F.m) fun F=>k4<|Yh<|lpC (F.b [0]) G (l.length) (fun i=>[(4,.int .i64 (usP l i)),(5,.int .i64 ((l.take i).sum)),(6,.int .i64 ((i:Nat):Int))]) F.u fun i hi1 F G=>?_
 have hub:=Z7d (fun k=>decide (l.getD k 0≠0)) i;replace hub:0≤usP l i∧usP l i≤i:=hub;refine wQ fun k5=>wR fun k6=>(F.m) fun F=>(F.m) fun F=>(F.y F.ln) fun F=>(F.y F.ls) fun F=>k6<|F.ci (fun hc10=>?_) (fun hc10=>?_)
 ·refine Yi<|k5<|wQ fun k7=>Yh<|wQ fun k8=>wR fun k9=>(F.m) fun F=>(F.m) fun F=>(F.ix HS.out i) fun xr10 F=>(F.y (F.l1 (xr10 _ (G.e 0)) 0)) fun F=>(F.y F.ne) fun F=>k9<|F.ci (fun hc17=>?_) (fun hc17=>?_)
  ·have hun:usP l i+1=usP l (i+1):=by show rowU _ i+1=rowU _ i+bI (decide (l.getD i 0≠0));rw[decide_eq_true hc17];rfl
   refine Yg<|(F.m) fun F=>(F.y F.ad) fun F=>?_
   rw[hun]at F;refine(F.m) fun F=>k8 ?_;have hsb:=Z41 HB.out h4 i (by omega);have hnb:=HB.out _ (Z8 0 (show i<l.length by omega));refine Yg<|(F.m) fun F=>(F.m) fun F=>(F.m) fun F=>(F.ix HS.out i) fun xr11 F=>(F.y (F.l1 (xr11 _ (G.e 0)) 0)) fun F=>(F.y F.ad) fun F=>?_
   rw[←Z1o l (by omega)]at F;refine(F.m) fun F=>k7<|Yg<|(F.m) fun F=>(F.y F.ad) fun F=>(F.m) fun F=>?_
   show _∧_;exact⟨by omega,F.u,G.u⟩
  ·have hun:usP l i=usP l (i+1):=by show rowU _ i=rowU _ i+bI (decide (l.getD i 0≠0));rw[decide_eq_false hc17];exact(Int.add_zero _).symm
   rw[hun]at F;refine Yi<|k8 ?_
   have hsb:=Z41 HB.out h4 i (by omega);have hnb:=HB.out _ (Z8 0 (show i<l.length by omega));refine Yg<|(F.m) fun F=>(F.m) fun F=>(F.m) fun F=>(F.ix HS.out i) fun xr12 F=>(F.y (F.l1 (xr12 _ (G.e 0)) 0)) fun F=>(F.y F.ad) fun F=>?_
   rw[←Z1o l (by omega)]at F;refine(F.m) fun F=>k7<|Yg<|(F.m) fun F=>(F.y F.ad) fun F=>(F.m) fun F=>?_
   show _∧_;exact⟨by omega,F.u,G.u⟩
 ·refine wp_exit ?_
  rw[show i=l.length by omega,List.take_of_length_le (Ye _)]at F;refine k3<|wR fun k13=>(F.m) fun F=>(F.m) fun F=>(F.m) fun F=>(F.m) fun F=>k13<|(F.r2) ?_
  exact⟨rfl,(G.e 0)⟩
variable{μ:Nat}
def AtB(b:Nat)(x:Vm)(w:World):Prop:=∀W,Ext [b] w W→x.At W
theorem AtB.ext{b:Nat}{x:Vm}(h:AtB b x w)(e:Ext [b] w W): AtB b x W:=fun V k=>h V (e.trans k)
theorem AtB.at{b:Nat}{x:Vm}(h:AtB b x w): x.At w:=h w (Ext.refl _ _)
def ZgT(x:Vm)(w0:World)(b k:Nat)(nv:Value)(w:World)(e:Ending)(w':World):Prop:=∃(a:Option Addr) (c:Nat) (xs:List Int),e = .returned (.slice a xs.length c)∧Z1z x xs∧w'.ownsRow w.heap.size 3 1 (.slice a xs.length c) xs.length (ivs xs)∧Zh w0 w' b (k+20) nv∧Ext [b] w w'
theorem Zjf{s p:Int}(h0:0≤s)(h1:s≤240)(hp:1≤p): 0≤s / p∧s / p≤240:=⟨Int.ediv_nonneg h0 (by omega),Int.le_trans (Int.ediv_le_self _ h0) h1⟩
theorem Z8d(x:Vm)(hv:VOk x)(w0 w:World)(b k:Nat)(nv:Value)(h:Zh w0 w b k nv)(hk:k≤900000)(hx:AtB b x w):
  Calls (Qy.prog μ) 25 #[.pointer (some ⟨b,0,none⟩),.agg #[.int .i64 x.B,.slice x.da x.D.length x.dc,.slice x.la x.L.length x.lc,.int .i64 x.tol]] w (ZgT x w0 b k nv w):=by
 have HL:=h;have hbw:=Z1r HL;have hb0:=HL.1;have hws:w0.heap.size≤w.heap.size:=HL.2.2.1.size;have E:Ext [b] w w:=Ext.refl _ _;have HX:=Lib.hid hx;have HV:=Lib.hid hv;have hb1:=hv.b1;have hb3:=hv.b3;obtain⟨bn,hbn⟩:∃bn:Nat,x.B=bn:=⟨x.B.toNat,by omega⟩;clear h hv hx;have G:=((Bk.nil w).cl HL).ce E;refine(ent 49 Tryz.f25 rfl) fun F=>wR fun k1=>(F.bx G) fun yy F G=>(F.m) fun F=>k1<|wQ fun k2=>?_
 have G2:=G;refine(wD [b] none G) fun G=>(F.zr 0 (G.t 0) fun hS=>F.lb (G2.k 0 hS)) fun F=>(F.z 1 (G.t 0) F.mo) fun F=>(F.zr 2 (G.t 0) fun hS=>F.lb (G2.k 0 hS)) fun F=>(aO 3)<|(F.ok (Z2n x HV.out w0 _ b _ nv (G.l 3) (by omega))) ?_
 rintro _ w3 ⟨ra,rl,rfl,hrl,ro,HL,e9⟩;refine⟨_,rfl,fun F=>?_⟩;replace G:=G.xl 3 e9 HL;refine .intro (G.t 0) ?_;have hso:=ZdY (μ:=μ) x HV.out bn hbn rl hrl.len (fun n hn=>hrl.bd n hn) ra x.D.length w3 (HX.out _ (G.e 2)) (by rw[hrl.len];exact Zr ro hrl.len.symm);rw[hrl.len]at hso;have hbX:=Z1r (G.l 3);refine(aO 4)<|(F.ok (hso)) ?_
 rintro _ w4 ⟨sa,rfl,so,e9⟩;refine⟨_,rfl,fun F=>?_⟩;replace G:=G.ex e9;refine .intro (G.t 0) ?_;have hEs0:=(G.e 2).size;have hsl:(sumL x (val rl) bn).length=bn:=by simp[sumL]
 have HSS:=Lib.hid (ZJ so hsl.symm [b] (by simpa using hbX));clear ro so hso;have hs1:=hrl.s1;have hs6:=hrl.s6;have hsb:=Lib.hid (Z40 HV.out hrl.tub bn);replace G:=G.hr [b];refine(F.z 5 (G.t 1) F.mo) fun F=>(F.z 6 (G.t 1) F.xt) fun F=>(F.z 7 (G.t 1) F.xt) fun F=>(F.z 8 (G.t 1) F.mo) fun F=>(F.z 9 (G.t 1) F.mo) fun F=>(aD)<|k2<|wR fun k3=>(F.m) fun F=>k3<|wQ fun k4=>wQ fun k5=>?_
 have oo:w4.ownsRow w4.heap.size 3 1 (.slice none 0 0) 0 (ivs []):=World.ownsRow_nil _ _ _ _;have hwS0:w.heap.size≤w4.heap.size:=(by exact hEs0);replace G:=G.co oo;refine Yg<|(F.m) fun F=>k5<|Yh ?_
 replace G:=G.rL 5 (show Zh w0 w4 b (k+10+0) nv from Zp (G.l 5) (by omega));refine lpB (F.b [0,3,5,6]) (G.b [1,3,4]) (bn) (fun i Lv Sv W=>∃va:Option Addr,∃vc:Nat,∃xs:List Int,Lv=[(7,.slice va i vc),(8,.int .i64 ((i:Nat):Int))]∧Sv=[.l w0 b (k+10+i) nv]∧W.ownsRow w4.heap.size 3 1 (.slice va i vc) i (ivs xs)∧xs.length=i∧(∀m∈xs,0≤m∧m≤9)) ⟨_,_,F.u,G.u,none,0,[],rfl,rfl,(G.o 0),rfl,(by simp)⟩ ?_;clear F G;rintro i _ w5 _ _ hi1 ⟨va,vc,xs,rfl,rfl,oo,hxl,hxb⟩ F G;replace G:=(G.z).co oo;refine wQ fun k6=>wR fun k7=>(F.m) fun F=>(F.y (F.fd 0)) fun F=>(F.y (F.lc (G.q 3))) fun F=>?_;rw[hbn]at F;refine(F.y F.ls) fun F=>k7<|F.ci (fun hc20=>?_) (fun hc20=>?_)
 ·refine Yi<|k6<|wQ fun k8=>Yh ?_
  obtain⟨hq0,hq1⟩:=hsb.out _ (Z8 0 (show i<(sumL x (val rl) bn).length by omega));obtain⟨hd0,hd1⟩:=Zjf hq0 hq1 hs1;have G4:=G;refine(wD [b] (some 13) G) fun G=>(F.z 0 (G.t 0) F.mo) fun F=>(F.z 1 (G.t 0) F.mo) fun F=>(F.z 2 (G.t 0) F.mo) fun F=>?_;obtain⟨xb9,xo9,xa9,xr9⟩:=HSS.out i (by omega);refine(F.z 3 (G.t 0) (F.is 1 xa9)) fun F=>(F.zR 4 [6,10,11,12,13] (G.t 0) fun hS=>F.l1 (xr9 _ ((G4.e 2).trans hS)) 0) fun F=>(F.z 5 (G.t 0) F.mo) fun F=>?_;refine F.z 6 (G.t 0) (Zg0 rfl (F.at rfl) (F.at rfl) (by omega) (by omega) (by omega)) (h:=fun F=>?_);refine(F.z 7 (G.t 0) F.mo) fun F=>(aO 8)<|(F.obs G 1 #[.int .i64 0,.int .i64 0,.int .i64 1] Qy.zeroValue3) @fun n31 w7 _ yy F G=>.intro (G.t 1)<|(aO 9)<|(F.ok (Zdf w0 _ b _ nv n31 _ [0,0,1] (G.l 3) (by omega) (G.q 0) (by omega) (by decide) (by decide))) ?_
  rintro _ w8 ⟨v,rfl,hvm,HL,e9⟩;refine⟨_,rfl,fun F=>?_⟩;replace G:=G.xl 3 e9 HL;refine .intro (G.t 1) ?_;have hv1:0≤v∧v≤1:=by simp only[Yc,Ya,or_false]at hvm;omega
  replace G:=G.d 0;refine(F.z 10 (G.t 0) F.ad) fun F=>(F.z 11 (G.t 0) F.mn) fun F=>(aO 12)<|(F.obs G 1 #[.int .i64 (min 9 ((((sumL x (val rl) bn).getD i 0) / rl.sum)+v))] Qy.zeroValue3) fun yy F G=>.intro (G.t 1) ?_
  have hzE:=(G.e 4).size;replace G:=G.d 1;refine Z2b (i:=13) (by kernel_rfl) (Zi8 F rfl rfl (by decide) (F.want rfl) (ZU rfl (w4.heap.size) (e:=3) (size:=1) (bytes:=8) Qy.underlying22 (by kernel_rfl) (by decide) (F.at rfl) (G.o 1) (F.at rfl) (G.q 0) rfl (by simp[Value.oneCell']) (by omega) (by omega) (by omega)) ?_);clear F;rintro _ v' w10 F ⟨hown',hg⟩;obtain⟨va36,vc36,rfl⟩:=Zm hown';replace G:=(G.d 0).gr 0 hg hown';clear hg hown';refine .intro (gone (by kernel_rfl)) ?_;have oo:=G.o 0;rw[Z11]at oo;have hx2:(xs++[min 9 ((sumL x (val rl) bn).getD i 0 / rl.sum+v)]).length=i+1:=by rw[Ym,hxl];rfl
  have hx3:∀m∈xs++[min 9 ((sumL x (val rl) bn).getD i 0 / rl.sum+v)],0≤m∧m≤9:=by intro m hm;rcases List.mem_append.1 hm with hm | hm;(· exact hxb m hm);(· simp only[Yc,Ya,or_false]at hm;subst hm;omega)
  replace G:=G.rO 0 oo;clear oo;refine(F.z 14 (gone (by kernel_rfl)) F.mo) fun F=>(aD)<|k8<|Yg<|(F.m) fun F=>(F.y F.ad) fun F=>(F.m) fun F=>?_
  replace G:=G.rL 1 (show Zh w0 w10 b (k+10+(i+1)) nv from Zp (G.l 1) (by omega));show _∧_;exact⟨by omega,_,_,F.u,G.u,_,_,_,rfl,rfl,(G.o 0),hx2,hx3⟩
 ·refine wp_exit ?_
  have oo:=G.o 0;rw[show i=bn by omega]at F oo hxl;replace G:=G.rO 0 oo;clear oo;refine k4<|wQ fun k10=>wR fun k11=>(F.m) fun F=>?_
  replace G:=G.d 2;refine(F.k (Z7b w0 _ b _ nv 4 (G.l 1) (by omega) (by omega) (by omega))) ?_;rintro _ w11 ⟨r,rfl,HL,e9⟩;refine⟨_,rfl,fun F=>?_⟩;replace G:=G.xl 1 e9 HL;refine k11<|F.cb (fun hc38=>?_) (fun hc38=>?_)
  ·refine Yg<|(F.m) fun F=>(F.m) fun F=>(F.y (F.fd 0)) fun F=>(F.y (F.lc (G.q 2))) fun F=>(F.y F.sb) fun F=>?_
   rw[hbn]at F;refine(F.k (Z0w w0 _ b _ nv (((bn:Nat):Int)-1) (G.l 1) (by omega) (by omega) (by omega))) ?_;rintro _ w12 ⟨u,rfl,hu0,hu1,HL,e9⟩;refine⟨_,rfl,fun F=>?_⟩;replace G:=G.xl 1 e9 HL;obtain⟨u,rfl⟩:=Int.eq_ofNat_of_zero_le hu0;refine(F.m) fun F=>(F.k (Z0w w0 _ b _ nv 9 (G.l 1) (by omega) (by omega) (by omega))) ?_;rintro _ w13 ⟨z,rfl,hz0,hz1,HL,e9⟩;refine⟨_,rfl,fun F=>?_⟩;replace G:=G.xl 1 e9 HL;have oo:=G.o 0;have HS:=Lib.hid (ZJ oo hxl.symm [] (by simp));have hil:=Z1j xs;replace G:=G.hr [];obtain⟨xb12,xo12,xa12,xr12⟩:=HS.out u (by omega);refine(F.y (F.is 1 xa12)) fun F=>?_;replace G:=G.d 0;obtain⟨⟨u0,hcu⟩,hfu,hst⟩:=Z2l (G.o 0) xa12 (j:=u) (p:=xo12+((u:Nat):Int).toNat*1) (by first | omega | (simp;omega)) (by omega);refine Z0N rfl (F.want rfl) (ZN rfl (F.at rfl) (F.at rfl) rfl (by kernel_rfl) hcu hfu) ?_;intro w14 hw;obtain⟨hown',hg⟩:=hst _ _ hw;replace G:=G.gr 0 hg hown';clear hst hcu hfu hw hg hown';have oo:=G.o 0;rw[Z1k]at oo;have hx2:(xs.set u z).length=bn:=by rw[List.length_set];exact hxl
   have hx3:∀m∈xs.set u z,0≤m∧m≤9:=by intro m hm;rcases List.mem_or_eq_of_mem_set hm with hm | rfl;(· exact hxb m hm);(· omega)
   replace G:=G.rO 0 oo;clear oo;refine k10<|wR fun k13=>(F.m) fun F=>(F.m) fun F=>k13<|(F.r1) ?_
   have oo:=G.o 0;exact⟨va,vc,xs.set u z,by rw[hx2],⟨by rw[hx2,hbn],hx3⟩,by rw[hx2];exact Z0s oo hwS0,Zp (G.l 1) (by omega),(G.e 3)⟩
  ·refine Yi<|k10<|wR fun k14=>(F.m) fun F=>(F.m) fun F=>k14<|(F.r1) ?_
   have oo:=G.o 0;exact⟨va,vc,xs,by rw[hxl],⟨by rw[hxl,hbn],hxb⟩,by rw[hxl];exact Z0s oo hwS0,Zp (G.l 1) (by omega),(G.e 3)⟩
variable{μ:Nat}
theorem Z7S{B:Int}:∀(ds met:List (List Int)),(∀d∈ds,numE d B 9=0)→(met++ds).Nodup→dyeE B met ds=0
 | [],_,_,_=>rfl
 | d::ds,met,h,hn=>by
  rw[dyeE,if_neg (by simp[h d (by simp)])];have h1:d ∉ met:=fun hm=>by
   rw[List.nodup_append]at hn;exact hn.2.2 d hm d (by simp) rfl
  rw[if_neg h1];exact Z7S ds (met++[d]) (fun e he=>h e (by simp[he])) (by simpa using hn)
theorem Z5U{B:Int}:∀(ls:List (List Int)),(∀l∈ls,numE l B 3=0∧l.sum≠0)→Z1Y B ls=0
 | [],_=>rfl
 | l::ls,h=>by
  obtain⟨h1,h2⟩:=h l (by simp);rw[Z1Y,if_neg (by simp[h1]),if_neg h2];exact Z5U ls fun m hm=>h m (by simp[hm])
theorem ZkG{x:Vm}(b1:1≤x.B)(b3:x.B≤3)(d1:1≤x.D.length)(d4:x.D.length≤4)(dl:∀p∈x.D,(p.2.length:Int)=x.B∧∀n∈p.2,0≤n∧n≤9)(nd:(x.D.map (·.2)).Nodup)(l1:1≤x.L.length)(l3:x.L.length≤3)(ll:∀p∈x.L,(p.2.length:Int)=x.B∧∀n∈p.2,0≤n∧n≤3)(ls:∀p∈x.L,p.2.sum≠0)(t0:0≤x.tol)(t12:x.tol≤12):VOk x:=by
 refine⟨?_,b1,b3,d1,d4,dl,l1,l3,ll,t0,t12⟩;have h2:sizE ((x.D.map (·.2)).length:Nat) 4=0:=Z7g (by simp;omega) (by simp;omega);have h4:sizE ((x.L.map (·.2)).length:Nat) 3=0:=Z7g (by simp;omega) (by simp;omega);have h3:dyeE x.B [] (x.D.map (·.2))=0:=Z7S _ _ (fun d hd=>by obtain⟨p,hp,rfl⟩:=List.mem_map.1 hd;exact Z9a (dl p hp).1 (dl p hp).2) (by simpa using nd);have h5:Z1Y x.B (x.L.map (·.2))=0:=Z5U _ (fun d hd=>by obtain⟨p,hp,rfl⟩:=List.mem_map.1 hd;exact⟨Z9a (ll p hp).1 (ll p hp).2,ls p hp⟩);rw[chk6 (Z12.2 ⟨b1,b3⟩) h2 h3 h4 h5,Z12.2 ⟨t0,t12⟩]
 rfl
theorem Zfd{size m: Nat}{a:Option Addr}{cs:List Value}(h:w.ownsRow base e size (.slice a m c) n cs): n≤c:=by
 rcases h.2 with⟨hv,hn⟩ | ⟨g,cap,cur,hv,-,-,hn,-⟩
 ·injection hv with h1 h2 h3;omega
 ·injection hv with h1 h2 h3;omega
theorem ZhG{b b2: Nat}{a:Option Addr}{M:List (Value×List Int)}(oo:w.ownsRow base 22 1 (.slice a M.length c) M.length (M.map (·.1)))(fam:FamT w b2 M)(e:Ext [b] w W)(h1:b<base)(h2:b<b2): Z0x W a M:=
 Z3V (Z0p oo e (by simpa using h1)) (Z0H fam fun v n xs h=>Z0p h e (by simpa using h2))
def ZgU(dm:Nat)(w0:World)(b k:Nat)(nv:Value)(w:World)(e:Ending)(w':World):Prop:=∃x:Vm,e = .returned (.agg #[.int .i64 x.B,.slice x.da x.D.length x.dc,.slice x.la x.L.length x.lc,.int .i64 x.tol])∧VOk x∧(x.D.length≤dm∧x.D.length≤x.dc)∧AtB b x w'∧Zh w0 w' b (k+100) nv∧Ext [b] w w'
theorem Ze5(dm:Nat)(hdm1:1≤dm)(hdm:dm≤4)(w0 w:World)(b k:Nat)(nv:Value)(h:Zh w0 w b k nv)(hk:k≤800000):
  Calls (Qy.prog μ) 13 #[.pointer (some ⟨b,0,none⟩),.int .i64 ((dm:Nat):Int)] w (ZgU dm w0 b k nv w):=by
 have HL:=h;have hbw:=Z1r HL;have hb0:=HL.1;have hws:w0.heap.size≤w.heap.size:=HL.2.2.1.size;have E:Ext [b] w w:=Ext.refl _ _;clear h;have G:=((Bk.nil w).cl HL).ce E;refine(ent 66 Tryz.f13 rfl) fun F=>wR fun k1=>(F.al G Qy.zeroValue27) @fun n4 w1 _ yy F G=>k1<|wR fun k2=>(F.m) fun F=>(F.k (Z81 w0 _ b _ nv 1 3 (G.l 2) (by omega) (by omega) (by omega) (by omega) (by omega))) ?_
 rintro _ w2 ⟨bz,rfl,hbz1,hbz2,HL,e9⟩;refine⟨_,rfl,fun F=>?_⟩;replace G:=G.xl 2 e9 HL;obtain⟨bn,rfl⟩:=Int.eq_ofNat_of_zero_le (show 0≤bz by omega);refine(F.m) fun F=>(F.m) fun F=>(F.k (Z0w w0 _ b _ nv 6 (G.l 2) (by omega) (by omega) (by omega))) ?_;rintro _ w3 ⟨u,rfl,hu0,hu1,HL,e9⟩;refine⟨_,rfl,fun F=>?_⟩;replace G:=G.xl 2 e9 HL;refine(F.bs G 1 #[.int .i64 0,.int .i64 1,.int .i64 1,.int .i64 2,.int .i64 u] Qy.zeroValue3) @fun n15 w4 _ yy F G=>(F.k (Zdf w0 _ b _ nv n15 _ [0,1,1,2,u] (G.l 3) (by omega) (G.q 0) (by omega) (by simp) (by simp))) ?_;rintro _ w5 ⟨tl,rfl,htm,HL,e9⟩;refine⟨_,rfl,fun F=>?_⟩;replace G:=G.xl 3 e9 HL;have htl:0≤tl∧tl≤6:=by simp only[Yc,Ya,or_false]at htm;omega
 replace G:=G.d 0;refine(F.y (F.bv #[.int .i64 ((bn:Nat):Int),.slice none 0 0,.slice none 0 0,.int .i64 tl])) fun F=>(F.al G Qy.zeroValue27) @fun n5 w6 _ yy F G=>(F.sr G 0) fun G=>k2<|wQ fun k3=>wR fun k4=>(F.m) fun F=>(F.m) fun F=>(F.k (Z81 w0 _ b _ nv 1 ((dm:Nat):Int) (G.l 3) (by omega) (by omega) (by omega) (by omega) (by omega))) ?_
 rintro _ w8 ⟨n,rfl,hn1,hn2,HL,e9⟩;refine⟨_,rfl,fun F=>?_⟩;replace G:=G.xl 3 e9 HL;refine(F.m) fun F=>?_;rw[show n=n-((0:Nat):Int) by omega]at F;have hb4:=Z3 (G.q 1);have hb5:=Z3 (G.q 0);have hbb:=Z1r (G.l 3);have hwR0:w.heap.size≤w8.heap.size:=by exact(G.e 2).size
 have oo:w8.ownsRow w8.heap.size 22 1 (.slice none 0 0) 0 (([]:List (Value×List Int)).map (·.1)):=World.ownsRow_nil _ _ _ _;have fam:FamT w8 w8.heap.size []:=ZcC _ _;replace G:=((G.hr [b,n5]).co oo).cf fam;refine k4<|Yh ?_
 replace G:=G.rL 6 (show Zh w0 w8 b (k+4+10*0) nv from Zp (G.l 6) (by omega));refine lpB (F.b [0,4,5]) (G.b [2,4,5]) (dm) (fun i Lv Sv W=>∃da:Option Addr,∃dc:Nat,∃O:List (Value×List Int),Lv=[(6,.int .i64 (n-((i:Nat):Int)))]∧Sv=[.q n5 (#[.int .i64 ((bn:Nat):Int),.slice da O.length dc,.slice none 0 0,.int .i64 tl]) 27,.l w0 b (k+4+10*i) nv]∧W.ownsRow w8.heap.size 22 1 (.slice da O.length dc) O.length (O.map (·.1))∧FamT W w8.heap.size O∧(∀p∈O,(p.2.length:Int)=bn∧∀m∈p.2,0≤m∧m≤9)∧(O.map (·.2)).Nodup∧O.length≤i∧(0<i→0<O.length)∧(i:Int)≤n) ⟨_,_,F.u,G.u,none,0,[],rfl,rfl,(G.o 1),(G.f 0),(by simp),(by simp),(by simp),(by simp),(by omega)⟩ ?_;clear F G;rintro i _ w9 _ _ hi1 ⟨da,dc,O,rfl,rfl,oo,fam,hOB,hnd,hOl,hO1,hin⟩ F G;replace G:=((G.z).co oo).cf fam;refine wQ fun k5=>wR fun k6=>(F.m) fun F=>(F.y F.gt) fun F=>k6<|F.ci (fun hc22=>?_) (fun hc22=>?_)
 ·refine Yi<|k5<|wQ fun k7=>Yh<|wR fun k8=>(F.m) fun F=>(F.y (F.fd 0)) fun F=>(F.y (F.lc (G.q 2))) fun F=>?_
  have fam:=G.f 0;have hflt:=Lib.hid (Zgj fam);obtain⟨B1,hB1⟩:∃B1,B1=w9.heap.size:=⟨_,rfl⟩;rw[←hB1]at hflt;have hB1w:w8.heap.size≤B1:=by rw[hB1];exact(G.e 4).size
  refine(F.k (Z5v w0 _ b _ nv bn 9 (G.l 3) (by omega) (by omega) (by omega) (by omega))) ?_;rintro _ w10 ⟨ra,rc,xs,rfl,hxl,hxb,ro,HL,e9⟩;refine⟨_,rfl,fun F=>?_⟩;replace G:=G.xl 3 e9 HL;rw[←hB1]at ro;replace G:=G.co ro;refine(F.m) fun F=>k8<|wR fun k9=>(F.y (F.fd 1)) fun F=>(F.y (F.lc (G.q 3))) fun F=>(F.m) fun F=>?_
  have ro:=G.o 0;have fam:=G.f 1;have oo:=G.o 2;have hin2:=ZeP (μ:=μ) O xs da ra dc rc w10 (Z3V oo fam) (by rw[hxl];exact Zr ro hxl.symm) (by omega) (fun p hp=>by have:=(hOB p hp).1;omega) (by omega);rw[hxl]at hin2;refine(F.k (hin2)) ?_;rintro _ w11 ⟨rfl,e9⟩;refine⟨_,rfl,fun F=>?_⟩;replace G:=G.ex e9;clear hin2;refine(F.y F.nd) fun F=>k9<|F.ci (fun hc33=>?_) (fun hc33=>?_)
  ·have ro:=G.o 0
   have fam:=G.f 1;have fam2:=Z9R (Z9Q (b1:=B1) (L:=[(Value.slice ra bn rc,xs)]) ⟨fun p hp=>(by obtain rfl:p=(Value.slice ra bn rc,xs):=(by simpa using hp);rw[show ((Value.slice ra bn rc,xs):Value×List Int).2.length=bn from hxl];exact ro),List.pairwise_singleton _ _⟩ fam hflt.out hB1w) (M:=O++[(Value.slice ra bn rc,xs)]) List.perm_append_comm;have fam:=fam2;clear fam2;obtain⟨P,hP⟩:∃P,P=O++[(Value.slice ra bn rc,xs)]:=⟨_,rfl⟩;have hPl:O.length+1=P.length:=by rw[hP,Ym];rfl
   rw[←hP]at fam;have hPB:∀p∈P,(p.2.length:Int)=bn∧∀m∈p.2,0≤m∧m≤9:=by intro p hp;rw[hP]at hp;rcases List.mem_append.1 hp with hp | hp;(· exact hOB p hp);(· simp only[Yc,Ya,or_false]at hp;subst hp;exact⟨by show ((xs.length:Nat):Int)=_;omega,hxb⟩)
   have hPn:(P.map (·.2)).Nodup:=by rw[hP,List.map_append,List.nodup_append];exact⟨hnd,by simp,fun y hy z hz=>by simp only[List.map_cons,List.map_nil,Yc,Ya,or_false]at hz;subst hz;intro e;subst e;exact hc33 hy⟩
   replace G:=G.rF 1 fam;clear fam;refine Yg<|(F.y (F.fd 1)) fun F=>(F.y (F.lc (G.q 3))) fun F=>(F.m) fun F=>(F.bs G 1 #[.slice ra bn rc] Qy.zeroValue22) fun yy F G=>?_
   have hEs:=(G.e 6).size;have ro:=G.o 1;replace G:=G.d 1;refine ZK F rfl (by decide) (F.want rfl) (ZU rfl (w8.heap.size) (e:=22) (size:=1) (bytes:=24) Qy.underlying25 (by kernel_rfl) (by decide) (F.at rfl) (G.o 2) (F.at rfl) (G.q 0) rfl (by simp[Value.oneCell']) (by omega) (by omega) (by omega)) ?_;clear F;rintro _ v' w13 F ⟨hown',hg⟩;obtain⟨va38,vc38,rfl⟩:=Zm hown';replace G:=(G.d 0).gr 1 hg hown';clear hg hown';have oo:=G.o 1;rw[show O.map (·.1)++[Value.slice ra bn rc]=P.map (·.1) by rw[hP,List.map_append];rfl,hPl]at oo;rw[hPl]at F;replace hOB:=hPB;replace hnd:=hPn;replace hOl:P.length≤i+1:=by omega
   replace hO1:0<i+1→0<P.length:=fun _=>by omega
   replace G:=G.rO 1 oo;clear oo;refine(F.y (F.fd 1)) fun F=>(F.st G 2) @fun w14 G=>k7<|Yg<|(F.m) fun F=>(F.y F.sb) fun F=>?_
   rw[show n-((i:Nat):Int)-1=n-((i+1:Nat):Int) by omega]at F;refine(F.m) fun F=>?_;replace G:=G.rL 3 (show Zh w0 w14 b (k+4+10*(i+1)) nv from Zp (G.l 3) (by omega));show _∧_;exact⟨by omega,_,_,F.u,G.u,_,_,_,rfl,rfl,(G.o 1),(G.f 0),hOB,hnd,hOl,hO1,(by omega)⟩
  ·have hOne:0<O.length:=by have:=Classical.not_not.1 hc33;rcases O with _ | ⟨p,O⟩;(· simp at this);(· simp)
   replace hOl:O.length≤i+1:=by omega
   replace hO1:0<i+1→0<O.length:=fun _=>hOne;refine Yi<|k7<|Yg<|(F.m) fun F=>(F.y F.sb) fun F=>?_
   rw[show n-((i:Nat):Int)-1=n-((i+1:Nat):Int) by omega]at F;refine(F.m) fun F=>?_;replace G:=G.rL 4 (show Zh w0 w11 b (k+4+10*(i+1)) nv from Zp (G.l 4) (by omega));show _∧_;exact⟨by omega,_,_,F.u,G.u,_,_,_,rfl,rfl,(G.o 2),(G.f 1),hOB,hnd,hOl,hO1,(by omega)⟩
 ·refine wp_exit<|k3<|wQ fun k10=>wQ fun k11=>?_
  have oo:=G.o 1;have hdcap:=Zfd oo;have fam:=G.f 0;have hDl:∀W,Ext [b,n4,n5] w9 W→Z0x W da O:=fun W e=>Z3V (Z0p oo e (by simp;omega)) (Z0H fam fun v n xs h=>Z0p h e (by simp;omega));have HDl:=Lib.hid hDl;clear hDl;have hwL0:w.heap.size≤w9.heap.size:=by exact(G.e 6).size
  replace G:=G.hr [b,n4,n5];refine Yg<|(F.m) fun F=>?_
  have fam:=G.f 1;have oo:=G.o 2;replace G:=G.b [0,3,4,6,7];refine(F.k (Z81 w0 _ b _ nv 1 3 (G.l 2) (by omega) (by omega) (by omega) (by omega) (by omega))) ?_;rintro _ w15 ⟨m,rfl,hm1,hm2,HL,e9⟩;refine⟨_,rfl,fun F=>?_⟩;replace G:=G.xl 2 e9 HL;refine(F.m) fun F=>?_;rw[show m=m-((0:Nat):Int) by omega]at F;have oo:w15.ownsRow w9.heap.size 22 1 (.slice none 0 0) 0 (([]:List (Value×List Int)).map (·.1)):=World.ownsRow_nil _ _ _ _;have fam:FamT w15 w9.heap.size []:=ZcC _ _;have hOd:O.length≤dm:=by omega
  replace hO1:0<O.length:=hO1 (by omega);replace G:=(G.co oo).cf fam;refine k11<|Yh ?_
  replace G:=G.rL 4 (show Zh w0 w15 b (k+5+10*dm+10*0) nv from Zp (G.l 4) (by omega));refine lpB (F.b [0,4,5]) (G.b [2,5,6]) (3) (fun j Lv Sv W=>∃la:Option Addr,∃lc:Nat,∃Q:List (Value×List Int),Lv=[(8,.int .i64 (m-((j:Nat):Int)))]∧Sv=[.q n5 (#[.int .i64 ((bn:Nat):Int),.slice da O.length dc,.slice la Q.length lc,.int .i64 tl]) 27,.l w0 b (k+5+10*dm+10*j) nv]∧W.ownsRow w9.heap.size 22 1 (.slice la Q.length lc) Q.length (Q.map (·.1))∧FamT W w9.heap.size Q∧(∀p∈Q,(p.2.length:Int)=bn∧∀m∈p.2,0≤m∧m≤3)∧(∀p∈Q,p.2.sum≠0)∧Q.length=j∧(j:Int)≤m) ⟨_,_,F.u,G.u,none,0,[],rfl,rfl,(G.o 1),(G.f 0),(by simp),(by simp),rfl,(by omega)⟩ ?_;clear F G;rintro j _ w16 _ _ hi2 ⟨la,lc,Q,rfl,rfl,oo,fam,hQB,hQs,hQl,hjm⟩ F G;replace G:=((G.z).co oo).cf fam;refine wQ fun k12=>wR fun k13=>(F.m) fun F=>(F.y F.gt) fun F=>k13<|F.ci (fun hc43=>?_) (fun hc43=>?_)
  ·refine Yi<|k12<|wQ fun k14=>Yh<|wR fun k15=>(F.m) fun F=>(F.y (F.fd 0)) fun F=>(F.y (F.lc (G.q 2))) fun F=>?_
   have fam:=G.f 0;have hflt:=Lib.hid (Zgj fam);obtain⟨B1,hB1⟩:∃B1,B1=w16.heap.size:=⟨_,rfl⟩;rw[←hB1]at hflt;have hB1w:w9.heap.size≤B1:=by rw[hB1];exact(G.e 4).size
   refine(F.k (Z5v w0 _ b _ nv bn 3 (G.l 3) (by omega) (by omega) (by omega) (by omega))) ?_;rintro _ w17 ⟨ra,rc,xs,rfl,hxl,hxb,ro,HL,e9⟩;refine⟨_,rfl,fun F=>?_⟩;replace G:=G.xl 3 e9 HL;rw[←hB1]at ro;replace G:=G.co ro;refine(F.m) fun F=>k15<|wR fun k16=>(F.m) fun F=>(F.m) fun F=>(F.y (F.fd 0)) fun F=>(F.y (F.lc (G.q 3))) fun F=>(F.y F.sb) fun F=>(F.k (Z0w w0 _ b _ nv (((bn:Nat):Int)-1) (G.l 4) (by omega) (by omega) (by omega))) ?_
   rintro _ w18 ⟨v,rfl,hv0,hv1,HL,e9⟩;refine⟨_,rfl,fun F=>?_⟩;replace G:=G.xl 4 e9 HL;obtain⟨v,rfl⟩:=Int.eq_ofNat_of_zero_le hv0;refine(F.m) fun F=>(F.k (Z81 w0 _ b _ nv 1 3 (G.l 4) (by omega) (by omega) (by omega) (by omega) (by omega))) ?_;rintro _ w19 ⟨z,rfl,hz1,hz2,HL,e9⟩;refine⟨_,rfl,fun F=>?_⟩;replace G:=G.xl 4 e9 HL;have ro:=G.o 0;have HS:=Lib.hid (ZJ ro hxl.symm [] (by simp));have hil:=Z1j xs;replace G:=G.hr [];obtain⟨xb17,xo17,xa17,xr17⟩:=HS.out v (by omega);refine(F.y (F.is 1 xa17)) fun F=>?_;replace G:=G.d 0;obtain⟨⟨u0,hcu⟩,hfu,hst⟩:=Z2l (G.o 0) xa17 (j:=v) (p:=xo17+((v:Nat):Int).toNat*1) (by first | omega | (simp;omega)) (by omega);refine Z0N rfl (F.want rfl) (ZN rfl (F.at rfl) (F.at rfl) rfl (by kernel_rfl) hcu hfu) ?_;intro w20 hw;obtain⟨hown',hg⟩:=hst _ _ hw;have ro:=(G.o 0);have fam:=G.f 1;replace G:=G.d 1;replace fam:=ZcB fam hflt.out ro hg;replace G:=(G.gr 0 hg hown').cf fam;clear hst hcu hfu hw hg hown';have ro:=G.o 1;rw[Z1k]at ro;replace G:=G.rO 1 ro;clear ro;obtain⟨ys,hys⟩:∃ys,ys=xs.set v z:=⟨_,rfl⟩;have hyl:ys.length=bn:=by rw[hys,List.length_set];exact hxl
   have hyb:∀q∈ys,0≤q∧q≤3:=by intro q hq;rw[hys]at hq;rcases List.mem_or_eq_of_mem_set hq with hq | rfl;(· exact hxb q hq);(· omega)
   have hysum:ys.sum≠0:=by have h1:=Za0 (xs:=ys) (fun q hq=>(hyb q hq).1) z (by rw[hys];exact List.mem_set (by omega) z);omega
   have ro:=G.o 1;rw[←hys]at ro;replace G:=G.rO 1 ro;clear ro;refine k16 ?_;have fam:=G.f 0;have ro:=G.o 1;have fam2:=Z9R (Z9Q (b1:=B1) (L:=[(Value.slice ra bn rc,ys)]) ⟨fun p hp=>(by obtain rfl:p=(Value.slice ra bn rc,ys):=(by simpa using hp);rw[show ((Value.slice ra bn rc,ys):Value×List Int).2.length=bn from hyl];exact ro),List.pairwise_singleton _ _⟩ fam hflt.out hB1w) (M:=Q++[(Value.slice ra bn rc,ys)]) List.perm_append_comm;have fam:=fam2;clear fam2;obtain⟨P,hP⟩:∃P,P=Q++[(Value.slice ra bn rc,ys)]:=⟨_,rfl⟩;have hPl:Q.length+1=P.length:=by rw[hP,Ym];rfl
   rw[←hP]at fam;have hPB:∀p∈P,(p.2.length:Int)=bn∧∀m∈p.2,0≤m∧m≤3:=by intro p hp;rw[hP]at hp;rcases List.mem_append.1 hp with hp | hp;(· exact hQB p hp);(· simp only[Yc,Ya,or_false]at hp;subst hp;exact⟨by show ((ys.length:Nat):Int)=_;omega,hyb⟩)
   have hPs:∀p∈P,p.2.sum≠0:=by intro p hp;rw[hP]at hp;rcases List.mem_append.1 hp with hp | hp;(· exact hQs p hp);(· simp only[Yc,Ya,or_false]at hp;subst hp;exact hysum)
   replace G:=G.rF 0 fam;clear fam;refine Yg<|(F.y (F.fd 2)) fun F=>(F.y (F.lc (G.q 3))) fun F=>(F.m) fun F=>(F.bs G 1 #[.slice ra bn rc] Qy.zeroValue22) fun yy F G=>?_
   have hEs:=(G.e 6).size;replace G:=G.d 2;refine ZK F rfl (by decide) (F.want rfl) (ZU rfl (w9.heap.size) (e:=22) (size:=1) (bytes:=24) Qy.underlying25 (by kernel_rfl) (by decide) (F.at rfl) (G.o 2) (F.at rfl) (G.q 0) rfl (by simp[Value.oneCell']) (by omega) (by omega) (by omega)) ?_;clear F;rintro _ v' w22 F ⟨hown',hg⟩;obtain⟨va63,vc63,rfl⟩:=Zm hown';replace G:=(G.d 0).gr 1 hg hown';clear hg hown';have oo:=G.o 1;rw[show Q.map (·.1)++[Value.slice ra bn rc]=P.map (·.1) by rw[hP,List.map_append];rfl,hPl]at oo;rw[hPl]at F;replace hQB:=hPB;replace hQs:=hPs;replace hQl:P.length=j+1:=by omega
   replace G:=G.rO 1 oo;clear oo;refine(F.y (F.fd 2)) fun F=>(F.st G 2) @fun w23 G=>k14<|Yg<|(F.m) fun F=>(F.y F.sb) fun F=>?_
   rw[show m-((j:Nat):Int)-1=m-((j+1:Nat):Int) by omega]at F;refine(F.m) fun F=>?_;replace G:=G.rL 3 (show Zh w0 w23 b (k+5+10*dm+10*(j+1)) nv from Zp (G.l 3) (by omega));show _∧_;exact⟨by omega,_,_,F.u,G.u,_,_,_,rfl,rfl,(G.o 1),(G.f 0),hQB,hQs,hQl,(by omega)⟩
  ·refine wp_exit<|k10<|wR fun k18=>(F.y (F.lb (G.q 2))) fun F=>(F.sr G 5) fun G=>k18 ?_
   refine(F.rg (rs_c F rfl rfl Qy.underlying27 rfl (by kernel_rfl) (G.q 5))) ?_;have hbL:b<w9.heap.size:=by omega
   have fam:=G.f 0;have oo:=G.o 1;refine⟨{B:=((bn:Nat):Int),D:=O,da:=da,dc:=dc,L:=Q,la:=la,lc:=lc,tol:=tl},rfl,ZkG (by simp only;omega) (by simp only;omega) (by simp only;omega) (by simp only;omega) hOB hnd (by simp only;omega) (by simp only;omega) hQB hQs (by simp only;omega) (by simp only;omega),⟨hOd,hdcap⟩,fun W e=>⟨HDl.out W ((G.e 4).trans (e.mono (by simp))),ZhG oo fam e hbL hbL⟩,Zp (G.l 3) (by omega),(G.e 6)⟩
end
section
open Go.RowKit Ev
variable{μ:Nat}
theorem Zd6{x:Vm}(h:RcpOk x l): matA x l s=Z0r x.L.length fun k=>matE x (val l) (val s) [((k:Nat):Int)]:=if_pos (Z2J.2 h)
theorem Z73{x:Vm}(hv:VOk x)(l s:List Int):(matA x l s).length≤3:=by
 have hl3:=hv.l3;unfold matA
 split
 ·exact Yd (Z50 _ _) hl3
 ·simp
theorem lawW(a0:Option Addr)(len0 cap0:Nat)(z0:List Int)(w:World)(h:ZaF .i64 w a0 len0 cap0 z0):Calls (Qy.prog 0) 5 #[.slice a0 len0 cap0] w fun e w'=>Lift.LawV Lift.PreL e w':=by
 have E:Ext [] w w:=Ext.refl _ _;have G:=(Bk.nil w).ce E;refine(ent 119 Tryz.f5 rfl) fun F=>wR fun k1=>(F.m) fun F=>k1<|wR fun k2=>(F.m) fun F=>(F.k (Z99 (μ:=0) w a0 len0 cap0 z0 h)) ?_
 rintro _ w1 ⟨b,rfl,hbw0,hbw1,HL,e9⟩;refine⟨_,rfl,fun F=>?_⟩;replace G:=(G.ex e9).cl HL;refine(F.m) fun F=>k2<|wR fun k3=>(F.m) fun F=>(F.k (Ze5 (μ:=0) 4 (by decide) (by decide) w _ b _ _ (G.l 0) (by omega))) ?_
 rintro _ w2 ⟨x,rfl,hv,hd3,hxb,HL,e9⟩;refine⟨_,rfl,fun F=>?_⟩;replace G:=G.xl 0 e9 HL;have HV:=Lib.hid hv;have HXB:=Lib.hid hxb;clear hv hxb;replace G:=G.hr [b];refine(F.al G Qy.zeroValue27) fun yy F G=>(F.sr G 0) fun G=>k3<|wQ fun k4=>?_
 have G2:=G;refine(wD [b] none G) @fun w5 G=>(F.z 0 (G.t 0) F.mo) fun F=>(F.zr 1 (G.t 0) fun hS=>F.lb (G2.k 0 hS)) fun F=>(F.z 3 (G.t 0) F.mo) fun F=>(F.zr 4 (G.t 0) fun hS=>F.lb (G2.k 0 hS)) fun F=>(F.z 6 (G.t 0) F.mo) fun F=>(F.zr 7 (G.t 0) fun hS=>F.lb (G2.k 0 hS)) fun F=>?_;obtain⟨B1,hB1⟩:∃B1,B1=w5.heap.size:=⟨_,rfl⟩;have hb1:b<B1:=by rw[hB1];exact Z1r (G.l 3)
 refine(aO 2)<|(F.ok (Z8d (μ:=0) x HV.out w _ b _ _ (G.l 3) (by omega) (HXB.out.ext (G.e 2)))) ?_
 rintro _ w6 ⟨sa,sc,s,rfl,hs,so,HL,e9⟩;refine⟨_,rfl,fun F=>?_⟩;replace G:=G.xl 3 e9 HL;refine .intro (G.t 0) ?_;rw[←hB1]at so;replace G:=G.co so;obtain⟨B2,hB2⟩:∃B2,B2=w6.heap.size:=⟨_,rfl⟩;have hb2:b<B2:=by rw[hB2];exact Z1r (G.l 4)
 refine(aO 5)<|(F.ok (Z2n (μ:=0) x HV.out w _ b _ _ (G.l 4) (by omega))) ?_
 rintro _ w7 ⟨ra,r,rfl,hr,ro,HL,e9⟩;refine⟨_,rfl,fun F=>?_⟩;replace G:=G.xl 4 e9 HL;refine .intro (G.t 1) ?_;rw[←hB2]at ro;replace G:=G.co ro;obtain⟨B3,hB3⟩:∃B3,B3=w7.heap.size:=⟨_,rfl⟩;have hb3:b<B3:=by rw[hB3];exact Z1r (G.l 5)
 refine(aO 8)<|(F.ok (Z2n (μ:=0) x HV.out w _ b _ _ (G.l 5) (by omega))) ?_
 rintro _ w8 ⟨ma,m,rfl,hm,mo,HL,e9⟩;refine⟨_,rfl,fun F=>?_⟩;replace G:=G.xl 5 e9 HL;refine .intro (G.t 2) ?_;rw[←hB3]at mo;replace G:=G.co mo;refine(F.z 9 (G.t 3) F.mo) fun F=>(F.z 10 (G.t 3) F.mo) fun F=>(F.z 11 (G.t 3) F.mo) fun F=>(aD) ?_;have hxd:=HXB.out _ (G.e 5);have ro:=G.o 1;have HR:=Lib.hid (Zr ro hr.len.symm);have mo:=G.o 0;have HMR:=Lib.hid (Zr mo hm.len.symm);have so:=G.o 2;have HSR:=Lib.hid (Zr so rfl);have HXD:=Lib.hid hxd;clear hxd;have HRO:=Lib.hid hr;have HMO:=Lib.hid hm;have HSO:=Lib.hid hs;have hrl:=hr.len;have hml:=hm.len;have hr1:=hr.s1;have hr6:=hr.s6;have hm1:=hm.s1;have hm6:=hm.s6;clear hr hm hs;have hd4:=HV.out.d4;have hd1:=HV.out.d1;have hl3:=HV.out.l3;have HMS:=Lib.hid (Za (show Z7 w8 (.slice ma m.length x.D.length) 1 (m.map Z6) by rw[hml];exact HMR.out) 0);replace G:=G.hr [];refine k4<|wR fun k5=>(F.y (F.lb (G.q 5))) fun F=>(F.m) fun F=>(F.m) fun F=>?_
 have hst:=Z3J x HV.out r s (by omega) HSO.out ra sa x.D.length sc w8 (HXD.out.ext (G.e 0)) (by rw[hrl];exact HR.out.ext (G.e 0) (by simp)) (HSR.out.ext (G.e 0) (by simp));rw[hrl,Z2J.2 HRO.out]at hst;refine(F.kp (hst)) ?_;rintro _ w9 (⟨⟨rfl,-⟩,e9⟩ | ⟨y1,rfl,hI1,-,e9⟩)
 ·refine .inl ⟨_,rfl,?_⟩
  replace G:=G.ex e9
  (try simp only[Exit.inBlock,Exit.then,Exit.jump,reduceIte])
  refine⟨F.ds,?_⟩;exact Lift.lawV_m HV.out (HXD.out.ext (G.e 0)) (by intro e;rw[e]at hrl;simp at hrl;omega) (by omega) HSO.out hrl rfl (HR.out.ext (G.e 0) (by simp)) (HSR.out.ext (G.e 0) (by simp))
 refine .inr ⟨_,rfl,fun F=>?_⟩;replace G:=G.ex e9;clear hst;obtain⟨ya1,yc1,rfl,hY1⟩:=Z4Y hI1;clear hI1;have hL1n:=Z73 HV.out r s;obtain⟨L1,hL1⟩:∃L1,L1=matA x r s:=⟨_,rfl⟩;rw[←hL1]at F hY1 hL1n;rw[Zd6 HRO.out]at hL1;have HY1:=Lib.hid hY1;clear hY1;replace G:=G.hr [];refine(F.m) fun F=>(F.y F.xt) fun F=>(F.y F.xt) fun F=>(F.m) fun F=>(F.m) fun F=>k5<|wR fun k6=>(F.y (F.lb (G.q 6))) fun F=>(F.m) fun F=>(F.m) fun F=>?_
 have hst:=Z3J x HV.out m s (by omega) HSO.out ma sa x.D.length sc w9 (HXD.out.ext (G.e 1)) (by rw[hml];exact HMR.out.ext (G.e 1) (by simp)) (HSR.out.ext (G.e 1) (by simp));rw[hml,Z2J.2 HMO.out]at hst;refine(F.kp (hst)) ?_;rintro _ w10 (⟨⟨rfl,-⟩,e9⟩ | ⟨y2,rfl,hI2,-,e9⟩)
 ·refine .inl ⟨_,rfl,?_⟩
  replace G:=G.ex e9
  (try simp only[Exit.inBlock,Exit.then,Exit.jump,reduceIte])
  refine⟨F.ds,?_⟩;exact Lift.lawV_m HV.out (HXD.out.ext (G.e 1)) (by intro e;rw[e]at hml;simp at hml;omega) (by omega) HSO.out hml rfl (HMR.out.ext (G.e 1) (by simp)) (HSR.out.ext (G.e 1) (by simp))
 refine .inr ⟨_,rfl,fun F=>?_⟩;replace G:=G.ex e9;clear hst;obtain⟨ya2,yc2,rfl,hY2⟩:=Z4Y hI2;clear hI2;have hL2n:=Z73 HV.out m s;obtain⟨L2,hL2⟩:∃L2,L2=matA x m s:=⟨_,rfl⟩;rw[←hL2]at F hY2 hL2n;rw[Zd6 HMO.out]at hL2;have HY2:=Lib.hid hY2;clear hY2;replace G:=G.hr [];refine(F.m) fun F=>(F.y F.xt) fun F=>(F.y F.xt) fun F=>(F.m) fun F=>(F.m) fun F=>k6<|wQ fun k7=>?_
 replace G:=G.b [0,1,2,7,10];refine Yg<|(F.m) fun F=>?_
 obtain⟨B4,hB4⟩:∃B4,B4=w10.heap.size:=⟨_,rfl⟩;have hB4D:w8.heap.size≤B4:=by rw[hB4];exact(G.e 2).size
 have hB4A:w9.heap.size≤B4:=by rw[hB4];exact(G.e 1).size
 have hB4B:w10.heap.size≤B4:=by rw[hB4];exact(G.e 0).size
 have hB4E:w.heap.size≤B4:=by rw[hB4];exact(G.e 4).size
 have hcp:=Z7Q (μ:=0) (xs:=r) (v:=.slice ra x.D.length x.D.length) (w:=w10) ⟨ra,x.D.length,by rw[hrl],by rw[hrl];exact HR.out.ext (G.e 2) (by simp)⟩ (by omega);rw[hrl]at hcp;refine(F.k (hcp)) ?_;rintro _ w11 ⟨ba,bc,rfl,bo,e9⟩;refine⟨_,rfl,fun F=>?_⟩;replace G:=G.ex e9;rw[←hB4,←Zeh (t:=r) (m:=m) hrl]at bo;clear hcp;replace G:=G.co bo;refine(F.m) fun F=>k7<|wQ fun k8=>wR fun k9=>(F.m) fun F=>k9<|Yh<|lpB (F.b [4,5,7,8,9,10,11,12]) (G.b [1,2,3,4,5]) (x.D.length) (fun k Lv Sv W=>Lv=[(13,.int .i64 ((k:Nat):Int))]∧Sv=[]∧W.ownsRow B4 3 1 (.slice ba x.D.length bc) x.D.length (ivs (adK r m k x.D.length))) ⟨_,_,F.u,G.u,rfl,rfl,(G.o 0)⟩ ?_
 clear F G;rintro k _ w12 _ _ hi1 ⟨rfl,rfl,bo⟩ F G;replace G:=(G.z).co bo;refine wQ fun k10=>wR fun k11=>(F.m) fun F=>(F.m) fun F=>(F.y F.ln) fun F=>(F.y F.ls) fun F=>k11<|F.ci (fun hc51=>?_) (fun hc51=>?_)
 ·refine Yi<|k10<|wQ fun k12=>Yh ?_
  have hal:=ZgX r m k x.D.length;have hag:=ZgW (t:=r) (m:=m) (show k<x.D.length by omega);have has:=ZgY (t:=r) (m:=m) (show k<x.D.length by omega);have bo:=G.o 0;have HS:=Lib.hid (ZJ bo hal.symm [] (by simp));have hil:=Z1j (adK r m k x.D.length);have hrb:=HRO.out.bd _ (Z8 0 (show k<r.length by omega));have hmb:=HMO.out.bd _ (Z8 0 (show k<m.length by omega));replace G:=G.hr [];have G4:=G;refine(wD [] (some 12) G) fun G=>(F.z 0 (G.t 0) F.mo) fun F=>(F.z 1 (G.t 0) F.mo) fun F=>(F.z 2 (G.t 0) F.mo) fun F=>(F.z 3 (G.t 0) F.mo) fun F=>?_;obtain⟨xb13,xo13,xa13,xr13⟩:=HS.out k (by omega);refine(F.z 4 (G.t 0) (F.is 1 xa13)) fun F=>(F.zr 5 (G.t 0) fun hS=>F.l1 (xr13 _ ((G4.e 0).nil hS)) 0) fun F=>?_;rw[hag,show val r k=r.getD k 0 from rfl]at F;refine(F.z 6 (G.t 0) F.mo) fun F=>(F.z 7 (G.t 0) F.mo) fun F=>?_;obtain⟨xb14,xo14,xa14,xr14⟩:=HMS.out k (by omega);refine(F.z 8 (G.t 0) (F.is 1 xa14)) fun F=>(F.zr 9 (G.t 0) fun hS=>F.l1 (xr14 _ ((G4.e 4).nil hS)) 0) fun F=>(F.z 10 (G.t 0) F.ad) fun F=>?_;obtain⟨xb15,xo15,xa15,xr15⟩:=HS.out k (by omega);refine(F.z 11 (G.t 0) (F.is 1 xa15)) fun F=>?_;replace G:=(G.d 1).d 0;obtain⟨⟨u0,hcu⟩,hfu,hst⟩:=Z2l (G.o 0) xa15 (j:=k) (p:=xo15+((k:Nat):Int).toNat*1) (by first | omega | (simp;omega)) (by omega);refine Z2b (i:=12) (by kernel_rfl) (Zb7 rfl rfl (F.want rfl) (ZN rfl (F.at rfl) (F.at rfl) rfl (by kernel_rfl) hcu hfu) ?_);intro w14 hw;obtain⟨hown',hg⟩:=hst _ _ hw;replace G:=G.gr 0 hg hown';clear hst hcu hfu hw hg hown';refine .intro (gone (by kernel_rfl)) ?_;have bo:=G.o 0;rw[Z1k,show r.getD k 0+m.getD k 0=val r k+val m k from rfl,has]at bo;replace G:=G.rO 0 bo;clear bo;refine(aD)<|k12<|Yg<|(F.m) fun F=>(F.y F.ad) fun F=>(F.m) fun F=>?_
  show _∧_;exact⟨by omega,_,_,F.u,G.u,rfl,rfl,(G.o 0)⟩
 ·refine wp_exit ?_
  have bo:=G.o 0;rw[show k=x.D.length by omega,ZgV]at bo;have HBO:=Lib.hid (Zr bo (Z4K r m x.D.length).symm);clear bo;replace G:=G.rO 0 bo;clear bo;replace G:=G.hr [];refine k8<|wR fun k16=>(F.y (F.lb (G.q 5))) fun F=>(F.m) fun F=>(F.m) fun F=>?_
  have hbl:=Z4K r m x.D.length;have hst:=Z3J x HV.out (adL r m x.D.length) s (by omega) HSO.out ba sa bc sc w12 (HXD.out.ext (G.e 4)) (by rw[hbl];exact HBO.out.ext (G.e 0) (by simp)) (HSR.out.ext (G.e 4) (by simp));rw[hbl]at hst;obtain⟨er,her⟩:∃er,er=rcpE x (adL r m x.D.length):=⟨_,rfl⟩;rw[←her]at hst;refine(F.kp (hst)) ?_;rintro _ w15 (⟨⟨rfl,-⟩,e9⟩ | ⟨y3,rfl,hI3,-,e9⟩)
  ·refine .inl ⟨_,rfl,?_⟩
   replace G:=G.ex e9
   (try simp only[Exit.inBlock,Exit.then,Exit.jump,reduceIte])
   refine⟨F.ds,?_⟩;exact Lift.lawV_m HV.out (HXD.out.ext (G.e 4)) (by intro e;rw[e]at hbl;simp at hbl;omega) (by omega) HSO.out hbl rfl (HBO.out.ext (G.e 0) (by simp)) (HSR.out.ext (G.e 4) (by simp))
  refine .inr ⟨_,rfl,fun F=>?_⟩;replace G:=G.ex e9;clear hst;obtain⟨ya3,yc3,rfl,hY3⟩:=Z4Y hI3;clear hI3;have hL3n:=Z73 HV.out (adL r m x.D.length) s;obtain⟨L3,hL3⟩:∃L3,L3=matA x (adL r m x.D.length) s:=⟨_,rfl⟩;rw[←hL3]at F hY3 hL3n;have HY3:=Lib.hid hY3;clear hY3;replace G:=G.hr [];refine(F.m) fun F=>(F.y F.xt) fun F=>(F.y F.xt) fun F=>(F.m) fun F=>(F.m) fun F=>k16<|wR fun k17=>(F.m) fun F=>?_
  have hu:=ZkD (μ:=0) (adL r m x.D.length) (Zg1 HRO.out.bd HMO.out.bd) (by omega) ba bc w15 (by rw[hbl];exact HBO.out.ext (G.e 1) (by simp));rw[hbl,ZbP hrl hml hd4]at hu;refine(F.k (hu)) ?_;rintro _ w16 ⟨rfl,e9⟩;refine⟨_,rfl,fun F=>?_⟩;replace G:=G.ex e9;clear hu;refine(F.m) fun F=>(F.y F.xt) fun F=>(F.y F.xt) fun F=>(F.m) fun F=>(F.m) fun F=>k17<|wQ fun k18=>wQ fun k19=>?_
  by_cases hg:er=0
  ·have hrc:r.sum+m.sum≤6:=(Zae HV.out HRO.out HMO.out).1 (her.symm.trans hg)
   refine Yg<|(F.m) fun F=>(F.y F.neF) fun F=>(F.m) fun F=>(F.m) fun F=>(F.y F.neF) fun F=>(F.y F.pF) fun F=>(F.m) fun F=>(F.m) fun F=>(F.y (F.eqT (h:=hg))) fun F=>(F.m) fun F=>(F.y F.leT) fun F=>?_
   refine(F.y ((ZbO rfl (F.at rfl) (F.at rfl) Qy.underlying4 (b:=false) rfl))) fun F=>(F.y F.pF) fun F=>k19<|(F.cF)<|Yi<|k18<|wQ fun k20=>wR fun k21=>(F.m) fun F=>k21<|Yh<|lpC (F.b [4,8,10,14,15]) (G.b [0,1,3,4,5,6,7]) (x.L.length) (fun i=>[(18,.int .i64 ((i:Nat):Int))]) F.u fun i hi2 F G=>wQ fun k22=>wQ fun k23=>?_
   by_cases hid:i<x.L.length
   ·refine Yg<|(F.m) fun F=>(F.y (F.fd 2)) fun F=>(F.y (F.lc (G.q 5))) fun F=>(F.y F.ln) fun F=>(F.y F.lsT) fun F=>(F.m) fun F=>(F.m) fun F=>(F.y (F.eqT (h:=hg))) fun F=>(F.y F.pT) fun F=>k23<|(F.cT)<|Yi<|k22<|wQ fun k24=>Yh<|wQ fun k25=>?_
    by_cases h1:0≤atI L1 ((i:Nat):Int)
    ·by_cases h2:0≤atI L2 ((i:Nat):Int)
     ·have h1i:(0≤atI L1 ((i:Nat):Int))↔matE x (val r) (val s) [((i:Nat):Int)]=true:=by rw[hL1];exact Z8F hid
      have h2i:(0≤atI L2 ((i:Nat):Int))↔matE x (val m) (val s) [((i:Nat):Int)]=true:=by rw[hL2];exact Z8F hid
      have h3i:(0≤atI L3 ((i:Nat):Int))↔matE x (val (adL r m x.D.length)) (val s) [((i:Nat):Int)]=true:=by rw[hL3,matA,if_pos (her.symm.trans hg)];exact Z8F hid
      have h3:=h3i.2 (Zf1 hrl hml (h1i.1 h1) (h2i.1 h2));refine Yg<|(F.m) fun F=>(F.m) fun F=>(F.k0 G (Z5K (μ:=0) L1 ((i:Nat):Int) ya1 yc1 _ (HY1.out.ext (G.e 3) (by simp)) (by omega))) fun F G=>(F.y F.geT) fun F=>(F.m) fun F=>(F.m) fun F=>(F.m) fun F=>(F.k0 G (Z5K (μ:=0) L2 ((i:Nat):Int) ya2 yc2 _ (HY2.out.ext (G.e 2) (by simp)) (by omega))) fun F G=>(F.y F.geT) fun F=>(F.y F.pT) fun F=>?_
      refine(F.m) fun F=>(F.m) fun F=>(F.m) fun F=>(F.k0 G (Z5K (μ:=0) L3 ((i:Nat):Int) ya3 yc3 _ (HY3.out.ext (G.e 0) (by simp)) (by omega))) fun F G=>(F.y F.lsF) fun F=>(F.y F.pT) fun F=>k25<|(F.cF)<|Yi<|k24<|Yg<|(F.m) fun F=>(F.y F.ad) fun F=>(F.m) fun F=>?_
      show _∧_;exact⟨by omega,F.u,G.u⟩
     ·refine Yg<|(F.m) fun F=>(F.m) fun F=>(F.k0 G (Z5K (μ:=0) L1 ((i:Nat):Int) ya1 yc1 _ (HY1.out.ext (G.e 3) (by simp)) (by omega))) fun F G=>(F.y F.geT) fun F=>(F.m) fun F=>(F.m) fun F=>(F.m) fun F=>(F.k0 G (Z5K (μ:=0) L2 ((i:Nat):Int) ya2 yc2 _ (HY2.out.ext (G.e 2) (by simp)) (by omega))) fun F G=>(F.y F.geF) fun F=>(F.y F.pT) fun F=>?_
      refine(F.m) fun F=>(F.n) fun F=>(F.n) fun F=>(F.n) fun F=>(F.n) fun F=>(F.y F.pF) fun F=>k25<|(F.cF)<|Yi<|k24<|Yg<|(F.m) fun F=>(F.y F.ad) fun F=>(F.m) fun F=>?_
      show _∧_;exact⟨by omega,F.u,G.u⟩
    ·refine Yg<|(F.m) fun F=>(F.m) fun F=>(F.k0 G (Z5K (μ:=0) L1 ((i:Nat):Int) ya1 yc1 _ (HY1.out.ext (G.e 3) (by simp)) (by omega))) fun F G=>(F.y F.geF) fun F=>(F.m) fun F=>(F.n) fun F=>(F.n) fun F=>(F.n) fun F=>(F.n) fun F=>(F.y F.pF) fun F=>(F.m) fun F=>(F.n) fun F=>?_
     refine(F.n) fun F=>(F.n) fun F=>(F.n) fun F=>(F.y F.pF) fun F=>k25<|(F.cF)<|Yi<|k24<|Yg<|(F.m) fun F=>(F.y F.ad) fun F=>(F.m) fun F=>?_
     show _∧_;exact⟨by omega,F.u,G.u⟩
   ·refine Yg<|(F.m) fun F=>(F.y (F.fd 2)) fun F=>(F.y (F.lc (G.q 5))) fun F=>(F.y F.ln) fun F=>(F.y F.lsF) fun F=>(F.m) fun F=>(F.n) fun F=>(F.n) fun F=>(F.y F.pF) fun F=>k23<|(F.cF)<|wp_exit<|k20<|wR fun k26=>(F.k0 G (Z3j (μ:=0) _)) fun F G=>(F.m) fun F=>k26<|(F.r1) ?_
    exact .inl rfl
  ·have hrc:¬r.sum+m.sum≤6:=fun q=>hg (her.trans ((Zae HV.out HRO.out HMO.out).2 q))
   refine Yg<|(F.m) fun F=>(F.y F.neF) fun F=>(F.m) fun F=>(F.m) fun F=>(F.y F.neF) fun F=>(F.y F.pF) fun F=>(F.m) fun F=>(F.m) fun F=>(F.y (F.eqF (h:=hg))) fun F=>(F.m) fun F=>(F.y F.leF) fun F=>?_
   refine(F.y ((ZbO rfl (F.at rfl) (F.at rfl) Qy.underlying4 (b:=false) rfl))) fun F=>(F.y F.pF) fun F=>k19<|(F.cF)<|Yi<|k18<|wQ fun k27=>wR fun k28=>(F.m) fun F=>k28<|Yh<|lpC (F.b [4,8,10,14,15]) (G.b [0,1,3,4,5,6,7]) (x.L.length) (fun i=>[(18,.int .i64 ((i:Nat):Int))]) F.u fun i hi2 F G=>wQ fun k29=>wQ fun k30=>?_
   by_cases hid:i<x.L.length
   ·refine Yg<|(F.m) fun F=>(F.y (F.fd 2)) fun F=>(F.y (F.lc (G.q 5))) fun F=>(F.y F.ln) fun F=>(F.y F.lsT) fun F=>(F.m) fun F=>(F.m) fun F=>(F.y (F.eqF (h:=hg))) fun F=>(F.y F.pT) fun F=>k30<|(F.cF)<|wp_exit<|k27<|wR fun k31=>(F.k0 G (Z3j (μ:=0) _)) fun F G=>(F.m) fun F=>k31<|(F.r1) ?_
    exact .inl rfl
   ·refine Yg<|(F.m) fun F=>(F.y (F.fd 2)) fun F=>(F.y (F.lc (G.q 5))) fun F=>(F.y F.ln) fun F=>(F.y F.lsF) fun F=>(F.m) fun F=>(F.n) fun F=>(F.n) fun F=>(F.y F.pF) fun F=>k30<|(F.cF)<|wp_exit<|k27<|wR fun k32=>(F.k0 G (Z3j (μ:=0) _)) fun F G=>(F.m) fun F=>k32<|(F.r1) ?_
    exact .inl rfl
end
namespace Lift
open Go Go.Conc Go.RowKit Ev
open Go.ConcM (OsLater)
noncomputable def lB : Code := (Tryz.f5.body).getD (.refuse "")
theorem Zhx:Tryz.f5.body=some lB:=by kernel_rfl
noncomputable def lF:Frame:={(default:Frame) with fn:=lawF,kind:=.normal}
noncomputable def lA(xs:Array Value):Act:={tmps:=xs++Array.replicate (Tryz.f5.ntmps-xs.size) undef,defers:=[]}
theorem Z3l{Q:Program}(h:Q.funcs[(lawF:Nat)]?=some Tryz.f5)(xs:Array Value): Frame.enter Q lawF xs .normal=lF.at (lA xs) [.code lB]:=by
 simp[Frame.enter,Frame.at,h,Zhx,lF,lA]
theorem lawP:PP.funcs[(lawF:Nat)]?=some Tryz.f5:=by kernel_rfl
theorem lawQ:(Qy.prog 0).funcs[(lawF:Nat)]?=some Tryz.f5:=by kernel_rfl
theorem cl0:ZR PP gJ jmpB true true true false lB=true:=by kernel_rfl
theorem ZhA:PP.inits.idxOf? lawF=none:=by kernel_rfl
theorem Zkv{f:Nat}(h:gJ f=true): gS f=true:=by
 have h1:=Z5R (Zjx h);unfold gS;rw[List.elem_iff];exact List.mem_append_left _ h1
theorem VR.dup{x: Value}(h:@VR (jkV TL) (idS S) x y): @VR jk0 (idS S) x x:=by
 have nm:∀{b c:Nat},idS S b=some c→idS S b=some b:=fun h=>Z2h (Z0F h).1;have ar:∀{a b:Addr},AR (idS S) a b→AR (idS S) a a:=fun h=>by
  cases h with
  | mk q=>exact .mk (nm q)
 induction h with
 | bool b=>exact @VR.bool jk0 _ b
 | int k n=>exact @VR.int jk0 _ k n
 | string s=>exact @VR.string jk0 _ s
 | ptr0=>exact @VR.ptr0 jk0 _
 | ptr q=>exact @VR.ptr jk0 _ _ _ (ar q)
 | sl0 n c=>exact @VR.sl0 jk0 _ n c
 | sl n c q=>exact @VR.sl jk0 _ _ _ n c (ar q)
 | map0=>exact @VR.map0 jk0 _
 | map q=>exact @VR.map jk0 _ _ _ (nm q)
 | func hf hx _ hy _ ih ih2 =>
  refine @VR.func jk0 _ _ _ _ _ _ _ ?_ rfl (fun i a b p q=>?_) rfl (fun i a b p q=>?_)
  ·cases hf with
   | func f h=>exact @FnR.func jk0 _ f (Zkv h)
   | yield q=>exact @FnR.yield jk0 _ _ _ (nm q)
  ·rw[p]at q
   obtain rfl:=Y1 q;obtain⟨b,hb⟩:∃b,_=some b:=⟨_,Y2 (hx▸(Y0.1 p).1)⟩;exact ih i a b p hb
  ·rw[p]at q
   obtain rfl:=Y1 q;obtain⟨b,hb⟩:∃b,_=some b:=⟨_,Y2 (hy▸(Y0.1 p).1)⟩;exact ih2 i a b p hb
 | func0=>exact @VR.func0 jk0 _
 | iface t _ ih=>exact @VR.iface jk0 _ _ _ t ih
 | iface0=>exact @VR.iface0 jk0 _
 | agg hs _ ih =>
  refine @VR.agg jk0 _ _ _ rfl fun i a b p q=>?_;rw[p]at q;obtain rfl:=Y1 q;obtain⟨b,hb⟩:∃b,_=some b:=⟨_,Y2 (hs▸(Y0.1 p).1)⟩;exact ih i a b p hb
 | tuple hs _ ih =>
  refine @VR.tuple jk0 _ _ _ rfl fun i a b p q=>?_;rw[p]at q;obtain rfl:=Y1 q;obtain⟨b,hb⟩:∃b,_=some b:=⟨_,Y2 (hs▸(Y0.1 p).1)⟩;exact ih i a b p hb
 | junk _ _ _ _=>exact @VR.junk jk0 _ _ (.inr rfl) (by unfold J0;simp) ⟨by unfold J0;simp,by unfold J0;simp⟩ (by unfold J0;simp)
theorem Zhz(e:Ending)(u:World)(T:Nat→Question→Nat)(h:LawV PreL e (re u T)):LawV PreL e u:=by
 rcases h with h | ⟨t,xs,h0,h1,h2⟩
 ·exact .inl h
 ·exact .inr ⟨t,xs,h0,h1,Zid h2⟩
theorem ZeT:@Z0G (jkV TL) PP ((jkV TL).law lawF) (¬(jkV TL).gd lawF) false lB:=by
 have:=@Z1T (jkV TL) PP gJ true (fun f q=>q) (fun q=>by cases q) jmpB Zhw lB true true false cl0;have e1:(true=true)=((jkV TL).law lawF):=by
  show (true=true)=(lawF=lawF);simp
 have e2:(true=true)=(¬(jkV TL).gd lawF):=by
  show (true=true)=(¬gJ lawF=true);have:gJ lawF=false:=by decide
  simp[this]
 rw[←e1,←e2];exact this
theorem ZjH{a:Act}(ht:@VRs (jkV TL) (idS S) a.tmps a.tmps)(hd:a.defers=[]): @Stk (jkV TL) PP (Qy.F 0) (idS S) [lF.at a [.code lB]] [lF.at a [.code lB]]:=by
 have hown:(Qy.F 0)[(lawF:Nat)]?=PP.funcs[(lawF:Nat)]?:=lawQ.trans lawP.symm;letI:Jk:=jkV TL;obtain⟨tm,df⟩:=a;obtain rfl:df=[]:=hd;refine⟨.cons ?_ .nil,⟨.inl rfl,fun h=>absurd rfl h⟩,trivial⟩;refine @FrR.mk (jkV TL) PP (Qy.F 0) (idS S) _ _ ?c1 ?c2 ?c3 ?c4 ?c5 ?c6 ?c7 ?c8
 case c1=>exact(rfl:(lawF:Nat)=lawF)
 case c2=>exact hown
 case c3=>exact ht
 case c5=>exact⟨.nil,fun _=>rfl⟩
 case c6=>exact .run
 case c7=>exact⟨(rfl:CallKind.normal = .normal),.inl (rfl:CallKind.normal = .normal)⟩
 case c8=>exact .none
 case c4=>exact .cons (.code ZeT) .nil
theorem ZeU(h:@VRs (jkV TL) (idS S) xs xs): @VRs (jkV TL) (idS S) (lA xs).tmps (lA xs).tmps:=by
 letI:Jk:=jkV TL;unfold lA;dsimp only;exact Arr.append h (Arr.replicate _ .undef)
theorem law_run(W:World)(a0:Option Addr)(len0 cap0:Nat)(z0:List Int)(h:ZaF .i64 W a0 len0 cap0 z0)(hb:∀x,a0=some x→x.spot=none∧∃cs e fz,W.heap[x.block]?=some (.cells cs e fz)):
  Run PP (ZiS W) (solo (G (Frame.enter PP lawF #[.slice a0 len0 cap0] .normal) []) W) #[]:=by
 obtain⟨S,hS⟩:∃S:Nat→Prop,S=fun b=>∃x,a0=some x∧b=x.block:=⟨_,rfl⟩;have hpv:PV S (.slice a0 len0 cap0):=by
  cases a0 with
  | none=>trivial
  | some x=>show S x.block;rw[hS];exact⟨x,rfl,rfl⟩
 obtain⟨v,hsh,hwh,hshut⟩:=@Z2f (jkV TL) S W PP (Qy.F 0) trivial (fun c hc=>by
  rw[hS]at hc;obtain⟨x,e,rfl⟩:=hc;exact(hb x e).2)
 have hrow:∀T,ZaF .i64 (re v T) a0 len0 cap0 z0:=by
  intro T
  rcases h with h | ⟨x,rfl,h1,h2,h3,h4,h5⟩
  ·exact .inl h
  ·refine .inr ⟨x,rfl,h1,h2,h3,fun i hi=>?_,h5⟩
   obtain⟨bb,off,sp⟩:=x;obtain⟨rfl,_⟩:=hb _ rfl;have e:∀n,(⟨bb,off,none⟩:Addr).add n=⟨bb,off+n,none⟩:=fun n=>by
    unfold Addr.add
    split
    ·rename_i q;subst q;rfl
    ·rfl
   have h6:=h4 i hi;rw[e]at h6⊢;letI:Jk:=jkV TL;exact Z6B (S:=S) (w:=W) (w1:=W) (v2:=re v T) (fun _ _=>rfl) ⟨hsh.size,hsh.os,hsh.at_⟩ (b:=bb) (o:=off+i) (by rw[hS];exact⟨_,rfl,rfl⟩) h6 trivial
 have hvr:@VRs (jkV TL) (idS S) #[.slice a0 len0 cap0] #[.slice a0 len0 cap0]:=@Arr.one (jkV TL) _ _ (@VR (jkV TL) (idS S)) _ _ (@PV.vr (jkV TL) S _ hpv);have hvr0:@VRs jk0 (idS S) #[.slice a0 len0 cap0] #[.slice a0 len0 cap0]:=@Arr.one jk0 _ _ (@VR jk0 (idS S)) _ _ (@PV.vr jk0 S _ hpv);have hw0:@WH jk0 (@Iv jk0 (Qy.prog 0) (Qy.F 0)) (idS S) v v:=by
  refine @WH.mk jk0 _ _ _ _ (fun b c hbc=>?_) (ZcL S) rfl;obtain⟨hs,rfl⟩:=Z0F hbc;obtain⟨o,o',g1,g2,g3⟩:=@WH.on (jkV TL) _ _ _ _ hwh _ _ hbc;obtain⟨cs,e,g4⟩:=hshut _ _ hbc;rw[g1]at g4;obtain rfl:=Y1 g4;refine⟨_,_,g1,g1,?_⟩
  cases g3 with
  | cells q hf =>
   refine @OR.cells jk0 _ _ _ _ _ _ _ ⟨rfl,fun i x y p1 p2=>?_⟩ (.inr rfl);rw[p1]at p2;obtain rfl:=Y1 p2;obtain⟨z,hz⟩:∃z,_=some z:=⟨_,Y2 (q.1▸(Y0.1 p1).1)⟩;exact VR.dup (q.2 i x z p1 hz)
 have hE0:=@Z1U jk0 (Qy.prog 0) (Qy.F 0) (fun f=>gS f=true) (idS S) v v Z2V gokS recS lawF #[.slice a0 len0 cap0] #[.slice a0 len0 cap0] (by decide) hvr0 hw0 (LawV PreL) Zhz (fun u q=>by
   rcases q with q | ⟨_,_,_,q,_⟩<;>cases q) (fun T=>lawW a0 len0 cap0 z0 (re v T) (hrow T))
 have hfr0:=@Z0X jk0 (Qy.prog 0) (Qy.F 0) (fun f=>gS f=true) (idS S) Z2V lawF #[.slice a0 len0 cap0] #[.slice a0 len0 cap0] hvr0 (by decide) gokS .normal (.inl rfl);have hself:@Self jk0 (Qy.prog 0) (Qy.F 0) [Frame.enter (Qy.prog 0) lawF #[.slice a0 len0 cap0] .normal,poison] v:=by
  letI:Jk:=jk0;refine⟨_,[],idS S,rfl,Zhv S,⟨.cons hfr0 .nil,⟨.inl ?_,fun h=>absurd rfl h⟩,trivial⟩,⟨hw0.on,hw0.inj,fun _ _=>rfl,rfl⟩⟩;rw[Z3l lawQ]
  rfl
 rw[Z3l lawQ]at hself;have hE1:Ends (Qy.prog 0) (Done PP (Qy.F 0) lawF (LawV PreL)) [lF.at (lA #[.slice a0 len0 cap0]) [.code lB],poison] v:=by
  rw[←Z3l lawQ];exact hE0
 have hst:=ZjH (ZeU hvr) rfl;have hsure:=ZcY TL PreL tgtL (R:=LawV PreL) (fun t xs u q=>by
   rcases q with q | ⟨t',ys,h0,q,q2⟩
   ·cases q
   ·simp only[Ending.panicked.injEq,List.cons.injEq,and_true]at q
    obtain⟨rfl,rfl⟩:t=t'∧xs=ys:=by
     simp only[bunV]at q;simpa using q
    exact q2) (fun x u q=>by
   rcases q with q | ⟨_,_,_,q,_⟩
   ·exact Ending.returned.inj q
   ·cases q) (fun ch u q=>by
   rcases q with q | ⟨t,ys,h0,q,q2⟩
   ·cases q
   ·exact⟨t,ys,h0,Ending.panicked.inj q⟩) ZhA rfl hst hwh (fun a b q=>hshut a b q) hself hE1
 rw[Z3l lawP];have hp:Past (Dk fun _=>False) W.heap.size #[]:=by
  have e:(Dk fun _=>False)=fun _=>False:=by
   funext l
   simp[Dk]
  rw[e];exact past_nil.mono (Nat.zero_le _)
 exact hsure W ⟨rfl,rfl,rfl⟩ #[run1 _ []] none #[] (fun _=>0) rfl (leavers_one _ _) hp
end Lift
namespace dyePoured
open Go Go.ChangeShapes Go.WideShapes Go.ChangeAt Go.RowKit Go.Conc Go.ConcM
open Go.ChangeMaps (open_string shut_string)
theorem k1:(Rows.dyePouredRow.wf (OpenSpec.ofChange Rows.dyePouredSpec):Bool)=true:=by kernel_rfl
theorem k4:(Tryz.f5.params.all (Tryz.pinned.checked.prog.readableRec ·):Bool)=true:=by kernel_rfl
theorem k5:(namedTie Tryz.pinned.checked.prog Rows.dyePouredRow.named Rows.dyePouredSpec.vars:Bool)=true:=by kernel_rfl
theorem k6:((Rows.dyePouredRow.stops==[]):Bool)=true:=by kernel_rfl
theorem k8:((Rows.dyePouredRow.knobs==[]):Bool)=true:=by kernel_rfl
theorem k10:((Rows.dyePouredRow.inPlace==Tryz.pinned.checked.prog.inPlace 5):Bool)=true:=by kernel_rfl
theorem k11:((Rows.dyePouredRow.unfollowed==Tryz.pinned.checked.prog.unfollowed 5):Bool)=true:=by kernel_rfl
theorem k12:((Rows.dyePouredRow.recurses==Tryz.pinned.checked.prog.recurses 5):Bool)=true:=by kernel_rfl
theorem k13:((Rows.dyePouredRow.named==Tryz.pinned.checked.prog.varsNamed 5):Bool)=true:=by kernel_rfl
theorem k14:((Rows.dyePouredRow.maps==(Tryz.f5.params.toList++Rows.dyePouredSpec.plain.varTypes Tryz.pinned.checked.prog).any (Tryz.pinned.checked.prog.mapsRec ·)):Bool)=true:=by kernel_rfl
theorem k15:((Rows.dyePouredRow.ifaces==(Tryz.f5.params.toList++Rows.dyePouredSpec.plain.varTypes Tryz.pinned.checked.prog).any (Tryz.pinned.checked.prog.ifacesRec ·)):Bool)=true:=by kernel_rfl
theorem k16:((Rows.dyePouredRow.mapsOut==Tryz.pinned.checked.prog.mapsAmong Tryz.f5.resultTypes.toList):Bool)=true:=by kernel_rfl
theorem k17:((Rows.dyePouredRow.loops==(Tryz.f5.params.toList++Rows.dyePouredSpec.plain.varTypes Tryz.pinned.checked.prog).any (Tryz.pinned.checked.prog.loopsFrom ·)):Bool)=true:=by kernel_rfl
theorem k18:((Rows.dyePouredRow.wideKeys==(Tryz.f5.params.toList++Rows.dyePouredSpec.plain.varTypes Tryz.pinned.checked.prog++Tryz.f5.resultTypes.toList).any (Tryz.pinned.checked.prog.wideKeysFrom ·)):Bool)=true:=by kernel_rfl
theorem k19:(Rows.dyePouredSpec.vars.all (Tryz.pinned.checked.prog.varReadable ·):Bool)=true:=by kernel_rfl
theorem k20:(Tryz.f5.resultTypes.all (fun t=>Tryz.pinned.checked.prog.readableRec t&&decide (t<Tryz.pinned.checked.prog.types.size)):Bool)=true:=by kernel_rfl
theorem k21:((Rows.dyePouredRow.ifacesOut==Tryz.f5.resultTypes.toList.any (Tryz.pinned.checked.prog.ifacesRec ·)):Bool)=true:=by kernel_rfl
theorem k22:((Rows.dyePouredRow.loopsOut==Tryz.f5.resultTypes.toList.any (Tryz.pinned.checked.prog.loopsFrom ·)):Bool)=true:=by kernel_rfl
theorem k23:((Rows.dyePouredRow.plainKeys==Tryz.pinned.checked.prog.plainKeys):Bool)=true:=by kernel_rfl
theorem k24:(Rows.dyePouredRow.shortTexts.isNone:Bool)=true:=by kernel_rfl
theorem k27:((Rows.dyePouredRow.lifted==Tryz.pinned.checked.prog.liftsFinal):Bool)=true:=(congrArg (fun x=>(Rows.dyePouredRow.lifted==x)) liftsFinal).trans (by kernel_rfl)
theorem k28:((Tryz.pinned.checked.prog.make==some Rows.dyePouredRow.make):Bool)=true:=(congrArg (fun x=>(x==some Rows.dyePouredRow.make)) made).trans (by kernel_rfl)
theorem k29:((Rows.dyePouredRow.domain.isEmpty&&Rows.dyePouredRow.kinds==[]):Bool)=true:=by kernel_rfl
theorem k30:((Rows.dyePouredRow.pinned==Rows.dyePouredRow.pinnedBy):Bool)=true:=by kernel_rfl
theorem k31:((Rows.dyePouredRow.veiled==(Tryz.f5.params.toList++Rows.dyePouredSpec.plain.varTypes Tryz.pinned.checked.prog++Tryz.f5.resultTypes.toList).any (Tryz.pinned.checked.prog.veiledRec ·)):Bool)=true:=by kernel_rfl
theorem k32:(Rows.dyePouredRow.veiledFits Tryz.pinned.checked.prog Tryz.f5.params.toList (Tryz.f5.params.toList++Rows.dyePouredSpec.plain.varTypes Tryz.pinned.checked.prog++Tryz.f5.resultTypes.toList):Bool)=true:=by kernel_rfl
theorem closed:joinedFacts Tryz.pinned.checked.prog 5 Tryz.f5 Rows.dyePouredSpec Rows.dyePouredRow=true:=Z5B k1 ZcV ZhR k4 k5 k6 ZdV k8 ZcU k10 k11 k12 k13 k14 k15 k16 k17 k18 k19 k20 k21 k22 k23 k24 stopsHeard mayEnter k27 k28 k29 k30 k31 k32
theorem named:Tryz.pinned.checked.prog.funcNamed Rows.dyePouredRow.func=some 5:=by kernel_rfl
theorem inst:Tryz.f5.isInstance Tryz.pinned.checked.prog Rows.dyePouredRow.origin Rows.dyePouredRow.targs:=of_decide_eq_true (by kernel_rfl)
theorem wrap:Tryz.f5.isWrapper Tryz.pinned.checked.prog Rows.dyePouredRow.wrapper Rows.dyePouredRow.mainSum:=by unfold Func.isWrapper;first | (rw[if_pos (by decide +kernel)];kernel_rfl) | (rw[if_neg (by decide +kernel)];exact⟨rfl,rfl⟩)
theorem laidOut:laidOutB Tryz.prog=true:=ZcV
theorem noInit:Tryz.prog.inits.idxOf? 5=none:=by kernel_rfl
theorem sliceInt:Tryz.prog.cellsOf 3=1:=by kernel_rfl
theorem okWide_cells{r:Reach}{t: TypeId}{a:Option Addr}(ht:P.underlying t=some (.slice e))(h:Value.okWide P w r base t (.slice a n c)): ∀x,a=some x→x.spot=none∧∃cs e fz,w.heap[x.block]?=some (.cells cs e fz):=by
 rintro x rfl;simp only[Value.okWide,ht,Cell.okWide,Cell.ok]at h;obtain⟨_,_,_,h1,row,cells,h2,_⟩:=h;refine⟨h1,?_⟩;unfold World.shape? at h2
 cases hh:w.heap[x.block]? with
 | none=>rw[hh]at h2;cases h2
 | some o =>
  cases o with
  | cells cs e fz=>exact⟨cs,e,fz,rfl⟩
  | _=>rw[hh]at h2;cases h2
theorem lifted(os:Os)(started:os.Started)(H:Type)(enc:TypeId×Value→H)(F:Stop.Interp):
  ReturnsInLeavingWide Rows.dyePouredRow.assume Tryz.checked os 5 .any (Rows.dyePouredSpec.pre6 enc Tryz.prog Tryz.f5 Rows.dyePouredRow.domain false) ((OpenSpec.ofChange Rows.dyePouredSpec).postWith enc Tryz.prog Tryz.f5 F (outsideKept [.timePasses]) false true false):=by
 refine returnsInLeavingWide_of_change_time (C:=Tryz.checked) own started Tryz.func5
  (ChangeSpec.witness6c (enc:=enc) (C:=Tryz.checked) ⟨#[],#[.slice none 0 0],[]⟩ 8 (by as_aux_lemma=>kernel_rfl) (by as_aux_lemma=>kernel_rfl) (by as_aux_lemma=>kernel_rfl) (by as_aux_lemma=>kernel_rfl)) ?_
 intro W base args ds gs before hval0 hW _ _ _;have hval:∀(j:Nat) t v,Tryz.f5.params[j]?=some t→args[j]?=some v→Value.okWide Tryz.prog W .any base t v:=hval0;have hW':=hW;obtain⟨p,q,hA0,hV,rfl,hfz,hnd⟩:=hW;have hA:DataW.TrodAll enc Tryz.prog W 0 (fun _=>true) true Tryz.f5.params.toList args.toList ds p:=hA0;rw[Tryz.params5]at hA hval;obtain⟨v0,vs0,d0,ds0,p0,q0,hargs,rfl,rfl,h0,r0⟩:=trodAll_cons hA;obtain⟨rfl,rfl,rfl⟩:=trodAll_nil r0;obtain rfl:args=#[v0]:=by cases args;simp_all
 obtain⟨rfl,rfl⟩:=trodVars_none hV;have hok:=hval 0 22 v0 rfl rfl;obtain⟨a0,len0,cap0,rfl⟩:=okWide_slice Tryz.underlying22 hok;have hcl:=okWide_cells Tryz.underlying22 hok;have k0:=h0;have lt0:∀x∈p0,x.block<W.heap.size:=by obtain⟨m,hm⟩:=k0;exact DataW.trod_lt m _ _ _ hm
 obtain⟨z0,w0⟩:∃zs,ZaF .i64 W a0 len0 cap0 zs:=by
  obtain⟨fuel,hf⟩:=h0
  rcases open_ints Tryz.underlying22 Tryz.underlying3 sliceInt hf with⟨hcs,_⟩ | ⟨x,l,c,zs,hcs,_,hl,hm,hz,_,hcell,hwz⟩
  ·simp[Value.cells]at hcs
   obtain⟨rfl,rfl,rfl⟩:=hcs;exact⟨[],.inl ⟨rfl,rfl,rfl,rfl⟩⟩
  ·simp[Value.cells]at hcs
   obtain⟨rfl,rfl,rfl⟩:=hcs;exact⟨zs,.inr ⟨_,rfl,hl,hm,by simpa using hz,hcell,hwz⟩⟩
 clear hA0 hval0;obtain⟨M,last,o,w',t',r1,r2,r3,v,e,hp,g1,g2,g3,g4⟩:=Lift.law_run W a0 len0 cap0 z0 w0 hcl;refine⟨M,last,o,w',t',r1,r2,r3,v,e,⟨?_,hp.2.2.2.1⟩,g1,g2,g3,g4⟩;obtain⟨rfl,hold,hsz,_,hout⟩:=hp;have bel:Below W.heap.size W {w' with os:=W.os,tape:=W.tape}:=⟨rfl,rfl,hout,hsz,hold⟩;have hp2:Rows.dyePouredSpec.post enc Tryz.prog Tryz.f5 false true false false W #[.slice a0 len0 cap0] (.bool true) {w' with os:=W.os,tape:=W.tape}:=
  ⟨_,_,_,[],_,[],hW',trodAll_mk1 (shut_bool Tryz.underlying4 _),(trodAll_cons_mk (Below.trod laidOut (by as_aux_lemma=>kernel_rfl) (of_decide_eq_true (by as_aux_lemma=>kernel_rfl)) k0 bel lt0) trodAll_mk0),rfl,bel.frame _,fun h=>by cases h⟩
 obtain⟨ds,gs,before,pr,pa,pv,q1,q2,q3,q4,q5,_⟩:=hp2;exact⟨ds,gs,before,pr,pa,pv,q1,q2.of_heap (by rfl),q3.of_heap (by rfl),q4.of_heap (by rfl),q5,fun h=>by cases h⟩
theorem said:Rows.DyePouredSaid:=
 OpenClaim.holds_of_wide_leaving_time 5 Tryz.f5 rfl rfl rfl rfl rfl rfl rfl ⟨rfl,rfl,rfl,rfl,rfl⟩ rfl rfl rfl rfl rfl named Tryz.func5 closed
  inst wrap (fun os started H enc _ F=>lifted os started H enc F)
end dyePoured
section
variable{μ:Nat}
theorem dyePoured_said:Rows.DyePouredSaid:=dyePoured.said
end
end Go.Proofs.YtfelljbfeoplhaaGreat
