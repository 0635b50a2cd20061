/- Parts of a proof: Wf, Wg, Wh, Wi, Wj, Wk, Wl, Wm. No conditions. -/
import Derived.Conc.MuStep0
import Derived.Conc.Own2
import Derived.Conc.QuitsD
import Derived.Test.YtfelljbfeoplhaaGreatPal12
set_option linter.unusedVariables false
set_option linter.unusedSimpArgs false
set_option linter.unusedSectionVars false
set_option maxRecDepth 100000
set_option maxHeartbeats 4000000
variable {n:Nat} {l:List Nat} {ls:List (List Nat)} {cvs mks:List Go.Addr} {α:Type}
namespace Go.Proofs.YtfelljbfeoplhaaGreat.Lift
open Go Go.Conc Go.Proofs.YtfelljbfeoplhaaGreat.Ev
open Go.Proofs.YtfelljbfeoplhaaGreat.Mx (mvt isSp isR1 isS1 sm sms OUT)
open Go.ConcM (OsLater)
variable [Jk]
section
variable (N W I L B D c:Nat) (clo:Value)
theorem Zfb:edg xt (cI2 ⟨N,W,I,L,B,D,1,c,0,clo⟩) (qw 0) [3,11] [] = (true,cSt ⟨N,W,I,L,B,D,1,c,0,clo⟩,[],[]):=by kernel_rfl
theorem Zf3:edg xt (cI2 ⟨N,W,I,L,B,D,2,c,0,clo⟩) (qw 0) [3,11] [] = (true,cSt ⟨N,W,I,L,B,D,2,c,0,clo⟩,[],[]):=by kernel_rfl
theorem Zeb:edg xt (cI2 ⟨N,W,I,L,B,D,2,c,1,clo⟩) (qw 1) [3,11] [] = (true,cSt ⟨N,W,I,L,B,D,2,c,1,clo⟩,[],[]):=by kernel_rfl
theorem ZdY:edg xt (cI2 ⟨N,W,I,L,B,D,3,c,0,clo⟩) (qw 0) [3,11] [] = (true,cSt ⟨N,W,I,L,B,D,3,c,0,clo⟩,[],[]):=by kernel_rfl
theorem Zf1:edg xt (cI2 ⟨N,W,I,L,B,D,3,c,1,clo⟩) (qw 1) [3,11] [] = (true,cSt ⟨N,W,I,L,B,D,3,c,1,clo⟩,[],[]):=by kernel_rfl
theorem Ze3:edg xt (cI2 ⟨N,W,I,L,B,D,3,c,2,clo⟩) (qw 2) [3,11] [] = (true,cSt ⟨N,W,I,L,B,D,3,c,2,clo⟩,[],[]):=by kernel_rfl
end
theorem Z0i (X:Xt) (s:St) (v:Value) (l:List Nat) (ls:List (List Nat)):edg X s v l ls = edgN 200 X s v l ls:=rfl
theorem Zd {X:Xt} {s dst:St} {v:Value} (e:edg X s v l ls = (true,dst,cvs,mks)): (s.ans v).isSome = true:=by
 unfold edg at e;simp only [Prod.mk.injEq] at e;exact e.1
theorem Z3n {X:Xt} {s dst:St} {v:Value} (e:edgN n X s v l ls = (true,dst,cvs,mks)): (s.ans v).isSome = true:=by
 unfold edgN at e;simp only [Prod.mk.injEq] at e;exact e.1
theorem e_i2 (k:Wk) (h:k.lamp < k.n) (h3:k.n ≤ 3):edg xt (cI2 k) (qw k.lamp) [3,11] [] = (true,cSt k,[],[]):=by
 obtain ⟨N,W,I,L,B,D,n,c,l,clo⟩:=k;dsimp only at h h3;have:(l = 0 ∧ n = 1) ∨ (l = 0 ∧ n = 2) ∨ (l = 1 ∧ n = 2) ∨ (l = 0 ∧ n = 3) ∨ (l = 1 ∧ n = 3) ∨ (l = 2 ∧ n = 3):=by omega
 rcases this with ⟨rfl,rfl⟩ | ⟨rfl,rfl⟩ | ⟨rfl,rfl⟩ | ⟨rfl,rfl⟩ | ⟨rfl,rfl⟩ | ⟨rfl,rfl⟩
 ·exact Zfb ..
 ·exact Zf3 ..
 ·exact Zeb ..
 ·exact ZdY ..
 ·exact Zf1 ..
 ·exact Ze3 ..
section
variable {K:Cx} {k:Wk} {RO O:Nat → Prop} {tl cs:List Frame} {c it it' mu mu' dd ms x:Nat} {w w1:World} {s:Sh} {g:Goroutine} {m:Bool} {Stop:(Nat → Prop) → Nat → Goroutine → World → Prop} {d:Nat} {f:Frame} {fs:List Frame} {wst wst' z:Int} {q q' v:Value}
theorem Z0Y (hx:x < 42) (h:SOk (plc k x it' wst q).top (plc k x it' wst q).rest f fs):WT PP m K RO (Z0v k tl x it') O (plc k x it' wst q).deaf (run1 f (fs ++ tl)) w:=
 .stop fun _ _=>⟨Z4b k x it' wst q hx,f,fs,wst,q,h,rfl⟩
theorem WT.load {st:St} {T:TypeId} {p:Addr} (h:SOk st.top st.rest f fs) (he:st.lod = some (T,p)) (hq:(PP.funcs[st.top.fn]?).any (·.norace) = false) (hag:Z30 PP (isAgg T) = some false) (hc:∀ w1,Rely K O w w1 → w1.cell? p = some v) (ho:O p.block) (ha:(st.ans v).isSome = true)
  (n:SOk (st.an v).top (st.an v).rest (f.finish v) fs → ∀ w1,Rely K O w w1 → WT PP m K RO Stop O d (run1 (f.finish v) (fs ++ tl)) w1):WT PP m K RO Stop O d (run1 f (fs ++ tl)) w:=by
 refine WT.go rfl fun w1 hw=>?_;obtain ⟨e1,h1⟩:=Zga (P:=PP) (m:=m) (cs:=tl) h he hq (w:=w1) (Z1Z hag w1).1 (hc w1 hw) ha;refine ⟨_,w1,_,e1,⟨fun _ _ _=>rfl,fun _ _=>rfl,Nat.le_refl _,rfl,rfl,fun e hm=>?_⟩,?_⟩
 ·simp only [List.mem_toArray,List.mem_singleton] at hm
  subst hm;refine .inl ⟨p,false,rfl,.inl ho,?_,by simp⟩;have:=hc w1 hw;unfold World.cell? at this
  cases hb:w1.heap[p.block]? with
  | none=>rw [hb] at this;cases this
  | some o=>exact (Array.getElem?_eq_some_iff.1 hb).1
 ·rw [Z0A O w1 w1 rfl]
  exact n h1 w1 hw
theorem Z2V (hS:ShAt K w s) (r:Rely K O w w1):∃ s1,ShAt K w1 s1:=r.live ⟨s,hS⟩
theorem Ze5 (W:Wok K k) (hS:ShAt K w s) (hB:Bx k O w) (h:SOk (cIn k).top (cIn k).rest f fs):WT PP false K RO (Z0v k tl 32 0) O (cIn k).deaf (run1 f (fs ++ tl)) w:=by
 have d0:(cIn k).deaf = 0:=by kernel_rfl
 have d2:(cI2 k).deaf = 0:=by kernel_rfl
 have n1:(PP.funcs[(cIn k).top.fn]?).any (·.norace) = false:=by kernel_rfl
 have n2:(PP.funcs[(cI2 k).top.fn]?).any (·.norace) = false:=by kernel_rfl
 have l1:(cIn k).lod = some (151,⟨k.B,0,none⟩):=by kernel_rfl
 have l2:(cI2 k).lod = some (3,⟨k.L,0,none⟩):=by kernel_rfl
 have a1:Z30 PP (isAgg 151) = some false:=by kernel_rfl
 have a2:Z30 PP (isAgg 3) = some false:=by kernel_rfl
 rw [d0];refine WT.load h l1 n1 a1 (fun w1 hw=>?_) hB.ob (Zd (e_in k)) fun h1 w1 hw=>?_
 ·obtain ⟨T,fz,e⟩:=(hB.rely hw).found
  rw [ZM e];rfl
 obtain ⟨s1,hS1⟩:=Z2V hS hw;have hB1:=hB.rely hw;refine WT.edge xok ((Z0i ..).symm.trans (e_in k)) hS1 (by simp) (by simp) d0 h1 fun f2 fs2 h2=>?_;rw [d2];refine WT.load h2 l2 n2 a2 (fun w2 hw2=>?_) hB1.ol (Zd (e_i2 k W.lamp W.small)) fun h3 w2 hw2=>?_
 ·obtain ⟨T,fz,e⟩:=(hB1.rely hw2).lamp
  rw [ZM e];rfl
 obtain ⟨s2,hS2⟩:=Z2V hS1 hw2;exact WT.edge xok ((Z0i ..).symm.trans (e_i2 k W.lamp W.small)) hS2 (by simp) (by simp) d2 h3 fun f4 fs4 h4=>Z0Y (wst:=0) (q:=undef) (by decide) h4
theorem Zes (W:Wok K k) (hS:ShAt K w s) (h:SOk (cUl k).top (cUl k).rest f fs):WT PP false K RO (Z0v k tl 36 0) O (cUl k).deaf (run1 f (fs ++ tl)) w:=by
 have n1:(PP.funcs[(cUl k).top.fn]?).any (·.norace) = true:=by kernel_rfl
 have l1:(cUl k).lod = some (21,⟨k.N,0,none⟩):=by kernel_rfl
 have a1:Z30 PP (isAgg 21) = some false:=by kernel_rfl
 rw [W.N] at l1;refine WT.go rfl fun w1 hw=>?_;obtain ⟨s1,hS1⟩:=Z2V hS hw;obtain ⟨e1,h1⟩:=Zg3 (P:=PP) (m:=false) (cs:=tl) h l1 n1 (w:=w1) (Z1Z a1 w1).1 hS1.mu0 (Zd (e_ul k s1.mu));refine ⟨_,w1,_,e1,⟨fun _ _ _=>rfl,fun _ _=>rfl,Nat.le_refl _,rfl,rfl,by simp⟩,?_⟩;rw [Z0A O w1 w1 rfl];refine WT.edge xok ((Z0i ..).symm.trans (e_ul k s1.mu)) hS1 (by simp [W.N]) (by simp [W.N]) rfl h1 fun f2 fs2 h2=>Z0Y (wst:=0) (q:=undef) (by decide) h2
theorem Z2k (h1:isSp c = false) (h2:isR1 c = false):((isSp c = true ∧ isR1 x = true) ∨ (isR1 c = true ∧ isSp x = true)) → sm x it' < sm c it:=by
 rintro (⟨h,_⟩ | ⟨h,_⟩)
 ·rw [h1] at h;cases h
 ·rw [h2] at h;cases h
theorem Zcu (h0:isSp c = false) (h1:isR1 c = true) (h2:isSp x = true ∨ isSp x = false) (hi:it' = it):((isSp c = true ∧ isR1 x = true) ∨ (isR1 c = true ∧ isSp x = true)) → sm x it' < sm c it:=by
 rintro (⟨h,_⟩ | ⟨_,h⟩)
 ·rw [h0] at h;cases h
 ·unfold sm
  rw [h,h0,h1,hi];simp only [cond_true,cond_false];omega
theorem Zgc (h0:isSp c = true) (h1:isR1 c = false) (h2:isSp x = false) (hi:it' = it + 1) (h4:it < 5):((isSp c = true ∧ isR1 x = true) ∨ (isR1 c = true ∧ isSp x = true)) → sm x it' < sm c it:=by
 rintro (⟨_,h⟩ | ⟨h,_⟩)
 ·unfold sm
  rw [h,h0,h2,hi];simp only [cond_true,cond_false];omega
 ·rw [h1] at h;cases h
theorem ZjH (h1:isR1 c = false) (h2:isR1 x = false):((isSp c = true ∧ isR1 x = true) ∨ (isR1 c = true ∧ isSp x = true)) → sm x it' < sm c it:=by
 rintro (⟨_,h⟩ | ⟨h,_⟩)
 ·rw [h2] at h;cases h
 ·rw [h1] at h;cases h
noncomputable def Z2A (c mu x mu' dd:Nat):Bool:=match mvt c mu with
 | none=>false
 | some l=>l.any fun (a,b,e)=>Nat.beq a x && Nat.beq b mu' && Nat.beq e dd
theorem ZcJ (h:Z2A c mu x mu' dd = true):∃ l,mvt c mu = some l ∧ (x,mu',dd) ∈ l:=by
 unfold Z2A at h
 cases e:mvt c mu with
 | none=>rw [e] at h;cases h
 | some l =>
  rw [e] at h;obtain ⟨⟨a,b,e⟩,hm,h⟩:=List.any_eq_true.1 h;simp only [Bool.and_eq_true,Nat.beq_eq] at h;obtain ⟨⟨rfl,rfl⟩,rfl⟩:=h;exact ⟨l,rfl,hm⟩
theorem Z89 {X:Xt} {dst:St} (hX:XOk PP X) (e:edgN n X (plc k c it wst q) v l ls = (true,dst,cvs,mks)) (W:Wok K k) (hc:c < 42) (hcv:∀ p ∈ cvs,p = ⟨k.N,0,none⟩ ∨ p = ⟨k.W,0,none⟩) (hmk:∀ p ∈ mks,p = ⟨k.N,0,none⟩) (hm:Z2A c mu x mu' dd = true) (hi:itOk x it') (hs:((isSp c = true ∧ isR1 x = true) ∨ (isR1 c = true ∧ isSp x = true)) → sm x it' < sm c it) (go:∀ {f fs w s},ShAt K w s → Bx k O w → SOk dst.top dst.rest f fs → WT PP false K RO (Z0v k tl x it') O dst.deaf (run1 f (fs ++ tl)) w): Lead K k RO O tl c it mu wst q v mu' dd:=
 ⟨x,it',ZcJ hm,hi,hs,Z3n e,fun {f fs w s} hS hB h=>WT.edge hX e hS (by rw [← W.N,← W.W];exact hcv) (fun p hp=>by rw [hmk p hp];exact W.N) (Z4b k c it wst q hc) h fun f' fs' h'=>go hS hB h'⟩
theorem Zh1 {X:Xt} (hX:XOk PP X) (e:edgN n X (plc k c it wst q) v l ls = (true,plc k x it' wst' q',cvs,mks)) (W:Wok K k) (hc:c < 42) (hx:x < 42) (hcv:∀ p ∈ cvs,p = ⟨k.N,0,none⟩ ∨ p = ⟨k.W,0,none⟩) (hmk:∀ p ∈ mks,p = ⟨k.N,0,none⟩) (hm:Z2A c mu x mu' dd = true) (hi:itOk x it') (hs:((isSp c = true ∧ isR1 x = true) ∨ (isR1 c = true ∧ isSp x = true)) → sm x it' < sm c it): Lead K k RO O tl c it mu wst q v mu' dd:=
 Z89 hX e W hc hcv hmk hm hi hs fun hS hB h=>Z0Y hx h
theorem ZgL (H:Prem K k O c it s mu ms w) (h:SOk (plc k c it wst q).top (plc k c it wst q).rest f fs) (hs1:isS1 c = true) (hx:∃ vs,(plc k c it wst q).ext PP = some (164,pa k.N 1 :: vs)) (hn:mvt c mu = some []):Z18 K k RO O tl c it s mu ms (run1 f (fs ++ tl)) w:=by
 obtain ⟨vs,hx⟩:=hx;rw [H.ok.N] at hx;exact .inl ⟨hs1,H.s1 hs1 hn,Z8V h hx ZbK (by rw [H.sh.mu1,H.vms,H.s1 hs1 hn];rfl)⟩
theorem Z8t {X:Xt} {st dst:St} (hX:XOk PP X) (e:((pn PP X n st).cut l ls,(pn PP X n st).cvs,(pn PP X n st).mks) = (dst,[],[])) (h:SOk st.top st.rest f fs) (k:∀ f' fs',SOk dst.top dst.rest f' fs' → WT PP m K RO Stop O dst.deaf (run1 f' (fs' ++ cs)) w): WT PP m K RO Stop O st.deaf (run1 f (fs ++ cs)) w:=by
 simp only [Prod.mk.injEq] at e;obtain ⟨rfl,e2,e3⟩:=e;refine WT.pn hX n st h h.1.round (by rw [e2];simp) (by rw [e3];simp) fun f' fs' h'=>?_;have:=k f' fs' (Z2E h' l ls);rw [Z1P] at this;exact this
theorem Zid {x1 x2:Nat} {sv:Bool} (W:Wok K k) (hc:c < 42) (e:edgN n xt (plc k c it wst q) (.bool true) [0,2,3,8,87] [[],[],[2,3,4]] = (true,cQ k sv wst (.bool (!decide (wst = 0))) (decide (wst = 0)),[],[])) (hx1:x1 < 42) (hx2:x2 < 42) (h1:∀ q,plc k x1 0 wst q = cT1 k sv q) (h2:∀ q,plc k x2 0 wst q = cS1 k sv wst q) (m1:Z2A c mu x1 mu' 1 = true) (m2:Z2A c mu x2 mu' 1 = true) (i1:itOk x1 0) (i2:itOk x2 0) (s1:((isSp c = true ∧ isR1 x1 = true) ∨ (isR1 c = true ∧ isSp x1 = true)) → sm x1 0 < sm c it) (s2:((isSp c = true ∧ isR1 x2 = true) ∨ (isR1 c = true ∧ isSp x2 = true)) → sm x2 0 < sm c it): Lead K k RO O tl c it mu wst q (.bool true) mu' 1:=by
 generalize hb:decide (wst = 0) = b at e
 cases b
 ·refine ⟨x2,0,ZcJ m2,i2,s2,Z3n e,fun {f fs w s} hS hB h=>WT.edge xok e hS (by simp) (by simp) (Z4b k c it wst q hc) h fun f' fs' h'=>Z8t xok (Zdb k sv wst _) h' fun f2 fs2 h3=>?_⟩
  rw [← h2] at h3 ⊢;exact Z0Y hx2 h3
 ·refine ⟨x1,0,ZcJ m1,i1,s1,Z3n e,fun {f fs w s} hS hB h=>WT.edge xok e hS (by simp) (by simp) (Z4b k c it wst q hc) h fun f' fs' h'=>Z8t xok (Zf7 k sv wst _) h' fun f2 fs2 h3=>?_⟩
  rw [← h1] at h3 ⊢;exact Z0Y hx1 h3
theorem ZgG (h:it ≤ 4):IntKind.i64.wrap ((it:Int) + 1) = ((it + 1:Nat):Int):=by
 have:it = 0 ∨ it = 1 ∨ it = 2 ∨ it = 3 ∨ it = 4:=by omega
 rcases this with rfl | rfl | rfl | rfl | rfl <;> rfl
theorem ZhM:∀ p ∈ ([]:List Addr),p = ⟨k.N,0,none⟩ ∨ p = ⟨k.W,0,none⟩:=by simp
theorem Z9P:∀ p ∈ ([]:List Addr),p = ⟨k.N,0,none⟩:=by simp
theorem Zkb:∀ p ∈ [(⟨k.N,0,none⟩:Addr)],p = ⟨k.N,0,none⟩ ∨ p = ⟨k.W,0,none⟩:=by simp
theorem Ziw:∀ p ∈ [(⟨k.N,0,none⟩:Addr)],p = ⟨k.N,0,none⟩:=by simp
theorem ZcI (h:x ≠ 1):itOk x 0:=⟨by omega,fun e=>absurd e h⟩
theorem ZjK (hi:it ≤ 4) (h:x ≠ 1):itOk x it:=⟨hi,fun e=>absurd e h⟩
def clc (x:Nat):List Nat:=bif Nat.ble x 0 then [0,128,129] else bif Nat.ble x 1 then [0,2,3,4,5,33,36,37,39] else bif Nat.ble x 13 then [0,2,3,4,5,6,77,78,79] else bif Nat.ble x 15 then [0,1,12] else bif Nat.ble x 16 then [0,2,3,4,5,12] else bif Nat.ble x 19 then [0,2,3,4,5,47] else bif Nat.ble x 21 then [0,2,3,103] else bif Nat.ble x 24 then [0,2,3,4,5,133] else bif Nat.ble x 26 then [0,2,3,91,92] else bif Nat.ble x 31 then [0,2,3,4,5,6,17,18] else bif Nat.ble x 35 then [0,2,95] else bif Nat.ble x 38 then [0,27,28,29] else bif Nat.ble x 39 then [0,37] else bif Nat.ble x 40 then [33] else [41]
def cls (x:Nat):List (List Nat):=bif Nat.beq x 15 then [[],[]] else bif Nat.ble x 35 then [[],[],[2,3,4]] else [[],[],[]]
def ccv (k:Wk) (x:Nat):List Addr:=bif Nat.beq x 15 then [⟨k.W,0,none⟩] else []
noncomputable def cXt (x:Nat):Xt:=bif Nat.beq x 15 then xtQ else xt
theorem cXok (x:Nat):XOk PP (cXt x):=by unfold cXt;cases Nat.beq x 15;exact xok;exact xokQ
theorem Zi8:∀ p ∈ ccv k x,p = ⟨k.N,0,none⟩ ∨ p = ⟨k.W,0,none⟩:=by unfold ccv;cases Nat.beq x 15 <;> simp
theorem i0 (h:x ≠ 1:=by decide):itOk x 0:=ZcI h
theorem i1 (H:Prem K k O c it s mu ms w) (h:x ≠ 1:=by decide):itOk x it:=ZjK H.it.1 h
theorem lTi (H:Prem K k O c it s mu ms w) (hi:itOk x it') (hz:z = (it':Int)) (e:edg (cXt x) (plc k c it wst q) v (clc x) (cls x) = (true,plcI k x z wst' q,ccv k x,[])) (hc:c < 42) (hx:x < 42)
  (hm:Z2A c mu x mu' dd = true) (hs:((isSp c = true ∧ isR1 x = true) ∨ (isR1 c = true ∧ isSp x = true)) → sm x it' < sm c it):Lead K k RO O tl c it mu wst q v mu' dd:=by
 subst hz;exact Zh1 (cXok x) e H.ok hc hx Zi8 Z9P hm hi hs
theorem l0 (H:Prem K k O c it s mu ms w) (x:Nat) (wst':Int:=wst) (e:edg (cXt x) (plc k c it wst q) v (clc x) (cls x) = (true,plcI k x (0:Nat) wst' q,ccv k x,[]):=by kernel_rfl) (hi:itOk x 0:=by exact i0) (hc:c < 42:=by decide) (hx:x < 42:=by decide)
  (hm:Z2A c mu x mu' dd = true:=by kernel_rfl) (hs:((isSp c = true ∧ isR1 x = true) ∨ (isR1 c = true ∧ isSp x = true)) → sm x 0 < sm c it:=by exact Z2k rfl rfl):Lead K k RO O tl c it mu wst q v mu' dd:=lTi H hi rfl e hc hx hm hs
theorem l1 (H:Prem K k O c it s mu ms w) (x:Nat) (hi:itOk x it:=by exact i1 H) (e:edg (cXt x) (plc k c it wst q) v (clc x) (cls x) = (true,plcI k x it wst q,ccv k x,[]):=by kernel_rfl) (hc:c < 42:=by decide) (hx:x < 42:=by decide)
  (hm:Z2A c mu x mu' dd = true:=by kernel_rfl) (hs:((isSp c = true ∧ isR1 x = true) ∨ (isR1 c = true ∧ isSp x = true)) → sm x it < sm c it:=by first | exact Z2k rfl rfl | exact ZjH rfl rfl | exact Zcu rfl rfl (.inl rfl) rfl | exact Zcu rfl rfl (.inr rfl) rfl):Lead K k RO O tl c it mu wst q v mu' dd:=lTi H hi rfl e hc hx hm hs
theorem l2 (H:Prem K k O c it s mu ms w) (h4:it < 4) (x:Nat) (e:edg (cXt x) (plc k c it wst q) v (clc x) (cls x) = (true,plcI k x (IntKind.i64.wrap ((it:Int) + 1)) wst q,ccv k x,[]):=by kernel_rfl) (hc:c < 42:=by decide) (hx:x < 42:=by decide)
  (hm:Z2A c mu x mu' dd = true:=by kernel_rfl) (hn:x ≠ 1:=by decide) (hs:((isSp c = true ∧ isR1 x = true) ∨ (isR1 c = true ∧ isSp x = true)) → sm x (it + 1) < sm c it:=by first | exact Z2k rfl rfl | exact Zgc rfl rfl rfl rfl (Nat.lt_succ_of_lt ‹_›)):Lead K k RO O tl c it mu wst q v mu' dd:=lTi H (ZjK h4 hn) (ZgG H.it.1) e hc hx hm hs
theorem lG (H:Prem K k O c it s mu ms w) (e:edg xt (plc k c it wst q) v [2,3,4] [] = (true,cIn k,[⟨k.N,0,none⟩],[⟨k.N,0,none⟩]):=by kernel_rfl) (hc:c < 42:=by decide) (hm:Z2A c mu 32 mu' dd = true:=by kernel_rfl):Lead K k RO O tl c it mu wst q v mu' dd:=
 Z89 xok e H.ok hc Zkb Ziw hm (ZcI (by decide)) (fun h=>absurd h (by rintro (⟨_,h⟩ | ⟨_,h⟩) <;> cases h)) fun hS hB h=>Ze5 H.ok hS hB h
theorem lQ (H:Prem K k O c it s mu ms w) (x1 x2:Nat) (e:edgN 23 xt (plc k c it wst q) (.bool true) [0,2,3,8,87] [[],[],[2,3,4]] = (true,cQ k (Nat.beq x1 34) wst (.bool (!decide (wst = 0))) (decide (wst = 0)),[],[]):=by kernel_rfl) (hc:c < 42:=by decide) (h1:x1 < 42:=by decide) (h2:x2 < 42:=by decide)
  (t1:∀ q,plc k x1 0 wst q = cT1 k (Nat.beq x1 34) q:=by exact fun _=>rfl) (t2:∀ q,plc k x2 0 wst q = cS1 k (Nat.beq x1 34) wst q:=by exact fun _=>rfl) (m1:Z2A c mu x1 mu' 1 = true:=by kernel_rfl) (m2:Z2A c mu x2 mu' 1 = true:=by kernel_rfl) (n1:x1 ≠ 1:=by decide) (n2:x2 ≠ 1:=by decide)
  (r:isSp c = false:=by rfl) (r1:isR1 c = false:=by rfl):Lead K k RO O tl c it mu wst q (.bool true) mu' 1:=Zid H.ok hc e h1 h2 t1 t2 m1 m2 (ZcI n1) (ZcI n2) (Z2k r r1) (Z2k r r1)
theorem lW (H:Prem K k O c it s mu ms w) (e:edg xt (plc k c it wst q) (qw z) [0,2,3,103] [[],[],[2,3,4]] = (true,cR2 k (decide (1000000 < IntKind.i64.wrap (z - wst))) wst,[],[]):=by kernel_rfl) (hc:c < 42:=by decide) (m1:Z2A c mu 20 mu' dd = true:=by kernel_rfl) (m2:Z2A c mu 21 mu' dd = true:=by kernel_rfl)
  (r:isSp c = false:=by rfl) (r1:isR1 c = false:=by rfl):Lead K k RO O tl c it mu wst q (qw z) mu' dd:=by
 cases hz:decide (1000000 < IntKind.i64.wrap (z - wst)) <;> rw [hz] at e
 ·exact lTi (x:=20) H i0 rfl e hc (by decide) m1 (Z2k r r1)
 ·exact lTi (x:=21) H i0 rfl e hc (by decide) m2 (Z2k r r1)
def cas (c:Nat):Nat × Nat:=bif Nat.ble c 14 then [(0,0),(9,11),(0,1),(1,9),(2,1),(2,1),(2,3),(3,9),(3,13),(8,9),(9,17),(10,9),(10,9),(11,17),(0,1)].getD c (0,0) else bif Nat.beq c 37 then (8,2) else (16,10)
def adz (c:Nat):Int:=bif Nat.beq c 0 then -11 else -1
section
variable (H:Prem K k O c it s mu ms w) (h:SOk (plc k c it wst q).top (plc k c it wst q).rest f fs)
include H h
theorem mH (A:Off3 K k) (n:Lead K k RO O tl c it mu wst q (.bool true) (cas c).2 1) (hx:(plc k c it wst q).ext PP = some (154,[pa k.N 0,iw ((cas c).1:Nat),iw ((cas c).2:Nat)]):=by kernel_rfl) (hc:c ≠ 32:=by decide) (hd:dpc c = 1:=by rfl) (he:(mu:Int) = (cas c).1:=by rfl):Z18 K k RO O tl c it s mu ms (run1 f (fs ++ tl)) w:=
 ZfR H h A hc hd hx (fun _=>⟨_,rfl,n⟩) fun e=>absurd he e
theorem mM (A:Off3 K k) (n:Lead K k RO O tl c it mu wst q (.bool false) mu 1) (hx:(plc k c it wst q).ext PP = some (154,[pa k.N 0,iw ((cas c).1:Nat),iw ((cas c).2:Nat)]):=by kernel_rfl) (hc:c ≠ 32:=by decide) (hd:dpc c = 1:=by rfl) (he:Nat.beq mu (cas c).1 = false:=by rfl):Z18 K k RO O tl c it s mu ms (run1 f (fs ++ tl)) w:=
 ZfR H h A hc hd hx (fun e=>absurd (Int.ofNat.inj e) (Nat.ne_of_beq_eq_false he)) fun _=>n
theorem mL (n:Lead K k RO O tl c it mu wst q (iw mu) mu 1) (hx:(plc k c it wst q).lod = some (21,⟨k.N,0,none⟩):=by kernel_rfl) (hq:(PP.funcs[(plc k c it wst q).top.fn]?).any (·.norace) = true:=by kernel_rfl) (hc:c ≠ 32:=by decide):Z18 K k RO O tl c it s mu ms (run1 f (fs ++ tl)) w:=
 ZiJ H h hc hx hq (by kernel_rfl) n
theorem mP (n:Lead K k RO O tl c it mu wst q (.bool false) mu 1) (y:it < 4 → Lead K k RO O tl c it mu wst q (.bool true) mu 1) (hx:(plc k c it wst q).ext PP = some (160,[qw it]):=by kernel_rfl) (hc:c ≠ 32:=by decide):Z18 K k RO O tl c it s mu ms (run1 f (fs ++ tl)) w:=ZgM H h hc hx n y
theorem mT (n:∀ z:Int,Lead K k RO O tl c it mu wst q (qw z) mu 1) (hx:(plc k c it wst q).ext PP = some (163,[]):=by kernel_rfl) (hc:c ≠ 32:=by decide):Z18 K k RO O tl c it s mu ms (run1 f (fs ++ tl)) w:=Zje H h hc hx n
theorem mA (A:Off3 K k) (mu':Nat) (n:Lead K k RO O tl c it mu wst q (iw mu') mu' 1) (hx:(plc k c it wst q).ext PP = some (156,[pa k.N 0,iw (adz c)]):=by kernel_rfl) (hc:c ≠ 32:=by decide) (hd:dpc c = 1:=by rfl) (hz:IntKind.i32.wrap ((mu:Int) + adz c) = (mu':Int):=by rfl):Z18 K k RO O tl c it s mu ms (run1 f (fs ++ tl)) w:=Zi4 H h A hc hd hx hz n
theorem mS (A:Off3 K k) (n:Lead K k RO O tl c it mu wst q (.tuple #[]) mu 0) (hx:(plc k c it wst q).ext PP = some (164,[pa k.N 1,q,qw 2]):=by kernel_rfl) (hc:c ≠ 32:=by decide) (hs:isS1 c = true:=by rfl):Z18 K k RO O tl c it s mu ms (run1 f (fs ++ tl)) w:=Zic H h A hc hs hx n
theorem mN (hx:(plc k c it wst q).ext PP = some (164,[pa k.N 1,q,qw 2]):=by kernel_rfl) (hs:isS1 c = true:=by rfl) (hn:mvt c mu = some []:=by kernel_rfl):Z18 K k RO O tl c it s mu ms (run1 f (fs ++ tl)) w:=ZgL H h hs ⟨_,hx⟩ hn
theorem mR (A:Off3 K k) (b:Bool) (n:Lead K k RO O tl c it mu wst q (.tuple #[]) mu 2) (hx:(plc k c it wst q).ext PP = some (166,[pa k.N 1,.bool b,qw 2]):=by kernel_rfl) (hc:c ≠ 32:=by decide):Z18 K k RO O tl c it s mu ms (run1 f (fs ++ tl)) w:=Zj9 H h A hc hx n
end
theorem mW (H:Prem K k O 32 it s mu ms w) (h:SOk (plc k 32 it wst q).top (plc k 32 it wst q).rest f fs) (A:Off3 K k) (hm:Z2A 32 mu 36 mu 1 = true:=by kernel_rfl):Z18 K k RO O tl 32 it s mu ms (run1 f (fs ++ tl)) w:=
 ZiR H h A rfl (T:=4) (by kernel_rfl) (by kernel_rfl) (by kernel_rfl) (Z89 (x:=36) (it':=0) (dst:=cUl k) xok (e_st k) H.ok (by decide) ZhM Z9P hm i0 (Z2k rfl rfl) (fun hS hB h=>Zes H.ok hS h))
def prs:List (Nat × Nat):=[(0,12),(1,0),(1,1),(1,2),(1,8),(1,9),(2,0),(2,1),(3,0),(3,1),(3,2),(3,8),(3,9),(4,2),(4,3),(5,2),(5,3),(6,0),(6,1),(6,2),(7,2),(7,3),(8,2),(8,3),(9,0),(9,1),(9,2),(9,8),(10,0),(10,1),(10,2),(10,8),(10,9),(11,10),(12,10),(13,10),(13,11),(14,0),(14,1),(14,2),(14,8),(14,9),(16,0),(16,1),(16,2),(16,8),(16,9),(17,0),(17,1),(17,2),(17,8),(17,9),(18,2),(18,3),(18,10),(18,11),(19,2),(19,3),(20,2),(20,3),(20,10),(21,2),(21,3),(21,10),(21,12),(22,0),(22,1),(22,2),(22,8),(22,9),(23,2),(23,3),(23,10),(24,2),(24,3),(25,2),(25,3),(25,8),(25,9),(25,10),(25,11),(25,16),(25,17),(26,12),(26,13),(27,0),(27,1),(27,2),(27,8),(27,9),(28,2),(28,3),(29,2),(29,3),(30,0),(30,1),(30,2),(30,8),(30,9),(31,10),(31,11),(32,1),(32,3),(32,9),(32,11),(32,13),(32,17),(33,2),(33,3),(33,8),(33,9),(33,10),(33,11),(33,16),(33,17),(34,12),(34,13),(35,2),(35,3),(35,10),(36,1),(36,3),(36,9),(36,11),(36,13),(36,17),(37,0),(37,1),(37,2),(37,8),(37,9),(38,16),(39,0),(39,1),(39,2),(39,8),(39,9),(40,2),(40,3),(40,10),(41,12)]
theorem moves (hp:(c,mu) ∈ prs) (H:Prem K k O c it s mu ms w) (A:Off3 K k) (hat:Z0v k tl c it O d g w):Z18 K k RO O tl c it s mu ms g w:=by
 obtain ⟨_,f,fs,wst,q,h,rfl⟩:=hat
 simp only [prs,List.mem_cons,Prod.mk.injEq,List.not_mem_nil,or_false] at hp
 rcases hp with ⟨rfl,rfl⟩ | ⟨rfl,rfl⟩ | ⟨rfl,rfl⟩ | ⟨rfl,rfl⟩ | ⟨rfl,rfl⟩ | ⟨rfl,rfl⟩ | ⟨rfl,rfl⟩ | ⟨rfl,rfl⟩ | ⟨rfl,rfl⟩ | ⟨rfl,rfl⟩ | ⟨rfl,rfl⟩ | ⟨rfl,rfl⟩ | ⟨rfl,rfl⟩ | ⟨rfl,rfl⟩ | ⟨rfl,rfl⟩ | ⟨rfl,rfl⟩ | ⟨rfl,rfl⟩ | ⟨rfl,rfl⟩ | ⟨rfl,rfl⟩ | ⟨rfl,rfl⟩ | ⟨rfl,rfl⟩ | ⟨rfl,rfl⟩ | ⟨rfl,rfl⟩ | ⟨rfl,rfl⟩ | ⟨rfl,rfl⟩ | ⟨rfl,rfl⟩ | ⟨rfl,rfl⟩ | ⟨rfl,rfl⟩ | ⟨rfl,rfl⟩ | ⟨rfl,rfl⟩ | ⟨rfl,rfl⟩ | ⟨rfl,rfl⟩ | ⟨rfl,rfl⟩ | ⟨rfl,rfl⟩ | ⟨rfl,rfl⟩ | ⟨rfl,rfl⟩ | ⟨rfl,rfl⟩ | ⟨rfl,rfl⟩ | ⟨rfl,rfl⟩ | ⟨rfl,rfl⟩ | ⟨rfl,rfl⟩ | ⟨rfl,rfl⟩ | ⟨rfl,rfl⟩ | ⟨rfl,rfl⟩ | ⟨rfl,rfl⟩ | ⟨rfl,rfl⟩ | ⟨rfl,rfl⟩ | ⟨rfl,rfl⟩ | ⟨rfl,rfl⟩ | ⟨rfl,rfl⟩ | ⟨rfl,rfl⟩ | ⟨rfl,rfl⟩ | ⟨rfl,rfl⟩ | ⟨rfl,rfl⟩ | ⟨rfl,rfl⟩ | ⟨rfl,rfl⟩ | ⟨rfl,rfl⟩ | ⟨rfl,rfl⟩ | ⟨rfl,rfl⟩ | ⟨rfl,rfl⟩ | ⟨rfl,rfl⟩ | ⟨rfl,rfl⟩ | ⟨rfl,rfl⟩ | ⟨rfl,rfl⟩ | ⟨rfl,rfl⟩ | ⟨rfl,rfl⟩ | ⟨rfl,rfl⟩ | ⟨rfl,rfl⟩ | ⟨rfl,rfl⟩ | ⟨rfl,rfl⟩ | ⟨rfl,rfl⟩ | ⟨rfl,rfl⟩ | ⟨rfl,rfl⟩ | ⟨rfl,rfl⟩ | ⟨rfl,rfl⟩ | ⟨rfl,rfl⟩ | ⟨rfl,rfl⟩ | ⟨rfl,rfl⟩ | ⟨rfl,rfl⟩ | ⟨rfl,rfl⟩ | ⟨rfl,rfl⟩ | ⟨rfl,rfl⟩ | ⟨rfl,rfl⟩ | ⟨rfl,rfl⟩ | ⟨rfl,rfl⟩ | ⟨rfl,rfl⟩ | ⟨rfl,rfl⟩ | ⟨rfl,rfl⟩ | ⟨rfl,rfl⟩ | ⟨rfl,rfl⟩ | ⟨rfl,rfl⟩ | ⟨rfl,rfl⟩ | ⟨rfl,rfl⟩ | ⟨rfl,rfl⟩ | ⟨rfl,rfl⟩ | ⟨rfl,rfl⟩ | ⟨rfl,rfl⟩ | ⟨rfl,rfl⟩ | ⟨rfl,rfl⟩ | ⟨rfl,rfl⟩ | ⟨rfl,rfl⟩ | ⟨rfl,rfl⟩ | ⟨rfl,rfl⟩ | ⟨rfl,rfl⟩ | ⟨rfl,rfl⟩ | ⟨rfl,rfl⟩ | ⟨rfl,rfl⟩ | ⟨rfl,rfl⟩ | ⟨rfl,rfl⟩ | ⟨rfl,rfl⟩ | ⟨rfl,rfl⟩ | ⟨rfl,rfl⟩ | ⟨rfl,rfl⟩ | ⟨rfl,rfl⟩ | ⟨rfl,rfl⟩ | ⟨rfl,rfl⟩ | ⟨rfl,rfl⟩ | ⟨rfl,rfl⟩ | ⟨rfl,rfl⟩ | ⟨rfl,rfl⟩ | ⟨rfl,rfl⟩ | ⟨rfl,rfl⟩ | ⟨rfl,rfl⟩ | ⟨rfl,rfl⟩ | ⟨rfl,rfl⟩ | ⟨rfl,rfl⟩ | ⟨rfl,rfl⟩ | ⟨rfl,rfl⟩ | ⟨rfl,rfl⟩ | ⟨rfl,rfl⟩ | ⟨rfl,rfl⟩ | ⟨rfl,rfl⟩ | ⟨rfl,rfl⟩ | ⟨rfl,rfl⟩ | ⟨rfl,rfl⟩ | ⟨rfl,rfl⟩ | ⟨rfl,rfl⟩ | ⟨rfl,rfl⟩ | ⟨rfl,rfl⟩ | ⟨rfl,rfl⟩ | ⟨rfl,rfl⟩
 exact mA H h A 1 (lG H)
 iterate 4 exact mM H h A (l2 H (H.it.2 rfl) 17)
 exact mH H h A (l2 H (H.it.2 rfl) 18);exact mH H h A (lG H)
 iterate 2 exact mM H h A (l1 H 22)
 exact mH H h A (lQ H 33 25)
 iterate 3 exact mM H h A (l1 H 22)
 exact mH H h A (lG H);exact mM H h A (l1 H 23);exact mH H h A (lG H);exact mM H h A (l1 H 24)
 iterate 2 exact mM H h A (l1 H 22)
 exact mH H h A (lG H);exact mM H h A (l1 H 23);exact mH H h A (lQ H 33 25);exact mM H h A (l1 H 24);exact mH H h A (lQ H 34 26)
 iterate 3 exact mM H h A (l1 H 22)
 exact mH H h A (lG H)
 iterate 4 exact mM H h A (l1 H 22)
 exact mH H h A (lQ H 33 25)
 iterate 2 exact mH H h A (lG H)
 exact mM H h A (l1 H 23);exact mH H h A (lQ H 33 25);exact mH H h A (lG H)
 iterate 4 exact mM H h A (l0 H 16)
 exact mL H h (l0 H 2 0);exact mL H h (l0 H 27 0);exact mL H h (l0 H 6 0);exact mL H h (l0 H 9 0);exact mL H h (l0 H 30 0);exact mL H h (l1 H 2);exact mL H h (l1 H 27);exact mL H h (l1 H 6);exact mL H h (l1 H 9);exact mL H h (l1 H 30);exact mL H h (l1 H 4);exact mL H h (l1 H 28);exact mL H h (l1 H 11);exact mL H h (l1 H 31);exact mL H h (l1 H 5);exact mL H h (l1 H 29);exact mL H h (l0 H 4);exact mL H h (l0 H 28);exact mL H h (l0 H 11);exact mL H h (l0 H 5);exact mL H h (l0 H 29);exact mL H h (l0 H 12);exact mL H h (l0 H 0);exact mL H h (l1 H 2);exact mL H h (l1 H 27);exact mL H h (l1 H 6);exact mL H h (l1 H 9);exact mL H h (l1 H 30);exact mL H h (l1 H 4);exact mL H h (l1 H 28);exact mL H h (l1 H 11);exact mL H h (l1 H 5);exact mL H h (l1 H 29)
 iterate 2 exact mS H h A (l0 H 35)
 iterate 2 exact mN H h
 exact mS H h A (l0 H 35)
 iterate 3 exact mN H h
 exact mS H h A (l0 H 21);exact mN H h
 iterate 5 exact mP H h (l1 H 3) fun h4=>l2 H h4 17
 iterate 2 exact mP H h (l1 H 7) fun h4=>l2 H h4 18
 iterate 2 exact mP H h (l1 H 8) fun h4=>l2 H h4 19
 iterate 5 exact mP H h (l1 H 10) fun h4=>l1 H 1 ⟨H.it.1,fun _=>h4⟩
 iterate 2 exact mP H h (l1 H 13) fun h4=>l2 H h4 18
 iterate 6 exact mW H h A
 iterate 8 exact mT H h fun z=>l0 H 25 z
 iterate 2 exact mT H h fun z=>l0 H 26 z
 iterate 3 exact mT H h fun z=>lW H
 exact mA H h A 0 (l0 H 15);exact mA H h A 2 (l0 H 15);exact mA H h A 8 (l0 H 37);exact mA H h A 10 (l0 H 15);exact mA H h A 12 (l0 H 41);exact mA H h A 16 (l0 H 38)
 iterate 3 exact mM H h A (l0 H 39)
 exact mH H h A (l0 H 40);exact mM H h A (l0 H 39);exact mH H h A (l0 H 40)
 iterate 3 exact mL H h (l0 H 15)
 exact mL H h (l0 H 37);exact mL H h (l0 H 15)
 iterate 3 exact mR H h A false (l0 H 15)
 exact mR H h A true (l0 H 15)
end
end Go.Proofs.YtfelljbfeoplhaaGreat.Lift
namespace Go.Proofs.YtfelljbfeoplhaaGreat.Lift
open Go Go.Conc Go.Proofs.YtfelljbfeoplhaaGreat.Ev
open Go.Proofs.YtfelljbfeoplhaaGreat.Mx (mvt isSp isR1 isS1 sm sms OUT lk)
open Go.ConcM (OsLater)
variable [Jk]
noncomputable def bot:Frame:={ (default:Frame) with fn:=PP.funcs.size,defers:=[],mode:=.panicking [goexitEntry] }
def Slip (Stop:Nat → Goroutine → Prop):Nat → Nat → Goroutine → Prop
 | 0,d,g=>Stop d g
 | n + 1,d,g=>Stop d g ∨ (g.status = .running ∧ ∃ g' es,(∀ e ∈ es,Event.mute e = true) ∧ (∀ w,stepG PP false g w = .go g' w es) ∧ Slip Stop n (deafBehind d es) g')
section
variable {K:Cx} {k:Wk} {RO O:Nat → Prop} {cs:List Frame} {w w1:World} {s:Sh} {f:Frame} {fs:List Frame} {d n:Nat}
theorem Z9Y {X:Xt} (hX:XOk PP X) {q:Nat}:∀ (n:Nat) (st:St) {f:Frame} {fs:List Frame},SOk st.top st.rest f fs → (pn PP X n st).cvs = [] → (pn PP X n st).mks = [] →
  (∀ f' fs',SOk (pn PP X n st).top (pn PP X n st).rest f' fs' → QuitsD PP q (pn PP X n st).deaf (run1 f' (fs' ++ cs))) → ∃ q',QuitsD PP q' st.deaf (run1 f (fs ++ cs))
 | 0,st,f,fs,h,hc,hm,k=>⟨q,k f fs h⟩
 | n + 1,st,f,fs,h,hc,hm,k=>by
  unfold pn at hc hm k
  cases e:pmove PP X st.top st.rest with
  | none=>rw [e] at k;exact ⟨q,k f fs h⟩
  | some mv =>
   rw [e] at hc hm k;dsimp only at hc hm k;obtain ⟨f',fs',h',hs⟩:=pmove_ok (cs:=cs) hX h e;obtain ⟨m1,m2⟩:=pn_mono PP X n (st.upd mv);obtain ⟨q',hq⟩:=Z9Y hX n (st.upd mv) h' hc hm k;have hps:mv.ps = []:=by
    cases hp:mv.ps with
    | nil=>rfl
    | cons a l =>
     have:=m1 a (List.mem_append_left _ (by rw [hp];simp));rw [hc] at this
     cases this
   have hpl:mv.ev.places = []:=by
    cases hp:mv.ev.places with
    | nil=>rfl
    | cons a l =>
     have:=m2 a (List.mem_append_left _ (by rw [hp];simp));rw [hm] at this
     cases this
   refine ⟨q' + 1,.inr ⟨rfl,_,mv.ev.es,fun x hx=>?_,fun w=>hs false w (by rw [hps];simp),by rw [← Z4c];exact hq⟩⟩
   cases hv:mv.ev with
   | none=>rw [hv] at hx;simp [XEv.es] at hx
   | dis=>rw [hv] at hx;simp [XEv.es] at hx;subst hx;rfl
   | en=>rw [hv] at hx;simp [XEv.es] at hx;subst hx;rfl
   | acq p=>rw [hv] at hpl;cases hpl
   | mrg p=>rw [hv] at hpl;cases hpl
theorem Zbd {X:Xt} (hX:XOk PP X) {Stop:Nat → Goroutine → Prop} {q:Nat}:∀ (n:Nat) (st:St) {f:Frame} {fs:List Frame},SOk st.top st.rest f fs → (pn PP X n st).cvs = [] → (pn PP X n st).mks = [] →
  (∀ f' fs',SOk (pn PP X n st).top (pn PP X n st).rest f' fs' → Slip Stop q (pn PP X n st).deaf (run1 f' (fs' ++ cs))) → ∃ q',Slip Stop q' st.deaf (run1 f (fs ++ cs))
 | 0,st,f,fs,h,hc,hm,k=>⟨q,k f fs h⟩
 | n + 1,st,f,fs,h,hc,hm,k=>by
  unfold pn at hc hm k
  cases e:pmove PP X st.top st.rest with
  | none=>rw [e] at k;exact ⟨q,k f fs h⟩
  | some mv =>
   rw [e] at hc hm k;dsimp only at hc hm k;obtain ⟨f',fs',h',hs⟩:=pmove_ok (cs:=cs) hX h e;obtain ⟨m1,m2⟩:=pn_mono PP X n (st.upd mv);obtain ⟨q',hq⟩:=Zbd hX n (st.upd mv) h' hc hm k;have hps:mv.ps = []:=by
    cases hp:mv.ps with
    | nil=>rfl
    | cons a l =>
     have:=m1 a (List.mem_append_left _ (by rw [hp];simp));rw [hc] at this
     cases this
   have hpl:mv.ev.places = []:=by
    cases hp:mv.ev.places with
    | nil=>rfl
    | cons a l =>
     have:=m2 a (List.mem_append_left _ (by rw [hp];simp));rw [hm] at this
     cases this
   refine ⟨q' + 1,.inr ⟨rfl,_,mv.ev.es,fun x hx=>?_,fun w=>hs false w (by rw [hps];simp),by rw [← Z4c];exact hq⟩⟩
   cases hv:mv.ev with
   | none=>rw [hv] at hx;simp [XEv.es] at hx
   | dis=>rw [hv] at hx;simp [XEv.es] at hx;subst hx;rfl
   | en=>rw [hv] at hx;simp [XEv.es] at hx;subst hx;rfl
   | acq p=>rw [hv] at hpl;cases hpl
   | mrg p=>rw [hv] at hpl;cases hpl
theorem Z39 {X:Xt} (hX:XOk PP X) {Stop:Nat → Goroutine → Prop} {src dst:St} {v:Value} (e:edg X src v l ls = (true,dst,[],[])) (hd:src.deaf = d) (h:SOk (src.an v).top (src.an v).rest f fs) (go:∀ f' fs',SOk dst.top dst.rest f' fs' → Stop dst.deaf (run1 f' (fs' ++ cs))): ∃ q,Slip Stop q d (run1 f (fs ++ cs)):=by
 have hd2:d = (src.an v).deaf:=by rw [← hd];exact (Z4q (ZB (Zd e))).1.symm
 rw [hd2];unfold edg at e;simp only [Prod.mk.injEq] at e;obtain ⟨_,e2,e3,e4⟩:=e;refine Zbd hX 200 (src.an v) h e3 e4 (q:=0) fun f' fs' h'=>?_;have h2:=Z2E h' l ls;rw [e2] at h2;have hz:=go f' fs' h2;have:(pn PP X 200 (src.an v)).deaf = dst.deaf:=by rw [← e2];rfl
 rw [this];exact hz
theorem ZhI (h:SOk (cZ k).top (cZ k).rest f fs):QuitsD PP 2 0 (run1 f (fs ++ [bot])):=by
 have h1:(cZ k).top.ret = true:=by kernel_rfl
 have h2:(cZ k).top.defs = []:=by kernel_rfl
 have h3:(cZ k).top.kind = .deferred:=by kernel_rfl
 have h4:(cZ k).rest = []:=by kernel_rfl
 have h5:(cZ k).top.fn = 113:=by kernel_rfl
 obtain ⟨hf,hr⟩:=h;rw [h4] at hr
 cases hr
 have hm:f.mode = .returning:=by rw [hf.mode,h1];rfl
 have hd:f.defers = []:=hf.defs.trans h2;have hk:f.kind = .deferred:=hf.kind.trans h3;have hfn:PP.funcs[f.fn]? = some Tryz.f113:=by rw [hf.fn,h5];exact Tryz.func113
 refine .inr ⟨rfl,run1 bot [],#[],by simp,fun w=>?_,.inr ⟨rfl,{ run1 bot [] with status:=.finished },#[],by simp,fun w=>?_,rfl,rfl⟩⟩
 ·show stepG PP false (run1 f [bot]) w = _
  rw [Z1G hm];unfold unwind;rw [hd];dsimp only;rw [hm];dsimp only;rw [hfn];dsimp only;obtain ⟨r1,r2⟩:=Z2c (P:=PP) (fn:=Tryz.f113) (tmps:=f.tmps) (v:=.tuple #[]) (.inl ⟨by kernel_rfl,rfl⟩) w;simp only [Sem.runT_eq,r1,r2,Z0F,Z15];unfold doReturn;rw [hk]
  rfl
 ·have hc:bot.catches PP = false:=by
   have ht:bot.todo = []:=rfl;unfold Frame.catches
   split
   ·rename_i e2
    rw [ht] at e2
    cases e2
   ·rfl
  show unwind PP false bot [] none w = _;unfold unwind;show (if bot.catches PP then _ else _) = _;rw [hc]
  rfl
theorem Z0O {X:Xt} (hX:XOk PP X) {src:St} {v:Value} (e:edg X src v [] [] = (true,cZ k,[],[])) (hd:src.deaf = d) (h:SOk (src.an v).top (src.an v).rest f fs): ∃ q,QuitsD PP q d (run1 f (fs ++ [bot])):=by
 have hd2:d = (src.an v).deaf:=by rw [← hd];exact (Z4q (ZB (Zd e))).1.symm
 have h0:(cZ k).deaf = 0:=by kernel_rfl
 rw [hd2];unfold edg at e;simp only [Prod.mk.injEq] at e;obtain ⟨_,e2,e3,e4⟩:=e;refine Z9Y hX 200 (src.an v) h e3 e4 (q:=2) fun f' fs' h'=>?_;have h2:=Z2E h' [] [];rw [e2] at h2;have hz:=ZhI h2;have:(pn PP X 200 (src.an v)).deaf = 0:=by rw [← h0,← e2];rfl
 rw [this];exact hz
noncomputable def plD (k:Wk):Nat → St
 | 1=>cD1 k
 | 2=>cD2 k
 | 3=>cD3 k
 | _=>cD4 k
def Z1i (k:Wk) (tl:List Frame) (n:Nat) (d:Nat) (g:Goroutine):Prop:=
 d = 1 ∧ ∃ f fs,SOk (plD k n).top (plD k n).rest f fs ∧ g = run1 f (fs ++ tl)
theorem Z2Y (k:Wk):(cD1 k).deaf = 1:=by kernel_rfl
theorem ZcH (k:Wk):(cD2 k).deaf = 1:=by kernel_rfl
theorem Zdo (k:Wk):(cD3 k).deaf = 1:=by kernel_rfl
theorem Zcl (k:Wk):(cD4 k).deaf = 1:=by kernel_rfl
theorem ZhO (k:Wk):(cWr k).deaf = 0:=by kernel_rfl
theorem Zgh (W:Wok K k) (hS:ShAt K w s) {it:Nat} {g:Goroutine} (h:Z0v k cs OUT it O d g w):
  d = 0 ∧ ∃ g',stepG PP false g w = .go g' w #[⟨.mark (.releaseMerge ⟨K.Wg,0,none⟩),false,true⟩] ∧ ∃ q,Slip (Z1i k cs 1) q 0 g':=by
 obtain ⟨hd,f,fs,wst,q,h,rfl⟩:=h;have hx:(cWr k).ext PP = some (128,[pa k.W 0]):=by kernel_rfl
 rw [W.W] at hx;have h':SOk (cWr k).top (cWr k).rest f fs:=h;obtain ⟨e1,h1⟩:=Z51 (P:=PP) (m:=false) (cs:=cs) (w:=w) (fun a g=>by simp) h' hx Zdc (Zd (e_wr k));exact ⟨hd,_,e1,Z39 xokQ (e_wr k) (ZhO k) h1 fun f' fs' h2=>⟨Z2Y k,f',fs',h2,rfl⟩⟩
theorem ZjA (n:Nat) (h1:1 ≤ n) (h2:n ≤ 3) (b:Nat) (hb:b ≤ 1):IntKind.u64.wrap (((n:Int) * 4294967296 + b) + 18446744069414584320) = ((n - 1:Nat):Int) * 4294967296 + b:=by
 have:n = 1 ∨ n = 2 ∨ n = 3:=by omega
 have hb:b = 0 ∨ b = 1:=by omega
 rcases this with rfl | rfl | rfl <;> rcases hb with rfl | rfl <;> decide
theorem ZhX (W:Wok K k) (hS:ShAt K w s) {g:Goroutine} (h:Z1i k [bot] 1 d g) {n b:Nat} (h1:1 ≤ n) (h3:n ≤ 3) (hb:b ≤ 1) (hs:s.wg = (n:Int) * 4294967296 + b):
  d = 1 ∧ ∃ g' w',stepG PP false g w = .go g' w' #[⟨.cell ⟨K.Wg,0,none⟩,false,true⟩,⟨.cell ⟨K.Wg,0,none⟩,true,true⟩] ∧ Eff K w w' { s with wg:=((n - 1:Nat):Int) * 4294967296 + b } ∧
   if n = 1 ∧ b = 1 then ∃ q,Slip (Z1i k [bot] 2) q 1 g' else ∃ q,QuitsD PP q 1 g':=by
 obtain ⟨hd,f,fs,h,rfl⟩:=h;have hx:(cD1 k).ext PP = some (151,[pa k.W 0,.int .u64 18446744069414584320]):=by kernel_rfl
 rw [W.W] at hx;have h':SOk (cD1 k).top (cD1 k).rest f fs:=h;have ew:=ZjA n h1 h3 b hb;have hc:w.cell? ⟨K.Wg,0,none⟩ = some (.int .u64 ((n:Int) * 4294967296 + b)):=by rw [hS.wg0,hs]
 have ha:((cD1 k).ans (.int .u64 (IntKind.u64.wrap (((n:Int) * 4294967296 + b) + 18446744069414584320)))).isSome = true:=by
  rw [ew];have:n = 1 ∨ n = 2 ∨ n = 3:=by omega
  have hb:b = 0 ∨ b = 1:=by omega
  rcases this with rfl | rfl | rfl <;> rcases hb with rfl | rfl
  ·exact Zd (Zg4 k)
  ·exact Zd (ZbZ k)
  ·exact Zd (ZfY k)
  ·exact Zd (Zdn k)
  ·exact Zd (ZfT k)
  ·exact Zd (ZbA k)
 obtain ⟨e1,hk⟩:=Zcx (P:=PP) (m:=false) (cs:=[bot]) h' hx Zd3 hc (hS.wgz 0) ha;rw [ew] at e1 hk;have hE:=Eff.wg0 W.ap hS (((n - 1:Nat):Int) * 4294967296 + b);refine ⟨hd,_,_,e1,hE,?_⟩;have:n = 1 ∨ n = 2 ∨ n = 3:=by omega
 have hb:b = 0 ∨ b = 1:=by omega
 rcases this with rfl | rfl | rfl <;> rcases hb with rfl | rfl
 ·rw [if_neg (by omega)];exact Z0O xokQ (Zg4 k) (Z2Y k) hk
 ·rw [if_pos ⟨rfl,rfl⟩]
  exact Z39 xokQ (ZbZ k) (Z2Y k) hk fun f' fs' h2=>⟨ZcH k,f',fs',h2,rfl⟩
 ·rw [if_neg (by omega)];exact Z0O xokQ (ZfY k) (Z2Y k) hk
 ·rw [if_neg (by omega)];exact Z0O xokQ (Zdn k) (Z2Y k) hk
 ·rw [if_neg (by omega)];exact Z0O xokQ (ZfT k) (Z2Y k) hk
 ·rw [if_neg (by omega)];exact Z0O xokQ (ZbA k) (Z2Y k) hk
theorem ZgR (W:Wok K k) (hS:ShAt K w s) {g:Goroutine} (h:Z1i k [bot] 2 d g) (hs:s.wg = 1):
  d = 1 ∧ ∃ g',stepG PP false g w = .go g' w #[⟨.cell ⟨K.Wg,0,none⟩,false,true⟩] ∧ ∃ q,Slip (Z1i k [bot] 3) q 1 g':=by
 obtain ⟨hd,f,fs,h,rfl⟩:=h;have hx:(cD2 k).ext PP = some (152,[pa k.W 0]):=by kernel_rfl
 rw [W.W] at hx;obtain ⟨e1,hk⟩:=Z3I (P:=PP) (m:=false) (cs:=[bot]) h hx Z3z (v:=1) (by rw [hS.wg0,hs]) (Zd (e_d2 k));exact ⟨hd,_,e1,Z39 xokQ (e_d2 k) (ZcH k) hk fun f' fs' h2=>⟨Zdo k,f',fs',h2,rfl⟩⟩
theorem Zgo (W:Wok K k) (hS:ShAt K w s) {g:Goroutine} (h:Z1i k [bot] 3 d g):
  d = 1 ∧ ∃ g' w',stepG PP false g w = .go g' w' #[⟨.cell ⟨K.Wg,0,none⟩,true,true⟩] ∧ Eff K w w' { s with wg:=0 } ∧ ∃ q,Slip (Z1i k [bot] 4) q 1 g':=by
 obtain ⟨hd,f,fs,h,rfl⟩:=h;have hx:(cD3 k).ext PP = some (153,[pa k.W 0,.int .u64 0]):=by kernel_rfl
 rw [W.W] at hx;obtain ⟨e1,hk⟩:=Zec (P:=PP) (m:=false) (cs:=[bot]) h hx Zgj hS.wg0 (hS.wgz 0) (Zd (e_d3 k));have hE:=Eff.wg0 W.ap hS 0;exact ⟨hd,_,_,e1,hE,Z39 xokQ (e_d3 k) (Zdo k) hk fun f' fs' h2=>⟨Zcl k,f',fs',h2,rfl⟩⟩
theorem Zhh (W:Wok K k) (hS:ShAt K w s) {g:Goroutine} (h:Z1i k [bot] 4 d g) (hs:s.ws = 0):
  d = 1 ∧ mayWake PP g = true ∧ ∃ g' w',stepG PP false g w = .go g' w' (semEvents ⟨K.Wg,1,none⟩) ∧ Eff K w w' { s with ws:=1 } ∧ ∃ q,QuitsD PP q 1 g':=by
 obtain ⟨hd,f,fs,h,rfl⟩:=h;have hx:(cD4 k).ext PP = some (140,[pa k.W 1,.bool false,qw 0]):=by kernel_rfl
 have hx0:=hx;rw [W.W] at hx;obtain ⟨e1,hk⟩:=Zfm (P:=PP) (m:=false) (cs:=[bot]) h hx Zdp (n:=0) (by rw [hS.wg1,hs]) (hS.wgz 1) (Zd (e_d4 k));refine ⟨hd,Z9w h hx0 Zdp,_,_,e1,Eff.wg1 W.ap hS 1,Z0O xokQ (e_d4 k) (Zcl k) hk⟩
end
end Go.Proofs.YtfelljbfeoplhaaGreat.Lift
namespace Go.Proofs.YtfelljbfeoplhaaGreat.Lift
open Go Go.Conc Go.Proofs.YtfelljbfeoplhaaGreat.Ev
open Go.Proofs.YtfelljbfeoplhaaGreat.Mx (mvt isSp isR1 isS1 sm sms OUT L0)
variable [Jk]
section
variable {F:Array Func} {G:FuncId → Prop} {K:Cx} {k:Wk} {RO O U:Nat → Prop} {cs:List Frame} {v w w1:World} {s:Sh} {f:Frame} {fs:List Frame} {d n:Nat} {r:Ren}
structure Bi (k:Wk) (w:World):Prop where
 is:∃ T fz,w.heap[k.I]? = some (.cells #[k.clo] T fz)
 found:∃ T fz,w.heap[k.B]? = some (.cells #[.slice (some ⟨k.D,0,none⟩) k.n k.c] T fz)
 lamp:∃ T fz,w.heap[k.L]? = some (.cells #[qw k.lamp] T fz)
theorem Bi.on (h:Bi k w) (e:∀ c,c = k.I ∨ c = k.B ∨ c = k.L → w1.heap[c]? = w.heap[c]?):Bi k w1:=
 ⟨by rw [e _ (.inl rfl)];exact h.is,by rw [e _ (.inr (.inl rfl))];exact h.found,by rw [e _ (.inr (.inr rfl))];exact h.lamp⟩
def task (k:Wk):Deferred:={ target:=.fn (.func 113) #[pa k.W 0,pa k.I 0,pa k.L 0,pa k.N 0,pa k.B 0],args:=#[] }
theorem ZbL (P:Program) (m:Bool) (w:World) (f:FuncId) (c xs:Array Value):stepG P m (born P { target:=.fn (.func f) c,args:=xs }) w = callDeferred P { (born P { target:=.fn (.func f) c,args:=xs }).frame with defers:=[] } [] none { target:=.fn (.func f) c,args:=xs } w:=by
 unfold stepG born
 rfl
theorem Zbv (m:Bool) (w:World):stepG PP m (born PP (task k)) w = .go (run1 (Frame.enter PP 113 #[pa k.W 0,pa k.I 0,pa k.L 0,pa k.N 0,pa k.B 0] .deferred) [bot]) w #[]:=by
 have hfn:PP.funcs[113]? = some Tryz.f113:=Tryz.func113;have hname : ¬ (Tryz.f113).name = "runtime.NumGoroutine" := by
  have : ((Tryz.f113).name == "runtime.NumGoroutine") = false := by kernel_rfl
  simpa using this
 have hb:(Tryz.f113).body = some (Z5Z 113):=by kernel_rfl
 have hrun:(invoke (.fn (.func 113) #[pa k.W 0,pa k.I 0,pa k.L 0,pa k.N 0,pa k.B 0]) #[]).run PP w = .ok (.enter 113 #[pa k.W 0,pa k.I 0,pa k.L 0,pa k.N 0,pa k.B 0]) w ∧ (invoke (.fn (.func 113) #[pa k.W 0,pa k.I 0,pa k.L 0,pa k.N 0,pa k.B 0]) #[]).events PP w #[] = #[]:=by
  unfold invoke callFunc;dsimp only;simp [hfn,hname,hb]
 refine (ZbL PP m w _ _ _).trans ?_;rw [Z34 hrun.1];unfold lsd;rw [hrun.2,Z0F,Z15]
 rfl
section
variable (k:Wk)
theorem e_c1:edg xt (cW1 k) k.clo [2,3,4,5] [] = (true,cW2 k,[],[]):=by kernel_rfl
theorem ZjD:(cW1 k).lod = some (92,⟨k.I,0,none⟩):=by kernel_rfl
theorem ZiT:(cW2 k).lod = some (3,⟨k.L,0,none⟩):=by kernel_rfl
theorem Zkf:(PP.funcs[(cW1 k).top.fn]?).any (·.norace) = false:=by kernel_rfl
theorem ZkB:(PP.funcs[(cW2 k).top.fn]?).any (·.norace) = false:=by kernel_rfl
theorem ZbT:(cW1 k).deaf = 0:=by kernel_rfl
theorem ZgI:(cW2 k).deaf = 0:=by kernel_rfl
theorem Zc0:(cW3 k).deaf = 0:=by kernel_rfl
theorem Zgy:((cW2 k).ans (qw k.lamp)).isSome = true:=by kernel_rfl
end
theorem ZkN:Z30 PP (isAgg 92) = some false:=by kernel_rfl
theorem agg3:Z30 PP (isAgg 3) = some false:=by kernel_rfl
theorem ZjQ (k:Wk):(sW k).top = Z81 113 Tryz.f113 (Z5Z 113) #[pa k.W 0,pa k.I 0,pa k.L 0,pa k.N 0,pa k.B 0] .deferred:=by kernel_rfl
theorem Zkj (k:Wk):((pn PP xt 200 (sW k)).cut [1,2,3,4] [],(pn PP xt 200 (sW k)).cvs,(pn PP xt 200 (sW k)).mks) = (cW1 k,[],[]):=by kernel_rfl
theorem Z7I (S:Strip PP F (CodeOk PP false) G) (hg:GOk PP F G) (hrec:Rec PP) (W:Wok K k) (hS:ShAt K w s) (hb:Bi k w) (hU:∀ c,U c ↔ c = k.I ∨ c = k.B ∨ c = k.L) (hu:∀ c,U c → O c) (hno:¬ O K.Mu ∧ ¬ O K.Wg ∧ ¬ O K.Fd) {gf:FuncId} {xs ys:Array Value} (hcal:(cW3 k).cal PP = some (gf,ys)) (g:G gf) (ha:VRs r xs ys) (hw:WH (Iv PP F) r v w) (hf:Fit RO O r v) (hr:Ros RO U r w) {b:Bool} {R:Ending → World → Prop} (hR:∀ e u T,R e (re u T) → R e u) (hb1:∀ e u,R e u → e = .returned (.bool b)) (hC:∀ T,Calls (PF PP F) gf xs (re v T) R): WT PP false K RO (Z0v k [bot] (bif b then L0 else OUT) 0) O 0 (born PP (task k)) w:=by
 refine WT.go rfl fun w1 hl=>⟨_,w1,_,Zbv false w1,⟨fun _ _ _=>rfl,fun _ _=>rfl,Nat.le_refl _,rfl,rfl,by simp⟩,?_⟩;rw [Z0A O w1 w1 rfl];have hb1':Bi k w1:=hb.on fun c hc=>hl.keep c (hu c ((hU c).2 hc));have hw1:=Z3y hw hl hf.own;have hr1:=hr.rely hl;obtain ⟨s1,hS1⟩:=Z2V hS hl;have hfn:PP.funcs[113]? = some Tryz.f113:=Tryz.func113;have hbd:(Tryz.f113).body = some (Z5Z 113):=by kernel_rfl
 have hk0:SOk (sW k).top (sW k).rest (Frame.enter PP 113 #[pa k.W 0,pa k.I 0,pa k.L 0,pa k.N 0,pa k.B 0] .deferred) []:=⟨by rw [ZjQ];exact Z6S hfn hbd _ .deferred,.nil⟩;have:=Z8t (m:=false) (K:=K) (RO:=RO) (O:=O) (w:=w1) (Stop:=Z0v k [bot] (bif b then L0 else OUT) 0) (cs:=[bot]) xok (Zkj k) hk0 fun f1 fs1 h1=>by
  rw [ZbT];refine WT.load h1 (ZjD k) (Zkf k) ZkN (fun w2 h2=>?_) (hu _ ((hU _).2 (.inl rfl))) (Zd (e_c1 k)) fun h2 w2 hl2=>?_
  ·obtain ⟨T,fz,e⟩:=hb1'.is
   rw [ZM (by rw [h2.keep _ (hu _ ((hU _).2 (.inl rfl)))];exact e)];rfl
  have hb2:Bi k w2:=hb1'.on fun c hc=>hl2.keep c (hu c ((hU c).2 hc));have hw2:=Z3y hw1 hl2 hf.own;have hr2:=hr1.rely hl2;obtain ⟨s2,hS2⟩:=Z2V hS1 hl2;refine WT.edge xok ((Z0i ..).symm.trans (e_c1 k)) hS2 (by simp) (by simp) (ZbT k) h2 fun f3 fs3 h3=>?_;rw [ZgI];refine WT.load h3 (ZiT k) (ZkB k) agg3 (fun w3 h4=>?_) (hu _ ((hU _).2 (.inr (.inr rfl)))) (Zgy k) fun h4 w3 hl3=>?_
  ·obtain ⟨T,fz,e⟩:=hb2.lamp
   rw [ZM (by rw [h4.keep _ (hu _ ((hU _).2 (.inr (.inr rfl))))];exact e)];rfl
  have hb3:Bi k w3:=hb2.on fun c hc=>hl3.keep c (hu c ((hU c).2 hc));have hw3:=Z3y hw2 hl3 hf.own;have hr3:=hr2.rely hl3;obtain ⟨s3,hS3⟩:=Z2V hS2 hl3;have h5:SOk (cW3 k).top (cW3 k).rest (f3.finish (qw k.lamp)) fs3:=Z2E h4 [2,3,4,5,6] [];refine WT.go rfl fun w4 hl4=>⟨_,w4,_,ZfL h5 hcal,⟨fun _ _ _=>rfl,fun _ _=>rfl,Nat.le_refl _,rfl,rfl,by simp⟩,?_⟩;rw [Z0A O w4 w4 rfl];have hb4:Bi k w4:=hb3.on fun c hc=>hl4.keep c (hu c ((hU c).2 hc));have hw4:=Z3y hw3 hl4 hf.own;have hr4:=hr3.rely hl4;obtain ⟨s4,hS4⟩:=Z2V hS3 hl4;refine Zdr (U:=U) (J:=fun O u=>Bi k u ∧ (∀ c,U c → O c) ∧ (∃ s,ShAt K u s) ∧ (¬ O K.Mu ∧ ¬ O K.Wg ∧ ¬ O K.Fd)) ?_ ?_ S hg hrec g ha hw4 hf hr4 ⟨hb4,hu,⟨s4,hS4⟩,hno⟩ hR (fun u h=>by cases hb1 _ _ h) (fun u ch h=>by cases hb1 _ _ h) hC (c:=f3.finish (qw k.lamp)) (cs:=fs3 ++ [bot]) fun r' v' w' O' x y hx hy hw' hf' hr' hj'=>?_
  ·rintro O w w1 hl ⟨j1,j2,j3,j4⟩
   exact ⟨j1.on fun c hc=>hl.keep c (j2 c ((hU c).2 hc)),j2,hl.live j3,j4⟩
  ·rintro O w w' es hG hk ⟨j1,j2,⟨s,j3⟩,j4⟩
   have l1:=(Array.getElem?_eq_some_iff.1 j3.mu).1;have l2:=(Array.getElem?_eq_some_iff.1 j3.wg).1;have l3:=(Array.getElem?_eq_some_iff.1 j3.fd).1;refine ⟨j1.on fun c hc=>hk c ((hU c).2 hc),fun c hc=>.inl (j2 c hc),⟨s,by rw [hG.far _ l1 j4.1];exact j3.mu,by rw [hG.far _ l2 j4.2.1];exact j3.wg,by rw [hG.far _ l3 j4.2.2];exact j3.fd⟩,?_⟩;exact ⟨fun h=>h.elim j4.1 fun h=>by omega,fun h=>h.elim j4.2.1 fun h=>by omega,fun h=>h.elim j4.2.2 fun h=>by omega⟩
  ·obtain ⟨hbi,_,⟨s',hS'⟩,_⟩:=hj'
   have hx1:=hb1 _ _ hx;simp only [Ending.returned.injEq] at hx1;subst hx1;have hy1:y = .bool b:=by cases hy;rfl
   subst hy1;obtain ⟨o,hp,_⟩:=Option.bind_eq_some_iff.1 hcal;obtain ⟨ops,i,rest,kk,ht,_⟩:=Z0s hp
   cases b
   ·obtain ⟨h6,_⟩:=Z2e h5 ht (ZB (Zd (e_w0 k)))
    refine WT.edge xokQ ((Z0i ..).symm.trans (e_w0 k)) hS' (by simp [W.W]) (by simp) (Zc0 k) h6 fun f7 fs7 h7=>?_;exact Z0Y (x:=OUT) (it':=0) (wst:=0) (q:=undef) (by decide) h7
   ·obtain ⟨h6,_⟩:=Z2e h5 ht (ZB (Zd (e_w1 k)))
    refine WT.edge xok ((Z0i ..).symm.trans (e_w1 k)) hS' (by simp) (by simp) (Zc0 k) h6 fun f7 fs7 h7=>?_;exact Z0Y (x:=L0) (it':=0) (wst:=0) (q:=undef) (by decide) h7
 exact this
end
end Go.Proofs.YtfelljbfeoplhaaGreat.Lift
namespace Go.Proofs.YtfelljbfeoplhaaGreat.Lift
open Go Go.Conc Go.Proofs.YtfelljbfeoplhaaGreat.Ev
open Go.ConcM (OsLater)
variable [Jk]
section
variable {P:Program} {K:Cx} {w:World} {f:Frame} {fs cs:List Frame} {st:St} {m:Bool}
theorem Zf9 (h:SOk st.top st.rest f fs) {o:Oper} (hp:st.pend = some o) {T:TypeId} (ho:o.op = .alloc T) {z:Value} (hz:Z30 P (zeroValue T) = some z) (ha:(st.ans (.pointer (some ⟨w.heap.size,0,none⟩))).isSome = true):
  stepG P m (run1 f (fs ++ cs)) w = .go (run1 (f.finish (.pointer (some ⟨w.heap.size,0,none⟩))) (fs ++ cs)) (w.alloc (.cells z.cells T)) #[] ∧ SOk (st.an (.pointer (some ⟨w.heap.size,0,none⟩))).top (st.an (.pointer (some ⟨w.heap.size,0,none⟩))).rest (f.finish (.pointer (some ⟨w.heap.size,0,none⟩))) fs:=by
 obtain ⟨ops,i,rest,k,ht,hop,hg,hret,hk⟩:=Z0s hp;refine ⟨?_,(Z2e h ht (ZB ha)).1⟩;letI:Jk:={ j:=False,rest:=[] };rw [Z1A h hp (by rw [ho];simp)];obtain ⟨r1,r2⟩:=Z1Z hz w;have e1:(execOp f.eval o).run P w = .ok (.value (.pointer (some ⟨w.heap.size,0,none⟩))) (w.alloc (.cells z.cells T)):=by
  unfold execOp;simp only [ho,Instr.alloc,Sem.run_bind,r1,Result.andThen_ok];simp only [newVar,newRow,newObj,Sem.run_bind,Sem.run_pure]
  rfl
 have e2:(execOp f.eval o).events P w #[] = #[]:=by
  unfold execOp;simp [ho,Instr.alloc,r1,r2,newVar,newRow,newObj]
  rfl
 rw [Z0c e1];unfold lst;have hke:(f.kind == CallKind.early) = false:=by
  cases hkk:f.kind <;> first | rfl | (rw [h.1.kind] at hkk;exact absurd hkk hk)
 rw [hke,e2];simp [GStep.after,Z0F]
theorem Zkd (h:SOk st.top st.rest f fs) {o:Oper} (hp:st.pend = some o) {c:Call} (ho:o.op = .go c) {x:Operand} (hc:c.callee = .value x) (hx0:c.args = #[]) {g:FuncId} {caps:Array Value} (hx:st.top.val x = some (.func (.func g) #[] caps)) (ha:(st.ans undef).isSome = true):
  stepG P m (run1 f (fs ++ cs)) w = .spawn (run1 (f.finish undef) (fs ++ cs)) (born P { target:=.fn (.func g) caps,args:=#[] }) w #[] ∧ SOk (st.an undef).top (st.an undef).rest (f.finish undef) fs:=by
 obtain ⟨ops,i,rest,k,ht,hop,hg,hret,hk⟩:=Z0s hp;refine ⟨?_,(Z2e h ht (ZB ha)).1⟩;have hf:=h.1;have hrun':f.mode = .run:=by rw [hf.mode,hret];rfl
 have hft:=hf.todo.trans ht;have hev0:(Act.mk f.tmps f.defers).eval = f.eval:=by funext x;cases x <;> rfl
 obtain ⟨callee,args,argTypes⟩:=c;dsimp only at hc hx0;subst hc hx0;have hex:(execOp (Act.mk f.tmps f.defers).eval o).run P w = .ok (.spawn { target:=.fn (.func g) caps,args:=#[] }) w ∧ (execOp (Act.mk f.tmps f.defers).eval o).events P w #[] = #[]:=by
  unfold execOp;rw [ho];dsimp only;unfold resolve;dsimp only;rw [hev0,hf.val hx];simp [Deferred.ofValue]
 have hd:(ops[i]?).bind (·.dst) = o.dst:=by rw [hop];rfl
 rw [Z2L hrun' hf.round hft,hd]
 conv=>lhs;rw [Z6R hrun' hf.round,hft]
 have:=stepG_spawn (P:=P) (main:=m) (b:=f) (a:=⟨f.tmps,f.defers⟩) (k:=k) (rest:=rest) (cs:=fs ++ cs) (w:=w) (w':=w) (d:={ target:=.fn (.func g) caps,args:=#[] }) hop (Zao hf hg) (by rw [hf.kind];exact hk) hex.1 rfl;refine this.trans ?_;unfold listed;rw [hex.2]
 rfl
end
def Z8w (m:Bool) (K:Cx) (Stop:Nat → Goroutine → Prop):Nat → Nat → Goroutine → Prop
 | 0,d,g=>Stop d g
 | n + 1,d,g=>Stop d g ∨ (g.status = .running ∧ ∃ g' es,(∀ e ∈ es,Event.mute e = true) ∧ (∀ w,(∃ s,ShAt K w s) → stepG PP m g w = .go g' w es) ∧ Z8w m K Stop n (deafBehind d es) g')
def WM (m:Bool) (K:Cx) (Stop:Nat → Goroutine → Prop) (d:Nat) (g:Goroutine):Prop:=∃ q,Z8w m K Stop q d g
theorem Z74 {m:Bool} {K:Cx} {X:Xt} (hX:XOk PP X) {Stop:Nat → Goroutine → Prop} {cs:List Frame}:∀ (n:Nat) (st:St) {f:Frame} {fs:List Frame},SOk st.top st.rest f fs → (∀ p ∈ (pn PP X n st).cvs,p = ⟨K.Wg,0,none⟩ ∨ p = ⟨K.Wg,1,none⟩) → (pn PP X n st).mks = [] →
  (∀ f' fs',SOk (pn PP X n st).top (pn PP X n st).rest f' fs' → WM m K Stop (pn PP X n st).deaf (run1 f' (fs' ++ cs))) → WM m K Stop st.deaf (run1 f (fs ++ cs))
 | 0,st,f,fs,h,hc,hm,k=>k f fs h
 | n + 1,st,f,fs,h,hc,hm,k=>by
  unfold pn at hc hm k
  cases e:pmove PP X st.top st.rest with
  | none=>rw [e] at k;exact k f fs h
  | some mv =>
   rw [e] at hc hm k;dsimp only at hc hm k;obtain ⟨f',fs',h',hs⟩:=pmove_ok (cs:=cs) hX h e;obtain ⟨m1,m2⟩:=pn_mono PP X n (st.upd mv);obtain ⟨q',hq⟩:=Z74 hX n (st.upd mv) h' hc hm k;have hpl:mv.ev.places = []:=by
    cases hp:mv.ev.places with
    | nil=>rfl
    | cons a l =>
     have:=m2 a (List.mem_append_left _ (by rw [hp];simp));rw [hm] at this
     cases this
   refine ⟨q' + 1,.inr ⟨rfl,_,mv.ev.es,fun x hx=>?_,fun w hw=>hs m w fun p hp=>?_,by rw [← Z4c];exact hq⟩⟩
   ·cases hv:mv.ev with
    | none=>rw [hv] at hx;simp [XEv.es] at hx
    | dis=>rw [hv] at hx;simp [XEv.es] at hx;subst hx;rfl
    | en=>rw [hv] at hx;simp [XEv.es] at hx;subst hx;rfl
    | acq p=>rw [hv] at hpl;cases hpl
    | mrg p=>rw [hv] at hpl;cases hpl
   ·obtain ⟨s,hs'⟩:=hw
    rcases hc p (m1 p (List.mem_append_left _ hp)) with rfl | rfl
    ·exact ⟨_,hs'.wg0⟩
    ·exact ⟨_,hs'.wg1⟩
theorem Zgi {m:Bool} {K:Cx} {Stop:Nat → Goroutine → Prop} {cs fs:List Frame} {f:Frame} {X:Xt} {st dst:St} {n:Nat} (hX:XOk PP X) (e:((pn PP X n st).cut l ls,(pn PP X n st).cvs,(pn PP X n st).mks) = (dst,[],[])) (h:SOk st.top st.rest f fs) (k:∀ f' fs',SOk dst.top dst.rest f' fs' → WM m K Stop (dst.deaf) (run1 f' (fs' ++ cs))): WM m K Stop (st.deaf) (run1 f (fs ++ cs)):=by
 simp only [Prod.mk.injEq] at e;obtain ⟨rfl,e2,e3⟩:=e;refine Z74 hX n st h (by rw [e2];simp) e3 fun f' fs' h'=>?_;have:=k f' fs' (Z2E h' l ls);rw [Z1P] at this;exact this
inductive CT where
 | ma (i:Nat) | ms (i L:Nat) | md (i L:Nat) | mr (i L:Nat) | mg (i L:Nat) | w1 | w2 (v:Nat) | mx (v:Nat) | w3 | w4 | my | mq
def kk:Nat → Int
 | 1=>4294967296
 | 2=>8589934592
 | _=>12884901888
noncomputable def plM (k:Wk) (T:Nat → Value) (n:Nat) (x:Value) (u:Nat → Value):CT → St
 | .ma i=>cMa k T n i x u
 | .ms i L=>cMs k T n i L u
 | .md i L=>cMd k T n i L u
 | .mr i L=>cMr k T n i L u
 | .mg i L=>cMg k T n i L u
 | .w1=>cMw1 k T n n x u
 | .w2 v=>cMw2 k T n n x (kk v) u
 | .mx v=>cMx k T n n x (kk v) u
 | .w3=>cMw3 k T n n x u
 | .w4=>cMw4 k T n n x u
 | .my=>cMy k T n n x u
 | .mq=>cMq k T n n x u
def dM:CT → Nat
 | .ma _ | .ms _ _ | .mg _ _ | .my | .mq=>0
 | _=>1
def ZA (k:Wk) (T:Nat → Value) (n:Nat) (cs:List Frame) (tag:CT) (d:Nat) (g:Goroutine):Prop:=
 d = dM tag ∧ ∃ x u f fs,SOk (plM k T n x u tag).top (plM k T n x u tag).rest f fs ∧ g = run1 f (fs ++ cs)
section
variable {K:Cx} {k:Wk} {T:Nat → Value} {n i L v:Nat} {cs:List Frame} {w:World} {s:Sh} {f:Frame} {fs:List Frame} {tag:CT} {x:Value} {u:Nat → Value} {d:Nat} {m:Bool}
abbrev NO:Nat → Prop:=fun _=>False
theorem dm_a:(plM k T n x u (.ma i)).deaf = 0:=by kernel_rfl
theorem dm_s:(plM k T n x u (.ms i L)).deaf = 0:=by kernel_rfl
theorem dm_d:(plM k T n x u (.md i L)).deaf = 1:=by kernel_rfl
theorem dm_r:(plM k T n x u (.mr i L)).deaf = 1:=by kernel_rfl
theorem dm_g:(plM k T n x u (.mg i L)).deaf = 0:=by kernel_rfl
theorem dm_1:(plM k T n x u .w1).deaf = 1:=by kernel_rfl
theorem Zjk:(plM k T n x u (.w2 1)).deaf = 1:=by kernel_rfl
theorem ZiA:(plM k T n x u (.w2 2)).deaf = 1:=by kernel_rfl
theorem Zia:(plM k T n x u (.w2 3)).deaf = 1:=by kernel_rfl
theorem Zkc:(plM k T n x u (.mx 1)).deaf = 1:=by kernel_rfl
theorem Zko:(plM k T n x u (.mx 2)).deaf = 1:=by kernel_rfl
theorem Zkx:(plM k T n x u (.mx 3)).deaf = 1:=by kernel_rfl
theorem dm_2 (h:1 ≤ v ∧ v ≤ 3):(plM k T n x u (.w2 v)).deaf = 1:=by
 have:v = 1 ∨ v = 2 ∨ v = 3:=by omega
 rcases this with rfl | rfl | rfl
 ·exact Zjk
 ·exact ZiA
 ·exact Zia
theorem dm_x (h:1 ≤ v ∧ v ≤ 3):(plM k T n x u (.mx v)).deaf = 1:=by
 have:v = 1 ∨ v = 2 ∨ v = 3:=by omega
 rcases this with rfl | rfl | rfl
 ·exact Zkc
 ·exact Zko
 ·exact Zkx
theorem dm_3:(plM k T n x u .w3).deaf = 1:=by kernel_rfl
theorem dm_4:(plM k T n x u .w4).deaf = 1:=by kernel_rfl
theorem dm_y:(plM k T n x u .my).deaf = 0:=by kernel_rfl
theorem dm_q:(plM k T n x u .mq).deaf = 0:=by kernel_rfl
theorem Zfn (h:SOk (plM k T n x u tag).top (plM k T n x u tag).rest f fs):WM m K (ZA k T n cs tag) (dM tag) (run1 f (fs ++ cs)):=
 ⟨0,rfl,x,u,f,fs,h,rfl⟩
theorem Z02 (e:(plM k T n x u tag).deaf = dM tag) (h:SOk (plM k T n x u tag).top (plM k T n x u tag).rest f fs):WM m K (ZA k T n cs tag) ((plM k T n x u tag).deaf) (run1 f (fs ++ cs)):=by
 rw [e];exact Zfn h
theorem edgM {X:Xt} (hX:XOk PP X) (W:Wok K k) {q:Nat} {src dst:St} {v:Value} {Stop:Nat → Goroutine → Prop} (e:edgN q X src v l ls = (true,dst,cvs,mks)) (hS:ShAt K w s) (hcv:∀ p ∈ cvs,p = ⟨k.W,0,none⟩ ∨ p = ⟨k.W,1,none⟩) (hmk:mks = []) (hd:src.deaf = d) (h:SOk (src.an v).top (src.an v).rest f fs) (go:∀ f' fs',SOk dst.top dst.rest f' fs' → WM m K Stop (dst.deaf) (run1 f' (fs' ++ cs))): WM m K Stop d (run1 f (fs ++ cs)):=by
 unfold edgN at e;simp only [Prod.mk.injEq] at e;obtain ⟨e1,rfl,rfl,rfl⟩:=e;have hd2:d = (src.an v).deaf:=by rw [← hd];exact (Z4q (ZB e1)).1.symm
 rw [hd2];refine Z74 hX q (src.an v) h (fun p hp=>?_) hmk fun f' fs' h'=>?_
 ·rw [← W.W];exact hcv p hp
 ·have:=go f' fs' (Z2E h' l ls)
  rw [Z1P] at this;exact this
theorem Zcn (hi:i ≤ n) (h:SOk (cMc k T n i (decide ((i:Int) < n)) x u).top (cMc k T n i (decide ((i:Int) < n)) x u).rest f fs):WM m K (ZA k T n cs (if i < n then .ma i else .w1)) ((cMc k T n i (decide ((i:Int) < n)) x u).deaf) (run1 f (fs ++ cs)):=by
 by_cases hlt:i < n
 ·have:decide ((i:Int) < n) = true:=by simp [hlt]
  rw [this] at h ⊢;rw [if_pos hlt];refine Zgi xokQ (Ziz k T n i x u) h fun f' fs' h'=>?_;exact Z02 (tag:=.ma i) (x:=x) (u:=u) dm_a h'
 ·obtain rfl:i = n:=by omega
  have:decide ((i:Int) < i) = false:=by simp
  rw [this] at h ⊢;rw [if_neg hlt];refine Zgi xokQ (Zi0 k T i i x u) h fun f' fs' h'=>?_;exact Z02 (tag:=.w1) (x:=x) (u:=u) dm_1 h'
theorem Zkm (v:Nat) (h:v ≤ 2):IntKind.u64.wrap ((v:Int) * 4294967296 + 4294967296) = ((v + 1:Nat):Int) * 4294967296:=by
 have:v = 0 ∨ v = 1 ∨ v = 2:=by omega
 rcases this with rfl | rfl | rfl <;> decide
variable (W:Wok K k) (hS:ShAt K w s)
include W hS
theorem Zkn {g:Goroutine} (h:ZA k T n cs (.ma i) d g): d = 0 ∧ ∃ g',stepG PP m g w = .go g' (w.alloc (.cells #[.int .i64 0] 3)) #[] ∧ WM m K (ZA k T n cs (.ms i w.heap.size)) 0 g':=by
 obtain ⟨hd,x,u,f,fs,h,rfl⟩:=h;have hp:(plM k T n x u (.ma i)).pend.map (·.op) = some (.alloc 3):=by kernel_rfl
 obtain ⟨o,hp,ho⟩:=Option.map_eq_some_iff.1 hp;obtain ⟨a1,a2⟩:=ZkJ k T n i x w.heap.size u;obtain ⟨e1,h1⟩:=Zf9 (P:=PP) (m:=m) (cs:=cs) (w:=w) h hp ho (z:=.int .i64 0) (by kernel_rfl) (by rw [show plM k T n x u (.ma i) = cMa k T n i x u from rfl,a1];rfl);refine ⟨hd,_,e1,?_⟩;have h2:=Z2E h1 A42 [];rw [show plM k T n x u (.ma i) = cMa k T n i x u from rfl,a2] at h2;exact Zfn (tag:=.ms i w.heap.size) (x:=x) (u:=u) h2
theorem ZkS {g:Goroutine} (h:ZA k T n cs (.ms i L) d g) {z:Value} {TT:TypeId} (hL:w.heap[L]? = some (.cells #[z] TT (0,0))) (hne:L ≠ K.Mu ∧ L ≠ K.Wg ∧ L ≠ K.Fd):
  d = 0 ∧ ∃ g',stepG PP m g w = .go g' (w.setCell ⟨L,0,none⟩ (qw i)) #[⟨.cell ⟨L,0,none⟩,true,false⟩] ∧ WM m K (ZA k T n cs (.md i L)) 0 g':=by
 obtain ⟨hd,x,u,f,fs,h,rfl⟩:=h;have hx:(cMs k T n i L u).sto = some (3,⟨L,0,none⟩,qw i):=by kernel_rfl
 have hq:(PP.funcs[(cMs k T n i L u).top.fn]?).any (·.norace) = false:=by kernel_rfl
 have hs1:Z30 PP (sizeOf 3) = some 1:=by kernel_rfl
 obtain ⟨e1,h1⟩:=ZfP (P:=PP) (m:=m) (cs:=cs) (w:=w) (st:=cMs k T n i L u) h hx hq (Z1Z hs1 w).1 rfl rfl (u:=z) (by rw [ZM hL];rfl) (Z1b hL 0) (Zd (Zip k T n i L u));have hS2:ShAt K (w.setCell ⟨L,0,none⟩ (qw i)) s:=⟨by rw [Zy (Ne.symm hne.1)];exact hS.mu,by rw [Zy (Ne.symm hne.2.1)];exact hS.wg,by rw [Zy (Ne.symm hne.2.2)];exact hS.fd⟩;refine ⟨hd,_,e1,edgM xokQ W ((Z0i ..).symm.trans (Zip k T n i L u)) hS2 (by simp) rfl (dm_s (x:=x)) h1 fun f' fs' h2=>?_⟩;exact Z02 (tag:=.md i L) (x:=x) (u:=u) dm_d h2
theorem Zks {g:Goroutine} (h:ZA k T n cs (.md i L) d g) (hv:v ≤ 2) (hs:s.wg = (v:Int) * 4294967296):
  d = 1 ∧ ∃ g' w',stepG PP m g w = .go g' w' #[⟨.cell ⟨K.Wg,0,none⟩,false,true⟩,⟨.cell ⟨K.Wg,0,none⟩,true,true⟩] ∧ Eff K w w' { s with wg:=((v + 1:Nat):Int) * 4294967296 } ∧ WM m K (ZA k T n cs (if v = 0 then .mr i L else .mg i L)) 1 g':=by
 obtain ⟨hd,x,u,f,fs,h,rfl⟩:=h;have hx:(cMd k T n i L u).ext PP = some (151,[pa k.W 0,.int .u64 4294967296]):=by kernel_rfl
 rw [W.W] at hx;have ew:=Zkm v hv;have hv3:v = 0 ∨ v = 1 ∨ v = 2:=by omega
 have ha:((cMd k T n i L u).ans (.int .u64 (IntKind.u64.wrap ((v:Int) * 4294967296 + 4294967296)))).isSome = true:=by
  rw [ew]
  rcases hv3 with rfl | rfl | rfl
  ·exact Zd (Zfq k T n i L u)
  ·exact Zd (ZfB k T n i L u)
  ·exact Zd (Zg5 k T n i L u)
 obtain ⟨e1,h1⟩:=Zcx (P:=PP) (m:=m) (cs:=cs) (w:=w) (st:=cMd k T n i L u) h hx Zd3 (by rw [hS.wg0,hs]) (hS.wgz 0) ha;rw [ew] at e1 h1;have hE:=Eff.wg0 W.ap hS (((v + 1:Nat):Int) * 4294967296);refine ⟨hd,_,_,e1,hE,?_⟩
 rcases hv3 with rfl | rfl | rfl
 ·rw [if_pos rfl]
  refine edgM xokQ W ((Z0i ..).symm.trans (Zfq k T n i L u)) hE.sh (by simp) rfl (dm_d (x:=x)) h1 fun f' fs' h2=>?_;exact Z02 (tag:=.mr i L) (x:=x) (u:=u) dm_r h2
 ·rw [if_neg (by omega)]
  refine edgM xokQ W ((Z0i ..).symm.trans (ZfB k T n i L u)) hE.sh (by simp) rfl (dm_d (x:=x)) h1 fun f' fs' h2=>?_;exact Z02 (tag:=.mg i L) (x:=x) (u:=u) dm_g h2
 ·rw [if_neg (by omega)]
  refine edgM xokQ W ((Z0i ..).symm.trans (Zg5 k T n i L u)) hE.sh (by simp) rfl (dm_d (x:=x)) h1 fun f' fs' h2=>?_;exact Z02 (tag:=.mg i L) (x:=x) (u:=u) dm_g h2
theorem Zka {g:Goroutine} (h:ZA k T n cs (.mr i L) d g): d = 1 ∧ ∃ g',stepG PP m g w = .go g' w #[⟨.mark (.read ⟨K.Wg,1,none⟩),false,true⟩] ∧ WM m K (ZA k T n cs (.mg i L)) 1 g':=by
 obtain ⟨hd,x,u,f,fs,h,rfl⟩:=h;have hx:(cMr k T n i L u).ext PP = some (136,[pa k.W 1]):=by kernel_rfl
 rw [W.W] at hx;obtain ⟨e1,h1⟩:=Z51 (P:=PP) (m:=m) (cs:=cs) (w:=w) (st:=cMr k T n i L u) (fun a g=>by simp) h hx Zii (Zd (Zg1 k T n i L u));refine ⟨hd,_,e1,edgM xokQ W ((Z0i ..).symm.trans (Zg1 k T n i L u)) hS (by simp) rfl (dm_r (x:=x)) h1 fun f' fs' h2=>?_⟩;exact Z02 (tag:=.mg i L) (x:=x) (u:=u) dm_g h2
theorem ZkX {g:Goroutine} (h:ZA k T n cs (.mg i L) d g) (hi:i < n) (hn:n ≤ 3): d = 0 ∧ ∃ g',stepG PP m g w = .spawn g' (born PP (task { k with L:=L })) w #[] ∧ WM m K (ZA k T n cs (if i + 1 < n then .ma (i + 1) else .w1)) 0 g':=by
 obtain ⟨hd,x,u,f,fs,h,rfl⟩:=h;have hp:(cMg k T n i L u).pend.map (·.op) = some (.go { callee:=.value (.tmp 25),args:=#[],argTypes:=#[] }):=by kernel_rfl
 have hx:(cMg k T n i L u).top.val (.tmp 25) = some (.func (.func 113) #[] #[pa k.W 0,pa k.I 0,pa L 0,pa k.N 0,pa k.B 0]):=by kernel_rfl
 obtain ⟨o,hp,ho⟩:=Option.map_eq_some_iff.1 hp;have e:=m_go k T n i L u;have ew:IntKind.i64.wrap ((i:Int) + 1) = ((i + 1:Nat):Int):=by
  have:i = 0 ∨ i = 1 ∨ i = 2:=by omega
  rcases this with rfl | rfl | rfl <;> rfl
 rw [ew] at e;obtain ⟨e1,h1⟩:=Zkd (P:=PP) (m:=m) (cs:=cs) (w:=w) (st:=cMg k T n i L u) h hp ho rfl rfl hx (Z3n e);refine ⟨hd,_,e1,edgM xokQ W e hS (by simp) rfl (dm_g (x:=x)) h1 fun f' fs' h2=>?_⟩;have hm:=Zcn (m:=m) (K:=K) (cs:=cs) (by omega:i + 1 ≤ n) h2;exact hm
end
end Go.Proofs.YtfelljbfeoplhaaGreat.Lift
namespace Go.Proofs.YtfelljbfeoplhaaGreat.Lift
open Go Go.Conc Go.Proofs.YtfelljbfeoplhaaGreat.Ev
open Go.ConcM (OsLater)
variable [Jk]
section
variable {K:Cx} {k:Wk} {T:Nat → Value} {n i L v:Nat} {cs:List Frame} {w:World} {s:Sh} {f:Frame} {fs:List Frame} {tag:CT} {x:Value} {u:Nat → Value} {d:Nat} {m:Bool}
theorem ZeJ (h:SOk (sM k T n).top (sM k T n).rest f fs):WM m K (ZA k T n cs (if 0 < n then .ma 0 else .w1)) 0 (run1 f (fs ++ cs)):=by
 have e:=Zh6 k T n;have e0:decide ((0:Int) < (n:Int)) = decide (((0:Nat):Int) < (n:Int)):=rfl;exact Zgi xokQ e h fun f' fs' h'=>Zcn (i:=0) (Nat.zero_le n) h'
theorem ZkU:(cMw2 k T n n x (kk 1) u).ext PP = some (158,[pa k.W 0,.int .u64 (((1:Nat):Int) * 4294967296),.int .u64 (((1:Nat):Int) * 4294967296 + 1)]):=by kernel_rfl
theorem Zl1:(cMx k T n n x (kk 1) u).ext PP = some (146,[pa k.W 1]):=by kernel_rfl
theorem Zk2:(cMw2 k T n n x (kk 2) u).ext PP = some (158,[pa k.W 0,.int .u64 (((2:Nat):Int) * 4294967296),.int .u64 (((2:Nat):Int) * 4294967296 + 1)]):=by kernel_rfl
theorem ZjW:(cMx k T n n x (kk 2) u).ext PP = some (146,[pa k.W 1]):=by kernel_rfl
theorem Zke:(cMw2 k T n n x (kk 3) u).ext PP = some (158,[pa k.W 0,.int .u64 (((3:Nat):Int) * 4294967296),.int .u64 (((3:Nat):Int) * 4294967296 + 1)]):=by kernel_rfl
theorem ZkL:(cMx k T n n x (kk 3) u).ext PP = some (146,[pa k.W 1]):=by kernel_rfl
variable (W:Wok K k) (hS:ShAt K w s)
include W hS
theorem Zkq {g:Goroutine} (h:ZA k T n cs .w1 d g) (hv:v ≤ 3) (hs:s.wg = (v:Int) * 4294967296):
  d = 1 ∧ ∃ g',stepG PP m g w = .go g' w #[⟨.cell ⟨K.Wg,0,none⟩,false,true⟩] ∧ WM m K (ZA k T n cs (if v = 0 then .mq else .w2 v)) 1 g':=by
 obtain ⟨hd,x,u,f,fs,h,rfl⟩:=h;have hx:(cMw1 k T n n x u).ext PP = some (152,[pa k.W 0]):=by kernel_rfl
 rw [W.W] at hx;have hv3:v = 0 ∨ v = 1 ∨ v = 2 ∨ v = 3:=by omega
 have hc:w.cell? ⟨K.Wg,0,none⟩ = some (.int .u64 ((v:Int) * 4294967296)):=by rw [hS.wg0,hs]
 rcases hv3 with rfl | rfl | rfl | rfl
 ·obtain ⟨e1,h1⟩:=Z3I (P:=PP) (m:=m) (cs:=cs) (w:=w) (st:=cMw1 k T n n x u) h hx Z3z hc (Zd (Zfk k T n n x u))
  rw [if_pos rfl];exact ⟨hd,_,e1,edgM xokQ W ((Z0i ..).symm.trans (Zfk k T n n x u)) hS (by simp) rfl (dm_1 (x:=x)) h1 fun f' fs' h2=>Z02 (tag:=.mq) (x:=x) (u:=u) dm_q h2⟩
 ·obtain ⟨e1,h1⟩:=Z3I (P:=PP) (m:=m) (cs:=cs) (w:=w) (st:=cMw1 k T n n x u) h hx Z3z hc (Zd (ZfV k T n n x u))
  rw [if_neg (by omega)];exact ⟨hd,_,e1,edgM xokQ W ((Z0i ..).symm.trans (ZfV k T n n x u)) hS (by simp) rfl (dm_1 (x:=x)) h1 fun f' fs' h2=>Z02 (tag:=.w2 1) (x:=x) (u:=u) Zjk h2⟩
 ·obtain ⟨e1,h1⟩:=Z3I (P:=PP) (m:=m) (cs:=cs) (w:=w) (st:=cMw1 k T n n x u) h hx Z3z hc (Zd (ZfE k T n n x u))
  rw [if_neg (by omega)];exact ⟨hd,_,e1,edgM xokQ W ((Z0i ..).symm.trans (ZfE k T n n x u)) hS (by simp) rfl (dm_1 (x:=x)) h1 fun f' fs' h2=>Z02 (tag:=.w2 2) (x:=x) (u:=u) ZiA h2⟩
 ·obtain ⟨e1,h1⟩:=Z3I (P:=PP) (m:=m) (cs:=cs) (w:=w) (st:=cMw1 k T n n x u) h hx Z3z hc (Zd (ZfA k T n n x u))
  rw [if_neg (by omega)];exact ⟨hd,_,e1,edgM xokQ W ((Z0i ..).symm.trans (ZfA k T n n x u)) hS (by simp) rfl (dm_1 (x:=x)) h1 fun f' fs' h2=>Z02 (tag:=.w2 3) (x:=x) (u:=u) Zia h2⟩
theorem Zjf (h1:1 ≤ v) (h3:v ≤ 3):(cMw2 k T n n x (kk v) u).ext PP = some (158,[pa k.W 0,.int .u64 ((v:Int) * 4294967296),.int .u64 ((v:Int) * 4294967296 + 1)]):=by
 have:v = 1 ∨ v = 2 ∨ v = 3:=by omega
 rcases this with rfl | rfl | rfl
 ·exact ZkU
 ·exact Zk2
 ·exact Zke
theorem ZkD (h1:1 ≤ v) (h3:v ≤ 3):∃ l ls,edg xtQ (cMw2 k T n n x (kk v) u) (.bool true) l ls = (true,cMx k T n n x (kk v) u,[⟨k.W,1,none⟩],[]):=by
 have:v = 1 ∨ v = 2 ∨ v = 3:=by omega
 rcases this with rfl | rfl | rfl
 ·exact ⟨_,_,ZiQ k T n n x u⟩
 ·exact ⟨_,_,ZiE k T n n x u⟩
 ·exact ⟨_,_,ZjM k T n n x u⟩
theorem ZjX (h1:1 ≤ v) (h3:v ≤ 3):∃ l ls,edg xtQ (cMw2 k T n n x (kk v) u) (.bool false) l ls = (true,cMw1 k T n n x u,[],[]):=by
 have:v = 1 ∨ v = 2 ∨ v = 3:=by omega
 rcases this with rfl | rfl | rfl
 ·exact ⟨_,_,Zh7 k T n n x u⟩
 ·exact ⟨_,_,Zgs k T n n x u⟩
 ·exact ⟨_,_,ZhL k T n n x u⟩
theorem Zk6 {g:Goroutine} (h:ZA k T n cs (.w2 v) d g) (h1:1 ≤ v) (h3:v ≤ 3) {v':Nat} (hs:s.wg = (v':Int) * 4294967296):
  d = 1 ∧ if v' = v then ∃ g' w',stepG PP m g w = .go g' w' #[⟨.cell ⟨K.Wg,0,none⟩,false,true⟩,⟨.cell ⟨K.Wg,0,none⟩,true,true⟩] ∧ Eff K w w' { s with wg:=(v:Int) * 4294967296 + 1 } ∧ WM m K (ZA k T n cs (.mx v)) 1 g'
   else ∃ g',stepG PP m g w = .go g' w #[⟨.cell ⟨K.Wg,0,none⟩,false,true⟩] ∧ WM m K (ZA k T n cs .w1) 1 g':=by
 obtain ⟨hd,x,u,f,fs,h,rfl⟩:=h;have hx:=Zjf (T:=T) (n:=n) (x:=x) (u:=u) W hS h1 h3;rw [W.W] at hx;obtain ⟨l,ls,e1⟩:=ZkD (T:=T) (n:=n) (x:=x) (u:=u) W hS h1 h3;obtain ⟨l0,ls0,e0⟩:=ZjX (T:=T) (n:=n) (x:=x) (u:=u) W hS h1 h3;refine ⟨hd,?_⟩
 split
 ·rename_i he
  subst he;obtain ⟨s1,k1⟩:=Z5R (P:=PP) (m:=m) (cs:=cs) (w:=w) (st:=cMw2 k T n n x (kk v') u) h hx Zds (by rw [hS.wg0,hs]) (hS.wgz 0) (Zd e1);have hE:=Eff.wg0 W.ap hS ((v':Int) * 4294967296 + 1);exact ⟨_,_,s1,hE,edgM xokQ W ((Z0i ..).symm.trans e1) hE.sh (by simp) rfl (dm_2 (x:=x) ⟨h1,h3⟩) k1 fun f' fs' h2=>Z02 (tag:=.mx v') (x:=x) (u:=u) (dm_x ⟨h1,h3⟩) h2⟩
 ·rename_i he
  obtain ⟨s1,k1⟩:=Z4K (P:=PP) (m:=m) (cs:=cs) (w:=w) (st:=cMw2 k T n n x (kk v) u) h hx Zds (by rw [hS.wg0,hs]) (hS.wgz 0) (by omega) (Zd e0);exact ⟨_,s1,edgM xokQ W ((Z0i ..).symm.trans e0) hS (by simp) rfl (dm_2 (x:=x) ⟨h1,h3⟩) k1 fun f' fs' h2=>Z02 (tag:=.w1) (x:=x) (u:=u) dm_1 h2⟩
theorem mx_e (h1:1 ≤ v) (h3:v ≤ 3):∃ l ls,edg xtQ (cMx k T n n x (kk v) u) (.tuple #[]) l ls = (true,cMw3 k T n n x u,[],[]):=by
 have:v = 1 ∨ v = 2 ∨ v = 3:=by omega
 rcases this with rfl | rfl | rfl
 ·exact ⟨_,_,ZkY k T n n x u⟩
 ·exact ⟨_,_,ZkV k T n n x u⟩
 ·exact ⟨_,_,ZkG k T n n x u⟩
theorem ZjE (h1:1 ≤ v) (h3:v ≤ 3):(cMx k T n n x (kk v) u).ext PP = some (146,[pa k.W 1]):=by
 have:v = 1 ∨ v = 2 ∨ v = 3:=by omega
 rcases this with rfl | rfl | rfl
 ·exact Zl1
 ·exact ZjW
 ·exact ZkL
theorem ZkT {g:Goroutine} (h:ZA k T n cs (.mx v) d g) (h1:1 ≤ v) (h3:v ≤ 3): d = 1 ∧ ∃ g',stepG PP m g w = .go g' w #[⟨.mark (.write ⟨K.Wg,1,none⟩),false,true⟩] ∧ WM m K (ZA k T n cs .w3) 1 g':=by
 obtain ⟨hd,x,u,f,fs,h,rfl⟩:=h;have hx:=ZjE (T:=T) (n:=n) (x:=x) (u:=u) W hS h1 h3;rw [W.W] at hx;obtain ⟨l,ls,e1⟩:=mx_e (T:=T) (n:=n) (x:=x) (u:=u) W hS h1 h3;obtain ⟨s1,k1⟩:=Z51 (P:=PP) (m:=m) (cs:=cs) (w:=w) (st:=cMx k T n n x (kk v) u) (fun a g=>by simp) h hx ZiH (Zd e1);exact ⟨hd,_,s1,edgM xokQ W ((Z0i ..).symm.trans e1) hS (by simp) rfl (dm_x (x:=x) ⟨h1,h3⟩) k1 fun f' fs' h2=>Z02 (tag:=.w3) (x:=x) (u:=u) dm_3 h2⟩
theorem Zkz {g:Goroutine} (h:ZA k T n cs .w3 d g): d = 1 ∧ (s.ws = 0 → stepG PP m g w = .go { g with status:=.blocked } w #[]) ∧
  (s.ws = 1 → ∃ g' w',stepG PP m g w = .go g' w' (semEvents ⟨K.Wg,1,none⟩) ∧ Eff K w w' { s with ws:=0 } ∧ WM m K (ZA k T n cs .w4) 1 g'):=by
 obtain ⟨hd,x,u,f,fs,h,rfl⟩:=h;have hx:∃ vs,(cMw3 k T n n x u).ext PP = some (147,pa k.W 1 :: vs):=⟨[.bool false],by kernel_rfl⟩;obtain ⟨vs,hx⟩:=hx;rw [W.W] at hx;refine ⟨hd,fun h0=>Z8V (st:=cMw3 k T n n x u) h hx Zg2 (by rw [hS.wg1,h0]),fun h1=>?_⟩;obtain ⟨s1,k1⟩:=Zft (P:=PP) (m:=m) (cs:=cs) (w:=w) (st:=cMw3 k T n n x u) (n:=1) h hx Zg2 (by rw [hS.wg1,h1]) (by decide) (hS.wgz 1) (Zd (m_w3 k T n n x u));have hE:=Eff.wg1 W.ap hS 0;exact ⟨_,_,s1,hE,edgM xokQ W ((Z0i ..).symm.trans (m_w3 k T n n x u)) hE.sh (by simp) rfl (dm_3 (x:=x)) k1 fun f' fs' h2=>Z02 (tag:=.w4) (x:=x) (u:=u) dm_4 h2⟩
theorem ZkH {g:Goroutine} (h:ZA k T n cs .w4 d g) (hs:s.wg = 0): d = 1 ∧ ∃ g',stepG PP m g w = .go g' w #[⟨.cell ⟨K.Wg,0,none⟩,false,true⟩] ∧ WM m K (ZA k T n cs .my) 1 g':=by
 obtain ⟨hd,x,u,f,fs,h,rfl⟩:=h;have hx:(cMw4 k T n n x u).ext PP = some (152,[pa k.W 0]):=by kernel_rfl
 rw [W.W] at hx;obtain ⟨e1,h1⟩:=Z3I (P:=PP) (m:=m) (cs:=cs) (w:=w) (st:=cMw4 k T n n x u) (v:=0) h hx Z3z (by rw [hS.wg0,hs]) (Zd (m_w4 k T n n x u));exact ⟨hd,_,e1,edgM xokQ W ((Z0i ..).symm.trans (m_w4 k T n n x u)) hS (by simp) rfl (dm_4 (x:=x)) h1 fun f' fs' h2=>Z02 (tag:=.my) (x:=x) (u:=u) dm_y h2⟩
theorem ZjI {g:Goroutine} (ht:tag = .my ∨ tag = .mq) (h:ZA k T n cs tag d g): d = 0 ∧ ∃ x u f fs,stepG PP m g w = .go (run1 f (fs ++ cs)) w #[⟨.mark (.acquire ⟨K.Wg,0,none⟩),false,true⟩] ∧ SOk ((plM k T n x u tag).an (.tuple #[])).top ((plM k T n x u tag).an (.tuple #[])).rest f fs:=by
 rcases ht with rfl | rfl
 ·obtain ⟨hd,x,u,f,fs,h,rfl⟩:=h
  have hx:(cMy k T n n x u).ext PP = some (143,[pa k.W 0]):=by kernel_rfl
  rw [W.W] at hx;obtain ⟨e1,h1⟩:=Z51 (P:=PP) (m:=m) (cs:=cs) (w:=w) (st:=cMy k T n n x u) (fun a g=>by simp) h hx Z8N (Zd (m_y k T n n x u));exact ⟨hd,x,u,_,fs,e1,h1⟩
 ·obtain ⟨hd,x,u,f,fs,h,rfl⟩:=h
  have hx:(cMq k T n n x u).ext PP = some (143,[pa k.W 0]):=by kernel_rfl
  rw [W.W] at hx;obtain ⟨e1,h1⟩:=Z51 (P:=PP) (m:=m) (cs:=cs) (w:=w) (st:=cMq k T n n x u) (fun a g=>by simp) h hx Z8N (Zd (m_q k T n n x u));exact ⟨hd,x,u,_,fs,e1,h1⟩
end
end Go.Proofs.YtfelljbfeoplhaaGreat.Lift
namespace Go.Proofs.YtfelljbfeoplhaaGreat.Lift
open Go Go.Conc Go.Proofs.YtfelljbfeoplhaaGreat.Ev
open Go.Proofs.YtfelljbfeoplhaaGreat.Mx (mvt isSp isR1 isS1 sm sms OUT L0 lk sticks)
open Go.ConcM (OsLater woken_by_blocked)
open Go.ConcN (upd upd_ne upd_same)
variable [Jk]
inductive Hh where
 | leaf
 | node (f:World → Hh)
def Hh.sub (a b:Hh):Prop:=∃ f w,b = .node f ∧ a = f w
theorem Hh.wf:WellFounded Hh.sub:=by
 refine ⟨fun a=>?_⟩
 induction a with
 | leaf=>exact ⟨_,fun b ⟨f,w,e,_⟩=>by cases e⟩
 | node f ih=>exact ⟨_,fun b ⟨f',w,e,hb⟩=>by cases e;rw [hb];exact ih w⟩
inductive WTh (P:Program) (m:Bool) (K:Cx) (RO:Nat → Prop) (Stop:(Nat → Prop) → Nat → Goroutine → World → Prop):Hh → (Nat → Prop) → Nat → Goroutine → World → Prop
 | stop {h O d g w} (hs:∀ w1,Rely K O w w1 → Stop O d g w1):WTh P m K RO Stop h O d g w
 | step {f O d g w} (hr:g.status = .running) (ok:∀ w1,Rely K O w w1 → ∃ g' w' es,stepG P m g w1 = .go g' w' es ∧ Guar K RO O w1 w' es)
   (hk:∀ w1,Rely K O w w1 → ∀ g' w' es,stepG P m g w1 = .go g' w' es → WTh P m K RO Stop (f w1) (Grow O w1 w') (deafBehind d es) g' w'):WTh P m K RO Stop (.node f) O d g w
section
variable {P:Program} {K:Cx} {m:Bool} {d:Nat} {RO O:Nat → Prop} {Stop:(Nat → Prop) → Nat → Goroutine → World → Prop} {w w' w1:World} {g:Goroutine} {h:Hh}
theorem WT.height (t:WT P m K RO Stop O d g w):∃ h,WTh P m K RO Stop h O d g w:=by
 induction t with
 | stop hs=>exact ⟨.leaf,.stop hs⟩
 | @step O d g w hr ok _ ih =>
  classical
  have key:∀ w1,∃ h:Hh,Rely K O w w1 → ∀ g' w' es,stepG P m g w1 = .go g' w' es → WTh P m K RO Stop h (Grow O w1 w') (deafBehind d es) g' w':=by
   intro w1
   by_cases hw:Rely K O w w1
   ·obtain ⟨g',w',es,e,hG⟩:=ok w1 hw
    obtain ⟨h,hh⟩:=ih w1 hw g' w' es e;refine ⟨h,fun _ g2 w2 es2 e2=>?_⟩;rw [e] at e2;simp only [GStep.go.injEq] at e2;obtain ⟨rfl,rfl,rfl⟩:=e2;exact hh
   ·exact ⟨.leaf,fun h=>absurd h hw⟩
  exact ⟨.node fun w1=>Classical.choose (key w1),.step hr ok fun w1 hw=>Classical.choose_spec (key w1) hw⟩
theorem WTh.rely (t:WTh P m K RO Stop h O d g w) (k:Rely K O w w1):WTh P m K RO Stop h O d g w1:=by
 cases t with
 | stop hs=>exact .stop fun w2 h2=>hs w2 (k.trans h2)
 | step hr ok hk=>exact .step hr (fun w2 h2=>ok w2 (k.trans h2)) fun w2 h2=>hk w2 (k.trans h2)
theorem WTh.running (hS:∀ O d g w,Stop O d g w → g.status = .running) (t:WTh P m K RO Stop h O d g w):g.status = .running:=by
 cases t with
 | stop hs=>exact hS _ _ _ _ (hs w (Rely.refl K O w))
 | step hr _ _=>exact hr
theorem WTh.cases' (t:WTh P m K RO Stop h O d g w):Stop O d g w ∨ ∃ g' w' es h',stepG P m g w = .go g' w' es ∧ Guar K RO O w w' es ∧ WTh P m K RO Stop h' (Grow O w w') (deafBehind d es) g' w' ∧ Hh.sub h' h:=by
 cases t with
 | stop hs=>exact .inl (hs w (Rely.refl K O w))
 | @step f _ _ _ _ hr ok hk =>
  obtain ⟨g',w',es,e,hG⟩:=ok w (Rely.refl K O w);exact .inr ⟨g',w',es,_,e,hG,hk w (Rely.refl K O w) g' w' es e,f,w,rfl,rfl⟩
end
inductive WS where
 | no | mx (c it:Nat) | d1 | d2 | d3 | d4 | qt
namespace WS
def code (b:Bool):WS → Nat
 | .no=>bif b then L0 else OUT
 | .mx c _=>c
 | _=>OUT
def stg:WS → Nat
 | .no=>8
 | .mx _ _=>7
 | .d1=>5
 | .d2=>4
 | .d3=>3
 | .d4=>2
 | .qt=>0
def spn:WS → Nat
 | .mx c it=>sm c it
 | _=>0
def cnt:WS → Nat
 | .mx _ _ | .d1=>1
 | _=>0
end WS
def pend:CT → Nat
 | .mr _ _ | .mg _ _=>1
 | _=>0
def Za2:CT → Prop
 | .mx _ | .w3 | .w4 | .my | .mq=>False
 | _=>True
def ZjF:CT → Prop
 | .w4 | .my | .mq=>True
 | _=>False
def Z7u:CT → Prop
 | .mx _ | .w3=>True
 | _=>False
def tagJ (n:Nat):CT → Nat
 | .ma i | .ms i _ | .md i _ | .mr i _ | .mg i _=>i
 | _=>n
def Z6b (n:Nat):CT → Prop
 | .ma i | .ms i _ | .md i _ | .mr i _ | .mg i _=>i < n
 | .w2 v | .mx v=>1 ≤ v ∧ v ≤ 3
 | _=>True
def vsum (ws:Nat → WS):Nat:=(ws 0).cnt + (ws 1).cnt + (ws 2).cnt
def phi (n v:Nat):CT → Nat
 | .ma i=>100 + 10 * (n - i) + 5
 | .ms i _=>100 + 10 * (n - i) + 4
 | .md i _=>100 + 10 * (n - i) + 3
 | .mr i _=>100 + 10 * (n - i) + 2
 | .mg i _=>100 + 10 * (n - i) + 1
 | .w1=>50 + 2 * v + 1
 | .w2 v'=>50 + 2 * v'
 | .mx _=>40
 | .w3=>30
 | .w4=>20
 | .my | .mq=>10
def pst (c:Nat):Bool:=Nat.beq c 36 || Nat.beq c 37 || Nat.beq c 38 || Nat.beq c 39 || Nat.beq c 40 || Nat.beq c 41 || Nat.beq c OUT
inductive Mode (ws:Nat → WS):CT → Int → Int → Prop
 | opn {tag:CT}:Za2 tag → (∀ x,ws x = .no ∨ (∃ c it,ws x = .mx c it) ∨ ws x = .d1 ∨ ws x = .qt) → (∀ v,tag = .w2 v → vsum ws ≤ v) → Mode ws tag (((vsum ws + pend tag:Nat):Int) * 4294967296) 0
 | reg {tag:CT}:Z7u tag → (∀ x,ws x = .no ∨ (∃ c it,ws x = .mx c it) ∨ ws x = .d1 ∨ ws x = .qt) → 1 ≤ vsum ws → Mode ws tag ((vsum ws:Int) * 4294967296 + 1) 0
 | last {tag:CT} (L:Nat):Z7u tag → L < 3 → (ws L = .d2 ∨ ws L = .d3) → (∀ x,x ≠ L → ws x = .no ∨ ws x = .qt) → Mode ws tag 1 0
 | last4 {tag:CT} (L:Nat):Z7u tag → L < 3 → ws L = .d4 → (∀ x,x ≠ L → ws x = .no ∨ ws x = .qt) → Mode ws tag 0 0
 | sema {tag:CT}:Z7u tag → (∀ x,ws x = .no ∨ ws x = .qt) → Mode ws tag 0 1
 | fin {tag:CT}:ZjF tag → (∀ x,ws x = .no ∨ ws x = .qt) → Mode ws tag 0 0
structure Ph where
 K:Cx
 k:Wk
 T:Nat → Value
 n:Nat
 cs:List Frame
 D:Nat → Prop
 m0:Nat
 p0:Nat
 β:Nat → Bool
 wS:World
structure Da where
 tag:CT
 ws:Nat → WS
 Lb:Nat → Nat
 Z:Zn
 h0:Nat
 h:Nat → Hh
 q:Nat → Nat
 d0:Nat
 r:Nat
 mu:Nat
 ms:Nat
 s:Sh
def Ph.kx (X:Ph) (Lb:Nat → Nat) (x:Nat):Wk:={ X.k with L:=Lb x,lamp:=x }
section
variable (X:Ph) (Y:Da)
def Cal (a:Goroutine) (w:World):Prop:=
 Z8w true X.K (ZA X.k X.T X.n X.cs Y.tag) Y.h0 Y.d0 a ∨ (Y.tag = .w3 ∧ Y.s.ws = 0 ∧ a.status = .blocked ∧ a.offers = none ∧ ZA X.k X.T X.n X.cs .w3 Y.d0 { a with status:=.running })
def Wrk (x d:Nat) (g:Goroutine) (w:World):Prop:=
 match Y.ws x with
 | .no=>False
 | .mx c it=>itOk c it ∧ (WTh PP false X.K (Y.Z.RO x) (Z0v (X.kx Y.Lb x) [bot] c it) (Y.h x) (Y.Z.O x) d g w ∨ (isS1 c = true ∧ Y.ms = 0 ∧ g.status = .blocked ∧ g.offers = none ∧ Z0v (X.kx Y.Lb x) [bot] c it (Y.Z.O x) d { g with status:=.running } w))
 | .d1=>Slip (Z1i (X.kx Y.Lb x) [bot] 1) (Y.q (X.m0 + x)) d g
 | .d2=>Slip (Z1i (X.kx Y.Lb x) [bot] 2) (Y.q (X.m0 + x)) d g
 | .d3=>Slip (Z1i (X.kx Y.Lb x) [bot] 3) (Y.q (X.m0 + x)) d g
 | .d4=>Slip (Z1i (X.kx Y.Lb x) [bot] 4) (Y.q (X.m0 + x)) d g
 | .qt=>QuitsD PP (Y.q (X.m0 + x)) d g
def curL (tag:CT) (c:Nat):Prop:=match tag with
 | .ms _ L | .md _ L | .mr _ L | .mg _ L=>c = L
 | _=>False
structure Ci (gs:Array Goroutine) (w:World) (t:Trace):Prop where
 size:gs.size = X.m0 + Y.Z.j
 zm:Y.Z.m0 = X.m0
 zj:Y.Z.j = tagJ X.n Y.tag
 tok:Z6b X.n Y.tag
 old:∀ i g,0 < i → i < X.m0 → gs[i]? = some g → QuitsD PP (Y.q i) (Deaf t i) g
 cal:∃ a,gs[0]? = some a ∧ Cal X Y a w
 wrk:∀ x,x < Y.Z.j → ∃ g,gs[X.m0 + x]? = some g ∧ Wrk X Y x (Deaf t (X.m0 + x)) g w
 no:∀ x,Y.Z.j ≤ x → Y.ws x = .no
 sh:ShAt X.K w Y.s
 vmu:Y.s.mu = (Y.mu:Int)
 vms:Y.s.ms = (Y.ms:Int)
 tab:lk ((Y.ws 0).code (X.β 0)) ((Y.ws 1).code (X.β 1)) ((Y.ws 2).code (X.β 2)) Y.mu Y.ms = some Y.r
 out:∀ x,X.β x = false → (Y.ws x).code (X.β x) = OUT
 len:Y.s.fd.length = X.n
 fd:∀ x,x < X.n → Y.s.fd[x]? = some (X.β x && pst ((Y.ws x).code (X.β x)))
 mode:Mode Y.ws Y.tag Y.s.wg Y.s.ws
 bx:∀ x,x < Y.Z.j → Bx (X.kx Y.Lb x) (Y.Z.RO x) w ∧ Off3 X.K (X.kx Y.Lb x)
 low:∀ x c,x < Y.Z.j → Y.Z.O x c → c < w.heap.size
 new:∀ x c,x < Y.Z.j → c < X.wS.heap.size → Y.Z.O x c → Y.Z.RO x c
 ro:∀ x c,Y.Z.RO x c → Y.Z.O x c
 om:Y.Z.Om = curL Y.tag
 lmp:∀ c,curL Y.tag c → X.wS.heap.size ≤ c ∧ c < w.heap.size ∧ ∃ z TT,w.heap[c]? = some (.cells #[z] TT (0,0)) ∧ ((∀ i L,Y.tag ≠ .ms i L) → z = qw (Y.Z.j:Int))
 sep:Sep X.K X.D Y.Z
 ti:TI X.K X.D Y.Z w.heap.size X.p0 Y.d0 t
 said:∀ x,x < Y.Z.j → (∀ c it,Y.ws x ≠ .mx c it) → Said X.K Y.Z X.p0 t x
 kept:∀ c,c < X.wS.heap.size → c ≠ X.K.Mu → c ≠ X.K.Wg → c ≠ X.K.Fd → w.heap[c]? = X.wS.heap[c]?
 grow:X.wS.heap.size ≤ w.heap.size
 os:OsLater X.wS.os w.os
 outp:w.output = X.wS.output
structure PhOk:Prop where
 n3:X.n ≤ 3
 m0:0 < X.m0
 ok:∀ Lb x,x < X.n → Wok X.K (X.kx Lb x)
 wok:Wok X.K X.k
 kn:X.k.n = X.n
 βn:∀ x,X.n ≤ x → X.β x = false
 dlow:∀ c,X.D c → c < X.wS.heap.size
 isB:∃ T fz,X.wS.heap[X.k.I]? = some (.cells #[X.k.clo] T fz)
 fdB:∃ T fz,X.wS.heap[X.k.B]? = some (.cells #[.slice (some ⟨X.k.D,0,none⟩) X.k.n X.k.c] T fz)
 iO:X.k.I ≠ X.K.Mu ∧ X.k.I ≠ X.K.Wg ∧ X.k.I ≠ X.K.Fd ∧ ¬ X.D X.k.I
 bO:X.k.B ≠ X.K.Mu ∧ X.k.B ≠ X.K.Wg ∧ X.k.B ≠ X.K.Fd ∧ ¬ X.D X.k.B
end
end Go.Proofs.YtfelljbfeoplhaaGreat.Lift
namespace Go.Proofs.YtfelljbfeoplhaaGreat.Lift
open Go Go.Conc Go.Proofs.YtfelljbfeoplhaaGreat.Ev
open Go.Proofs.YtfelljbfeoplhaaGreat.Mx (mvt isSp isR1 isS1 sm sms OUT L0 lk sticks)
open Go.ConcM (OsLater woken_by_blocked)
open Go.ConcN (upd upd_ne upd_same)
variable [Jk]
theorem Z17 {a b:Os} (h:OsLater a b):b.env = a.env:=by
 obtain ⟨d,rfl⟩:=h
 rfl
section
variable {X:Ph} {Y Y':Da} {gs:Array Goroutine} {w w':World} {t:Trace} {a g g':Goroutine} {es:Array Event} {x:Nat} {d:Nat}
def Zap (g g':Goroutine):Prop:=mayWake PP g = true ∧ g'.status = .running
theorem Z7Z (hb:a.status = .blocked) (ho:a.offers = none):woken PP g g' w a = a ∨ woken PP g g' w a = { a with status:=.running }:=by
 unfold woken
 split
 ·refine .inr ?_
  unfold Goroutine.again;rw [hb,ho]
 ·exact .inl rfl
theorem Z5M (hb:a.status = .blocked) (ho:a.offers = none) (h:Zap g g'):woken PP g g' w a = { a with status:=.running }:=by
 unfold woken;rw [h.1,h.2];simp only [Bool.true_and];rw [if_pos (by decide)];unfold Goroutine.again;rw [hb,ho]
theorem Z4P {k:Wk} {T:Nat → Value} {cs:List Frame} {tag:CT}: ∀ d g,ZA k T n cs tag d g → g.status = .running:=by
 rintro d g ⟨_,x,u,f,fs,_,rfl⟩
 rfl
theorem Z4t {K:Cx} {k:Wk} {T:Nat → Value} {q d: Nat} {cs:List Frame} {tag:CT} {g:Goroutine} {m:Bool} (h:Z8w m K (ZA k T n cs tag) q d g): g.status = .running:=by
 cases q with
 | zero=>exact Z4P _ _ h
 | succ q=>exact h.elim (Z4P _ _) fun h=>h.1
theorem ZaZ {m:Bool} {K:Cx} {Stop:Nat → Goroutine → Prop} {d:Nat} {g:Goroutine} (h:Stop d g): ∀ q,Z8w m K Stop q d g
 | 0=>h
 | q + 1=>.inl h
theorem Z1F {k:Wk} {cs:List Frame} {c it:Nat}: ∀ O d g w,Z0v k cs c it O d g w → g.status = .running:=by
 rintro O d g w ⟨_,f,fs,wst,q,_,rfl⟩
 rfl
theorem Z09 {k:Wk} {cs:List Frame} {q d: Nat} {g:Goroutine} (h:Slip (Z1i k cs n) q d g): g.status = .running:=by
 have:∀ d g,Z1i k cs n d g → g.status = .running:=by
  rintro d g ⟨_,f,fs,_,rfl⟩
  rfl
 cases q with
 | zero=>exact this _ _ h
 | succ q=>exact h.elim (this _ _) fun h=>h.1
theorem Cal.keep (h:Cal X Y a w) (l:Rely X.K NO w w') (e1:Y'.tag = Y.tag) (e2:Y'.h0 = Y.h0) (e3:Y'.d0 = Y.d0) (hw:Y.s.ws = 0 → Y'.s.ws = 0 ∨ Zap g g'):Cal X Y' (woken PP g g' w' a) w':=by
 unfold Cal at h ⊢;rw [e1,e2,e3]
 rcases h with h | ⟨h1,h2,h3,h4,h5⟩
 ·rw [woken_running (Z4t h)]
  exact .inl h
 ·rw [h1]
  have go:Z8w true X.K (ZA X.k X.T X.n X.cs .w3) Y.h0 Y.d0 { a with status:=.running }:=ZaZ h5 _
  rcases hw h2 with hw | hw
  ·rcases Z7Z (w:=w') (g:=g) (g':=g') h3 h4 with e | e
   ·rw [e];exact .inr ⟨rfl,hw,h3,h4,h5⟩
   ·rw [e];exact .inl go
  ·rw [Z5M h3 h4 hw];exact .inl go
theorem Wrk.keep (h:Wrk X Y x d a w) (l:Rely X.K (Y.Z.O x) w w') (e1:Y'.ws x = Y.ws x) (e2:Y'.h x = Y.h x) (e3:Y'.Z.O x = Y.Z.O x) (e4:Y'.Z.RO x = Y.Z.RO x) (e5:Y'.Lb x = Y.Lb x) (e6:Y'.q (X.m0 + x) = Y.q (X.m0 + x)) (hw:Y.ms = 0 → Y'.ms = 0 ∨ Zap g g'):Wrk X Y' x d (woken PP g g' w' a) w':=by
 have ek:X.kx Y'.Lb x = X.kx Y.Lb x:=by unfold Ph.kx;rw [e5]
 unfold Wrk at h ⊢;rw [e1,e2,e3,e4,e6,ek]
 cases hs:Y.ws x with
 | no=>rw [hs] at h;exact h
 | mx c it =>
  rw [hs] at h;dsimp only at h ⊢;obtain ⟨hi,h⟩:=h;refine ⟨hi,?_⟩
  rcases h with h | ⟨h1,h2,h3,h4,h5⟩
  ·rw [woken_running (h.running Z1F)]
   exact .inl (h.rely l)
  ·have go:∀ w,WTh PP false X.K (Y.Z.RO x) (Z0v (X.kx Y.Lb x) [bot] c it) (Y.h x) (Y.Z.O x) d { a with status:=.running } w:=fun w=>.stop fun w1 _=>h5
   rcases hw h2 with hw | hw
   ·rcases Z7Z (w:=w') (g:=g) (g':=g') h3 h4 with e | e
    ·rw [e];exact .inr ⟨h1,hw,h3,h4,h5⟩
    ·rw [e];exact .inl (go _)
   ·rw [Z5M h3 h4 hw];exact .inl (go _)
 | d1=>rw [hs] at h;dsimp only at h ⊢;rw [woken_running (Z09 h)];exact h
 | d2=>rw [hs] at h;dsimp only at h ⊢;rw [woken_running (Z09 h)];exact h
 | d3=>rw [hs] at h;dsimp only at h ⊢;rw [woken_running (Z09 h)];exact h
 | d4=>rw [hs] at h;dsimp only at h ⊢;rw [woken_running (Z09 h)];exact h
 | qt=>rw [hs] at h;dsimp only at h ⊢;rw [woken_quitsD h];exact h
def Da.wk (Y:Da) (m0 x:Nat) (σ:WS) (O':Nat → Prop) (hx:Hh) (qx:Nat) (s:Sh) (mu ms r:Nat):Da:=
 { Y with ws:=upd Y.ws x σ,Z:={ Y.Z with O:=upd Y.Z.O x O' },h:=upd Y.h x hx,q:=upd Y.q (m0 + x) qx,s:=s,mu:=mu,ms:=ms,r:=r }
theorem Z0g {i j:Nat} {f:Goroutine → Goroutine} (h:i ≠ j): ((gs.map f).setIfInBounds i g')[j]? = (gs[j]?).map f:=by
 rw [Array.getElem?_setIfInBounds_ne h,Array.getElem?_map]
theorem Z2n {i:Nat} {f:Goroutine → Goroutine} (h:i < gs.size): ((gs.map f).setIfInBounds i g')[i]? = some g':=by
 rw [Array.getElem?_setIfInBounds_self_of_lt (by simpa using h)]
theorem Ci.wstep (C:Ci X Y gs w t) (hok:PhOk X) (hx:x < Y.Z.j) (hg:gs[X.m0 + x]? = some g) {σ:WS} {hx':Hh} {qx:Nat} {s':Sh} {mu' ms' r':Nat} {fn:FuncId} {pos:String} (hfar:∀ c,c < w.heap.size → ¬ Y.Z.O x c → c ≠ X.K.Mu → c ≠ X.K.Wg → c ≠ X.K.Fd → w'.heap[c]? = w.heap[c]?) (hro:∀ c,Y.Z.RO x c → w'.heap[c]? = w.heap[c]?) (hsize:w.heap.size ≤ w'.heap.size) (hos:OsLater w.os w'.os) (hout:w'.output = w.output) (sh':ShAt X.K w' s') (vmu':s'.mu = (mu':Int)) (vms':s'.ms = (ms':Int)) (tab':lk (((upd Y.ws x σ) 0).code (X.β 0)) (((upd Y.ws x σ) 1).code (X.β 1)) (((upd Y.ws x σ) 2).code (X.β 2)) mu' ms' = some r') (out':X.β x = false → σ.code (X.β x) = OUT) (len':s'.fd.length = X.n) (fd':∀ y,y < X.n → s'.fd[y]? = some (X.β y && pst (((upd Y.ws x σ) y).code (X.β y)))) (mode':Mode (upd Y.ws x σ) Y.tag s'.wg s'.ws) (hev:EvT X.K { Y.Z with O:=upd Y.Z.O x (Grow (Y.Z.O x) w w') } x w'.heap.size (Deaf t (X.m0 + x)) es) (hwk:(Y.ms = 0 → ms' = 0 ∨ Zap g g') ∧ (Y.s.ws = 0 → s'.ws = 0 ∨ Zap g g')) (hown:Wrk X (Y.wk X.m0 x σ (Grow (Y.Z.O x) w w') hx' qx s' mu' ms' r') x (deafBehind (Deaf t (X.m0 + x)) es) g' w') (hsaid:(∀ c it,σ ≠ .mx c it) → Said X.K Y.Z X.p0 (t ++ MemOp.ofEvents (X.m0 + x) fn pos es) x):
  Ci X (Y.wk X.m0 x σ (Grow (Y.Z.O x) w w') hx' qx s' mu' ms' r') ((gs.map (woken PP g g' w')).setIfInBounds (X.m0 + x) g') w' (t ++ MemOp.ofEvents (X.m0 + x) fn pos es):=by
 have hlt:X.m0 + x < gs.size:=(Array.getElem?_eq_some_iff.1 hg).1;have hm0:=hok.m0;have l1:=(Array.getElem?_eq_some_iff.1 C.sh.mu).1;have l2:=(Array.getElem?_eq_some_iff.1 C.sh.wg).1;have l3:=(Array.getElem?_eq_some_iff.1 C.sh.fd).1;have S:=C.sep;have hu:∀ op ∈ MemOp.ofEvents (X.m0 + x) fn pos es,op.g = X.m0 + x:=fun op hop=>by obtain ⟨e,_,rfl⟩:=Go.Conc.mem_ofEvents hop;rfl
 -- what others may rely on
 have hrel:∀ y,y < Y.Z.j → y ≠ x → Rely X.K (Y.Z.O y) w w':=fun y hy hne=>⟨fun c hc=>by
  by_cases ho:Y.Z.O x c
  ·exact hro c (S.two x y c hx hy (Ne.symm hne) ho hc).1
  ·have:=S.shared y c hy hc
   exact hfar c (C.low y c hy hc) ho this.1 this.2.1 this.2.2.1,hsize,Z17 hos,fun _=>⟨s',sh'⟩⟩
 have hZO:∀ y,y ≠ x → (upd Y.Z.O x (Grow (Y.Z.O x) w w')) y = Y.Z.O y:=fun y hy=>upd_ne _ _ hy;have hZx:(upd Y.Z.O x (Grow (Y.Z.O x) w w')) x = Grow (Y.Z.O x) w w':=upd_same _ _ _;have S':Sep X.K X.D { Y.Z with O:=upd Y.Z.O x (Grow (Y.Z.O x) w w') }:=by
  refine ⟨fun i c hi hc=>?_,fun i i' c hi hi' hne hc hc'=>?_,fun c hc=>S.own c hc,S.fd⟩
  ·by_cases hix:i = x
   ·subst hix
    dsimp only at hc;rw [hZx] at hc
    rcases hc with hc | ⟨hc,_⟩
    ·exact S.shared i c hx hc
    ·refine ⟨by omega,by omega,by omega,fun hd=>?_,fun ho=>?_⟩
     ·have:=hok.dlow c hd
      have:=C.grow;omega
     ·dsimp only at ho
      rw [C.om] at ho;have:=(C.lmp c ho).2.1;omega
   ·dsimp only at hc
    rw [hZO i hix] at hc;exact S.shared i c hi hc
  ·dsimp only at hc hc'
   by_cases hix:i = x
   ·subst hix
    rw [hZx] at hc;rw [hZO i' (Ne.symm hne)] at hc'
    rcases hc with hc | ⟨hc,_⟩
    ·exact S.two i i' c hi hi' hne hc hc'
    ·have:=C.low i' c hi' hc'
     omega
   ·rw [hZO i hix] at hc
    by_cases hix':i' = x
    ·subst hix'
     rw [hZx] at hc'
     rcases hc' with hc' | ⟨hc',_⟩
     ·exact S.two i i' c hi hi' hne hc hc'
     ·have:=C.low i c hi hc
      omega
    ·rw [hZO i' hix'] at hc'
     exact S.two i i' c hi hi' hne hc hc'
 have kz:Zle Y.Z { Y.Z with O:=upd Y.Z.O x (Grow (Y.Z.O x) w w') } w.heap.size:=by
  refine ⟨rfl,rfl,fun y c hc=>?_,fun y c hc=>?_,rfl,rfl⟩
  ·by_cases hy:y = x
   ·subst hy;dsimp only;rw [hZx];exact .inl hc
   ·dsimp only;rw [hZO y hy];exact hc
  ·by_cases hy:y = x
   ·subst hy
    dsimp only at hc;rw [hZx] at hc;exact hc.imp id fun h=>h.1
   ·dsimp only at hc
    rw [hZO y hy] at hc;exact .inl hc
 have hTI:TI X.K X.D { Y.Z with O:=upd Y.Z.O x (Grow (Y.Z.O x) w w') } w'.heap.size X.p0 Y.d0 (t ++ MemOp.ofEvents (X.m0 + x) fn pos es):=by
  have:=C.ti.worker (B':=w'.heap.size) S' kz hsize hx (fn:=fn) (pos:=pos) (es:=es) rfl (by rw [C.zm];exact hev);rw [C.zm] at this;exact this
 have hdo:∀ i,i ≠ X.m0 + x → Deaf (t ++ MemOp.ofEvents (X.m0 + x) fn pos es) i = Deaf t i:=fun i hi=>Deaf_other t (Ne.symm hi) _ hu;refine ⟨Eq.trans (by simp) C.size,C.zm,C.zj,C.tok,fun i y h0 hi hy=>?_,?_,fun y hy=>?_,fun y hy=>?_,sh',vmu',vms',tab',fun y hy=>?_,len',fd',mode',fun y hy=>?_,fun y c hy hc=>?_,fun y c hy hc ho=>?_,fun y c hc=>?_,C.om,fun c hc=>?_,S',hTI,fun y hy hs=>?_,fun c hc h1 h2 h3=>?_,Nat.le_trans C.grow hsize,OsLater.trans C.os hos,hout.trans C.outp⟩
 ·rw [Z0g (by omega)] at hy
  obtain ⟨z,hz,rfl⟩:=Option.map_eq_some_iff.1 hy;have hq:=C.old i z h0 hi hz;rw [woken_quitsD hq,hdo i (by omega)];show QuitsD PP (upd Y.q (X.m0 + x) qx i) _ _;rw [upd_ne _ _ (by omega)];exact hq
 ·obtain ⟨a,h0,ha⟩:=C.cal
  refine ⟨_,by rw [Z0g (by omega),h0];rfl,ha.keep ⟨fun c hc=>hc.elim,hsize,Z17 hos,fun _=>⟨s',sh'⟩⟩ rfl rfl rfl hwk.2⟩
 ·by_cases hyx:y = x
  ·subst hyx
   refine ⟨g',Z2n hlt,?_⟩;rw [Deaf_own];exact hown
  ·obtain ⟨z,hz,hw⟩:=C.wrk y hy
   refine ⟨_,by rw [Z0g (by omega),hz];rfl,?_⟩;rw [hdo _ (by omega)];exact hw.keep (hrel y hy hyx) (upd_ne _ _ hyx) (upd_ne _ _ hyx) (hZO y hyx) rfl rfl (upd_ne _ _ (by omega)) hwk.1
 ·have hy':Y.Z.j ≤ y:=hy
  show upd Y.ws x σ y = .no;rw [upd_ne _ _ (by omega)];exact C.no y hy'
 ·show (upd Y.ws x σ y).code _ = OUT
  by_cases hyx:y = x
  ·subst hyx;rw [upd_same];exact out' hy
  ·rw [upd_ne _ _ hyx];exact C.out y hy
 ·obtain ⟨b1,b2⟩:=C.bx y hy
  refine ⟨?_,b2⟩
  by_cases hyx:y = x
  ·subst hyx
   exact b1.rely ⟨fun c hc=>hro c hc,hsize,Z17 hos,fun _=>⟨s',sh'⟩⟩
  ·have:=hrel y hy hyx
   exact b1.rely ⟨fun c hc=>this.keep c (C.ro y c hc),hsize,Z17 hos,fun _=>⟨s',sh'⟩⟩
 ·show c < w'.heap.size
  have hc':upd Y.Z.O x (Grow (Y.Z.O x) w w') y c:=hc
  by_cases hyx:y = x
  ·subst hyx
   rw [hZx] at hc'
   rcases hc' with hc' | ⟨_,hc'⟩
   ·have:=C.low y c hy hc'
    omega
   ·exact hc'
  ·rw [hZO y hyx] at hc'
   have:=C.low y c hy hc';omega
 ·have ho':upd Y.Z.O x (Grow (Y.Z.O x) w w') y c:=ho
  show Y.Z.RO y c
  by_cases hyx:y = x
  ·subst hyx
   rw [hZx] at ho'
   rcases ho' with ho' | ⟨ho',_⟩
   ·exact C.new y c hy hc ho'
   ·have:=C.grow
    omega
  ·rw [hZO y hyx] at ho'
   exact C.new y c hy hc ho'
 ·show upd Y.Z.O x (Grow (Y.Z.O x) w w') y c
  have hc':Y.Z.RO y c:=hc
  by_cases hyx:y = x
  ·subst hyx;rw [hZx];exact .inl (C.ro y c hc')
  ·rw [hZO y hyx];exact C.ro y c hc'
 ·have hc':curL Y.tag c:=hc
  obtain ⟨a1,a2,z,TT,a3,a4⟩:=C.lmp c hc';refine ⟨a1,by omega,z,TT,?_,a4⟩;have hn:¬ Y.Z.O x c:=fun ho=>(S.shared x c hx ho).2.2.2.2 (by rw [C.om];exact hc');have:=S.own c (by rw [C.om];exact hc');rw [hfar c a2 hn this.1 this.2.1 this.2.2.1];exact a3
 ·have hs':∀ c it,upd Y.ws x σ y ≠ .mx c it:=hs
  show Said X.K _ X.p0 _ y
  by_cases hyx:y = x
  ·subst hyx
   rw [upd_same] at hs';exact hsaid hs'
  ·rw [upd_ne _ _ hyx] at hs'
   have:=(C.said y hy hs').other (g:=X.m0 + x) (by rw [C.zm];omega) hu;exact this
 ·have:w'.heap[c]? = w.heap[c]?:=by
   by_cases ho:Y.Z.O x c
   ·exact hro c (C.new x c hx hc ho)
   ·exact hfar c (Nat.lt_of_lt_of_le hc C.grow) ho h1 h2 h3
  rw [this];exact C.kept c hc h1 h2 h3
end
end Go.Proofs.YtfelljbfeoplhaaGreat.Lift
namespace Go.Proofs.YtfelljbfeoplhaaGreat.Lift
open Go Go.Conc Go.Proofs.YtfelljbfeoplhaaGreat.Ev
open Go.Proofs.YtfelljbfeoplhaaGreat.Mx
open Go.ConcM (OsLater woken_by_blocked)
open Go.ConcN (upd upd_ne upd_same sumTo)
variable [Jk]
inductive DLst (b d:Nat):Array Event → Prop
 | nil:DLst b d #[]
 | rd (o:Nat):0 < d → DLst b d #[⟨.cell ⟨b,o,none⟩,false,true⟩]
 | wr (o:Nat):0 < d → DLst b d #[⟨.cell ⟨b,o,none⟩,true,true⟩]
 | rw (o:Nat):0 < d → DLst b d #[⟨.cell ⟨b,o,none⟩,false,true⟩,⟨.cell ⟨b,o,none⟩,true,true⟩]
 | sem (o:Nat):DLst b d (semEvents ⟨b,o,none⟩)
section
variable {K:Cx} {Z:Zn} {x B d b:Nat} {es:Array Event}
theorem Z2x {a e:α} {l:List α} (h:(List.toArray (a :: l))[n]? = some e): (n = 0 ∧ e = a) ∨ ∃ m,n = m + 1 ∧ l[m]? = some e:=by
 cases n with
 | zero=>exact .inl ⟨rfl,by simpa using h.symm⟩
 | succ m=>exact .inr ⟨m,rfl,by simpa using h⟩
theorem DLst.deaf (h:DLst b d es):deafBehind d es = d:=by
 cases h <;> first | rfl | (simp [semEvents,deafBehind])
theorem DLst.evT (h:DLst b d es) (hb:b = K.Mu ∨ b = K.Wg) (hl:b < B):EvT K Z x B d es:=by
 have cell:∀ o wr,(MemAct.ofEvent ⟨.cell ⟨b,o,none⟩,wr,true⟩).low B ∧ (Event.mk (.cell ⟨b,o,none⟩) wr true).loc ≠ .mark (.release ⟨K.Wg,0,none⟩):=fun o wr=>⟨hl,by simp⟩;have tch:∀ {o wr a},(MemAct.ofEvent ⟨.cell ⟨b,o,none⟩,wr,true⟩).touch? = some a → Z8i K a.loc ∧ a.kind = .atomic:=by
  intro o wr a h;simp only [MemAct.ofEvent,MemAct.touch?,Option.some.injEq] at h;subst h;exact ⟨⟨_,rfl,hb⟩,rfl⟩
 cases h with
 | nil=>intro n e h;simp at h
 | rd o hd =>
  intro n e h
  rcases Z2x h with ⟨rfl,rfl⟩ | ⟨m,_,h⟩
  ·exact ⟨(cell o false).1,(cell o false).2,fun a h1 _=>.inr ⟨(tch h1).1,(tch h1).2,by simpa [deafBehind] using hd⟩⟩
  ·cases h
 | wr o hd =>
  intro n e h
  rcases Z2x h with ⟨rfl,rfl⟩ | ⟨m,_,h⟩
  ·exact ⟨(cell o true).1,(cell o true).2,fun a h1 _=>.inr ⟨(tch h1).1,(tch h1).2,by simpa [deafBehind] using hd⟩⟩
  ·cases h
 | rw o hd =>
  intro n e h
  rcases Z2x h with ⟨rfl,rfl⟩ | ⟨m,rfl,h⟩
  ·exact ⟨(cell o false).1,(cell o false).2,fun a h1 _=>.inr ⟨(tch h1).1,(tch h1).2,by simpa [deafBehind] using hd⟩⟩
  ·cases m with
   | zero =>
    have h':some _ = some e:=h;obtain rfl:=Option.some.inj h';exact ⟨(cell o true).1,(cell o true).2,fun a h1 _=>.inr ⟨(tch h1).1,(tch h1).2,by simpa [deafBehind] using hd⟩⟩
   | succ m=>cases h
 | sem o =>
  intro n e h;unfold semEvents at h ⊢
  rcases Z2x h with ⟨rfl,rfl⟩ | ⟨m,rfl,h⟩
  ·exact ⟨trivial,by simp,fun a h1 _=>by simp [MemAct.ofEvent,MemAct.touch?] at h1⟩
  ·match m,h with
   | 0,h =>
    have h':some _ = some e:=h;obtain rfl:=Option.some.inj h';exact ⟨(cell o false).1,(cell o false).2,fun a h1 _=>.inr ⟨(tch h1).1,(tch h1).2,by simp [deafBehind]⟩⟩
   | 1,h =>
    have h':some _ = some e:=h;obtain rfl:=Option.some.inj h';exact ⟨(cell o true).1,(cell o true).2,fun a h1 _=>.inr ⟨(tch h1).1,(tch h1).2,by simp [deafBehind]⟩⟩
   | 2,h =>
    have h':some _ = some e:=h;obtain rfl:=Option.some.inj h';exact ⟨trivial,by simp,fun a h1 _=>by simp [MemAct.ofEvent,MemAct.touch?] at h1⟩
   | m + 3,h=>cases h
theorem DLst.noplain (h:DLst b d es):∀ e ∈ es,∀ a,(MemAct.ofEvent e).touch? = some a → a.kind ≠ .plain:=by
 cases h <;> intro e he a ha <;> simp [semEvents] at he
 ·subst he;simp [MemAct.ofEvent,MemAct.touch?] at ha;subst ha;simp
 ·subst he;simp [MemAct.ofEvent,MemAct.touch?] at ha;subst ha;simp
 ·rcases he with rfl | rfl <;> (simp [MemAct.ofEvent,MemAct.touch?] at ha;subst ha;simp)
 ·rcases he with rfl | rfl | rfl | rfl <;> simp [MemAct.ofEvent,MemAct.touch?] at ha <;> (subst ha;simp)
theorem DLst.evM {Om:Nat → Prop} (h:DLst b d es) (hb:b = K.Mu ∨ b = K.Wg) (hl:b < B): EvM K Om B es:=by
 intro e he;obtain ⟨n,hn⟩:=Array.mem_iff_getElem?.1 he;obtain ⟨h1,h2,h3⟩:=h.evT (K:=K) (Z:=⟨0,0,fun _ _=>False,fun _ _=>False,fun _=>False⟩) (x:=0) hb hl n e hn;refine ⟨h1,h2,fun a ha hm=>?_⟩
 rcases h3 a ha hm with ⟨hp,_⟩ | ⟨hd,hk,_⟩
 ·exact absurd hp (h.noplain e he a ha)
 ·exact .inr ⟨hd,by rw [hk];simp⟩
theorem Lst.evT {k:Wk} (h:Lst K k d es) (hMu:K.Mu < B) (hFd:K.Fd < B) (hx:k.lamp = x):EvT K Z x B d es:=by
 cases h with
 | nil=>exact DLst.nil.evT (b:=K.Mu) (.inl rfl) hMu
 | rd o hd=>exact (DLst.rd o hd).evT (.inl rfl) hMu
 | rw o hd=>exact (DLst.rw o hd).evT (.inl rfl) hMu
 | sem o=>exact (DLst.sem o).evT (.inl rfl) hMu
 | put =>
  intro n e h
  rcases Z2x h with ⟨rfl,rfl⟩ | ⟨m,_,h⟩
  ·refine ⟨hFd,by simp,fun a h1 _=>.inl ?_⟩
   simp only [MemAct.ofEvent,MemAct.touch?,Option.some.injEq] at h1;subst h1;exact ⟨rfl,.inr (by rw [hx])⟩
  ·cases h
theorem Zeo {RO O:Nat → Prop} {w w':World} (hG:Guar K RO O w w' es) (hO:∀ c,Grow O w w' c → Z.O x c) (hR:Z.RO x = RO) (hW:K.Mu < w'.heap.size): EvT K Z x w'.heap.size d es:=by
 intro n e h;have he:=hG.ev e (Array.mem_of_getElem? h)
 rcases he with ⟨a,wr,rfl,h1,h2,h3⟩ | ⟨c,wr,rfl,h1,h2,h3⟩ | rfl | rfl | rfl | rfl | ⟨p,hp,rfl⟩ | ⟨p,hp,rfl⟩
 ·refine ⟨h2,by simp,fun b hb _=>.inl ?_⟩
  simp only [MemAct.ofEvent,MemAct.touch?,Option.some.injEq] at hb;subst hb;exact ⟨rfl,.inl ⟨a.block,rfl,hO _ h1,by rw [hR];exact h3⟩⟩
 ·have e0:MemAct.ofEvent ⟨.obj c,wr,false⟩ = .access ⟨.obj c,wr,false⟩:=by cases wr <;> rfl
  refine ⟨by rw [e0];exact h2,by simp,fun b hb _=>.inl ?_⟩;rw [e0] at hb;simp only [MemAct.touch?,Option.some.injEq] at hb;subst hb;exact ⟨rfl,.inl ⟨c,rfl,hO _ h1,by rw [hR];exact h3⟩⟩
 ·exact ⟨trivial,by simp,fun b hb _=>by simp [MemAct.ofEvent,MemAct.touch?] at hb⟩
 ·refine ⟨trivial,by simp,fun b hb hm=>?_⟩
  simp [MemAct.ofEvent,MemAct.touch?] at hb;subst hb
  cases hm
 ·exact ⟨trivial,by simp,fun b hb _=>by simp [MemAct.ofEvent,MemAct.touch?] at hb⟩
 ·exact ⟨trivial,by simp,fun b hb _=>by simp [MemAct.ofEvent,MemAct.touch?] at hb⟩
 ·exact ⟨by show p.block < _;rw [hp];exact hW,by simp,fun b hb _=>by simp [MemAct.ofEvent,MemAct.touch?] at hb⟩
 ·exact ⟨by show p.block < _;rw [hp];exact hW,by simp,fun b hb _=>by simp [MemAct.ofEvent,MemAct.touch?] at hb⟩
end
noncomputable def pin (c mu:Nat):Bool:=Nat.beq c OUT || prs.any fun p=>Nat.beq p.1 c && Nat.beq p.2 mu
noncomputable def pok (c mu:Nat):Bool:=match mvt c mu with
 | none=>false
 | some l=>l.all fun p=>(bif Nat.beq c 32 then pst p.1 else (bif pst c then pst p.1 else !pst p.1)) && Nat.ble p.2.2 2
theorem Zdv:tall (fun a b c mu _ _=>(pin a mu && pin b mu && pin c mu) && (pok a mu && pok b mu && pok c mu)) = true:=by kernel_rfl
section
variable {a b c mu ms r x:Nat} {f:Nat → Nat}
theorem ZgE (h:lk a b c mu ms = some r):pin a mu = true ∧ pok a mu = true:=by
 have h1:=Zac Zdv h;simp only [Bool.and_eq_true] at h1;obtain ⟨g1,g2⟩:=h1
 rcases Ziu a b c with ⟨e1,e2,e3⟩ | ⟨e1,e2,e3⟩ | ⟨e1,e2,e3⟩ | ⟨e1,e2,e3⟩ | ⟨e1,e2,e3⟩ | ⟨e1,e2,e3⟩ <;> rw [← e1,← e2,← e3] at g1 g2 <;>
  exact ⟨by first | exact g1.1.1 | exact g1.1.2 | exact g1.2,by first | exact g2.1.1 | exact g2.1.2 | exact g2.2⟩
theorem ZkO (hx:x < 3):∃ y z,(∀ v,lk ((upd f x v) 0) ((upd f x v) 1) ((upd f x v) 2) mu ms = lk v y z mu ms) ∧ (∀ v mu' ms',lk ((upd f x v) 0) ((upd f x v) 1) ((upd f x v) 2) mu' ms' = lk v y z mu' ms'):=by
 have:x = 0 ∨ x = 1 ∨ x = 2:=by omega
 rcases this with rfl | rfl | rfl
 ·refine ⟨f 1,f 2,fun v=>?_,fun v mu' ms'=>?_⟩ <;> rw [upd_same,upd_ne _ _ (by omega),upd_ne _ _ (by omega)]
 ·refine ⟨f 0,f 2,fun v=>?_,fun v mu' ms'=>?_⟩ <;> rw [upd_same,upd_ne _ _ (by omega),upd_ne _ _ (by omega),lk_1]
 ·refine ⟨f 0,f 1,fun v=>?_,fun v mu' ms'=>?_⟩ <;> rw [upd_same,upd_ne _ _ (by omega),upd_ne _ _ (by omega),lk_2,lk_1]
theorem Z1T (f:Nat → α) (x:Nat): upd f x (f x) = f:=by
 funext y
 by_cases h:y = x
 ·subst h;rw [upd_same]
 ·rw [upd_ne _ _ h]
theorem Zbh (hx:x < 3) (h:lk (f 0) (f 1) (f 2) mu ms = some r):∃ y z,lk (f x) y z mu ms = some r ∧ ∀ v mu' ms',lk ((upd f x v) 0) ((upd f x v) 1) ((upd f x v) 2) mu' ms' = lk v y z mu' ms':=by
 obtain ⟨y,z,h1,h2⟩:=ZkO (f:=f) (mu:=mu) (ms:=ms) hx;have:=h1 (f x);rw [Z1T] at this;exact ⟨y,z,by rw [← this];exact h,h2⟩
theorem ZjJ (h:pin c mu = true):c = OUT ∨ (c,mu) ∈ prs:=by
 unfold pin at h;simp only [Bool.or_eq_true,Nat.beq_eq,List.any_eq_true,Bool.and_eq_true] at h
 rcases h with h | ⟨⟨p,q⟩,h1,h2,h3⟩
 ·exact .inl h
 ·dsimp only at h2 h3
  subst h2 h3;exact .inr h1
theorem ZiG {l:List (Nat × Nat × Nat)} {y mu' d:Nat} (h:pok c mu = true) (hl:mvt c mu = some l) (hm:(y,mu',d) ∈ l): (c = 32 → pst y = true) ∧ (c ≠ 32 → pst y = pst c) ∧ d ≤ 2:=by
 unfold pok at h;rw [hl] at h;have:=List.all_eq_true.1 h _ hm;dsimp only at this;rw [Bool.and_eq_true,Nat.ble_eq] at this;obtain ⟨this,hd⟩:=this
 by_cases hc:c = 32
 ·subst hc
  exact ⟨fun _=>this,fun e=>absurd rfl e,hd⟩
 ·have hb:Nat.beq c 32 = false:=by
   cases hb:Nat.beq c 32
   ·rfl
   ·exact absurd (Nat.eq_of_beq_eq_true hb) hc
  rw [hb] at this;refine ⟨fun e=>absurd e hc,fun _=>?_,hd⟩
  cases hp:pst c
  ·rw [hp] at this;simpa using this
  ·rw [hp] at this;exact this
end
theorem Z8G {β: Type} {r:α → α → Prop} {s:β → β → Prop} (hr:WellFounded r) (hs:WellFounded s): WellFounded (Prod.Lex r s):=⟨fun ⟨a,b⟩=>Prod.lexAccessible (hr.apply a) (fun b=>hs.apply b) b⟩
def ltn (a b:Nat):Prop:=a < b
theorem Z80:WellFounded ltn:=Nat.lt_wfRel.wf
abbrev Mt:=Nat × Nat × Nat × Hh × Hh × Hh × Nat × Nat
def Mr:Mt → Mt → Prop:=Prod.Lex ltn (Prod.Lex ltn (Prod.Lex ltn (Prod.Lex Hh.sub (Prod.Lex Hh.sub (Prod.Lex Hh.sub (Prod.Lex ltn ltn))))))
theorem ZkC:WellFounded Mr:=Z8G Z80 (Z8G Z80 (Z8G Z80 (Z8G Hh.wf (Z8G Hh.wf (Z8G Hh.wf (Z8G Z80 Z80))))))
def flg:Option Goroutine → Nat
 | some g=>if g.status = .running then 1 else 0
 | none=>0
def fl (gs:Array Goroutine):Nat:=sumTo gs.size fun i=>flg gs[i]?
def mu1 (X:Ph) (Y:Da):Nat:=phi X.n (vsum Y.ws) Y.tag + Y.r + ((Y.ws 0).stg + (Y.ws 1).stg + (Y.ws 2).stg)
def mu2 (Y:Da):Nat:=(Y.ws 0).spn + (Y.ws 1).spn + (Y.ws 2).spn
def mea (X:Ph) (Y:Da) (gs:Array Goroutine):Mt:=(mu1 X Y,mu2 Y,Y.h0,Y.h 0,Y.h 1,Y.h 2,sumTo gs.size Y.q,fl gs)
section
variable {X:Ph} {Y Y':Da} {gs gs':Array Goroutine}
theorem ZaW (h:mu1 X Y' < mu1 X Y):Mr (mea X Y' gs') (mea X Y gs):=.left _ _ h
theorem Zk1 (h1:mu1 X Y' = mu1 X Y) (h:mu2 Y' < mu2 Y):Mr (mea X Y' gs') (mea X Y gs):=by
 unfold mea;rw [h1];exact .right _ (.left _ _ h)
theorem Zl2 (h1:mu1 X Y' = mu1 X Y) (h2:mu2 Y' = mu2 Y) (h:Y'.h0 < Y.h0):Mr (mea X Y' gs') (mea X Y gs):=by
 unfold mea;rw [h1,h2];exact .right _ (.right _ (.left _ _ h))
theorem Zkv {x:Nat} (hx:x < 3) (h1:mu1 X Y' = mu1 X Y) (h2:mu2 Y' = mu2 Y) (h3:Y'.h0 = Y.h0) {z:Hh} (h4:Y'.h = upd Y.h x z) (h:Hh.sub z (Y.h x)): Mr (mea X Y' gs') (mea X Y gs):=by
 unfold mea;rw [h1,h2,h3,h4];have:x = 0 ∨ x = 1 ∨ x = 2:=by omega
 rcases this with rfl | rfl | rfl
 ·rw [upd_same];exact .right _ (.right _ (.right _ (.left _ _ h)))
 ·rw [upd_same,upd_ne _ _ (by omega:(0:Nat) ≠ 1)];exact .right _ (.right _ (.right _ (.right _ (.left _ _ h))))
 ·rw [upd_same,upd_ne _ _ (by omega:(0:Nat) ≠ 2),upd_ne _ _ (by omega:(1:Nat) ≠ 2)];exact .right _ (.right _ (.right _ (.right _ (.right _ (.left _ _ h)))))
theorem Zju (h1:mu1 X Y' = mu1 X Y) (h2:mu2 Y' = mu2 Y) (h3:Y'.h0 = Y.h0) (h4:Y'.h = Y.h) (h:sumTo gs'.size Y'.q < sumTo gs.size Y.q):Mr (mea X Y' gs') (mea X Y gs):=by
 unfold mea;rw [h1,h2,h3,h4];exact .right _ (.right _ (.right _ (.right _ (.right _ (.right _ (.left _ _ h))))))
end
end Go.Proofs.YtfelljbfeoplhaaGreat.Lift
