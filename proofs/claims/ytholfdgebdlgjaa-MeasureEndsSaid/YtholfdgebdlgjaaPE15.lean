/- Parts of a proof: Rn. No conditions. -/
import Derived.Test.YtholfdgebdlgjaaPE14
set_option linter.unusedVariables false
set_option linter.unusedSimpArgs false
namespace Go.Proofs.Ytholfdgebdlgjaa
open Go.RowKit
def rnI (t:Tp) (s a:Int):Nat:=(1 + s * t.A + a).toNat
def rpI (t:Tp) (i:Int):Nat:=(1 + t.S * t.A + i).toNat
theorem idxR {S A s a:Int} (s0:0 ≤ s) (s1:s < S) (a0:0 ≤ a) (a1:a < A) (hS:S ≤ 3) (hA:A ≤ 3):0 ≤ s * A ∧ s * A + a < S * A ∧ S * A ≤ 9:=by
 have h1:s * A + A ≤ S * A:=by
  have:=Int.mul_le_mul_of_nonneg_right (show s + 1 ≤ S by omega) (show 0 ≤ A by omega)
  rw [Int.add_mul,Int.one_mul] at this
  exact this
 have h2:S * A ≤ 3 * A:=Int.mul_le_mul_of_nonneg_right hS (by omega)
 have h3:0 ≤ s * A:=Int.mul_nonneg s0 (by omega)
 omega
theorem Z3x {t:Tp} (ok:t.Ok) {s a:Int} (s0:0 ≤ s) (s1:s < t.S) (a0:0 ≤ a) (a1:a < t.A):((rnI t s a:Nat):Int) = 1 + s * t.A + a ∧ 0 ≤ s * t.A ∧ s * t.A + a < t.S * t.A ∧ t.S * t.A ≤ 9:=by
 obtain ⟨h1,h2,h3⟩:=idxR s0 s1 a0 a1 ok.S3 ok.A3
 exact ⟨by unfold rnI;omega,h1,h2,h3⟩
theorem Z6F {t:Tp} (ok:t.Ok) {i:Int} (i0:0 ≤ i):((rpI t i:Nat):Int) = 1 + t.S * t.A + i ∧ 1 ≤ t.S * t.A ∧ t.S * t.A ≤ 9:=by
 obtain ⟨h1,h2⟩:=Z4u ok
 exact ⟨by unfold rpI;omega,h1,h2⟩
theorem Zb6 {t:Tp} (ok:t.Ok) {s a o h:Int} (s0:0 ≤ s) (s1:s < t.S) (a0:0 ≤ a) (a1:a < t.A) (o0:0 ≤ o) (o1:o < t.S) (h0:0 ≤ h) (h1:h < t.A) (e:rnI t s a = rnI t o h):s = o ∧ a = h:=by
 have e1:=(Z3x ok s0 s1 a0 a1).1
 have e2:=(Z3x ok o0 o1 h0 h1).1
 have e3:s * t.A + a = o * t.A + h:=by omega
 have k:∀ u v:Int,0 ≤ v → v < t.A → (v + u * t.A) / t.A = u:=fun u v v0 v1=>by
  rw [Int.add_mul_ediv_right _ _ (by omega),Int.ediv_eq_zero_of_lt v0 v1,Int.zero_add]
 have k1:=k s a a0 a1
 have k2:=k o h h0 h1
 rw [show a + s * t.A = h + o * t.A by omega,k2] at k1
 subst k1
 exact ⟨rfl,by omega⟩
def rcTo (t:Tp) (m:Nat → Nat → Int) (s:Nat):Nat → Nat → Nat → Int
 | 0=>m
 | a + 1=>if (0:Int) < (a:Int) then Z0A (Z0A (rcTo t m s a) (rnI t s a) 0 t.bl t.bm) (rnI t s a) (rnI t s ((a:Int) - 1)) (t.gr.getD s (0,0)).1 (t.gr.getD s (0,0)).2
  else Z0A (rcTo t m s a) (rnI t s a) 0 t.bl t.bm
def rsTo (t:Tp) (m:Nat → Nat → Int):Nat → Nat → Nat → Int
 | 0=>m
 | s + 1=>rcTo t (rsTo t m s) s t.A.toNat
def rtTo (t:Tp) (m:Nat → Nat → Int):Nat → Nat → Nat → Int
 | 0=>m
 | i + 1=>Z0A (rtTo t m i) 0 (rpI t i) t.pl t.pm
def rrTo (t:Tp) (m:Nat → Nat → Int):Nat → Nat → Nat → Int
 | 0=>m
 | i + 1=>Z0A (rrTo t m i) (rnI t (t.rd.getD i (0,0,0,0)).1 (t.rd.getD i (0,0,0,0)).2.1) (rpI t (t.rd.getD i (0,0,0,0)).2.2.1) ((t.rd.getD i (0,0,0,0)).2.2.2 - t.sl) ((t.rd.getD i (0,0,0,0)).2.2.2 + t.sl)
def rkTo (t:Tp) (m:Nat → Nat → Int):Nat → Nat → Nat → Int
 | 0=>m
 | i + 1=>Z0A (rkTo t m i) (rnI t (t.lk.getD i (0,0,0,0,0,0)).1 (t.lk.getD i (0,0,0,0,0,0)).2.1) (rnI t (t.lk.getD i (0,0,0,0,0,0)).2.2.1 (t.lk.getD i (0,0,0,0,0,0)).2.2.2.1) (t.lk.getD i (0,0,0,0,0,0)).2.2.2.2.1 (t.lk.getD i (0,0,0,0,0,0)).2.2.2.2.2
theorem Z3P (t:Tp) (m:Nat → Nat → Int) (s a:Nat):rcTo t m s (a + 1) = if (0:Int) < (a:Int) then Z0A (Z0A (rcTo t m s a) (rnI t s a) 0 t.bl t.bm) (rnI t s a) (rnI t s ((a:Int) - 1)) (t.gr.getD s (0,0)).1 (t.gr.getD s (0,0)).2
  else Z0A (rcTo t m s a) (rnI t s a) 0 t.bl t.bm:=rfl
theorem Z9n (t:Tp) (m:Nat → Nat → Int) (i:Nat):rtTo t m (i + 1) = Z0A (rtTo t m i) 0 (rpI t i) t.pl t.pm:=rfl
theorem Z8u (t:Tp) (m:Nat → Nat → Int) (i:Nat):rrTo t m (i + 1) = Z0A (rrTo t m i) (rnI t (t.rd.getD i (0,0,0,0)).1 (t.rd.getD i (0,0,0,0)).2.1) (rpI t (t.rd.getD i (0,0,0,0)).2.2.1) ((t.rd.getD i (0,0,0,0)).2.2.2 - t.sl) ((t.rd.getD i (0,0,0,0)).2.2.2 + t.sl):=rfl
theorem Z8o (t:Tp) (m:Nat → Nat → Int) (i:Nat):rkTo t m (i + 1) = Z0A (rkTo t m i) (rnI t (t.lk.getD i (0,0,0,0,0,0)).1 (t.lk.getD i (0,0,0,0,0,0)).2.1) (rnI t (t.lk.getD i (0,0,0,0,0,0)).2.2.1 (t.lk.getD i (0,0,0,0,0,0)).2.2.2.1) (t.lk.getD i (0,0,0,0,0,0)).2.2.2.2.1 (t.lk.getD i (0,0,0,0,0,0)).2.2.2.2.2:=rfl
def Z1x (t:Tp):Nat → Nat → Int:=rkTo t (rrTo t (rtTo t (rsTo t farM t.S.toNat) t.T.toNat) t.rd.length) t.lk.length
def yOf (t:Tp) (X:Nat → Int):Nat → Int:=fun n=>if n = 0 then -(X 0) else if n < 10 then -(X (rnI t (((n - 1) / 3:Nat):Int) (((n - 1) % 3:Nat):Int))) else -(X (rpI t ((n - 10:Nat):Int)))
theorem yC (t:Tp) (X:Nat → Int) {s a:Int} (s0:0 ≤ s) (s3:s < 3) (a0:0 ≤ a) (a3:a < 3):yOf t X (ZO s a) = -(X (rnI t s a)):=by
 have e:ZO s a = (1 + s * 3 + a).toNat:=rfl
 rw [yOf,if_neg (by omega),if_pos (by omega),show (((ZO s a - 1) / 3:Nat):Int) = s by omega,show (((ZO s a - 1) % 3:Nat):Int) = a by omega]
theorem yT (t:Tp) (X:Nat → Int) {i:Int} (i0:0 ≤ i):yOf t X (Z0q i) = -(X (rpI t i)):=by
 have e:Z0q i = (10 + i).toNat:=rfl
 rw [yOf,if_neg (by omega),if_neg (by omega),show ((Z0q i - 10:Nat):Int) = i by omega]
section
variable {t:Tp} (ok:t.Ok) {n:Nat} (hn:(n:Int) = 1 + t.S * t.A + t.T) {X:Nat → Int}
include ok hn
theorem Z6m {m:Nat → Nat → Int} {s:Nat} (hs:(s:Int) < t.S):∀ a:Nat,(a:Int) ≤ t.A → (solN n (rcTo t m s a) X ↔ solN n m X ∧ ∀ p:Nat,p < a → CellOk t s p (yOf t X))
 | 0,_=>by simp [rcTo]
 | a + 1,ha=>by
  have ih:=Z6m (m:=m) hs a (by omega)
  have o3:=ok.S3
  have o4:=ok.A3
  have oT:=ok.T1
  obtain ⟨e1,e2,e3,e4⟩:=Z3x ok (s:=(s:Int)) (a:=(a:Int)) (by omega) hs (by omega) (by omega)
  have y1:=yC t X (s:=(s:Int)) (a:=(a:Int)) (by omega) (by omega) (by omega) (by omega)
  have y0:yOf t X 0 = -(X 0):=rfl
  rw [Z3P]
  by_cases h:(0:Int) < (a:Int)
  ·obtain ⟨f1,f2,f3,f4⟩:=Z3x ok (s:=(s:Int)) (a:=(a:Int) - 1) (by omega) hs (by omega) (by omega)
   have y2:=yC t X (s:=(s:Int)) (a:=(a:Int) - 1) (by omega) (by omega) (by omega) (by omega)
   rw [if_pos h,Z2d (by omega) (by omega) (by omega),Z2d (by omega) (by omega) (by omega),ih]
   constructor
   ·rintro ⟨⟨⟨h1,h2⟩,h3,h4⟩,h5,h6⟩
    refine ⟨h1,fun p hp=>?_⟩
    by_cases e:p = a
    ·subst e;exact ⟨by omega,by omega,fun _=>by omega,fun _=>by omega⟩
    ·exact h2 p (by omega)
   ·rintro ⟨h1,h2⟩
    have q:=h2 a (by omega)
    have q1:=q.lo
    have q2:=q.hi
    have q3:=q.glo (by omega)
    have q4:=q.ghi (by omega)
    exact ⟨⟨⟨h1,fun p hp=>h2 p (by omega)⟩,by omega,by omega⟩,by omega,by omega⟩
  ·rw [if_neg h,Z2d (by omega) (by omega) (by omega),ih]
   constructor
   ·rintro ⟨⟨h1,h2⟩,h3,h4⟩
    refine ⟨h1,fun p hp=>?_⟩
    by_cases e:p = a
    ·subst e;exact ⟨by omega,by omega,fun h0=>absurd h0 (by omega),fun h0=>absurd h0 (by omega)⟩
    ·exact h2 p (by omega)
   ·rintro ⟨h1,h2⟩
    have q:=h2 a (by omega)
    have q1:=q.lo
    have q2:=q.hi
    exact ⟨⟨h1,fun p hp=>h2 p (by omega)⟩,by omega,by omega⟩
theorem Z6n {m:Nat → Nat → Int}:∀ s:Nat,(s:Int) ≤ t.S → (solN n (rsTo t m s) X ↔ solN n m X ∧ ∀ p:Nat,p < s → ∀ a:Nat,(a:Int) < t.A → CellOk t p a (yOf t X))
 | 0,_=>by simp [rsTo]
 | s + 1,hs=>by
  have o:=ok.A1
  rw [rsTo,Z6m ok hn (by omega) _ (by omega),Z6n s (by omega)]
  constructor
  ·rintro ⟨⟨h1,h2⟩,h3⟩
   refine ⟨h1,fun p hp a ha=>?_⟩
   by_cases e:p = s
   ·subst e;exact h3 a (by omega)
   ·exact h2 p (by omega) a ha
  ·rintro ⟨h1,h2⟩
   exact ⟨⟨h1,fun p hp=>h2 p (by omega)⟩,fun a ha=>h2 s (by omega) a (by omega)⟩
theorem Z5U {m:Nat → Nat → Int}:∀ i:Nat,(i:Int) ≤ t.T → (solN n (rtTo t m i) X ↔ solN n m X ∧ ∀ p:Nat,p < i → TailOk t p (yOf t X))
 | 0,_=>by simp [rtTo]
 | i + 1,hi=>by
  obtain ⟨e1,e2,e3⟩:=Z6F ok (i:=(i:Int)) (by omega)
  have y1:=yT t X (i:=(i:Int)) (by omega)
  have y0:yOf t X 0 = -(X 0):=rfl
  rw [Z9n,Z2d (by omega) (by omega) (by omega),Z5U i (by omega)]
  constructor
  ·rintro ⟨⟨h1,h2⟩,h3,h4⟩
   refine ⟨h1,fun p hp=>?_⟩
   by_cases e:p = i
   ·subst e;exact ⟨by omega,by omega⟩
   ·exact h2 p (by omega)
  ·rintro ⟨h1,h2⟩
   have q1:=(h2 i (by omega)).lo
   have q2:=(h2 i (by omega)).hi
   exact ⟨⟨h1,fun p hp=>h2 p (by omega)⟩,by omega,by omega⟩
theorem Zad {r:Int × Int × Int × Int} (g:0 ≤ r.1 ∧ r.1 < t.S ∧ 0 ≤ r.2.1 ∧ r.2.1 < t.A ∧ 0 ≤ r.2.2.1 ∧ r.2.2.1 < t.T):rnI t r.1 r.2.1 ≠ rpI t r.2.2.1 ∧ rnI t r.1 r.2.1 < n ∧ rpI t r.2.2.1 < n ∧
  ((r.2.2.2 - t.sl ≤ X (rpI t r.2.2.1) - X (rnI t r.1 r.2.1) ∧ X (rpI t r.2.2.1) - X (rnI t r.1 r.2.1) ≤ r.2.2.2 + t.sl) ↔ ReadOk t r (yOf t X)):=by
 have o3:=ok.S3
 have o4:=ok.A3
 obtain ⟨e1,e2,e3,e4⟩:=Z3x ok (s:=r.1) (a:=r.2.1) (by omega) (by omega) (by omega) (by omega)
 obtain ⟨f1,f2,f3⟩:=Z6F ok (i:=r.2.2.1) (by omega)
 have y1:=yC t X (s:=r.1) (a:=r.2.1) (by omega) (by omega) (by omega) (by omega)
 have y2:=yT t X (i:=r.2.2.1) (by omega)
 exact ⟨by omega,by omega,by omega,⟨fun h=>⟨by omega,by omega⟩,fun h=>by have h1:=h.lo;have h2:=h.hi;omega⟩⟩
theorem Z9C {l:Int × Int × Int × Int × Int × Int} (g:(0 ≤ l.1 ∧ l.1 < t.S ∧ 0 ≤ l.2.2.1 ∧ l.2.2.1 < t.S ∧ 0 ≤ l.2.1 ∧ l.2.1 < t.A ∧ 0 ≤ l.2.2.2.1 ∧ l.2.2.2.1 < t.A) ∧ ¬ (l.1 = l.2.2.1 ∧ l.2.1 = l.2.2.2.1)) :
  rnI t l.1 l.2.1 ≠ rnI t l.2.2.1 l.2.2.2.1 ∧ rnI t l.1 l.2.1 < n ∧ rnI t l.2.2.1 l.2.2.2.1 < n ∧
  ((l.2.2.2.2.1 ≤ X (rnI t l.2.2.1 l.2.2.2.1) - X (rnI t l.1 l.2.1) ∧ X (rnI t l.2.2.1 l.2.2.2.1) - X (rnI t l.1 l.2.1) ≤ l.2.2.2.2.2) ↔ LinkOk l (yOf t X)):=by
 have o3:=ok.S3
 have o4:=ok.A3
 have o5:=ok.T1
 obtain ⟨e1,e2,e3,e4⟩:=Z3x ok (s:=l.1) (a:=l.2.1) (by omega) (by omega) (by omega) (by omega)
 obtain ⟨f1,f2,f3,f4⟩:=Z3x ok (s:=l.2.2.1) (a:=l.2.2.2.1) (by omega) (by omega) (by omega) (by omega)
 have y1:=yC t X (s:=l.1) (a:=l.2.1) (by omega) (by omega) (by omega) (by omega)
 have y2:=yC t X (s:=l.2.2.1) (a:=l.2.2.2.1) (by omega) (by omega) (by omega) (by omega)
 exact ⟨fun e=>g.2 (Zb6 ok (by omega) (by omega) (by omega) (by omega) (by omega) (by omega) (by omega) (by omega) e),by omega,by omega,⟨fun h=>⟨by omega,by omega⟩,fun h=>by have h1:=h.lo;have h2:=h.hi;omega⟩⟩
theorem Z6t {m:Nat → Nat → Int}:∀ i:Nat,i ≤ t.rd.length → (solN n (rrTo t m i) X ↔ solN n m X ∧ ∀ p:Nat,p < i → ReadOk t (t.rd.getD p (0,0,0,0)) (yOf t X))
 | 0,_=>by simp [rrTo]
 | i + 1,hi=>by
  have g:=ok.rd _ (Z0m (0,0,0,0) (show i < t.rd.length by omega))
  obtain ⟨k1,k2,k3,k4⟩:=Zad ok hn (X:=X) (r:=t.rd.getD i (0,0,0,0)) (by omega)
  rw [Z8u,Z2d k1 k2 k3,Z6t i (by omega),k4]
  constructor
  ·rintro ⟨⟨h1,h2⟩,h3⟩
   refine ⟨h1,fun p hp=>?_⟩
   by_cases e:p = i
   ·subst e;exact h3
   ·exact h2 p (by omega)
  ·rintro ⟨h1,h2⟩
   exact ⟨⟨h1,fun p hp=>h2 p (by omega)⟩,h2 i (by omega)⟩
theorem Z63 {m:Nat → Nat → Int}:∀ i:Nat,i ≤ t.lk.length → (solN n (rkTo t m i) X ↔ solN n m X ∧ ∀ p:Nat,p < i → LinkOk (t.lk.getD p (0,0,0,0,0,0)) (yOf t X))
 | 0,_=>by simp [rkTo]
 | i + 1,hi=>by
  have g:=ok.lk _ (Z0m (0,0,0,0,0,0) (show i < t.lk.length by omega))
  obtain ⟨k1,k2,k3,k4⟩:=Z9C ok hn (X:=X) (l:=t.lk.getD i (0,0,0,0,0,0)) (by omega)
  rw [Z8o,Z2d k1 k2 k3,Z63 i (by omega),k4]
  constructor
  ·rintro ⟨⟨h1,h2⟩,h3⟩
   refine ⟨h1,fun p hp=>?_⟩
   by_cases e:p = i
   ·subst e;exact h3
   ·exact h2 p (by omega)
  ·rintro ⟨h1,h2⟩
   exact ⟨⟨h1,fun p hp=>h2 p (by omega)⟩,h2 i (by omega)⟩
theorem Z41:solN n (Z1x t) X ↔ solN n farM X ∧ Tr t 0 (yOf t X):=by
 have o1:=ok.S1
 have o2:=ok.T1
 unfold Z1x
 rw [Z63 ok hn _ (Nat.le_refl _),Z6t ok hn _ (Nat.le_refl _),Z5U ok hn _ (by omega),Z6n ok hn _ (by omega)]
 constructor
 ·rintro ⟨⟨⟨⟨h1,h2⟩,h3⟩,h4⟩,h5⟩
  exact ⟨h1,⟨fun s a hs ha=>h2 s (by omega) a ha,fun i hi=>h3 i (by omega),fun i hi _=>h4 i hi,h5⟩⟩
 ·rintro ⟨h1,h⟩
  exact ⟨⟨⟨⟨h1,fun p hp a ha=>h.cell p a (by omega) ha⟩,fun p hp=>h.tail p (by omega)⟩,fun p hp=>h.read p hp (by simp [hasB])⟩,h.link⟩
end
def phi_ (t:Tp) (k:Nat):Nat:=if k = 0 then 0 else if (k:Int) ≤ t.S * t.A then ZO (((k:Int) - 1) / t.A) (((k:Int) - 1) % t.A) else Z0q ((k:Int) - 1 - t.S * t.A)
theorem Z7T (t:Tp):phi_ t 0 = 0:=rfl
theorem Z7H {t:Tp} (ok:t.Ok) {s a:Int} (s0:0 ≤ s) (s1:s < t.S) (a0:0 ≤ a) (a1:a < t.A):phi_ t (rnI t s a) = ZO s a:=by
 obtain ⟨e1,e2,e3,e4⟩:=Z3x ok s0 s1 a0 a1
 have o:=ok.A1
 rw [phi_,if_neg (by omega),if_pos (by omega),e1,show 1 + s * t.A + a - 1 = a + s * t.A by omega,Int.add_mul_ediv_right _ _ (by omega),Int.ediv_eq_zero_of_lt a0 a1,Int.zero_add,Int.add_mul_emod_self_right,Int.emod_eq_of_lt a0 a1]
theorem Z8b {t:Tp} (ok:t.Ok) {i:Int} (i0:0 ≤ i):phi_ t (rpI t i) = Z0q i:=by
 obtain ⟨e1,e2,e3⟩:=Z6F ok i0
 rw [phi_,if_neg (by omega),if_neg (by omega),e1,show 1 + t.S * t.A + i - 1 - t.S * t.A = i by omega]
theorem Z4w {t:Tp} (ok:t.Ok) {n:Nat} (hn:(n:Int) = 1 + t.S * t.A + t.T) {k:Nat} (hk:k < n):k = 0 ∨ (∃ s a:Nat,(s:Int) < t.S ∧ (a:Int) < t.A ∧ k = rnI t s a) ∨ ∃ i:Nat,(i:Int) < t.T ∧ k = rpI t i:=by
 have o:=ok.A1
 by_cases h0:k = 0
 ·exact .inl h0
 ·by_cases h1:(k:Int) ≤ t.S * t.A
  ·obtain ⟨d1,d2,d3,d4⟩:=Zbm (S:=t.S) (A:=t.A) (x:=k - 1) (by omega) (by omega)
   refine .inr (.inl ⟨(((k - 1:Nat):Int) / t.A).toNat,(((k - 1:Nat):Int) % t.A).toNat,by omega,by omega,?_⟩)
   rw [Int.toNat_of_nonneg d1,Int.toNat_of_nonneg d3,rnI]
   have:=Int.mul_ediv_add_emod ((k - 1:Nat):Int) t.A
   rw [Int.mul_comm] at this
   omega
  ·refine .inr (.inr ⟨((k:Int) - 1 - t.S * t.A).toNat,by omega,?_⟩)
   rw [Int.toNat_of_nonneg (by omega),rpI]
   omega
theorem Z3j {t:Tp} (ok:t.Ok) {n:Nat} (hn:(n:Int) = 1 + t.S * t.A + t.T) {k:Nat} (hk:k < n):live t (phi_ t k):=by
 rcases Z4w ok hn hk with rfl | ⟨s,a,h1,h2,rfl⟩ | ⟨i,h1,rfl⟩
 ·exact Z2H t
 ·rw [Z7H ok (by omega) h1 (by omega) h2];exact Z1r h1 h2
 ·rw [Z8b ok (by omega)];exact Z2K h1
theorem Z8c {t:Tp} (ok:t.Ok) {n:Nat} (hn:(n:Int) = 1 + t.S * t.A + t.T) (X:Nat → Int) {k:Nat} (hk:k < n):yOf t X (phi_ t k) = -(X k):=by
 have o3:=ok.S3
 have o4:=ok.A3
 rcases Z4w ok hn hk with rfl | ⟨s,a,h1,h2,rfl⟩ | ⟨i,h1,rfl⟩
 ·rfl
 ·rw [Z7H ok (by omega) h1 (by omega) h2,yC t X (by omega) (by omega) (by omega) (by omega)]
 ·rw [Z8b ok (by omega),yT t X (by omega)]
theorem Z8n {t:Tp} (ok:t.Ok) {n:Nat} (hn:(n:Int) = 1 + t.S * t.A + t.T) {x:Nat → Int} (hx:Tr t 0 x):solN n (Z1x t) (fun k=>-(x (phi_ t k))):=by
 have o3:=ok.S3
 have o4:=ok.A3
 refine (Z41 ok hn).2 ⟨fun i j hi hj=>?_,Tr.congr ok (fun i hi=>?_) hx⟩
 ·have a:=hx.near ok (Z3j ok hn hi)
  have b:=hx.near ok (Z3j ok hn hj)
  show -(x (phi_ t j)) - -(x (phi_ t i)) ≤ farM i j
  unfold farM
  by_cases e:i = j
  ·subst e;rw [if_pos rfl];omega
  ·rw [if_neg e];omega
 ·rcases hi with rfl | ⟨s,a,h1,h2,rfl⟩ | ⟨k,h1,rfl⟩
  ·show x 0 = -(-(x (phi_ t 0)))
   rw [Z7T];omega
  ·rw [yC t _ (by omega) (by omega) (by omega) (by omega),Z7H ok (by omega) h1 (by omega) h2];omega
  ·rw [yT t _ (by omega),Z8b ok (by omega)];omega
theorem Z6Z {t:Tp} (ok:t.Ok) {n:Nat} (hn:(n:Int) = 1 + t.S * t.A + t.T):(∀ p,p < n → 0 ≤ kTt n (Z1x t) n p p) ↔ bdB t 0 = true:=by
 have:=Z4u ok
 have o:=ok.T1
 rw [Zab (by omega),ZaN ok]
 exact ⟨fun ⟨X,hX⟩=>⟨_,((Z41 ok hn).1 hX).2⟩,fun ⟨x,hx⟩=>⟨_,Z8n ok hn hx⟩⟩
theorem Z67 {t:Tp} (ok:t.Ok):∀ p q,-1048576 ≤ Z1x t p q ∧ Z1x t p q ≤ 1048576 ∧ Z1x t p p ≤ 0:=by
 have lim:∀ (m:Nat → Nat → Int) (l h:Nat) (lo hi:Int),-100000 ≤ lo → lo ≤ 100000 → -100000 ≤ hi → hi ≤ 100000 → (∀ p q,-1048576 ≤ m p q ∧ m p q ≤ 1048576 ∧ m p p ≤ 0) → ∀ p q,-1048576 ≤ Z0A m l h lo hi p q ∧ Z0A m l h lo hi p q ≤ 1048576 ∧ Z0A m l h lo hi p p ≤ 0:=by
  intro m l h lo hi l1 l2 h1 h2 H p q
  have e:∀ p q,Z0A m l h lo hi p q ≤ m p q ∧ (Z0A m l h lo hi p q = m p q ∨ Z0A m l h lo hi p q = hi ∨ Z0A m l h lo hi p q = -lo):=fun p q=>by
   have key:Z0A m l h lo hi p q = if p = h ∧ q = l then min (if h = l ∧ l = h then min (m l h) hi else m h l) (-lo) else if p = l ∧ q = h then min (m l h) hi else m p q:=rfl
   rw [key]
   by_cases c:p = h ∧ q = l
   ·rw [if_pos c]
    obtain ⟨c1,c2⟩:=c
    rw [c1,c2]
    by_cases d:h = l ∧ l = h
    ·rw [if_pos d,d.1];omega
    ·rw [if_neg d];omega
   ·rw [if_neg c]
    by_cases d:p = l ∧ q = h
    ·rw [if_pos d,d.1,d.2];omega
    ·rw [if_neg d];omega
  have e1:=e p q
  have e2:=e p p
  have g1:=H p q
  have g2:=H p p
  omega
 have f0:∀ p q,-1048576 ≤ farM p q ∧ farM p q ≤ 1048576 ∧ farM p p ≤ 0:=fun p q=>by
  unfold farM
  rw [if_pos rfl]
  by_cases e:p = q
  ·rw [if_pos e];omega
  ·rw [if_neg e];omega
 have b1:=ok.bl1
 have b2:=ok.bm1
 have b3:=ok.b
 have b4:=ok.pl1
 have b5:=ok.pm1
 have b6:=ok.p
 have b7:=ok.sl0
 have b8:=ok.sl5
 have b9:=ok.grl
 have c1:∀ (m:Nat → Nat → Int) (s:Nat),(s:Int) < t.S → (∀ p q,-1048576 ≤ m p q ∧ m p q ≤ 1048576 ∧ m p p ≤ 0) → ∀ a p q,-1048576 ≤ rcTo t m s a p q ∧ rcTo t m s a p q ≤ 1048576 ∧ rcTo t m s a p p ≤ 0:=by
  intro m s hs H a
  induction a with
  | zero=>exact H
  | succ a ih =>
   have g:=ok.gr _ (Z0m (0,0) (show s < t.gr.length by omega))
   rw [Z3P]
   by_cases h:(0:Int) < (a:Int)
   ·rw [if_pos h];exact lim _ _ _ _ _ (by omega) (by omega) (by omega) (by omega) (lim _ _ _ _ _ (by omega) (by omega) (by omega) (by omega) ih)
   ·rw [if_neg h];exact lim _ _ _ _ _ (by omega) (by omega) (by omega) (by omega) ih
 have c2:∀ s:Nat,(s:Int) ≤ t.S → ∀ p q,-1048576 ≤ rsTo t farM s p q ∧ rsTo t farM s p q ≤ 1048576 ∧ rsTo t farM s p p ≤ 0:=by
  intro s
  induction s with
  | zero=>exact fun _=>f0
  | succ s ih=>exact fun hs=>c1 _ s (by omega) (ih (by omega)) _
 have c3:∀ i,∀ p q,-1048576 ≤ rtTo t (rsTo t farM t.S.toNat) i p q ∧ rtTo t (rsTo t farM t.S.toNat) i p q ≤ 1048576 ∧ rtTo t (rsTo t farM t.S.toNat) i p p ≤ 0:=by
  intro i
  induction i with
  | zero=>exact c2 _ (by have:=ok.S1;omega)
  | succ i ih=>exact lim _ _ _ _ _ (by omega) (by omega) (by omega) (by omega) ih
 have c4:∀ i,i ≤ t.rd.length → ∀ p q,-1048576 ≤ rrTo t (rtTo t (rsTo t farM t.S.toNat) t.T.toNat) i p q ∧ rrTo t (rtTo t (rsTo t farM t.S.toNat) t.T.toNat) i p q ≤ 1048576 ∧ rrTo t (rtTo t (rsTo t farM t.S.toNat) t.T.toNat) i p p ≤ 0:=by
  intro i
  induction i with
  | zero=>exact fun _=>c3 _
  | succ i ih =>
   intro hi
   have g:=ok.rd _ (Z0m (0,0,0,0) (show i < t.rd.length by omega))
   exact lim _ _ _ _ _ (by omega) (by omega) (by omega) (by omega) (ih (by omega))
 have c5:∀ i,i ≤ t.lk.length → ∀ p q,-1048576 ≤ rkTo t (rrTo t (rtTo t (rsTo t farM t.S.toNat) t.T.toNat) t.rd.length) i p q ∧ rkTo t (rrTo t (rtTo t (rsTo t farM t.S.toNat) t.T.toNat) t.rd.length) i p q ≤ 1048576 ∧ rkTo t (rrTo t (rtTo t (rsTo t farM t.S.toNat) t.T.toNat) t.rd.length) i p p ≤ 0:=by
  intro i
  induction i with
  | zero=>exact fun _=>c4 _ (Nat.le_refl _)
  | succ i ih =>
   intro hi
   have g:=ok.lk _ (Z0m (0,0,0,0,0,0) (show i < t.lk.length by omega))
   exact lim _ _ _ _ _ (by omega) (by omega) (by omega) (by omega) (ih (by omega))
 exact c5 _ (Nat.le_refl _)
set_option maxRecDepth 100000 in
theorem Z0n {t:Tp} (ok:t.Ok) (gv rv lv:Value) (s a:Int) (w:World) (s0:0 ≤ s) (s1:s < t.S) (a0:0 ≤ a) (a1:a < t.A) :
  Calls Try.prog 96 #[tpV t gv rv lv,.int .i64 s,.int .i64 a] w fun e w'=>e = .returned (.int .i64 ((rnI t s a:Nat):Int)) ∧ Ext [] w w':=by
 have E:Ext [] w w:=Ext.refl _ _
 obtain ⟨e1,e2,e3,e4⟩:=Z3x ok s0 s1 a0 a1
 unfold tpV
 refine Z01 14 Try.func96 rfl Try.ntmps96 (Nat.le_of_ble_eq_true rfl) ?_
 intro fa F
 refine wp_seq_k fun K1 hK1=>?_
 refine wp_region_lit ?_
 refine Z00 F rfl (by decide) rfl (Z0z rfl (F.at rfl)) ?_;clear F fa;intro fa w1 F hw
 obtain ⟨n3,hn⟩:∃ n,n = w.heap.size:=⟨_,rfl⟩
 rw [← hn] at F
 have s3:w.heap.size ≤ n3:=Nat.le_of_eq hn.symm
 have l3_E:w.heap.size ≤ n3:=by rw [hn];exact E.size
 replace E:=Z2 E hw
 have q3:=Zr hw hn
 clear hw hn
 refine F.vl (Z8 rfl (ev_c fa _)) ?_;clear F fa;intro fa F
 refine wpList_nil ?_
 refine hK1 _ _ ?_
 clear hK1
 refine wp_seq_k fun K2 hK2=>?_
 refine wp_region_lit ?_
 refine F.mv ?_;clear F fa;intro fa F
 refine F.vl (Z9 rfl (F.at rfl) Try.underlying28 rfl (n:=1) (sz:=1) rfl (by kernel_rfl) (by decide)) ?_;clear F fa;intro fa F
 refine F.vl (Zh rfl (F.at rfl) Try.underlying3 rfl ((Z0 q3 1).trans (getS (get0)))) ?_;clear F fa;intro fa F
 refine F.vl (ZaU rfl (F.at rfl) (F.at rfl) (by omega) (by omega)) ?_;clear F fa;intro fa F
 refine F.vl (Z0F rfl (ev_c fa _) (F.at rfl) (by omega) (by omega)) ?_;clear F fa;intro fa F
 refine F.mv ?_;clear F fa;intro fa F
 refine F.vl (Z0F rfl (F.at rfl) (F.at rfl) (by omega) (by omega)) ?_;clear F fa;intro fa F
 refine F.as ?_;clear F fa;intro fa F
 refine wpList_nil ?_
 refine hK2 _ _ ?_
 clear hK2
 refine wp_ret ?_
 (try simp only [Exit.inBlock,Exit.then])
 refine rt_v F (rs_1 F rfl rfl) ?_
 exact ⟨ZM e1.symm,E⟩
theorem Z1t {t:Tp} (ok:t.Ok) (gv rv lv:Value) (i:Int) (w:World) (i0:0 ≤ i) (i1:i < t.T) :
  Calls Try.prog 99 #[tpV t gv rv lv,.int .i64 i] w fun e w'=>e = .returned (.int .i64 ((rpI t i:Nat):Int)) ∧ Ext [] w w':=by
 have E:Ext [] w w:=Ext.refl _ _
 obtain ⟨e1,e2,e3⟩:=Z6F ok i0
 have o:=ok.T3
 unfold tpV
 refine Z01 13 Try.func99 rfl Try.ntmps99 (Nat.le_of_ble_eq_true rfl) ?_
 intro fa F
 refine wp_seq_k fun K1 hK1=>?_
 refine wp_region_lit ?_
 refine Z00 F rfl (by decide) rfl (Z0z rfl (F.at rfl)) ?_;clear F fa;intro fa w1 F hw
 obtain ⟨n2,hn⟩:∃ n,n = w.heap.size:=⟨_,rfl⟩
 rw [← hn] at F
 have s2:w.heap.size ≤ n2:=Nat.le_of_eq hn.symm
 have l2_E:w.heap.size ≤ n2:=by rw [hn];exact E.size
 replace E:=Z2 E hw
 have q2:=Zr hw hn
 clear hw hn
 refine F.vl (Z8 rfl (ev_c fa _)) ?_;clear F fa;intro fa F
 refine wpList_nil ?_
 refine hK1 _ _ ?_
 clear hK1
 refine wp_seq_k fun K2 hK2=>?_
 refine wp_region_lit ?_
 refine F.vl (Z9 rfl (F.at rfl) Try.underlying28 rfl (n:=0) (sz:=1) rfl (by kernel_rfl) (by decide)) ?_;clear F fa;intro fa F
 refine F.vl (Zh rfl (F.at rfl) Try.underlying3 rfl ((Z0 q2 0).trans (get0))) ?_;clear F fa;intro fa F
 refine F.vl (Z9 rfl (F.at rfl) Try.underlying28 rfl (n:=1) (sz:=1) rfl (by kernel_rfl) (by decide)) ?_;clear F fa;intro fa F
 refine F.vl (Zh rfl (F.at rfl) Try.underlying3 rfl ((Z0 q2 1).trans (getS (get0)))) ?_;clear F fa;intro fa F
 refine F.vl (ZaU rfl (F.at rfl) (F.at rfl) (by omega) (by omega)) ?_;clear F fa;intro fa F
 refine F.vl (Z0F rfl (ev_c fa _) (F.at rfl) (by omega) (by omega)) ?_;clear F fa;intro fa F
 refine F.mv ?_;clear F fa;intro fa F
 refine F.vl (Z0F rfl (F.at rfl) (F.at rfl) (by omega) (by omega)) ?_;clear F fa;intro fa F
 refine F.as ?_;clear F fa;intro fa F
 refine wpList_nil ?_
 refine hK2 _ _ ?_
 clear hK2
 refine wp_ret ?_
 (try simp only [Exit.inBlock,Exit.then])
 refine rt_v F (rs_1 F rfl rfl) ?_
 exact ⟨ZM e1.symm,E⟩
structure MF (w:World) (oa:Option Addr) (va:Nat → Option Addr) (vc:Nat → Nat) (n:Nat) (m:Nat → Nat → Int):Prop where
 o:SlAt [] w oa 1 n (fun i=>[.slice (va i) n (vc i)])
 r:∀ x,x < n → SlAt [] w (va x) 1 n (fun i=>[.int .i64 (m x i)])
theorem Z4y {w:World} {b b':Nat} {oa:Option Addr} {oc:Nat} {va:Nat → Option Addr} {vc:Nat → Nat} {n:Nat} {m:Nat → Nat → Int} (h:IsM w b oa oc va vc n m) (hb:b' ≤ b):IsM w b' oa oc va vc n m:=Z0i h (fun _ _ _ h=>ZH h hb) (fun _ _ _ h=>ZH h hb)
theorem Z8q {w:World} {b:Nat} {oa:Option Addr} {oc:Nat} {va:Nat → Option Addr} {vc:Nat → Nat} {n:Nat} {m:Nat → Nat → Int} (h:IsM w b oa oc va vc n m):MF w oa va vc n m:=⟨Z3b h,fun x hx=>Z3V h hx⟩
theorem Z6S (w:World) (b:Nat) (m:Nat → Nat → Int):IsM w b none 0 (fun _=>none) (fun _=>0) 0 m:=⟨World.ownsRow_nil _ _ _ _,fun i hi=>absurd hi (Nat.not_lt_zero _),fun i j hi=>absurd hi (Nat.not_lt_zero _)⟩
def Z85 (t:Tp) (n:Nat) (w:World) (e:Ending) (w':World):Prop:=∃ oa oc va vc,e = .returned (.tuple #[.agg #[.slice oa n oc],.bool (bdB t 0)]) ∧ IsM w' w.heap.size oa oc va vc n (kTt n (Z1x t) n) ∧ Ext [] w w'
set_option maxRecDepth 100000 in
set_option maxHeartbeats 4000000 in
theorem Z5M {t:Tp} (ok:t.Ok) {n:Nat} (hn:(n:Int) = 1 + t.S * t.A + t.T) (ga ra la:Option Addr) (gc rc lc:Nat) (w:World) (ht:IsTp w (.slice ga t.gr.length gc) (.slice ra t.rd.length rc) (.slice la t.lk.length lc) t) :
  Calls Try.prog 81 #[tpV t (.slice ga t.gr.length gc) (.slice ra t.rd.length rc) (.slice la t.lk.length lc)] w (Z85 t n w):=by
 have E:Ext [] w w:=Ext.refl _ _
 have HG:=Lib.hid (Z0C ht.gr (0,0))
 have HR:=Lib.hid (Z0C ht.rd (0,0,0,0))
 have HL:=Lib.hid (Z0C ht.lk (0,0,0,0,0,0))
 have Hrd:=Lib.hid (fun i (hi:i < t.rd.length)=>ok.rd _ (Z0m (0,0,0,0) hi))
 have Hlk:=Lib.hid (fun i (hi:i < t.lk.length)=>ok.lk _ (Z0m (0,0,0,0,0,0) hi))
 have Hgr:=Lib.hid (fun i (hi:i < t.gr.length)=>ok.gr _ (Z0m (0,0) hi))
 have o1:=ok.S1
 have o2:=ok.S3
 have o3:=ok.A1
 have o4:=ok.A3
 have o5:=ok.T1
 have o6:=ok.T3
 have b1:=ok.bl1
 have b2:=ok.bm1
 have b3:=ok.b
 have b4:=ok.pl1
 have b5:=ok.pm1
 have b6:=ok.p
 have b7:=ok.sl0
 have b8:=ok.sl5
 have b9:=ok.grl
 obtain ⟨hP1,hP2⟩:=Z4u ok
 have hn13:n ≤ 13:=by omega
 have hrdl:=ok.rdl
 have hlkl:=ok.lkl
 clear ht
 unfold tpV
 refine Z01 208 Try.func81 rfl Try.ntmps81 (Nat.le_of_ble_eq_true rfl) ?_
 intro fa F
 refine wp_seq_k fun K1 hK1=>?_
 refine wp_region_lit ?_
 refine Z00 F rfl (by decide) rfl (Z0z rfl (F.at rfl)) ?_;clear F fa;intro fa w1 F hw
 obtain ⟨n1,hn⟩:∃ n,n = w.heap.size:=⟨_,rfl⟩
 rw [← hn] at F
 have s1:w.heap.size ≤ n1:=Nat.le_of_eq hn.symm
 have l1_E:w.heap.size ≤ n1:=by rw [hn];exact E.size
 replace E:=Z2 E hw
 have q1:=Zr hw hn
 clear hw hn
 refine Z00 F rfl (by decide) rfl (ZB rfl Try.zeroValue111) ?_;clear F fa;intro fa w2 F hw
 obtain ⟨n2,hn⟩:∃ n,n = w1.heap.size:=⟨_,rfl⟩
 rw [← hn] at F
 have s2:w1.heap.size ≤ n2:=Nat.le_of_eq hn.symm
 have l2_E:w.heap.size ≤ n2:=by rw [hn];exact E.size
 have m2_1:n1 < n2:=by rw [hn];exact Z7 q1
 replace q1:=Z1 hw q1
 replace E:=Z2 E hw
 have q2:=Zr hw hn
 clear hw hn
 refine F.vl (Z8 rfl (ev_c fa _)) ?_;clear F fa;intro fa F
 refine wpList_nil ?_
 refine hK1 _ _ ?_
 clear hK1
 refine wp_seq_k fun K2 hK2=>?_
 refine wp_region_lit ?_
 refine F.vl (Z9 rfl (F.at rfl) Try.underlying28 rfl (n:=0) (sz:=1) rfl (by kernel_rfl) (by decide)) ?_;clear F fa;intro fa F
 refine F.vl (Zh rfl (F.at rfl) Try.underlying3 rfl ((Z0 q1 0).trans (get0))) ?_;clear F fa;intro fa F
 refine F.vl (Z9 rfl (F.at rfl) Try.underlying28 rfl (n:=1) (sz:=1) rfl (by kernel_rfl) (by decide)) ?_;clear F fa;intro fa F
 refine F.vl (Zh rfl (F.at rfl) Try.underlying3 rfl ((Z0 q1 1).trans (getS (get0)))) ?_;clear F fa;intro fa F
 refine F.vl (ZaU rfl (F.at rfl) (F.at rfl) (by omega) (by omega)) ?_;clear F fa;intro fa F
 refine F.vl (Z0F rfl (ev_c fa _) (F.at rfl) (by omega) (by omega)) ?_;clear F fa;intro fa F
 refine F.vl (Z9 rfl (F.at rfl) Try.underlying28 rfl (n:=2) (sz:=1) rfl (by kernel_rfl) (by decide)) ?_;clear F fa;intro fa F
 refine F.vl (Zh rfl (F.at rfl) Try.underlying3 rfl ((Z0 q1 2).trans (getS (getS (get0))))) ?_;clear F fa;intro fa F
 refine F.vl (Z0F rfl (F.at rfl) (F.at rfl) (by omega) (by omega)) ?_;clear F fa;intro fa F
 replace F:=F.re (k:=25) rfl (congrArg (Value.int .i64) (show 1 + t.S * t.A + t.T = ((n:Nat):Int) by omega))
 obtain ⟨Bn,hBn⟩:∃ B,B = w2.heap.size:=⟨_,rfl⟩
 have hBw:w.heap.size ≤ Bn:=by rw [hBn];exact E.size
 have hBs:Bn ≤ w2.heap.size:=Nat.le_of_eq hBn
 refine ZX F rfl (by decide) rfl (ZG rfl rfl Try.call134 (mpS (F.at rfl) mp0)) (Z6h n hn13 _) fun e w3 hR=>?_
 obtain ⟨oa,oc,va,vc,rfl,ism,eX⟩:=hR
 refine ⟨_,rfl,?_⟩;clear F fa;intro fa F
 replace q1:=(eX).keep0 q1
 replace q2:=(eX).keep0 q2
 replace E:=Z4 E (eX)
 rw [← hBn] at ism
 have hB3:Bn ≤ w3.heap.size:=Nat.le_trans hBs eX.size
 refine Z00 F rfl (by decide) rfl (ZB rfl Try.zeroValue111) ?_;clear F fa;intro fa w4 F hw
 obtain ⟨n4,hn⟩:∃ n,n = w3.heap.size:=⟨_,rfl⟩
 rw [← hn] at F
 have s4:w3.heap.size ≤ n4:=Nat.le_of_eq hn.symm
 have l4_E:w.heap.size ≤ n4:=by rw [hn];exact E.size
 have m4_1:n1 < n4:=by rw [hn];exact Z7 q1
 have m4_2:n2 < n4:=by rw [hn];exact Z7 q2
 replace ism:=Z0i ism (fun _ _ _ h=>Zc hw h) (fun _ _ _ h=>Zc hw h)
 replace q1:=Z1 hw q1
 replace q2:=Z1 hw q2
 replace E:=Z2 E hw
 have q4:=Zr hw hn
 clear hw hn
 refine Z1L rfl rfl (Zg rfl (F.at rfl) (F.at rfl) (by kernel_rfl) (by first | (simp [Value.oneCell'];done) | (simp [Value.oneCell',Z0K,Z0B,Z0L];done)) q4 rfl) ?_;intro w5 hw
 replace ism:=Z0i ism (fun _ _ _ h=>Zu hw h (Z6 h q4 (by decide))) (fun _ _ _ h=>Zu hw h (Z6 h q4 (by decide)))
 replace q1:=Z5 hw q1 (by omega)
 replace q2:=Z5 hw q2 (by omega)
 replace q4:=Zz hw q4 rfl
 replace E:=Za E hw (fun h=>by first | exact absurd h (by omega) | simp)
 clear hw
 refine wpList_nil ?_
 refine hK2 _ _ ?_
 clear hK2
 refine wp_seq_k fun K3 hK3=>?_
 refine wp_seq_k fun K4 hK4=>?_
 refine wp_region_lit ?_
 refine F.vl (Z8 rfl (ev_c fa _)) ?_;clear F fa;intro fa F
 refine wpList_nil ?_
 refine hK4 _ _ ?_
 clear hK4
 refine wp_block ?_
 have F0:=F.sub (.c 1 rfl (.c 2 rfl (.c 4 rfl .n)))
 refine Z0U F0 (t.S.toNat) (fun i Lv W=>Lv = [(5,.int .i64 ((i:Nat):Int))] ∧ Ext [] w W ∧ W.heap[n1]? = some (.cells #[.int .i64 t.S,.int .i64 t.A,.int .i64 t.T,.int .i64 t.bl,.int .i64 t.bm,.int .i64 t.pl,.int .i64 t.pm,.int .i64 t.sl,.slice ga t.gr.length gc,.slice ra t.rd.length rc,.slice la t.lk.length lc] 28 (0,0)) ∧ W.heap[n2]? = some (.cells #[.slice none 0 0] 111 (0,0)) ∧ W.heap[n4]? = some (.cells #[.slice oa n oc] 111 (0,0)) ∧ IsM W Bn oa oc va vc n (rsTo t farM i)) ⟨_,⟨rfl,E,q1,q2,q4,ism⟩,F.sub (.c 5 rfl (.c 1 rfl (.c 2 rfl (.c 4 rfl .n))))⟩ ?_
 clear F F0
 clear E q1 q2 q4
 clear ism
 rintro i _ fa w6 hi1 ⟨rfl,E,q1,q2,q4,ism⟩ F
 refine wp_seq_k fun K5 hK5=>?_
 refine wp_seq_k fun K6 hK6=>?_
 refine wp_region_lit ?_
 refine F.mv ?_;clear F fa;intro fa F
 refine F.vl (Z9 rfl (F.at rfl) Try.underlying28 rfl (n:=0) (sz:=1) rfl (by kernel_rfl) (by decide)) ?_;clear F fa;intro fa F
 refine F.vl (Zh rfl (F.at rfl) Try.underlying3 rfl ((Z0 q1 0).trans (get0))) ?_;clear F fa;intro fa F
 refine F.vl (Z1d rfl (F.at rfl) (F.at rfl)) ?_;clear F fa;intro fa F
 refine wpList_nil ?_
 refine hK6 _ _ ?_
 clear hK6
 refine Z0J F rfl (fun hc30=>?_) (fun hc30=>?_)
 ·skip
  refine wp_skip ?_
  refine hK5 _ _ ?_
  clear hK5
  refine wp_seq_k fun K7 hK7=>?_
  refine wp_block ?_
  refine wp_seq_k fun K8 hK8=>?_
  refine wp_region_lit ?_
  refine F.vl (Z8 rfl (ev_c fa _)) ?_;clear F fa;intro fa F
  refine wpList_nil ?_
  refine hK8 _ _ ?_
  clear hK8
  refine wp_block ?_
  have F0:=F.sub (.c 1 rfl (.c 2 rfl (.c 4 rfl (.c 5 rfl .n))))
  refine Z0U F0 (t.A.toNat) (fun j Lv W=>Lv = [(6,.int .i64 ((j:Nat):Int))] ∧ Ext [] w W ∧ W.heap[n1]? = some (.cells #[.int .i64 t.S,.int .i64 t.A,.int .i64 t.T,.int .i64 t.bl,.int .i64 t.bm,.int .i64 t.pl,.int .i64 t.pm,.int .i64 t.sl,.slice ga t.gr.length gc,.slice ra t.rd.length rc,.slice la t.lk.length lc] 28 (0,0)) ∧ W.heap[n2]? = some (.cells #[.slice none 0 0] 111 (0,0)) ∧ W.heap[n4]? = some (.cells #[.slice oa n oc] 111 (0,0)) ∧ IsM W Bn oa oc va vc n (rcTo t (rsTo t farM i) i j)) ⟨_,⟨rfl,E,q1,q2,q4,ism⟩,F.sub (.c 6 rfl (.c 1 rfl (.c 2 rfl (.c 4 rfl (.c 5 rfl .n)))))⟩ ?_
  clear F F0
  clear E q1 q2 q4
  clear ism
  rintro j _ fa w7 hi2 ⟨rfl,E,q1,q2,q4,ism⟩ F
  refine wp_seq_k fun K9 hK9=>?_
  refine wp_seq_k fun K10 hK10=>?_
  refine wp_region_lit ?_
  refine F.mv ?_;clear F fa;intro fa F
  refine F.vl (Z9 rfl (F.at rfl) Try.underlying28 rfl (n:=1) (sz:=1) rfl (by kernel_rfl) (by decide)) ?_;clear F fa;intro fa F
  refine F.vl (Zh rfl (F.at rfl) Try.underlying3 rfl ((Z0 q1 1).trans (getS (get0)))) ?_;clear F fa;intro fa F
  refine F.vl (Z1d rfl (F.at rfl) (F.at rfl)) ?_;clear F fa;intro fa F
  refine wpList_nil ?_
  refine hK10 _ _ ?_
  clear hK10
  refine Z0J F rfl (fun hc36=>?_) (fun hc36=>?_)
  ·skip
   refine wp_skip ?_
   refine hK9 _ _ ?_
   clear hK9
   refine wp_seq_k fun K11 hK11=>?_
   refine wp_block ?_
   refine wp_seq_k fun K12 hK12=>?_
   obtain ⟨e1,e2,e3,e4⟩:=Z3x ok (s:=(i:Int)) (a:=(j:Int)) (by omega) (by omega) (by omega) (by omega)
   refine Z0P (Ext [] w7) (some 7) follows fun w8 hh eh=>?_
   have q1_:=q1
   replace q1:=Zn hh q1
   have q2_:=q2
   replace q2:=Zn hh q2
   have q4_:=q4
   replace q4:=Zn hh q4
   have E_:=E
   have zEw8:=E.size
   replace E:=Z4 E eh
   replace ism:=Z0i ism (fun _ _ _ h=>ZW hh h) (fun _ _ _ h=>ZW hh h)
   have eT:=eh
   clear hh eh
   refine F.xr (i:=0) rfl (fun w' hS=>Zt rfl (F.at rfl) Try.underlying111 rfl (by kernel_rfl) (hS.keep q4_ (by simp))) (fun _=>eT) ?_;clear F fa;intro fa F
   refine F.xr2 (i:=1) [4,7] rfl (fun w' hS=>Zt rfl (F.at rfl) Try.underlying28 rfl (by kernel_rfl) (hS.keep q1_ (by simp))) (fun _=>eT) ?_;clear F fa;intro fa F
   refine F.x (i:=2) rfl (fun w'=>Zi rfl (F.at rfl)) (fun _=>eT) ?_;clear F fa;intro fa F
   refine F.x (i:=3) rfl (fun w'=>Zi rfl (F.at rfl)) (fun _=>eT) ?_;clear F fa;intro fa F
   refine F.x (i:=5) rfl (fun w'=>Z9 rfl (F.at rfl) Try.underlying28 rfl (n:=3) (sz:=2) rfl (by kernel_rfl) (by decide)) (fun _=>eT) ?_;clear F fa;intro fa F
   refine F.xr (i:=6) rfl (fun w' hS=>ZP rfl (F.at rfl) Try.underlying23 rfl (by kernel_rfl) (Z0I (n:=2) (hS.keep q1_ (by simp)) rfl (midS (getS (getS (getS (get0)))) (midS (getS (getS (getS (getS (get0))))) mid0)))) (fun _=>eT) ?_;clear F fa;intro fa F
   refine Zv (i:=4) (by kernel_rfl) (Z07 F rfl rfl (by decide) rfl (ZG rfl rfl Try.call96 (mpS (F.at rfl) (mpS (F.at rfl) (mpS (F.at rfl) mp0)))) (Z0n ok _ _ _ (i:Int) (j:Int) _ (by omega) (by omega) (by omega) (by omega)) fun e w9 hR=>?_)
   obtain ⟨rfl,e9⟩:=hR
   refine ⟨_,rfl,?_⟩;clear F fa;intro fa F
   replace ism:=Z0i ism (fun _ _ _ h=>Zq h (e9) (by simp)) (fun _ _ _ h=>Zq h (e9) (by simp))
   replace q1:=(e9).keep0 q1
   replace q2:=(e9).keep0 q2
   replace q4:=(e9).keep0 q4
   replace E:=Z4 E (e9)
   replace eT:=Z4 eT (e9)
   clear e9
   refine ⟨fun _=>eT,?_⟩
   have hEs:=Z7 q4
   refine Zv (i:=7) (by kernel_rfl) (Z07 F rfl rfl (by decide) rfl (ZG rfl rfl Try.call135 (mpS (F.at rfl) (mpS (F.at rfl) (mpS (ev_c fa _) (mpS (F.at rfl) mp0))))) (Z1K hn13 ism (by omega) (rnI t (i:Int) (j:Int)) 0 (by omega) (by omega) t.bl t.bm (by omega) (by omega)) fun e w10 hR=>?_)
   obtain ⟨rfl,ism,eC⟩:=hR
   refine ⟨_,rfl,?_⟩;clear F fa;intro fa F
   replace q1:=Z12 (eC) q1 (by decide)
   replace q2:=Z12 (eC) q2 (by decide)
   replace q4:=Z12 (eC) q4 (by decide)
   replace E:=Z4C E (eC) (by omega)
   refine ⟨gone (by kernel_rfl),?_⟩
   refine Z0a (by kernel_rfl) ?_ _
   clear eT q1_ q2_ q4_ E_
   refine hK12 _ _ ?_
   clear hK12
   refine wp_seq_k fun K13 hK13=>?_
   refine wp_region_lit ?_
   refine F.mv ?_;clear F fa;intro fa F
   refine F.vl (Z4J rfl (F.at rfl) (ev_c fa _)) ?_;clear F fa;intro fa F
   refine wpList_nil ?_
   refine hK13 _ _ ?_
   clear hK13
   refine Z0J F rfl (fun hc48=>?_) (fun hc48=>?_)
   ·skip
    obtain ⟨f1,f2,f3,f4⟩:=Z3x ok (s:=(i:Int)) (a:=(j:Int) - 1) (by omega) (by omega) (by omega) (by omega)
    have hg:=Hgr.out i (by omega)
    refine Z0P (Ext [] w10) (some 15) follows fun w11 hh eh=>?_
    have q1_:=q1
    replace q1:=Zn hh q1
    have q2_:=q2
    replace q2:=Zn hh q2
    have q4_:=q4
    replace q4:=Zn hh q4
    have E_:=E
    have zEw11:=E.size
    replace E:=Z4 E eh
    replace ism:=Z0i ism (fun _ _ _ h=>ZW hh h) (fun _ _ _ h=>ZW hh h)
    have eT:=eh
    clear hh eh
    refine F.xr (i:=0) rfl (fun w' hS=>Zt rfl (F.at rfl) Try.underlying111 rfl (by kernel_rfl) (hS.keep q4_ (by simp))) (fun _=>eT) ?_;clear F fa;intro fa F
    refine F.xr2 (i:=1) [4,9,15] rfl (fun w' hS=>Zt rfl (F.at rfl) Try.underlying28 rfl (by kernel_rfl) (hS.keep q1_ (by simp))) (fun _=>eT) ?_;clear F fa;intro fa F
    refine F.x (i:=2) rfl (fun w'=>Zi rfl (F.at rfl)) (fun _=>eT) ?_;clear F fa;intro fa F
    refine F.x (i:=3) rfl (fun w'=>Zi rfl (F.at rfl)) (fun _=>eT) ?_;clear F fa;intro fa F
    refine F.xr2 (i:=5) [9,15] rfl (fun w' hS=>Zt rfl (F.at rfl) Try.underlying28 rfl (by kernel_rfl) (hS.keep q1_ (by simp))) (fun _=>eT) ?_;clear F fa;intro fa F
    refine F.x (i:=6) rfl (fun w'=>Zi rfl (F.at rfl)) (fun _=>eT) ?_;clear F fa;intro fa F
    refine F.x (i:=7) rfl (fun w'=>Zi rfl (F.at rfl)) (fun _=>eT) ?_;clear F fa;intro fa F
    refine F.x (i:=8) rfl (fun w'=>Z1I rfl (F.at rfl) (ev_c fa _) (by omega) (by omega)) (fun _=>eT) ?_;clear F fa;intro fa F
    refine F.x (i:=10) rfl (fun w'=>Z9 rfl (F.at rfl) Try.underlying28 rfl (n:=8) (sz:=1) rfl (by kernel_rfl) (by decide)) (fun _=>eT) ?_;clear F fa;intro fa F
    refine F.xr2 (i:=11) [13,14,15] rfl (fun w' hS=>Zh rfl (F.at rfl) Try.underlying24 rfl ((Z0 (hS.keep q1_ (by simp)) 8).trans (getS (getS (getS (getS (getS (getS (getS (getS (get0))))))))))) (fun _=>eT) ?_;clear F fa;intro fa F
    refine F.x (i:=12) rfl (fun w'=>Zi rfl (F.at rfl)) (fun _=>eT) ?_;clear F fa;intro fa F
    obtain ⟨xb14,xo14,xa14,xr14⟩:=HG.out i (by omega)
    refine F.x (i:=13) rfl (fun w'=>ZJ (sz:=2) rfl ((F.at rfl).trans (xa14 _ _)) (F.at rfl) Try.underlying24 (by kernel_rfl) (by omega) (by omega)) (fun _=>eT) ?_;clear F fa;intro fa F
    refine F.xr (i:=14) rfl (fun w' hS=>ZP rfl (F.at rfl) Try.underlying23 rfl (by kernel_rfl) (xr14 _ (E_.nil hS))) (fun _=>eT) ?_;clear F fa;intro fa F
    refine Zv (i:=4) (by kernel_rfl) (Z07 F rfl rfl (by decide) rfl (ZG rfl rfl Try.call96 (mpS (F.at rfl) (mpS (F.at rfl) (mpS (F.at rfl) mp0)))) (Z0n ok _ _ _ (i:Int) (j:Int) _ (by omega) (by omega) (by omega) (by omega)) fun e w12 hR=>?_)
    obtain ⟨rfl,e9⟩:=hR
    refine ⟨_,rfl,?_⟩;clear F fa;intro fa F
    replace ism:=Z0i ism (fun _ _ _ h=>Zq h (e9) (by simp)) (fun _ _ _ h=>Zq h (e9) (by simp))
    replace q1:=(e9).keep0 q1
    replace q2:=(e9).keep0 q2
    replace q4:=(e9).keep0 q4
    replace E:=Z4 E (e9)
    replace eT:=Z4 eT (e9)
    clear e9
    refine ⟨fun _=>eT,?_⟩
    refine Zv (i:=9) (by kernel_rfl) (Z07 F rfl rfl (by decide) rfl (ZG rfl rfl Try.call96 (mpS (F.at rfl) (mpS (F.at rfl) (mpS (F.at rfl) mp0)))) (Z0n ok _ _ _ (i:Int) ((j:Int) - 1) _ (by omega) (by omega) (by omega) (by omega)) fun e w13 hR=>?_)
    obtain ⟨rfl,e9⟩:=hR
    refine ⟨_,rfl,?_⟩;clear F fa;intro fa F
    replace ism:=Z0i ism (fun _ _ _ h=>Zq h (e9) (by simp)) (fun _ _ _ h=>Zq h (e9) (by simp))
    replace q1:=(e9).keep0 q1
    replace q2:=(e9).keep0 q2
    replace q4:=(e9).keep0 q4
    replace E:=Z4 E (e9)
    replace eT:=Z4 eT (e9)
    clear e9
    refine ⟨fun _=>eT,?_⟩
    have hEs:=Z7 q4
    refine Zv (i:=15) (by kernel_rfl) (Z07 F rfl rfl (by decide) rfl (ZG rfl rfl Try.call135 (mpS (F.at rfl) (mpS (F.at rfl) (mpS (F.at rfl) (mpS (F.at rfl) mp0))))) (Z1K hn13 ism (by omega) (rnI t (i:Int) (j:Int)) (rnI t (i:Int) ((j:Int) - 1)) (by omega) (by omega) (t.gr.getD i (0,0)).1 (t.gr.getD i (0,0)).2 (by omega) (by omega)) fun e w14 hR=>?_)
    obtain ⟨rfl,ism,eC⟩:=hR
    refine ⟨_,rfl,?_⟩;clear F fa;intro fa F
    replace q1:=Z12 (eC) q1 (by decide)
    replace q2:=Z12 (eC) q2 (by decide)
    replace q4:=Z12 (eC) q4 (by decide)
    replace E:=Z4C E (eC) (by omega)
    refine ⟨gone (by kernel_rfl),?_⟩
    refine Z0a (by kernel_rfl) ?_ _
    clear eT q1_ q2_ q4_ E_
    refine hK11 _ _ ?_
    clear hK11
    refine wp_region_lit ?_
    refine F.mv ?_;clear F fa;intro fa F
    refine F.vl (Z0F rfl (F.at rfl) (ev_c fa _) (by omega) (by omega)) ?_;clear F fa;intro fa F
    refine F.as ?_;clear F fa;intro fa F
    refine wpList_nil ?_
    show _ ∧ _
    exact ⟨by omega,_,⟨rfl,E,q1,q2,q4,(by rw [Z3P];first | (rw [if_pos (by omega)];exact ism) | (rw [if_neg (by omega)];exact ism))⟩,F.sub (.c 6 rfl (.c 1 rfl (.c 2 rfl (.c 4 rfl (.c 5 rfl .n)))))⟩
   ·skip
    refine wp_skip ?_
    refine hK11 _ _ ?_
    clear hK11
    refine wp_region_lit ?_
    refine F.mv ?_;clear F fa;intro fa F
    refine F.vl (Z0F rfl (F.at rfl) (ev_c fa _) (by omega) (by omega)) ?_;clear F fa;intro fa F
    refine F.as ?_;clear F fa;intro fa F
    refine wpList_nil ?_
    show _ ∧ _
    exact ⟨by omega,_,⟨rfl,E,q1,q2,q4,(by rw [Z3P];first | (rw [if_pos (by omega)];exact ism) | (rw [if_neg (by omega)];exact ism))⟩,F.sub (.c 6 rfl (.c 1 rfl (.c 2 rfl (.c 4 rfl (.c 5 rfl .n)))))⟩
  ·skip
   refine wp_exit ?_
   rw [show j = t.A.toNat by omega] at ism
   refine hK7 _ _ ?_
   clear hK7
   refine wp_region_lit ?_
   refine F.mv ?_;clear F fa;intro fa F
   refine F.vl (Z0F rfl (F.at rfl) (ev_c fa _) (by omega) (by omega)) ?_;clear F fa;intro fa F
   refine F.as ?_;clear F fa;intro fa F
   refine wpList_nil ?_
   show _ ∧ _
   exact ⟨by omega,_,⟨rfl,E,q1,q2,q4,ism⟩,F.sub (.c 5 rfl (.c 1 rfl (.c 2 rfl (.c 4 rfl .n))))⟩
 ·skip
  refine wp_exit ?_
  rw [show i = t.S.toNat by omega] at ism
  refine hK3 _ _ ?_
  clear hK3
  refine wp_seq_k fun K15 hK15=>?_
  refine wp_seq_k fun K16 hK16=>?_
  refine wp_region_lit ?_
  refine F.vl (Z8 rfl (ev_c fa _)) ?_;clear F fa;intro fa F
  refine wpList_nil ?_
  refine hK16 _ _ ?_
  clear hK16
  refine wp_block ?_
  have F0:=F.sub (.c 1 rfl (.c 2 rfl (.c 4 rfl .n)))
  refine Z0U F0 (t.T.toNat) (fun i Lv W=>Lv = [(7,.int .i64 ((i:Nat):Int))] ∧ Ext [] w W ∧ W.heap[n1]? = some (.cells #[.int .i64 t.S,.int .i64 t.A,.int .i64 t.T,.int .i64 t.bl,.int .i64 t.bm,.int .i64 t.pl,.int .i64 t.pm,.int .i64 t.sl,.slice ga t.gr.length gc,.slice ra t.rd.length rc,.slice la t.lk.length lc] 28 (0,0)) ∧ W.heap[n2]? = some (.cells #[.slice none 0 0] 111 (0,0)) ∧ W.heap[n4]? = some (.cells #[.slice oa n oc] 111 (0,0)) ∧ IsM W Bn oa oc va vc n (rtTo t (rsTo t farM t.S.toNat) i)) ⟨_,⟨rfl,E,q1,q2,q4,ism⟩,F.sub (.c 7 rfl (.c 1 rfl (.c 2 rfl (.c 4 rfl .n))))⟩ ?_
  clear F F0
  clear E q1 q2 q4
  clear ism
  rintro i _ fa w15 hi3 ⟨rfl,E,q1,q2,q4,ism⟩ F
  refine wp_seq_k fun K17 hK17=>?_
  refine wp_seq_k fun K18 hK18=>?_
  refine wp_region_lit ?_
  refine F.mv ?_;clear F fa;intro fa F
  refine F.vl (Z9 rfl (F.at rfl) Try.underlying28 rfl (n:=2) (sz:=1) rfl (by kernel_rfl) (by decide)) ?_;clear F fa;intro fa F
  refine F.vl (Zh rfl (F.at rfl) Try.underlying3 rfl ((Z0 q1 2).trans (getS (getS (get0))))) ?_;clear F fa;intro fa F
  refine F.vl (Z1d rfl (F.at rfl) (F.at rfl)) ?_;clear F fa;intro fa F
  refine wpList_nil ?_
  refine hK18 _ _ ?_
  clear hK18
  refine Z0J F rfl (fun hc68=>?_) (fun hc68=>?_)
  ·skip
   refine wp_skip ?_
   refine hK17 _ _ ?_
   clear hK17
   refine wp_seq_k fun K19 hK19=>?_
   refine wp_block ?_
   obtain ⟨e1,e2,e3⟩:=Z6F ok (i:=(i:Int)) (by omega)
   refine Z0P (Ext [] w15) (some 6) follows fun w16 hh eh=>?_
   have q1_:=q1
   replace q1:=Zn hh q1
   have q2_:=q2
   replace q2:=Zn hh q2
   have q4_:=q4
   replace q4:=Zn hh q4
   have E_:=E
   have zEw16:=E.size
   replace E:=Z4 E eh
   replace ism:=Z0i ism (fun _ _ _ h=>ZW hh h) (fun _ _ _ h=>ZW hh h)
   have eT:=eh
   clear hh eh
   refine F.xr (i:=0) rfl (fun w' hS=>Zt rfl (F.at rfl) Try.underlying111 rfl (by kernel_rfl) (hS.keep q4_ (by simp))) (fun _=>eT) ?_;clear F fa;intro fa F
   refine F.xr2 (i:=1) [3,6] rfl (fun w' hS=>Zt rfl (F.at rfl) Try.underlying28 rfl (by kernel_rfl) (hS.keep q1_ (by simp))) (fun _=>eT) ?_;clear F fa;intro fa F
   refine F.x (i:=2) rfl (fun w'=>Zi rfl (F.at rfl)) (fun _=>eT) ?_;clear F fa;intro fa F
   refine F.x (i:=4) rfl (fun w'=>Z9 rfl (F.at rfl) Try.underlying28 rfl (n:=5) (sz:=2) rfl (by kernel_rfl) (by decide)) (fun _=>eT) ?_;clear F fa;intro fa F
   refine F.xr (i:=5) rfl (fun w' hS=>ZP rfl (F.at rfl) Try.underlying23 rfl (by kernel_rfl) (Z0I (n:=2) (hS.keep q1_ (by simp)) rfl (midS (getS (getS (getS (getS (getS (get0)))))) (midS (getS (getS (getS (getS (getS (getS (get0))))))) mid0)))) (fun _=>eT) ?_;clear F fa;intro fa F
   refine Zv (i:=3) (by kernel_rfl) (Z07 F rfl rfl (by decide) rfl (ZG rfl rfl Try.call99 (mpS (F.at rfl) (mpS (F.at rfl) mp0))) (Z1t ok _ _ _ (i:Int) _ (by omega) (by omega)) fun e w17 hR=>?_)
   obtain ⟨rfl,e9⟩:=hR
   refine ⟨_,rfl,?_⟩;clear F fa;intro fa F
   replace ism:=Z0i ism (fun _ _ _ h=>Zq h (e9) (by simp)) (fun _ _ _ h=>Zq h (e9) (by simp))
   replace q1:=(e9).keep0 q1
   replace q2:=(e9).keep0 q2
   replace q4:=(e9).keep0 q4
   replace E:=Z4 E (e9)
   replace eT:=Z4 eT (e9)
   clear e9
   refine ⟨fun _=>eT,?_⟩
   have hEs:=Z7 q4
   refine Zv (i:=6) (by kernel_rfl) (Z07 F rfl rfl (by decide) rfl (ZG rfl rfl Try.call135 (mpS (F.at rfl) (mpS (ev_c fa _) (mpS (F.at rfl) (mpS (F.at rfl) mp0))))) (Z1K hn13 ism (by omega) 0 (rpI t (i:Int)) (by omega) (by omega) t.pl t.pm (by omega) (by omega)) fun e w18 hR=>?_)
   obtain ⟨rfl,ism,eC⟩:=hR
   refine ⟨_,rfl,?_⟩;clear F fa;intro fa F
   replace q1:=Z12 (eC) q1 (by decide)
   replace q2:=Z12 (eC) q2 (by decide)
   replace q4:=Z12 (eC) q4 (by decide)
   replace E:=Z4C E (eC) (by omega)
   refine ⟨gone (by kernel_rfl),?_⟩
   refine Z0a (by kernel_rfl) ?_ _
   clear eT q1_ q2_ q4_ E_
   refine hK19 _ _ ?_
   clear hK19
   refine wp_region_lit ?_
   refine F.mv ?_;clear F fa;intro fa F
   refine F.vl (Z0F rfl (F.at rfl) (ev_c fa _) (by omega) (by omega)) ?_;clear F fa;intro fa F
   refine F.as ?_;clear F fa;intro fa F
   refine wpList_nil ?_
   show _ ∧ _
   exact ⟨by omega,_,⟨rfl,E,q1,q2,q4,ism⟩,F.sub (.c 7 rfl (.c 1 rfl (.c 2 rfl (.c 4 rfl .n))))⟩
  ·skip
   refine wp_exit ?_
   rw [show i = t.T.toNat by omega] at ism
   refine hK15 _ _ ?_
   clear hK15
   refine wp_seq_k fun K20 hK20=>?_
   refine wp_seq_k fun K21 hK21=>?_
   refine wp_region_lit ?_
   refine F.vl (Z8 rfl (ev_c fa _)) ?_;clear F fa;intro fa F
   refine wpList_nil ?_
   refine hK21 _ _ ?_
   clear hK21
   refine wp_block ?_
   have F0:=F.sub (.c 1 rfl (.c 2 rfl (.c 4 rfl .n)))
   refine Z0U F0 (t.rd.length) (fun i Lv W=>Lv = [(8,.int .i64 ((i:Nat):Int))] ∧ Ext [] w W ∧ W.heap[n1]? = some (.cells #[.int .i64 t.S,.int .i64 t.A,.int .i64 t.T,.int .i64 t.bl,.int .i64 t.bm,.int .i64 t.pl,.int .i64 t.pm,.int .i64 t.sl,.slice ga t.gr.length gc,.slice ra t.rd.length rc,.slice la t.lk.length lc] 28 (0,0)) ∧ W.heap[n2]? = some (.cells #[.slice none 0 0] 111 (0,0)) ∧ W.heap[n4]? = some (.cells #[.slice oa n oc] 111 (0,0)) ∧ IsM W Bn oa oc va vc n (rrTo t (rtTo t (rsTo t farM t.S.toNat) t.T.toNat) i)) ⟨_,⟨rfl,E,q1,q2,q4,ism⟩,F.sub (.c 8 rfl (.c 1 rfl (.c 2 rfl (.c 4 rfl .n))))⟩ ?_
   clear F F0
   clear E q1 q2 q4
   clear ism
   rintro i _ fa w19 hi4 ⟨rfl,E,q1,q2,q4,ism⟩ F
   refine wp_seq_k fun K22 hK22=>?_
   refine wp_seq_k fun K23 hK23=>?_
   refine wp_region_lit ?_
   refine F.mv ?_;clear F fa;intro fa F
   refine F.vl (Z9 rfl (F.at rfl) Try.underlying28 rfl (n:=9) (sz:=1) rfl (by kernel_rfl) (by decide)) ?_;clear F fa;intro fa F
   refine F.vl (Zh rfl (F.at rfl) Try.underlying25 rfl ((Z0 q1 9).trans (getS (getS (getS (getS (getS (getS (getS (getS (getS (get0)))))))))))) ?_;clear F fa;intro fa F
   refine F.vl (Z1c rfl rfl (F.at rfl) Try.underlying25) ?_;clear F fa;intro fa F
   refine F.vl (Z1d rfl (F.at rfl) (F.at rfl)) ?_;clear F fa;intro fa F
   refine wpList_nil ?_
   refine hK23 _ _ ?_
   clear hK23
   refine Z0J F rfl (fun hc82=>?_) (fun hc82=>?_)
   ·skip
    refine wp_skip ?_
    refine hK22 _ _ ?_
    clear hK22
    refine wp_seq_k fun K24 hK24=>?_
    refine wp_block ?_
    refine wp_seq_k fun K25 hK25=>?_
    refine wp_region_lit ?_
    refine F.vl (Z9 rfl (F.at rfl) Try.underlying28 rfl (n:=9) (sz:=1) rfl (by kernel_rfl) (by decide)) ?_;clear F fa;intro fa F
    refine F.vl (Zh rfl (F.at rfl) Try.underlying25 rfl ((Z0 q1 9).trans (getS (getS (getS (getS (getS (getS (getS (getS (getS (get0)))))))))))) ?_;clear F fa;intro fa F
    refine F.mv ?_;clear F fa;intro fa F
    obtain ⟨xb26,xo26,xa26,xr26⟩:=HR.out i (by omega)
    refine F.vl (ZJ (sz:=4) rfl ((F.at rfl).trans (xa26 _ _)) (F.at rfl) Try.underlying25 (by kernel_rfl) (by omega) (by omega)) ?_;clear F fa;intro fa F
    refine F.vl (ZP rfl (F.at rfl) Try.underlying66 rfl (by kernel_rfl) (xr26 _ E)) ?_;clear F fa;intro fa F
    refine Z00 F rfl (by decide) rfl (ZB rfl Try.zeroValue66) ?_;clear F fa;intro fa w20 F hw
    obtain ⟨n9,hn⟩:∃ n,n = w19.heap.size:=⟨_,rfl⟩
    rw [← hn] at F
    have s9:w19.heap.size ≤ n9:=Nat.le_of_eq hn.symm
    have l9_E:w.heap.size ≤ n9:=by rw [hn];exact E.size
    have m9_1:n1 < n9:=by rw [hn];exact Z7 q1
    have m9_2:n2 < n9:=by rw [hn];exact Z7 q2
    have m9_4:n4 < n9:=by rw [hn];exact Z7 q4
    replace ism:=Z0i ism (fun _ _ _ h=>Zc hw h) (fun _ _ _ h=>Zc hw h)
    replace q1:=Z1 hw q1
    replace q2:=Z1 hw q2
    replace q4:=Z1 hw q4
    replace E:=Z2 E hw
    have q9:=Zr hw hn
    clear hw hn
    refine Z1L rfl rfl (Zg rfl (F.at rfl) (F.at rfl) (by kernel_rfl) (by first | (simp [Value.oneCell'];done) | (simp [Value.oneCell',Z0K,Z0B,Z0L];done)) q9 rfl) ?_;intro w21 hw
    replace ism:=Z0i ism (fun _ _ _ h=>Zu hw h (Z6 h q9 (by decide))) (fun _ _ _ h=>Zu hw h (Z6 h q9 (by decide)))
    replace q1:=Z5 hw q1 (by omega)
    replace q2:=Z5 hw q2 (by omega)
    replace q4:=Z5 hw q4 (by omega)
    replace q9:=Zz hw q9 rfl
    replace E:=Za E hw (fun h=>by first | exact absurd h (by omega) | simp)
    clear hw
    refine wpList_nil ?_
    refine hK25 _ _ ?_
    clear hK25
    have hg:=Hrd.out i (by omega)
    obtain ⟨e1,e2,e3,e4⟩:=Z3x ok (s:=(t.rd.getD i (0,0,0,0)).1) (a:=(t.rd.getD i (0,0,0,0)).2.1) (by omega) (by omega) (by omega) (by omega)
    obtain ⟨f1,f2,f3⟩:=Z6F ok (i:=(t.rd.getD i (0,0,0,0)).2.2.1) (by omega)
    refine Z0P (Ext [] w21) (some 22) follows fun w22 hh eh=>?_
    have q1_:=q1
    replace q1:=Zn hh q1
    have q2_:=q2
    replace q2:=Zn hh q2
    have q4_:=q4
    replace q4:=Zn hh q4
    have q9_:=q9
    replace q9:=Zn hh q9
    have E_:=E
    have zEw22:=E.size
    replace E:=Z4 E eh
    replace ism:=Z0i ism (fun _ _ _ h=>ZW hh h) (fun _ _ _ h=>ZW hh h)
    have eT:=eh
    clear hh eh
    refine F.xr (i:=0) rfl (fun w' hS=>Zt rfl (F.at rfl) Try.underlying111 rfl (by kernel_rfl) (hS.keep q4_ (by simp))) (fun _=>eT) ?_;clear F fa;intro fa F
    refine F.xr2 (i:=1) [6,10,22] rfl (fun w' hS=>Zt rfl (F.at rfl) Try.underlying28 rfl (by kernel_rfl) (hS.keep q1_ (by simp))) (fun _=>eT) ?_;clear F fa;intro fa F
    refine F.x (i:=2) rfl (fun w'=>Z9 rfl (F.at rfl) Try.underlying66 rfl (n:=0) (sz:=1) rfl (by kernel_rfl) (by decide)) (fun _=>eT) ?_;clear F fa;intro fa F
    refine F.xr2 (i:=3) [6,10,22] rfl (fun w' hS=>Zh rfl (F.at rfl) Try.underlying3 rfl ((Z0 (hS.keep q9_ (by simp)) 0).trans (get0))) (fun _=>eT) ?_;clear F fa;intro fa F
    refine F.x (i:=4) rfl (fun w'=>Z9 rfl (F.at rfl) Try.underlying66 rfl (n:=1) (sz:=1) rfl (by kernel_rfl) (by decide)) (fun _=>eT) ?_;clear F fa;intro fa F
    refine F.xr2 (i:=5) [6,10,22] rfl (fun w' hS=>Zh rfl (F.at rfl) Try.underlying3 rfl ((Z0 (hS.keep q9_ (by simp)) 1).trans (getS (get0)))) (fun _=>eT) ?_;clear F fa;intro fa F
    refine F.xr2 (i:=7) [10,22] rfl (fun w' hS=>Zt rfl (F.at rfl) Try.underlying28 rfl (by kernel_rfl) (hS.keep q1_ (by simp))) (fun _=>eT) ?_;clear F fa;intro fa F
    refine F.x (i:=8) rfl (fun w'=>Z9 rfl (F.at rfl) Try.underlying66 rfl (n:=2) (sz:=1) rfl (by kernel_rfl) (by decide)) (fun _=>eT) ?_;clear F fa;intro fa F
    refine F.xr2 (i:=9) [10,22] rfl (fun w' hS=>Zh rfl (F.at rfl) Try.underlying3 rfl ((Z0 (hS.keep q9_ (by simp)) 2).trans (getS (getS (get0))))) (fun _=>eT) ?_;clear F fa;intro fa F
    refine F.x (i:=11) rfl (fun w'=>Z9 rfl (F.at rfl) Try.underlying66 rfl (n:=3) (sz:=1) rfl (by kernel_rfl) (by decide)) (fun _=>eT) ?_;clear F fa;intro fa F
    refine F.xr2 (i:=12) [15,21,22] rfl (fun w' hS=>Zh rfl (F.at rfl) Try.underlying3 rfl ((Z0 (hS.keep q9_ (by simp)) 3).trans (getS (getS (getS (get0)))))) (fun _=>eT) ?_;clear F fa;intro fa F
    refine F.x (i:=13) rfl (fun w'=>Z9 rfl (F.at rfl) Try.underlying28 rfl (n:=7) (sz:=1) rfl (by kernel_rfl) (by decide)) (fun _=>eT) ?_;clear F fa;intro fa F
    refine F.xr2 (i:=14) [15,21,22] rfl (fun w' hS=>Zh rfl (F.at rfl) Try.underlying3 rfl ((Z0 (hS.keep q1_ (by simp)) 7).trans (getS (getS (getS (getS (getS (getS (getS (get0)))))))))) (fun _=>eT) ?_;clear F fa;intro fa F
    refine F.x (i:=15) rfl (fun w'=>Z1I rfl (F.at rfl) (F.at rfl) (by omega) (by omega)) (fun _=>eT) ?_;clear F fa;intro fa F
    refine F.x (i:=16) rfl (fun w'=>Z9 rfl (F.at rfl) Try.underlying66 rfl (n:=3) (sz:=1) rfl (by kernel_rfl) (by decide)) (fun _=>eT) ?_;clear F fa;intro fa F
    refine F.xr2 (i:=17) [20,21,22] rfl (fun w' hS=>Zh rfl (F.at rfl) Try.underlying3 rfl ((Z0 (hS.keep q9_ (by simp)) 3).trans (getS (getS (getS (get0)))))) (fun _=>eT) ?_;clear F fa;intro fa F
    refine F.x (i:=18) rfl (fun w'=>Z9 rfl (F.at rfl) Try.underlying28 rfl (n:=7) (sz:=1) rfl (by kernel_rfl) (by decide)) (fun _=>eT) ?_;clear F fa;intro fa F
    refine F.xr2 (i:=19) [20,21,22] rfl (fun w' hS=>Zh rfl (F.at rfl) Try.underlying3 rfl ((Z0 (hS.keep q1_ (by simp)) 7).trans (getS (getS (getS (getS (getS (getS (getS (get0)))))))))) (fun _=>eT) ?_;clear F fa;intro fa F
    refine F.x (i:=20) rfl (fun w'=>Z0F rfl (F.at rfl) (F.at rfl) (by omega) (by omega)) (fun _=>eT) ?_;clear F fa;intro fa F
    refine F.x (i:=21) rfl (fun w'=>Z3O rfl (prS (F.at rfl) (prS (F.at rfl) pr0)) (cells:=#[.int .i64 (((t.rd.getD i (0,0,0,0)).2.2.2) - t.sl),.int .i64 (((t.rd.getD i (0,0,0,0)).2.2.2) + t.sl)]) (by kernel_rfl)) (fun _=>eT) ?_;clear F fa;intro fa F
    refine Zv (i:=6) (by kernel_rfl) (Z07 F rfl rfl (by decide) rfl (ZG rfl rfl Try.call96 (mpS (F.at rfl) (mpS (F.at rfl) (mpS (F.at rfl) mp0)))) (Z0n ok _ _ _ (t.rd.getD i (0,0,0,0)).1 (t.rd.getD i (0,0,0,0)).2.1 _ (by omega) (by omega) (by omega) (by omega)) fun e w23 hR=>?_)
    obtain ⟨rfl,e9⟩:=hR
    refine ⟨_,rfl,?_⟩;clear F fa;intro fa F
    replace ism:=Z0i ism (fun _ _ _ h=>Zq h (e9) (by simp)) (fun _ _ _ h=>Zq h (e9) (by simp))
    replace q1:=(e9).keep0 q1
    replace q2:=(e9).keep0 q2
    replace q4:=(e9).keep0 q4
    replace q9:=(e9).keep0 q9
    replace E:=Z4 E (e9)
    replace eT:=Z4 eT (e9)
    clear e9
    refine ⟨fun _=>eT,?_⟩
    refine Zv (i:=10) (by kernel_rfl) (Z07 F rfl rfl (by decide) rfl (ZG rfl rfl Try.call99 (mpS (F.at rfl) (mpS (F.at rfl) mp0))) (Z1t ok _ _ _ (t.rd.getD i (0,0,0,0)).2.2.1 _ (by omega) (by omega)) fun e w24 hR=>?_)
    obtain ⟨rfl,e9⟩:=hR
    refine ⟨_,rfl,?_⟩;clear F fa;intro fa F
    replace ism:=Z0i ism (fun _ _ _ h=>Zq h (e9) (by simp)) (fun _ _ _ h=>Zq h (e9) (by simp))
    replace q1:=(e9).keep0 q1
    replace q2:=(e9).keep0 q2
    replace q4:=(e9).keep0 q4
    replace q9:=(e9).keep0 q9
    replace E:=Z4 E (e9)
    replace eT:=Z4 eT (e9)
    clear e9
    refine ⟨fun _=>eT,?_⟩
    have hEs:=Z7 q4
    refine Zv (i:=22) (by kernel_rfl) (Z07 F rfl rfl (by decide) rfl (ZG rfl rfl Try.call135 (mpS (F.at rfl) (mpS (F.at rfl) (mpS (F.at rfl) (mpS (F.at rfl) mp0))))) (Z1K hn13 ism (by omega) (rnI t (t.rd.getD i (0,0,0,0)).1 (t.rd.getD i (0,0,0,0)).2.1) (rpI t (t.rd.getD i (0,0,0,0)).2.2.1) (by omega) (by omega) ((t.rd.getD i (0,0,0,0)).2.2.2 - t.sl) ((t.rd.getD i (0,0,0,0)).2.2.2 + t.sl) (by omega) (by omega)) fun e w25 hR=>?_)
    obtain ⟨rfl,ism,eC⟩:=hR
    refine ⟨_,rfl,?_⟩;clear F fa;intro fa F
    replace q1:=Z12 (eC) q1 (by decide)
    replace q2:=Z12 (eC) q2 (by decide)
    replace q4:=Z12 (eC) q4 (by decide)
    replace q9:=Z12 (eC) q9 (by decide)
    replace E:=Z4C E (eC) (by omega)
    refine ⟨gone (by kernel_rfl),?_⟩
    refine Z0a (by kernel_rfl) ?_ _
    clear eT q1_ q2_ q4_ q9_ E_
    refine hK24 _ _ ?_
    clear hK24
    refine wp_region_lit ?_
    refine F.mv ?_;clear F fa;intro fa F
    refine F.vl (Z0F rfl (F.at rfl) (ev_c fa _) (by omega) (by omega)) ?_;clear F fa;intro fa F
    refine F.as ?_;clear F fa;intro fa F
    refine wpList_nil ?_
    show _ ∧ _
    exact ⟨by omega,_,⟨rfl,E,q1,q2,q4,ism⟩,F.sub (.c 8 rfl (.c 1 rfl (.c 2 rfl (.c 4 rfl .n))))⟩
   ·skip
    refine wp_exit ?_
    rw [show i = t.rd.length by omega] at ism
    refine hK20 _ _ ?_
    clear hK20
    refine wp_seq_k fun K27 hK27=>?_
    refine wp_seq_k fun K28 hK28=>?_
    refine wp_region_lit ?_
    refine F.vl (Z8 rfl (ev_c fa _)) ?_;clear F fa;intro fa F
    refine wpList_nil ?_
    refine hK28 _ _ ?_
    clear hK28
    refine wp_block ?_
    have F0:=F.sub (.c 1 rfl (.c 2 rfl (.c 4 rfl .n)))
    refine Z0U F0 (t.lk.length) (fun i Lv W=>Lv = [(10,.int .i64 ((i:Nat):Int))] ∧ Ext [] w W ∧ W.heap[n1]? = some (.cells #[.int .i64 t.S,.int .i64 t.A,.int .i64 t.T,.int .i64 t.bl,.int .i64 t.bm,.int .i64 t.pl,.int .i64 t.pm,.int .i64 t.sl,.slice ga t.gr.length gc,.slice ra t.rd.length rc,.slice la t.lk.length lc] 28 (0,0)) ∧ W.heap[n2]? = some (.cells #[.slice none 0 0] 111 (0,0)) ∧ W.heap[n4]? = some (.cells #[.slice oa n oc] 111 (0,0)) ∧ IsM W Bn oa oc va vc n (rkTo t (rrTo t (rtTo t (rsTo t farM t.S.toNat) t.T.toNat) t.rd.length) i)) ⟨_,⟨rfl,E,q1,q2,q4,ism⟩,F.sub (.c 10 rfl (.c 1 rfl (.c 2 rfl (.c 4 rfl .n))))⟩ ?_
    clear F F0
    clear E q1 q2 q4
    clear ism
    rintro i _ fa w26 hi5 ⟨rfl,E,q1,q2,q4,ism⟩ F
    refine wp_seq_k fun K29 hK29=>?_
    refine wp_seq_k fun K30 hK30=>?_
    refine wp_region_lit ?_
    refine F.mv ?_;clear F fa;intro fa F
    refine F.vl (Z9 rfl (F.at rfl) Try.underlying28 rfl (n:=10) (sz:=1) rfl (by kernel_rfl) (by decide)) ?_;clear F fa;intro fa F
    refine F.vl (Zh rfl (F.at rfl) Try.underlying26 rfl ((Z0 q1 10).trans (getS (getS (getS (getS (getS (getS (getS (getS (getS (getS (get0))))))))))))) ?_;clear F fa;intro fa F
    refine F.vl (Z1c rfl rfl (F.at rfl) Try.underlying26) ?_;clear F fa;intro fa F
    refine F.vl (Z1d rfl (F.at rfl) (F.at rfl)) ?_;clear F fa;intro fa F
    refine wpList_nil ?_
    refine hK30 _ _ ?_
    clear hK30
    refine Z0J F rfl (fun hc117=>?_) (fun hc117=>?_)
    ·skip
     refine wp_skip ?_
     refine hK29 _ _ ?_
     clear hK29
     refine wp_seq_k fun K31 hK31=>?_
     refine wp_block ?_
     refine wp_seq_k fun K32 hK32=>?_
     refine wp_region_lit ?_
     refine F.vl (Z9 rfl (F.at rfl) Try.underlying28 rfl (n:=10) (sz:=1) rfl (by kernel_rfl) (by decide)) ?_;clear F fa;intro fa F
     refine F.vl (Zh rfl (F.at rfl) Try.underlying26 rfl ((Z0 q1 10).trans (getS (getS (getS (getS (getS (getS (getS (getS (getS (getS (get0))))))))))))) ?_;clear F fa;intro fa F
     refine F.mv ?_;clear F fa;intro fa F
     obtain ⟨xb33,xo33,xa33,xr33⟩:=HL.out i (by omega)
     refine F.vl (ZJ (sz:=6) rfl ((F.at rfl).trans (xa33 _ _)) (F.at rfl) Try.underlying26 (by kernel_rfl) (by omega) (by omega)) ?_;clear F fa;intro fa F
     refine F.vl (ZP rfl (F.at rfl) Try.underlying75 rfl (by kernel_rfl) (xr33 _ E)) ?_;clear F fa;intro fa F
     refine Z00 F rfl (by decide) rfl (ZB rfl Try.zeroValue75) ?_;clear F fa;intro fa w27 F hw
     obtain ⟨n11,hn⟩:∃ n,n = w26.heap.size:=⟨_,rfl⟩
     rw [← hn] at F
     have s11:w26.heap.size ≤ n11:=Nat.le_of_eq hn.symm
     have l11_E:w.heap.size ≤ n11:=by rw [hn];exact E.size
     have m11_1:n1 < n11:=by rw [hn];exact Z7 q1
     have m11_2:n2 < n11:=by rw [hn];exact Z7 q2
     have m11_4:n4 < n11:=by rw [hn];exact Z7 q4
     replace ism:=Z0i ism (fun _ _ _ h=>Zc hw h) (fun _ _ _ h=>Zc hw h)
     replace q1:=Z1 hw q1
     replace q2:=Z1 hw q2
     replace q4:=Z1 hw q4
     replace E:=Z2 E hw
     have q11:=Zr hw hn
     clear hw hn
     refine Z1L rfl rfl (Zg rfl (F.at rfl) (F.at rfl) (by kernel_rfl) (by first | (simp [Value.oneCell'];done) | (simp [Value.oneCell',Z0K,Z0B,Z0L];done)) q11 rfl) ?_;intro w28 hw
     replace ism:=Z0i ism (fun _ _ _ h=>Zu hw h (Z6 h q11 (by decide))) (fun _ _ _ h=>Zu hw h (Z6 h q11 (by decide)))
     replace q1:=Z5 hw q1 (by omega)
     replace q2:=Z5 hw q2 (by omega)
     replace q4:=Z5 hw q4 (by omega)
     replace q11:=Zz hw q11 rfl
     replace E:=Za E hw (fun h=>by first | exact absurd h (by omega) | simp)
     clear hw
     refine wpList_nil ?_
     refine hK32 _ _ ?_
     clear hK32
     have hg:=Hlk.out i (by omega)
     obtain ⟨e1,e2,e3,e4⟩:=Z3x ok (s:=(t.lk.getD i (0,0,0,0,0,0)).1) (a:=(t.lk.getD i (0,0,0,0,0,0)).2.1) (by omega) (by omega) (by omega) (by omega)
     obtain ⟨f1,f2,f3,f4⟩:=Z3x ok (s:=(t.lk.getD i (0,0,0,0,0,0)).2.2.1) (a:=(t.lk.getD i (0,0,0,0,0,0)).2.2.2.1) (by omega) (by omega) (by omega) (by omega)
     refine Z0P (Ext [] w28) (some 15) follows fun w29 hh eh=>?_
     have q1_:=q1
     replace q1:=Zn hh q1
     have q2_:=q2
     replace q2:=Zn hh q2
     have q4_:=q4
     replace q4:=Zn hh q4
     have q11_:=q11
     replace q11:=Zn hh q11
     have E_:=E
     have zEw29:=E.size
     replace E:=Z4 E eh
     replace ism:=Z0i ism (fun _ _ _ h=>ZW hh h) (fun _ _ _ h=>ZW hh h)
     have eT:=eh
     clear hh eh
     refine F.xr (i:=0) rfl (fun w' hS=>Zt rfl (F.at rfl) Try.underlying111 rfl (by kernel_rfl) (hS.keep q4_ (by simp))) (fun _=>eT) ?_;clear F fa;intro fa F
     refine F.xr2 (i:=1) [6,12,15] rfl (fun w' hS=>Zt rfl (F.at rfl) Try.underlying28 rfl (by kernel_rfl) (hS.keep q1_ (by simp))) (fun _=>eT) ?_;clear F fa;intro fa F
     refine F.x (i:=2) rfl (fun w'=>Z9 rfl (F.at rfl) Try.underlying75 rfl (n:=0) (sz:=1) rfl (by kernel_rfl) (by decide)) (fun _=>eT) ?_;clear F fa;intro fa F
     refine F.xr2 (i:=3) [6,12,15] rfl (fun w' hS=>Zh rfl (F.at rfl) Try.underlying3 rfl ((Z0 (hS.keep q11_ (by simp)) 0).trans (get0))) (fun _=>eT) ?_;clear F fa;intro fa F
     refine F.x (i:=4) rfl (fun w'=>Z9 rfl (F.at rfl) Try.underlying75 rfl (n:=1) (sz:=1) rfl (by kernel_rfl) (by decide)) (fun _=>eT) ?_;clear F fa;intro fa F
     refine F.xr2 (i:=5) [6,12,15] rfl (fun w' hS=>Zh rfl (F.at rfl) Try.underlying3 rfl ((Z0 (hS.keep q11_ (by simp)) 1).trans (getS (get0)))) (fun _=>eT) ?_;clear F fa;intro fa F
     refine F.xr2 (i:=7) [12,15] rfl (fun w' hS=>Zt rfl (F.at rfl) Try.underlying28 rfl (by kernel_rfl) (hS.keep q1_ (by simp))) (fun _=>eT) ?_;clear F fa;intro fa F
     refine F.x (i:=8) rfl (fun w'=>Z9 rfl (F.at rfl) Try.underlying75 rfl (n:=2) (sz:=1) rfl (by kernel_rfl) (by decide)) (fun _=>eT) ?_;clear F fa;intro fa F
     refine F.xr2 (i:=9) [12,15] rfl (fun w' hS=>Zh rfl (F.at rfl) Try.underlying3 rfl ((Z0 (hS.keep q11_ (by simp)) 2).trans (getS (getS (get0))))) (fun _=>eT) ?_;clear F fa;intro fa F
     refine F.x (i:=10) rfl (fun w'=>Z9 rfl (F.at rfl) Try.underlying75 rfl (n:=3) (sz:=1) rfl (by kernel_rfl) (by decide)) (fun _=>eT) ?_;clear F fa;intro fa F
     refine F.xr2 (i:=11) [12,15] rfl (fun w' hS=>Zh rfl (F.at rfl) Try.underlying3 rfl ((Z0 (hS.keep q11_ (by simp)) 3).trans (getS (getS (getS (get0)))))) (fun _=>eT) ?_;clear F fa;intro fa F
     refine F.x (i:=13) rfl (fun w'=>Z9 rfl (F.at rfl) Try.underlying75 rfl (n:=4) (sz:=2) rfl (by kernel_rfl) (by decide)) (fun _=>eT) ?_;clear F fa;intro fa F
     refine F.xr (i:=14) rfl (fun w' hS=>ZP rfl (F.at rfl) Try.underlying23 rfl (by kernel_rfl) (Z0I (n:=2) (hS.keep q11_ (by simp)) rfl (midS (getS (getS (getS (getS (get0))))) (midS (getS (getS (getS (getS (getS (get0)))))) mid0)))) (fun _=>eT) ?_;clear F fa;intro fa F
     refine Zv (i:=6) (by kernel_rfl) (Z07 F rfl rfl (by decide) rfl (ZG rfl rfl Try.call96 (mpS (F.at rfl) (mpS (F.at rfl) (mpS (F.at rfl) mp0)))) (Z0n ok _ _ _ (t.lk.getD i (0,0,0,0,0,0)).1 (t.lk.getD i (0,0,0,0,0,0)).2.1 _ (by omega) (by omega) (by omega) (by omega)) fun e w30 hR=>?_)
     obtain ⟨rfl,e9⟩:=hR
     refine ⟨_,rfl,?_⟩;clear F fa;intro fa F
     replace ism:=Z0i ism (fun _ _ _ h=>Zq h (e9) (by simp)) (fun _ _ _ h=>Zq h (e9) (by simp))
     replace q1:=(e9).keep0 q1
     replace q2:=(e9).keep0 q2
     replace q4:=(e9).keep0 q4
     replace q11:=(e9).keep0 q11
     replace E:=Z4 E (e9)
     replace eT:=Z4 eT (e9)
     clear e9
     refine ⟨fun _=>eT,?_⟩
     refine Zv (i:=12) (by kernel_rfl) (Z07 F rfl rfl (by decide) rfl (ZG rfl rfl Try.call96 (mpS (F.at rfl) (mpS (F.at rfl) (mpS (F.at rfl) mp0)))) (Z0n ok _ _ _ (t.lk.getD i (0,0,0,0,0,0)).2.2.1 (t.lk.getD i (0,0,0,0,0,0)).2.2.2.1 _ (by omega) (by omega) (by omega) (by omega)) fun e w31 hR=>?_)
     obtain ⟨rfl,e9⟩:=hR
     refine ⟨_,rfl,?_⟩;clear F fa;intro fa F
     replace ism:=Z0i ism (fun _ _ _ h=>Zq h (e9) (by simp)) (fun _ _ _ h=>Zq h (e9) (by simp))
     replace q1:=(e9).keep0 q1
     replace q2:=(e9).keep0 q2
     replace q4:=(e9).keep0 q4
     replace q11:=(e9).keep0 q11
     replace E:=Z4 E (e9)
     replace eT:=Z4 eT (e9)
     clear e9
     refine ⟨fun _=>eT,?_⟩
     have hEs:=Z7 q4
     refine Zv (i:=15) (by kernel_rfl) (Z07 F rfl rfl (by decide) rfl (ZG rfl rfl Try.call135 (mpS (F.at rfl) (mpS (F.at rfl) (mpS (F.at rfl) (mpS (F.at rfl) mp0))))) (Z1K hn13 ism (by omega) (rnI t (t.lk.getD i (0,0,0,0,0,0)).1 (t.lk.getD i (0,0,0,0,0,0)).2.1) (rnI t (t.lk.getD i (0,0,0,0,0,0)).2.2.1 (t.lk.getD i (0,0,0,0,0,0)).2.2.2.1) (by omega) (by omega) (t.lk.getD i (0,0,0,0,0,0)).2.2.2.2.1 (t.lk.getD i (0,0,0,0,0,0)).2.2.2.2.2 (by omega) (by omega)) fun e w32 hR=>?_)
     obtain ⟨rfl,ism,eC⟩:=hR
     refine ⟨_,rfl,?_⟩;clear F fa;intro fa F
     replace q1:=Z12 (eC) q1 (by decide)
     replace q2:=Z12 (eC) q2 (by decide)
     replace q4:=Z12 (eC) q4 (by decide)
     replace q11:=Z12 (eC) q11 (by decide)
     replace E:=Z4C E (eC) (by omega)
     refine ⟨gone (by kernel_rfl),?_⟩
     refine Z0a (by kernel_rfl) ?_ _
     clear eT q1_ q2_ q4_ q11_ E_
     refine hK31 _ _ ?_
     clear hK31
     refine wp_region_lit ?_
     refine F.mv ?_;clear F fa;intro fa F
     refine F.vl (Z0F rfl (F.at rfl) (ev_c fa _) (by omega) (by omega)) ?_;clear F fa;intro fa F
     refine F.as ?_;clear F fa;intro fa F
     refine wpList_nil ?_
     show _ ∧ _
     exact ⟨by omega,_,⟨rfl,E,q1,q2,q4,ism⟩,F.sub (.c 10 rfl (.c 1 rfl (.c 2 rfl (.c 4 rfl .n))))⟩
    ·skip
     refine wp_exit ?_
     rw [show i = t.lk.length by omega] at ism
     have hsm:=Lib.hid (Z67 ok)
     replace ism:IsM w26 Bn oa oc va vc n (Z1x t):=ism
     refine hK27 _ _ ?_
     clear hK27
     refine wp_seq_k fun K34 hK34=>?_
     refine wp_region_lit ?_
     refine F.vl (Z9 rfl (F.at rfl) Try.underlying111 rfl (n:=0) (sz:=1) rfl (by kernel_rfl) (by decide)) ?_;clear F fa;intro fa F
     refine F.vl (Zh rfl (F.at rfl) Try.underlying50 rfl ((Z0 q4 0).trans (get0))) ?_;clear F fa;intro fa F
     refine F.vl (Z1c rfl rfl (F.at rfl) Try.underlying50) ?_;clear F fa;intro fa F
     refine F.as ?_;clear F fa;intro fa F
     refine wpList_nil ?_
     refine hK34 _ _ ?_
     clear hK34
     refine wp_seq_k fun K35 hK35=>?_
     refine wp_seq_k fun K36 hK36=>?_
     refine wp_region_lit ?_
     refine F.vl (Z8 rfl (ev_c fa _)) ?_;clear F fa;intro fa F
     refine wpList_nil ?_
     refine hK36 _ _ ?_
     clear hK36
     refine wp_block ?_
     have F0:=F.sub (.c 2 rfl (.c 4 rfl (.c 12 rfl .n)))
     refine Z0U F0 (n) (fun k Lv W=>Lv = [(13,.int .i64 ((k:Nat):Int))] ∧ Ext [] w W ∧ W.heap[n1]? = some (.cells #[.int .i64 t.S,.int .i64 t.A,.int .i64 t.T,.int .i64 t.bl,.int .i64 t.bm,.int .i64 t.pl,.int .i64 t.pm,.int .i64 t.sl,.slice ga t.gr.length gc,.slice ra t.rd.length rc,.slice la t.lk.length lc] 28 (0,0)) ∧ W.heap[n2]? = some (.cells #[.slice none 0 0] 111 (0,0)) ∧ W.heap[n4]? = some (.cells #[.slice oa n oc] 111 (0,0)) ∧ IsM W Bn oa oc va vc n (kTt n (Z1x t) k)) ⟨_,⟨rfl,E,q1,q2,q4,ism⟩,F.sub (.c 13 rfl (.c 2 rfl (.c 4 rfl (.c 12 rfl .n))))⟩ ?_
     clear F F0
     clear E q1 q2 q4
     clear ism
     rintro k _ fa w33 hi6 ⟨rfl,E,q1,q2,q4,ism⟩ F
     refine wp_seq_k fun K37 hK37=>?_
     refine wp_seq_k fun K38 hK38=>?_
     refine wp_region_lit ?_
     refine F.mv ?_;clear F fa;intro fa F
     refine F.mv ?_;clear F fa;intro fa F
     refine F.vl (Z1d rfl (F.at rfl) (F.at rfl)) ?_;clear F fa;intro fa F
     refine wpList_nil ?_
     refine hK38 _ _ ?_
     clear hK38
     refine Z0J F rfl (fun hc146=>?_) (fun hc146=>?_)
     ·skip
      refine wp_skip ?_
      refine hK37 _ _ ?_
      clear hK37
      refine wp_seq_k fun K39 hK39=>?_
      refine wp_block ?_
      refine wp_seq_k fun K40 hK40=>?_
      refine wp_region_lit ?_
      refine F.vl (Z8 rfl (ev_c fa _)) ?_;clear F fa;intro fa F
      refine wpList_nil ?_
      refine hK40 _ _ ?_
      clear hK40
      refine wp_block ?_
      have F0:=F.sub (.c 2 rfl (.c 4 rfl (.c 12 rfl (.c 13 rfl .n))))
      refine Z0U F0 (n) (fun x Lv W=>Lv = [(14,.int .i64 ((x:Nat):Int))] ∧ Ext [] w W ∧ W.heap[n1]? = some (.cells #[.int .i64 t.S,.int .i64 t.A,.int .i64 t.T,.int .i64 t.bl,.int .i64 t.bm,.int .i64 t.pl,.int .i64 t.pm,.int .i64 t.sl,.slice ga t.gr.length gc,.slice ra t.rd.length rc,.slice la t.lk.length lc] 28 (0,0)) ∧ W.heap[n2]? = some (.cells #[.slice none 0 0] 111 (0,0)) ∧ W.heap[n4]? = some (.cells #[.slice oa n oc] 111 (0,0)) ∧ IsM W Bn oa oc va vc n (iTt n (kTt n (Z1x t) k) k x)) ⟨_,⟨rfl,E,q1,q2,q4,ism⟩,F.sub (.c 14 rfl (.c 2 rfl (.c 4 rfl (.c 12 rfl (.c 13 rfl .n)))))⟩ ?_
      clear F F0
      clear E q1 q2 q4
      clear ism
      rintro x _ fa w34 hi7 ⟨rfl,E,q1,q2,q4,ism⟩ F
      refine wp_seq_k fun K41 hK41=>?_
      refine wp_seq_k fun K42 hK42=>?_
      refine wp_region_lit ?_
      refine F.mv ?_;clear F fa;intro fa F
      refine F.mv ?_;clear F fa;intro fa F
      refine F.vl (Z1d rfl (F.at rfl) (F.at rfl)) ?_;clear F fa;intro fa F
      refine wpList_nil ?_
      refine hK42 _ _ ?_
      clear hK42
      refine Z0J F rfl (fun hc151=>?_) (fun hc151=>?_)
      ·skip
       refine wp_skip ?_
       refine hK41 _ _ ?_
       clear hK41
       refine wp_seq_k fun K43 hK43=>?_
       refine wp_block ?_
       refine wp_seq_k fun K44 hK44=>?_
       refine wp_region_lit ?_
       refine F.vl (Z8 rfl (ev_c fa _)) ?_;clear F fa;intro fa F
       refine wpList_nil ?_
       refine hK44 _ _ ?_
       clear hK44
       refine wp_block ?_
       have F0:=F.sub (.c 2 rfl (.c 4 rfl (.c 12 rfl (.c 13 rfl (.c 14 rfl .n)))))
       refine Z0U F0 (n) (fun y Lv W=>Lv = [(15,.int .i64 ((y:Nat):Int))] ∧ Ext [] w W ∧ W.heap[n1]? = some (.cells #[.int .i64 t.S,.int .i64 t.A,.int .i64 t.T,.int .i64 t.bl,.int .i64 t.bm,.int .i64 t.pl,.int .i64 t.pm,.int .i64 t.sl,.slice ga t.gr.length gc,.slice ra t.rd.length rc,.slice la t.lk.length lc] 28 (0,0)) ∧ W.heap[n2]? = some (.cells #[.slice none 0 0] 111 (0,0)) ∧ W.heap[n4]? = some (.cells #[.slice oa n oc] 111 (0,0)) ∧ IsM W Bn oa oc va vc n (Z1w (iTt n (kTt n (Z1x t) k) k x) k x y)) ⟨_,⟨rfl,E,q1,q2,q4,ism⟩,F.sub (.c 15 rfl (.c 2 rfl (.c 4 rfl (.c 12 rfl (.c 13 rfl (.c 14 rfl .n))))))⟩ ?_
       clear F F0
       clear E q1 q2 q4
       clear ism
       rintro y _ fa w35 hi8 ⟨rfl,E,q1,q2,q4,ism⟩ F
       refine wp_seq_k fun K45 hK45=>?_
       refine wp_seq_k fun K46 hK46=>?_
       refine wp_region_lit ?_
       refine F.mv ?_;clear F fa;intro fa F
       refine F.mv ?_;clear F fa;intro fa F
       refine F.vl (Z1d rfl (F.at rfl) (F.at rfl)) ?_;clear F fa;intro fa F
       refine wpList_nil ?_
       refine hK46 _ _ ?_
       clear hK46
       refine Z0J F rfl (fun hc156=>?_) (fun hc156=>?_)
       ·skip
        refine wp_skip ?_
        refine hK45 _ _ ?_
        clear hK45
        refine wp_seq_k fun K47 hK47=>?_
        refine wp_block ?_
        have hsf:=Z9A hn13 (m:=Z1x t) (fun p q _ _=>⟨(hsm.out p q).1,(hsm.out p q).2.1⟩) (show k < n by omega) (show x < n by omega) (show y < n by omega)
        obtain ⟨mm,hmm⟩:∃ mm,mm = Z1w (iTt n (kTt n (Z1x t) k) k x) k x y:=⟨_,rfl⟩
        rw [← hmm] at ism hsf
        have EX:Ext [] w35 w35:=Ext.refl _ _
        have HO:=Lib.hid (Z3b ism)
        have HRx:=Lib.hid (Z3V ism (show x < n by omega))
        have HRk:=Lib.hid (Z3V ism (show k < n by omega))
        have hil:(ivs (rowM n mm x)).length = n:=by simp [ivs,rowM]
        refine Z0P (Ext [] w35) (some 33) follows fun w36 hh eh=>?_
        have q1_:=q1
        replace q1:=Zn hh q1
        have q2_:=q2
        replace q2:=Zn hh q2
        have q4_:=q4
        replace q4:=Zn hh q4
        have E_:=E
        have zEw36:=E.size
        replace E:=Z4 E eh
        have EX_:=EX
        have zEXw36:=EX.size
        replace EX:=Z4 EX eh
        replace ism:=Z0i ism (fun _ _ _ h=>ZW hh h) (fun _ _ _ h=>ZW hh h)
        have eT:=eh
        clear hh eh
        refine F.x (i:=0) rfl (fun w'=>Z9 rfl (F.at rfl) Try.underlying111 rfl (n:=0) (sz:=1) rfl (by kernel_rfl) (by decide)) (fun _=>eT) ?_;clear F fa;intro fa F
        refine F.xr (i:=1) rfl (fun w' hS=>Zh rfl (F.at rfl) Try.underlying50 rfl ((Z0 (hS.keep q4_ (by simp)) 0).trans (get0))) (fun _=>eT) ?_;clear F fa;intro fa F
        refine F.x (i:=2) rfl (fun w'=>Zi rfl (F.at rfl)) (fun _=>eT) ?_;clear F fa;intro fa F
        obtain ⟨xb48,xo48,xa48,xr48⟩:=HO.out x (by omega)
        refine F.x (i:=3) rfl (fun w'=>ZJ (sz:=1) rfl ((F.at rfl).trans (xa48 _ _)) (F.at rfl) Try.underlying50 (by kernel_rfl) (by omega) (by omega)) (fun _=>eT) ?_;clear F fa;intro fa F
        refine F.xr (i:=4) rfl (fun w' hS=>Zh rfl (F.at rfl) Try.underlying29 rfl (xr48 _ (EX_.nil hS) 0 _ rfl)) (fun _=>eT) ?_;clear F fa;intro fa F
        refine F.x (i:=5) rfl (fun w'=>Zi rfl (F.at rfl)) (fun _=>eT) ?_;clear F fa;intro fa F
        refine F.x (i:=6) rfl (fun w'=>Z9 rfl (F.at rfl) Try.underlying111 rfl (n:=0) (sz:=1) rfl (by kernel_rfl) (by decide)) (fun _=>eT) ?_;clear F fa;intro fa F
        refine F.xr (i:=7) rfl (fun w' hS=>Zh rfl (F.at rfl) Try.underlying50 rfl ((Z0 (hS.keep q4_ (by simp)) 0).trans (get0))) (fun _=>eT) ?_;clear F fa;intro fa F
        refine F.x (i:=8) rfl (fun w'=>Zi rfl (F.at rfl)) (fun _=>eT) ?_;clear F fa;intro fa F
        obtain ⟨xb49,xo49,xa49,xr49⟩:=HO.out x (by omega)
        refine F.x (i:=9) rfl (fun w'=>ZJ (sz:=1) rfl ((F.at rfl).trans (xa49 _ _)) (F.at rfl) Try.underlying50 (by kernel_rfl) (by omega) (by omega)) (fun _=>eT) ?_;clear F fa;intro fa F
        refine F.xr (i:=10) rfl (fun w' hS=>Zh rfl (F.at rfl) Try.underlying29 rfl (xr49 _ (EX_.nil hS) 0 _ rfl)) (fun _=>eT) ?_;clear F fa;intro fa F
        refine F.x (i:=11) rfl (fun w'=>Zi rfl (F.at rfl)) (fun _=>eT) ?_;clear F fa;intro fa F
        obtain ⟨xb50,xo50,xa50,xr50⟩:=HRx.out y (by omega)
        refine F.x (i:=12) rfl (fun w'=>ZJ (sz:=1) rfl ((F.at rfl).trans (xa50 _ _)) (F.at rfl) Try.underlying29 (by kernel_rfl) (by omega) (by omega)) (fun _=>eT) ?_;clear F fa;intro fa F
        refine F.xr (i:=13) rfl (fun w' hS=>Zh rfl (F.at rfl) Try.underlying3 rfl (xr50 _ (EX_.nil hS) 0 _ rfl)) (fun _=>eT) ?_;clear F fa;intro fa F
        refine F.x (i:=14) rfl (fun w'=>Z9 rfl (F.at rfl) Try.underlying111 rfl (n:=0) (sz:=1) rfl (by kernel_rfl) (by decide)) (fun _=>eT) ?_;clear F fa;intro fa F
        refine F.xr (i:=15) rfl (fun w' hS=>Zh rfl (F.at rfl) Try.underlying50 rfl ((Z0 (hS.keep q4_ (by simp)) 0).trans (get0))) (fun _=>eT) ?_;clear F fa;intro fa F
        refine F.x (i:=16) rfl (fun w'=>Zi rfl (F.at rfl)) (fun _=>eT) ?_;clear F fa;intro fa F
        obtain ⟨xb51,xo51,xa51,xr51⟩:=HO.out x (by omega)
        refine F.x (i:=17) rfl (fun w'=>ZJ (sz:=1) rfl ((F.at rfl).trans (xa51 _ _)) (F.at rfl) Try.underlying50 (by kernel_rfl) (by omega) (by omega)) (fun _=>eT) ?_;clear F fa;intro fa F
        refine F.xr (i:=18) rfl (fun w' hS=>Zh rfl (F.at rfl) Try.underlying29 rfl (xr51 _ (EX_.nil hS) 0 _ rfl)) (fun _=>eT) ?_;clear F fa;intro fa F
        refine F.x (i:=19) rfl (fun w'=>Zi rfl (F.at rfl)) (fun _=>eT) ?_;clear F fa;intro fa F
        obtain ⟨xb52,xo52,xa52,xr52⟩:=HRx.out k (by omega)
        refine F.x (i:=20) rfl (fun w'=>ZJ (sz:=1) rfl ((F.at rfl).trans (xa52 _ _)) (F.at rfl) Try.underlying29 (by kernel_rfl) (by omega) (by omega)) (fun _=>eT) ?_;clear F fa;intro fa F
        refine F.xr (i:=21) rfl (fun w' hS=>Zh rfl (F.at rfl) Try.underlying3 rfl (xr52 _ (EX_.nil hS) 0 _ rfl)) (fun _=>eT) ?_;clear F fa;intro fa F
        refine F.x (i:=22) rfl (fun w'=>Z9 rfl (F.at rfl) Try.underlying111 rfl (n:=0) (sz:=1) rfl (by kernel_rfl) (by decide)) (fun _=>eT) ?_;clear F fa;intro fa F
        refine F.xr (i:=23) rfl (fun w' hS=>Zh rfl (F.at rfl) Try.underlying50 rfl ((Z0 (hS.keep q4_ (by simp)) 0).trans (get0))) (fun _=>eT) ?_;clear F fa;intro fa F
        refine F.x (i:=24) rfl (fun w'=>Zi rfl (F.at rfl)) (fun _=>eT) ?_;clear F fa;intro fa F
        obtain ⟨xb53,xo53,xa53,xr53⟩:=HO.out k (by omega)
        refine F.x (i:=25) rfl (fun w'=>ZJ (sz:=1) rfl ((F.at rfl).trans (xa53 _ _)) (F.at rfl) Try.underlying50 (by kernel_rfl) (by omega) (by omega)) (fun _=>eT) ?_;clear F fa;intro fa F
        refine F.xr (i:=26) rfl (fun w' hS=>Zh rfl (F.at rfl) Try.underlying29 rfl (xr53 _ (EX_.nil hS) 0 _ rfl)) (fun _=>eT) ?_;clear F fa;intro fa F
        refine F.x (i:=27) rfl (fun w'=>Zi rfl (F.at rfl)) (fun _=>eT) ?_;clear F fa;intro fa F
        obtain ⟨xb54,xo54,xa54,xr54⟩:=HRk.out y (by omega)
        refine F.x (i:=28) rfl (fun w'=>ZJ (sz:=1) rfl ((F.at rfl).trans (xa54 _ _)) (F.at rfl) Try.underlying29 (by kernel_rfl) (by omega) (by omega)) (fun _=>eT) ?_;clear F fa;intro fa F
        refine F.xr (i:=29) rfl (fun w' hS=>Zh rfl (F.at rfl) Try.underlying3 rfl (xr54 _ (EX_.nil hS) 0 _ rfl)) (fun _=>eT) ?_;clear F fa;intro fa F
        refine F.x (i:=30) rfl (fun w'=>Z0F rfl (F.at rfl) (F.at rfl) (by omega) (by omega)) (fun _=>eT) ?_;clear F fa;intro fa F
        refine F.x (i:=31) rfl (fun w'=>Z4O rfl rfl (F.at rfl) (F.at rfl)) (fun _=>eT) ?_;clear F fa;intro fa F
        obtain ⟨xb55,xo55,xa55,xr55⟩:=HRx.out y (by omega)
        refine F.x (i:=32) rfl (fun w'=>ZJ (sz:=1) rfl ((F.at rfl).trans (xa55 _ _)) (F.at rfl) Try.underlying29 (by kernel_rfl) (by omega) (by omega)) (fun _=>eT) ?_;clear F fa;intro fa F
        have orow:=ism.r x (by omega)
        obtain ⟨⟨u0,hcu⟩,hfu,hst⟩:=Z5p orow xa55 (j:=y) (p:=xo55 + ((y:Nat):Int).toNat * 1) (by first | omega | (simp;omega)) (by omega)
        refine Zv (i:=33) (by kernel_rfl) (Z0u rfl rfl rfl (ZR rfl (F.at rfl) (F.at rfl) rfl (by kernel_rfl) hcu hfu) ?_);intro w37 hw
        obtain ⟨hown',hg⟩:=hst _ _ hw
        clear hst hcu hfu hw
        replace q1:=Zb orow hg q1 (by decide)
        replace q2:=Zb orow hg q2 (by decide)
        replace q4:=Zb orow hg q4 (by decide)
        replace ism:=Z6w ism (by omega) hown' hg
        replace E:=Zd E orow hg (by omega)
        replace orow:=hown'
        clear hg
        refine ⟨gone (by kernel_rfl),?_⟩
        clear orow
        refine Z0a (by kernel_rfl) ?_ _
        clear eT q1_ q2_ q4_ E_ EX_
        refine hK47 _ _ ?_
        clear hK47
        refine wp_region_lit ?_
        refine F.mv ?_;clear F fa;intro fa F
        refine F.vl (Z0F rfl (F.at rfl) (ev_c fa _) (by omega) (by omega)) ?_;clear F fa;intro fa F
        refine F.as ?_;clear F fa;intro fa F
        refine wpList_nil ?_
        show _ ∧ _
        exact ⟨by omega,_,⟨rfl,E,q1,q2,q4,(by rw [Z1w,← hmm];exact ism)⟩,F.sub (.c 15 rfl (.c 2 rfl (.c 4 rfl (.c 12 rfl (.c 13 rfl (.c 14 rfl .n))))))⟩
       ·skip
        refine wp_exit ?_
        rw [show y = n by omega] at ism
        refine hK43 _ _ ?_
        clear hK43
        refine wp_region_lit ?_
        refine F.mv ?_;clear F fa;intro fa F
        refine F.vl (Z0F rfl (F.at rfl) (ev_c fa _) (by omega) (by omega)) ?_;clear F fa;intro fa F
        refine F.as ?_;clear F fa;intro fa F
        refine wpList_nil ?_
        show _ ∧ _
        exact ⟨by omega,_,⟨rfl,E,q1,q2,q4,ism⟩,F.sub (.c 14 rfl (.c 2 rfl (.c 4 rfl (.c 12 rfl (.c 13 rfl .n)))))⟩
      ·skip
       refine wp_exit ?_
       rw [show x = n by omega] at ism
       refine hK39 _ _ ?_
       clear hK39
       refine wp_region_lit ?_
       refine F.mv ?_;clear F fa;intro fa F
       refine F.vl (Z0F rfl (F.at rfl) (ev_c fa _) (by omega) (by omega)) ?_;clear F fa;intro fa F
       refine F.as ?_;clear F fa;intro fa F
       refine wpList_nil ?_
       show _ ∧ _
       exact ⟨by omega,_,⟨rfl,E,q1,q2,q4,ism⟩,F.sub (.c 13 rfl (.c 2 rfl (.c 4 rfl (.c 12 rfl .n))))⟩
     ·skip
      refine wp_exit ?_
      rw [show k = n by omega] at ism
      refine hK35 _ _ ?_
      clear hK35
      refine wp_seq_k fun K56 hK56=>?_
      refine wp_seq_k fun K57 hK57=>?_
      refine wp_region_lit ?_
      refine F.vl (Z8 rfl (ev_c fa _)) ?_;clear F fa;intro fa F
      refine wpList_nil ?_
      refine hK57 _ _ ?_
      clear hK57
      refine wp_block ?_
      have F0:=F.sub (.c 2 rfl (.c 4 rfl (.c 12 rfl .n)))
      refine Z0U F0 (n) (fun i Lv W=>Lv = [(16,.int .i64 ((i:Nat):Int))] ∧ Ext [] w33 W ∧ ∀ p,p < i → 0 ≤ kTt n (Z1x t) n p p) ⟨_,⟨rfl,Ext.refl _ _,fun p hp=>absurd hp (by omega)⟩,F.sub (.c 16 rfl (.c 2 rfl (.c 4 rfl (.c 12 rfl .n))))⟩ ?_
      clear F F0
      rintro i _ fa w38 hi9 ⟨rfl,EL9,hd⟩ F
      have q1:=EL9.keep0 q1
      have q2:=EL9.keep0 q2
      have q4:=EL9.keep0 q4
      have E:=E.nil EL9
      have ism:=Z0i ism (fun _ _ _ h=>Zq h EL9 (by simp)) (fun _ _ _ h=>Zq h EL9 (by simp))
      refine wp_seq_k fun K58 hK58=>?_
      refine wp_seq_k fun K59 hK59=>?_
      refine wp_region_lit ?_
      refine F.mv ?_;clear F fa;intro fa F
      refine F.mv ?_;clear F fa;intro fa F
      refine F.vl (Z1d rfl (F.at rfl) (F.at rfl)) ?_;clear F fa;intro fa F
      refine wpList_nil ?_
      refine hK59 _ _ ?_
      clear hK59
      refine Z0J F rfl (fun hc194=>?_) (fun hc194=>?_)
      ·skip
       refine wp_skip ?_
       refine hK58 _ _ ?_
       clear hK58
       refine wp_seq_k fun K60 hK60=>?_
       refine wp_block ?_
       refine wp_seq_k fun K61 hK61=>?_
       have EX:Ext [] w38 w38:=Ext.refl _ _
       have HO:=Lib.hid (Z3b ism)
       have HRx:=Lib.hid (Z3V ism (show i < n by omega))
       refine wp_region_lit ?_
       refine F.vl (Z9 rfl (F.at rfl) Try.underlying111 rfl (n:=0) (sz:=1) rfl (by kernel_rfl) (by decide)) ?_;clear F fa;intro fa F
       refine F.vl (Zh rfl (F.at rfl) Try.underlying50 rfl ((Z0 q4 0).trans (get0))) ?_;clear F fa;intro fa F
       refine F.mv ?_;clear F fa;intro fa F
       obtain ⟨xb62,xo62,xa62,xr62⟩:=HO.out i (by omega)
       refine F.vl (ZJ (sz:=1) rfl ((F.at rfl).trans (xa62 _ _)) (F.at rfl) Try.underlying50 (by kernel_rfl) (by omega) (by omega)) ?_;clear F fa;intro fa F
       refine F.vl (Zh rfl (F.at rfl) Try.underlying29 rfl (xr62 _ EX 0 _ rfl)) ?_;clear F fa;intro fa F
       refine F.mv ?_;clear F fa;intro fa F
       obtain ⟨xb63,xo63,xa63,xr63⟩:=HRx.out i (by omega)
       refine F.vl (ZJ (sz:=1) rfl ((F.at rfl).trans (xa63 _ _)) (F.at rfl) Try.underlying29 (by kernel_rfl) (by omega) (by omega)) ?_;clear F fa;intro fa F
       refine F.vl (Zh rfl (F.at rfl) Try.underlying3 rfl (xr63 _ EX 0 _ rfl)) ?_;clear F fa;intro fa F
       refine F.vl (Z1d rfl (F.at rfl) (ev_c fa _)) ?_;clear F fa;intro fa F
       refine wpList_nil ?_
       refine hK61 _ _ ?_
       clear hK61
       refine Z0J F rfl (fun hc205=>?_) (fun hc205=>?_)
       ·skip
        refine wp_seq_k fun K64 hK64=>?_
        have hbb:bdB t 0 = false:=by cases hq:bdB t 0 with | false=>rfl | true=>exact absurd ((Z6Z ok hn).2 hq i (by omega)) (by omega)
        refine wp_region_lit ?_
        refine F.vl (Zt rfl (F.at rfl) Try.underlying111 rfl (by kernel_rfl) q4) ?_;clear F fa;intro fa F
        refine Z1L rfl rfl (Zg rfl (F.at rfl) (F.at rfl) (by kernel_rfl) (by first | (simp [Value.oneCell'];done) | (simp [Value.oneCell',Z0K,Z0B,Z0L];done)) q2 rfl) ?_;intro w39 hw
        replace ism:=Z0i ism (fun _ _ _ h=>Zu hw h (Z6 h q2 (by decide))) (fun _ _ _ h=>Zu hw h (Z6 h q2 (by decide)))
        replace q1:=Z5 hw q1 (by omega)
        replace q2:=Zz hw q2 rfl
        replace q4:=Z5 hw q4 (by omega)
        replace E:=Za E hw (fun h=>by first | exact absurd h (by omega) | simp)
        clear hw
        refine F.vl (Z8 rfl (ev_c fa _)) ?_;clear F fa;intro fa F
        refine wpList_nil ?_
        refine hK64 _ _ ?_
        clear hK64
        refine wp_ret ?_
        (try simp only [Exit.inBlock,Exit.then])
        refine rt_v F (Z7N F rfl rfl rfl Try.underlying111 rfl (by kernel_rfl) q2) ?_
        exact ⟨oa,oc,va,vc,by rw [hbb],Z4y ism hBw,E⟩
       ·skip
        refine wp_skip ?_
        refine hK60 _ _ ?_
        clear hK60
        refine wp_region_lit ?_
        refine F.mv ?_;clear F fa;intro fa F
        refine F.vl (Z0F rfl (F.at rfl) (ev_c fa _) (by omega) (by omega)) ?_;clear F fa;intro fa F
        refine F.as ?_;clear F fa;intro fa F
        refine wpList_nil ?_
        show _ ∧ _
        exact ⟨by omega,_,⟨rfl,EL9,fun p hp=>if e:p = i then (by subst e;omega) else hd p (by omega)⟩,F.sub (.c 16 rfl (.c 2 rfl (.c 4 rfl (.c 12 rfl .n))))⟩
      ·skip
       refine wp_exit ?_
       refine hK56 _ _ ?_
       clear hK56
       refine wp_seq_k fun K65 hK65=>?_
       have hbb:bdB t 0 = true:=(Z6Z ok hn).1 fun p hp=>hd p (by omega)
       refine wp_region_lit ?_
       refine F.vl (Zt rfl (F.at rfl) Try.underlying111 rfl (by kernel_rfl) q4) ?_;clear F fa;intro fa F
       refine Z1L rfl rfl (Zg rfl (F.at rfl) (F.at rfl) (by kernel_rfl) (by first | (simp [Value.oneCell'];done) | (simp [Value.oneCell',Z0K,Z0B,Z0L];done)) q2 rfl) ?_;intro w40 hw
       replace ism:=Z0i ism (fun _ _ _ h=>Zu hw h (Z6 h q2 (by decide))) (fun _ _ _ h=>Zu hw h (Z6 h q2 (by decide)))
       replace q1:=Z5 hw q1 (by omega)
       replace q2:=Zz hw q2 rfl
       replace q4:=Z5 hw q4 (by omega)
       replace E:=Za E hw (fun h=>by first | exact absurd h (by omega) | simp)
       clear hw
       refine F.vl (Z8 rfl (ev_c fa _)) ?_;clear F fa;intro fa F
       refine wpList_nil ?_
       refine hK65 _ _ ?_
       clear hK65
       refine wp_ret ?_
       (try simp only [Exit.inBlock,Exit.then])
       refine rt_v F (Z7N F rfl rfl rfl Try.underlying111 rfl (by kernel_rfl) q2) ?_
       exact ⟨oa,oc,va,vc,by rw [hbb],Z4y ism hBw,E⟩
end Go.Proofs.Ytholfdgebdlgjaa
