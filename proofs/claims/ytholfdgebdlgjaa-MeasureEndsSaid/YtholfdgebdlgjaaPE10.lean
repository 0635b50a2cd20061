/- Parts of a proof: NLo, Vc, Vd, Vt0. No conditions. -/
import Derived.Test.YtholfdgebdlgjaaPE7
import Derived.Test.YtholfdgebdlgjaaPE8
import Derived.Test.YtholfdgebdlgjaaPE9
set_option linter.unusedVariables false
set_option linter.unusedSimpArgs false
namespace Go.Proofs.Ytholfdgebdlgjaa
open Go.RowKit
theorem Z6T (w:World) (a:Option Addr) (n c:Nat) (zs:List Int) (h:Z62 .i64 w a n c zs) :
  Calls Try.prog 27 #[.slice a n c] w fun e w'=>∃ b,e = .returned (.pointer (some ⟨b,0,none⟩)) ∧ w.heap.size ≤ b ∧ b < w'.heap.size ∧ Z0v w w' b 0 (.slice a n c) ∧ Ext [] w w':=by
 obtain ⟨xs,hxl,hr⟩:=Z5o h
 clear h
 have E:Ext [] w w:=Ext.refl _ _
 go_enter Try.func27,Try.ntmps27
 go_upto_region 0 with (fail)
 refine wp_region_lit ?_
 refine Z3 rfl rfl (Z8 (v:=.pointer none) rfl rfl) (by simp only [ls,lz];exact rfl) ?_
 refine wpList_nil ?_
 go_upto_region 1 with (fail)
 refine wp_region_lit ?_
 refine Z3 rfl rfl (Zi (v:=.slice _ _ _) rfl rfl) (by simp only [ls,lz];exact rfl) ?_
 refine Z3 rfl rfl (ZZ rfl (cells:=#[.slice a n c,.int .i64 0,.int .u64 1]) (by kernel_rfl)) (by simp only [ls,lz];exact rfl) ?_
 refine Zy rfl rfl (Z0z (v:=.agg _) rfl rfl) (by simp only [ls,lz];exact rfl) fun w1 hw=>?_
 obtain ⟨n5,hn⟩:∃ n,n = w.heap.size:=⟨_,rfl⟩
 rw [← hn]
 have l5:w.heap.size ≤ n5:=by rw [hn];exact E.size
 have q5:=Zr hw hn
 replace E:=Z2 E hw
 clear hw hn
 refine Z3 rfl rfl (Z8 (v:=.pointer (some ⟨_,_,none⟩)) rfl rfl) (by simp only [ls,lz];exact rfl) ?_
 refine wpList_nil ?_
 go_wp2
 go_ret
 exact ⟨n5,rfl,l5,Z7 q5,⟨l5,⟨a,c,xs,by rw [hxl],hr⟩,E.mono (by simp),0,1,q5,by omega,by omega,by omega,by omega⟩,E⟩
def mlo (t:Tp) (s a:Int):Int:=-(bdV t 0 (ZO s a) 0)
def mhi (t:Tp) (s a:Int):Int:=bdV t 0 0 (ZO s a)
def plo (t:Tp) (i:Int):Int:=-(bdV t 0 0 (Z0q i))
def phi (t:Tp) (i:Int):Int:=bdV t 0 (Z0q i) 0
theorem ZaV {t:Tp} (ok:t.Ok) (h8:t.rd.length ≤ 8) (hb:bdB t 0 = true):t.Live:=by
 refine ⟨ok,h8,?_⟩
 by_cases h:∃ x,Tr t 0 x
 ·exact h
 ·have:=(Z5y ok (out:=0)).2 h
  rw [Z5i this] at hb
  cases hb
theorem Z3I (xs:List Int):ivs xs = (xs.map Z0Q).flatten:=by
 induction xs with
 | nil=>rfl
 | cons x xs ih=>simp [ivs,Z0Q] at ih ⊢;exact ih
theorem Z6J {w:World} {base n c:Nat} {a:Option Addr} {xs:List Int} (h:w.ownsRow base 3 1 (.slice a n c) n (ivs xs)) (hn:n = xs.length) (X:List Nat) (hX:∀ b ∈ X,b < base):SlAt X w a 1 xs.length (fun i=>[.int .i64 (xs.getD i 0)]):=by
 rw [Z3I] at h
 exact Z2B h hn (fun _=>rfl) X hX 0
def qe (t:Tp):Int:=if bdB t 0 = true then 0 else 9
theorem ZaN {t:Tp} (ok:t.Ok):bdB t 0 = true ↔ ∃ x,Tr t 0 x:=by
 constructor
 ·intro hb
  by_cases h:∃ x,Tr t 0 x
  ·exact h
  ·rw [Z5i ((Z5y ok (out:=0)).2 h)] at hb
   cases hb
 ·rintro ⟨x,hx⟩
  obtain ⟨y,hy⟩:=Z1N ok hx
  exact Z3m hy
theorem Z8O {t:Tp}:qe t = 0 ↔ bdB t 0 = true:=by
 unfold qe
 split <;> simp_all
theorem Zbm {S A:Int} {x:Nat} (hA:0 < A) (hx:(x:Int) < S * A):0 ≤ (x:Int) / A ∧ (x:Int) / A < S ∧ 0 ≤ (x:Int) % A ∧ (x:Int) % A < A:=
 ⟨Int.ediv_nonneg (by omega) (Int.le_of_lt hA),Int.ediv_lt_of_lt_mul hA hx,Int.emod_nonneg _ (by omega),Int.emod_lt_of_pos _ hA⟩
theorem Z4u {t:Tp} (ok:t.Ok):1 ≤ t.S * t.A ∧ t.S * t.A ≤ 9:=by
 have:=ok.S1;have:=ok.S3;have:=ok.A1;have:=ok.A3
 exact ⟨Int.mul_pos (by omega) (by omega),Int.le_trans (Int.mul_le_mul ok.S3 ok.A3 (by omega) (by omega)) (by decide)⟩
theorem Zbv (x:Int × Int):∀ u ∈ Z0K x,u.oneCell' = true:=by simp [Z0K,Value.oneCell']
theorem Zbh (x:Int × Int × Int × Int):∀ u ∈ Z0B x,u.oneCell' = true:=by simp [Z0B,Value.oneCell']
theorem Zbw (x:Int × Int × Int × Int × Int × Int):∀ u ∈ Z0L x,u.oneCell' = true:=by simp [Z0L,Value.oneCell']
def Zbj (w:World) (base:Nat) (gv rv lv:Value) (t:Tp):Prop:=
 w.ownsRow base 23 2 gv t.gr.length (Z4U t.gr) ∧ w.ownsRow base 66 4 rv t.rd.length (Z37 t.rd) ∧ w.ownsRow base 75 6 lv t.lk.length (Z4z t.lk)
theorem Z69 (u:Int):∀ (rd:List (Int × Int × Int × Int)) (i:Nat),i < rd.length → (Z37 rd).set (i * 4 + 3) (.int .i64 u) = Z37 (rd.set i ((rd.getD i (0,0,0,0)).1,(rd.getD i (0,0,0,0)).2.1,(rd.getD i (0,0,0,0)).2.2.1,u))
 | [],i,h=>by simp at h
 | r :: rd,0,_=>by simp [Z37,Z0B]
 | r :: rd,i + 1,h=>by
  have:=Z69 u rd i (by simpa using h)
  simp only [Z37] at this
  simp only [Z37,List.map_cons,List.flatten_cons,List.set_cons_succ,List.getD_cons_succ]
  rw [← this,List.set_append_right _ _ (by simp [Z0B];omega)]
  congr 2
  simp [Z0B];omega
end Go.Proofs.Ytholfdgebdlgjaa
