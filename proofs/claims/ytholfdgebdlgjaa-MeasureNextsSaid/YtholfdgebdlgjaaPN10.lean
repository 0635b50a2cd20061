/- Parts of a proof: NLo, Vc, Vd, Vf0, Vt0. No conditions. -/
import Derived.Test.YtholfdgebdlgjaaPN7
import Derived.Test.YtholfdgebdlgjaaPN8
import Derived.Test.YtholfdgebdlgjaaPN9
set_option linter.unusedVariables false
set_option linter.unusedSimpArgs false
namespace Go.Proofs.Ytholfdgebdlgjaa
open Go.RowKit
theorem newLots_any (w : World) (a : Option Addr) (n c : Nat) (zs : List Int) (h : IsRow .i64 w a n c zs) :
  Calls Try.prog 27 #[.slice a n c] w fun e w'=>∃ b,e = .returned (.pointer (some ⟨b,0,none⟩)) ∧ w.heap.size ≤ b ∧ b < w'.heap.size ∧ LotsOk w w' b 0 (.slice a n c) ∧ Ext [] w w':=by
 obtain ⟨xs,hxl,hr⟩:=rows_of_isRow h
 clear h
 have E : Ext [] w w:=Ext.refl _ _
 go_enter Try.func27,Try.ntmps27
 go_upto_region 0 with (fail)
 refine wp_region_lit ?_
 refine seq_val rfl rfl (R_assign (v:=.pointer none) rfl rfl) (by simp only [ls,lz];exact rfl) ?_
 refine wpList_nil ?_
 go_upto_region 1 with (fail)
 refine wp_region_lit ?_
 refine seq_val rfl rfl (R_move (v:=.slice _ _ _) rfl rfl) (by simp only [ls,lz];exact rfl) ?_
 refine seq_val rfl rfl (R_build' rfl (cells:=#[.slice a n c,.int .i64 0,.int .u64 1]) (by kernel_rfl)) (by simp only [ls,lz];exact rfl) ?_
 refine seq_new rfl rfl (R_box (v:=.agg _) rfl rfl) (by simp only [ls,lz];exact rfl) fun w1 hw=>?_
 obtain ⟨n5,hn⟩ : ∃ n,n = w.heap.size:=⟨_,rfl⟩
 rw [← hn]
 have l5 : w.heap.size ≤ n5:=by rw [hn];exact E.size
 have q5:=new_row hw hn
 replace E:=ext_alloc E hw
 clear hw hn
 refine seq_val rfl rfl (R_assign (v:=.pointer (some ⟨_,_,none⟩)) rfl rfl) (by simp only [ls,lz];exact rfl) ?_
 refine wpList_nil ?_
 go_wp2
 go_ret
 exact ⟨n5,rfl,l5,blk_lt q5,⟨l5,⟨a,c,xs,by rw [hxl],hr⟩,E.mono (by simp),0,1,q5,by omega,by omega,by omega,by omega⟩,E⟩
theorem Tp.Live.top {t : Tp} (h : t.Live) {i j : Nat} (hi : Go.Proofs.Ytholfdgebdlgjaa.live t i) (hj : Go.Proofs.Ytholfdgebdlgjaa.live t j) : (∀ x,Tr t 0 x → x j - x i ≤ bdV t 0 i j) ∧ ∃ x,Tr t 0 x ∧ x j - x i = bdV t 0 i j:=by
 obtain ⟨y,hy⟩:=h.some
 rw [bdV_some hy]
 refine ⟨fun x hx=>bd_le h.ok hy hx hi hj,_,(bd_reach h.ok hy (live_lt h.ok hi)).1,?_⟩
 rw [(bd_reach h.ok hy (live_lt h.ok hi)).2]
 omega
theorem live_of {t : Tp} (ok : t.Ok) (h8 : t.rd.length ≤ 8) (hb : bdB t 0 = true) : t.Live:=by
 refine ⟨ok,h8,?_⟩
 by_cases h : ∃ x,Tr t 0 x
 ·exact h
 ·have:=(bd_none ok (out:=0)).2 h
  rw [bdB_none this] at hb
  cases hb
theorem ivs_flat (xs : List Int) : ivs xs = (xs.map intRow).flatten:=by
 induction xs with
 | nil=>rfl
 | cons x xs ih=>simp [ivs,intRow] at ih ⊢;exact ih
theorem slAt_of_ivs {w : World} {base n c : Nat} {a : Option Addr} {xs : List Int} (h : w.ownsRow base 3 1 (.slice a n c) n (ivs xs)) (hn : n = xs.length) (X : List Nat) (hX : ∀ b ∈ X,b < base) : SlAt X w a 1 xs.length (fun i=>[.int .i64 (xs.getD i 0)]):=by
 rw [ivs_flat] at h
 exact slAt_of_owns h hn (fun _=>rfl) X hX 0
theorem bdB_iff {t : Tp} (ok : t.Ok) : bdB t 0 = true ↔ ∃ x,Tr t 0 x:=by
 constructor
 ·intro hb
  by_cases h : ∃ x,Tr t 0 x
  ·exact h
  ·rw [bdB_none ((bd_none ok (out:=0)).2 h)] at hb
   cases hb
 ·rintro ⟨x,hx⟩
  obtain ⟨y,hy⟩:=bd_some ok hx
  exact bdB_some hy
theorem nd_in2 {S A : Int} {x : Nat} (hA : 0 < A) (hx : (x : Int) < S * A) : 0 ≤ (x : Int) / A ∧ (x : Int) / A < S ∧ 0 ≤ (x : Int) % A ∧ (x : Int) % A < A:=
 ⟨Int.ediv_nonneg (by omega) (Int.le_of_lt hA),Int.ediv_lt_of_lt_mul hA hx,Int.emod_nonneg _ (by omega),Int.emod_lt_of_pos _ hA⟩
theorem ok_prod {t : Tp} (ok : t.Ok) : 1 ≤ t.S * t.A ∧ t.S * t.A ≤ 9:=by
 have:=ok.S1;have:=ok.S3;have:=ok.A1;have:=ok.A3
 exact ⟨Int.mul_pos (by omega) (by omega),Int.le_trans (Int.mul_le_mul ok.S3 ok.A3 (by omega) (by omega)) (by decide)⟩
theorem addR_get {t : Tp} {r : Int × Int × Int × Int} {i : Nat} (hi : i < t.rd.length) : (addR t r).rd.getD i (0,0,0,0) = t.rd.getD i (0,0,0,0):=by
 simp [addR,List.getElem?_append_left hi]
theorem addR_last {t : Tp} {r : Int × Int × Int × Int} : (addR t r).rd.getD t.rd.length (0,0,0,0) = r:=by simp [addR]
theorem addR_cell {t : Tp} {r : Int × Int × Int × Int} {s a : Nat} {x : Nat → Int} : CellOk (addR t r) s a x ↔ CellOk t s a x:=⟨fun q=>⟨q.lo,q.hi,q.glo,q.ghi⟩,fun q=>⟨q.lo,q.hi,q.glo,q.ghi⟩⟩
theorem addR_tail {t : Tp} {r : Int × Int × Int × Int} {i : Nat} {x : Nat → Int} : TailOk (addR t r) i x ↔ TailOk t i x:=⟨fun q=>⟨q.lo,q.hi⟩,fun q=>⟨q.lo,q.hi⟩⟩
theorem addR_read {t : Tp} {r q : Int × Int × Int × Int} {x : Nat → Int} : ReadOk (addR t r) q x ↔ ReadOk t q x:=⟨fun q=>⟨q.lo,q.hi⟩,fun q=>⟨q.lo,q.hi⟩⟩
theorem addR_tr {t : Tp} {r : Int × Int × Int × Int} {x : Nat → Int} : Tr (addR t r) 0 x ↔ Tr t 0 x ∧ ReadOk t r x:=by
 have hl : (addR t r).rd.length = t.rd.length + 1:=by simp [addR]
 have h0 : ∀ i,hasB 0 i = false:=fun i=>by simp [hasB]
 constructor
 ·intro h
  refine ⟨⟨fun s a hs ha=>addR_cell.1 (h.cell s a hs ha),fun i hi=>addR_tail.1 (h.tail i hi),fun i hi hb=>?_,h.link⟩,?_⟩
  ·have:=h.read i (by omega) hb
   rw [addR_get hi] at this
   exact addR_read.1 this
  ·have:=h.read t.rd.length (by omega) (h0 _)
   rw [addR_last] at this
   exact addR_read.1 this
 ·rintro ⟨h,hr⟩
  refine ⟨fun s a hs ha=>addR_cell.2 (h.cell s a hs ha),fun i hi=>addR_tail.2 (h.tail i hi),fun i hi hb=>?_,h.link⟩
  by_cases e : i < t.rd.length
  ·rw [addR_get e];exact addR_read.2 (h.read i e hb)
  ·obtain rfl : i = t.rd.length:=by omega
   rw [addR_last];exact addR_read.2 hr
theorem own_addR {w : World} {base c : Nat} {a : Option Addr} {t : Tp} {r : Int × Int × Int × Int} (h : w.ownsRow base 66 4 (.slice a (t.rd.length + 1) c) (t.rd.length + 1) (flatR t.rd ++ [.int .i64 r.1,.int .i64 r.2.1,.int .i64 r.2.2.1,.int .i64 r.2.2.2])) : IsRows w (.slice a (t.rd.length + 1) c) 4 ((addR t r).rd.map rdRow):=by
 rw [show t.rd.length + 1 = (addR t r).rd.length by simp [addR],show flatR t.rd ++ [.int .i64 r.1,.int .i64 r.2.1,.int .i64 r.2.2.1,.int .i64 r.2.2.2] = ((addR t r).rd.map rdRow).flatten by simp [addR,flatR,rdRow]] at h
 have:=rows_of_owns (row:=rdRow) h (fun _=>rfl)
 rwa [show (addR t r).rd.length = t.rd.length + 1 by simp [addR]] at this
theorem gr_one (x : Int × Int) : ∀ u ∈ grRow x,u.oneCell' = true:=by simp [grRow,Value.oneCell']
theorem rd_one (x : Int × Int × Int × Int) : ∀ u ∈ rdRow x,u.oneCell' = true:=by simp [rdRow,Value.oneCell']
theorem lk_one (x : Int × Int × Int × Int × Int × Int) : ∀ u ∈ lkRow x,u.oneCell' = true:=by simp [lkRow,Value.oneCell']
def OwnTp (w : World) (base : Nat) (gv rv lv : Value) (t : Tp) : Prop:=
 w.ownsRow base 23 2 gv t.gr.length (flatG t.gr) ∧ w.ownsRow base 66 4 rv t.rd.length (flatR t.rd) ∧ w.ownsRow base 75 6 lv t.lk.length (flatK t.lk)
theorem flatR_set (u : Int) : ∀ (rd : List (Int × Int × Int × Int)) (i : Nat),i < rd.length → (flatR rd).set (i * 4 + 3) (.int .i64 u) = flatR (rd.set i ((rd.getD i (0,0,0,0)).1,(rd.getD i (0,0,0,0)).2.1,(rd.getD i (0,0,0,0)).2.2.1,u))
 | [],i,h=>by simp at h
 | r :: rd,0,_=>by simp [flatR,rdRow]
 | r :: rd,i + 1,h=>by
  have:=flatR_set u rd i (by simpa using h)
  simp only [flatR] at this
  simp only [flatR,List.map_cons,List.flatten_cons,List.set_cons_succ,List.getD_cons_succ]
  rw [← this,List.set_append_right _ _ (by simp [rdRow];omega)]
  congr 2
  simp [rdRow];omega
end Go.Proofs.Ytholfdgebdlgjaa
