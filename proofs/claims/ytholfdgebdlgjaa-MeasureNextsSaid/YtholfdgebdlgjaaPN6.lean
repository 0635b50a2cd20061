/- Parts of a proof: Rng, Nxt, Ap, Cmp. No conditions. -/
import Derived.Laws.BitsAllLaws
import Derived.Laws.StructEq
import Derived.ScopeJumps
import Derived.Test.YtholfdgebdlgjaaPN1
import Derived.Test.YtholfdgebdlgjaaPN2
import Derived.Test.YtholfdgebdlgjaaPN4
import Derived.Test.YtholfdgebdlgjaaPN5
set_option linter.unusedVariables false
set_option linter.unusedSimpArgs false
namespace Go.Proofs.Ytholfdgebdlgjaa
open Go.RowKit
def listTo (s : Int) (k : Nat) : List Int:=((List.range k).filter (hasB s)).map Int.ofNat
theorem listTo_yes {s : Int} {k : Nat} (h : hasB s k = true) : listTo s (k + 1) = listTo s k ++ [(k : Int)]:=by
 simp [listTo,List.range_succ,List.filter_append,h]
theorem listTo_no {s : Int} {k : Nat} (h : hasB s k = false) : listTo s (k + 1) = listTo s k:=by
 simp [listTo,List.range_succ,List.filter_append,h]
theorem listTo_len (s : Int) (k : Nat) : (listTo s k).length ≤ k:=by
 unfold listTo
 rw [List.length_map]
 exact Nat.le_trans (List.length_filter_le _ _) (by simp)
def flatI (xs : List Int) : List Value:=(xs.map intRow).flatten
theorem flatI_snoc (xs : List Int) (x : Int) : flatI (xs ++ [x]) = flatI xs ++ [.int .i64 x]:=by simp [flatI,intRow]
set_option maxRecDepth 100000 in
set_option maxHeartbeats 2000000 in
theorem list_any (s : Int) (w : World) (h1 : 0 ≤ s) (h2 : s < 65536) :
  Calls Try.prog 113 #[.int .u16 s] w fun e w'=>∃ a cap,e = .returned (.slice a (listTo s 8).length cap) ∧ IsRows w' (.slice a (listTo s 8).length cap) 1 ((listTo s 8).map intRow) ∧ Ext [] w w':=by
 have E : Ext [] w w:=Ext.refl _ _
 go_enter Try.func113,Try.ntmps113
 go_wp2_with fail
 go_loopw [5,3] (fun iv v wr=>∃ k : Nat,k ≤ 8 ∧ iv = .int .i64 k ∧ wr.ownsRow w.heap.size 3 1 v (listTo s k).length (flatI (listTo s k)) ∧ Ext [] w wr) (fun iv _ _=>8 - (intOf iv).toNat)
 case atStart=>exact ⟨0,Nat.zero_le _,rfl,World.ownsRow_nil _ _ _ _,E⟩
 case round =>
  clear E
  obtain ⟨k,hk,rfl,ho,E⟩:=hrel
  obtain ⟨sa,sc,rfl⟩:=owns_slice ho
  by_cases hlt : (k : Int) < 8
  ·have hc:=has_any s k wr h1 h2 (by omega) (by omega)
   rw [Int.toNat_natCast] at hc
   cases hh : hasB s k
   ·rw [hh] at hc
    have H1:=Lib.hid (listTo_no hh)
    go_wp2_with (go_at_call 126;refine hc.mono ?_;clear hc;rintro e w2 ⟨rfl,rfl⟩)
    go_roundw
    case rel=>exact ⟨k + 1,by omega,by go_num,by rw [H1.out];exact ho,E⟩
    case measure=>simp [intOf];omega
   ·rw [hh] at hc
    have H1:=Lib.hid (listTo_yes hh)
    have hlen:=listTo_len s k
    go_upto_region 6 with (go_at_call 126;refine hc.mono ?_;clear hc;rintro e w2 ⟨rfl,rfl⟩)
    refine wp_region_lit ?_
    refine seq_val rfl rfl (R_move (v:=.slice _ _ _) rfl rfl) (by simp only [ls,lz];exact rfl) ?_
    refine seq_val rfl rfl (R_move (v:=.int .i64 _) rfl rfl) (by simp only [ls,lz];exact rfl) ?_
    refine seq_new rfl rfl (R_buildSlice rfl Try.underlying29 (size:=1) (by kernel_rfl) (by decide) (by decide) Try.zeroValue3 (cells:=#[.int .i64 k]) (by kernel_rfl)) (by simp only [ls,lz];exact rfl) fun w1 hw=>?_
    obtain ⟨n13,hn⟩ : ∃ n,n = wr.heap.size:=⟨_,rfl⟩
    rw [← hn]
    have l13 : w.heap.size ≤ n13:=by rw [hn];exact E.size
    replace ho:=owns_alloc hw ho
    have q13:=new_block hw hn
    replace E:=ext_alloc E hw
    clear hw hn
    refine seq_append rfl rfl rfl (w.heap.size) (e:=3) (size:=1) (bytes:=8) Try.underlying29 (by kernel_rfl) (by decide) rfl ho rfl q13 rfl (by simp [Value.oneCell']) (by omega) (by omega) (by have:=E.size;omega) fun v' w2 hown' hg=>?_
    obtain ⟨va14,vc14,rfl⟩:=owns_slice hown'
    refine ⟨_,(by simp only [ls,lz];exact rfl),?_⟩
    replace E:=ext_append E ho hg (by omega)
    replace ho:=hown'
    clear hg
    refine seq_val rfl rfl (R_assign (v:=.slice _ _ _) rfl rfl) (by simp only [ls,lz];exact rfl) ?_
    refine wpList_nil ?_
    go_wp2
    go_roundw
    case rel=>exact ⟨k + 1,by omega,by go_num,by rw [H1.out,flatI_snoc,List.length_append];exact ho,E⟩
    case measure=>simp [intOf];omega
  ·obtain rfl : k = 8:=by omega
   go_wp2
   go_ret
   exact ⟨sa,sc,rfl,rows_of_owns ho (fun _=>rfl),E⟩
theorem grow_lt (many : Nat) (hm : many ≤ 15) : ∀ (more s from_ : Nat),s < 65536 → ∀ x ∈ growL many more s from_,x < 65536
 | 0,s,_,hs,x,hx=>by simp [growL] at hx;omega
 | more + 1,s,from_,hs,x,hx=>by
  simp only [growL,List.mem_flatMap,List.mem_range] at hx
  obtain ⟨k,hk,hx⟩:=hx
  exact grow_lt many hm more _ _ (or_lt16 hs (by omega)) x hx
theorem sets_lt {many : Nat} (hm : many ≤ 15) {x : Nat} (hx : x ∈ setsL many) : x < 65536:=by
 simp only [setsL,List.mem_flatMap,List.mem_range] at hx
 obtain ⟨k,hk,hx⟩:=hx
 exact grow_lt many hm k 0 0 (by omega) x hx
def outN (all s : Nat) : Nat:=all &&& (65535 - s)
theorem outN_lt {all s : Nat} (h : all < 65536) : outN all s < 65536:=Nat.lt_of_le_of_lt Nat.and_le_left h
theorem R_andNot16 {P : Program} {ρ : Operand → Value} {o : Oper} {w : World} {x y : Operand} {t t' : TypeId} {a b : Nat} (ho : o.op = .binOp .andNot t x y t') (hx : ρ x = .int .u16 a) (hy : ρ y = .int .u16 b) (ha : a < 65536) (hb : b < 65536) :
  (execOp ρ o).run P w = .ok (.value (.int .u16 (outN a b : Nat))) w:=by
 rw [R_andNot ho hx hy,u16_andNot_nat a b ha hb];rfl
set_option maxRecDepth 100000 in
set_option maxHeartbeats 2000000 in
theorem ring1_any (t : Tp) (ok : t.Ok) (gv rv lv : Value) (b1 b2 all x : Nat) (w : World) (ht : IsTp w gv rv lv t) (h1 : w.heap[b1]? = some (.cells (tpCells t gv rv lv) 100 (0,0))) (h2 : w.heap[b2]? = some (.cells #[.int .u16 all] 109 (0,0))) (ha : all < 65536) (hx : x < 65536) :
  Calls Try.prog 112 #[.int .u16 x,.pointer (some ⟨b1,0,none⟩),.pointer (some ⟨b2,0,none⟩)] w fun e w'=>e = .returned (.bool (!bdB t (outN all x))) ∧ Ext [] w w':=by
 have HS : Hid (∀ W : World,Ext [] w W → Calls Try.prog 80 #[tpV t gv rv lv,.int .u16 (outN all x : Nat)] W fun e w'=>e = .returned (.tuple #[.agg (matCells (bdV t (outN all x : Nat))),.bool (bdB t (outN all x : Nat))]) ∧ Ext [] W w'):=
  fun W e=>solve_v t ok gv rv lv (outN all x : Nat) (by omega) (by have:=outN_lt (s:=x) ha;omega) W (ht.ext e (by simp))
 clear ht
 obtain ⟨m,hm⟩ : ∃ m,m = bdV t (outN all x : Nat):=⟨_,rfl⟩
 obtain ⟨b,hb⟩ : ∃ b,b = bdB t (outN all x : Nat):=⟨_,rfl⟩
 rw [← hm,← hb] at HS
 rw [← hb]
 clear hm hb
 have E : Ext [] w w:=Ext.refl _ _
 unfold tpV at HS
 unfold tpCells at h1
 go_enter Try.func112,Try.ntmps112
 go_upto_region 1 with (fail)
 refine wp_region_lit ?_
 refine seq_val rfl rfl (R_loadBlk rfl rfl Try.underlying100 rfl (by kernel_rfl) h1) (by simp only [ls,lz];exact rfl) ?_
 refine seq_val rfl rfl (R_load rfl rfl Try.underlying109 rfl ((cells_of_block h2 0).trans (get0))) (by simp only [ls,lz];exact rfl) ?_
 refine seq_val rfl rfl (R_move (v:=.int .u16 _) rfl rfl) (by simp only [ls,lz];exact rfl) ?_
 refine seq_val rfl rfl (R_andNot16 rfl rfl rfl ha hx) (by simp only [ls,lz];exact rfl) ?_
 refine seq_call rfl rfl (by kernel_rfl) (HS.out _ E) fun e w1 hR=>?_
 obtain ⟨rfl,e1⟩:=hR
 refine ⟨_,_,rfl,(by simp only [ls,lz];exact rfl),?_⟩
 replace h1:=(e1).keep0 h1
 replace h2:=(e1).keep0 h2
 replace E:=ext_same E (e1)
 refine seq_val rfl rfl (R_move (v:=.tuple _) rfl rfl) (by simp only [ls,lz];exact rfl) ?_
 refine seq_val rfl rfl (R_extract rfl rfl (get0)) (by simp only [ls,lz];exact rfl) ?_
 refine seq_val rfl rfl (R_extract rfl rfl (getS (get0))) (by simp only [ls,lz];exact rfl) ?_
 refine seq_new rfl rfl (R_alloc rfl Try.zeroValue105) (by simp only [ls,lz];exact rfl) fun w2 hw=>?_
 obtain ⟨n5,hn⟩ : ∃ n,n = w1.heap.size:=⟨_,rfl⟩
 rw [← hn]
 have l5 : w.heap.size ≤ n5:=by rw [hn];exact E.size
 have m5_1 : b1 < n5:=by rw [hn];exact blk_lt h1
 have m5_2 : b2 < n5:=by rw [hn];exact blk_lt h2
 replace h1:=keep_alloc hw h1
 replace h2:=keep_alloc hw h2
 have q5:=new_row hw hn
 replace E:=ext_alloc E hw
 clear hw hn
 refine seq_to rfl rfl (R_storeRow rfl rfl rfl (by rw [matCells_size];kernel_rfl) (by rw [← matList_toArray];exact all_oneCell_toArray (matList_one _)) q5 (by show Try.zeroCells105.size = _;rw [Try.zeroCells105_size,matCells_size])) fun w3 hw=>?_
 replace h1:=keep_cells hw h1 (by omega)
 replace h2:=keep_cells hw h2 (by omega)
 replace q5:=put_row hw q5 (by show Try.zeroCells105.size = _;rw [Try.zeroCells105_size,matCells_size])
 replace E:=ext_cells E hw (fun h=>by first | exact absurd h (by omega) | simp)
 clear hw
 refine seq_val rfl rfl (R_assign (v:=.bool _) rfl rfl) (by simp only [ls,lz];exact rfl) ?_
 refine wpList_nil ?_
 clear e1
 go_wp2
 go_ret
 exact ⟨rfl,E⟩
theorem full_nat (n : Nat) (w : World) (h : n < 16) :
  Calls Try.prog 109 #[.int .i64 n] w fun e w'=>e = .returned (.int .u16 ((2 ^ n - 1 : Nat) : Int)) ∧ w = w':=by
 refine (full_any n w (by omega) (by omega)).mono fun e w' hh=>⟨hh.1.trans (ret_int ?_),hh.2⟩
 rw [Int.toNat_natCast]
 have:=Nat.two_pow_pos n
 rw [Int.natCast_sub (by omega)];simp
def ringR (t : Tp) : Option Nat:=(setsL t.rd.length).find? fun x=>!bdB t (outN (2 ^ t.rd.length - 1) x)
def ringE (t : Tp) : Int:=if checkE t ≠ 0 then checkE t else if (ringR t).isSome then 0 else 11
def ringL (t : Tp) : List Int:=if checkE t ≠ 0 then [] else if (ringR t).isSome then listTo ((ringR t).getD 0) 8 else []
set_option maxRecDepth 100000 in
set_option maxHeartbeats 2000000 in
theorem ring_any (t : Tp) (gv rv lv : Value) (w : World) (ht : IsTp w gv rv lv t) (hl1 : t.gr.length ≤ 1000) (hl2 : t.rd.length ≤ 1000) (hl3 : t.lk.length ≤ 1000) :
  Calls Try.prog 47 #[tpV t gv rv lv] w fun e w'=>∃ a cap,e = .returned (.tuple #[.slice a (ringL t).length cap,.int .i64 (ringE t)]) ∧ IsRows w' (.slice a (ringL t).length cap) 1 ((ringL t).map intRow) ∧ Ext [] w w':=by
 have hone:=tp_one ht
 obtain ⟨ra,rcap,hrv⟩:=rows_len ht.rd
 have HK : Hid (∀ W : World,Ext [] w W → Calls Try.prog 79 #[tpV t gv rv lv,.slice none 0 0,.slice none 0 0,.slice none 0 0] W fun e w'=>e = .returned (.tuple #[.agg (openV t noX gv rv lv),.int .i64 (openE t noX)]) ∧ Ext [] W w'):=
  fun W e=>open_any t gv rv lv noX (fun _=>none) (fun _=>0) W (ht.ext e (by simp)) hl1 hl2 hl3 (fun i hi=>rows_nil _ _ _) (fun i hi=>by simp [noX])
 have E : Ext [] w w:=Ext.refl _ _
 rw [open_noX] at HK
 by_cases h : checkE t = 0
 ·obtain ⟨ok,h8⟩:=checkE_zero.1 h
  rw [openV_ok ((open_noX t).trans h),h] at HK
  rw [show ringE t = if (ringR t).isSome then 0 else 11 by rw [ringE,if_neg (by simpa using h)],show ringL t = if (ringR t).isSome then listTo ((ringR t).getD 0) 8 else [] by rw [ringL,if_neg (by simpa using h)]]
  have hpw : 2 ^ t.rd.length - 1 < 65536:=by
   have:=Nat.pow_le_pow_right (n:=2) (by decide) (show t.rd.length ≤ 16 by omega)
   omega
  have HF : Hid (∀ (W : World) (mb b1 b2 : Nat),Ext [] w W → W.heap[mb]? = some (.cells #[.int .i64 t.rd.length] 3 (0,0)) → W.heap[b1]? = some (.cells (tpCells t gv rv lv) 100 (0,0)) → W.heap[b2]? = some (.cells #[.int .u16 ((2 ^ t.rd.length - 1 : Nat) : Int)] 109 (0,0)) →
    Calls Try.prog 110 #[.func (.func 138) #[] #[.pointer (some ⟨mb,0,none⟩)],.func (.func 112) #[] #[.pointer (some ⟨b1,0,none⟩),.pointer (some ⟨b2,0,none⟩)]] W fun e w'=>e = .returned (.tuple #[.int .u16 ((ringR t).getD 0 : Nat),.bool (ringR t).isSome]) ∧ Ext [] W w'):=
   fun W mb b1 b2 e h1 h2 h3=>find_ring t.rd.length mb (by omega) b1 b2 _ W h1 fun x W2 hx e2=>ring1_any t ok gv rv lv b1 b2 _ x W2 (ht.ext (e.nil e2) (by simp)) (e2.keep0 h2) (e2.keep0 h3) hpw hx
  have hR : ∀ s,ringR t = some s → s < 65536:=fun s hs=>sets_lt (many:=t.rd.length) (by omega) (List.mem_of_find?_eq_some hs)
  clear h ht ok
  subst hrv
  cases hrr : ringR t with
  | none =>
   rw [hrr] at HF
   simp only [Option.isSome_none,Bool.false_eq_true,if_false,Option.getD_none]
   simp only [Option.isSome_none,Option.getD_none] at HF
   clear hR hrr
   unfold tpCells at HK HF
   unfold tpV at HK ⊢
   go_enter Try.func47,Try.ntmps47
   go_upto_region 0 with (fail)
   refine wp_region_lit ?_
   refine seq_new rfl rfl (R_box (v:=.agg _) rfl rfl) (by simp only [ls,lz];exact rfl) fun w1 hw=>?_
   obtain ⟨n1,hn⟩ : ∃ n,n = w.heap.size:=⟨_,rfl⟩
   rw [← hn]
   have l1 : w.heap.size ≤ n1:=by rw [hn];exact E.size
   have q1:=new_row hw hn
   replace E:=ext_alloc E hw
   clear hw hn
   refine seq_val rfl rfl (R_assign (v:=.slice _ _ _) rfl rfl) (by simp only [ls,lz];exact rfl) ?_
   refine seq_val rfl rfl (R_assign (v:=.int .i64 _) rfl rfl) (by simp only [ls,lz];exact rfl) ?_
   refine wpList_nil ?_
   go_upto_region 1 with (fail)
   refine wp_region_lit ?_
   refine seq_val rfl rfl (R_loadBlk rfl rfl Try.underlying28 rfl (by kernel_rfl) q1) (by simp only [ls,lz];exact rfl) ?_
   refine seq_call rfl rfl (by kernel_rfl) (HK.out _ E) fun e w2 hR=>?_
   obtain ⟨rfl,e1⟩:=hR
   refine ⟨_,_,rfl,(by simp only [ls,lz];exact rfl),?_⟩
   replace q1:=(e1).keep0 q1
   replace E:=ext_same E (e1)
   refine seq_val rfl rfl (R_move (v:=.tuple _) rfl rfl) (by simp only [ls,lz];exact rfl) ?_
   refine seq_val rfl rfl (R_extract rfl rfl (get0)) (by simp only [ls,lz];exact rfl) ?_
   refine seq_val rfl rfl (R_extract rfl rfl (getS (get0))) (by simp only [ls,lz];exact rfl) ?_
   refine seq_new rfl rfl (R_alloc rfl Try.zeroValue100) (by simp only [ls,lz];exact rfl) fun w3 hw=>?_
   obtain ⟨n4,hn⟩ : ∃ n,n = w2.heap.size:=⟨_,rfl⟩
   rw [← hn]
   have l4 : w.heap.size ≤ n4:=by rw [hn];exact E.size
   have m4_1 : n1 < n4:=by rw [hn];exact blk_lt q1
   replace q1:=keep_alloc hw q1
   have q4:=new_row hw hn
   replace E:=ext_alloc E hw
   clear hw hn
   refine seq_to rfl rfl (R_storeRow rfl rfl rfl (by kernel_rfl) (tp_cells_one hone) q4 rfl) fun w4 hw=>?_
   replace q1:=keep_cells hw q1 (by omega)
   replace q4:=put_row hw q4 rfl
   replace E:=ext_cells E hw (fun h=>by first | exact absurd h (by omega) | simp)
   clear hw
   refine seq_val rfl rfl (R_assign (v:=.int .i64 _) rfl rfl) (by simp only [ls,lz];exact rfl) ?_
   refine wpList_nil ?_
   clear e1
   go_upto_region 4 with (fail)
   refine wp_region_lit ?_
   refine seq_val rfl rfl (R_field rfl rfl Try.underlying28 rfl (n:=9) (sz:=1) rfl (by kernel_rfl) (by decide)) (by simp only [ls,lz];exact rfl) ?_
   refine seq_val rfl rfl (R_load rfl rfl Try.underlying25 rfl ((cells_of_block q1 9).trans (getS (getS (getS (getS (getS (getS (getS (getS (getS (get0)))))))))))) (by simp only [ls,lz];exact rfl) ?_
   refine seq_val rfl rfl (R_len rfl rfl rfl Try.underlying25) (by simp only [ls,lz];exact rfl) ?_
   refine seq_call rfl rfl (by kernel_rfl) (full_nat t.rd.length _ (by omega)) fun e w' hR=>?_
   obtain ⟨rfl,rfl⟩:=hR
   refine ⟨_,_,rfl,(by simp only [ls,lz];exact rfl),?_⟩
   refine seq_new rfl rfl (R_alloc rfl Try.zeroValue109) (by simp only [ls,lz];exact rfl) fun w5 hw=>?_
   obtain ⟨n6,hn⟩ : ∃ n,n = w4.heap.size:=⟨_,rfl⟩
   rw [← hn]
   have l6 : w.heap.size ≤ n6:=by rw [hn];exact E.size
   have m6_1 : n1 < n6:=by rw [hn];exact blk_lt q1
   have m6_4 : n4 < n6:=by rw [hn];exact blk_lt q4
   replace q1:=keep_alloc hw q1
   replace q4:=keep_alloc hw q4
   have q6:=new_one hw rfl hn
   replace E:=ext_alloc E hw
   clear hw hn
   refine seq_to rfl rfl (R_store (v:=.int .u16 _) rfl rfl rfl rfl (by kernel_rfl) ((cells_of_block q6 0).trans rfl) (free_of_block q6 0)) fun w6 hw=>?_
   replace q1:=keep_cell hw q1 (by omega)
   replace q4:=keep_cell hw q4 (by omega)
   replace q6:=put_cell hw q6 (by simp only [List.setIfInBounds_toArray,ls,lz];exact rfl)
   replace E:=ext_cell E hw (fun h=>by first | exact absurd h (by omega) | simp)
   clear hw
   refine wpList_nil ?_
   go_upto_region 5 with (fail)
   refine wp_region_lit ?_
   refine seq_val rfl rfl (R_field rfl rfl Try.underlying28 rfl (n:=9) (sz:=1) rfl (by kernel_rfl) (by decide)) (by simp only [ls,lz];exact rfl) ?_
   refine seq_val rfl rfl (R_load rfl rfl Try.underlying25 rfl ((cells_of_block q1 9).trans (getS (getS (getS (getS (getS (getS (getS (getS (getS (get0)))))))))))) (by simp only [ls,lz];exact rfl) ?_
   refine seq_val rfl rfl (R_len rfl rfl rfl Try.underlying25) (by simp only [ls,lz];exact rfl) ?_
   refine seq_call rfl rfl (by kernel_rfl) (sets_any t.rd.length _) fun e w7 hR=>?_
   obtain ⟨mb,rfl,hmb,qm,e1⟩:=hR
   refine ⟨_,_,rfl,(by simp only [ls,lz];exact rfl),?_⟩
   replace q1:=(e1).keep0 q1
   replace q4:=(e1).keep0 q4
   replace q6:=(e1).keep0 q6
   replace E:=ext_same E (e1)
   refine seq_val rfl rfl (R_makeFunc (us:=#[]) (vs:=#[.pointer (some ⟨n4,0,none⟩),.pointer (some ⟨n6,0,none⟩)]) rfl (by kernel_rfl) (by kernel_rfl)) (by simp only [ls,lz];exact rfl) ?_
   refine seq_call rfl rfl (by kernel_rfl) (HF.out _ mb n4 n6 E qm q4 q6) fun e w8 hR=>?_
   obtain ⟨rfl,e2⟩:=hR
   refine ⟨_,_,rfl,(by simp only [ls,lz];exact rfl),?_⟩
   replace q1:=(e2).keep0 q1
   replace q4:=(e2).keep0 q4
   replace q6:=(e2).keep0 q6
   replace E:=ext_same E (e2)
   refine seq_val rfl rfl (R_move (v:=.tuple _) rfl rfl) (by simp only [ls,lz];exact rfl) ?_
   refine seq_val rfl rfl (R_extract rfl rfl (get0)) (by simp only [ls,lz];exact rfl) ?_
   refine seq_val rfl rfl (R_extract rfl rfl (getS (get0))) (by simp only [ls,lz];exact rfl) ?_
   refine seq_val rfl rfl (R_assign (v:=.int .u16 _) rfl rfl) (by simp only [ls,lz];exact rfl) ?_
   refine seq_val rfl rfl (R_assign (v:=.bool _) rfl rfl) (by simp only [ls,lz];exact rfl) ?_
   refine wpList_nil ?_
   clear e1 e2
   go_wp2
   go_ret2
   exact ⟨none,0,rfl,rows_nil _ _ _,E⟩
  | some s =>
   have hs:=hR s hrr
   rw [hrr] at HF
   simp only [Option.isSome_some,if_true,Option.getD_some]
   simp only [Option.isSome_some,Option.getD_some] at HF
   clear hR hrr
   unfold tpCells at HK HF
   unfold tpV at HK ⊢
   go_enter Try.func47,Try.ntmps47
   go_upto_region 0 with (fail)
   refine wp_region_lit ?_
   refine seq_new rfl rfl (R_box (v:=.agg _) rfl rfl) (by simp only [ls,lz];exact rfl) fun w1 hw=>?_
   obtain ⟨n1,hn⟩ : ∃ n,n = w.heap.size:=⟨_,rfl⟩
   rw [← hn]
   have l1 : w.heap.size ≤ n1:=by rw [hn];exact E.size
   have q1:=new_row hw hn
   replace E:=ext_alloc E hw
   clear hw hn
   refine seq_val rfl rfl (R_assign (v:=.slice _ _ _) rfl rfl) (by simp only [ls,lz];exact rfl) ?_
   refine seq_val rfl rfl (R_assign (v:=.int .i64 _) rfl rfl) (by simp only [ls,lz];exact rfl) ?_
   refine wpList_nil ?_
   go_upto_region 1 with (fail)
   refine wp_region_lit ?_
   refine seq_val rfl rfl (R_loadBlk rfl rfl Try.underlying28 rfl (by kernel_rfl) q1) (by simp only [ls,lz];exact rfl) ?_
   refine seq_call rfl rfl (by kernel_rfl) (HK.out _ E) fun e w2 hR=>?_
   obtain ⟨rfl,e1⟩:=hR
   refine ⟨_,_,rfl,(by simp only [ls,lz];exact rfl),?_⟩
   replace q1:=(e1).keep0 q1
   replace E:=ext_same E (e1)
   refine seq_val rfl rfl (R_move (v:=.tuple _) rfl rfl) (by simp only [ls,lz];exact rfl) ?_
   refine seq_val rfl rfl (R_extract rfl rfl (get0)) (by simp only [ls,lz];exact rfl) ?_
   refine seq_val rfl rfl (R_extract rfl rfl (getS (get0))) (by simp only [ls,lz];exact rfl) ?_
   refine seq_new rfl rfl (R_alloc rfl Try.zeroValue100) (by simp only [ls,lz];exact rfl) fun w3 hw=>?_
   obtain ⟨n4,hn⟩ : ∃ n,n = w2.heap.size:=⟨_,rfl⟩
   rw [← hn]
   have l4 : w.heap.size ≤ n4:=by rw [hn];exact E.size
   have m4_1 : n1 < n4:=by rw [hn];exact blk_lt q1
   replace q1:=keep_alloc hw q1
   have q4:=new_row hw hn
   replace E:=ext_alloc E hw
   clear hw hn
   refine seq_to rfl rfl (R_storeRow rfl rfl rfl (by kernel_rfl) (tp_cells_one hone) q4 rfl) fun w4 hw=>?_
   replace q1:=keep_cells hw q1 (by omega)
   replace q4:=put_row hw q4 rfl
   replace E:=ext_cells E hw (fun h=>by first | exact absurd h (by omega) | simp)
   clear hw
   refine seq_val rfl rfl (R_assign (v:=.int .i64 _) rfl rfl) (by simp only [ls,lz];exact rfl) ?_
   refine wpList_nil ?_
   clear e1
   go_upto_region 4 with (fail)
   refine wp_region_lit ?_
   refine seq_val rfl rfl (R_field rfl rfl Try.underlying28 rfl (n:=9) (sz:=1) rfl (by kernel_rfl) (by decide)) (by simp only [ls,lz];exact rfl) ?_
   refine seq_val rfl rfl (R_load rfl rfl Try.underlying25 rfl ((cells_of_block q1 9).trans (getS (getS (getS (getS (getS (getS (getS (getS (getS (get0)))))))))))) (by simp only [ls,lz];exact rfl) ?_
   refine seq_val rfl rfl (R_len rfl rfl rfl Try.underlying25) (by simp only [ls,lz];exact rfl) ?_
   refine seq_call rfl rfl (by kernel_rfl) (full_nat t.rd.length _ (by omega)) fun e w' hR=>?_
   obtain ⟨rfl,rfl⟩:=hR
   refine ⟨_,_,rfl,(by simp only [ls,lz];exact rfl),?_⟩
   refine seq_new rfl rfl (R_alloc rfl Try.zeroValue109) (by simp only [ls,lz];exact rfl) fun w5 hw=>?_
   obtain ⟨n6,hn⟩ : ∃ n,n = w4.heap.size:=⟨_,rfl⟩
   rw [← hn]
   have l6 : w.heap.size ≤ n6:=by rw [hn];exact E.size
   have m6_1 : n1 < n6:=by rw [hn];exact blk_lt q1
   have m6_4 : n4 < n6:=by rw [hn];exact blk_lt q4
   replace q1:=keep_alloc hw q1
   replace q4:=keep_alloc hw q4
   have q6:=new_one hw rfl hn
   replace E:=ext_alloc E hw
   clear hw hn
   refine seq_to rfl rfl (R_store (v:=.int .u16 _) rfl rfl rfl rfl (by kernel_rfl) ((cells_of_block q6 0).trans rfl) (free_of_block q6 0)) fun w6 hw=>?_
   replace q1:=keep_cell hw q1 (by omega)
   replace q4:=keep_cell hw q4 (by omega)
   replace q6:=put_cell hw q6 (by simp only [List.setIfInBounds_toArray,ls,lz];exact rfl)
   replace E:=ext_cell E hw (fun h=>by first | exact absurd h (by omega) | simp)
   clear hw
   refine wpList_nil ?_
   go_upto_region 5 with (fail)
   refine wp_region_lit ?_
   refine seq_val rfl rfl (R_field rfl rfl Try.underlying28 rfl (n:=9) (sz:=1) rfl (by kernel_rfl) (by decide)) (by simp only [ls,lz];exact rfl) ?_
   refine seq_val rfl rfl (R_load rfl rfl Try.underlying25 rfl ((cells_of_block q1 9).trans (getS (getS (getS (getS (getS (getS (getS (getS (getS (get0)))))))))))) (by simp only [ls,lz];exact rfl) ?_
   refine seq_val rfl rfl (R_len rfl rfl rfl Try.underlying25) (by simp only [ls,lz];exact rfl) ?_
   refine seq_call rfl rfl (by kernel_rfl) (sets_any t.rd.length _) fun e w7 hR=>?_
   obtain ⟨mb,rfl,hmb,qm,e1⟩:=hR
   refine ⟨_,_,rfl,(by simp only [ls,lz];exact rfl),?_⟩
   replace q1:=(e1).keep0 q1
   replace q4:=(e1).keep0 q4
   replace q6:=(e1).keep0 q6
   replace E:=ext_same E (e1)
   refine seq_val rfl rfl (R_makeFunc (us:=#[]) (vs:=#[.pointer (some ⟨n4,0,none⟩),.pointer (some ⟨n6,0,none⟩)]) rfl (by kernel_rfl) (by kernel_rfl)) (by simp only [ls,lz];exact rfl) ?_
   refine seq_call rfl rfl (by kernel_rfl) (HF.out _ mb n4 n6 E qm q4 q6) fun e w8 hR=>?_
   obtain ⟨rfl,e2⟩:=hR
   refine ⟨_,_,rfl,(by simp only [ls,lz];exact rfl),?_⟩
   replace q1:=(e2).keep0 q1
   replace q4:=(e2).keep0 q4
   replace q6:=(e2).keep0 q6
   replace E:=ext_same E (e2)
   refine seq_val rfl rfl (R_move (v:=.tuple _) rfl rfl) (by simp only [ls,lz];exact rfl) ?_
   refine seq_val rfl rfl (R_extract rfl rfl (get0)) (by simp only [ls,lz];exact rfl) ?_
   refine seq_val rfl rfl (R_extract rfl rfl (getS (get0))) (by simp only [ls,lz];exact rfl) ?_
   refine seq_val rfl rfl (R_assign (v:=.int .u16 _) rfl rfl) (by simp only [ls,lz];exact rfl) ?_
   refine seq_val rfl rfl (R_assign (v:=.bool _) rfl rfl) (by simp only [ls,lz];exact rfl) ?_
   refine wpList_nil ?_
   clear e1 e2
   go_upto_region 8 with (fail)
   refine wp_region_lit ?_
   refine seq_val rfl rfl (R_move (v:=.int .u16 _) rfl rfl) (by simp only [ls,lz];exact rfl) ?_
   refine seq_call rfl rfl (by kernel_rfl) (list_any s _ (by omega) (by omega)) fun e w9 hR=>?_
   obtain ⟨la,lc,rfl,hrows,e3⟩:=hR
   refine ⟨_,_,rfl,(by simp only [ls,lz];exact rfl),?_⟩
   replace q1:=(e3).keep0 q1
   replace q4:=(e3).keep0 q4
   replace q6:=(e3).keep0 q6
   replace E:=ext_same E (e3)
   refine seq_val rfl rfl (R_assign (v:=.slice _ _ _) rfl rfl) (by simp only [ls,lz];exact rfl) ?_
   refine seq_val rfl rfl (R_assign (v:=.int .i64 _) rfl rfl) (by simp only [ls,lz];exact rfl) ?_
   refine wpList_nil ?_
   go_wp2
   go_ret2
   exact ⟨la,lc,rfl,hrows,E⟩
 ·rw [openV_no (by rw [open_noX];exact h)] at HK
  rw [show ringE t = checkE t by rw [ringE,if_pos h],show ringL t = [] by rw [ringL,if_pos h]]
  obtain ⟨ce,hce⟩ : ∃ ce,ce = checkE t:=⟨_,rfl⟩
  rw [← hce] at h HK ⊢
  clear hce ht
  have hb : (ce != 0) = true:=by simpa using h
  unfold tpV at HK ⊢
  go_enter Try.func47,Try.ntmps47
  go_upto_region 0 with (fail)
  refine wp_region_lit ?_
  refine seq_new rfl rfl (R_box (v:=.agg _) rfl rfl) (by simp only [ls,lz];exact rfl) fun w1 hw=>?_
  obtain ⟨n1,hn⟩ : ∃ n,n = w.heap.size:=⟨_,rfl⟩
  rw [← hn]
  have l1 : w.heap.size ≤ n1:=by rw [hn];exact E.size
  have q1:=new_row hw hn
  replace E:=ext_alloc E hw
  clear hw hn
  refine seq_val rfl rfl (R_assign (v:=.slice _ _ _) rfl rfl) (by simp only [ls,lz];exact rfl) ?_
  refine seq_val rfl rfl (R_assign (v:=.int .i64 _) rfl rfl) (by simp only [ls,lz];exact rfl) ?_
  refine wpList_nil ?_
  go_upto_region 1 with (fail)
  refine wp_region_lit ?_
  refine seq_val rfl rfl (R_loadBlk rfl rfl Try.underlying28 rfl (by kernel_rfl) q1) (by simp only [ls,lz];exact rfl) ?_
  refine seq_call rfl rfl (by kernel_rfl) (HK.out _ E) fun e w2 hR=>?_
  obtain ⟨rfl,e1⟩:=hR
  refine ⟨_,_,rfl,(by simp only [ls,lz];exact rfl),?_⟩
  replace q1:=(e1).keep0 q1
  replace E:=ext_same E (e1)
  refine seq_val rfl rfl (R_move (v:=.tuple _) rfl rfl) (by simp only [ls,lz];exact rfl) ?_
  refine seq_val rfl rfl (R_extract rfl rfl (get0)) (by simp only [ls,lz];exact rfl) ?_
  refine seq_val rfl rfl (R_extract rfl rfl (getS (get0))) (by simp only [ls,lz];exact rfl) ?_
  refine seq_new rfl rfl (R_alloc rfl Try.zeroValue100) (by simp only [ls,lz];exact rfl) fun w3 hw=>?_
  obtain ⟨n4,hn⟩ : ∃ n,n = w2.heap.size:=⟨_,rfl⟩
  rw [← hn]
  have l4 : w.heap.size ≤ n4:=by rw [hn];exact E.size
  have m4_1 : n1 < n4:=by rw [hn];exact blk_lt q1
  replace q1:=keep_alloc hw q1
  have q4:=new_row hw hn
  replace E:=ext_alloc E hw
  clear hw hn
  refine seq_to rfl rfl (R_storeRow rfl rfl rfl (by kernel_rfl) tp_zero_one q4 rfl) fun w4 hw=>?_
  replace q1:=keep_cells hw q1 (by omega)
  replace q4:=put_row hw q4 rfl
  replace E:=ext_cells E hw (fun h=>by first | exact absurd h (by omega) | simp)
  clear hw
  refine seq_val rfl rfl (R_assign (v:=.int .i64 _) rfl rfl) (by simp only [ls,lz];exact rfl) ?_
  refine wpList_nil ?_
  clear e1
  go_wp2
  go_ret2
  exact ⟨none,0,rfl,rows_nil _ _ _,E⟩
def numB (t : Tp) (at_ : Nat) : Int:=bdV t 0 0 at_ + bdV t 0 at_ 0 + 1
def nxt1 (t : Tp) (s a : Int) (i : Nat) (left : Int) : Nat → Int → Int → Option Int
 | 0,_,most=>some most
 | n + 1,tape,most =>
  if bdB (addR t (s,a,i,tape)) 0 = true then
   if left ≤ max most (numB (addR t (s,a,i,tape)) (nodeC s a)) then none
   else nxt1 t s a i left n (tape + 1) (max most (numB (addR t (s,a,i,tape)) (nodeC s a)))
  else nxt1 t s a i left n (tape + 1) most
def nxtLo (t : Tp) (s a : Int) (i : Nat) : Int:=-(bdV t 0 (nodeC s a) (nodeT i)) - t.sl
def nxtHi (t : Tp) (s a : Int) (i : Nat) : Int:=bdV t 0 (nodeT i) (nodeC s a) + t.sl
def nxtPick (r : Option Int) (old : Int × Int) (i : Nat) : Int × Int:=match r with
 | none=>old
 | some m=>((i : Int),m)
def nxtTo (t : Tp) (s a : Int) : Nat → Int × Int
 | 0=>(-1,numB t (nodeC s a))
 | i + 1=>nxtPick (nxt1 t s a i (nxtTo t s a i).2 (nxtHi t s a i - nxtLo t s a i + 1).toNat (nxtLo t s a i) 0) (nxtTo t s a i) i
theorem nxtTo_succ (t : Tp) (s a : Int) (i : Nat) : nxtTo t s a (i + 1) = nxtPick (nxt1 t s a i (nxtTo t s a i).2 (nxtHi t s a i - nxtLo t s a i + 1).toNat (nxtLo t s a i) 0) (nxtTo t s a i) i:=by rw [nxtTo]
def nextE (t : Tp) (s a : Int) : Int:=if measE t s a ≠ 0 then measE t s a else if (nxtTo t s a t.T.toNat).1 < 0 then 11 else 0
def nextV (t : Tp) (s a : Int) : Int × Int:=if nextE t s a = 0 then nxtTo t s a t.T.toNat else (0,0)
theorem sum_bd {t : Tp} (ok : t.Ok) (hb : bdB t 0 = true) {s a i : Nat} (hs : (s : Int) < t.S) (ha : (a : Int) < t.A) (hi : (i : Int) < t.T) :
  11 ≤ -(bdV t 0 (nodeC s a) (nodeT i)) ∧ bdV t 0 (nodeT i) (nodeC s a) ≤ 209:=by
 have hy:=bdB_get hb
 have k1:=ok.bl1
 have k2:=ok.bm1
 have k3:=ok.pl1
 have k4:=ok.pm1
 constructor
 ·obtain ⟨r,r0⟩:=bd_reach ok hy (live_lt ok (live_cell hs ha))
  have c:=(r.cell s a hs ha).lo
  have d:=(r.tail i hi).hi
  try simp only at c d
  omega
 ·obtain ⟨r,r0⟩:=bd_reach ok hy (live_lt ok (live_tail hi))
  have c:=(r.cell s a hs ha).hi
  have d:=(r.tail i hi).lo
  try simp only at c d
  omega
theorem addR_ok {t : Tp} (ok : t.Ok) (h8 : t.rd.length ≤ 8) {s a i tape : Int} (h : 0 ≤ s ∧ s < t.S) (h2 : 0 ≤ a ∧ a < t.A) (h3 : 0 ≤ i ∧ i < t.T) (h4 : 0 ≤ tape ∧ tape ≤ 250) : (addR t (s,a,i,tape)).Ok:=
 { ok with
  rdl:=by simp [addR];omega
  rd:=fun r hr=>by
   simp only [addR,List.mem_append,List.mem_cons,List.not_mem_nil,or_false] at hr
   rcases hr with hr | rfl
   ·exact ok.rd r hr
   ·exact ⟨h.1,h.2,h2.1,h2.2,h3.1,h3.2,h4.1,h4.2⟩ }
theorem jump_ret {l : Nat} {J : Act → World → Prop} {Q : Exit → Act → World → Prop} {a : Act} {w : World} (h : Q .ret a w) : Exit.jump l J Q .ret a w:=h
theorem apart_n (m : Nat → Nat → Int) (l h : Nat) (hl : l < 13) (hh : h < 13) (big : -1000000000000000000 ≤ m h l ∧ m h l ≤ 1000000000000000000) (w : World) :
  Calls Try.prog 91 #[.agg (matCells m),.int .i64 l,.int .i64 h] w fun e w'=>e = .returned (.agg #[.int .i64 (-(m h l)),.int .i64 (m l h)]) ∧ Ext [] w w':=by
 refine (apart_any m l h w (by omega) (by omega) (by omega) (by omega) (by simpa using big.1) (by simpa using big.2)).mono fun e w' hr=>⟨?_,Ext.of_below hr.2⟩
 rw [hr.1,Int.toNat_natCast,Int.toNat_natCast]
theorem cell_n (s a : Nat) (h1 : s ≤ 1000) (h2 : a ≤ 1000) (w : World) :
  Calls Try.prog 92 #[.int .i64 s,.int .i64 a] w fun e w'=>e = .returned (.int .i64 (nodeC s a : Nat)) ∧ w = w':=by
 refine (cell_any s a w (by omega) (by omega) (by omega) (by omega)).mono fun e w' hr=>⟨hr.1.trans (ret_int ?_),hr.2⟩
 unfold nodeC;omega
theorem tug_n (i : Nat) (h1 : i ≤ 1000) (w : World) :
  Calls Try.prog 101 #[.int .i64 i] w fun e w'=>e = .returned (.int .i64 (nodeT i : Nat)) ∧ w = w':=by
 refine (tug_any i w (by omega) (by omega)).mono fun e w' hr=>⟨hr.1.trans (ret_int ?_),hr.2⟩
 unfold nodeT;omega
theorem num_n (t : Tp) (c : Nat) (b1 : -1000000000000000000 ≤ bdV t 0 c 0 ∧ bdV t 0 c 0 ≤ 1000000000000000000) (b2 : -1000000000000000000 ≤ bdV t 0 0 c ∧ bdV t 0 0 c ≤ 1000000000000000000) (w : World) :
  Calls Try.prog 100 #[.agg #[.int .i64 (-(bdV t 0 c 0)),.int .i64 (bdV t 0 0 c)]] w fun e w'=>e = .returned (.int .i64 (numB t c)) ∧ Ext [] w w':=by
 refine (numbers_any _ _ w (by omega) (by omega) (by omega) (by omega)).mono fun e w' hr=>⟨hr.1.trans (ret_int ?_),hr.2⟩
 unfold numB;omega
set_option maxRecDepth 100000 in
set_option maxHeartbeats 4000000 in
theorem next_any (t : Tp) (gv lv : Value) (ra : Option Addr) (rcap : Nat) (s a : Int) (w : World) (ht : IsTp w gv (.slice ra t.rd.length rcap) lv t) (hl1 : t.gr.length ≤ 1000) (hl2 : t.rd.length ≤ 1000) (hl3 : t.lk.length ≤ 1000) (hrc : t.rd.length ≤ rcap) :
  Calls Try.prog 38 #[tpV t gv (.slice ra t.rd.length rcap) lv,.int .i64 s,.int .i64 a] w fun e w'=>e = .returned (.tuple #[.int .i64 (nextV t s a).1,.int .i64 (nextV t s a).2,.int .i64 (nextE t s a)]) ∧ Ext [] w w':=by
 obtain ⟨rv,hrv⟩ : ∃ rv,rv = Value.slice ra t.rd.length rcap:=⟨_,rfl⟩
 have ht0:=ht
 rw [← hrv] at ht
 have hone:=tp_one ht
 have HK : Hid (∀ (W : World) (b1 b2 : Nat),Ext [] w W → W.heap[b1]? = some (.cells #[.int .i64 s] 3 (0,0)) → W.heap[b2]? = some (.cells #[.int .i64 a] 3 (0,0)) → Calls Try.prog 90 #[tpV t gv rv lv,.slice (some ⟨b1,0,none⟩) 1 1,.slice (some ⟨b2,0,none⟩) 1 1,.slice none 0 0] W fun e w'=>e = .returned (.tuple #[.agg (openV t (sel3 [s] [a] []) gv rv lv),.agg (matCells (solvedM t (sel3 [s] [a] []))),.int .i64 (measE t s a)]) ∧ Ext [] W w'):=
  fun W b1 b2 e h1 h2=>solved_any t gv rv lv (sel3 [s] [a] []) (sel3 (some ⟨b1,0,none⟩) (some ⟨b2,0,none⟩) none) (sel3 1 1 0) W (ht.ext e (by simp)) hl1 hl2 hl3 (rows3 (rows_lit [s] 1 h1) (rows_lit [a] 1 h2) (rows_nil _ _ _)) (fun i hi=>by rcases i with _ | _ | i <;> simp [sel3])
 have E : Ext [] w w:=Ext.refl _ _
 have hVs:=openV_size t (sel3 [s] [a] []) gv rv lv
 have hVo:=openV_one (t:=t) (xs:=sel3 [s] [a] []) hone
 by_cases h : measE t s a = 0
 ·obtain ⟨h1,h2⟩:=solved_open h
  obtain ⟨ok,h8⟩:=checkE_zero.1 (openE_check h1)
  have ks:=ask_known h1 (i:=0) (by omega) (n:=s) (by simp [sel3])
  have ka:=ask_known h1 (i:=1) (by omega) (n:=a) (by simp [sel3])
  have k1:=ok.S3
  have k2:=ok.A3
  have k3:=ok.T3
  have k4:=ok.T1
  have k5:=ok.sl0
  have k6:=ok.sl5
  rw [show lim t 0 = t.S from rfl] at ks
  rw [show lim t 1 = t.A from rfl] at ka
  rw [openV_ok h1,show solvedM t (sel3 [s] [a] []) = bdV t 0 from if_pos h1,h] at HK
  have HE : Hid (nextE t s a = if (nxtTo t s a t.T.toNat).1 < 0 then 11 else 0):=by show _ = _;rw [nextE,if_neg (by simpa using h)]
  obtain ⟨s,rfl⟩:=Int.eq_ofNat_of_zero_le ks.1
  obtain ⟨a,rfl⟩:=Int.eq_ofNat_of_zero_le ka.1
  have big:=fun p q hp hq=>bd_big ok 0 (p:=p) (q:=q) hp hq
  have HSum:=Lib.hid (fun i hi=>sum_bd ok h2 (s:=s) (a:=a) (i:=i) ks.2 ka.2 hi)
  have HSol : Hid (∀ (i : Nat) (tape : Int) (W : World) (b cap : Nat),(i : Int) < t.T → 0 ≤ tape → tape ≤ 250 → IsTp W gv (.slice (some ⟨b,0,none⟩) (addR t (s,a,i,tape)).rd.length cap) lv (addR t (s,a,i,tape)) →
    Calls Try.prog 80 #[tpV (addR t (s,a,i,tape)) gv (.slice (some ⟨b,0,none⟩) (addR t (s,a,i,tape)).rd.length cap) lv,.int .u16 0] W fun e w'=>e = .returned (.tuple #[.agg (matCells (bdV (addR t (s,a,i,tape)) 0)),.bool (bdB (addR t (s,a,i,tape)) 0)]) ∧ Ext [] W w'):=
   fun i tape W b cap hi h0 h1 hT=>solve_v _ (addR_ok ok h8 ⟨by omega,ks.2⟩ ⟨by omega,ka.2⟩ ⟨by omega,hi⟩ ⟨h0,h1⟩) _ _ _ 0 (by omega) (by omega) W hT
  have HBig : Hid (∀ (i : Nat) (tape : Int) (p q : Nat),(i : Int) < t.T → 0 ≤ tape → tape ≤ 250 → p < 13 → q < 13 → -1000000000000000000 ≤ bdV (addR t (s,a,i,tape)) 0 p q ∧ bdV (addR t (s,a,i,tape)) 0 p q ≤ 1000000000000000000):=
   fun i tape p q hi h0 h1 hp hq=>bd_big (addR_ok ok h8 ⟨by omega,ks.2⟩ ⟨by omega,ka.2⟩ ⟨by omega,hi⟩ ⟨h0,h1⟩) 0 hp hq
  have HBg:=Lib.hid big
  have HRd:=Lib.hid (fun (r : Int × Int × Int × Int) (W : World) (e : Ext [] w W)=>read_any t gv lv ra rcap r W (ht0.ext e (by simp)) hl2 hrc)
  clear big ht ht0 h1 h2 ok h hVs hVo
  subst hrv
  unfold tpV at HK HRd HSol ⊢
  go_enter Try.func38,Try.ntmps38
  go_upto_region 0 with (fail)
  refine wp_region_lit ?_
  refine seq_new rfl rfl (R_box (v:=.agg _) rfl rfl) (by simp only [ls,lz];exact rfl) fun w1 hw=>?_
  obtain ⟨n3,hn⟩ : ∃ n,n = w.heap.size:=⟨_,rfl⟩
  rw [← hn]
  have l3 : w.heap.size ≤ n3:=by rw [hn];exact E.size
  have q3:=new_row hw hn
  replace E:=ext_alloc E hw
  clear hw hn
  refine seq_val rfl rfl (R_assign (v:=.int .i64 _) rfl rfl) (by simp only [ls,lz];exact rfl) ?_
  refine seq_val rfl rfl (R_assign (v:=.int .i64 _) rfl rfl) (by simp only [ls,lz];exact rfl) ?_
  refine seq_val rfl rfl (R_assign (v:=.int .i64 _) rfl rfl) (by simp only [ls,lz];exact rfl) ?_
  refine wpList_nil ?_
  go_upto_region 1 with (fail)
  refine wp_scope_jumps 0 (fun _ _=>False) (fun _ _=>0) (by exact rfl) ?_ (fun _ _ h=>h.elim)
  go_upto_region 1 with (fail)
  refine wp_region_lit ?_
  refine seq_val rfl rfl (R_loadBlk rfl rfl Try.underlying28 rfl (by kernel_rfl) q3) (by simp only [ls,lz];exact rfl) ?_
  refine seq_val rfl rfl (R_move (v:=.int .i64 _) rfl rfl) (by simp only [ls,lz];exact rfl) ?_
  refine seq_new rfl rfl (R_buildSlice rfl Try.underlying29 (size:=1) (by kernel_rfl) (by decide) (by decide) Try.zeroValue3 (cells:=#[.int .i64 s]) (by kernel_rfl)) (by simp only [ls,lz];exact rfl) fun w2 hw=>?_
  obtain ⟨n25,hn⟩ : ∃ n,n = w1.heap.size:=⟨_,rfl⟩
  rw [← hn]
  have l25 : w.heap.size ≤ n25:=by rw [hn];exact E.size
  have m25_3 : n3 < n25:=by rw [hn];exact blk_lt q3
  replace q3:=keep_alloc hw q3
  have q25:=new_block hw hn
  replace E:=ext_alloc E hw
  clear hw hn
  refine seq_val rfl rfl (R_move (v:=.int .i64 _) rfl rfl) (by simp only [ls,lz];exact rfl) ?_
  refine seq_new rfl rfl (R_buildSlice rfl Try.underlying29 (size:=1) (by kernel_rfl) (by decide) (by decide) Try.zeroValue3 (cells:=#[.int .i64 a]) (by kernel_rfl)) (by simp only [ls,lz];exact rfl) fun w3 hw=>?_
  obtain ⟨n27,hn⟩ : ∃ n,n = w2.heap.size:=⟨_,rfl⟩
  rw [← hn]
  have l27 : w.heap.size ≤ n27:=by rw [hn];exact E.size
  have m27_3 : n3 < n27:=by rw [hn];exact blk_lt q3
  have m27_25 : n25 < n27:=by rw [hn];exact blk_lt q25
  replace q3:=keep_alloc hw q3
  replace q25:=keep_alloc hw q25
  have q27:=new_block hw hn
  replace E:=ext_alloc E hw
  clear hw hn
  refine seq_call rfl rfl (by kernel_rfl) (HK.out _ n25 n27 E q25 q27) fun e w4 hR=>?_
  obtain ⟨rfl,e1⟩:=hR
  refine ⟨_,_,rfl,(by simp only [ls,lz];exact rfl),?_⟩
  replace q3:=(e1).keep0 q3
  replace q25:=(e1).keep0 q25
  replace q27:=(e1).keep0 q27
  replace E:=ext_same E (e1)
  refine seq_val rfl rfl (R_move (v:=.tuple _) rfl rfl) (by simp only [ls,lz];exact rfl) ?_
  refine seq_val rfl rfl (R_extract rfl rfl (get0)) (by simp only [ls,lz];exact rfl) ?_
  refine seq_val rfl rfl (R_extract rfl rfl (getS (get0))) (by simp only [ls,lz];exact rfl) ?_
  refine seq_val rfl rfl (R_extract rfl rfl (getS (getS (get0)))) (by simp only [ls,lz];exact rfl) ?_
  refine seq_new rfl rfl (R_alloc rfl Try.zeroValue100) (by simp only [ls,lz];exact rfl) fun w5 hw=>?_
  obtain ⟨n9,hn⟩ : ∃ n,n = w4.heap.size:=⟨_,rfl⟩
  rw [← hn]
  have l9 : w.heap.size ≤ n9:=by rw [hn];exact E.size
  have m9_3 : n3 < n9:=by rw [hn];exact blk_lt q3
  have m9_25 : n25 < n9:=by rw [hn];exact blk_lt q25
  have m9_27 : n27 < n9:=by rw [hn];exact blk_lt q27
  replace q3:=keep_alloc hw q3
  replace q25:=keep_alloc hw q25
  replace q27:=keep_alloc hw q27
  have q9:=new_row hw hn
  replace E:=ext_alloc E hw
  clear hw hn
  refine seq_new rfl rfl (R_alloc rfl Try.zeroValue105) (by simp only [ls,lz];exact rfl) fun w6 hw=>?_
  obtain ⟨n10,hn⟩ : ∃ n,n = w5.heap.size:=⟨_,rfl⟩
  rw [← hn]
  have l10 : w.heap.size ≤ n10:=by rw [hn];exact E.size
  have m10_3 : n3 < n10:=by rw [hn];exact blk_lt q3
  have m10_25 : n25 < n10:=by rw [hn];exact blk_lt q25
  have m10_27 : n27 < n10:=by rw [hn];exact blk_lt q27
  have m10_9 : n9 < n10:=by rw [hn];exact blk_lt q9
  replace q3:=keep_alloc hw q3
  replace q25:=keep_alloc hw q25
  replace q27:=keep_alloc hw q27
  replace q9:=keep_alloc hw q9
  have q10:=new_row hw hn
  replace E:=ext_alloc E hw
  clear hw hn
  refine seq_to rfl rfl (R_storeRow rfl rfl rfl (by kernel_rfl) (tp_cells_one hone) q9 rfl) fun w7 hw=>?_
  replace q3:=keep_cells hw q3 (by omega)
  replace q25:=keep_cells hw q25 (by omega)
  replace q27:=keep_cells hw q27 (by omega)
  replace q9:=put_row hw q9 rfl
  replace q10:=keep_cells hw q10 (by omega)
  replace E:=ext_cells E hw (fun h=>by first | exact absurd h (by omega) | simp)
  clear hw
  refine seq_to rfl rfl (R_storeRow rfl rfl rfl (by rw [matCells_size];kernel_rfl) (by rw [← matList_toArray];exact all_oneCell_toArray (matList_one _)) q10 (by show Try.zeroCells105.size = _;rw [Try.zeroCells105_size,matCells_size])) fun w8 hw=>?_
  replace q3:=keep_cells hw q3 (by omega)
  replace q25:=keep_cells hw q25 (by omega)
  replace q27:=keep_cells hw q27 (by omega)
  replace q9:=keep_cells hw q9 (by omega)
  replace q10:=put_row hw q10 (by show Try.zeroCells105.size = _;rw [Try.zeroCells105_size,matCells_size])
  replace E:=ext_cells E hw (fun h=>by first | exact absurd h (by omega) | simp)
  clear hw
  refine seq_val rfl rfl (R_assign (v:=.int .i64 _) rfl rfl) (by simp only [ls,lz];exact rfl) ?_
  refine wpList_nil ?_
  clear e1 q25 q27
  have hc : nodeC s a < 13:=by unfold nodeC;omega
  have HAp : Hid (∀ W : World,Calls Try.prog 91 #[.agg (matCells (bdV t 0)),.int .i64 0,.int .i64 (nodeC s a : Nat)] W fun e w'=>e = .returned (.agg #[.int .i64 (-(bdV t 0 (nodeC s a) 0)),.int .i64 (bdV t 0 0 (nodeC s a))]) ∧ Ext [] W w'):=
   fun W=>apart_n (bdV t 0) 0 (nodeC s a) (by omega) hc (HBg.out _ _ hc (by omega)) W
  have HNm:=Lib.hid (num_n t (nodeC s a) (HBg.out _ _ hc (by omega)) (HBg.out _ _ (by omega) hc))
  go_upto_region 4 with (fail)
  refine wp_region_lit ?_
  refine seq_val rfl rfl (R_move (v:=.int .i64 _) rfl rfl) (by simp only [ls,lz];exact rfl) ?_
  refine seq_val rfl rfl (R_move (v:=.int .i64 _) rfl rfl) (by simp only [ls,lz];exact rfl) ?_
  refine seq_call rfl rfl (by kernel_rfl) (cell_n s a (by omega) (by omega) _) fun e w' hR=>?_
  obtain ⟨rfl,rfl⟩:=hR
  refine ⟨_,_,rfl,(by simp only [ls,lz];exact rfl),?_⟩
  refine seq_val rfl rfl (R_assign (v:=.int .i64 _) rfl rfl) (by simp only [ls,lz];exact rfl) ?_
  refine wpList_nil ?_
  go_upto_region 5 with (fail)
  refine wp_region_lit ?_
  refine seq_val rfl rfl (R_loadBlk rfl rfl Try.underlying105 rfl (by rw [matCells_size];kernel_rfl) q10) (by simp only [ls,lz];exact rfl) ?_
  refine seq_val rfl rfl (R_move (v:=.int .i64 _) rfl rfl) (by simp only [ls,lz];exact rfl) ?_
  refine seq_call rfl rfl (by kernel_rfl) (HAp.out _) fun e w9 hR=>?_
  obtain ⟨rfl,e1⟩:=hR
  refine ⟨_,_,rfl,(by simp only [ls,lz];exact rfl),?_⟩
  replace q3:=(e1).keep0 q3
  replace q9:=(e1).keep0 q9
  replace q10:=(e1).keep0 q10
  replace E:=ext_same E (e1)
  refine seq_call rfl rfl (by kernel_rfl) (HNm.out _) fun e w10 hR=>?_
  obtain ⟨rfl,e2⟩:=hR
  refine ⟨_,_,rfl,(by simp only [ls,lz];exact rfl),?_⟩
  replace q3:=(e2).keep0 q3
  replace q9:=(e2).keep0 q9
  replace q10:=(e2).keep0 q10
  replace E:=ext_same E (e2)
  refine seq_val rfl rfl (R_assign (v:=.int .i64 _) rfl rfl) (by simp only [ls,lz];exact rfl) ?_
  refine seq_val rfl rfl (R_assign (v:=.int .i64 _) rfl rfl) (by simp only [ls,lz];exact rfl) ?_
  refine wpList_nil ?_
  clear e1 e2
  have ct:=(cells_of_block q9 2).trans (getS (getS get0))
  go_wp2_with fail
  refine wp_label ?_
  go_wp2_with fail
  clear ct
  go_loopw [45,13,14] (fun iv bv lv' wr=>∃ i : Nat,(i : Int) ≤ t.T ∧ iv = .int .i64 i ∧ bv = .int .i64 (nxtTo t s a i).1 ∧ lv' = .int .i64 (nxtTo t s a i).2 ∧
   wr.heap[n3]? = some (.cells #[.int .i64 t.S,.int .i64 t.A,.int .i64 t.T,.int .i64 t.bl,.int .i64 t.bm,.int .i64 t.pl,.int .i64 t.pm,.int .i64 t.sl,gv,.slice ra t.rd.length rcap,lv] 28 (0,0)) ∧
   wr.heap[n10]? = some (.cells (matCells (bdV t 0)) 105 (0,0)) ∧ Ext [] w wr) (fun iv _ _ _=>t.T.toNat - (intOf iv).toNat)
  case atStart=>exact ⟨0,by omega,rfl,rfl,rfl,q3,q10,E⟩
  case round =>
   clear q3 q9 q10 E
   obtain ⟨i,hi,rfl,rfl,rfl,q3,q10,E⟩:=hrel
   by_cases hlt : (i : Int) < t.T
   ·have hd : nodeT i < 13:=by unfold nodeT;omega
    have hap:=fun W=>apart_n (bdV t 0) (nodeT i) (nodeC s a) hd hc (HBg.out _ _ hc hd) W
    have hsum:=HSum.out i hlt
    have bgd:=HBg.out (nodeC s a) (nodeT i) hc hd
    have bgd2:=HBg.out (nodeT i) (nodeC s a) hd hc
    go_upto_region 10 with (fail)
    refine region_until (Ext [] wr) 6 follows fun w11 hh eS=>?_
    have q3_:=q3
    have q10_:=q10
    replace q3:=keep_same hh q3
    replace q10:=keep_same hh q10
    replace E:=ext_same E eS
    refine anyU_take (i:=0) (last:=6) rfl rfl (by decide) (by kernel_rfl) (by kernel_rfl) (by kernel_rfl) (by kernel_rfl) (by kernel_rfl) (fun _ _ _ h=>h) rfl rfl (fun w' hS=>R_loadBlk rfl rfl Try.underlying105 rfl (by rw [matCells_size];kernel_rfl) (hS.keep q10_ (by simp))) eS (by simp only [ls,lz];exact rfl) ?_
    refine anyU_take (i:=1) (last:=6) rfl rfl (by decide) (by kernel_rfl) (by kernel_rfl) (by kernel_rfl) (by kernel_rfl) (by kernel_rfl) (fun _ _ _ h=>h) rfl rfl (fun w' hS=>R_move (v:=.int .i64 _) rfl rfl) eS (by simp only [ls,lz];exact rfl) ?_
    refine anyU_take (i:=3) (last:=6) rfl rfl (by decide) (by kernel_rfl) (by kernel_rfl) (by kernel_rfl) (by kernel_rfl) (by kernel_rfl) (fun _ _ _ h=>h) rfl rfl (fun w' hS=>R_move (v:=.int .i64 _) rfl rfl) eS (by simp only [ls,lz];exact rfl) ?_
    refine anyU_pair (i:=2) (j:=5) (by kernel_rfl) ?_ ?_
    refine opU_call rfl rfl rfl (by kernel_rfl) (tug_n i (by omega) _) fun e w' hR=>?_
    obtain ⟨rfl,rfl⟩:=hR
    refine ⟨_,_,rfl,(by simp only [ls,lz];exact rfl),fun _=>eS,?_⟩
    refine anyU_pair (i:=4) (j:=5) (by kernel_rfl) ?_ ?_
    refine opU_call rfl rfl rfl (by kernel_rfl) (hap _) fun e w13 hR=>?_
    obtain ⟨rfl,e1⟩:=hR
    replace eS:=eS.nil (e1)
    replace q3:=(e1).keep0 q3
    replace q10:=(e1).keep0 q10
    replace E:=ext_same E (e1)
    refine ⟨_,_,rfl,(by simp only [ls,lz];exact rfl),fun _=>eS,?_⟩
    refine anyU_new (i:=5) rfl (by kernel_rfl) rfl rfl (R_alloc rfl Try.zeroValue23) (by simp only [ls,lz];exact rfl) fun w14 hw=>?_
    replace eS:=ext_alloc eS hw
    obtain ⟨n17,hn⟩ : ∃ n,n = w13.heap.size:=⟨_,rfl⟩
    rw [← hn]
    have l17 : w.heap.size ≤ n17:=by rw [hn];exact E.size
    have m17_3 : n3 < n17:=by rw [hn];exact blk_lt q3
    have m17_10 : n10 < n17:=by rw [hn];exact blk_lt q10
    replace q3:=keep_alloc hw q3
    replace q10:=keep_alloc hw q10
    have q17:=new_row hw hn
    replace E:=ext_alloc E hw
    clear hw hn
    refine ⟨fun _=>eS,?_⟩
    refine anyU_last (o:=_) rfl (by kernel_rfl) rfl rfl (R_storeRow rfl rfl rfl (by kernel_rfl) (by simp [Value.oneCell']) q17 rfl) (by kernel_rfl) fun w15 hw=>?_
    replace q3:=keep_cells hw q3 (by omega)
    replace q10:=keep_cells hw q10 (by omega)
    replace q17:=put_row hw q17 rfl
    replace E:=ext_cells E hw (fun h=>by first | exact absurd h (by omega) | simp)
    clear hw
    refine anyU_done (by kernel_rfl) ?_ _
    clear q3_ q10_ hh eS
    rotate_left
    refine opU_new rfl rfl rfl (R_alloc rfl Try.zeroValue23) (by simp only [ls,lz];exact rfl) fun w13 hw=>?_
    replace eS:=ext_alloc eS hw
    obtain ⟨n17,hn⟩ : ∃ n,n = w11.heap.size:=⟨_,rfl⟩
    rw [← hn]
    have l17 : w.heap.size ≤ n17:=by rw [hn];exact E.size
    have m17_3 : n3 < n17:=by rw [hn];exact blk_lt q3
    have m17_10 : n10 < n17:=by rw [hn];exact blk_lt q10
    replace q3:=keep_alloc hw q3
    replace q10:=keep_alloc hw q10
    have q17:=new_row hw hn
    replace E:=ext_alloc E hw
    clear hw hn
    refine ⟨fun _=>eS,?_⟩
    refine anyU_call (i:=4) rfl (by kernel_rfl) rfl rfl (by kernel_rfl) (hap _) fun e w14 hR=>?_
    obtain ⟨rfl,e1⟩:=hR
    replace eS:=eS.nil (e1)
    replace q3:=(e1).keep0 q3
    replace q10:=(e1).keep0 q10
    replace q17:=(e1).keep0 q17
    replace E:=ext_same E (e1)
    refine ⟨_,_,rfl,(by simp only [ls,lz];exact rfl),eS,?_⟩
    refine anyU_last (o:=_) rfl (by kernel_rfl) rfl rfl (R_storeRow rfl rfl rfl (by kernel_rfl) (by simp [Value.oneCell']) q17 rfl) (by kernel_rfl) fun w15 hw=>?_
    replace q3:=keep_cells hw q3 (by omega)
    replace q10:=keep_cells hw q10 (by omega)
    replace q17:=put_row hw q17 rfl
    replace E:=ext_cells E hw (fun h=>by first | exact absurd h (by omega) | simp)
    clear hw
    refine anyU_done (by kernel_rfl) ?_ _
    clear q3_ q10_ hh eS
    rotate_left
    refine opU_new rfl rfl rfl (R_alloc rfl Try.zeroValue23) (by simp only [ls,lz];exact rfl) fun w12 hw=>?_
    replace eS:=ext_alloc eS hw
    obtain ⟨n17,hn⟩ : ∃ n,n = w11.heap.size:=⟨_,rfl⟩
    rw [← hn]
    have l17 : w.heap.size ≤ n17:=by rw [hn];exact E.size
    have m17_3 : n3 < n17:=by rw [hn];exact blk_lt q3
    have m17_10 : n10 < n17:=by rw [hn];exact blk_lt q10
    replace q3:=keep_alloc hw q3
    replace q10:=keep_alloc hw q10
    have q17:=new_row hw hn
    replace E:=ext_alloc E hw
    clear hw hn
    refine ⟨fun _=>eS,?_⟩
    refine anyU_call (i:=2) rfl (by kernel_rfl) rfl rfl (by kernel_rfl) (tug_n i (by omega) _) fun e w' hR=>?_
    obtain ⟨rfl,rfl⟩:=hR
    refine ⟨_,_,rfl,(by simp only [ls,lz];exact rfl),eS,?_⟩
    refine anyU_call (i:=4) rfl (by kernel_rfl) rfl rfl (by kernel_rfl) (hap _) fun e w14 hR=>?_
    obtain ⟨rfl,e1⟩:=hR
    replace eS:=eS.nil (e1)
    replace q3:=(e1).keep0 q3
    replace q10:=(e1).keep0 q10
    replace q17:=(e1).keep0 q17
    replace E:=ext_same E (e1)
    refine ⟨_,_,rfl,(by simp only [ls,lz];exact rfl),eS,?_⟩
    refine anyU_last (o:=_) rfl (by kernel_rfl) rfl rfl (R_storeRow rfl rfl rfl (by kernel_rfl) (by simp [Value.oneCell']) q17 rfl) (by kernel_rfl) fun w15 hw=>?_
    replace q3:=keep_cells hw q3 (by omega)
    replace q10:=keep_cells hw q10 (by omega)
    replace q17:=put_row hw q17 rfl
    replace E:=ext_cells E hw (fun h=>by first | exact absurd h (by omega) | simp)
    clear hw
    refine anyU_done (by kernel_rfl) ?_ _
    clear q3_ q10_ hh eS
    all_goals
     clear e1 hap
     go_upto_region 11 with (fail)
     refine wp_region_lit ?_
     refine seq_val rfl rfl (R_field rfl rfl Try.underlying23 rfl (n:=0) (sz:=1) rfl (by kernel_rfl) (by decide)) (by simp only [ls,lz];exact rfl) ?_
     refine seq_val rfl rfl (R_load rfl rfl Try.underlying3 rfl ((cells_of_block q17 0).trans (get0))) (by simp only [ls,lz];exact rfl) ?_
     refine seq_val rfl rfl (R_field rfl rfl Try.underlying28 rfl (n:=7) (sz:=1) rfl (by kernel_rfl) (by decide)) (by simp only [ls,lz];exact rfl) ?_
     refine seq_val rfl rfl (R_load rfl rfl Try.underlying3 rfl ((cells_of_block q3 7).trans (getS (getS (getS (getS (getS (getS (getS (get0)))))))))) (by simp only [ls,lz];exact rfl) ?_
     refine seq_val rfl rfl (R_sub rfl rfl rfl (by omega) (by omega)) (by simp only [ls,lz];exact rfl) ?_
     refine seq_val rfl rfl (R_assign (v:=.int .i64 _) rfl rfl) (by simp only [ls,lz];exact rfl) ?_
     refine wpList_nil ?_
     obtain ⟨left,hleft⟩ : ∃ left,left = (nxtTo t s a i).2:=⟨_,rfl⟩
     obtain ⟨cnt,hcnt⟩ : ∃ cnt,cnt = (nxtHi t s a i - nxtLo t s a i + 1).toNat:=⟨_,rfl⟩
     have HR:=Lib.hid (show nxtTo t s a (i + 1) = nxtPick (nxt1 t s a i left cnt (nxtLo t s a i) 0) (nxtTo t s a i) i by rw [hcnt,hleft];exact nxtTo_succ _ _ _ _)
     rw [← hleft]
     have HL:=Lib.hid hleft
     clear hleft
     have hlo : -(bdV t 0 (nodeC s a) (nodeT i)) - t.sl = nxtLo t s a i:=rfl
     have hhi : bdV t 0 (nodeT i) (nodeC s a) + t.sl = nxtHi t s a i:=rfl
     rw [hlo]
     have Hcnt:=Lib.hid hcnt
     have Hlo:=Lib.hid hlo
     have Hhi:=Lib.hid hhi
     have Hsum:=Lib.hid hsum
     clear hcnt hlo hhi hsum
     generalize hbst : (nxtTo t s a i).1 = bst
     go_wp2_with fail
     go_loopw [18,16] (fun tv mv wr=>∃ (k : Nat) (most : Int),k ≤ cnt ∧ tv = .int .i64 (nxtLo t s a i + k) ∧ mv = .int .i64 most ∧
      nxt1 t s a i left (cnt - k) (nxtLo t s a i + k) most = nxt1 t s a i left cnt (nxtLo t s a i) 0 ∧
      wr.heap[n3]? = some (.cells #[.int .i64 t.S,.int .i64 t.A,.int .i64 t.T,.int .i64 t.bl,.int .i64 t.bm,.int .i64 t.pl,.int .i64 t.pm,.int .i64 t.sl,gv,.slice ra t.rd.length rcap,lv] 28 (0,0)) ∧
      wr.heap[n10]? = some (.cells (matCells (bdV t 0)) 105 (0,0)) ∧
      wr.heap[n17]? = some (.cells #[.int .i64 (-(bdV t 0 (nodeC s a) (nodeT i))),.int .i64 (bdV t 0 (nodeT i) (nodeC s a))] 23 (0,0)) ∧ Ext [] w wr) (fun tv _ _=>cnt - (intOf tv - nxtLo t s a i).toNat)
     case atStart=>exact ⟨0,0,Nat.zero_le _,by simp,rfl,by simp,q3,q10,q17,E⟩
     case round =>
      clear q3 q10 q17 E
      obtain ⟨k,most,hk,rfl,rfl,hn,q3,q10,q17,E⟩:=hrel
      have HN:=Lib.hid hn;clear hn
      have hlo:=Hlo.out
      have hhi:=Hhi.out
      have hsum:=Hsum.out
      have hcn:=Hcnt.out
      go_upto_region 12 with (fail)
      refine wp_region_lit ?_
      refine seq_val rfl rfl (R_move (v:=.int .i64 _) rfl rfl) (by simp only [ls,lz];exact rfl) ?_
      refine seq_val rfl rfl (R_field rfl rfl Try.underlying23 rfl (n:=1) (sz:=1) rfl (by kernel_rfl) (by decide)) (by simp only [ls,lz];exact rfl) ?_
      refine seq_val rfl rfl (R_load rfl rfl Try.underlying3 rfl ((cells_of_block q17 1).trans (getS (get0)))) (by simp only [ls,lz];exact rfl) ?_
      refine seq_val rfl rfl (R_field rfl rfl Try.underlying28 rfl (n:=7) (sz:=1) rfl (by kernel_rfl) (by decide)) (by simp only [ls,lz];exact rfl) ?_
      refine seq_val rfl rfl (R_load rfl rfl Try.underlying3 rfl ((cells_of_block q3 7).trans (getS (getS (getS (getS (getS (getS (getS (get0)))))))))) (by simp only [ls,lz];exact rfl) ?_
      refine seq_val rfl rfl (R_add rfl rfl rfl (by omega) (by omega)) (by simp only [ls,lz];exact rfl) ?_
      refine seq_val rfl rfl (R_leq rfl rfl rfl) (by simp only [ls,lz];exact rfl) ?_
      refine wpList_nil ?_
      rw [hhi]
      by_cases hltk : k < cnt
      ·have hle : nxtLo t s a i + (k : Int) ≤ nxtHi t s a i:=by omega
       have g1 : 0 ≤ nxtLo t s a i + (k : Int):=by omega
       have g2 : nxtLo t s a i + (k : Int) ≤ 250:=by omega
       obtain ⟨tape,htape⟩ : ∃ tape,tape = nxtLo t s a i + (k : Int):=⟨_,rfl⟩
       rw [← htape] at hle g1 g2 HN ⊢
       go_upto_region 14 with (fail)
       refine wp_region_lit ?_
       refine seq_val rfl rfl (R_loadBlk rfl rfl Try.underlying28 rfl (by kernel_rfl) q3) (by simp only [ls,lz];exact rfl) ?_
       refine seq_val rfl rfl (R_move (v:=.int .i64 _) rfl rfl) (by simp only [ls,lz];exact rfl) ?_
       refine seq_val rfl rfl (R_move (v:=.int .i64 _) rfl rfl) (by simp only [ls,lz];exact rfl) ?_
       refine seq_val rfl rfl (R_move (v:=.int .i64 _) rfl rfl) (by simp only [ls,lz];exact rfl) ?_
       refine seq_val rfl rfl (R_move (v:=.int .i64 _) rfl rfl) (by simp only [ls,lz];exact rfl) ?_
       refine seq_val rfl rfl (R_build' rfl (cells:=#[.int .i64 s,.int .i64 a,.int .i64 i,.int .i64 tape]) (by kernel_rfl)) (by simp only [ls,lz];exact rfl) ?_
       refine seq_call rfl rfl (by kernel_rfl) (HRd.out (s,a,i,tape) _ E) fun e w16 hR=>?_
       obtain ⟨rb,rc,hrcap,rfl,hT,e1⟩:=hR
       refine ⟨_,_,rfl,(by simp only [ls,lz];exact rfl),?_⟩
       replace q3:=(e1).keep0 q3
       replace q10:=(e1).keep0 q10
       replace q17:=(e1).keep0 q17
       replace E:=ext_same E (e1)
       have E2 : Ext [] w16 w16:=Ext.refl _ _
       refine seq_val rfl rfl (R_build' rfl (cells:=(tpCells (addR t (s,a,i,tape)) gv (.slice (some ⟨rb,0,none⟩) (addR t (s,a,i,tape)).rd.length rc) lv)) (by kernel_rfl)) (by simp only [ls,lz];exact rfl) ?_
       refine seq_new rfl rfl (R_alloc rfl Try.zeroValue100) (by simp only [ls,lz];exact rfl) fun w17 hw=>?_
       obtain ⟨n19,hn⟩ : ∃ n,n = w16.heap.size:=⟨_,rfl⟩
       rw [← hn]
       have l19 : w.heap.size ≤ n19:=by rw [hn];exact E.size
       have l19_E2 : w16.heap.size ≤ n19:=by rw [hn];exact E2.size
       have m19_3 : n3 < n19:=by rw [hn];exact blk_lt q3
       have m19_10 : n10 < n19:=by rw [hn];exact blk_lt q10
       have m19_17 : n17 < n19:=by rw [hn];exact blk_lt q17
       replace q3:=keep_alloc hw q3
       replace q10:=keep_alloc hw q10
       replace q17:=keep_alloc hw q17
       replace E2:=ext_alloc E2 hw
       have q19:=new_row hw hn
       replace E:=ext_alloc E hw
       clear hw hn
       refine seq_to rfl rfl (R_storeRow rfl rfl rfl (by kernel_rfl) (tp_cells_one ⟨hone.1,rfl,hone.2.2⟩) q19 rfl) fun w18 hw=>?_
       replace q3:=keep_cells hw q3 (by omega)
       replace q10:=keep_cells hw q10 (by omega)
       replace q17:=keep_cells hw q17 (by omega)
       replace q19:=put_row hw q19 rfl
       replace E2:=ext_cells E2 hw (fun h=>by first | exact absurd h (by omega) | simp)
       replace E:=ext_cells E hw (fun h=>by first | exact absurd h (by omega) | simp)
       clear hw
       refine wpList_nil ?_
       clear e1
       go_upto_region 15 with (fail)
       refine wp_region_lit ?_
       refine seq_val rfl rfl (R_loadBlk rfl rfl Try.underlying100 rfl (by kernel_rfl) q19) (by simp only [ls,lz];exact rfl) ?_
       refine seq_call rfl rfl (by kernel_rfl) (HSol.out i tape _ rb rc hlt g1 g2 (hT.ext E2 (by simp))) fun e w19 hR=>?_
       obtain ⟨rfl,e1⟩:=hR
       refine ⟨_,_,rfl,(by simp only [ls,lz];exact rfl),?_⟩
       replace q3:=(e1).keep0 q3
       replace q10:=(e1).keep0 q10
       replace q17:=(e1).keep0 q17
       replace q19:=(e1).keep0 q19
       replace E2:=ext_same E2 (e1)
       replace E:=ext_same E (e1)
       refine seq_val rfl rfl (R_move (v:=.tuple _) rfl rfl) (by simp only [ls,lz];exact rfl) ?_
       refine seq_val rfl rfl (R_extract rfl rfl (get0)) (by simp only [ls,lz];exact rfl) ?_
       refine seq_val rfl rfl (R_extract rfl rfl (getS (get0))) (by simp only [ls,lz];exact rfl) ?_
       refine seq_new rfl rfl (R_alloc rfl Try.zeroValue105) (by simp only [ls,lz];exact rfl) fun w20 hw=>?_
       obtain ⟨n20,hn⟩ : ∃ n,n = w19.heap.size:=⟨_,rfl⟩
       rw [← hn]
       have l20 : w.heap.size ≤ n20:=by rw [hn];exact E.size
       have l20_E2 : w16.heap.size ≤ n20:=by rw [hn];exact E2.size
       have m20_3 : n3 < n20:=by rw [hn];exact blk_lt q3
       have m20_10 : n10 < n20:=by rw [hn];exact blk_lt q10
       have m20_17 : n17 < n20:=by rw [hn];exact blk_lt q17
       have m20_19 : n19 < n20:=by rw [hn];exact blk_lt q19
       replace q3:=keep_alloc hw q3
       replace q10:=keep_alloc hw q10
       replace q17:=keep_alloc hw q17
       replace q19:=keep_alloc hw q19
       replace E2:=ext_alloc E2 hw
       have q20:=new_row hw hn
       replace E:=ext_alloc E hw
       clear hw hn
       refine seq_to rfl rfl (R_storeRow rfl rfl rfl (by rw [matCells_size];kernel_rfl) (by rw [← matList_toArray];exact all_oneCell_toArray (matList_one _)) q20 (by show Try.zeroCells105.size = _;rw [Try.zeroCells105_size,matCells_size])) fun w21 hw=>?_
       replace q3:=keep_cells hw q3 (by omega)
       replace q10:=keep_cells hw q10 (by omega)
       replace q17:=keep_cells hw q17 (by omega)
       replace q19:=keep_cells hw q19 (by omega)
       replace q20:=put_row hw q20 (by show Try.zeroCells105.size = _;rw [Try.zeroCells105_size,matCells_size])
       replace E2:=ext_cells E2 hw (fun h=>by first | exact absurd h (by omega) | simp)
       replace E:=ext_cells E hw (fun h=>by first | exact absurd h (by omega) | simp)
       clear hw
       refine seq_val rfl rfl (R_assign (v:=.bool _) rfl rfl) (by simp only [ls,lz];exact rfl) ?_
       refine wpList_nil ?_
       clear e1 hT
       have hk1 : cnt - k = (cnt - (k + 1)) + 1:=by omega
       have hap2:=fun W=>apart_n (bdV (addR t (s,a,i,tape)) 0) 0 (nodeC s a) (by omega) hc (HBig.out i tape _ _ hlt g1 g2 hc (by omega)) W
       have hnm2:=num_n (addR t (s,a,i,tape)) (nodeC s a) (HBig.out i tape _ _ hlt g1 g2 hc (by omega)) (HBig.out i tape _ _ hlt g1 g2 (by omega) hc)
       have HT:=Lib.hid htape
       clear hsum hcn hlo hhi htape
       cases hb : bdB (addR t (s,a,i,tape)) 0
       ·have H1 : Hid (nxt1 t s a i left (cnt - (k + 1)) (nxtLo t s a i + ((k + 1 : Nat) : Int)) most = nxt1 t s a i left cnt (nxtLo t s a i) 0):=by
         show _ = _
         rw [← HN.out,hk1]
         simp only [nxt1,hb,Bool.false_eq_true,if_false]
         rw [HT.out,show nxtLo t s a i + ((k + 1 : Nat) : Int) = nxtLo t s a i + (k : Int) + 1 by omega]
        clear hap2 hnm2 hb
        go_wp2
        go_roundw
        case rel=>exact ⟨k + 1,most,by omega,by rw [HT.out,show nxtLo t s a i + ((k + 1 : Nat) : Int) = nxtLo t s a i + (k : Int) + 1 by omega],rfl,H1.out,q3,q10,q17,E⟩
        case measure=>simp [intOf,HT.out];omega
       ·go_upto_region 17 with (fail)
        refine wp_region_lit ?_
        refine seq_val rfl rfl (R_move (v:=.int .i64 _) rfl rfl) (by simp only [ls,lz];exact rfl) ?_
        refine seq_val rfl rfl (R_loadBlk rfl rfl Try.underlying105 rfl (by rw [matCells_size];kernel_rfl) q20) (by simp only [ls,lz];exact rfl) ?_
        refine seq_val rfl rfl (R_move (v:=.int .i64 _) rfl rfl) (by simp only [ls,lz];exact rfl) ?_
        refine seq_call rfl rfl (by kernel_rfl) (hap2 _) fun e w22 hR=>?_
        obtain ⟨rfl,e1⟩:=hR
        refine ⟨_,_,rfl,(by simp only [ls,lz];exact rfl),?_⟩
        replace q3:=(e1).keep0 q3
        replace q10:=(e1).keep0 q10
        replace q17:=(e1).keep0 q17
        replace q19:=(e1).keep0 q19
        replace q20:=(e1).keep0 q20
        replace E2:=ext_same E2 (e1)
        replace E:=ext_same E (e1)
        refine seq_call rfl rfl (by kernel_rfl) (hnm2 _) fun e w23 hR=>?_
        obtain ⟨rfl,e2⟩:=hR
        refine ⟨_,_,rfl,(by simp only [ls,lz];exact rfl),?_⟩
        replace q3:=(e2).keep0 q3
        replace q10:=(e2).keep0 q10
        replace q17:=(e2).keep0 q17
        replace q19:=(e2).keep0 q19
        replace q20:=(e2).keep0 q20
        replace E2:=ext_same E2 (e2)
        replace E:=ext_same E (e2)
        refine seq_val rfl rfl (R_max rfl rfl rfl rfl) (by simp only [ls,lz];exact rfl) ?_
        refine seq_val rfl rfl (R_assign (v:=.int .i64 _) rfl rfl) (by simp only [ls,lz];exact rfl) ?_
        refine wpList_nil ?_
        clear e1 e2 hap2 hnm2
        obtain ⟨m2,hm2⟩ : ∃ m2,m2 = max most (numB (addR t (s,a,i,tape)) (nodeC s a)):=⟨_,rfl⟩
        rw [← hm2]
        have H0 : Hid (nxt1 t s a i left cnt (nxtLo t s a i) 0 = if left ≤ m2 then none else nxt1 t s a i left (cnt - (k + 1)) (tape + 1) m2):=by
         show _ = _
         rw [← HN.out,hk1]
         simp only [nxt1,hb,if_true,← hm2]
        clear hm2 hb
        by_cases hge : left ≤ m2
        ·have H1 : Hid (nxtTo t s a (i + 1) = nxtTo t s a i):=by
          show _ = _
          rw [HR.out,H0.out,if_pos hge]
          rfl
         clear H0
         go_wp2
         go_roundw
         case rel=>exact ⟨i + 1,by omega,by go_num,by rw [H1.out,hbst],by rw [H1.out,← HL.out],q3,q10,E⟩
         case measure=>simp [intOf];omega
        ·have H1 : Hid (nxt1 t s a i left (cnt - (k + 1)) (nxtLo t s a i + ((k + 1 : Nat) : Int)) m2 = nxt1 t s a i left cnt (nxtLo t s a i) 0):=by
          show _ = _
          rw [H0.out,if_neg hge,HT.out,show nxtLo t s a i + ((k + 1 : Nat) : Int) = nxtLo t s a i + (k : Int) + 1 by omega]
         clear H0
         go_wp2
         go_roundw
         case rel=>exact ⟨k + 1,m2,by omega,by rw [HT.out,show nxtLo t s a i + ((k + 1 : Nat) : Int) = nxtLo t s a i + (k : Int) + 1 by omega],rfl,H1.out,q3,q10,q17,E⟩
         case measure=>simp [intOf,HT.out];omega
      ·have hle : ¬ nxtLo t s a i + (k : Int) ≤ nxtHi t s a i:=by omega
       have H1 : Hid (nxtTo t s a (i + 1) = ((i : Int),most)):=by
        show _ = _
        rw [HR.out,← HN.out,show cnt - k = 0 by omega]
        rfl
       clear hsum hcn hlo hhi
       go_wp2
       go_roundw
       case rel=>exact ⟨i + 1,by omega,by go_num,by rw [H1.out],by rw [H1.out],q3,q10,E⟩
       case measure=>simp [intOf];omega
   ·have hT : (i : Int) = t.T:=by omega
    have hTi : t.T.toNat = i:=by omega
    rw [hTi] at HE
    have HV : Hid (nextV t s a = if nextE t s a = 0 then nxtTo t s a i else (0,0)):=by show _ = _;rw [nextV,hTi]
    obtain ⟨⟨bst,left⟩,hbl⟩ : ∃ bl,bl = nxtTo t s a i:=⟨_,rfl⟩
    rw [← hbl] at HE HV ⊢
    clear hbl hTi
    by_cases hb : bst < 0
    ·have h1 : nextE t s a = 11:=by rw [HE.out,if_pos hb]
     have h2 : nextV t s a = (0,0):=by rw [HV.out,h1];rfl
     clear HE HV
     have H1:=Lib.hid h1
     have H2:=Lib.hid h2
     clear h1 h2
     go_wp2
     refine jump_ret ?_
     refine bodyPost_ret (v:=.tuple #[.int .i64 0,.int .i64 0,.int .i64 11]) (by simp [results,Try.results38]) rfl ⟨by rw [H1.out,H2.out],E⟩
    ·have h1 : nextE t s a = 0:=by rw [HE.out,if_neg hb]
     have h2 : nextV t s a = (bst,left):=by rw [HV.out,h1];rfl
     clear HE HV
     have H1:=Lib.hid h1
     have H2:=Lib.hid h2
     clear h1 h2
     go_wp2
     refine jump_ret ?_
     refine bodyPost_ret (v:=.tuple #[.int .i64 bst,.int .i64 left,.int .i64 0]) (by simp [results,Try.results38]) rfl ⟨by rw [H1.out,H2.out],E⟩
 ·have h1 : nextE t s a = measE t s a:=by rw [nextE,if_pos (by simpa using h)]
  have h2 : nextV t s a = (0,0):=by rw [nextV,h1,if_neg h]
  rw [h1,h2]
  obtain ⟨ce,hce⟩ : ∃ ce,ce = measE t s a:=⟨_,rfl⟩
  rw [← hce] at h HK ⊢
  clear hce h1 h2 ht0 ht
  have hb : (ce != 0) = true:=by simpa using h
  generalize solvedM t (sel3 [s] [a] []) = m at HK
  generalize openV t (sel3 [s] [a] []) gv rv lv = X at HK hVs hVo
  subst hrv
  unfold tpV at HK ⊢
  go_enter Try.func38,Try.ntmps38
  go_upto_region 0 with (fail)
  refine wp_region_lit ?_
  refine seq_new rfl rfl (R_box (v:=.agg _) rfl rfl) (by simp only [ls,lz];exact rfl) fun w1 hw=>?_
  obtain ⟨n3,hn⟩ : ∃ n,n = w.heap.size:=⟨_,rfl⟩
  rw [← hn]
  have l3 : w.heap.size ≤ n3:=by rw [hn];exact E.size
  have q3:=new_row hw hn
  replace E:=ext_alloc E hw
  clear hw hn
  refine seq_val rfl rfl (R_assign (v:=.int .i64 _) rfl rfl) (by simp only [ls,lz];exact rfl) ?_
  refine seq_val rfl rfl (R_assign (v:=.int .i64 _) rfl rfl) (by simp only [ls,lz];exact rfl) ?_
  refine seq_val rfl rfl (R_assign (v:=.int .i64 _) rfl rfl) (by simp only [ls,lz];exact rfl) ?_
  refine wpList_nil ?_
  go_upto_region 1 with (fail)
  refine wp_scope_jumps 0 (fun _ _=>False) (fun _ _=>0) (by exact rfl) ?_ (fun _ _ h=>h.elim)
  go_upto_region 1 with (fail)
  refine wp_region_lit ?_
  refine seq_val rfl rfl (R_loadBlk rfl rfl Try.underlying28 rfl (by kernel_rfl) q3) (by simp only [ls,lz];exact rfl) ?_
  refine seq_val rfl rfl (R_move (v:=.int .i64 _) rfl rfl) (by simp only [ls,lz];exact rfl) ?_
  refine seq_new rfl rfl (R_buildSlice rfl Try.underlying29 (size:=1) (by kernel_rfl) (by decide) (by decide) Try.zeroValue3 (cells:=#[.int .i64 s]) (by kernel_rfl)) (by simp only [ls,lz];exact rfl) fun w2 hw=>?_
  obtain ⟨n25,hn⟩ : ∃ n,n = w1.heap.size:=⟨_,rfl⟩
  rw [← hn]
  have l25 : w.heap.size ≤ n25:=by rw [hn];exact E.size
  have m25_3 : n3 < n25:=by rw [hn];exact blk_lt q3
  replace q3:=keep_alloc hw q3
  have q25:=new_block hw hn
  replace E:=ext_alloc E hw
  clear hw hn
  refine seq_val rfl rfl (R_move (v:=.int .i64 _) rfl rfl) (by simp only [ls,lz];exact rfl) ?_
  refine seq_new rfl rfl (R_buildSlice rfl Try.underlying29 (size:=1) (by kernel_rfl) (by decide) (by decide) Try.zeroValue3 (cells:=#[.int .i64 a]) (by kernel_rfl)) (by simp only [ls,lz];exact rfl) fun w3 hw=>?_
  obtain ⟨n27,hn⟩ : ∃ n,n = w2.heap.size:=⟨_,rfl⟩
  rw [← hn]
  have l27 : w.heap.size ≤ n27:=by rw [hn];exact E.size
  have m27_3 : n3 < n27:=by rw [hn];exact blk_lt q3
  have m27_25 : n25 < n27:=by rw [hn];exact blk_lt q25
  replace q3:=keep_alloc hw q3
  replace q25:=keep_alloc hw q25
  have q27:=new_block hw hn
  replace E:=ext_alloc E hw
  clear hw hn
  refine seq_call rfl rfl (by kernel_rfl) (HK.out _ n25 n27 E q25 q27) fun e w4 hR=>?_
  obtain ⟨rfl,e1⟩:=hR
  refine ⟨_,_,rfl,(by simp only [ls,lz];exact rfl),?_⟩
  replace q3:=(e1).keep0 q3
  replace q25:=(e1).keep0 q25
  replace q27:=(e1).keep0 q27
  replace E:=ext_same E (e1)
  refine seq_val rfl rfl (R_move (v:=.tuple _) rfl rfl) (by simp only [ls,lz];exact rfl) ?_
  refine seq_val rfl rfl (R_extract rfl rfl (get0)) (by simp only [ls,lz];exact rfl) ?_
  refine seq_val rfl rfl (R_extract rfl rfl (getS (get0))) (by simp only [ls,lz];exact rfl) ?_
  refine seq_val rfl rfl (R_extract rfl rfl (getS (getS (get0)))) (by simp only [ls,lz];exact rfl) ?_
  refine seq_new rfl rfl (R_alloc rfl Try.zeroValue100) (by simp only [ls,lz];exact rfl) fun w5 hw=>?_
  obtain ⟨n9,hn⟩ : ∃ n,n = w4.heap.size:=⟨_,rfl⟩
  rw [← hn]
  have l9 : w.heap.size ≤ n9:=by rw [hn];exact E.size
  have m9_3 : n3 < n9:=by rw [hn];exact blk_lt q3
  have m9_25 : n25 < n9:=by rw [hn];exact blk_lt q25
  have m9_27 : n27 < n9:=by rw [hn];exact blk_lt q27
  replace q3:=keep_alloc hw q3
  replace q25:=keep_alloc hw q25
  replace q27:=keep_alloc hw q27
  have q9:=new_row hw hn
  replace E:=ext_alloc E hw
  clear hw hn
  refine seq_new rfl rfl (R_alloc rfl Try.zeroValue105) (by simp only [ls,lz];exact rfl) fun w6 hw=>?_
  obtain ⟨n10,hn⟩ : ∃ n,n = w5.heap.size:=⟨_,rfl⟩
  rw [← hn]
  have l10 : w.heap.size ≤ n10:=by rw [hn];exact E.size
  have m10_3 : n3 < n10:=by rw [hn];exact blk_lt q3
  have m10_25 : n25 < n10:=by rw [hn];exact blk_lt q25
  have m10_27 : n27 < n10:=by rw [hn];exact blk_lt q27
  have m10_9 : n9 < n10:=by rw [hn];exact blk_lt q9
  replace q3:=keep_alloc hw q3
  replace q25:=keep_alloc hw q25
  replace q27:=keep_alloc hw q27
  replace q9:=keep_alloc hw q9
  have q10:=new_row hw hn
  replace E:=ext_alloc E hw
  clear hw hn
  refine seq_to rfl rfl (R_storeRow rfl rfl rfl (by rw [hVs];kernel_rfl) hVo q9 (by rw [hVs];rfl)) fun w7 hw=>?_
  replace q3:=keep_cells hw q3 (by omega)
  replace q25:=keep_cells hw q25 (by omega)
  replace q27:=keep_cells hw q27 (by omega)
  replace q9:=put_row hw q9 (by rw [hVs];rfl)
  replace q10:=keep_cells hw q10 (by omega)
  replace E:=ext_cells E hw (fun h=>by first | exact absurd h (by omega) | simp)
  clear hw
  refine seq_to rfl rfl (R_storeRow rfl rfl rfl (by rw [matCells_size];kernel_rfl) (by rw [← matList_toArray];exact all_oneCell_toArray (matList_one _)) q10 (by show Try.zeroCells105.size = _;rw [Try.zeroCells105_size,matCells_size])) fun w8 hw=>?_
  replace q3:=keep_cells hw q3 (by omega)
  replace q25:=keep_cells hw q25 (by omega)
  replace q27:=keep_cells hw q27 (by omega)
  replace q9:=keep_cells hw q9 (by omega)
  replace q10:=put_row hw q10 (by show Try.zeroCells105.size = _;rw [Try.zeroCells105_size,matCells_size])
  replace E:=ext_cells E hw (fun h=>by first | exact absurd h (by omega) | simp)
  clear hw
  refine seq_val rfl rfl (R_assign (v:=.int .i64 _) rfl rfl) (by simp only [ls,lz];exact rfl) ?_
  refine wpList_nil ?_
  clear e1
  go_wp2
  refine jump_ret ?_
  refine bodyPost_ret (v:=.tuple #[.int .i64 0,.int .i64 0,.int .i64 ce]) (by simp [results,Try.results38]) rfl ⟨rfl,E⟩
theorem own_ne_type {w : World} {base size n k : Nat} {e T : TypeId} {v : Value} {xs : List Value} {cs : Array Value} {fz : Nat × Nat} (ho : w.ownsRow base e size v n xs) (h : w.heap[k]? = some (.cells cs T fz)) (hT : T ≠ e) : some k ≠ v.ownBlock:=by
 intro hk
 rcases ho.2 with ⟨hv,-⟩ | ⟨g,cap,cur,hv,-,hg,-⟩
 ·rw [hv] at hk;cases hk
 ·rw [hv] at hk
  have hkg : k = g:=by cases hk;rfl
  subst hkg
  rw [hg] at h
  cases h
  exact hT rfl
theorem lots_lt {w0 w : World} {b k : Nat} {nv : Value} (h : LotsOk w0 w b k nv) : b < w.heap.size:=by
 obtain ⟨-,-,-,d,st,h,-⟩:=h
 exact blk_lt h
theorem keep_type {w w' : World} {base n size b : Nat} {e T : TypeId} {v : Value} {xs : List Value} {cs : Array Value} {fz : Nat × Nat} (ho : w.ownsRow base e size v n xs) (hg : w.grownBy w' v.ownBlock) (q : w.heap[b]? = some (.cells cs T fz)) (hT : T ≠ e) : w'.heap[b]? = some (.cells cs T fz):=
 (hg.block b (blk_lt q) (own_ne_type ho q hT)).trans q
theorem owns_other {w w' : World} {base n size base2 n2 size2 : Nat} {e e2 : TypeId} {v v2 : Value} {xs xs2 : List Value} (h2 : w.ownsRow base2 e2 size2 v2 n2 xs2) (ho : w.ownsRow base e size v n xs) (hg : w.grownBy w' v.ownBlock) (hT : e2 ≠ e) : w'.ownsRow base2 e2 size2 v2 n2 xs2:=by
 refine ⟨h2.1,?_⟩
 rcases h2.2 with h | ⟨g,cap,cur,h1,hb,h3,h4⟩
 ·exact .inl h
 ·exact .inr ⟨g,cap,cur,h1,hb,keep_type ho hg h3 hT,h4⟩
theorem ext_appendX {X : List Nat} {w0 w w' : World} {base : Nat} {e : TypeId} {size : Nat} {v : Value} {n : Nat} {xs : List Value} (E : Ext X w0 w) (h : w.ownsRow base e size v n xs) (hg : w.grownBy w' v.ownBlock) (hb : w0.heap.size ≤ base) : Ext X w0 w':=
 ⟨hg.os.trans E.os,hg.tape.trans E.tape,hg.output.trans E.output,Nat.le_trans E.size hg.size,fun k hk hx=>(hg.block k (Nat.lt_of_lt_of_le hk E.size) (fun e=>by have:=h.lt k e.symm;omega)).trans (E.block k hk hx)⟩
theorem lots_append {w0 w w' : World} {b k : Nat} {nv : Value} {base : Nat} {e : TypeId} {size : Nat} {v : Value} {n : Nat} {xs : List Value} (HL : LotsOk w0 w b k nv) (h : w.ownsRow base e size v n xs) (hg : w.grownBy w' v.ownBlock) (hb : w0.heap.size ≤ base) (hT : 98 ≠ e) : LotsOk w0 w' b k nv:=by
 obtain ⟨h1,h2,h3,d,st,h4,h5⟩:=HL
 exact ⟨h1,h2,ext_appendX h3 h hg hb,d,st,keep_type h hg h4 hT,h5⟩
theorem own_lt {w : World} {base n size k : Nat} {e : TypeId} {v : Value} {xs : List Value} (ho : w.ownsRow base e size v n xs) (hk : some k = v.ownBlock) : k < w.heap.size:=by
 rcases ho.2 with ⟨hv,-⟩ | ⟨g,cap,cur,hv,-,hg,-⟩
 ·rw [hv] at hk;cases hk
 ·rw [hv] at hk
  cases hk
  exact blk_lt hg
theorem own_ne_new {w : World} {base n size k : Nat} {e : TypeId} {v : Value} {xs : List Value} (ho : w.ownsRow base e size v n xs) (hk : k = w.heap.size) : some k ≠ v.ownBlock:=fun h=>by
 have:=own_lt ho h
 omega
theorem owns_keepX {w w' : World} {base : Nat} {e : TypeId} {size : Nat} {v : Value} {n : Nat} {xs : List Value} (h : w.ownsRow base e size v n xs) (k : ∀ (g : Nat) (o : Obj),some g = v.ownBlock → w.heap[g]? = some o → w'.heap[g]? = some o) : w'.ownsRow base e size v n xs:=by
 refine ⟨h.1,?_⟩
 rcases h.2 with h | ⟨g,cap,cur,h1,h2,h3,h4⟩
 ·exact .inl h
 ·exact .inr ⟨g,cap,cur,h1,h2,k g _ (by rw [h1];rfl) h3,h4⟩
theorem owns_cellsX {w w2 : World} {c o : Nat} {l : List Value} {base : Nat} {e : TypeId} {size : Nat} {v : Value} {n : Nat} {xs : List Value} (hw : w2 = w.setCells c o l) (h : w.ownsRow base e size v n xs) (hb : some c ≠ v.ownBlock) : w2.ownsRow base e size v n xs:=
 owns_keepX h fun g x hg ho=>keep_cells hw ho (fun e=>hb (by rw [← e];exact hg))
theorem owns_cellX {w w2 : World} {c o : Nat} {u : Value} {base : Nat} {e : TypeId} {size : Nat} {v : Value} {n : Nat} {xs : List Value} (hw : w2 = w.setCell ⟨c,o,none⟩ u) (h : w.ownsRow base e size v n xs) (hb : some c ≠ v.ownBlock) : w2.ownsRow base e size v n xs:=
 owns_keepX h fun g x hg ho=>keep_cell hw ho (fun e=>hb (by rw [← e];exact hg))
theorem put_mid2 {w w2 : World} {b o : Nat} {T : TypeId} {cs cs' : Array Value} {x y : Value} (e : w2 = w.setCells b o [x,y]) (h : w.heap[b]? = some (.cells cs T (0,0))) (hc : (cs.setIfInBounds o x).setIfInBounds (o + 1) y = cs') : w2.heap[b]? = some (.cells cs' T (0,0)):=by
 subst hc
 have h1:=put_cell (w2:=w.setCell ⟨b,o,none⟩ x) rfl h rfl
 have h2:=put_cell (w2:=(w.setCell ⟨b,o,none⟩ x).setCell ⟨b,o + 1,none⟩ y) rfl h1 rfl
 rw [e]
 exact h2
theorem there_mid {w : World} {b o n : Nat} {cs : Array Value} {T : TypeId} (H : w.heap[b]? = some (.cells cs T (0,0))) (h : o + n ≤ cs.size) : w.there b o n:=fun j hj=>by
 rw [cells_of_block H,free_of_block H]
 have : o + j < cs.size:=by omega
 simp [this]
section
variable {P : Program} {ρ : Operand → Value} {o : Oper} {w : World}
theorem R_storeMid {x y : Operand} {t : TypeId} {b off : Nat} {cs : Array Value} (ho : o.op = .store t x y) (hx : ρ x = .pointer (some ⟨b,off,none⟩)) (hy : ρ y = .agg cs) (hi : (P.info? t).map (·.size) = some cs.size) (h1 : cs.all (·.oneCell') = true) {old : Array Value} {T : TypeId} (H : w.heap[b]? = some (.cells old T (0,0))) (hs : off + cs.size ≤ old.size) :
  (execOp ρ o).run P w = .ok .skip (w.setCells b off cs.toList):=by
 unfold execOp
 simp only [ho,hx,hy,Instr.storeAt,Instr.sureAddr,Sem.run_bind,Sem.run_pure,Result.andThen_ok,run_storeVar_mid w b off t cs (there_mid H hs) hi h1]
end
section
variable {P : Program} {ops : Array Oper} {Q : Exit → Act → World → Prop} {md : Region.Mode} {S : World → Prop} {last : Nat}
theorem append_own_run {o : Oper} {l : List Value} {ds : List Deferred} {w : World} {s x : Operand} {t : TypeId}
  (ho : o.op = .call { callee:=.builtin .append,args:=#[s,x],argTypes:=#[t,t] })
  (base : Nat) {e : TypeId} {size bytes : Nat} (ht : P.underlying t = some (.slice e)) (hi : (P.info? e).map (fun i=>(i.size,i.bytes,i.zero.map (·.cells.size))) = some (size,bytes,some size)) (hsz : 0 < size)
  {v : Value} {n : Nat} {xs : List Value} (hs : (Act.mk l.toArray ds).eval s = v) (hown : w.ownsRow base e size v n xs)
  {g c : Nat} {T : TypeId} {fz : Nat × Nat} {news : List Value} (hx : (Act.mk l.toArray ds).eval x = .slice (some ⟨g,0,none⟩) 1 c) (hg : w.heap[g]? = some (.cells news.toArray T fz)) (hl : news.length = size) (h1 : ∀ u ∈ news,u.oneCell' = true)
  (hn : n ≤ 1000000) (hbytes : (n + 1) * bytes ≤ 140737488355328) (hbase : base ≤ w.heap.size) :
  ∃ v' w',(execOp (Act.eval ⟨l.toArray,ds⟩) o).run P w = .ok (.value v') w' ∧ w'.ownsRow base e size v' (n + 1) (xs ++ news) ∧ w.grownBy w' v.ownBlock:=by
 cases hq : P.info? e with
 | none=>simp [hq] at hi
 | some i =>
  simp only [hq,Option.map_some,Option.some.injEq,Prod.mk.injEq,Option.map_eq_some_iff] at hi
  obtain ⟨hi1,hi2,z,hz,hz2⟩:=hi
  obtain ⟨v',w',hr,h2,h3,-⟩:=run_append_own (P:=P) w base t o.type e i z size bytes ht hq hz hi1 hi2 hz2 hsz v n xs hown ⟨g,0,none⟩ 1 c news (by omega) (fun j u hu=>by
   rw [Addr.add_lit,Nat.zero_add,cells_of_block hg];simpa using hu) h1 (by simp only [maxLen];omega) hbytes hbase
  refine ⟨v',w',?_,h2,h3⟩
  unfold execOp
  simp only [ho,resolve,invoke,builtin,Sem.run_bind,Sem.run_pure,Result.andThen_ok,List.map_toArray,List.map_cons,List.map_nil,hs,hx,hr]
theorem anyU_append {i d : Nat} {o : Oper} {fuel : Nat} {listed : Array Bool} {l : List Value} {ds : List Deferred} {w : World} (hio : ops[i]? = some o) (hr : Region.ready md ops listed = [i])
  (hd : o.dst = some d) (hw : Region.wanted o (yielded ops l.toArray) = true) {s x : Operand} {t : TypeId}
  (ho : o.op = .call { callee:=.builtin .append,args:=#[s,x],argTypes:=#[t,t] })
  (base : Nat) {e : TypeId} {size bytes : Nat} (ht : P.underlying t = some (.slice e)) (hi : (P.info? e).map (fun i=>(i.size,i.bytes,i.zero.map (·.cells.size))) = some (size,bytes,some size)) (hsz : 0 < size)
  {v : Value} {n : Nat} {xs : List Value} (hs : (Act.mk l.toArray ds).eval s = v) (hown : w.ownsRow base e size v n xs)
  {g c : Nat} {T : TypeId} {fz : Nat × Nat} {news : List Value} (hx : (Act.mk l.toArray ds).eval x = .slice (some ⟨g,0,none⟩) 1 c) (hg : w.heap[g]? = some (.cells news.toArray T fz)) (hl : news.length = size) (h1 : ∀ u ∈ news,u.oneCell' = true)
  (hn : n ≤ 1000000) (hbytes : (n + 1) * bytes ≤ 140737488355328) (hbase : base ≤ w.heap.size)
  (h : ∀ v' w',w'.ownsRow base e size v' (n + 1) (xs ++ news) → w.grownBy w' v.ownBlock → ∃ l',l.set d v' = l' ∧ S w' ∧ wpAnyU P md ops Q S last fuel (listed.setIfInBounds i true) ⟨l'.toArray,ds⟩ w') : wpAnyU P md ops Q S last (fuel + 1) listed ⟨l.toArray,ds⟩ w:=by
 obtain ⟨v',w',hrun,h2,h3⟩:=append_own_run (l:=l) (ds:=ds) ho base ht hi hsz hs hown hx hg hl h1 hn hbytes hbase
 obtain ⟨l',hl',h4,h5⟩:=h v' w' h2 h3
 exact anyU_new hio hr hd hw hrun hl' fun W2 hW2=>by subst hW2;exact ⟨fun _=>h4,h5⟩
theorem opU_append {i d : Nat} {o : Oper} {l : List Value} {ds : List Deferred} {w : World} {K : Act → World → Prop} (hio : ops[i]? = some o)
  (hd : o.dst = some d) (hw : Region.wanted o (yielded ops l.toArray) = true) {s x : Operand} {t : TypeId}
  (ho : o.op = .call { callee:=.builtin .append,args:=#[s,x],argTypes:=#[t,t] })
  (base : Nat) {e : TypeId} {size bytes : Nat} (ht : P.underlying t = some (.slice e)) (hi : (P.info? e).map (fun i=>(i.size,i.bytes,i.zero.map (·.cells.size))) = some (size,bytes,some size)) (hsz : 0 < size)
  {v : Value} {n : Nat} {xs : List Value} (hs : (Act.mk l.toArray ds).eval s = v) (hown : w.ownsRow base e size v n xs)
  {g c : Nat} {T : TypeId} {fz : Nat × Nat} {news : List Value} (hx : (Act.mk l.toArray ds).eval x = .slice (some ⟨g,0,none⟩) 1 c) (hg : w.heap[g]? = some (.cells news.toArray T fz)) (hl : news.length = size) (h1 : ∀ u ∈ news,u.oneCell' = true)
  (hn : n ≤ 1000000) (hbytes : (n + 1) * bytes ≤ 140737488355328) (hbase : base ≤ w.heap.size)
  (h : ∀ v' w',w'.ownsRow base e size v' (n + 1) (xs ++ news) → w.grownBy w' v.ownBlock → ∃ l',l.set d v' = l' ∧ K ⟨l'.toArray,ds⟩ w') : wpOp P ops Q i K ⟨l.toArray,ds⟩ w:=by
 obtain ⟨v',w',hrun,h2,h3⟩:=append_own_run (l:=l) (ds:=ds) ho base ht hi hsz hs hown hx hg hl h1 hn hbytes hbase
 obtain ⟨l',hl',h5⟩:=h v' w' h2 h3
 exact opU_new hio hd hw hrun hl' fun W2 hW2=>by subst hW2;exact h5
end
section
variable {P : Program} {ρ : Operand → Value} {o : Oper} {w : World}
theorem R_gtrB {x y : Operand} {t t' : TypeId} {k : IntKind} {n m : Int} {b : Bool} (ho : o.op = .binOp .gtr t x y t') (hx : ρ x = .int k n) (hy : ρ y = .int k m) (hb : decide (m < n) = b) : (execOp ρ o).run P w = .ok (.value (.bool b)) w:=hb ▸ R_gtr ho hx hy
theorem R_eqlB {x y : Operand} {t t' : TypeId} {k : IntKind} {n m : Int} {b : Bool} (ho : o.op = .binOp .eql t x y t') (hx : ρ x = .int k n) (hy : ρ y = .int k m) (hb : decide (n = m) = b) : (execOp ρ o).run P w = .ok (.value (.bool b)) w:=by
 rw [R_eql ho hx hy,← hb]
 congr 3
theorem R_neqB {x y : Operand} {t t' : TypeId} {k : IntKind} {n m : Int} {b : Bool} (ho : o.op = .binOp .neq t x y t') (hx : ρ x = .int k n) (hy : ρ y = .int k m) (hb : decide (n = m) = !b) : (execOp ρ o).run P w = .ok (.value (.bool b)) w:=by
 rw [R_neq ho hx hy]
 have : (n != m) = b:=by
  rw [show (n != m) = !decide (n = m) from rfl,hb,Bool.not_not]
 rw [this]
end
theorem eqFields_cons {P : Program} {w : World} {d : Nat} {xs ys : Array Value} {f : Go.Field} {fs : List Go.Field} {x y : Value} {r : Bool} (hn : (f.name != "_") = true) (hx : (part f.type xs f.offset).run P w = .ok x w) (hy : (part f.type ys f.offset).run P w = .ok y w) (he : (Op.equalIn d f.type x y).run P w = .ok r w) {q : Bool} (ht : (Op.eqFields d xs ys fs).run P w = .ok q w) :
  (Op.eqFields d xs ys (f :: fs)).run P w = .ok (r && q) w:=by
 simp only [Op.eqFields]
 rw [if_pos (by simpa using hn)]
 simp only [Sem.run_bind,hx,hy,he,Result.andThen_ok]
 cases r
 ·simp
 ·simpa using ht
theorem part_int {w : World} {xs : Array Value} {o : Nat} {v : Value} (h : xs[o]? = some v) : (part 3 xs o).run Try.prog w = .ok v w:=by
 simp only [part,isAgg,Sem.run_bind,run_underlying Try.underlying3,Result.andThen_ok,Sem.run_pure]
 simp [h]
theorem eqFields_int {w : World} {d : Nat} {xs ys : Array Value} {f : Go.Field} {fs : List Go.Field} {o : Nat} {a b : Int} (hf : (f.name != "_", f.type, f.offset) = (true, 3, o)) (hx : xs[o]? = some (.int .i64 a)) (hy : ys[o]? = some (.int .i64 b)) {q : Bool} (ht : (Op.eqFields (d + 1) xs ys fs).run Try.prog w = .ok q w) :
  (Op.eqFields (d + 1) xs ys (f :: fs)).run Try.prog w = .ok ((a == b) && q) w:=by
 simp only [Prod.mk.injEq] at hf
 obtain ⟨h1,h2,h3⟩:=hf
 exact eqFields_cons h1 (by rw [h2,h3];exact part_int hx) (by rw [h2,h3];exact part_int hy) (by rw [h2];exact run_equalIn_int w _ _ .i64 .i64 _ _ Try.underlying3) ht
section
variable {ρ : Operand → Value} {o : Oper} {w : World}
theorem equal_bt (d : Nat) (a b c e : Int) : (Op.equalIn (d + 2) 23 (.agg #[.int .i64 a,.int .i64 b]) (.agg #[.int .i64 c,.int .i64 e])).run Try.prog w = .ok (decide (a = c ∧ b = e)) w:=by
 rw [run_equalIn_agg (P:=Try.prog) w (d + 1) 23 _ _ (by kernel_rfl) (by kernel_rfl)]
 have hf : (Try.prog.fieldsOf 23).toList.map (fun f => (f.name != "_", f.type, f.offset)) = [(true, 3, 0), (true, 3, 1)] := by kernel_rfl
 generalize (Try.prog.fieldsOf 23).toList = fs at hf
 obtain ⟨f,fs0,rfl,e0,hf0⟩:=List.map_eq_cons_iff.1 hf
 obtain ⟨g,fs1,rfl,e1,hf1⟩:=List.map_eq_cons_iff.1 hf0
 obtain rfl:=List.map_eq_nil_iff.1 hf1
 refine (eqFields_int e0 (a:=a) (b:=c) rfl rfl (eqFields_int e1 (a:=b) (b:=e) rfl rfl (q:=true) (by simp [Op.eqFields]))).trans ?_
 exact congrArg (fun b=>Result.ok b w) (by rw [Bool.eq_iff_iff];simp)
theorem equal_rd (d : Nat) (a b c e a' b' c' e' : Int) : (Op.equalIn (d + 2) 66 (.agg #[.int .i64 a,.int .i64 b,.int .i64 c,.int .i64 e]) (.agg #[.int .i64 a',.int .i64 b',.int .i64 c',.int .i64 e'])).run Try.prog w = .ok (decide ((a,b,c,e) = (a',b',c',e'))) w:=by
 rw [run_equalIn_agg (P:=Try.prog) w (d + 1) 66 _ _ (by kernel_rfl) (by kernel_rfl)]
 have hf : (Try.prog.fieldsOf 66).toList.map (fun f => (f.name != "_", f.type, f.offset)) = [(true, 3, 0), (true, 3, 1), (true, 3, 2), (true, 3, 3)] := by kernel_rfl
 generalize (Try.prog.fieldsOf 66).toList = fs at hf
 obtain ⟨f,fs0,rfl,e0,hf0⟩:=List.map_eq_cons_iff.1 hf
 obtain ⟨g,fs1,rfl,e1,hf1⟩:=List.map_eq_cons_iff.1 hf0
 obtain ⟨h,fs2,rfl,e2,hf2⟩:=List.map_eq_cons_iff.1 hf1
 obtain ⟨i,fs3,rfl,e3,hf3⟩:=List.map_eq_cons_iff.1 hf2
 obtain rfl:=List.map_eq_nil_iff.1 hf3
 refine (eqFields_int e0 (a:=a) (b:=a') rfl rfl (eqFields_int e1 (a:=b) (b:=b') rfl rfl (eqFields_int e2 (a:=c) (b:=c') rfl rfl (eqFields_int e3 (a:=e) (b:=e') rfl rfl (q:=true) (by simp [Op.eqFields]))))).trans ?_
 exact congrArg (fun b=>Result.ok b w) (by rw [Bool.eq_iff_iff];simp)
theorem equal_lk (d : Nat) (a b c e l h a' b' c' e' l' h' : Int) : (Op.equalIn (d + 3) 75 (.agg #[.int .i64 a,.int .i64 b,.int .i64 c,.int .i64 e,.int .i64 l,.int .i64 h]) (.agg #[.int .i64 a',.int .i64 b',.int .i64 c',.int .i64 e',.int .i64 l',.int .i64 h'])).run Try.prog w = .ok (decide ((a,b,c,e,l,h) = (a',b',c',e',l',h'))) w:=by
 rw [run_equalIn_agg (P:=Try.prog) w (d + 2) 75 _ _ (by kernel_rfl) (by kernel_rfl)]
 have hf : (Try.prog.fieldsOf 75).toList.map (fun f => (f.name != "_", f.type, f.offset)) = [(true, 3, 0), (true, 3, 1), (true, 3, 2), (true, 3, 3), (true, 23, 4)] := by kernel_rfl
 have hz : (sizeOf 23).run Try.prog w = .ok 2 w:=by
  have h : (Try.prog.info? 23).map (·.size) = some 2:=by kernel_rfl
  cases hq : Try.prog.info? 23 with
  | none=>simp [hq] at h
  | some j =>
   have hs : j.size = 2:=by simpa [hq] using h
   simp [sizeOf,typeInfo,hq,hs]
 have hp : ∀ x1 x2 x3 x4 x5 x6 : Int,(part 23 #[.int .i64 x1,.int .i64 x2,.int .i64 x3,.int .i64 x4,.int .i64 x5,.int .i64 x6] 4).run Try.prog w = .ok (.agg #[.int .i64 x5,.int .i64 x6]) w:=fun x1 x2 x3 x4 x5 x6=>by
  simp only [part,isAgg,Sem.run_bind,run_underlying Try.underlying23,Result.andThen_ok,Sem.run_pure,if_true,hz]
  rfl
 generalize (Try.prog.fieldsOf 75).toList = fs at hf
 obtain ⟨f,fs0,rfl,e0,hf0⟩:=List.map_eq_cons_iff.1 hf
 obtain ⟨g,fs1,rfl,e1,hf1⟩:=List.map_eq_cons_iff.1 hf0
 obtain ⟨i,fs2,rfl,e2,hf2⟩:=List.map_eq_cons_iff.1 hf1
 obtain ⟨j,fs3,rfl,e3,hf3⟩:=List.map_eq_cons_iff.1 hf2
 obtain ⟨k,fs4,rfl,e4,hf4⟩:=List.map_eq_cons_iff.1 hf3
 obtain rfl:=List.map_eq_nil_iff.1 hf4
 simp only [Prod.mk.injEq] at e4
 obtain ⟨k1,k2,k3⟩:=e4
 have hl : (Op.eqFields (d + 2) #[.int .i64 a,.int .i64 b,.int .i64 c,.int .i64 e,.int .i64 l,.int .i64 h] #[.int .i64 a',.int .i64 b',.int .i64 c',.int .i64 e',.int .i64 l',.int .i64 h'] [k]).run Try.prog w = .ok (decide (l = l' ∧ h = h') && true) w:=
  eqFields_cons k1 (by rw [k2,k3];exact hp _ _ _ _ _ _) (by rw [k2,k3];exact hp _ _ _ _ _ _) (by rw [k2];exact equal_bt d l h l' h') (by simp [Op.eqFields])
 refine (eqFields_int e0 (a:=a) (b:=a') rfl rfl (eqFields_int e1 (a:=b) (b:=b') rfl rfl (eqFields_int e2 (a:=c) (b:=c') rfl rfl (eqFields_int e3 (a:=e) (b:=e') rfl rfl hl)))).trans ?_
 exact congrArg (fun b=>Result.ok b w) (by rw [Bool.eq_iff_iff];simp)
theorem R_neqBt {x y : Operand} {t' : TypeId} {a b c d : Int} {r : Bool} (ho : o.op = .binOp .neq 23 x y t') (hx : ρ x = .agg #[.int .i64 a,.int .i64 b]) (hy : ρ y = .agg #[.int .i64 c,.int .i64 d]) (hr : decide (a = c ∧ b = d) = !r) :
  (execOp ρ o).run Try.prog w = .ok (.value (.bool r)) w:=by
 unfold execOp
 simp only [ho,hx,hy,Sem.run_bind,run_eqGuard_agg w .neq 23 x y _ _ Try.eqGuardType23,Result.andThen_ok,run_neq_struct,equal_bt 9998,hr,Sem.run_pure,Bool.not_not]
theorem R_neqRd {x y : Operand} {t' : TypeId} {a b c e a' b' c' e' : Int} {r : Bool} (ho : o.op = .binOp .neq 66 x y t') (hx : ρ x = .agg #[.int .i64 a,.int .i64 b,.int .i64 c,.int .i64 e]) (hy : ρ y = .agg #[.int .i64 a',.int .i64 b',.int .i64 c',.int .i64 e']) (hr : decide ((a,b,c,e) = (a',b',c',e')) = !r) :
  (execOp ρ o).run Try.prog w = .ok (.value (.bool r)) w:=by
 unfold execOp
 simp only [ho,hx,hy,Sem.run_bind,run_eqGuard_agg w .neq 66 x y _ _ Try.eqGuardType66,Result.andThen_ok,run_neq_struct,equal_rd 9998,hr,Sem.run_pure,Bool.not_not]
theorem R_neqLk {x y : Operand} {t' : TypeId} {a b c e l h a' b' c' e' l' h' : Int} {r : Bool} (ho : o.op = .binOp .neq 75 x y t') (hx : ρ x = .agg #[.int .i64 a,.int .i64 b,.int .i64 c,.int .i64 e,.int .i64 l,.int .i64 h]) (hy : ρ y = .agg #[.int .i64 a',.int .i64 b',.int .i64 c',.int .i64 e',.int .i64 l',.int .i64 h']) (hr : decide ((a,b,c,e,l,h) = (a',b',c',e',l',h')) = !r) :
  (execOp ρ o).run Try.prog w = .ok (.value (.bool r)) w:=by
 unfold execOp
 simp only [ho,hx,hy,Sem.run_bind,run_eqGuard_agg w .neq 75 x y _ _ Try.eqGuardType75,Result.andThen_ok,run_neq_struct,equal_lk 9997,hr,Sem.run_pure,Bool.not_not]
end
end Go.Proofs.Ytholfdgebdlgjaa
