/- Parts of a proof: Slv, Mea, Unt. No conditions. -/
import Derived.Test.YtholfdgebdlgjaaPN1
import Derived.Test.YtholfdgebdlgjaaPN2
import Derived.Test.YtholfdgebdlgjaaPN3
set_option linter.unusedVariables false
set_option linter.unusedSimpArgs false
namespace Go.Proofs.Ytholfdgebdlgjaa
open Go.RowKit
theorem spanE_zero {l m lo hi : Int} : spanE l m lo hi = 0 ↔ (lo ≤ l ∧ l ≤ hi) ∧ (lo ≤ m ∧ m ≤ hi) ∧ l ≤ m:=by
 unfold spanE
 rw [firstE_zero]
 constructor
 ·intro h
  have h1:=numberE_zero.1 (h (numberE l lo hi) (by simp))
  have h2:=numberE_zero.1 (h (numberE m lo hi) (by simp))
  have h3:=h (if m < l then 5 else 0) (by simp)
  refine ⟨h1,h2,?_⟩
  by_cases c : m < l
  ·rw [if_pos c] at h3;omega
  ·omega
 ·rintro ⟨h1,h2,h3⟩ e he
  simp only [List.mem_cons,List.not_mem_nil,or_false] at he
  rcases he with rfl | rfl | rfl
  ·exact numberE_zero.2 h1
  ·exact numberE_zero.2 h2
  ·rw [if_neg (by omega)]
theorem knownE_zero {n many : Int} : knownE n many = 0 ↔ 0 ≤ n ∧ n < many:=by
 unfold knownE
 cases h : inB n 0 (many - 1)
 ·have : ¬ (0 ≤ n ∧ n ≤ many - 1):=fun c=>by rw [← inB_iff,h] at c;cases c
  simp;omega
 ·have:=inB_iff.1 h
  simp;omega
theorem map_zero {α : Type} {f : α → Int} {xs : List α} : firstE (xs.map f) = 0 ↔ ∀ x ∈ xs,f x = 0:=by
 rw [firstE_zero];simp
theorem rdE_zero {t : Tp} {r : Int × Int × Int × Int} : rdE t r = 0 ↔ (0 ≤ r.1 ∧ r.1 < t.S) ∧ (0 ≤ r.2.1 ∧ r.2.1 < t.A) ∧ (0 ≤ r.2.2.1 ∧ r.2.2.1 < t.T) ∧ 0 ≤ r.2.2.2 ∧ r.2.2.2 ≤ 250:=by
 unfold rdE rdgE
 rw [firstE_zero]
 simp [knownE_zero,numberE_zero]
theorem lkE_zero {t : Tp} {l : Int × Int × Int × Int × Int × Int} : lkE t l = 0 ↔ (0 ≤ l.1 ∧ l.1 < t.S) ∧ (0 ≤ l.2.2.1 ∧ l.2.2.1 < t.S) ∧ (0 ≤ l.2.1 ∧ l.2.1 < t.A) ∧ (0 ≤ l.2.2.2.1 ∧ l.2.2.2.1 < t.A) ∧ ¬ (l.1 = l.2.2.1 ∧ l.2.1 = l.2.2.2.1) ∧ (-200 ≤ l.2.2.2.2.1 ∧ l.2.2.2.2.1 ≤ 200) ∧ (-200 ≤ l.2.2.2.2.2 ∧ l.2.2.2.2.2 ≤ 200) ∧ l.2.2.2.2.1 ≤ l.2.2.2.2.2:=by
 unfold lkE lnkE
 rw [firstE_zero]
 simp only [List.mem_cons,List.not_mem_nil,or_false,forall_eq_or_imp,forall_eq,knownE_zero,spanE_zero]
 have e : (if l.1 = l.2.2.1 ∧ l.2.1 = l.2.2.2.1 then (4 : Int) else 0) = 0 ↔ ¬ (l.1 = l.2.2.1 ∧ l.2.1 = l.2.2.2.1):=by
  split <;> simp_all
 rw [e]
theorem checkE_zero {t : Tp} : checkE t = 0 ↔ t.Ok ∧ t.rd.length ≤ 8:=by
 have hh : headE t = 0 ↔ (1 ≤ t.S ∧ t.S ≤ 3) ∧ (1 ≤ t.A ∧ t.A ≤ 3) ∧ (1 ≤ t.T ∧ t.T ≤ 3) ∧ ((20 ≤ t.bl ∧ t.bl ≤ 200) ∧ (20 ≤ t.bm ∧ t.bm ≤ 200) ∧ t.bl ≤ t.bm) ∧ ((-9 ≤ t.pl ∧ t.pl ≤ 9) ∧ (-9 ≤ t.pm ∧ t.pm ≤ 9) ∧ t.pl ≤ t.pm) ∧ (0 ≤ t.sl ∧ t.sl ≤ 5):=by
  unfold headE
  rw [firstE_zero]
  simp only [List.mem_cons,List.not_mem_nil,or_false,forall_eq_or_imp,forall_eq,numberE_zero,spanE_zero]
 unfold checkE
 constructor
 ·intro h
  by_cases c1 : headE t = 0
  ·rw [if_neg (by simpa using c1)] at h
   by_cases c2 : (t.gr.length : Int) < t.S
   ·rw [if_pos c2] at h;omega
   rw [if_neg c2] at h
   by_cases c3 : t.S < (t.gr.length : Int)
   ·rw [if_pos c3] at h;omega
   rw [if_neg c3] at h
   by_cases c4 : firstE (t.gr.map grE) = 0
   ·rw [if_neg (by simpa using c4)] at h
    by_cases c5 : 8 < t.rd.length
    ·rw [if_pos c5] at h;omega
    rw [if_neg c5] at h
    by_cases c6 : firstE (t.rd.map (rdE t)) = 0
    ·rw [if_neg (by simpa using c6)] at h
     by_cases c7 : 3 < t.lk.length
     ·rw [if_pos c7] at h;omega
     rw [if_neg c7] at h
     obtain ⟨d1,d2,d3,d4,d5,d6⟩:=hh.1 c1
     refine ⟨⟨d1.1,d1.2,d2.1,d2.2,d3.1,d3.2,d4.1.1,d4.2.1.2,d4.2.2,d5.1.1,d5.2.1.2,d5.2.2,d6.1,d6.2,by omega,fun g hg=>?_,by omega,fun r hr=>?_,by omega,fun l hl=>?_⟩,by omega⟩
     ·have:=spanE_zero.1 (map_zero.1 c4 g hg);omega
     ·have:=rdE_zero.1 (map_zero.1 c6 r hr);omega
     ·obtain ⟨x1,x2,x3,x4,x5,x6,x7,x8⟩:=lkE_zero.1 (map_zero.1 h l hl)
      exact ⟨x1.1,x1.2,x3.1,x3.2,x2.1,x2.2,x4.1,x4.2,x5,x6.1,x7.2,x8⟩
    ·rw [if_pos (by simpa using c6)] at h;exact absurd h c6
   ·rw [if_pos (by simpa using c4)] at h;exact absurd h c4
  ·rw [if_pos (by simpa using c1)] at h;exact absurd h c1
 ·rintro ⟨ok,h8⟩
  have b1:=ok.b
  have b2:=ok.p
  have b3:=ok.bl1
  have b4:=ok.bm1
  have b5:=ok.pl1
  have b6:=ok.pm1
  rw [if_neg (by rw [hh.2 ⟨⟨ok.S1,ok.S3⟩,⟨ok.A1,ok.A3⟩,⟨ok.T1,ok.T3⟩,⟨⟨by omega,by omega⟩,⟨by omega,by omega⟩,by omega⟩,⟨⟨by omega,by omega⟩,⟨by omega,by omega⟩,by omega⟩,⟨ok.sl0,ok.sl5⟩⟩];simp),
   if_neg (by have:=ok.grl;omega),if_neg (by have:=ok.grl;omega),if_neg (by rw [(map_zero (f:=grE)).2 fun g hg=>spanE_zero.2 (by have:=ok.gr g hg;omega)];simp),if_neg (by omega),
   if_neg (by rw [(map_zero (f:=rdE t)).2 fun r hr=>rdE_zero.2 (by have:=ok.rd r hr;omega)];simp),if_neg (by have:=ok.lkl;omega)]
  exact map_zero.2 fun l hl=>lkE_zero.2 (by
   obtain ⟨g1,g2,g3,g4,g5,g6,g7,g8,g9,g10,g11,g12⟩:=ok.lk l hl
   exact ⟨⟨g1,g2⟩,⟨g5,g6⟩,⟨g3,g4⟩,⟨g7,g8⟩,g9,⟨g10,by omega⟩,⟨by omega,g11⟩,g12⟩)
theorem openE_check {t : Tp} {xs : Nat → List Int} (h : openE t xs = 0) : checkE t = 0:=by
 unfold openE at h
 by_cases c : checkE t = 0
 ·exact c
 ·rw [if_pos c] at h;exact h
def bdV (t : Tp) (out : Int) : Nat → Nat → Int:=(kTo (looseM t out) 13).getD fun _ _=>0
def bdB (t : Tp) (out : Int) : Bool:=(kTo (looseM t out) 13).isSome
theorem solve_v (t : Tp) (ok : t.Ok) (gv rv lv : Value) (out : Int) (ho1 : 0 ≤ out) (ho2 : out < 65536) (w : World) (ht : IsTp w gv rv lv t) :
  Calls Try.prog 80 #[tpV t gv rv lv,.int .u16 out] w fun e w'=>e = .returned (.tuple #[.agg (matCells (bdV t out)),.bool (bdB t out)]) ∧ Ext [] w w':=by
 refine (solve_ok t ok gv rv lv out ho1 ho2 w ht).mono fun e w' h=>?_
 rcases h with ⟨h1,⟨h2,rfl⟩ | ⟨m,h2,rfl⟩⟩
 ·exact ⟨by rw [bdV,bdB,h2];rfl,h1⟩
 ·exact ⟨by rw [bdV,bdB,h2];rfl,h1⟩
def solvedE (t : Tp) (xs : Nat → List Int) : Int:=if openE t xs ≠ 0 then openE t xs else if bdB t 0 then 0 else 9
def solvedM (t : Tp) (xs : Nat → List Int) : Nat → Nat → Int:=if openE t xs = 0 then bdV t 0 else fun _ _=>0
theorem tp_one {w : World} {gv rv lv : Value} {t : Tp} (ht : IsTp w gv rv lv t) : gv.oneCell' = true ∧ rv.oneCell' = true ∧ lv.oneCell' = true:=by
 obtain ⟨_,_,e1⟩:=rows_len ht.gr
 obtain ⟨_,_,e2⟩:=rows_len ht.rd
 obtain ⟨_,_,e3⟩:=rows_len ht.lk
 rw [e1,e2,e3];exact ⟨rfl,rfl,rfl⟩
theorem tp_cells_one {t : Tp} {gv rv lv : Value} (h : gv.oneCell' = true ∧ rv.oneCell' = true ∧ lv.oneCell' = true) : (tpCells t gv rv lv).all (·.oneCell') = true:=by
 simp [tpCells,h.1,h.2.1,h.2.2,show ∀ k n,(Value.int k n).oneCell' = true from fun _ _=>rfl]
theorem tp_zero_one : tpZero.all (·.oneCell') = true:=by simp [tpZero,Value.oneCell']
theorem mat_size_info (m : Nat → Nat → Int) : (Try.prog.info? 105).map (·.size) = some (matCells m).size:=by rw [matCells_size];kernel_rfl
set_option maxRecDepth 100000 in
set_option maxHeartbeats 2000000 in
theorem solved_any (t : Tp) (gv rv lv : Value) (xs : Nat → List Int) (va : Nat → Option Addr) (vc : Nat → Nat) (w : World) (ht : IsTp w gv rv lv t) (hl1 : t.gr.length ≤ 1000) (hl2 : t.rd.length ≤ 1000) (hl3 : t.lk.length ≤ 1000)
  (hx : ∀ i,i < 3 → IsRows w (.slice (va i) (xs i).length (vc i)) 1 ((xs i).map intRow)) (hxl : ∀ i,i < 3 → (xs i).length ≤ 1000) :
  Calls Try.prog 90 #[tpV t gv rv lv,.slice (va 0) (xs 0).length (vc 0),.slice (va 1) (xs 1).length (vc 1),.slice (va 2) (xs 2).length (vc 2)] w fun e w'=>e = .returned (.tuple #[.agg (openV t xs gv rv lv),.agg (matCells (solvedM t xs)),.int .i64 (solvedE t xs)]) ∧ Ext [] w w':=by
 have hone:=tp_one ht
 have HK : Hid (∀ W : World,Ext [] w W → Calls Try.prog 79 #[tpV t gv rv lv,.slice (va 0) (xs 0).length (vc 0),.slice (va 1) (xs 1).length (vc 1),.slice (va 2) (xs 2).length (vc 2)] W fun e w'=>e = .returned (.tuple #[.agg (openV t xs gv rv lv),.int .i64 (openE t xs)]) ∧ Ext [] W w'):=
  fun W e=>open_any t gv rv lv xs va vc W (ht.ext e (by simp)) hl1 hl2 hl3 (fun i hi=>(hx i hi).ext e (by simp)) hxl
 have Ht:=Lib.hid ht;clear ht hx
 have E : Ext [] w w:=Ext.refl _ _
 by_cases h : openE t xs = 0
 ·have ok:=(checkE_zero.1 (openE_check h)).1
  have HS : Hid (∀ W : World,Ext [] w W → Calls Try.prog 80 #[tpV t gv rv lv,.int .u16 0] W fun e w'=>e = .returned (.tuple #[.agg (matCells (bdV t 0)),.bool (bdB t 0)]) ∧ Ext [] W w'):=
   fun W e=>solve_v t ok gv rv lv 0 (by omega) (by omega) W (Ht.out.ext e (by simp))
  simp only [openV_ok h,show solvedM t xs = bdV t 0 from if_pos h,show solvedE t xs = if bdB t 0 then 0 else 9 by rw [solvedE,if_neg (by simpa using h)]] at HK ⊢
  rw [h] at HK
  clear h ok
  obtain ⟨m,hm⟩ : ∃ m,m = bdV t 0:=⟨_,rfl⟩
  obtain ⟨b,hb⟩ : ∃ b,b = bdB t 0:=⟨_,rfl⟩
  rw [← hm,← hb] at HS ⊢
  clear hm hb
  unfold tpV at HK HS ⊢
  go_enter Try.func90,Try.ntmps90
  go_upto_region 0 with (fail)
  refine wp_region_lit ?_
  refine seq_new rfl rfl (R_box (v:=.agg _) rfl rfl) (by simp only [ls,lz];exact rfl) fun w1 hw=>?_
  obtain ⟨n4,hn⟩ : ∃ n,n = w.heap.size:=⟨_,rfl⟩
  rw [← hn]
  have l4 : w.heap.size ≤ n4:=by rw [hn];exact E.size
  have q4:=new_row hw hn
  replace E:=ext_alloc E hw
  clear hw hn
  refine seq_new rfl rfl (R_alloc rfl Try.zeroValue100) (by simp only [ls,lz];exact rfl) fun w2 hw=>?_
  obtain ⟨n8,hn⟩ : ∃ n,n = w1.heap.size:=⟨_,rfl⟩
  rw [← hn]
  have l8 : w.heap.size ≤ n8:=by rw [hn];exact E.size
  have m8_4 : n4 < n8:=by rw [hn];exact blk_lt q4
  replace q4:=keep_alloc hw q4
  have q8:=new_row hw hn
  replace E:=ext_alloc E hw
  clear hw hn
  refine seq_new rfl rfl (R_alloc rfl Try.zeroValue105) (by simp only [ls,lz];exact rfl) fun w3 hw=>?_
  obtain ⟨n9,hn⟩ : ∃ n,n = w2.heap.size:=⟨_,rfl⟩
  rw [← hn]
  have l9 : w.heap.size ≤ n9:=by rw [hn];exact E.size
  have m9_4 : n4 < n9:=by rw [hn];exact blk_lt q4
  have m9_8 : n8 < n9:=by rw [hn];exact blk_lt q8
  replace q4:=keep_alloc hw q4
  replace q8:=keep_alloc hw q8
  have q9:=new_row hw hn
  replace E:=ext_alloc E hw
  clear hw hn
  refine seq_val rfl rfl (R_assign (v:=.int .i64 _) rfl rfl) (by simp only [ls,lz];exact rfl) ?_
  refine wpList_nil ?_
  go_upto_region 1 with (fail)
  refine wp_region_lit ?_
  refine seq_val rfl rfl (R_loadBlk rfl rfl Try.underlying28 rfl (by kernel_rfl) q4) (by simp only [ls,lz];exact rfl) ?_
  refine seq_val rfl rfl (R_move (v:=.slice _ _ _) rfl rfl) (by simp only [ls,lz];exact rfl) ?_
  refine seq_val rfl rfl (R_move (v:=.slice _ _ _) rfl rfl) (by simp only [ls,lz];exact rfl) ?_
  refine seq_val rfl rfl (R_move (v:=.slice _ _ _) rfl rfl) (by simp only [ls,lz];exact rfl) ?_
  refine seq_call rfl rfl (by kernel_rfl) (HK.out _ E) fun e w4 hR=>?_
  obtain ⟨rfl,e1⟩:=hR
  refine ⟨_,_,rfl,(by simp only [ls,lz];exact rfl),?_⟩
  replace q4:=(e1).keep0 q4
  replace q8:=(e1).keep0 q8
  replace q9:=(e1).keep0 q9
  replace E:=ext_same E (e1)
  refine seq_val rfl rfl (R_move (v:=.tuple _) rfl rfl) (by simp only [ls,lz];exact rfl) ?_
  refine seq_val rfl rfl (R_extract rfl rfl (get0)) (by simp only [ls,lz];exact rfl) ?_
  refine seq_val rfl rfl (R_extract rfl rfl (getS (get0))) (by simp only [ls,lz];exact rfl) ?_
  refine seq_new rfl rfl (R_alloc rfl Try.zeroValue100) (by simp only [ls,lz];exact rfl) fun w5 hw=>?_
  obtain ⟨n11,hn⟩ : ∃ n,n = w4.heap.size:=⟨_,rfl⟩
  rw [← hn]
  have l11 : w.heap.size ≤ n11:=by rw [hn];exact E.size
  have m11_4 : n4 < n11:=by rw [hn];exact blk_lt q4
  have m11_8 : n8 < n11:=by rw [hn];exact blk_lt q8
  have m11_9 : n9 < n11:=by rw [hn];exact blk_lt q9
  replace q4:=keep_alloc hw q4
  replace q8:=keep_alloc hw q8
  replace q9:=keep_alloc hw q9
  have q11:=new_row hw hn
  replace E:=ext_alloc E hw
  clear hw hn
  refine seq_to rfl rfl (R_storeRow rfl rfl rfl (by kernel_rfl) (tp_cells_one hone) q11 rfl) fun w6 hw=>?_
  replace q4:=keep_cells hw q4 (by omega)
  replace q8:=keep_cells hw q8 (by omega)
  replace q9:=keep_cells hw q9 (by omega)
  replace q11:=put_row hw q11 rfl
  replace E:=ext_cells E hw (fun h=>by first | exact absurd h (by omega) | simp)
  clear hw
  refine seq_val rfl rfl (R_assign (v:=.int .i64 _) rfl rfl) (by simp only [ls,lz];exact rfl) ?_
  refine wpList_nil ?_
  clear e1
  go_upto_region 4 with (fail)
  refine wp_region_lit ?_
  refine seq_val rfl rfl (R_loadBlk rfl rfl Try.underlying100 rfl (by kernel_rfl) q11) (by simp only [ls,lz];exact rfl) ?_
  refine seq_call rfl rfl (by kernel_rfl) (HS.out _ E) fun e w7 hR=>?_
  obtain ⟨rfl,e1⟩:=hR
  refine ⟨_,_,rfl,(by simp only [ls,lz];exact rfl),?_⟩
  replace q4:=(e1).keep0 q4
  replace q8:=(e1).keep0 q8
  replace q9:=(e1).keep0 q9
  replace q11:=(e1).keep0 q11
  replace E:=ext_same E (e1)
  refine seq_val rfl rfl (R_move (v:=.tuple _) rfl rfl) (by simp only [ls,lz];exact rfl) ?_
  refine seq_val rfl rfl (R_extract rfl rfl (get0)) (by simp only [ls,lz];exact rfl) ?_
  refine seq_val rfl rfl (R_extract rfl rfl (getS (get0))) (by simp only [ls,lz];exact rfl) ?_
  refine seq_new rfl rfl (R_alloc rfl Try.zeroValue105) (by simp only [ls,lz];exact rfl) fun w8 hw=>?_
  obtain ⟨n13,hn⟩ : ∃ n,n = w7.heap.size:=⟨_,rfl⟩
  rw [← hn]
  have l13 : w.heap.size ≤ n13:=by rw [hn];exact E.size
  have m13_4 : n4 < n13:=by rw [hn];exact blk_lt q4
  have m13_8 : n8 < n13:=by rw [hn];exact blk_lt q8
  have m13_9 : n9 < n13:=by rw [hn];exact blk_lt q9
  have m13_11 : n11 < n13:=by rw [hn];exact blk_lt q11
  replace q4:=keep_alloc hw q4
  replace q8:=keep_alloc hw q8
  replace q9:=keep_alloc hw q9
  replace q11:=keep_alloc hw q11
  have q13:=new_row hw hn
  replace E:=ext_alloc E hw
  clear hw hn
  refine seq_to rfl rfl (R_storeRow rfl rfl rfl (by rw [matCells_size];kernel_rfl) (by rw [← matList_toArray];exact all_oneCell_toArray (matList_one _)) q13 (by show Try.zeroCells105.size = _;rw [Try.zeroCells105_size,matCells_size])) fun w9 hw=>?_
  replace q4:=keep_cells hw q4 (by omega)
  replace q8:=keep_cells hw q8 (by omega)
  replace q9:=keep_cells hw q9 (by omega)
  replace q11:=keep_cells hw q11 (by omega)
  replace q13:=put_row hw q13 (by show Try.zeroCells105.size = _;rw [Try.zeroCells105_size,matCells_size])
  replace E:=ext_cells E hw (fun h=>by first | exact absurd h (by omega) | simp)
  clear hw
  refine seq_val rfl rfl (R_assign (v:=.bool _) rfl rfl) (by simp only [ls,lz];exact rfl) ?_
  refine wpList_nil ?_
  clear e1
  cases b
  ·skip
   go_upto_region 6 with (fail)
   refine region_any (Ext [n8,n9] w9) follows fun w10 hh eS=>?_
   have q4_:=q4
   have q8_:=q8
   have q9_:=q9
   have q11_:=q11
   have q13_:=q13
   replace q4:=keep_same hh q4
   replace q8:=keep_same hh q8
   replace q9:=keep_same hh q9
   replace q11:=keep_same hh q11
   replace q13:=keep_same hh q13
   replace E:=ext_same E eS
   replace eS:=eS.mono (Y:=[n8,n9]) (by simp)
   refine anyH_take (i:=0) rfl (by kernel_rfl) (by kernel_rfl) (by kernel_rfl) (fun _ _ _ h=>h) rfl rfl (fun w' hS=>R_loadBlk rfl rfl Try.underlying100 rfl (by kernel_rfl) (hS.keep q11_ (by simp;omega))) eS (by simp only [ls,lz];exact rfl) ?_
   refine anyH_take (i:=1) rfl (by kernel_rfl) (by kernel_rfl) (by kernel_rfl) (fun _ _ _ h=>h) rfl rfl (fun w' hS=>R_loadBlk rfl rfl Try.underlying105 rfl (by rw [matCells_size];kernel_rfl) (hS.keep q13_ (by simp;omega))) eS (by simp only [ls,lz];exact rfl) ?_
   refine anyH_to (i:=2) rfl (by kernel_rfl) rfl rfl (R_storeRow rfl rfl rfl (by kernel_rfl) (tp_cells_one hone) q8 rfl) fun w11 hw=>?_
   replace eS:=ext_cells eS hw (fun _=>by simp)
   replace q4:=keep_cells hw q4 (by omega)
   replace q8:=put_row hw q8 rfl
   replace q9:=keep_cells hw q9 (by omega)
   replace q11:=keep_cells hw q11 (by omega)
   replace q13:=keep_cells hw q13 (by omega)
   replace E:=ext_cells E hw (fun h=>by first | exact absurd h (by omega) | simp)
   clear hw
   refine ⟨eS,?_⟩
   refine anyH_to (i:=3) rfl (by kernel_rfl) rfl rfl (R_storeRow rfl rfl rfl (by rw [matCells_size];kernel_rfl) (by rw [← matList_toArray];exact all_oneCell_toArray (matList_one _)) q9 (by show Try.zeroCells105.size = _;rw [Try.zeroCells105_size,matCells_size])) fun w12 hw=>?_
   replace eS:=ext_cells eS hw (fun _=>by simp)
   replace q4:=keep_cells hw q4 (by omega)
   replace q8:=keep_cells hw q8 (by omega)
   replace q9:=put_row hw q9 (by show Try.zeroCells105.size = _;rw [Try.zeroCells105_size,matCells_size])
   replace q11:=keep_cells hw q11 (by omega)
   replace q13:=keep_cells hw q13 (by omega)
   replace E:=ext_cells E hw (fun h=>by first | exact absurd h (by omega) | simp)
   clear hw
   refine ⟨eS,?_⟩
   refine anyH_take (i:=4) rfl (by kernel_rfl) (by kernel_rfl) (by kernel_rfl) (fun _ _ _ h=>h) rfl rfl (fun w' hS=>R_assign (v:=.int .i64 _) rfl rfl) eS (by simp only [ls,lz];exact rfl) ?_
   refine wpAnyH_done (by kernel_rfl) ?_ _
   clear q4_ q8_ q9_ q11_ q13_ hh eS
   go_wp2
   refine bodyPost_ret (res_cct rfl rfl Try.underlying100 rfl (by kernel_rfl) q8 rfl Try.underlying105 rfl (mat_size_info m) q9 rfl) rfl ⟨rfl,E⟩
  ·skip
   go_upto_region 7 with (fail)
   refine region_any (Ext [n8,n9] w9) follows fun w10 hh eS=>?_
   have q4_:=q4
   have q8_:=q8
   have q9_:=q9
   have q11_:=q11
   have q13_:=q13
   replace q4:=keep_same hh q4
   replace q8:=keep_same hh q8
   replace q9:=keep_same hh q9
   replace q11:=keep_same hh q11
   replace q13:=keep_same hh q13
   replace E:=ext_same E eS
   replace eS:=eS.mono (Y:=[n8,n9]) (by simp)
   refine anyH_take (i:=0) rfl (by kernel_rfl) (by kernel_rfl) (by kernel_rfl) (fun _ _ _ h=>h) rfl rfl (fun w' hS=>R_loadBlk rfl rfl Try.underlying100 rfl (by kernel_rfl) (hS.keep q11_ (by simp;omega))) eS (by simp only [ls,lz];exact rfl) ?_
   refine anyH_take (i:=1) rfl (by kernel_rfl) (by kernel_rfl) (by kernel_rfl) (fun _ _ _ h=>h) rfl rfl (fun w' hS=>R_loadBlk rfl rfl Try.underlying105 rfl (by rw [matCells_size];kernel_rfl) (hS.keep q13_ (by simp;omega))) eS (by simp only [ls,lz];exact rfl) ?_
   refine anyH_to (i:=2) rfl (by kernel_rfl) rfl rfl (R_storeRow rfl rfl rfl (by kernel_rfl) (tp_cells_one hone) q8 rfl) fun w11 hw=>?_
   replace eS:=ext_cells eS hw (fun _=>by simp)
   replace q4:=keep_cells hw q4 (by omega)
   replace q8:=put_row hw q8 rfl
   replace q9:=keep_cells hw q9 (by omega)
   replace q11:=keep_cells hw q11 (by omega)
   replace q13:=keep_cells hw q13 (by omega)
   replace E:=ext_cells E hw (fun h=>by first | exact absurd h (by omega) | simp)
   clear hw
   refine ⟨eS,?_⟩
   refine anyH_to (i:=3) rfl (by kernel_rfl) rfl rfl (R_storeRow rfl rfl rfl (by rw [matCells_size];kernel_rfl) (by rw [← matList_toArray];exact all_oneCell_toArray (matList_one _)) q9 (by show Try.zeroCells105.size = _;rw [Try.zeroCells105_size,matCells_size])) fun w12 hw=>?_
   replace eS:=ext_cells eS hw (fun _=>by simp)
   replace q4:=keep_cells hw q4 (by omega)
   replace q8:=keep_cells hw q8 (by omega)
   replace q9:=put_row hw q9 (by show Try.zeroCells105.size = _;rw [Try.zeroCells105_size,matCells_size])
   replace q11:=keep_cells hw q11 (by omega)
   replace q13:=keep_cells hw q13 (by omega)
   replace E:=ext_cells E hw (fun h=>by first | exact absurd h (by omega) | simp)
   clear hw
   refine ⟨eS,?_⟩
   refine anyH_take (i:=4) rfl (by kernel_rfl) (by kernel_rfl) (by kernel_rfl) (fun _ _ _ h=>h) rfl rfl (fun w' hS=>R_assign (v:=.int .i64 _) rfl rfl) eS (by simp only [ls,lz];exact rfl) ?_
   refine wpAnyH_done (by kernel_rfl) ?_ _
   clear q4_ q8_ q9_ q11_ q13_ hh eS
   go_wp2
   refine bodyPost_ret (res_cct rfl rfl Try.underlying100 rfl (by kernel_rfl) q8 rfl Try.underlying105 rfl (mat_size_info m) q9 rfl) rfl ⟨rfl,E⟩
 ·simp only [openV_no h,show solvedM t xs = (fun _ _=>0) from if_neg h,show solvedE t xs = openE t xs by rw [solvedE,if_pos h]] at HK ⊢
  obtain ⟨ce,hce⟩ : ∃ ce,ce = openE t xs:=⟨_,rfl⟩
  rw [← hce] at h HK ⊢
  clear hce
  have hb : (ce != 0) = true:=by simpa using h
  unfold tpV at HK ⊢
  go_enter Try.func90,Try.ntmps90
  go_upto_region 0 with (fail)
  refine wp_region_lit ?_
  refine seq_new rfl rfl (R_box (v:=.agg _) rfl rfl) (by simp only [ls,lz];exact rfl) fun w1 hw=>?_
  obtain ⟨n4,hn⟩ : ∃ n,n = w.heap.size:=⟨_,rfl⟩
  rw [← hn]
  have l4 : w.heap.size ≤ n4:=by rw [hn];exact E.size
  have q4:=new_row hw hn
  replace E:=ext_alloc E hw
  clear hw hn
  refine seq_new rfl rfl (R_alloc rfl Try.zeroValue100) (by simp only [ls,lz];exact rfl) fun w2 hw=>?_
  obtain ⟨n8,hn⟩ : ∃ n,n = w1.heap.size:=⟨_,rfl⟩
  rw [← hn]
  have l8 : w.heap.size ≤ n8:=by rw [hn];exact E.size
  have m8_4 : n4 < n8:=by rw [hn];exact blk_lt q4
  replace q4:=keep_alloc hw q4
  have q8:=new_row hw hn
  replace E:=ext_alloc E hw
  clear hw hn
  refine seq_new rfl rfl (R_alloc rfl Try.zeroValue105) (by simp only [ls,lz];exact rfl) fun w3 hw=>?_
  obtain ⟨n9,hn⟩ : ∃ n,n = w2.heap.size:=⟨_,rfl⟩
  rw [← hn]
  have l9 : w.heap.size ≤ n9:=by rw [hn];exact E.size
  have m9_4 : n4 < n9:=by rw [hn];exact blk_lt q4
  have m9_8 : n8 < n9:=by rw [hn];exact blk_lt q8
  replace q4:=keep_alloc hw q4
  replace q8:=keep_alloc hw q8
  have q9:=new_row hw hn
  replace E:=ext_alloc E hw
  clear hw hn
  refine seq_val rfl rfl (R_assign (v:=.int .i64 _) rfl rfl) (by simp only [ls,lz];exact rfl) ?_
  refine wpList_nil ?_
  go_upto_region 1 with (fail)
  refine wp_region_lit ?_
  refine seq_val rfl rfl (R_loadBlk rfl rfl Try.underlying28 rfl (by kernel_rfl) q4) (by simp only [ls,lz];exact rfl) ?_
  refine seq_val rfl rfl (R_move (v:=.slice _ _ _) rfl rfl) (by simp only [ls,lz];exact rfl) ?_
  refine seq_val rfl rfl (R_move (v:=.slice _ _ _) rfl rfl) (by simp only [ls,lz];exact rfl) ?_
  refine seq_val rfl rfl (R_move (v:=.slice _ _ _) rfl rfl) (by simp only [ls,lz];exact rfl) ?_
  refine seq_call rfl rfl (by kernel_rfl) (HK.out _ E) fun e w4 hR=>?_
  obtain ⟨rfl,e1⟩:=hR
  refine ⟨_,_,rfl,(by simp only [ls,lz];exact rfl),?_⟩
  replace q4:=(e1).keep0 q4
  replace q8:=(e1).keep0 q8
  replace q9:=(e1).keep0 q9
  replace E:=ext_same E (e1)
  refine seq_val rfl rfl (R_move (v:=.tuple _) rfl rfl) (by simp only [ls,lz];exact rfl) ?_
  refine seq_val rfl rfl (R_extract rfl rfl (get0)) (by simp only [ls,lz];exact rfl) ?_
  refine seq_val rfl rfl (R_extract rfl rfl (getS (get0))) (by simp only [ls,lz];exact rfl) ?_
  refine seq_new rfl rfl (R_alloc rfl Try.zeroValue100) (by simp only [ls,lz];exact rfl) fun w5 hw=>?_
  obtain ⟨n11,hn⟩ : ∃ n,n = w4.heap.size:=⟨_,rfl⟩
  rw [← hn]
  have l11 : w.heap.size ≤ n11:=by rw [hn];exact E.size
  have m11_4 : n4 < n11:=by rw [hn];exact blk_lt q4
  have m11_8 : n8 < n11:=by rw [hn];exact blk_lt q8
  have m11_9 : n9 < n11:=by rw [hn];exact blk_lt q9
  replace q4:=keep_alloc hw q4
  replace q8:=keep_alloc hw q8
  replace q9:=keep_alloc hw q9
  have q11:=new_row hw hn
  replace E:=ext_alloc E hw
  clear hw hn
  refine seq_to rfl rfl (R_storeRow rfl rfl rfl (by kernel_rfl) tp_zero_one q11 rfl) fun w6 hw=>?_
  replace q4:=keep_cells hw q4 (by omega)
  replace q8:=keep_cells hw q8 (by omega)
  replace q9:=keep_cells hw q9 (by omega)
  replace q11:=put_row hw q11 rfl
  replace E:=ext_cells E hw (fun h=>by first | exact absurd h (by omega) | simp)
  clear hw
  refine seq_val rfl rfl (R_assign (v:=.int .i64 _) rfl rfl) (by simp only [ls,lz];exact rfl) ?_
  refine wpList_nil ?_
  clear e1
  go_upto_region 3 with (fail)
  refine wp_region_lit ?_
  refine seq_val rfl rfl (R_loadBlk rfl rfl Try.underlying100 rfl (by kernel_rfl) q11) (by simp only [ls,lz];exact rfl) ?_
  refine seq_val rfl rfl (R_build' rfl (cells:=matCells fun _ _=>0) (by kernel_rfl)) (by simp only [ls,lz];exact rfl) ?_
  refine seq_val rfl rfl (R_move (v:=.int .i64 _) rfl rfl) (by simp only [ls,lz];exact rfl) ?_
  refine seq_to rfl rfl (R_storeRow rfl rfl rfl (by kernel_rfl) tp_zero_one q8 rfl) fun w7 hw=>?_
  replace q4:=keep_cells hw q4 (by omega)
  replace q8:=put_row hw q8 rfl
  replace q9:=keep_cells hw q9 (by omega)
  replace q11:=keep_cells hw q11 (by omega)
  replace E:=ext_cells E hw (fun h=>by first | exact absurd h (by omega) | simp)
  clear hw
  refine seq_to rfl rfl (R_storeRow rfl rfl rfl (by rw [matCells_size];kernel_rfl) (by rw [← matList_toArray];exact all_oneCell_toArray (matList_one _)) q9 (by show Try.zeroCells105.size = _;rw [Try.zeroCells105_size,matCells_size])) fun w8 hw=>?_
  replace q4:=keep_cells hw q4 (by omega)
  replace q8:=keep_cells hw q8 (by omega)
  replace q9:=put_row hw q9 (by show Try.zeroCells105.size = _;rw [Try.zeroCells105_size,matCells_size])
  replace q11:=keep_cells hw q11 (by omega)
  replace E:=ext_cells E hw (fun h=>by first | exact absurd h (by omega) | simp)
  clear hw
  refine seq_val rfl rfl (R_assign (v:=.int .i64 _) rfl rfl) (by simp only [ls,lz];exact rfl) ?_
  refine wpList_nil ?_
  go_wp2
  refine bodyPost_ret (res_cct rfl rfl Try.underlying100 rfl (by kernel_rfl) q8 rfl Try.underlying105 rfl (mat_size_info _) q9 rfl) rfl ⟨rfl,E⟩
def sel3 {α : Type} (x y z : α) : Nat → α
 | 0=>x
 | 1=>y
 | _=>z
theorem rows_nil (w : World) (cap sz : Nat) : IsRows w (.slice none 0 cap) sz []:=⟨none,cap,rfl,by simp,fun h=>absurd rfl h⟩
theorem rows_lit {w : World} {b : Nat} {T : TypeId} {fz : Nat × Nat} (xs : List Int) (cap : Nat) (h : w.heap[b]? = some (.cells (xs.map (Value.int .i64)).toArray T fz)) : IsRows w (.slice (some ⟨b,0,none⟩) xs.length cap) 1 (xs.map intRow):=by
 refine ⟨some ⟨b,0,none⟩,cap,by simp,by simp [intRow],fun _=>⟨b,0,rfl,blk_lt h,fun i j x hi hj=>?_⟩⟩
 obtain rfl : j = 0:=by omega
 rw [cells_of_block h]
 simp only [List.getElem?_map,Option.map_eq_some_iff] at hi
 obtain ⟨y,hy,rfl⟩:=hi
 simp [hy,intRow]
theorem rows3 {w : World} {x y z : List Int} {a b c : Option Addr} {p q r : Nat} (h0 : IsRows w (.slice a x.length p) 1 (x.map intRow)) (h1 : IsRows w (.slice b y.length q) 1 (y.map intRow)) (h2 : IsRows w (.slice c z.length r) 1 (z.map intRow)) :
  ∀ i,i < 3 → IsRows w (.slice (sel3 a b c i) (sel3 x y z i).length (sel3 p q r i)) 1 ((sel3 x y z i).map intRow):=fun i hi=>by
 rcases i with _ | _ | _ | i
 ·exact h0
 ·exact h1
 ·exact h2
 ·omega
theorem openV_size (t : Tp) (xs : Nat → List Int) (gv rv lv : Value) : (openV t xs gv rv lv).size = 11:=by
 unfold openV;split <;> rfl
theorem openV_one {t : Tp} {xs : Nat → List Int} {gv rv lv : Value} (h : gv.oneCell' = true ∧ rv.oneCell' = true ∧ lv.oneCell' = true) : (openV t xs gv rv lv).all (·.oneCell') = true:=by
 unfold openV;split
 ·exact tp_cells_one h
 ·exact tp_zero_one
theorem bdV_some {t : Tp} {out : Int} {y : Nat → Nat → Int} (h : kTo (looseM t out) 13 = some y) : bdV t out = y:=by rw [bdV,h];rfl
theorem bdB_some {t : Tp} {out : Int} {y : Nat → Nat → Int} (h : kTo (looseM t out) 13 = some y) : bdB t out = true:=by rw [bdB,h];rfl
theorem bdB_none {t : Tp} {out : Int} (h : kTo (looseM t out) 13 = none) : bdB t out = false:=by rw [bdB,h];rfl
theorem bdB_get {t : Tp} {out : Int} (h : bdB t out = true) : kTo (looseM t out) 13 = some (bdV t out):=by
 unfold bdB at h
 unfold bdV
 cases e : kTo (looseM t out) 13 with
 | none=>rw [e] at h;cases h
 | some y=>rfl
theorem bd_big {t : Tp} (ok : t.Ok) (out : Int) {p q : Nat} (hp : p < 13) (hq : q < 13) : -1000000000000000000 ≤ bdV t out p q ∧ bdV t out p q ≤ 1000000000000000000:=by
 unfold bdV
 cases e : kTo (looseM t out) 13 with
 | none=>simp
 | some y =>
  have h:=fun p q (_ : p < 13) (_ : q < 13)=>(small_loose ok out).1 p q
  have l:=kTo_low (L:=1048576) (by omega) (fun p q hp hq=>(h p q hp hq).1) 13 (Nat.le_refl _) y e p q hp hq
  have u:=Int.le_trans (kTo_le p q e) (h p q hp hq).2
  have hpw : (6 : Int) ^ 13 = 13060694016:=by decide
  rw [hpw] at l
  simp only [Option.getD_some]
  constructor <;> omega
def noX : Nat → List Int:=fun _=>[]
theorem open_noX (t : Tp) : openE t noX = checkE t:=by
 unfold openE
 split
 ·rfl
 ·rename_i h
  have : checkE t = 0:=by simpa using h
  rw [this]
  refine map_zero.2 fun i _=>?_
  rfl
def canB (t : Tp) : Bool:=if checkE t = 0 then bdB t 0 else false
set_option maxRecDepth 100000 in
set_option maxHeartbeats 2000000 in
theorem can_any (t : Tp) (gv rv lv : Value) (w : World) (ht : IsTp w gv rv lv t) (hl1 : t.gr.length ≤ 1000) (hl2 : t.rd.length ≤ 1000) (hl3 : t.lk.length ≤ 1000) :
  Calls Try.prog 29 #[tpV t gv rv lv] w fun e w'=>e = .returned (.tuple #[.bool (canB t),.int .i64 (checkE t)]) ∧ Ext [] w w':=by
 have hone:=tp_one ht
 have HK : Hid (∀ W : World,Ext [] w W → Calls Try.prog 79 #[tpV t gv rv lv,.slice none 0 0,.slice none 0 0,.slice none 0 0] W fun e w'=>e = .returned (.tuple #[.agg (openV t noX gv rv lv),.int .i64 (openE t noX)]) ∧ Ext [] W w'):=
  fun W e=>open_any t gv rv lv noX (fun _=>none) (fun _=>0) W (ht.ext e (by simp)) hl1 hl2 hl3 (fun i hi=>rows_nil _ _ _) (fun i hi=>by simp [noX])
 have Ht:=Lib.hid ht;clear ht
 have E : Ext [] w w:=Ext.refl _ _
 rw [open_noX] at HK
 by_cases h : checkE t = 0
 ·have ok:=(checkE_zero.1 h).1
  have HS : Hid (∀ W : World,Ext [] w W → Calls Try.prog 80 #[tpV t gv rv lv,.int .u16 0] W fun e w'=>e = .returned (.tuple #[.agg (matCells (bdV t 0)),.bool (bdB t 0)]) ∧ Ext [] W w'):=
   fun W e=>solve_v t ok gv rv lv 0 (by omega) (by omega) W (Ht.out.ext e (by simp))
  rw [openV_ok ((open_noX t).trans h),h] at HK
  rw [show canB t = bdB t 0 from if_pos h,h]
  clear h ok
  obtain ⟨m,hm⟩ : ∃ m,m = bdV t 0:=⟨_,rfl⟩
  obtain ⟨b,hb⟩ : ∃ b,b = bdB t 0:=⟨_,rfl⟩
  rw [← hm,← hb] at HS
  rw [← hb]
  clear hm hb
  unfold tpV at HK HS ⊢
  go_enter Try.func29,Try.ntmps29
  go_upto_region 0 with (fail)
  refine wp_region_lit ?_
  refine seq_new rfl rfl (R_box (v:=.agg _) rfl rfl) (by simp only [ls,lz];exact rfl) fun w1 hw=>?_
  obtain ⟨n1,hn⟩ : ∃ n,n = w.heap.size:=⟨_,rfl⟩
  rw [← hn]
  have l1 : w.heap.size ≤ n1:=by rw [hn];exact E.size
  have q1:=new_row hw hn
  replace E:=ext_alloc E hw
  clear hw hn
  refine seq_val rfl rfl (R_assign (v:=.bool _) rfl rfl) (by simp only [ls,lz];exact rfl) ?_
  refine seq_val rfl rfl (R_assign (v:=.int .i64 _) rfl rfl) (by simp only [ls,lz];exact rfl) ?_
  refine wpList_nil ?_
  go_upto_region 1 with (fail)
  refine wp_region_lit ?_
  refine seq_val rfl rfl (R_loadBlk rfl rfl Try.underlying28 rfl (by kernel_rfl) q1) (by simp only [ls,lz];exact rfl) ?_
  refine seq_call rfl rfl (by kernel_rfl) (HK.out _ E) fun e w2 hR=>?_
  obtain ⟨rfl,e1⟩:=hR
  refine ⟨_,_,rfl,(by simp only [ls,lz];exact rfl),?_⟩
  replace q1:=(e1).keep0 q1
  replace E:=ext_same E (e1)
  refine seq_val rfl rfl (R_move (v:=.tuple _) rfl rfl) (by simp only [ls,lz];exact rfl) ?_
  refine seq_val rfl rfl (R_extract rfl rfl (get0)) (by simp only [ls,lz];exact rfl) ?_
  refine seq_val rfl rfl (R_extract rfl rfl (getS (get0))) (by simp only [ls,lz];exact rfl) ?_
  refine seq_new rfl rfl (R_alloc rfl Try.zeroValue100) (by simp only [ls,lz];exact rfl) fun w3 hw=>?_
  obtain ⟨n4,hn⟩ : ∃ n,n = w2.heap.size:=⟨_,rfl⟩
  rw [← hn]
  have l4 : w.heap.size ≤ n4:=by rw [hn];exact E.size
  have m4_1 : n1 < n4:=by rw [hn];exact blk_lt q1
  replace q1:=keep_alloc hw q1
  have q4:=new_row hw hn
  replace E:=ext_alloc E hw
  clear hw hn
  refine seq_to rfl rfl (R_storeRow rfl rfl rfl (by kernel_rfl) (tp_cells_one hone) q4 rfl) fun w4 hw=>?_
  replace q1:=keep_cells hw q1 (by omega)
  replace q4:=put_row hw q4 rfl
  replace E:=ext_cells E hw (fun h=>by first | exact absurd h (by omega) | simp)
  clear hw
  refine seq_val rfl rfl (R_assign (v:=.int .i64 _) rfl rfl) (by simp only [ls,lz];exact rfl) ?_
  refine wpList_nil ?_
  clear e1
  go_upto_region 4 with (fail)
  refine wp_region_lit ?_
  refine seq_val rfl rfl (R_loadBlk rfl rfl Try.underlying100 rfl (by kernel_rfl) q4) (by simp only [ls,lz];exact rfl) ?_
  refine seq_call rfl rfl (by kernel_rfl) (HS.out _ E) fun e w5 hR=>?_
  obtain ⟨rfl,e1⟩:=hR
  refine ⟨_,_,rfl,(by simp only [ls,lz];exact rfl),?_⟩
  replace q1:=(e1).keep0 q1
  replace q4:=(e1).keep0 q4
  replace E:=ext_same E (e1)
  refine seq_val rfl rfl (R_move (v:=.tuple _) rfl rfl) (by simp only [ls,lz];exact rfl) ?_
  refine seq_val rfl rfl (R_extract rfl rfl (get0)) (by simp only [ls,lz];exact rfl) ?_
  refine seq_val rfl rfl (R_extract rfl rfl (getS (get0))) (by simp only [ls,lz];exact rfl) ?_
  refine seq_new rfl rfl (R_alloc rfl Try.zeroValue105) (by simp only [ls,lz];exact rfl) fun w6 hw=>?_
  obtain ⟨n6,hn⟩ : ∃ n,n = w5.heap.size:=⟨_,rfl⟩
  rw [← hn]
  have l6 : w.heap.size ≤ n6:=by rw [hn];exact E.size
  have m6_1 : n1 < n6:=by rw [hn];exact blk_lt q1
  have m6_4 : n4 < n6:=by rw [hn];exact blk_lt q4
  replace q1:=keep_alloc hw q1
  replace q4:=keep_alloc hw q4
  have q6:=new_row hw hn
  replace E:=ext_alloc E hw
  clear hw hn
  refine seq_to rfl rfl (R_storeRow rfl rfl rfl (by rw [matCells_size];kernel_rfl) (by rw [← matList_toArray];exact all_oneCell_toArray (matList_one _)) q6 (by show Try.zeroCells105.size = _;rw [Try.zeroCells105_size,matCells_size])) fun w7 hw=>?_
  replace q1:=keep_cells hw q1 (by omega)
  replace q4:=keep_cells hw q4 (by omega)
  replace q6:=put_row hw q6 (by show Try.zeroCells105.size = _;rw [Try.zeroCells105_size,matCells_size])
  replace E:=ext_cells E hw (fun h=>by first | exact absurd h (by omega) | simp)
  clear hw
  refine seq_val rfl rfl (R_assign (v:=.bool _) rfl rfl) (by simp only [ls,lz];exact rfl) ?_
  refine wpList_nil ?_
  clear e1
  go_wp2
  go_ret2
  exact ⟨rfl,E⟩
 ·rw [openV_no (by rw [open_noX];exact h)] at HK
  rw [show canB t = false from if_neg h]
  obtain ⟨ce,hce⟩ : ∃ ce,ce = checkE t:=⟨_,rfl⟩
  rw [← hce] at h HK ⊢
  clear hce
  have hb : (ce != 0) = true:=by simpa using h
  unfold tpV at HK ⊢
  go_enter Try.func29,Try.ntmps29
  go_upto_region 0 with (fail)
  refine wp_region_lit ?_
  refine seq_new rfl rfl (R_box (v:=.agg _) rfl rfl) (by simp only [ls,lz];exact rfl) fun w1 hw=>?_
  obtain ⟨n1,hn⟩ : ∃ n,n = w.heap.size:=⟨_,rfl⟩
  rw [← hn]
  have l1 : w.heap.size ≤ n1:=by rw [hn];exact E.size
  have q1:=new_row hw hn
  replace E:=ext_alloc E hw
  clear hw hn
  refine seq_val rfl rfl (R_assign (v:=.bool _) rfl rfl) (by simp only [ls,lz];exact rfl) ?_
  refine seq_val rfl rfl (R_assign (v:=.int .i64 _) rfl rfl) (by simp only [ls,lz];exact rfl) ?_
  refine wpList_nil ?_
  go_upto_region 1 with (fail)
  refine wp_region_lit ?_
  refine seq_val rfl rfl (R_loadBlk rfl rfl Try.underlying28 rfl (by kernel_rfl) q1) (by simp only [ls,lz];exact rfl) ?_
  refine seq_call rfl rfl (by kernel_rfl) (HK.out _ E) fun e w2 hR=>?_
  obtain ⟨rfl,e1⟩:=hR
  refine ⟨_,_,rfl,(by simp only [ls,lz];exact rfl),?_⟩
  replace q1:=(e1).keep0 q1
  replace E:=ext_same E (e1)
  refine seq_val rfl rfl (R_move (v:=.tuple _) rfl rfl) (by simp only [ls,lz];exact rfl) ?_
  refine seq_val rfl rfl (R_extract rfl rfl (get0)) (by simp only [ls,lz];exact rfl) ?_
  refine seq_val rfl rfl (R_extract rfl rfl (getS (get0))) (by simp only [ls,lz];exact rfl) ?_
  refine seq_new rfl rfl (R_alloc rfl Try.zeroValue100) (by simp only [ls,lz];exact rfl) fun w3 hw=>?_
  obtain ⟨n4,hn⟩ : ∃ n,n = w2.heap.size:=⟨_,rfl⟩
  rw [← hn]
  have l4 : w.heap.size ≤ n4:=by rw [hn];exact E.size
  have m4_1 : n1 < n4:=by rw [hn];exact blk_lt q1
  replace q1:=keep_alloc hw q1
  have q4:=new_row hw hn
  replace E:=ext_alloc E hw
  clear hw hn
  refine seq_to rfl rfl (R_storeRow rfl rfl rfl (by kernel_rfl) tp_zero_one q4 rfl) fun w4 hw=>?_
  replace q1:=keep_cells hw q1 (by omega)
  replace q4:=put_row hw q4 rfl
  replace E:=ext_cells E hw (fun h=>by first | exact absurd h (by omega) | simp)
  clear hw
  refine seq_val rfl rfl (R_assign (v:=.int .i64 _) rfl rfl) (by simp only [ls,lz];exact rfl) ?_
  refine wpList_nil ?_
  clear e1
  go_wp2
  go_ret2
  exact ⟨rfl,E⟩
def measE (t : Tp) (s a : Int) : Int:=solvedE t (sel3 [s] [a] [])
def measV (t : Tp) (s a : Int) : Int × Int:=if measE t s a = 0 then (-(bdV t 0 (nodeC s a) 0),bdV t 0 0 (nodeC s a)) else (0,0)
theorem solved_open {t : Tp} {xs : Nat → List Int} (h : solvedE t xs = 0) : openE t xs = 0 ∧ bdB t 0 = true:=by
 unfold solvedE at h
 by_cases c : openE t xs = 0
 ·rw [if_neg (by simpa using c)] at h
  refine ⟨c,?_⟩
  cases e : bdB t 0
  ·rw [e] at h;cases h
  ·rfl
 ·rw [if_pos c] at h;exact absurd h c
theorem ask_known {t : Tp} {xs : Nat → List Int} (h : openE t xs = 0) {i : Nat} (hi : i < 3) {n : Int} (hn : n ∈ xs i) : 0 ≤ n ∧ n < lim t i:=by
 have hc:=openE_check h
 unfold openE at h
 rw [if_neg (by simpa using hc)] at h
 have:=map_zero.1 h i (by simpa using hi)
 exact knownE_zero.1 (map_zero.1 this n hn)
set_option maxRecDepth 100000 in
set_option maxHeartbeats 2000000 in
theorem measure_any (t : Tp) (gv rv lv : Value) (s a : Int) (w : World) (ht : IsTp w gv rv lv t) (hl1 : t.gr.length ≤ 1000) (hl2 : t.rd.length ≤ 1000) (hl3 : t.lk.length ≤ 1000) :
  Calls Try.prog 33 #[tpV t gv rv lv,.int .i64 s,.int .i64 a] w fun e w'=>e = .returned (.tuple #[.agg #[.int .i64 (measV t s a).1,.int .i64 (measV t s a).2],.int .i64 (measE t s a)]) ∧ Ext [] w w':=by
 have hone:=tp_one ht
 have HK : Hid (∀ (W : World) (b1 b2 : Nat),Ext [] w W → W.heap[b1]? = some (.cells #[.int .i64 s] 3 (0,0)) → W.heap[b2]? = some (.cells #[.int .i64 a] 3 (0,0)) → Calls Try.prog 90 #[tpV t gv rv lv,.slice (some ⟨b1,0,none⟩) 1 1,.slice (some ⟨b2,0,none⟩) 1 1,.slice none 0 0] W fun e w'=>e = .returned (.tuple #[.agg (openV t (sel3 [s] [a] []) gv rv lv),.agg (matCells (solvedM t (sel3 [s] [a] []))),.int .i64 (measE t s a)]) ∧ Ext [] W w'):=
  fun W b1 b2 e h1 h2=>solved_any t gv rv lv (sel3 [s] [a] []) (sel3 (some ⟨b1,0,none⟩) (some ⟨b2,0,none⟩) none) (sel3 1 1 0) W (ht.ext e (by simp)) hl1 hl2 hl3 (rows3 (rows_lit [s] 1 h1) (rows_lit [a] 1 h2) (rows_nil _ _ _)) (fun i hi=>by rcases i with _ | _ | i <;> simp [sel3])
 clear ht
 have E : Ext [] w w:=Ext.refl _ _
 have hVs:=openV_size t (sel3 [s] [a] []) gv rv lv
 have hVo:=openV_one (t:=t) (xs:=sel3 [s] [a] []) hone
 generalize openV t (sel3 [s] [a] []) gv rv lv = X at HK hVs hVo
 by_cases h : measE t s a = 0
 ·obtain ⟨h1,h2⟩:=solved_open h
  have ok:=(checkE_zero.1 (openE_check h1)).1
  have ks:=ask_known h1 (i:=0) (by omega) (n:=s) (by simp [sel3])
  have ka:=ask_known h1 (i:=1) (by omega) (n:=a) (by simp [sel3])
  have k1:=ok.S3
  have k2:=ok.A3
  rw [show lim t 0 = t.S from rfl] at ks
  rw [show lim t 1 = t.A from rfl] at ka
  rw [show solvedM t (sel3 [s] [a] []) = bdV t 0 from if_pos h1,h] at HK
  rw [show measV t s a = (-(bdV t 0 (nodeC s a) 0),bdV t 0 0 (nodeC s a)) from if_pos h,h]
  have big:=bd_big ok 0 (p:=nodeC s a) (q:=0) (by unfold nodeC;omega) (by omega)
  clear h h1 h2 ok
  obtain ⟨m,hm⟩ : ∃ m,m = bdV t 0:=⟨_,rfl⟩
  rw [← hm] at HK big ⊢
  clear hm
  unfold nodeC at big ⊢
  unfold tpV at HK ⊢
  go_enter Try.func33,Try.ntmps33
  go_upto_region 0 with (fail)
  refine wp_region_lit ?_
  refine seq_new rfl rfl (R_box (v:=.agg _) rfl rfl) (by simp only [ls,lz];exact rfl) fun w1 hw=>?_
  obtain ⟨n3,hn⟩ : ∃ n,n = w.heap.size:=⟨_,rfl⟩
  rw [← hn]
  have l3 : w.heap.size ≤ n3:=by rw [hn];exact E.size
  have q3:=new_row hw hn
  replace E:=ext_alloc E hw
  clear hw hn
  refine seq_new rfl rfl (R_alloc rfl Try.zeroValue23) (by simp only [ls,lz];exact rfl) fun w2 hw=>?_
  obtain ⟨n6,hn⟩ : ∃ n,n = w1.heap.size:=⟨_,rfl⟩
  rw [← hn]
  have l6 : w.heap.size ≤ n6:=by rw [hn];exact E.size
  have m6_3 : n3 < n6:=by rw [hn];exact blk_lt q3
  replace q3:=keep_alloc hw q3
  have q6:=new_row hw hn
  replace E:=ext_alloc E hw
  clear hw hn
  refine seq_val rfl rfl (R_assign (v:=.int .i64 _) rfl rfl) (by simp only [ls,lz];exact rfl) ?_
  refine wpList_nil ?_
  go_upto_region 1 with (fail)
  refine wp_region_lit ?_
  refine seq_val rfl rfl (R_loadBlk rfl rfl Try.underlying28 rfl (by kernel_rfl) q3) (by simp only [ls,lz];exact rfl) ?_
  refine seq_val rfl rfl (R_move (v:=.int .i64 _) rfl rfl) (by simp only [ls,lz];exact rfl) ?_
  refine seq_new rfl rfl (R_buildSlice rfl Try.underlying29 (size:=1) (by kernel_rfl) (by decide) (by decide) Try.zeroValue3 (cells:=#[.int .i64 s]) (by kernel_rfl)) (by simp only [ls,lz];exact rfl) fun w3 hw=>?_
  obtain ⟨n14,hn⟩ : ∃ n,n = w2.heap.size:=⟨_,rfl⟩
  rw [← hn]
  have l14 : w.heap.size ≤ n14:=by rw [hn];exact E.size
  have m14_3 : n3 < n14:=by rw [hn];exact blk_lt q3
  have m14_6 : n6 < n14:=by rw [hn];exact blk_lt q6
  replace q3:=keep_alloc hw q3
  replace q6:=keep_alloc hw q6
  have q14:=new_block hw hn
  replace E:=ext_alloc E hw
  clear hw hn
  refine seq_val rfl rfl (R_move (v:=.int .i64 _) rfl rfl) (by simp only [ls,lz];exact rfl) ?_
  refine seq_new rfl rfl (R_buildSlice rfl Try.underlying29 (size:=1) (by kernel_rfl) (by decide) (by decide) Try.zeroValue3 (cells:=#[.int .i64 a]) (by kernel_rfl)) (by simp only [ls,lz];exact rfl) fun w4 hw=>?_
  obtain ⟨n16,hn⟩ : ∃ n,n = w3.heap.size:=⟨_,rfl⟩
  rw [← hn]
  have l16 : w.heap.size ≤ n16:=by rw [hn];exact E.size
  have m16_3 : n3 < n16:=by rw [hn];exact blk_lt q3
  have m16_6 : n6 < n16:=by rw [hn];exact blk_lt q6
  have m16_14 : n14 < n16:=by rw [hn];exact blk_lt q14
  replace q3:=keep_alloc hw q3
  replace q6:=keep_alloc hw q6
  replace q14:=keep_alloc hw q14
  have q16:=new_block hw hn
  replace E:=ext_alloc E hw
  clear hw hn
  refine seq_call rfl rfl (by kernel_rfl) (HK.out _ n14 n16 E q14 q16) fun e w5 hR=>?_
  obtain ⟨rfl,e1⟩:=hR
  refine ⟨_,_,rfl,(by simp only [ls,lz];exact rfl),?_⟩
  replace q3:=(e1).keep0 q3
  replace q6:=(e1).keep0 q6
  replace q14:=(e1).keep0 q14
  replace q16:=(e1).keep0 q16
  replace E:=ext_same E (e1)
  refine seq_val rfl rfl (R_move (v:=.tuple _) rfl rfl) (by simp only [ls,lz];exact rfl) ?_
  refine seq_val rfl rfl (R_extract rfl rfl (get0)) (by simp only [ls,lz];exact rfl) ?_
  refine seq_val rfl rfl (R_extract rfl rfl (getS (get0))) (by simp only [ls,lz];exact rfl) ?_
  refine seq_val rfl rfl (R_extract rfl rfl (getS (getS (get0)))) (by simp only [ls,lz];exact rfl) ?_
  refine seq_new rfl rfl (R_alloc rfl Try.zeroValue100) (by simp only [ls,lz];exact rfl) fun w6 hw=>?_
  obtain ⟨n8,hn⟩ : ∃ n,n = w5.heap.size:=⟨_,rfl⟩
  rw [← hn]
  have l8 : w.heap.size ≤ n8:=by rw [hn];exact E.size
  have m8_3 : n3 < n8:=by rw [hn];exact blk_lt q3
  have m8_6 : n6 < n8:=by rw [hn];exact blk_lt q6
  have m8_14 : n14 < n8:=by rw [hn];exact blk_lt q14
  have m8_16 : n16 < n8:=by rw [hn];exact blk_lt q16
  replace q3:=keep_alloc hw q3
  replace q6:=keep_alloc hw q6
  replace q14:=keep_alloc hw q14
  replace q16:=keep_alloc hw q16
  have q8:=new_row hw hn
  replace E:=ext_alloc E hw
  clear hw hn
  refine seq_new rfl rfl (R_alloc rfl Try.zeroValue105) (by simp only [ls,lz];exact rfl) fun w7 hw=>?_
  obtain ⟨n9,hn⟩ : ∃ n,n = w6.heap.size:=⟨_,rfl⟩
  rw [← hn]
  have l9 : w.heap.size ≤ n9:=by rw [hn];exact E.size
  have m9_3 : n3 < n9:=by rw [hn];exact blk_lt q3
  have m9_6 : n6 < n9:=by rw [hn];exact blk_lt q6
  have m9_14 : n14 < n9:=by rw [hn];exact blk_lt q14
  have m9_16 : n16 < n9:=by rw [hn];exact blk_lt q16
  have m9_8 : n8 < n9:=by rw [hn];exact blk_lt q8
  replace q3:=keep_alloc hw q3
  replace q6:=keep_alloc hw q6
  replace q14:=keep_alloc hw q14
  replace q16:=keep_alloc hw q16
  replace q8:=keep_alloc hw q8
  have q9:=new_row hw hn
  replace E:=ext_alloc E hw
  clear hw hn
  refine seq_to rfl rfl (R_storeRow rfl rfl rfl (by rw [hVs];kernel_rfl) hVo q8 (by rw [hVs];rfl)) fun w8 hw=>?_
  replace q3:=keep_cells hw q3 (by omega)
  replace q6:=keep_cells hw q6 (by omega)
  replace q14:=keep_cells hw q14 (by omega)
  replace q16:=keep_cells hw q16 (by omega)
  replace q8:=put_row hw q8 (by rw [hVs];rfl)
  replace q9:=keep_cells hw q9 (by omega)
  replace E:=ext_cells E hw (fun h=>by first | exact absurd h (by omega) | simp)
  clear hw
  refine seq_to rfl rfl (R_storeRow rfl rfl rfl (by rw [matCells_size];kernel_rfl) (by rw [← matList_toArray];exact all_oneCell_toArray (matList_one _)) q9 (by show Try.zeroCells105.size = _;rw [Try.zeroCells105_size,matCells_size])) fun w9 hw=>?_
  replace q3:=keep_cells hw q3 (by omega)
  replace q6:=keep_cells hw q6 (by omega)
  replace q14:=keep_cells hw q14 (by omega)
  replace q16:=keep_cells hw q16 (by omega)
  replace q8:=keep_cells hw q8 (by omega)
  replace q9:=put_row hw q9 (by show Try.zeroCells105.size = _;rw [Try.zeroCells105_size,matCells_size])
  replace E:=ext_cells E hw (fun h=>by first | exact absurd h (by omega) | simp)
  clear hw
  refine seq_val rfl rfl (R_assign (v:=.int .i64 _) rfl rfl) (by simp only [ls,lz];exact rfl) ?_
  refine wpList_nil ?_
  clear e1
  go_upto_region 4 with (fail)
  refine wp_region_st 4 follows (by kernel_rfl) fun w10 hw10 ew10=>?_
  replace q3:=keep_same hw10 q3
  replace q6:=keep_same hw10 q6
  replace q14:=keep_same hw10 q14
  replace q16:=keep_same hw10 q16
  replace q8:=keep_same hw10 q8
  replace q9:=keep_same hw10 q9
  replace E:=ext_same E ew10
  clear hw10 ew10
  refine still_val rfl rfl (R_loadBlk rfl rfl Try.underlying105 rfl (by rw [matCells_size];kernel_rfl) q9) (by simp only [ls,lz];exact rfl) ?_
  refine still_val rfl rfl (R_move (v:=.int .i64 _) rfl rfl) (by simp only [ls,lz];exact rfl) ?_
  refine still_val rfl rfl (R_move (v:=.int .i64 _) rfl rfl) (by simp only [ls,lz];exact rfl) ?_
  refine still_call rfl rfl (by kernel_rfl) (cell_any s a _ (by omega) (by omega) (by omega) (by omega)) (by simp only [ls,lz];exact rfl) ?_
  refine wpStill_nil ?_
  refine seq_call rfl rfl (by kernel_rfl) (apart_any m 0 (1 + s * 3 + a) _ (by omega) (by omega) (by omega) (by omega) big.1 big.2) fun e w11 hR=>?_
  obtain ⟨rfl,hb⟩:=hR
  refine ⟨_,_,rfl,(by simp only [ls,lz];exact rfl),?_⟩
  replace q3:=(Ext.of_below hb).keep0 q3
  replace q6:=(Ext.of_below hb).keep0 q6
  replace q14:=(Ext.of_below hb).keep0 q14
  replace q16:=(Ext.of_below hb).keep0 q16
  replace q8:=(Ext.of_below hb).keep0 q8
  replace q9:=(Ext.of_below hb).keep0 q9
  replace E:=ext_same E (Ext.of_below hb)
  refine seq_to rfl rfl (R_storeRow rfl rfl rfl (by kernel_rfl) (by simp [Value.oneCell']) q6 rfl) fun w12 hw=>?_
  replace q3:=keep_cells hw q3 (by omega)
  replace q6:=put_row hw q6 rfl
  replace q14:=keep_cells hw q14 (by omega)
  replace q16:=keep_cells hw q16 (by omega)
  replace q8:=keep_cells hw q8 (by omega)
  replace q9:=keep_cells hw q9 (by omega)
  replace E:=ext_cells E hw (fun h=>by first | exact absurd h (by omega) | simp)
  clear hw
  refine seq_val rfl rfl (R_assign (v:=.int .i64 _) rfl rfl) (by simp only [ls,lz];exact rfl) ?_
  refine wpList_nil ?_
  go_wp2
  refine bodyPost_ret (res_ct rfl rfl Try.underlying23 rfl (by kernel_rfl) q6 rfl) rfl ⟨rfl,E⟩
 ·rw [show measV t s a = (0,0) from if_neg h]
  obtain ⟨ce,hce⟩ : ∃ ce,ce = measE t s a:=⟨_,rfl⟩
  rw [← hce] at h HK ⊢
  clear hce
  have hb : (ce != 0) = true:=by simpa using h
  generalize solvedM t (sel3 [s] [a] []) = m at HK
  unfold tpV at HK ⊢
  go_enter Try.func33,Try.ntmps33
  go_upto_region 0 with (fail)
  refine wp_region_lit ?_
  refine seq_new rfl rfl (R_box (v:=.agg _) rfl rfl) (by simp only [ls,lz];exact rfl) fun w1 hw=>?_
  obtain ⟨n3,hn⟩ : ∃ n,n = w.heap.size:=⟨_,rfl⟩
  rw [← hn]
  have l3 : w.heap.size ≤ n3:=by rw [hn];exact E.size
  have q3:=new_row hw hn
  replace E:=ext_alloc E hw
  clear hw hn
  refine seq_new rfl rfl (R_alloc rfl Try.zeroValue23) (by simp only [ls,lz];exact rfl) fun w2 hw=>?_
  obtain ⟨n6,hn⟩ : ∃ n,n = w1.heap.size:=⟨_,rfl⟩
  rw [← hn]
  have l6 : w.heap.size ≤ n6:=by rw [hn];exact E.size
  have m6_3 : n3 < n6:=by rw [hn];exact blk_lt q3
  replace q3:=keep_alloc hw q3
  have q6:=new_row hw hn
  replace E:=ext_alloc E hw
  clear hw hn
  refine seq_val rfl rfl (R_assign (v:=.int .i64 _) rfl rfl) (by simp only [ls,lz];exact rfl) ?_
  refine wpList_nil ?_
  go_upto_region 1 with (fail)
  refine wp_region_lit ?_
  refine seq_val rfl rfl (R_loadBlk rfl rfl Try.underlying28 rfl (by kernel_rfl) q3) (by simp only [ls,lz];exact rfl) ?_
  refine seq_val rfl rfl (R_move (v:=.int .i64 _) rfl rfl) (by simp only [ls,lz];exact rfl) ?_
  refine seq_new rfl rfl (R_buildSlice rfl Try.underlying29 (size:=1) (by kernel_rfl) (by decide) (by decide) Try.zeroValue3 (cells:=#[.int .i64 s]) (by kernel_rfl)) (by simp only [ls,lz];exact rfl) fun w3 hw=>?_
  obtain ⟨n14,hn⟩ : ∃ n,n = w2.heap.size:=⟨_,rfl⟩
  rw [← hn]
  have l14 : w.heap.size ≤ n14:=by rw [hn];exact E.size
  have m14_3 : n3 < n14:=by rw [hn];exact blk_lt q3
  have m14_6 : n6 < n14:=by rw [hn];exact blk_lt q6
  replace q3:=keep_alloc hw q3
  replace q6:=keep_alloc hw q6
  have q14:=new_block hw hn
  replace E:=ext_alloc E hw
  clear hw hn
  refine seq_val rfl rfl (R_move (v:=.int .i64 _) rfl rfl) (by simp only [ls,lz];exact rfl) ?_
  refine seq_new rfl rfl (R_buildSlice rfl Try.underlying29 (size:=1) (by kernel_rfl) (by decide) (by decide) Try.zeroValue3 (cells:=#[.int .i64 a]) (by kernel_rfl)) (by simp only [ls,lz];exact rfl) fun w4 hw=>?_
  obtain ⟨n16,hn⟩ : ∃ n,n = w3.heap.size:=⟨_,rfl⟩
  rw [← hn]
  have l16 : w.heap.size ≤ n16:=by rw [hn];exact E.size
  have m16_3 : n3 < n16:=by rw [hn];exact blk_lt q3
  have m16_6 : n6 < n16:=by rw [hn];exact blk_lt q6
  have m16_14 : n14 < n16:=by rw [hn];exact blk_lt q14
  replace q3:=keep_alloc hw q3
  replace q6:=keep_alloc hw q6
  replace q14:=keep_alloc hw q14
  have q16:=new_block hw hn
  replace E:=ext_alloc E hw
  clear hw hn
  refine seq_call rfl rfl (by kernel_rfl) (HK.out _ n14 n16 E q14 q16) fun e w5 hR=>?_
  obtain ⟨rfl,e1⟩:=hR
  refine ⟨_,_,rfl,(by simp only [ls,lz];exact rfl),?_⟩
  replace q3:=(e1).keep0 q3
  replace q6:=(e1).keep0 q6
  replace q14:=(e1).keep0 q14
  replace q16:=(e1).keep0 q16
  replace E:=ext_same E (e1)
  refine seq_val rfl rfl (R_move (v:=.tuple _) rfl rfl) (by simp only [ls,lz];exact rfl) ?_
  refine seq_val rfl rfl (R_extract rfl rfl (get0)) (by simp only [ls,lz];exact rfl) ?_
  refine seq_val rfl rfl (R_extract rfl rfl (getS (get0))) (by simp only [ls,lz];exact rfl) ?_
  refine seq_val rfl rfl (R_extract rfl rfl (getS (getS (get0)))) (by simp only [ls,lz];exact rfl) ?_
  refine seq_new rfl rfl (R_alloc rfl Try.zeroValue100) (by simp only [ls,lz];exact rfl) fun w6 hw=>?_
  obtain ⟨n8,hn⟩ : ∃ n,n = w5.heap.size:=⟨_,rfl⟩
  rw [← hn]
  have l8 : w.heap.size ≤ n8:=by rw [hn];exact E.size
  have m8_3 : n3 < n8:=by rw [hn];exact blk_lt q3
  have m8_6 : n6 < n8:=by rw [hn];exact blk_lt q6
  have m8_14 : n14 < n8:=by rw [hn];exact blk_lt q14
  have m8_16 : n16 < n8:=by rw [hn];exact blk_lt q16
  replace q3:=keep_alloc hw q3
  replace q6:=keep_alloc hw q6
  replace q14:=keep_alloc hw q14
  replace q16:=keep_alloc hw q16
  have q8:=new_row hw hn
  replace E:=ext_alloc E hw
  clear hw hn
  refine seq_new rfl rfl (R_alloc rfl Try.zeroValue105) (by simp only [ls,lz];exact rfl) fun w7 hw=>?_
  obtain ⟨n9,hn⟩ : ∃ n,n = w6.heap.size:=⟨_,rfl⟩
  rw [← hn]
  have l9 : w.heap.size ≤ n9:=by rw [hn];exact E.size
  have m9_3 : n3 < n9:=by rw [hn];exact blk_lt q3
  have m9_6 : n6 < n9:=by rw [hn];exact blk_lt q6
  have m9_14 : n14 < n9:=by rw [hn];exact blk_lt q14
  have m9_16 : n16 < n9:=by rw [hn];exact blk_lt q16
  have m9_8 : n8 < n9:=by rw [hn];exact blk_lt q8
  replace q3:=keep_alloc hw q3
  replace q6:=keep_alloc hw q6
  replace q14:=keep_alloc hw q14
  replace q16:=keep_alloc hw q16
  replace q8:=keep_alloc hw q8
  have q9:=new_row hw hn
  replace E:=ext_alloc E hw
  clear hw hn
  refine seq_to rfl rfl (R_storeRow rfl rfl rfl (by rw [hVs];kernel_rfl) hVo q8 (by rw [hVs];rfl)) fun w8 hw=>?_
  replace q3:=keep_cells hw q3 (by omega)
  replace q6:=keep_cells hw q6 (by omega)
  replace q14:=keep_cells hw q14 (by omega)
  replace q16:=keep_cells hw q16 (by omega)
  replace q8:=put_row hw q8 (by rw [hVs];rfl)
  replace q9:=keep_cells hw q9 (by omega)
  replace E:=ext_cells E hw (fun h=>by first | exact absurd h (by omega) | simp)
  clear hw
  refine seq_to rfl rfl (R_storeRow rfl rfl rfl (by rw [matCells_size];kernel_rfl) (by rw [← matList_toArray];exact all_oneCell_toArray (matList_one _)) q9 (by show Try.zeroCells105.size = _;rw [Try.zeroCells105_size,matCells_size])) fun w9 hw=>?_
  replace q3:=keep_cells hw q3 (by omega)
  replace q6:=keep_cells hw q6 (by omega)
  replace q14:=keep_cells hw q14 (by omega)
  replace q16:=keep_cells hw q16 (by omega)
  replace q8:=keep_cells hw q8 (by omega)
  replace q9:=put_row hw q9 (by show Try.zeroCells105.size = _;rw [Try.zeroCells105_size,matCells_size])
  replace E:=ext_cells E hw (fun h=>by first | exact absurd h (by omega) | simp)
  clear hw
  refine seq_val rfl rfl (R_assign (v:=.int .i64 _) rfl rfl) (by simp only [ls,lz];exact rfl) ?_
  refine wpList_nil ?_
  clear e1
  go_upto_region 3 with (fail)
  refine wp_region_lit ?_
  refine seq_val rfl rfl (R_build' rfl (cells:=#[.int .i64 0,.int .i64 0]) (by kernel_rfl)) (by simp only [ls,lz];exact rfl) ?_
  refine seq_val rfl rfl (R_move (v:=.int .i64 _) rfl rfl) (by simp only [ls,lz];exact rfl) ?_
  refine seq_to rfl rfl (R_storeRow rfl rfl rfl (by kernel_rfl) (by simp [Value.oneCell']) q6 rfl) fun w10 hw=>?_
  replace q3:=keep_cells hw q3 (by omega)
  replace q6:=put_row hw q6 rfl
  replace q14:=keep_cells hw q14 (by omega)
  replace q16:=keep_cells hw q16 (by omega)
  replace q8:=keep_cells hw q8 (by omega)
  replace q9:=keep_cells hw q9 (by omega)
  replace E:=ext_cells E hw (fun h=>by first | exact absurd h (by omega) | simp)
  clear hw
  refine seq_val rfl rfl (R_assign (v:=.int .i64 _) rfl rfl) (by simp only [ls,lz];exact rfl) ?_
  refine wpList_nil ?_
  go_wp2
  refine bodyPost_ret (res_ct rfl rfl Try.underlying23 rfl (by kernel_rfl) q6 rfl) rfl ⟨rfl,E⟩
section
variable {P : Program} {md : Region.Mode} {ops : Array Oper} {Q : Exit → Act → World → Prop} {T : World → Prop} {last : Nat}
def wpAnyU (P : Program) (md : Region.Mode) (ops : Array Oper) (Q : Exit → Act → World → Prop) (T : World → Prop) (last : Nat) : Nat → Array Bool → Act → World → Prop
 | 0,listed,a,w=>Region.ready md ops listed = [] ∧ Q .normal a w
 | fuel + 1,listed,a,w =>
  (Region.ready md ops listed = [] → Q .normal a w) ∧
  ∀ i ∈ Region.ready md ops listed,wpOp P ops Q i (fun a' w'=>((listed.setIfInBounds i true).getD last true = false → T w') ∧ wpAnyU P md ops Q T last fuel (listed.setIfInBounds i true) a' w') a w
theorem anyU_any : ∀ (fuel : Nat) (listed : Array Bool) (a : Act) (w : World),wpAnyU P md ops Q T last fuel listed a w → wpAny P md ops Q fuel listed a w
 | 0,_,_,_,h=>h
 | fuel + 1,_,_,_,h=>⟨h.1,fun i hi=>wpOp_mono (fun a' w' h'=>anyU_any fuel _ a' w' h'.2) (h.2 i hi)⟩
theorem anyU_first {i : Nat} {oi ol : Oper} {v : Value} (hi : ops[i]? = some oi) (hil : i ≠ last) (hol : ops[last]? = some ol) (hwait : ∃ e ∈ ol.after,Region.binds md e = true ∧ e.on = i) (hsel : ∀ (j : Nat) (o : Oper) cs b,ops[j]? = some o → o.op ≠ .select cs b)
  (hQ : ∀ c a w,Q (.panic c) (a.put oi.dst v) w → Q (.panic c) a w) :
  ∀ (fuel : Nat) (listed : Array Bool) (a : Act) (w : World),
   (∀ j oj,ops[j]? = some oj → j ≠ i → listed.getD j true = false → (∀ e ∈ oj.after,Region.binds md e = true → e.on ≠ i) → oi.apart ops oj = true) →
   i ∈ Region.ready md ops listed → YieldsIf P ops T oi v a → listed.getD last true = false → T w →
   wpAnyU P md ops Q T last fuel (listed.setIfInBounds i true) (a.put oi.dst v) w → wpAnyU P md ops Q T last (fuel + 1) listed a w:=by
 intro fuel
 induction fuel with
 | zero =>
  intro listed a w _ hr hy hl hT H
  refine ⟨fun h=>(by rw [h] at hr;cases hr),fun j hj=>?_⟩
  by_cases hji : j = i
  ·subst hji;exact hy.wpOp hi hT ⟨fun _=>hT,H⟩
  ·have:=ready_mono hj hji
   rw [H.1] at this
   cases this
 | succ fuel ih =>
  intro listed a w hfree hr hy hl hT H
  refine ⟨fun h=>(by rw [h] at hr;cases hr),fun j hj=>?_⟩
  by_cases hji : j = i
  ·subst hji;exact hy.wpOp hi hT ⟨fun _=>hT,H⟩
  ·have h1:=H.2 j (ready_mono hj hji)
   obtain ⟨hjun,oj,hoj,hall⟩:=mem_ready.1 hj
   have hnot : ∀ e ∈ oj.after,Region.binds md e = true → e.on ≠ i:=fun e he hb heq=>by
    have h1:=hall e he hb
    have h0:=(mem_ready.1 hr).1
    rw [heq] at h1
    rcases Nat.lt_or_ge i listed.size with h' | h'
    ·simp [h'] at h0 h1;rw [h0] at h1;cases h1
    ·simp [Array.getElem?_eq_none h'] at h1
   have hjl : j ≠ last:=fun e=>by
    subst e
    rw [hoj] at hol;cases hol
    obtain ⟨e,he,hb,heq⟩:=hwait
    exact hnot e he hb heq
   have h2:=wpOp_putIf hoj (hfree j oj hoj hji hjun hnot) (fun cs b=>hsel i oi cs b hi) (fun cs b=>hsel j oj cs b hoj) hQ hy h1
   have hfree' : ∀ k ok,ops[k]? = some ok → k ≠ i → (listed.setIfInBounds j true).getD k true = false →
     (∀ e ∈ ok.after,Region.binds md e = true → e.on ≠ i) → oi.apart ops ok = true:=fun k ok hk hki hun hno=>by
    refine hfree k ok hk hki ?_ hno
    by_cases hjk : j = k
    ·subst hjk;exact hjun
    ·rw [getD_set_ne true hjk] at hun;exact hun
   have hl2 : (listed.setIfInBounds j true).getD last true = false:=by rw [getD_set_ne true hjl];exact hl
   have hl3 : ((listed.setIfInBounds i true).setIfInBounds j true).getD last true = false:=by rw [getD_set_ne true hjl,getD_set_ne true hil];exact hl
   refine wpOp_mono (fun a' w' h3=>⟨fun _=>h3.2.1 hl3,ih (listed.setIfInBounds j true) a' w' hfree' (ready_mono hr (Ne.symm hji)) h3.1 hl2 (h3.2.1 hl3) ?_⟩) h2
   rw [Array.setIfInBounds_comm _ _ hji]
   exact h3.2.2
theorem anyU_take {i d : Nat} {oi ol : Oper} {v : Value} {fuel : Nat} {listed : Array Bool} {l l' : List Value} {ds : List Deferred} {w : World} (hi : ops[i]? = some oi) (hol : ops[last]? = some ol) (hil : i ≠ last)
  (hwait : (ol.after.any fun e=>Region.binds md e && e.on == i) = true) (hs : Region.noSelect ops = true) (hf : Region.free md ops listed i = true) (hr : (Region.ready md ops listed).contains i = true) (hll : listed.getD last true = false)
  (hQ : ∀ c a w,Q (.panic c) (a.put oi.dst v) w → Q (.panic c) a w) (hd : oi.dst = some d) (hw : Region.wanted oi (yielded ops l.toArray) = true) (hrun : ∀ w,T w → (execOp (Act.eval ⟨l.toArray,ds⟩) oi).run P w = .ok (.value v) w) (hT : T w) (hl : l.set d v = l')
  (h : wpAnyU P md ops Q T last fuel (listed.setIfInBounds i true) ⟨l'.toArray,ds⟩ w) : wpAnyU P md ops Q T last (fuel + 1) listed ⟨l.toArray,ds⟩ w:=by
 refine anyU_first hi hil hol ?_ (Region.noSelect_spec hs) hQ fuel listed _ w (Region.free_spec hi hf) (by simpa using hr) (.inl ⟨hw,hrun⟩) hll hT (by rw [put_lit _ hd,hl];exact h)
 obtain ⟨e,he,hb⟩:=Array.any_eq_true'.1 hwait
 simp only [Bool.and_eq_true,beq_iff_eq] at hb
 exact ⟨e,he,hb.1,hb.2⟩
theorem anyU_op {i : Nat} {o : Oper} {fuel : Nat} {listed : Array Bool} {a : Act} {w : World} (hi : ops[i]? = some o) (hr : Region.ready md ops listed = [i])
  (hw : Region.wanted o (yielded ops a.tmps) = true) (h : o.wp P a w (fun a' w'=>((listed.setIfInBounds i true).getD last true = false → T w') ∧ wpAnyU P md ops Q T last fuel (listed.setIfInBounds i true) a' w') Q) : wpAnyU P md ops Q T last (fuel + 1) listed a w:=by
 refine ⟨fun h0=>(by rw [hr] at h0;cases h0),fun j hj=>?_⟩
 rw [hr] at hj
 obtain rfl : j = i:=by simpa using hj
 unfold wpOp
 simp only [hi,hw,if_true]
 exact .inl h
theorem anyU_new {i d : Nat} {o : Oper} {v : Value} {fuel : Nat} {listed : Array Bool} {l l' : List Value} {ds : List Deferred} {w w' : World} (hi : ops[i]? = some o) (hr : Region.ready md ops listed = [i])
  (hd : o.dst = some d) (hw : Region.wanted o (yielded ops l.toArray) = true) (hrun : (execOp (Act.eval ⟨l.toArray,ds⟩) o).run P w = .ok (.value v) w') (hl : l.set d v = l')
  (h : ∀ W2,W2 = w' → ((listed.setIfInBounds i true).getD last true = false → T W2) ∧ wpAnyU P md ops Q T last fuel (listed.setIfInBounds i true) ⟨l'.toArray,ds⟩ W2) : wpAnyU P md ops Q T last (fuel + 1) listed ⟨l.toArray,ds⟩ w:=by
 refine anyU_op hi hr hw ?_
 unfold Oper.wp
 simp only [hrun,Oper.upon]
 rw [put_lit _ hd,hl]
 exact h _ rfl
theorem anyU_call {i d : Nat} {o : Oper} {f : FuncId} {args : Array Value} {R : Ending → World → Prop} {fuel : Nat} {listed : Array Bool} {l : List Value} {ds : List Deferred} {w : World} (hi : ops[i]? = some o) (hr : Region.ready md ops listed = [i])
  (hd : o.dst = some d) (hw : Region.wanted o (yielded ops l.toArray) = true) (hrun : (execOp (Act.eval ⟨l.toArray,ds⟩) o).run P w = .ok (.enter f args) w) (hc : Calls P f args w R)
  (h : ∀ e w',R e w' → ∃ v l',e = .returned v ∧ l.set d v = l' ∧ T w' ∧ wpAnyU P md ops Q T last fuel (listed.setIfInBounds i true) ⟨l'.toArray,ds⟩ w') : wpAnyU P md ops Q T last (fuel + 1) listed ⟨l.toArray,ds⟩ w:=by
 refine anyU_op hi hr hw ?_
 unfold Oper.wp
 simp only [hrun,Oper.upon]
 refine hc.mono fun e w' hR=>?_
 obtain ⟨v,l',rfl,hl,h3,h4⟩:=h e w' hR
 show _ ∧ _
 rw [put_lit _ hd,hl]
 exact ⟨fun _=>h3,h4⟩
theorem anyU_last {o : Oper} {fuel : Nat} {listed : Array Bool} {l : List Value} {ds : List Deferred} {w w' : World} (hi : ops[last]? = some o) (hr : Region.ready md ops listed = [last])
  (hd : o.dst = none) (hw : Region.wanted o (yielded ops l.toArray) = true) (hrun : (execOp (Act.eval ⟨l.toArray,ds⟩) o).run P w = .ok .skip w') (hlast : (listed.setIfInBounds last true).getD last true = true)
  (h : ∀ W2,W2 = w' → wpAnyU P md ops Q T last fuel (listed.setIfInBounds last true) ⟨l.toArray,ds⟩ W2) : wpAnyU P md ops Q T last (fuel + 1) listed ⟨l.toArray,ds⟩ w:=by
 refine anyU_op hi hr hw ?_
 unfold Oper.wp
 simp only [hrun,Oper.upon,hd,Act.put]
 exact ⟨fun h0=>(by rw [hlast] at h0;cases h0),h _ rfl⟩
theorem anyU_pair {i j : Nat} {fuel : Nat} {listed : Array Bool} {a : Act} {w : World} (hr : Region.ready md ops listed = [i,j])
  (h1 : wpOp P ops Q i (fun a' w'=>((listed.setIfInBounds i true).getD last true = false → T w') ∧ wpAnyU P md ops Q T last fuel (listed.setIfInBounds i true) a' w') a w)
  (h2 : wpOp P ops Q j (fun a' w'=>((listed.setIfInBounds j true).getD last true = false → T w') ∧ wpAnyU P md ops Q T last fuel (listed.setIfInBounds j true) a' w') a w) : wpAnyU P md ops Q T last (fuel + 1) listed a w:=by
 refine ⟨fun h0=>(by rw [hr] at h0;cases h0),fun k hk=>?_⟩
 rw [hr] at hk
 simp only [List.mem_cons,List.not_mem_nil,or_false] at hk
 rcases hk with rfl | rfl
 ·exact h1
 ·exact h2
theorem opU_new {i d : Nat} {o : Oper} {v : Value} {l l' : List Value} {ds : List Deferred} {w w' : World} {K : Act → World → Prop} (hi : ops[i]? = some o)
  (hd : o.dst = some d) (hw : Region.wanted o (yielded ops l.toArray) = true) (hrun : (execOp (Act.eval ⟨l.toArray,ds⟩) o).run P w = .ok (.value v) w') (hl : l.set d v = l')
  (h : ∀ W2,W2 = w' → K ⟨l'.toArray,ds⟩ W2) : wpOp P ops Q i K ⟨l.toArray,ds⟩ w:=by
 unfold wpOp
 simp only [hi,hw,if_true,Oper.wp,hrun,Oper.upon]
 rw [put_lit _ hd,hl]
 exact .inl (h _ rfl)
theorem opU_call {i d : Nat} {o : Oper} {f : FuncId} {args : Array Value} {R : Ending → World → Prop} {l : List Value} {ds : List Deferred} {w : World} {K : Act → World → Prop} (hi : ops[i]? = some o)
  (hd : o.dst = some d) (hw : Region.wanted o (yielded ops l.toArray) = true) (hrun : (execOp (Act.eval ⟨l.toArray,ds⟩) o).run P w = .ok (.enter f args) w) (hc : Calls P f args w R)
  (h : ∀ e w',R e w' → ∃ v l',e = .returned v ∧ l.set d v = l' ∧ K ⟨l'.toArray,ds⟩ w') : wpOp P ops Q i K ⟨l.toArray,ds⟩ w:=by
 unfold wpOp
 simp only [hi,hw,if_true,Oper.wp,hrun,Oper.upon]
 refine .inl (hc.mono fun e w' hR=>?_)
 obtain ⟨v,l',rfl,hl,h4⟩:=h e w' hR
 show K _ _
 rw [put_lit _ hd,hl]
 exact h4
theorem anyU_one {i d : Nat} {o : Oper} {v : Value} {fuel : Nat} {listed : Array Bool} {l l' : List Value} {ds : List Deferred} {w : World} (hi : ops[i]? = some o) (hr : Region.ready md ops listed = [i])
  (hd : o.dst = some d) (hw : Region.wanted o (yielded ops l.toArray) = true) (hrun : ∀ w,T w → (execOp (Act.eval ⟨l.toArray,ds⟩) o).run P w = .ok (.value v) w) (hT : T w) (hl : l.set d v = l')
  (h : wpAnyU P md ops Q T last fuel (listed.setIfInBounds i true) ⟨l'.toArray,ds⟩ w) : wpAnyU P md ops Q T last (fuel + 1) listed ⟨l.toArray,ds⟩ w:=
 anyU_new hi hr hd hw (hrun w hT) hl fun W2 e=>by subst e;exact ⟨fun _=>hT,h⟩
theorem anyU_done {listed : Array Bool} {a : Act} {w : World} (hr : Region.ready md ops listed = []) (h : Q .normal a w) : ∀ fuel,wpAnyU P md ops Q T last fuel listed a w
 | 0=>⟨hr,h⟩
 | _ + 1=>⟨fun _=>h,by rw [hr];simp⟩
theorem region_until {l : List Oper} {L : List Value} {ds : List Deferred} {id : Nat} {w : World} (T : World → Prop) (last : Nat) (hm : P.follows .mixedOrders = true)
  (h : ∀ W : World,W.heap = w.heap → Ext [] w W → wpAnyU P .any l.toArray Q T last l.toArray.size (Array.replicate l.toArray.size false) ⟨L.toArray,ds⟩ W) : (Code.region id l.toArray true).wp P Q ⟨L.toArray,ds⟩ w:=
 wp_region_any hm (anyU_any _ _ _ _ (h _ rfl ⟨rfl,rfl,rfl,Nat.le_refl _,fun _ _ _=>rfl⟩))
end
end Go.Proofs.Ytholfdgebdlgjaa
