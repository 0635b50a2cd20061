/- Parts of a proof: Mof. No conditions. -/
import Derived.Deep.CutRange
import Derived.Test.YtholfdgebdlgjaaPN8
set_option linter.unusedVariables false
set_option linter.unusedSimpArgs false
namespace Go.Proofs.Ytholfdgebdlgjaa
open Go.RowKit
set_option maxRecDepth 100000 in
set_option maxHeartbeats 4000000 in
theorem measuredOf_any (w0 w : World) (b k : Nat) (nv : Value) (S0 A0 wd : Int) (HL : LotsOk w0 w b k nv) (hk : k ≤ 100000) (hS : 1 ≤ S0) (hS3 : S0 ≤ 3) (hA : 1 ≤ A0) (hA3 : A0 ≤ 3) (hw0 : 0 ≤ wd) (hw1 : wd ≤ 60) :
  Calls Try.prog 44 #[.pointer (some ⟨b,0,none⟩),.int .i64 S0,.int .i64 A0,.int .i64 wd] w (MofPost w0 w b k nv S0 A0 wd):=by
 have hb:=HL.1
 have hws : w0.heap.size ≤ w.heap.size:=HL.2.2.1.size
 have E : Ext [b] w w:=Ext.refl _ _
 have hbw : b < w.heap.size:=by obtain ⟨-,-,-,d,st,h,-⟩:=HL;exact blk_lt h
 go_enter Try.func44,Try.ntmps44
 go_upto_region 0 with (fail)
 refine wp_region_lit ?_
 refine seq_new rfl rfl (R_alloc rfl Try.zeroValue28) (by simp only [ls,lz];exact rfl) fun w1 hw=>?_
 obtain ⟨n8,hn⟩ : ∃ n,n = w.heap.size:=⟨_,rfl⟩
 rw [← hn]
 have l8 : w.heap.size ≤ n8:=by rw [hn];exact E.size
 have b8_HL:=Nat.lt_of_lt_of_eq (lots_lt HL) hn.symm
 replace HL:=lots_alloc hw HL
 have q8:=new_row hw hn
 replace E:=ext_alloc E hw
 clear hw hn
 refine seq_val rfl rfl (R_assign (v:=.slice _ _ _) rfl rfl) (by simp only [ls,lz];exact rfl) ?_
 refine seq_val rfl rfl (R_assign (v:=.slice _ _ _) rfl rfl) (by simp only [ls,lz];exact rfl) ?_
 refine wpList_nil ?_
 go_upto_region 1 with (fail)
 refine wp_region_lit ?_
 refine seq_val rfl rfl (R_move (v:=.pointer (some ⟨_,_,none⟩)) rfl rfl) (by simp only [ls,lz];exact rfl) ?_
 refine seq_val rfl rfl (R_move (v:=.int .i64 _) rfl rfl) (by simp only [ls,lz];exact rfl) ?_
 refine seq_call rfl rfl (by kernel_rfl) (in_any w0 _ b _ nv 1 S0 HL (by omega) (by omega) (by omega) (by omega) (by omega)) fun e w2 hR=>?_
 obtain ⟨S,rfl,hS1,hS2,HL,e1⟩:=hR
 refine ⟨_,_,rfl,(by simp only [ls,lz];exact rfl),?_⟩
 replace q8:=(e1).keep q8 (by simp;omega)
 replace E:=E.trans' e1 (fun i hi hl=>by simp only [List.mem_cons,List.not_mem_nil,or_false] at hi ⊢;omega)
 refine seq_val rfl rfl (R_move (v:=.pointer (some ⟨_,_,none⟩)) rfl rfl) (by simp only [ls,lz];exact rfl) ?_
 refine seq_val rfl rfl (R_move (v:=.int .i64 _) rfl rfl) (by simp only [ls,lz];exact rfl) ?_
 refine seq_call rfl rfl (by kernel_rfl) (in_any w0 _ b _ nv 1 A0 HL (by omega) (by omega) (by omega) (by omega) (by omega)) fun e w3 hR=>?_
 obtain ⟨A,rfl,hA1,hA2,HL,e2⟩:=hR
 refine ⟨_,_,rfl,(by simp only [ls,lz];exact rfl),?_⟩
 replace q8:=(e2).keep q8 (by simp;omega)
 replace E:=E.trans' e2 (fun i hi hl=>by simp only [List.mem_cons,List.not_mem_nil,or_false] at hi ⊢;omega)
 refine seq_val rfl rfl (R_move (v:=.pointer (some ⟨_,_,none⟩)) rfl rfl) (by simp only [ls,lz];exact rfl) ?_
 refine seq_call rfl rfl (by kernel_rfl) (in_any w0 _ b _ nv 1 3 HL (by omega) (by omega) (by omega) (by omega) (by omega)) fun e w4 hR=>?_
 obtain ⟨T,rfl,hT1,hT2,HL,e3⟩:=hR
 refine ⟨_,_,rfl,(by simp only [ls,lz];exact rfl),?_⟩
 replace q8:=(e3).keep q8 (by simp;omega)
 replace E:=E.trans' e3 (fun i hi hl=>by simp only [List.mem_cons,List.not_mem_nil,or_false] at hi ⊢;omega)
 refine seq_val rfl rfl (R_move (v:=.pointer (some ⟨_,_,none⟩)) rfl rfl) (by simp only [ls,lz];exact rfl) ?_
 refine seq_new rfl rfl (R_buildSlice rfl Try.underlying29 (size:=1) (by kernel_rfl) (by decide) (by decide) Try.zeroValue3 (cells:=#[.int .i64 0,.int .i64 1,.int .i64 1,.int .i64 2]) (by kernel_rfl)) (by simp only [ls,lz];exact rfl) fun w5 hw=>?_
 obtain ⟨n36,hn⟩ : ∃ n,n = w4.heap.size:=⟨_,rfl⟩
 rw [← hn]
 have l36 : w.heap.size ≤ n36:=by rw [hn];exact E.size
 have b36_HL:=Nat.lt_of_lt_of_eq (lots_lt HL) hn.symm
 have m36_8 : n8 < n36:=by rw [hn];exact blk_lt q8
 replace q8:=keep_alloc hw q8
 replace HL:=lots_alloc hw HL
 have q36:=new_block hw hn
 replace E:=ext_alloc E hw
 clear hw hn
 refine seq_call rfl rfl (by kernel_rfl) (of_any w0 _ b _ nv n36 _ [0,1,1,2] HL (by omega) q36 (by omega) (by decide) (by decide)) fun e w6 hR=>?_
 obtain ⟨sl,rfl,hsl,HL,e4⟩:=hR
 refine ⟨_,_,rfl,(by simp only [ls,lz];exact rfl),?_⟩
 replace q8:=(e4).keep q8 (by simp;omega)
 replace q36:=(e4).keep q36 (by simp;omega)
 replace E:=E.trans' e4 (fun i hi hl=>by simp only [List.mem_cons,List.not_mem_nil,or_false] at hi ⊢;omega)
 refine seq_val rfl rfl (R_build' rfl (cells:=#[.int .i64 S,.int .i64 A,.int .i64 T,.int .i64 0,.int .i64 0,.int .i64 0,.int .i64 0,.int .i64 sl,.slice none 0 0,.slice none 0 0,.slice none 0 0]) (by kernel_rfl)) (by simp only [ls,lz];exact rfl) ?_
 refine seq_new rfl rfl (R_alloc rfl Try.zeroValue28) (by simp only [ls,lz];exact rfl) fun w7 hw=>?_
 obtain ⟨n11,hn⟩ : ∃ n,n = w6.heap.size:=⟨_,rfl⟩
 rw [← hn]
 have l11 : w.heap.size ≤ n11:=by rw [hn];exact E.size
 have b11_HL:=Nat.lt_of_lt_of_eq (lots_lt HL) hn.symm
 have m11_8 : n8 < n11:=by rw [hn];exact blk_lt q8
 have m11_36 : n36 < n11:=by rw [hn];exact blk_lt q36
 replace q8:=keep_alloc hw q8
 replace q36:=keep_alloc hw q36
 replace HL:=lots_alloc hw HL
 have q11:=new_row hw hn
 replace E:=ext_alloc E hw
 clear hw hn
 refine seq_to rfl rfl (R_storeRow rfl rfl rfl (by kernel_rfl) (by simp [Value.oneCell']) q11 rfl) fun w8 hw=>?_
 replace q8:=keep_cells hw q8 (by omega)
 replace q36:=keep_cells hw q36 (by omega)
 replace q11:=put_row hw q11 rfl
 replace HL:=lots_cells hw HL (by omega) (by omega)
 replace E:=ext_cells E hw (fun h=>by first | exact absurd h (by omega) | simp)
 clear hw
 refine wpList_nil ?_
 go_upto_region 2 with (fail)
 refine wp_region_lit ?_
 refine seq_val rfl rfl (R_move (v:=.pointer (some ⟨_,_,none⟩)) rfl rfl) (by simp only [ls,lz];exact rfl) ?_
 refine seq_call rfl rfl (by kernel_rfl) (in_any w0 _ b _ nv 60 100 HL (by omega) (by omega) (by omega) (by omega) (by omega)) fun e w9 hR=>?_
 obtain ⟨bl,rfl,hbl1,hbl2,HL,e5⟩:=hR
 refine ⟨_,_,rfl,(by simp only [ls,lz];exact rfl),?_⟩
 replace q8:=(e5).keep q8 (by simp;omega)
 replace q36:=(e5).keep q36 (by simp;omega)
 replace q11:=(e5).keep q11 (by simp;omega)
 replace E:=E.trans' e5 (fun i hi hl=>by simp only [List.mem_cons,List.not_mem_nil,or_false] at hi ⊢;omega)
 refine seq_val rfl rfl (R_assign (v:=.int .i64 _) rfl rfl) (by simp only [ls,lz];exact rfl) ?_
 refine wpList_nil ?_
 go_upto_region 3 with (fail)
 refine wp_region_lit ?_
 refine seq_val rfl rfl (R_move (v:=.int .i64 _) rfl rfl) (by simp only [ls,lz];exact rfl) ?_
 refine seq_val rfl rfl (R_move (v:=.int .i64 _) rfl rfl) (by simp only [ls,lz];exact rfl) ?_
 refine seq_val rfl rfl (R_move (v:=.int .i64 _) rfl rfl) (by simp only [ls,lz];exact rfl) ?_
 refine seq_val rfl rfl (R_add rfl rfl rfl (by omega) (by omega)) (by simp only [ls,lz];exact rfl) ?_
 refine seq_val rfl rfl (R_build' rfl (cells:=#[.int .i64 bl,.int .i64 (bl + wd)]) (by kernel_rfl)) (by simp only [ls,lz];exact rfl) ?_
 refine seq_val rfl rfl (R_field rfl rfl Try.underlying28 rfl (n:=3) (sz:=2) rfl (by kernel_rfl) (by decide)) (by simp only [ls,lz];exact rfl) ?_
 refine seq_to rfl rfl (R_storeMid rfl rfl rfl (by kernel_rfl) (by simp [Value.oneCell']) q11 (by simp)) fun w10 hw=>?_
 replace q8:=keep_cells hw q8 (by omega)
 replace q36:=keep_cells hw q36 (by omega)
 replace q11:=put_mid2 hw q11 (by simp only [List.setIfInBounds_toArray,ls,lz];exact rfl)
 replace HL:=lots_cells hw HL (by omega) (by omega)
 replace E:=ext_cells E hw (fun h=>by first | exact absurd h (by omega) | simp)
 clear hw
 refine wpList_nil ?_
 go_upto_region 4 with (fail)
 refine wp_region_lit ?_
 refine seq_val rfl rfl (R_move (v:=.pointer (some ⟨_,_,none⟩)) rfl rfl) (by simp only [ls,lz];exact rfl) ?_
 refine seq_call rfl rfl (by kernel_rfl) (upto_any w0 _ b _ nv 3 HL (by omega) (by omega) (by omega)) fun e w11 hR=>?_
 obtain ⟨p1,rfl,hp1,hp1',HL,e6⟩:=hR
 refine ⟨_,_,rfl,(by simp only [ls,lz];exact rfl),?_⟩
 replace q8:=(e6).keep q8 (by simp;omega)
 replace q36:=(e6).keep q36 (by simp;omega)
 replace q11:=(e6).keep q11 (by simp;omega)
 replace E:=E.trans' e6 (fun i hi hl=>by simp only [List.mem_cons,List.not_mem_nil,or_false] at hi ⊢;omega)
 refine seq_val rfl rfl (R_neg rfl rfl (by omega) (by omega)) (by simp only [ls,lz];exact rfl) ?_
 refine seq_val rfl rfl (R_move (v:=.pointer (some ⟨_,_,none⟩)) rfl rfl) (by simp only [ls,lz];exact rfl) ?_
 refine seq_call rfl rfl (by kernel_rfl) (upto_any w0 _ b _ nv 3 HL (by omega) (by omega) (by omega)) fun e w12 hR=>?_
 obtain ⟨p2,rfl,hp2,hp2',HL,e7⟩:=hR
 refine ⟨_,_,rfl,(by simp only [ls,lz];exact rfl),?_⟩
 replace q8:=(e7).keep q8 (by simp;omega)
 replace q36:=(e7).keep q36 (by simp;omega)
 replace q11:=(e7).keep q11 (by simp;omega)
 replace E:=E.trans' e7 (fun i hi hl=>by simp only [List.mem_cons,List.not_mem_nil,or_false] at hi ⊢;omega)
 refine seq_val rfl rfl (R_build' rfl (cells:=#[.int .i64 (-p1),.int .i64 p2]) (by kernel_rfl)) (by simp only [ls,lz];exact rfl) ?_
 refine seq_val rfl rfl (R_field rfl rfl Try.underlying28 rfl (n:=5) (sz:=2) rfl (by kernel_rfl) (by decide)) (by simp only [ls,lz];exact rfl) ?_
 refine seq_to rfl rfl (R_storeMid rfl rfl rfl (by kernel_rfl) (by simp [Value.oneCell']) q11 (by simp)) fun w13 hw=>?_
 replace q8:=keep_cells hw q8 (by omega)
 replace q36:=keep_cells hw q36 (by omega)
 replace q11:=put_mid2 hw q11 (by simp only [List.setIfInBounds_toArray,ls,lz];exact rfl)
 replace HL:=lots_cells hw HL (by omega) (by omega)
 replace E:=ext_cells E hw (fun h=>by first | exact absurd h (by omega) | simp)
 clear hw
 refine wpList_nil ?_
 clear e1 e2 e3 e4 e5 e6 e7 q36
 replace HL:=lots_mono HL (show _ ≤ k + 10 by omega)
 have hSS : S ≤ S0:=by omega
 have hAA : A ≤ A0:=by omega
 have hS' : S ≤ 3:=by omega
 have hA' : A ≤ 3:=by omega
 have hT' : T ≤ 3:=by omega
 have hbl' : bl ≤ 100:=by omega
 replace hp1' : p1 ≤ 3:=by omega
 replace hp2' : p2 ≤ 3:=by omega
 have hsl1 : 0 ≤ sl ∧ sl ≤ 2:=by simp at hsl;omega
 clear hS2 hA2 hT2 hbl2 hsl hS hS3 hA hA3
 obtain ⟨z8,hz8,q8⟩ : ∃ z : Array Value,z.size = 11 ∧ w13.heap[n8]? = some (.cells z 28 (0,0)):=⟨_,rfl,q8⟩
 go_wp2_with fail
 go_loopw [14,13] (fun iv v wr=>∃ (gs : List (Int × Int)) (ms : List (List Int)) (vs : List Value) (ga : Option Addr) (gc : Nat),(gs.length : Int) ≤ S ∧ iv = .int .i64 gs.length ∧ RowsOk bl (bl + wd) A ms gs ∧
  wr.heap[n8]? = some (.cells z8 28 (0,0)) ∧ wr.heap[n11]? = some (.cells #[.int .i64 S,.int .i64 A,.int .i64 T,.int .i64 bl,.int .i64 (bl + wd),.int .i64 (-p1),.int .i64 p2,.int .i64 sl,.slice ga gs.length gc,.slice none 0 0,.slice none 0 0] 28 (0,0)) ∧
  wr.ownsRow (n11 + 1) 23 2 (.slice ga gs.length gc) gs.length (flatG gs) ∧ wr.ownsRow (n11 + 1) 29 1 v ms.length vs ∧ ListsAt wr (n11 + 1) vs ms ∧ LotsOk w0 wr b (k + 10 + 10 * gs.length) nv ∧ Ext [b] w wr) (fun iv _ _=>S.toNat - (intOf iv).toNat)
 case atStart=>exact ⟨[],[],[],none,0,by simp;omega,rfl,RowsOk.nil,q8,q11,World.ownsRow_nil _ _ _ _,World.ownsRow_nil _ _ _ _,lists_nil _ _,HL,E⟩
 case round =>
  clear q8 q11 HL E
  obtain ⟨gs,ms,vs,ga,gc,hgS,rfl,hOk,q8,q11,og,om,hms,HL,E⟩:=hrel
  obtain ⟨va,vc,rfl⟩:=owns_slice om
  obtain ⟨wo,hwo⟩ : ∃ wo,wo = wr:=⟨_,rfl⟩
  subst hwo
  by_cases hlt : (gs.length : Int) < S
  ·have hml:=hOk.len
   have hglen : gs.length ≤ 2:=by omega
   have hmlen : ms.length ≤ 2:=by omega
   have hsz11:=blk_lt q11
   have hbwr : b < wo.heap.size:=Nat.lt_of_lt_of_le hbw E.size
   have hwwr:=E.size
   have Eo:=E
   have q8o:=q8
   have q11o:=q11
   have F : Ext [b] wo wo:=Ext.refl _ _
   go_upto_region 7 with (fail)
   refine wp_region_lit ?_
   refine seq_val rfl rfl (R_move (v:=.int .i64 _) rfl rfl) (by simp only [ls,lz];exact rfl) ?_
   refine seq_val rfl rfl (R_field rfl rfl Try.underlying28 rfl (n:=0) (sz:=1) rfl (by kernel_rfl) (by decide)) (by simp only [ls,lz];exact rfl) ?_
   refine seq_val rfl rfl (R_load rfl rfl Try.underlying3 rfl ((cells_of_block q11 0).trans (get0))) (by simp only [ls,lz];exact rfl) ?_
   refine seq_val rfl rfl (R_lss rfl rfl rfl) (by simp only [ls,lz];exact rfl) ?_
   refine wpList_nil ?_
   go_upto_region 9 with (fail)
   refine wp_region_lit ?_
   refine seq_val rfl rfl (R_assign (v:=.slice _ _ _) rfl rfl) (by simp only [ls,lz];exact rfl) ?_
   refine wpList_nil ?_
   go_upto_region 10 with (fail)
   refine wp_region_lit ?_
   refine seq_val rfl rfl (R_build' rfl (cells:=#[.int .i64 20,.int .i64 (-20)]) (by kernel_rfl)) (by simp only [ls,lz];exact rfl) ?_
   refine seq_new rfl rfl (R_alloc rfl Try.zeroValue23) (by simp only [ls,lz];exact rfl) fun w1 hw=>?_
   obtain ⟨n16,hn⟩ : ∃ n,n = wo.heap.size:=⟨_,rfl⟩
   rw [← hn]
   have l16 : w.heap.size ≤ n16:=by rw [hn];exact E.size
   have l16_F : wo.heap.size ≤ n16:=by rw [hn];exact F.size
   have b16_HL:=Nat.lt_of_lt_of_eq (lots_lt HL) hn.symm
   have m16_8 : n8 < n16:=by rw [hn];exact blk_lt q8
   have m16_11 : n11 < n16:=by rw [hn];exact blk_lt q11
   replace q8:=keep_alloc hw q8
   replace q11:=keep_alloc hw q11
   replace F:=ext_alloc F hw
   replace HL:=lots_alloc hw HL
   have q16:=new_row hw hn
   replace E:=ext_alloc E hw
   clear hw hn
   refine seq_to rfl rfl (R_storeRow rfl rfl rfl (by kernel_rfl) (by simp [Value.oneCell']) q16 rfl) fun w2 hw=>?_
   replace q8:=keep_cells hw q8 (by omega)
   replace q11:=keep_cells hw q11 (by omega)
   replace q16:=put_row hw q16 rfl
   replace F:=ext_cells F hw (fun h=>by first | exact absurd h (by omega) | simp)
   replace HL:=lots_cells hw HL (by omega) (by omega)
   replace E:=ext_cells E hw (fun h=>by first | exact absurd h (by omega) | simp)
   clear hw
   refine wpList_nil ?_
   go_upto_region 11 with (fail)
   refine wp_region_lit ?_
   refine seq_val rfl rfl (R_move (v:=.pointer (some ⟨_,_,none⟩)) rfl rfl) (by simp only [ls,lz];exact rfl) ?_
   refine seq_val rfl rfl (R_field rfl rfl Try.underlying28 rfl (n:=3) (sz:=2) rfl (by kernel_rfl) (by decide)) (by simp only [ls,lz];exact rfl) ?_
   refine seq_val rfl rfl (R_field rfl rfl Try.underlying23 rfl (n:=3) (sz:=1) rfl (by kernel_rfl) (by decide)) (by simp only [ls,lz];exact rfl) ?_
   refine seq_val rfl rfl (R_load rfl rfl Try.underlying3 rfl ((cells_of_block q11 3).trans (getS (getS (getS (get0)))))) (by simp only [ls,lz];exact rfl) ?_
   refine seq_val rfl rfl (R_field rfl rfl Try.underlying28 rfl (n:=3) (sz:=2) rfl (by kernel_rfl) (by decide)) (by simp only [ls,lz];exact rfl) ?_
   refine seq_val rfl rfl (R_field rfl rfl Try.underlying23 rfl (n:=4) (sz:=1) rfl (by kernel_rfl) (by decide)) (by simp only [ls,lz];exact rfl) ?_
   refine seq_val rfl rfl (R_load rfl rfl Try.underlying3 rfl ((cells_of_block q11 4).trans (getS (getS (getS (getS (get0))))))) (by simp only [ls,lz];exact rfl) ?_
   refine seq_call rfl rfl (by kernel_rfl) (in_any w0 _ b _ nv bl (bl + wd) HL (by omega) (by omega) (by omega) (by omega) (by omega)) fun e w3 hR=>?_
   obtain ⟨cur,rfl,hc1,hc2,HL,e1⟩:=hR
   refine ⟨_,_,rfl,(by simp only [ls,lz];exact rfl),?_⟩
   replace q8:=(e1).keep q8 (by simp;omega)
   replace q11:=(e1).keep q11 (by simp;omega)
   replace q16:=(e1).keep q16 (by simp;omega)
   replace F:=F.trans e1
   replace E:=E.trans' e1 (fun i hi hl=>by simp only [List.mem_cons,List.not_mem_nil,or_false] at hi ⊢;omega)
   refine seq_val rfl rfl (R_assign (v:=.int .i64 _) rfl rfl) (by simp only [ls,lz];exact rfl) ?_
   refine wpList_nil ?_
   clear e1
   have hso:=RowSo.nil hc1 (show cur ≤ bl + wd by omega)
   go_upto_region 12 with (fail)
   refine wp_region_lit ?_
   refine seq_val rfl rfl (R_assign (v:=.int .i64 _) rfl rfl) (by simp only [ls,lz];exact rfl) ?_
   refine wpList_nil ?_
   go_wp2_with fail
   go_loopw [18,15,17] (fun iv v cv wr2=>∃ (r : List Int) (lo hi cur : Int),(r.length : Int) ≤ A ∧ iv = .int .i64 r.length ∧ cv = .int .i64 cur ∧ RowSo bl (bl + wd) r lo hi cur ∧
    wr2.heap[n16]? = some (.cells #[.int .i64 lo,.int .i64 hi] 23 (0,0)) ∧ wr2.ownsRow (n16 + 1) 3 1 v r.length (ivs r) ∧ LotsOk w0 wr2 b (k + 11 + 10 * gs.length + r.length) nv ∧ Ext [b] wo wr2) (fun iv _ _ _=>A.toNat - (intOf iv).toNat)
   case atStart=>exact ⟨[],_,_,cur,by simp;omega,rfl,rfl,hso,q16,World.ownsRow_nil _ _ _ _,lots_mono HL (by simp;omega),F⟩
   case round =>
    clear q8 q11 q16 HL E F hso hc1 hc2
    obtain ⟨r,lo,hi,cur,hrA,rfl,rfl,hso,q16,ho,HL,F⟩:=hrel
    obtain ⟨va2,vc2,rfl⟩:=owns_slice ho
    have q11:=F.keep q11o (by simp;omega)
    have hnear:=hso.near
    have hcur1:=hso.c1
    have hcur2:=hso.c2
    clear hml
    by_cases hla : (r.length : Int) < A
    ·have hrg:=hrA
     go_upto_region 13 with (fail)
     refine wp_region_lit ?_
     refine seq_val rfl rfl (R_move (v:=.int .i64 _) rfl rfl) (by simp only [ls,lz];exact rfl) ?_
     refine seq_val rfl rfl (R_field rfl rfl Try.underlying28 rfl (n:=1) (sz:=1) rfl (by kernel_rfl) (by decide)) (by simp only [ls,lz];exact rfl) ?_
     refine seq_val rfl rfl (R_load rfl rfl Try.underlying3 rfl ((cells_of_block q11 1).trans (getS (get0)))) (by simp only [ls,lz];exact rfl) ?_
     refine seq_val rfl rfl (R_lss rfl rfl rfl) (by simp only [ls,lz];exact rfl) ?_
     refine wpList_nil ?_
     go_upto_region 15 with (fail)
     refine wp_region_lit ?_
     refine seq_val rfl rfl (R_move (v:=.int .i64 _) rfl rfl) (by simp only [ls,lz];exact rfl) ?_
     refine seq_val rfl rfl (R_gtr rfl rfl rfl) (by simp only [ls,lz];exact rfl) ?_
     refine wpList_nil ?_
     by_cases h0 : (0 : Int) < (r.length : Int)
     ·have h0' : 0 < r.length:=by omega
      go_upto_region 16 with (fail)
      refine region_any (Ext [b] wr) follows fun w1 hh eS=>?_
      have q11_:=q11
      have q16_:=q16
      replace q11:=keep_same hh q11
      replace q16:=keep_same hh q16
      replace ho:=owns_same hh ho
      replace F:=ext_same F eS
      replace HL:=lots_ext eS HL
      replace eS:=eS.mono (Y:=[b]) (by simp)
      refine anyH_take (i:=0) rfl (by kernel_rfl) (by kernel_rfl) (by kernel_rfl) (fun _ _ _ h=>h) rfl rfl (fun w' hS=>R_field rfl rfl Try.underlying28 rfl (n:=3) (sz:=2) rfl (by kernel_rfl) (by decide)) eS (by simp only [ls,lz];exact rfl) ?_
      refine anyH_take (i:=1) rfl (by kernel_rfl) (by kernel_rfl) (by kernel_rfl) (fun _ _ _ h=>h) rfl rfl (fun w' hS=>R_field rfl rfl Try.underlying23 rfl (n:=3) (sz:=1) rfl (by kernel_rfl) (by decide)) eS (by simp only [ls,lz];exact rfl) ?_
      refine anyH_take (i:=2) rfl (by kernel_rfl) (by kernel_rfl) (by kernel_rfl) (fun _ _ _ h=>h) rfl rfl (fun w' hS=>R_load rfl rfl Try.underlying3 rfl ((cells_of_block (hS.keep q11_ (by simp;omega)) 3).trans (getS (getS (getS (get0)))))) eS (by simp only [ls,lz];exact rfl) ?_
      refine anyH_take (i:=3) rfl (by kernel_rfl) (by kernel_rfl) (by kernel_rfl) (fun _ _ _ h=>h) rfl rfl (fun w' hS=>R_field rfl rfl Try.underlying28 rfl (n:=3) (sz:=2) rfl (by kernel_rfl) (by decide)) eS (by simp only [ls,lz];exact rfl) ?_
      refine anyH_take (i:=4) rfl (by kernel_rfl) (by kernel_rfl) (by kernel_rfl) (fun _ _ _ h=>h) rfl rfl (fun w' hS=>R_field rfl rfl Try.underlying23 rfl (n:=4) (sz:=1) rfl (by kernel_rfl) (by decide)) eS (by simp only [ls,lz];exact rfl) ?_
      refine anyH_take (i:=5) rfl (by kernel_rfl) (by kernel_rfl) (by kernel_rfl) (fun _ _ _ h=>h) rfl rfl (fun w' hS=>R_load rfl rfl Try.underlying3 rfl ((cells_of_block (hS.keep q11_ (by simp;omega)) 4).trans (getS (getS (getS (getS (get0))))))) eS (by simp only [ls,lz];exact rfl) ?_
      refine anyH_take (i:=6) rfl (by kernel_rfl) (by kernel_rfl) (by kernel_rfl) (fun _ _ _ h=>h) rfl rfl (fun w' hS=>R_move (v:=.int .i64 _) rfl rfl) eS (by simp only [ls,lz];exact rfl) ?_
      refine anyH_take (i:=7) rfl (by kernel_rfl) (by kernel_rfl) (by kernel_rfl) (fun _ _ _ h=>h) rfl rfl (fun w' hS=>R_move (v:=.pointer (some ⟨_,_,none⟩)) rfl rfl) eS (by simp only [ls,lz];exact rfl) ?_
      refine anyH_call (i:=8) rfl (by kernel_rfl) rfl rfl (by kernel_rfl) (in_any w0 _ b _ nv (-4) 4 HL (by omega) (by omega) (by omega) (by omega) (by omega)) fun e w2 hR=>?_
      obtain ⟨d,rfl,hd1,hd2,HL,e1⟩:=hR
      replace eS:=eS.trans e1
      replace q11:=(e1).keep q11 (by simp;omega)
      replace q16:=(e1).keep q16 (by simp;omega)
      replace ho:=owns_ext ho e1 (by simp;omega)
      replace F:=F.trans' e1 (fun i hi hl=>by simp only [List.mem_cons,List.not_mem_nil,or_false] at hi ⊢;omega)
      refine ⟨_,_,rfl,(by simp only [ls,lz];exact rfl),eS,?_⟩
      refine anyH_take (i:=9) rfl (by kernel_rfl) (by kernel_rfl) (by kernel_rfl) (fun _ _ _ h=>h) rfl rfl (fun w' hS=>R_add rfl rfl rfl (by omega) (by omega)) eS (by simp only [ls,lz];exact rfl) ?_
      refine anyH_take (i:=10) rfl (by kernel_rfl) (by kernel_rfl) (by kernel_rfl) (fun _ _ _ h=>h) rfl rfl (fun w' hS=>R_min rfl rfl rfl rfl) eS (by simp only [ls,lz];exact rfl) ?_
      refine anyH_take (i:=11) rfl (by kernel_rfl) (by kernel_rfl) (by kernel_rfl) (fun _ _ _ h=>h) rfl rfl (fun w' hS=>R_max rfl rfl rfl rfl) eS (by simp only [ls,lz];exact rfl) ?_
      refine anyH_take (i:=12) rfl (by kernel_rfl) (by kernel_rfl) (by kernel_rfl) (fun _ _ _ h=>h) rfl rfl (fun w' hS=>R_assign (v:=.int .i64 _) rfl rfl) eS (by simp only [ls,lz];exact rfl) ?_
      refine wpAnyH_done (by kernel_rfl) ?_ _
      clear q11_ q16_ hh eS
      clear e1
      obtain ⟨nx,hnx⟩ : ∃ nx,nx = max bl (min (bl + wd) (cur + d)):=⟨_,rfl⟩
      rw [← hnx]
      have hn1 : bl ≤ nx:=by omega
      have hn2 : nx ≤ bl + wd:=by omega
      have hn3 : -4 ≤ nx - cur:=by omega
      have hn4 : nx - cur ≤ 4:=by omega
      clear hnx hd1 hd2
      go_upto_region 17 with (fail)
      refine wp_region_lit ?_
      refine seq_val rfl rfl (R_field rfl rfl Try.underlying23 rfl (n:=0) (sz:=1) rfl (by kernel_rfl) (by decide)) (by simp only [ls,lz];exact rfl) ?_
      refine seq_val rfl rfl (R_load rfl rfl Try.underlying3 rfl ((cells_of_block q16 0).trans (get0))) (by simp only [ls,lz];exact rfl) ?_
      refine seq_val rfl rfl (R_move (v:=.int .i64 _) rfl rfl) (by simp only [ls,lz];exact rfl) ?_
      refine seq_val rfl rfl (R_move (v:=.int .i64 _) rfl rfl) (by simp only [ls,lz];exact rfl) ?_
      refine seq_val rfl rfl (R_sub rfl rfl rfl (by omega) (by omega)) (by simp only [ls,lz];exact rfl) ?_
      refine seq_val rfl rfl (R_min rfl rfl rfl rfl) (by simp only [ls,lz];exact rfl) ?_
      refine seq_val rfl rfl (R_field rfl rfl Try.underlying23 rfl (n:=1) (sz:=1) rfl (by kernel_rfl) (by decide)) (by simp only [ls,lz];exact rfl) ?_
      refine seq_val rfl rfl (R_load rfl rfl Try.underlying3 rfl ((cells_of_block q16 1).trans (getS (get0)))) (by simp only [ls,lz];exact rfl) ?_
      refine seq_val rfl rfl (R_move (v:=.int .i64 _) rfl rfl) (by simp only [ls,lz];exact rfl) ?_
      refine seq_val rfl rfl (R_move (v:=.int .i64 _) rfl rfl) (by simp only [ls,lz];exact rfl) ?_
      refine seq_val rfl rfl (R_sub rfl rfl rfl (by omega) (by omega)) (by simp only [ls,lz];exact rfl) ?_
      refine seq_val rfl rfl (R_max rfl rfl rfl rfl) (by simp only [ls,lz];exact rfl) ?_
      refine seq_val rfl rfl (R_build' rfl (cells:=#[.int .i64 (min lo (nx - cur)),.int .i64 (max hi (nx - cur))]) (by kernel_rfl)) (by simp only [ls,lz];exact rfl) ?_
      refine seq_to rfl rfl (R_storeRow rfl rfl rfl (by kernel_rfl) (by simp [Value.oneCell']) q16 rfl) fun w3 hw=>?_
      replace q11:=keep_cells hw q11 (by omega)
      replace q16:=put_row hw q16 rfl
      replace HL:=lots_cells hw HL (by omega) (by omega)
      replace ho:=owns_cells hw ho (by omega)
      replace F:=ext_cells F hw (fun h=>by first | exact absurd h (by omega) | simp)
      clear hw
      refine wpList_nil ?_
      go_upto_region 18 with (fail)
      refine wp_region_lit ?_
      refine seq_val rfl rfl (R_move (v:=.int .i64 _) rfl rfl) (by simp only [ls,lz];exact rfl) ?_
      refine seq_val rfl rfl (R_assign (v:=.int .i64 _) rfl rfl) (by simp only [ls,lz];exact rfl) ?_
      refine wpList_nil ?_
      go_upto_region 19 with (fail)
      refine wp_region_lit ?_
      refine seq_val rfl rfl (R_move (v:=.slice _ _ _) rfl rfl) (by simp only [ls,lz];exact rfl) ?_
      refine seq_val rfl rfl (R_move (v:=.int .i64 _) rfl rfl) (by simp only [ls,lz];exact rfl) ?_
      refine seq_new rfl rfl (R_buildSlice rfl Try.underlying29 (size:=1) (by kernel_rfl) (by decide) (by decide) Try.zeroValue3 (cells:=#[.int .i64 (nx)]) (by kernel_rfl)) (by simp only [ls,lz];exact rfl) fun w4 hw=>?_
      obtain ⟨n105,hn⟩ : ∃ n,n = w3.heap.size:=⟨_,rfl⟩
      rw [← hn]
      have l105 : wo.heap.size ≤ n105:=by rw [hn];exact F.size
      have b105_HL:=Nat.lt_of_lt_of_eq (lots_lt HL) hn.symm
      have m105_11 : n11 < n105:=by rw [hn];exact blk_lt q11
      have m105_16 : n16 < n105:=by rw [hn];exact blk_lt q16
      have o105_ho:=Lib.hid (own_ne_new ho hn)
      replace q11:=keep_alloc hw q11
      replace q16:=keep_alloc hw q16
      replace HL:=lots_alloc hw HL
      replace ho:=owns_alloc hw ho
      have q105:=new_block hw hn
      replace F:=ext_alloc F hw
      clear hw hn
      have hsz16:=blk_lt q16
      refine seq_append rfl rfl rfl (n16 + 1) (e:=3) (size:=1) (bytes:=8) Try.underlying29 (by kernel_rfl) (by decide) rfl ho rfl q105 rfl (by simp [Value.oneCell']) (by omega) (by omega) (by omega) fun v' w5 hown' hg=>?_
      obtain ⟨va106,vc106,rfl⟩:=owns_slice hown'
      replace q11:=keep_type ho hg q11 (by decide)
      replace q16:=keep_type ho hg q16 (by decide)
      replace HL:=lots_append HL ho hg (by omega) (by decide)
      replace F:=ext_appendX F ho hg (by omega)
      have hgsz:=hg.size
      replace ho:=hown'
      clear hg
      refine ⟨_,(by simp only [ls,lz];exact rfl),?_⟩
      refine seq_val rfl rfl (R_assign (v:=.slice _ _ _) rfl rfl) (by simp only [ls,lz];exact rfl) ?_
      refine wpList_nil ?_
      have hso2:=hso.more h0' hn1 hn2 hn3 hn4
      go_wp2
      go_roundw
      case rel=>exact ⟨r ++ [nx],_,_,_,by rw [List.length_append,List.length_singleton];omega,by rw [List.length_append,List.length_singleton];go_num,rfl,hso2,q16,by rw [ivs_snoc,List.length_append];exact ho,lots_mono HL (by rw [List.length_append,List.length_singleton];omega),F⟩
      case measure=>simp [intOf];omega
     ·have h0' : r.length = 0:=by omega
      obtain ⟨rfl,rfl⟩:=hso.one (by omega)
      go_upto_region 19 with (fail)
      refine wp_region_lit ?_
      refine seq_val rfl rfl (R_move (v:=.slice _ _ _) rfl rfl) (by simp only [ls,lz];exact rfl) ?_
      refine seq_val rfl rfl (R_move (v:=.int .i64 _) rfl rfl) (by simp only [ls,lz];exact rfl) ?_
      refine seq_new rfl rfl (R_buildSlice rfl Try.underlying29 (size:=1) (by kernel_rfl) (by decide) (by decide) Try.zeroValue3 (cells:=#[.int .i64 (cur)]) (by kernel_rfl)) (by simp only [ls,lz];exact rfl) fun w1 hw=>?_
      obtain ⟨n105,hn⟩ : ∃ n,n = wr.heap.size:=⟨_,rfl⟩
      rw [← hn]
      have l105 : wo.heap.size ≤ n105:=by rw [hn];exact F.size
      have b105_HL:=Nat.lt_of_lt_of_eq (lots_lt HL) hn.symm
      have m105_11 : n11 < n105:=by rw [hn];exact blk_lt q11
      have m105_16 : n16 < n105:=by rw [hn];exact blk_lt q16
      have o105_ho:=Lib.hid (own_ne_new ho hn)
      replace q11:=keep_alloc hw q11
      replace q16:=keep_alloc hw q16
      replace HL:=lots_alloc hw HL
      replace ho:=owns_alloc hw ho
      have q105:=new_block hw hn
      replace F:=ext_alloc F hw
      clear hw hn
      have hsz16:=blk_lt q16
      refine seq_append rfl rfl rfl (n16 + 1) (e:=3) (size:=1) (bytes:=8) Try.underlying29 (by kernel_rfl) (by decide) rfl ho rfl q105 rfl (by simp [Value.oneCell']) (by omega) (by omega) (by omega) fun v' w2 hown' hg=>?_
      obtain ⟨va106,vc106,rfl⟩:=owns_slice hown'
      replace q11:=keep_type ho hg q11 (by decide)
      replace q16:=keep_type ho hg q16 (by decide)
      replace HL:=lots_append HL ho hg (by omega) (by decide)
      replace F:=ext_appendX F ho hg (by omega)
      have hgsz:=hg.size
      replace ho:=hown'
      clear hg
      refine ⟨_,(by simp only [ls,lz];exact rfl),?_⟩
      refine seq_val rfl rfl (R_assign (v:=.slice _ _ _) rfl rfl) (by simp only [ls,lz];exact rfl) ?_
      refine wpList_nil ?_
      have hso2:=hso.one' h0'
      go_wp2
      go_roundw
      case rel=>exact ⟨r ++ [cur],_,_,_,by rw [List.length_append,List.length_singleton];omega,by rw [List.length_append,List.length_singleton];go_num,rfl,hso2,q16,by rw [ivs_snoc,List.length_append];exact ho,lots_mono HL (by rw [List.length_append,List.length_singleton];omega),F⟩
      case measure=>simp [intOf];omega
    ·have hrl : (r.length : Int) = A:=by omega
     go_upto_region 13 with (fail)
     refine wp_region_lit ?_
     refine seq_val rfl rfl (R_move (v:=.int .i64 _) rfl rfl) (by simp only [ls,lz];exact rfl) ?_
     refine seq_val rfl rfl (R_field rfl rfl Try.underlying28 rfl (n:=1) (sz:=1) rfl (by kernel_rfl) (by decide)) (by simp only [ls,lz];exact rfl) ?_
     refine seq_val rfl rfl (R_load rfl rfl Try.underlying3 rfl ((cells_of_block q11 1).trans (getS (get0)))) (by simp only [ls,lz];exact rfl) ?_
     refine seq_val rfl rfl (R_lss rfl rfl rfl) (by simp only [ls,lz];exact rfl) ?_
     refine wpList_nil ?_
     go_upto_region 20 with (fail)
     refine wp_region_lit ?_
     refine seq_val rfl rfl (R_field rfl rfl Try.underlying28 rfl (n:=1) (sz:=1) rfl (by kernel_rfl) (by decide)) (by simp only [ls,lz];exact rfl) ?_
     refine seq_val rfl rfl (R_load rfl rfl Try.underlying3 rfl ((cells_of_block q11 1).trans (getS (get0)))) (by simp only [ls,lz];exact rfl) ?_
     refine seq_val rfl rfl (R_eql rfl rfl rfl) (by simp only [ls,lz];exact rfl) ?_
     refine wpList_nil ?_
     go_upto_if 109 with (fail)
     have Hrl:=Lib.hid hrl
     clear hrl
     go_cut [] from 54 to 110 (fun wc=>∃ lo' hi' : Int,Hid (A = 1 → lo' = 0 ∧ hi' = 0) ∧ Hid (A ≠ 1 → lo' = lo ∧ hi' = hi) ∧ wc.heap[n16]? = some (.cells #[.int .i64 lo',.int .i64 hi'] 23 (0,0)) ∧
      wc.heap[n11]? = some (.cells #[.int .i64 S,.int .i64 A,.int .i64 T,.int .i64 bl,.int .i64 (bl + wd),.int .i64 (-p1),.int .i64 p2,.int .i64 sl,.slice ga gs.length gc,.slice none 0 0,.slice none 0 0] 28 (0,0)) ∧ wc.ownsRow (n16 + 1) 3 1 (.slice va2 r.length vc2) r.length (ivs r) ∧ LotsOk w0 wc b (k + 11 + 10 * gs.length + r.length) nv ∧ Ext [b] wo wc)
     case first =>
      by_cases hA1' : A = 1
      ·have HA:=Lib.hid hA1'
       have hb : (A == 1) = true:=by simp [hA1']
       clear hA1'
       go_upto_region 21 with (fail)
       refine wp_region_lit ?_
       refine seq_val rfl rfl (R_build' rfl (cells:=#[.int .i64 0,.int .i64 0]) (by kernel_rfl)) (by simp only [ls,lz];exact rfl) ?_
       refine seq_to rfl rfl (R_storeRow rfl rfl rfl (by kernel_rfl) (by simp [Value.oneCell']) q16 rfl) fun w1 hw=>?_
       replace q11:=keep_cells hw q11 (by omega)
       replace q16:=put_row hw q16 rfl
       replace HL:=lots_cells hw HL (by omega) (by omega)
       replace ho:=owns_cells hw ho (by omega)
       replace F:=ext_cells F hw (fun h=>by first | exact absurd h (by omega) | simp)
       clear hw
       refine wpList_nil ?_
       go_wp2_with fail
       refine Met.intro ?_
       go_step
       (repeat apply Exists.intro)
       refine ⟨?rel,?fr⟩
       case fr=>congr 1
       case rel=>exact ⟨0,0,fun _=>⟨rfl,rfl⟩,fun h=>absurd HA.out h,q16,q11,ho,HL,F⟩
      ·have hb : (A == 1) = false:=by simpa using hA1'
       have HA:=Lib.hid hA1'
       clear hA1'
       go_wp2_with fail
       refine Met.intro ?_
       go_step
       (repeat apply Exists.intro)
       refine ⟨?rel,?fr⟩
       case fr=>congr 1
       case rel=>exact ⟨lo,hi,fun h=>absurd h HA.out,fun _=>⟨rfl,rfl⟩,q16,q11,ho,HL,F⟩
     case rest =>
      clear q16 q11 ho HL F
      obtain ⟨lo2,hi2,hh1,hh2,q16,q11,ho,HL,F⟩:=hcut
      have hnear2 : -20 ≤ lo2 ∧ lo2 ≤ 20 ∧ -20 ≤ hi2 ∧ hi2 ≤ 20:=by
       by_cases hA1' : A = 1
       ·have:=hh1.out hA1';omega
       ·have:=hh2.out hA1';omega
      obtain ⟨wm,hwm⟩ : ∃ wm,wm = wc:=⟨_,rfl⟩
      subst hwm
      have hd:=Lib.hid (fun (u v : Int)=>hso.done (lo':=lo2) (hi':=hi2) (u:=u) (v:=v) Hrl.out hA1 hh1.out hh2.out)
      clear hh1 hh2 hnear
      go_upto_region 22 with (fail)
      go_cut [] from 54 to 125 (fun wc=>∃ glo ghi : Int,RowOk bl (bl + wd) A r (glo,ghi) ∧ wc.heap[n16]? = some (.cells #[.int .i64 glo,.int .i64 ghi] 23 (0,0)) ∧
       wc.heap[n11]? = some (.cells #[.int .i64 S,.int .i64 A,.int .i64 T,.int .i64 bl,.int .i64 (bl + wd),.int .i64 (-p1),.int .i64 p2,.int .i64 sl,.slice ga gs.length gc,.slice none 0 0,.slice none 0 0] 28 (0,0)) ∧ wc.ownsRow (n16 + 1) 3 1 (.slice va2 r.length vc2) r.length (ivs r) ∧ LotsOk w0 wc b (k + 16 + 10 * gs.length) nv ∧ Ext [b] wo wc)
      case first =>
       refine region_until (Ext [b] wm) 15 follows fun w21 hh eS=>?_
       have q11_:=q11
       have q16_:=q16
       replace q11:=keep_same hh q11
       replace q16:=keep_same hh q16
       replace ho:=owns_same hh ho
       replace F:=ext_same F eS
       replace HL:=lots_ext eS HL
       replace eS:=eS.mono (Y:=[b]) (by simp)
       refine anyU_take (i:=0) (last:=15) rfl rfl (by decide) (by kernel_rfl) (by kernel_rfl) (by kernel_rfl) (by kernel_rfl) (by kernel_rfl) (fun _ _ _ h=>h) rfl rfl (fun w' hS=>R_field rfl rfl Try.underlying23 rfl (n:=0) (sz:=1) rfl (by kernel_rfl) (by decide)) eS (by simp only [ls,lz];exact rfl) ?_
       refine anyU_take (i:=1) (last:=15) rfl rfl (by decide) (by kernel_rfl) (by kernel_rfl) (by kernel_rfl) (by kernel_rfl) (by kernel_rfl) (fun _ _ _ h=>h) rfl rfl (fun w' hS=>R_load rfl rfl Try.underlying3 rfl ((cells_of_block (hS.keep q16_ (by simp;omega)) 0).trans (get0))) eS (by simp only [ls,lz];exact rfl) ?_
       refine anyU_take (i:=2) (last:=15) rfl rfl (by decide) (by kernel_rfl) (by kernel_rfl) (by kernel_rfl) (by kernel_rfl) (by kernel_rfl) (fun _ _ _ h=>h) rfl rfl (fun w' hS=>R_move (v:=.pointer (some ⟨_,_,none⟩)) rfl rfl) eS (by simp only [ls,lz];exact rfl) ?_
       refine anyU_take (i:=7) (last:=15) rfl rfl (by decide) (by kernel_rfl) (by kernel_rfl) (by kernel_rfl) (by kernel_rfl) (by kernel_rfl) (fun _ _ _ h=>h) rfl rfl (fun w' hS=>R_field rfl rfl Try.underlying23 rfl (n:=1) (sz:=1) rfl (by kernel_rfl) (by decide)) eS (by simp only [ls,lz];exact rfl) ?_
       refine anyU_take (i:=8) (last:=15) rfl rfl (by decide) (by kernel_rfl) (by kernel_rfl) (by kernel_rfl) (by kernel_rfl) (by kernel_rfl) (fun _ _ _ h=>h) rfl rfl (fun w' hS=>R_load rfl rfl Try.underlying3 rfl ((cells_of_block (hS.keep q16_ (by simp;omega)) 1).trans (getS (get0)))) eS (by simp only [ls,lz];exact rfl) ?_
       refine anyU_take (i:=9) (last:=15) rfl rfl (by decide) (by kernel_rfl) (by kernel_rfl) (by kernel_rfl) (by kernel_rfl) (by kernel_rfl) (fun _ _ _ h=>h) rfl rfl (fun w' hS=>R_move (v:=.pointer (some ⟨_,_,none⟩)) rfl rfl) eS (by simp only [ls,lz];exact rfl) ?_
       refine anyU_pair (i:=3) (j:=10) (by kernel_rfl) ?_ ?_
       refine opU_new rfl rfl rfl (R_buildSlice rfl Try.underlying29 (size:=1) (by kernel_rfl) (by decide) (by decide) Try.zeroValue3 (cells:=#[.int .i64 0,.int .i64 0,.int .i64 2,.int .i64 5]) (by kernel_rfl)) (by simp only [ls,lz];exact rfl) fun w22 hw=>?_
       replace eS:=ext_alloc eS hw
       obtain ⟨n114,hn⟩ : ∃ n,n = w21.heap.size:=⟨_,rfl⟩
       rw [← hn]
       have l114 : wo.heap.size ≤ n114:=by rw [hn];exact F.size
       have b114_HL:=Nat.lt_of_lt_of_eq (lots_lt HL) hn.symm
       have m114_11 : n11 < n114:=by rw [hn];exact blk_lt q11
       have m114_16 : n16 < n114:=by rw [hn];exact blk_lt q16
       have o114_ho:=Lib.hid (own_ne_new ho hn)
       replace q11:=keep_alloc hw q11
       replace q16:=keep_alloc hw q16
       replace HL:=lots_alloc hw HL
       replace ho:=owns_alloc hw ho
       have q114:=new_block hw hn
       replace F:=ext_alloc F hw
       clear hw hn
       refine ⟨fun _=>eS,?_⟩
       refine anyU_pair (i:=4) (j:=10) (by kernel_rfl) ?_ ?_
       refine opU_call rfl rfl rfl (by kernel_rfl) (of_any w0 _ b _ nv n114 _ [0,0,2,5] HL (by omega) q114 (by omega) (by decide) (by decide)) fun e w23 hR=>?_
       obtain ⟨u,rfl,hu,HL,e1⟩:=hR
       replace eS:=eS.trans e1
       replace q11:=(e1).keep q11 (by simp;omega)
       replace q16:=(e1).keep q16 (by simp;omega)
       replace q114:=(e1).keep q114 (by simp;omega)
       replace ho:=owns_ext ho e1 (by simp;omega)
       replace F:=F.trans' e1 (fun i hi hl=>by simp only [List.mem_cons,List.not_mem_nil,or_false] at hi ⊢;omega)
       refine ⟨_,_,rfl,(by simp only [ls,lz];exact rfl),fun _=>eS,?_⟩
       have hu' : 0 ≤ u ∧ u ≤ 5:=by simp at hu;omega
       refine anyU_take (i:=5) (last:=15) rfl rfl (by decide) (by kernel_rfl) (by kernel_rfl) (by kernel_rfl) (by kernel_rfl) (by kernel_rfl) (fun _ _ _ h=>h) rfl rfl (fun w' hS=>R_sub rfl rfl rfl (by omega) (by omega)) eS (by simp only [ls,lz];exact rfl) ?_
       refine anyU_take (i:=6) (last:=15) rfl rfl (by decide) (by kernel_rfl) (by kernel_rfl) (by kernel_rfl) (by kernel_rfl) (by kernel_rfl) (fun _ _ _ h=>h) rfl rfl (fun w' hS=>R_max rfl rfl rfl rfl) eS (by simp only [ls,lz];exact rfl) ?_
       refine anyU_new (i:=10) rfl (by kernel_rfl) rfl rfl (R_buildSlice rfl Try.underlying29 (size:=1) (by kernel_rfl) (by decide) (by decide) Try.zeroValue3 (cells:=#[.int .i64 0,.int .i64 0,.int .i64 2,.int .i64 5]) (by kernel_rfl)) (by simp only [ls,lz];exact rfl) fun w24 hw=>?_
       replace eS:=ext_alloc eS hw
       obtain ⟨n121,hn⟩ : ∃ n,n = w23.heap.size:=⟨_,rfl⟩
       rw [← hn]
       have l121 : wo.heap.size ≤ n121:=by rw [hn];exact F.size
       have b121_HL:=Nat.lt_of_lt_of_eq (lots_lt HL) hn.symm
       have m121_11 : n11 < n121:=by rw [hn];exact blk_lt q11
       have m121_16 : n16 < n121:=by rw [hn];exact blk_lt q16
       have m121_114 : n114 < n121:=by rw [hn];exact blk_lt q114
       have o121_ho:=Lib.hid (own_ne_new ho hn)
       replace q11:=keep_alloc hw q11
       replace q16:=keep_alloc hw q16
       replace q114:=keep_alloc hw q114
       replace HL:=lots_alloc hw HL
       replace ho:=owns_alloc hw ho
       have q121:=new_block hw hn
       replace F:=ext_alloc F hw
       clear hw hn
       refine ⟨fun _=>eS,?_⟩
       refine anyU_call (i:=11) rfl (by kernel_rfl) rfl rfl (by kernel_rfl) (of_any w0 _ b _ nv n121 _ [0,0,2,5] HL (by omega) q121 (by omega) (by decide) (by decide)) fun e w25 hR=>?_
       obtain ⟨v,rfl,hv,HL,e2⟩:=hR
       replace eS:=eS.trans e2
       replace q11:=(e2).keep q11 (by simp;omega)
       replace q16:=(e2).keep q16 (by simp;omega)
       replace q114:=(e2).keep q114 (by simp;omega)
       replace q121:=(e2).keep q121 (by simp;omega)
       replace ho:=owns_ext ho e2 (by simp;omega)
       replace F:=F.trans' e2 (fun i hi hl=>by simp only [List.mem_cons,List.not_mem_nil,or_false] at hi ⊢;omega)
       refine ⟨_,_,rfl,(by simp only [ls,lz];exact rfl),eS,?_⟩
       have hv' : 0 ≤ v ∧ v ≤ 5:=by simp at hv;omega
       refine anyU_take (i:=12) (last:=15) rfl rfl (by decide) (by kernel_rfl) (by kernel_rfl) (by kernel_rfl) (by kernel_rfl) (by kernel_rfl) (fun _ _ _ h=>h) rfl rfl (fun w' hS=>R_add rfl rfl rfl (by omega) (by omega)) eS (by simp only [ls,lz];exact rfl) ?_
       refine anyU_take (i:=13) (last:=15) rfl rfl (by decide) (by kernel_rfl) (by kernel_rfl) (by kernel_rfl) (by kernel_rfl) (by kernel_rfl) (fun _ _ _ h=>h) rfl rfl (fun w' hS=>R_min rfl rfl rfl rfl) eS (by simp only [ls,lz];exact rfl) ?_
       refine anyU_take (i:=14) (last:=15) rfl rfl (by decide) (by kernel_rfl) (by kernel_rfl) (by kernel_rfl) (by kernel_rfl) (by kernel_rfl) (fun _ _ _ h=>h) rfl rfl (fun w' hS=>R_build' rfl (cells:=#[.int .i64 (max (-20) (lo2 - u)),.int .i64 (min 20 (hi2 + v))]) (by kernel_rfl)) eS (by simp only [ls,lz];exact rfl) ?_
       refine anyU_last (o:=_) rfl (by kernel_rfl) rfl rfl (R_storeRow rfl rfl rfl (by kernel_rfl) (by simp [Value.oneCell']) q16 rfl) (by kernel_rfl) fun w26 hw=>?_
       replace q11:=keep_cells hw q11 (by omega)
       replace q16:=put_row hw q16 rfl
       replace q114:=keep_cells hw q114 (by omega)
       replace q121:=keep_cells hw q121 (by omega)
       replace HL:=lots_cells hw HL (by omega) (by omega)
       replace ho:=owns_cells hw ho (by omega)
       replace F:=ext_cells F hw (fun h=>by first | exact absurd h (by omega) | simp)
       clear hw
       refine anyU_done (by kernel_rfl) ?_ _
       clear q11_ q16_ hh eS
       rotate_left
       refine opU_new rfl rfl rfl (R_buildSlice rfl Try.underlying29 (size:=1) (by kernel_rfl) (by decide) (by decide) Try.zeroValue3 (cells:=#[.int .i64 0,.int .i64 0,.int .i64 2,.int .i64 5]) (by kernel_rfl)) (by simp only [ls,lz];exact rfl) fun w23 hw=>?_
       replace eS:=ext_alloc eS hw
       obtain ⟨n121,hn⟩ : ∃ n,n = w22.heap.size:=⟨_,rfl⟩
       rw [← hn]
       have l121 : wo.heap.size ≤ n121:=by rw [hn];exact F.size
       have b121_HL:=Nat.lt_of_lt_of_eq (lots_lt HL) hn.symm
       have m121_11 : n11 < n121:=by rw [hn];exact blk_lt q11
       have m121_16 : n16 < n121:=by rw [hn];exact blk_lt q16
       have m121_114 : n114 < n121:=by rw [hn];exact blk_lt q114
       have o121_ho:=Lib.hid (own_ne_new ho hn)
       replace q11:=keep_alloc hw q11
       replace q16:=keep_alloc hw q16
       replace q114:=keep_alloc hw q114
       replace HL:=lots_alloc hw HL
       replace ho:=owns_alloc hw ho
       have q121:=new_block hw hn
       replace F:=ext_alloc F hw
       clear hw hn
       refine ⟨fun _=>eS,?_⟩
       refine anyU_call (i:=4) rfl (by kernel_rfl) rfl rfl (by kernel_rfl) (of_any w0 _ b _ nv n114 _ [0,0,2,5] HL (by omega) q114 (by omega) (by decide) (by decide)) fun e w24 hR=>?_
       obtain ⟨u,rfl,hu,HL,e1⟩:=hR
       replace eS:=eS.trans e1
       replace q11:=(e1).keep q11 (by simp;omega)
       replace q16:=(e1).keep q16 (by simp;omega)
       replace q114:=(e1).keep q114 (by simp;omega)
       replace q121:=(e1).keep q121 (by simp;omega)
       replace ho:=owns_ext ho e1 (by simp;omega)
       replace F:=F.trans' e1 (fun i hi hl=>by simp only [List.mem_cons,List.not_mem_nil,or_false] at hi ⊢;omega)
       refine ⟨_,_,rfl,(by simp only [ls,lz];exact rfl),eS,?_⟩
       have hu' : 0 ≤ u ∧ u ≤ 5:=by simp at hu;omega
       refine anyU_take (i:=5) (last:=15) rfl rfl (by decide) (by kernel_rfl) (by kernel_rfl) (by kernel_rfl) (by kernel_rfl) (by kernel_rfl) (fun _ _ _ h=>h) rfl rfl (fun w' hS=>R_sub rfl rfl rfl (by omega) (by omega)) eS (by simp only [ls,lz];exact rfl) ?_
       refine anyU_take (i:=6) (last:=15) rfl rfl (by decide) (by kernel_rfl) (by kernel_rfl) (by kernel_rfl) (by kernel_rfl) (by kernel_rfl) (fun _ _ _ h=>h) rfl rfl (fun w' hS=>R_max rfl rfl rfl rfl) eS (by simp only [ls,lz];exact rfl) ?_
       refine anyU_call (i:=11) rfl (by kernel_rfl) rfl rfl (by kernel_rfl) (of_any w0 _ b _ nv n121 _ [0,0,2,5] HL (by omega) q121 (by omega) (by decide) (by decide)) fun e w25 hR=>?_
       obtain ⟨v,rfl,hv,HL,e2⟩:=hR
       replace eS:=eS.trans e2
       replace q11:=(e2).keep q11 (by simp;omega)
       replace q16:=(e2).keep q16 (by simp;omega)
       replace q114:=(e2).keep q114 (by simp;omega)
       replace q121:=(e2).keep q121 (by simp;omega)
       replace ho:=owns_ext ho e2 (by simp;omega)
       replace F:=F.trans' e2 (fun i hi hl=>by simp only [List.mem_cons,List.not_mem_nil,or_false] at hi ⊢;omega)
       refine ⟨_,_,rfl,(by simp only [ls,lz];exact rfl),eS,?_⟩
       have hv' : 0 ≤ v ∧ v ≤ 5:=by simp at hv;omega
       refine anyU_take (i:=12) (last:=15) rfl rfl (by decide) (by kernel_rfl) (by kernel_rfl) (by kernel_rfl) (by kernel_rfl) (by kernel_rfl) (fun _ _ _ h=>h) rfl rfl (fun w' hS=>R_add rfl rfl rfl (by omega) (by omega)) eS (by simp only [ls,lz];exact rfl) ?_
       refine anyU_take (i:=13) (last:=15) rfl rfl (by decide) (by kernel_rfl) (by kernel_rfl) (by kernel_rfl) (by kernel_rfl) (by kernel_rfl) (fun _ _ _ h=>h) rfl rfl (fun w' hS=>R_min rfl rfl rfl rfl) eS (by simp only [ls,lz];exact rfl) ?_
       refine anyU_take (i:=14) (last:=15) rfl rfl (by decide) (by kernel_rfl) (by kernel_rfl) (by kernel_rfl) (by kernel_rfl) (by kernel_rfl) (fun _ _ _ h=>h) rfl rfl (fun w' hS=>R_build' rfl (cells:=#[.int .i64 (max (-20) (lo2 - u)),.int .i64 (min 20 (hi2 + v))]) (by kernel_rfl)) eS (by simp only [ls,lz];exact rfl) ?_
       refine anyU_last (o:=_) rfl (by kernel_rfl) rfl rfl (R_storeRow rfl rfl rfl (by kernel_rfl) (by simp [Value.oneCell']) q16 rfl) (by kernel_rfl) fun w26 hw=>?_
       replace q11:=keep_cells hw q11 (by omega)
       replace q16:=put_row hw q16 rfl
       replace q114:=keep_cells hw q114 (by omega)
       replace q121:=keep_cells hw q121 (by omega)
       replace HL:=lots_cells hw HL (by omega) (by omega)
       replace ho:=owns_cells hw ho (by omega)
       replace F:=ext_cells F hw (fun h=>by first | exact absurd h (by omega) | simp)
       clear hw
       refine anyU_done (by kernel_rfl) ?_ _
       clear q11_ q16_ hh eS
       rotate_left
       refine opU_new rfl rfl rfl (R_buildSlice rfl Try.underlying29 (size:=1) (by kernel_rfl) (by decide) (by decide) Try.zeroValue3 (cells:=#[.int .i64 0,.int .i64 0,.int .i64 2,.int .i64 5]) (by kernel_rfl)) (by simp only [ls,lz];exact rfl) fun w22 hw=>?_
       replace eS:=ext_alloc eS hw
       obtain ⟨n121,hn⟩ : ∃ n,n = w21.heap.size:=⟨_,rfl⟩
       rw [← hn]
       have l121 : wo.heap.size ≤ n121:=by rw [hn];exact F.size
       have b121_HL:=Nat.lt_of_lt_of_eq (lots_lt HL) hn.symm
       have m121_11 : n11 < n121:=by rw [hn];exact blk_lt q11
       have m121_16 : n16 < n121:=by rw [hn];exact blk_lt q16
       have o121_ho:=Lib.hid (own_ne_new ho hn)
       replace q11:=keep_alloc hw q11
       replace q16:=keep_alloc hw q16
       replace HL:=lots_alloc hw HL
       replace ho:=owns_alloc hw ho
       have q121:=new_block hw hn
       replace F:=ext_alloc F hw
       clear hw hn
       refine ⟨fun _=>eS,?_⟩
       refine anyU_new (i:=3) rfl (by kernel_rfl) rfl rfl (R_buildSlice rfl Try.underlying29 (size:=1) (by kernel_rfl) (by decide) (by decide) Try.zeroValue3 (cells:=#[.int .i64 0,.int .i64 0,.int .i64 2,.int .i64 5]) (by kernel_rfl)) (by simp only [ls,lz];exact rfl) fun w23 hw=>?_
       replace eS:=ext_alloc eS hw
       obtain ⟨n114,hn⟩ : ∃ n,n = w22.heap.size:=⟨_,rfl⟩
       rw [← hn]
       have l114 : wo.heap.size ≤ n114:=by rw [hn];exact F.size
       have b114_HL:=Nat.lt_of_lt_of_eq (lots_lt HL) hn.symm
       have m114_11 : n11 < n114:=by rw [hn];exact blk_lt q11
       have m114_16 : n16 < n114:=by rw [hn];exact blk_lt q16
       have m114_121 : n121 < n114:=by rw [hn];exact blk_lt q121
       have o114_ho:=Lib.hid (own_ne_new ho hn)
       replace q11:=keep_alloc hw q11
       replace q16:=keep_alloc hw q16
       replace q121:=keep_alloc hw q121
       replace HL:=lots_alloc hw HL
       replace ho:=owns_alloc hw ho
       have q114:=new_block hw hn
       replace F:=ext_alloc F hw
       clear hw hn
       refine ⟨fun _=>eS,?_⟩
       refine anyU_call (i:=4) rfl (by kernel_rfl) rfl rfl (by kernel_rfl) (of_any w0 _ b _ nv n114 _ [0,0,2,5] HL (by omega) q114 (by omega) (by decide) (by decide)) fun e w24 hR=>?_
       obtain ⟨u,rfl,hu,HL,e1⟩:=hR
       replace eS:=eS.trans e1
       replace q11:=(e1).keep q11 (by simp;omega)
       replace q16:=(e1).keep q16 (by simp;omega)
       replace q121:=(e1).keep q121 (by simp;omega)
       replace q114:=(e1).keep q114 (by simp;omega)
       replace ho:=owns_ext ho e1 (by simp;omega)
       replace F:=F.trans' e1 (fun i hi hl=>by simp only [List.mem_cons,List.not_mem_nil,or_false] at hi ⊢;omega)
       refine ⟨_,_,rfl,(by simp only [ls,lz];exact rfl),eS,?_⟩
       have hu' : 0 ≤ u ∧ u ≤ 5:=by simp at hu;omega
       refine anyU_take (i:=5) (last:=15) rfl rfl (by decide) (by kernel_rfl) (by kernel_rfl) (by kernel_rfl) (by kernel_rfl) (by kernel_rfl) (fun _ _ _ h=>h) rfl rfl (fun w' hS=>R_sub rfl rfl rfl (by omega) (by omega)) eS (by simp only [ls,lz];exact rfl) ?_
       refine anyU_take (i:=6) (last:=15) rfl rfl (by decide) (by kernel_rfl) (by kernel_rfl) (by kernel_rfl) (by kernel_rfl) (by kernel_rfl) (fun _ _ _ h=>h) rfl rfl (fun w' hS=>R_max rfl rfl rfl rfl) eS (by simp only [ls,lz];exact rfl) ?_
       refine anyU_call (i:=11) rfl (by kernel_rfl) rfl rfl (by kernel_rfl) (of_any w0 _ b _ nv n121 _ [0,0,2,5] HL (by omega) q121 (by omega) (by decide) (by decide)) fun e w25 hR=>?_
       obtain ⟨v,rfl,hv,HL,e2⟩:=hR
       replace eS:=eS.trans e2
       replace q11:=(e2).keep q11 (by simp;omega)
       replace q16:=(e2).keep q16 (by simp;omega)
       replace q121:=(e2).keep q121 (by simp;omega)
       replace q114:=(e2).keep q114 (by simp;omega)
       replace ho:=owns_ext ho e2 (by simp;omega)
       replace F:=F.trans' e2 (fun i hi hl=>by simp only [List.mem_cons,List.not_mem_nil,or_false] at hi ⊢;omega)
       refine ⟨_,_,rfl,(by simp only [ls,lz];exact rfl),eS,?_⟩
       have hv' : 0 ≤ v ∧ v ≤ 5:=by simp at hv;omega
       refine anyU_take (i:=12) (last:=15) rfl rfl (by decide) (by kernel_rfl) (by kernel_rfl) (by kernel_rfl) (by kernel_rfl) (by kernel_rfl) (fun _ _ _ h=>h) rfl rfl (fun w' hS=>R_add rfl rfl rfl (by omega) (by omega)) eS (by simp only [ls,lz];exact rfl) ?_
       refine anyU_take (i:=13) (last:=15) rfl rfl (by decide) (by kernel_rfl) (by kernel_rfl) (by kernel_rfl) (by kernel_rfl) (by kernel_rfl) (fun _ _ _ h=>h) rfl rfl (fun w' hS=>R_min rfl rfl rfl rfl) eS (by simp only [ls,lz];exact rfl) ?_
       refine anyU_take (i:=14) (last:=15) rfl rfl (by decide) (by kernel_rfl) (by kernel_rfl) (by kernel_rfl) (by kernel_rfl) (by kernel_rfl) (fun _ _ _ h=>h) rfl rfl (fun w' hS=>R_build' rfl (cells:=#[.int .i64 (max (-20) (lo2 - u)),.int .i64 (min 20 (hi2 + v))]) (by kernel_rfl)) eS (by simp only [ls,lz];exact rfl) ?_
       refine anyU_last (o:=_) rfl (by kernel_rfl) rfl rfl (R_storeRow rfl rfl rfl (by kernel_rfl) (by simp [Value.oneCell']) q16 rfl) (by kernel_rfl) fun w26 hw=>?_
       replace q11:=keep_cells hw q11 (by omega)
       replace q16:=put_row hw q16 rfl
       replace q121:=keep_cells hw q121 (by omega)
       replace q114:=keep_cells hw q114 (by omega)
       replace HL:=lots_cells hw HL (by omega) (by omega)
       replace ho:=owns_cells hw ho (by omega)
       replace F:=ext_cells F hw (fun h=>by first | exact absurd h (by omega) | simp)
       clear hw
       refine anyU_done (by kernel_rfl) ?_ _
       clear q11_ q16_ hh eS
       all_goals
        go_wp2_with fail
        refine Met.intro ?_
        go_step
        (repeat apply Exists.intro)
        refine ⟨?rel,?fr⟩
        case fr=>congr 1
        case rel=>exact ⟨_,_,hd.out u v hu'.1 hv'.1 hu'.2 hv'.2,q16,q11,ho,lots_mono HL (by have:=Hrl.out;omega),F⟩
      case rest =>
       clear q16 q11 ho HL F hd hnear2
       obtain ⟨glo,ghi,hro,q16,q11,ho,HL,F⟩:=hcut
       have hne16 : some n16 ≠ Value.ownBlock (.slice ga gs.length gc):=fun h=>absurd (own_lt og h) (by omega)
       have hg11 : n11 + 1 ≤ n16:=by omega
       have q8:=F.keep q8o (by simp;omega)
       replace og:=owns_ext og F (by simp;omega)
       replace om:=owns_ext om F (by simp;omega)
       replace hms:=lists_keep hms fun v n xs h=>owns_ext h F (by simp;omega)
       replace ho:=owns_lower ho (show n11 + 1 ≤ n16 + 1 by omega)
       clear hcur1 hcur2 hrA
       replace F:=Eo.trans F
       replace hms:=lists_snoc hms ho
       clear ho
       obtain ⟨wx,hwx⟩ : ∃ wx,wx = wc:=⟨_,rfl⟩
       subst hwx
       go_upto_region 23 with (fail)
       refine region_until (fun W'=>W'.heap[n11]? = wx.heap[n11]? ∧ W'.heap[n16]? = wx.heap[n16]?) 11 follows fun w41 hh eW=>?_
       have q11_:=q11
       have q16_:=q16
       have q8_:=q8
       replace q11:=keep_same hh q11
       replace q16:=keep_same hh q16
       replace q8:=keep_same hh q8
       replace hms:=lists_keep hms fun v n xs h=>owns_same hh h
       replace og:=owns_same hh og
       replace om:=owns_same hh om
       replace F:=ext_same F eW
       replace HL:=lots_ext eW HL
       have eS:=(And.intro (q11.trans q11_.symm) (q16.trans q16_.symm))
       refine anyU_take (i:=0) (last:=11) rfl rfl (by decide) (by kernel_rfl) (by kernel_rfl) (by kernel_rfl) (by kernel_rfl) (by kernel_rfl) (fun _ _ _ h=>h) rfl rfl (fun w' hS=>R_move (v:=.slice _ _ _) rfl rfl) eS (by simp only [ls,lz];exact rfl) ?_
       refine anyU_take (i:=1) (last:=11) rfl rfl (by decide) (by kernel_rfl) (by kernel_rfl) (by kernel_rfl) (by kernel_rfl) (by kernel_rfl) (fun _ _ _ h=>h) rfl rfl (fun w' hS=>R_move (v:=.slice _ _ _) rfl rfl) eS (by simp only [ls,lz];exact rfl) ?_
       refine anyU_take (i:=4) (last:=11) rfl rfl (by decide) (by kernel_rfl) (by kernel_rfl) (by kernel_rfl) (by kernel_rfl) (by kernel_rfl) (fun _ _ _ h=>h) rfl rfl (fun w' hS=>R_field rfl rfl Try.underlying28 rfl (n:=8) (sz:=1) rfl (by kernel_rfl) (by decide)) eS (by simp only [ls,lz];exact rfl) ?_
       refine anyU_take (i:=5) (last:=11) rfl rfl (by decide) (by kernel_rfl) (by kernel_rfl) (by kernel_rfl) (by kernel_rfl) (by kernel_rfl) (fun _ _ _ h=>h) rfl rfl (fun w' hS=>R_load rfl rfl Try.underlying24 rfl ((cells_of_block (hS.1.trans q11_) 8).trans (getS (getS (getS (getS (getS (getS (getS (getS (get0))))))))))) eS (by simp only [ls,lz];exact rfl) ?_
       refine anyU_take (i:=6) (last:=11) rfl rfl (by decide) (by kernel_rfl) (by kernel_rfl) (by kernel_rfl) (by kernel_rfl) (by kernel_rfl) (fun _ _ _ h=>h) rfl rfl (fun w' hS=>R_loadBlk rfl rfl Try.underlying23 rfl (by kernel_rfl) (hS.2.trans q16_)) eS (by simp only [ls,lz];exact rfl) ?_
       refine anyU_pair (i:=2) (j:=7) (by kernel_rfl) ?_ ?_
       refine opU_new rfl rfl rfl (R_buildSlice rfl Try.underlying50 (size:=1) (by kernel_rfl) (by decide) (by decide) Try.zeroValue29 (cells:=#[.slice va2 r.length vc2]) (by kernel_rfl)) (by simp only [ls,lz];exact rfl) fun w42 hw=>?_
       obtain ⟨n128,hn⟩ : ∃ n,n = w41.heap.size:=⟨_,rfl⟩
       rw [← hn]
       have l128 : w.heap.size ≤ n128:=by rw [hn];exact F.size
       have b128_HL:=Nat.lt_of_lt_of_eq (lots_lt HL) hn.symm
       have m128_11 : n11 < n128:=by rw [hn];exact blk_lt q11
       have m128_16 : n16 < n128:=by rw [hn];exact blk_lt q16
       have m128_8 : n8 < n128:=by rw [hn];exact blk_lt q8
       have o128_og:=Lib.hid (own_ne_new og hn)
       have o128_om:=Lib.hid (own_ne_new om hn)
       replace q11:=keep_alloc hw q11
       replace q16:=keep_alloc hw q16
       replace q8:=keep_alloc hw q8
       replace HL:=lots_alloc hw HL
       replace hms:=lists_keep hms fun v n xs h=>owns_alloc hw h
       replace og:=owns_alloc hw og
       replace om:=owns_alloc hw om
       have q128:=new_block hw hn
       replace F:=ext_alloc F hw
       clear hw hn
       have eS:=(And.intro (q11.trans q11_.symm) (q16.trans q16_.symm))
       refine ⟨fun _=>eS,?_⟩
       refine anyU_pair (i:=3) (j:=7) (by kernel_rfl) ?_ ?_
       have hszA:=blk_lt q16
       refine opU_append rfl rfl rfl rfl (n11 + 1) (e:=29) (size:=1) (bytes:=24) Try.underlying50 (by kernel_rfl) (by decide) rfl om rfl q128 rfl (by simp [Value.oneCell']) (by omega) (by omega) (by omega) fun v' w43 hown' hg=>?_
       obtain ⟨va129,vc129,rfl⟩:=owns_slice hown'
       replace q11:=keep_type om hg q11 (by decide)
       replace q16:=keep_type om hg q16 (by decide)
       replace q8:=keep_type om hg q8 (by decide)
       replace HL:=lots_append HL om hg (by omega) (by decide)
       replace hms:=lists_keep hms fun v n xs h=>owns_other h om hg (by decide)
       replace og:=owns_other og om hg (by decide)
       replace F:=ext_appendX F om hg (by omega)
       have hgsz:=hg.size
       replace om:=hown'
       clear hg
       have eS:=(And.intro (q11.trans q11_.symm) (q16.trans q16_.symm))
       refine ⟨_,(by simp only [ls,lz];exact rfl),fun _=>eS,?_⟩
       refine anyU_new (i:=7) rfl (by kernel_rfl) rfl rfl (R_buildSlice rfl Try.underlying24 (size:=2) (by kernel_rfl) (by decide) (by decide) Try.zeroValue23 (cells:=#[.int .i64 glo,.int .i64 ghi]) (by kernel_rfl)) (by simp only [ls,lz];exact rfl) fun w44 hw=>?_
       obtain ⟨n133,hn⟩ : ∃ n,n = w43.heap.size:=⟨_,rfl⟩
       rw [← hn]
       have l133 : w.heap.size ≤ n133:=by rw [hn];exact F.size
       have b133_HL:=Nat.lt_of_lt_of_eq (lots_lt HL) hn.symm
       have m133_11 : n11 < n133:=by rw [hn];exact blk_lt q11
       have m133_16 : n16 < n133:=by rw [hn];exact blk_lt q16
       have m133_8 : n8 < n133:=by rw [hn];exact blk_lt q8
       have o133_og:=Lib.hid (own_ne_new og hn)
       have o133_om:=Lib.hid (own_ne_new om hn)
       replace q11:=keep_alloc hw q11
       replace q16:=keep_alloc hw q16
       replace q8:=keep_alloc hw q8
       replace HL:=lots_alloc hw HL
       replace hms:=lists_keep hms fun v n xs h=>owns_alloc hw h
       replace og:=owns_alloc hw og
       replace om:=owns_alloc hw om
       have q133:=new_block hw hn
       replace F:=ext_alloc F hw
       clear hw hn
       have eS:=(And.intro (q11.trans q11_.symm) (q16.trans q16_.symm))
       refine ⟨fun _=>eS,?_⟩
       have hszB:=blk_lt q16
       refine anyU_append (i:=8) rfl (by kernel_rfl) rfl rfl rfl (n11 + 1) (e:=23) (size:=2) (bytes:=16) Try.underlying24 (by kernel_rfl) (by decide) rfl og rfl q133 rfl (by simp [Value.oneCell']) (by omega) (by omega) (by omega) fun v' w45 hown' hg=>?_
       obtain ⟨va134,vc134,rfl⟩:=owns_slice hown'
       replace q16:=(hg.block n16 (blk_lt q16) hne16).trans q16
       replace q11:=keep_type og hg q11 (by decide)
       replace q8:=keep_type og hg q8 (by decide)
       replace HL:=lots_append HL og hg (by omega) (by decide)
       replace hms:=lists_keep hms fun v n xs h=>owns_other h og hg (by decide)
       replace om:=owns_other om og hg (by decide)
       replace F:=ext_appendX F og hg (by omega)
       have hgsz:=hg.size
       replace og:=hown'
       clear hg
       have eS:=(And.intro (q11.trans q11_.symm) (q16.trans q16_.symm))
       refine ⟨_,(by simp only [ls,lz];exact rfl),eS,?_⟩
       refine anyU_take (i:=9) (last:=11) rfl rfl (by decide) (by kernel_rfl) (by kernel_rfl) (by kernel_rfl) (by kernel_rfl) (by kernel_rfl) (fun _ _ _ h=>h) rfl rfl (fun w' hS=>R_assign (v:=.slice _ _ _) rfl rfl) eS (by simp only [ls,lz];exact rfl) ?_
       refine anyU_take (i:=10) (last:=11) rfl rfl (by decide) (by kernel_rfl) (by kernel_rfl) (by kernel_rfl) (by kernel_rfl) (by kernel_rfl) (fun _ _ _ h=>h) rfl rfl (fun w' hS=>R_field rfl rfl Try.underlying28 rfl (n:=8) (sz:=1) rfl (by kernel_rfl) (by decide)) eS (by simp only [ls,lz];exact rfl) ?_
       refine anyU_last (o:=_) rfl (by kernel_rfl) rfl rfl (R_store (v:=.slice _ _ _) rfl rfl rfl rfl (by kernel_rfl) ((cells_of_block q11 8).trans (getS (getS (getS (getS (getS (getS (getS (getS (get0)))))))))) (free_of_block q11 8)) (by kernel_rfl) fun w46 hw=>?_
       replace q11:=put_cell hw q11 (by simp only [List.setIfInBounds_toArray,ls,lz];exact rfl)
       replace q16:=keep_cell hw q16 (by omega)
       replace q8:=keep_cell hw q8 (by omega)
       replace HL:=lots_cell hw HL (by omega) (by omega)
       replace hms:=lists_keep hms fun v n xs h=>owns_cell hw h (by omega)
       replace og:=owns_cell hw og (by omega)
       replace om:=owns_cell hw om (by omega)
       replace F:=ext_cell F hw (fun h=>by first | exact absurd h (by omega) | simp)
       clear hw
       refine anyU_done (by kernel_rfl) ?_ _
       clear q11_ q16_ q8_ hh eS eW
       rotate_left
       refine opU_new rfl rfl rfl (R_buildSlice rfl Try.underlying24 (size:=2) (by kernel_rfl) (by decide) (by decide) Try.zeroValue23 (cells:=#[.int .i64 glo,.int .i64 ghi]) (by kernel_rfl)) (by simp only [ls,lz];exact rfl) fun w43 hw=>?_
       obtain ⟨n133,hn⟩ : ∃ n,n = w42.heap.size:=⟨_,rfl⟩
       rw [← hn]
       have l133 : w.heap.size ≤ n133:=by rw [hn];exact F.size
       have b133_HL:=Nat.lt_of_lt_of_eq (lots_lt HL) hn.symm
       have m133_11 : n11 < n133:=by rw [hn];exact blk_lt q11
       have m133_16 : n16 < n133:=by rw [hn];exact blk_lt q16
       have m133_8 : n8 < n133:=by rw [hn];exact blk_lt q8
       have m133_128 : n128 < n133:=by rw [hn];exact blk_lt q128
       have o133_og:=Lib.hid (own_ne_new og hn)
       have o133_om:=Lib.hid (own_ne_new om hn)
       replace q11:=keep_alloc hw q11
       replace q16:=keep_alloc hw q16
       replace q8:=keep_alloc hw q8
       replace q128:=keep_alloc hw q128
       replace HL:=lots_alloc hw HL
       replace hms:=lists_keep hms fun v n xs h=>owns_alloc hw h
       replace og:=owns_alloc hw og
       replace om:=owns_alloc hw om
       have q133:=new_block hw hn
       replace F:=ext_alloc F hw
       clear hw hn
       have eS:=(And.intro (q11.trans q11_.symm) (q16.trans q16_.symm))
       refine ⟨fun _=>eS,?_⟩
       have hszA:=blk_lt q16
       refine anyU_append (i:=3) rfl (by kernel_rfl) rfl rfl rfl (n11 + 1) (e:=29) (size:=1) (bytes:=24) Try.underlying50 (by kernel_rfl) (by decide) rfl om rfl q128 rfl (by simp [Value.oneCell']) (by omega) (by omega) (by omega) fun v' w44 hown' hg=>?_
       obtain ⟨va129,vc129,rfl⟩:=owns_slice hown'
       replace q11:=keep_type om hg q11 (by decide)
       replace q16:=keep_type om hg q16 (by decide)
       replace q8:=keep_type om hg q8 (by decide)
       replace q133:=keep_type om hg q133 (by decide)
       replace HL:=lots_append HL om hg (by omega) (by decide)
       replace hms:=lists_keep hms fun v n xs h=>owns_other h om hg (by decide)
       replace og:=owns_other og om hg (by decide)
       replace F:=ext_appendX F om hg (by omega)
       have hgsz:=hg.size
       replace om:=hown'
       clear hg
       have eS:=(And.intro (q11.trans q11_.symm) (q16.trans q16_.symm))
       refine ⟨_,(by simp only [ls,lz];exact rfl),eS,?_⟩
       have hszB:=blk_lt q16
       refine anyU_append (i:=8) rfl (by kernel_rfl) rfl rfl rfl (n11 + 1) (e:=23) (size:=2) (bytes:=16) Try.underlying24 (by kernel_rfl) (by decide) rfl og rfl q133 rfl (by simp [Value.oneCell']) (by omega) (by omega) (by omega) fun v' w45 hown' hg=>?_
       obtain ⟨va134,vc134,rfl⟩:=owns_slice hown'
       replace q16:=(hg.block n16 (blk_lt q16) hne16).trans q16
       replace q11:=keep_type og hg q11 (by decide)
       replace q8:=keep_type og hg q8 (by decide)
       replace HL:=lots_append HL og hg (by omega) (by decide)
       replace hms:=lists_keep hms fun v n xs h=>owns_other h og hg (by decide)
       replace om:=owns_other om og hg (by decide)
       replace F:=ext_appendX F og hg (by omega)
       have hgsz:=hg.size
       replace og:=hown'
       clear hg
       have eS:=(And.intro (q11.trans q11_.symm) (q16.trans q16_.symm))
       refine ⟨_,(by simp only [ls,lz];exact rfl),eS,?_⟩
       refine anyU_take (i:=9) (last:=11) rfl rfl (by decide) (by kernel_rfl) (by kernel_rfl) (by kernel_rfl) (by kernel_rfl) (by kernel_rfl) (fun _ _ _ h=>h) rfl rfl (fun w' hS=>R_assign (v:=.slice _ _ _) rfl rfl) eS (by simp only [ls,lz];exact rfl) ?_
       refine anyU_take (i:=10) (last:=11) rfl rfl (by decide) (by kernel_rfl) (by kernel_rfl) (by kernel_rfl) (by kernel_rfl) (by kernel_rfl) (fun _ _ _ h=>h) rfl rfl (fun w' hS=>R_field rfl rfl Try.underlying28 rfl (n:=8) (sz:=1) rfl (by kernel_rfl) (by decide)) eS (by simp only [ls,lz];exact rfl) ?_
       refine anyU_last (o:=_) rfl (by kernel_rfl) rfl rfl (R_store (v:=.slice _ _ _) rfl rfl rfl rfl (by kernel_rfl) ((cells_of_block q11 8).trans (getS (getS (getS (getS (getS (getS (getS (getS (get0)))))))))) (free_of_block q11 8)) (by kernel_rfl) fun w46 hw=>?_
       replace q11:=put_cell hw q11 (by simp only [List.setIfInBounds_toArray,ls,lz];exact rfl)
       replace q16:=keep_cell hw q16 (by omega)
       replace q8:=keep_cell hw q8 (by omega)
       replace HL:=lots_cell hw HL (by omega) (by omega)
       replace hms:=lists_keep hms fun v n xs h=>owns_cell hw h (by omega)
       replace og:=owns_cell hw og (by omega)
       replace om:=owns_cell hw om (by omega)
       replace F:=ext_cell F hw (fun h=>by first | exact absurd h (by omega) | simp)
       clear hw
       refine anyU_done (by kernel_rfl) ?_ _
       clear q11_ q16_ q8_ hh eS eW
       rotate_left
       refine opU_new rfl rfl rfl (R_buildSlice rfl Try.underlying24 (size:=2) (by kernel_rfl) (by decide) (by decide) Try.zeroValue23 (cells:=#[.int .i64 glo,.int .i64 ghi]) (by kernel_rfl)) (by simp only [ls,lz];exact rfl) fun w42 hw=>?_
       obtain ⟨n133,hn⟩ : ∃ n,n = w41.heap.size:=⟨_,rfl⟩
       rw [← hn]
       have l133 : w.heap.size ≤ n133:=by rw [hn];exact F.size
       have b133_HL:=Nat.lt_of_lt_of_eq (lots_lt HL) hn.symm
       have m133_11 : n11 < n133:=by rw [hn];exact blk_lt q11
       have m133_16 : n16 < n133:=by rw [hn];exact blk_lt q16
       have m133_8 : n8 < n133:=by rw [hn];exact blk_lt q8
       have o133_og:=Lib.hid (own_ne_new og hn)
       have o133_om:=Lib.hid (own_ne_new om hn)
       replace q11:=keep_alloc hw q11
       replace q16:=keep_alloc hw q16
       replace q8:=keep_alloc hw q8
       replace HL:=lots_alloc hw HL
       replace hms:=lists_keep hms fun v n xs h=>owns_alloc hw h
       replace og:=owns_alloc hw og
       replace om:=owns_alloc hw om
       have q133:=new_block hw hn
       replace F:=ext_alloc F hw
       clear hw hn
       have eS:=(And.intro (q11.trans q11_.symm) (q16.trans q16_.symm))
       refine ⟨fun _=>eS,?_⟩
       refine anyU_new (i:=2) rfl (by kernel_rfl) rfl rfl (R_buildSlice rfl Try.underlying50 (size:=1) (by kernel_rfl) (by decide) (by decide) Try.zeroValue29 (cells:=#[.slice va2 r.length vc2]) (by kernel_rfl)) (by simp only [ls,lz];exact rfl) fun w43 hw=>?_
       obtain ⟨n128,hn⟩ : ∃ n,n = w42.heap.size:=⟨_,rfl⟩
       rw [← hn]
       have l128 : w.heap.size ≤ n128:=by rw [hn];exact F.size
       have b128_HL:=Nat.lt_of_lt_of_eq (lots_lt HL) hn.symm
       have m128_11 : n11 < n128:=by rw [hn];exact blk_lt q11
       have m128_16 : n16 < n128:=by rw [hn];exact blk_lt q16
       have m128_8 : n8 < n128:=by rw [hn];exact blk_lt q8
       have m128_133 : n133 < n128:=by rw [hn];exact blk_lt q133
       have o128_og:=Lib.hid (own_ne_new og hn)
       have o128_om:=Lib.hid (own_ne_new om hn)
       replace q11:=keep_alloc hw q11
       replace q16:=keep_alloc hw q16
       replace q8:=keep_alloc hw q8
       replace q133:=keep_alloc hw q133
       replace HL:=lots_alloc hw HL
       replace hms:=lists_keep hms fun v n xs h=>owns_alloc hw h
       replace og:=owns_alloc hw og
       replace om:=owns_alloc hw om
       have q128:=new_block hw hn
       replace F:=ext_alloc F hw
       clear hw hn
       have eS:=(And.intro (q11.trans q11_.symm) (q16.trans q16_.symm))
       refine ⟨fun _=>eS,?_⟩
       have hszA:=blk_lt q16
       refine anyU_append (i:=3) rfl (by kernel_rfl) rfl rfl rfl (n11 + 1) (e:=29) (size:=1) (bytes:=24) Try.underlying50 (by kernel_rfl) (by decide) rfl om rfl q128 rfl (by simp [Value.oneCell']) (by omega) (by omega) (by omega) fun v' w44 hown' hg=>?_
       obtain ⟨va129,vc129,rfl⟩:=owns_slice hown'
       replace q11:=keep_type om hg q11 (by decide)
       replace q16:=keep_type om hg q16 (by decide)
       replace q8:=keep_type om hg q8 (by decide)
       replace q133:=keep_type om hg q133 (by decide)
       replace HL:=lots_append HL om hg (by omega) (by decide)
       replace hms:=lists_keep hms fun v n xs h=>owns_other h om hg (by decide)
       replace og:=owns_other og om hg (by decide)
       replace F:=ext_appendX F om hg (by omega)
       have hgsz:=hg.size
       replace om:=hown'
       clear hg
       have eS:=(And.intro (q11.trans q11_.symm) (q16.trans q16_.symm))
       refine ⟨_,(by simp only [ls,lz];exact rfl),eS,?_⟩
       have hszB:=blk_lt q16
       refine anyU_append (i:=8) rfl (by kernel_rfl) rfl rfl rfl (n11 + 1) (e:=23) (size:=2) (bytes:=16) Try.underlying24 (by kernel_rfl) (by decide) rfl og rfl q133 rfl (by simp [Value.oneCell']) (by omega) (by omega) (by omega) fun v' w45 hown' hg=>?_
       obtain ⟨va134,vc134,rfl⟩:=owns_slice hown'
       replace q16:=(hg.block n16 (blk_lt q16) hne16).trans q16
       replace q11:=keep_type og hg q11 (by decide)
       replace q8:=keep_type og hg q8 (by decide)
       replace HL:=lots_append HL og hg (by omega) (by decide)
       replace hms:=lists_keep hms fun v n xs h=>owns_other h og hg (by decide)
       replace om:=owns_other om og hg (by decide)
       replace F:=ext_appendX F og hg (by omega)
       have hgsz:=hg.size
       replace og:=hown'
       clear hg
       have eS:=(And.intro (q11.trans q11_.symm) (q16.trans q16_.symm))
       refine ⟨_,(by simp only [ls,lz];exact rfl),eS,?_⟩
       refine anyU_take (i:=9) (last:=11) rfl rfl (by decide) (by kernel_rfl) (by kernel_rfl) (by kernel_rfl) (by kernel_rfl) (by kernel_rfl) (fun _ _ _ h=>h) rfl rfl (fun w' hS=>R_assign (v:=.slice _ _ _) rfl rfl) eS (by simp only [ls,lz];exact rfl) ?_
       refine anyU_take (i:=10) (last:=11) rfl rfl (by decide) (by kernel_rfl) (by kernel_rfl) (by kernel_rfl) (by kernel_rfl) (by kernel_rfl) (fun _ _ _ h=>h) rfl rfl (fun w' hS=>R_field rfl rfl Try.underlying28 rfl (n:=8) (sz:=1) rfl (by kernel_rfl) (by decide)) eS (by simp only [ls,lz];exact rfl) ?_
       refine anyU_last (o:=_) rfl (by kernel_rfl) rfl rfl (R_store (v:=.slice _ _ _) rfl rfl rfl rfl (by kernel_rfl) ((cells_of_block q11 8).trans (getS (getS (getS (getS (getS (getS (getS (getS (get0)))))))))) (free_of_block q11 8)) (by kernel_rfl) fun w46 hw=>?_
       replace q11:=put_cell hw q11 (by simp only [List.setIfInBounds_toArray,ls,lz];exact rfl)
       replace q16:=keep_cell hw q16 (by omega)
       replace q8:=keep_cell hw q8 (by omega)
       replace HL:=lots_cell hw HL (by omega) (by omega)
       replace hms:=lists_keep hms fun v n xs h=>owns_cell hw h (by omega)
       replace og:=owns_cell hw og (by omega)
       replace om:=owns_cell hw om (by omega)
       replace F:=ext_cell F hw (fun h=>by first | exact absurd h (by omega) | simp)
       clear hw
       refine anyU_done (by kernel_rfl) ?_ _
       clear q11_ q16_ q8_ hh eS eW
       all_goals
        have hOk2:=hOk.snoc hro
        go_wp2
        go_roundw
        case rel=>exact ⟨gs ++ [(glo,ghi)],ms ++ [r],_,_,_,by rw [List.length_append,List.length_singleton];omega,by rw [List.length_append,List.length_singleton];go_num,hOk2,q8,by rw [List.length_append];exact q11,by rw [flatG_snoc,List.length_append];exact og,by rw [List.length_append];exact om,hms,lots_mono HL (by rw [List.length_append,List.length_singleton];omega),F⟩
        case measure=>simp [intOf];omega
  ·have hgl : (gs.length : Int) = S:=by omega
   have hml:=hOk.len
   have hmlen : ms.length ≤ 3:=by omega
   have Eo:=E
   have q8o:=q8
   have q11o:=q11
   have hbwr : b < wo.heap.size:=Nat.lt_of_lt_of_le hbw E.size
   have hsz11:=blk_lt q11
   have hwwr:=E.size
   obtain ⟨nP,hnP⟩ : ∃ nP,nP = wo.heap.size:=⟨_,rfl⟩
   have F : Ext [b] wo wo:=Ext.refl _ _
   replace HL:=lots_mono HL (show k + 10 + 10 * gs.length ≤ k + 40 by omega)
   go_upto_region 7 with (fail)
   refine wp_region_lit ?_
   refine seq_val rfl rfl (R_move (v:=.int .i64 _) rfl rfl) (by simp only [ls,lz];exact rfl) ?_
   refine seq_val rfl rfl (R_field rfl rfl Try.underlying28 rfl (n:=0) (sz:=1) rfl (by kernel_rfl) (by decide)) (by simp only [ls,lz];exact rfl) ?_
   refine seq_val rfl rfl (R_load rfl rfl Try.underlying3 rfl ((cells_of_block q11 0).trans (get0))) (by simp only [ls,lz];exact rfl) ?_
   refine seq_val rfl rfl (R_lss rfl rfl rfl) (by simp only [ls,lz];exact rfl) ?_
   refine wpList_nil ?_
   go_upto_region 24 with (fail)
   refine wp_region_lit ?_
   refine seq_val rfl rfl (R_assign (v:=.slice _ _ _) rfl rfl) (by simp only [ls,lz];exact rfl) ?_
   refine wpList_nil ?_
   go_upto_region 25 with (fail)
   refine wp_region_lit ?_
   refine seq_val rfl rfl (R_assign (v:=.int .i64 _) rfl rfl) (by simp only [ls,lz];exact rfl) ?_
   refine wpList_nil ?_
   go_wp2_with fail
   go_loopw [21,20] (fun iv v wr=>∃ (ps : List Int),(ps.length : Int) ≤ T ∧ iv = .int .i64 ps.length ∧ (∀ p ∈ ps,-p1 ≤ p ∧ p ≤ p2) ∧ wr.ownsRow nP 3 1 v ps.length (ivs ps) ∧ LotsOk w0 wr b (k + 40 + ps.length) nv ∧ Ext [b] wo wr) (fun iv _ _=>T.toNat - (intOf iv).toNat)
   case atStart=>exact ⟨[],by simp;omega,rfl,fun p h=>by simp at h,World.ownsRow_nil _ _ _ _,HL,F⟩
   case round =>
    clear HL F q8 q11 E
    obtain ⟨ps,hpT,rfl,hps,ho,HL,F⟩:=hrel
    obtain ⟨pa,pc,rfl⟩:=owns_slice ho
    have hpT':=hpT
    have q11:=F.keep q11o (by simp;omega)
    have q8:=F.keep q8o (by simp;omega)
    by_cases hlp : (ps.length : Int) < T
    ·have hx1:=hps
     clear hx1
     go_upto_region 26 with (fail)
     refine wp_region_lit ?_
     refine seq_val rfl rfl (R_move (v:=.int .i64 _) rfl rfl) (by simp only [ls,lz];exact rfl) ?_
     refine seq_val rfl rfl (R_field rfl rfl Try.underlying28 rfl (n:=2) (sz:=1) rfl (by kernel_rfl) (by decide)) (by simp only [ls,lz];exact rfl) ?_
     refine seq_val rfl rfl (R_load rfl rfl Try.underlying3 rfl ((cells_of_block q11 2).trans (getS (getS (get0))))) (by simp only [ls,lz];exact rfl) ?_
     refine seq_val rfl rfl (R_lss rfl rfl rfl) (by simp only [ls,lz];exact rfl) ?_
     refine wpList_nil ?_
     go_upto_region 28 with (fail)
     refine wp_region_lit ?_
     refine seq_val rfl rfl (R_move (v:=.slice _ _ _) rfl rfl) (by simp only [ls,lz];exact rfl) ?_
     refine seq_val rfl rfl (R_move (v:=.pointer (some ⟨_,_,none⟩)) rfl rfl) (by simp only [ls,lz];exact rfl) ?_
     refine seq_val rfl rfl (R_field rfl rfl Try.underlying28 rfl (n:=5) (sz:=2) rfl (by kernel_rfl) (by decide)) (by simp only [ls,lz];exact rfl) ?_
     refine seq_val rfl rfl (R_field rfl rfl Try.underlying23 rfl (n:=5) (sz:=1) rfl (by kernel_rfl) (by decide)) (by simp only [ls,lz];exact rfl) ?_
     refine seq_val rfl rfl (R_load rfl rfl Try.underlying3 rfl ((cells_of_block q11 5).trans (getS (getS (getS (getS (getS (get0)))))))) (by simp only [ls,lz];exact rfl) ?_
     refine seq_val rfl rfl (R_field rfl rfl Try.underlying28 rfl (n:=5) (sz:=2) rfl (by kernel_rfl) (by decide)) (by simp only [ls,lz];exact rfl) ?_
     refine seq_val rfl rfl (R_field rfl rfl Try.underlying23 rfl (n:=6) (sz:=1) rfl (by kernel_rfl) (by decide)) (by simp only [ls,lz];exact rfl) ?_
     refine seq_val rfl rfl (R_load rfl rfl Try.underlying3 rfl ((cells_of_block q11 6).trans (getS (getS (getS (getS (getS (getS (get0))))))))) (by simp only [ls,lz];exact rfl) ?_
     refine seq_call rfl rfl (by kernel_rfl) (in_any w0 _ b _ nv (-p1) p2 HL (by omega) (by omega) (by omega) (by omega) (by omega)) fun e w1 hR=>?_
     obtain ⟨pn,rfl,hpn1,hpn2,HL,e1⟩:=hR
     refine ⟨_,_,rfl,(by simp only [ls,lz];exact rfl),?_⟩
     replace q11:=(e1).keep q11 (by simp;omega)
     replace ho:=owns_ext ho e1 (by simp;omega)
     replace F:=F.trans' e1 (fun i hi hl=>by simp only [List.mem_cons,List.not_mem_nil,or_false] at hi ⊢;omega)
     refine seq_new rfl rfl (R_buildSlice rfl Try.underlying29 (size:=1) (by kernel_rfl) (by decide) (by decide) Try.zeroValue3 (cells:=#[.int .i64 pn]) (by kernel_rfl)) (by simp only [ls,lz];exact rfl) fun w2 hw=>?_
     obtain ⟨n151,hn⟩ : ∃ n,n = w1.heap.size:=⟨_,rfl⟩
     rw [← hn]
     have l151 : wo.heap.size ≤ n151:=by rw [hn];exact F.size
     have b151_HL:=Nat.lt_of_lt_of_eq (lots_lt HL) hn.symm
     have m151_11 : n11 < n151:=by rw [hn];exact blk_lt q11
     have o151_ho:=Lib.hid (own_ne_new ho hn)
     replace q11:=keep_alloc hw q11
     replace HL:=lots_alloc hw HL
     replace ho:=owns_alloc hw ho
     have q151:=new_block hw hn
     replace F:=ext_alloc F hw
     clear hw hn
     have hszP:=blk_lt q151
     refine seq_append rfl rfl rfl (nP) (e:=3) (size:=1) (bytes:=8) Try.underlying29 (by kernel_rfl) (by decide) rfl ho rfl q151 rfl (by simp [Value.oneCell']) (by omega) (by omega) (by omega) fun v' w3 hown' hg=>?_
     obtain ⟨va152,vc152,rfl⟩:=owns_slice hown'
     replace q11:=keep_type ho hg q11 (by decide)
     replace HL:=lots_append HL ho hg (by omega) (by decide)
     replace F:=ext_appendX F ho hg (by omega)
     have hgsz:=hg.size
     replace ho:=hown'
     clear hg
     refine ⟨_,(by simp only [ls,lz];exact rfl),?_⟩
     refine seq_val rfl rfl (R_assign (v:=.slice _ _ _) rfl rfl) (by simp only [ls,lz];exact rfl) ?_
     refine wpList_nil ?_
     have hps2 : ∀ p ∈ ps ++ [pn],-p1 ≤ p ∧ p ≤ p2:=fun p hp=>by
      rcases List.mem_append.1 hp with hp | hp
      ·exact hps p hp
      ·simp at hp;subst hp;omega
     go_wp2
     go_roundw
     case rel=>exact ⟨ps ++ [pn],by rw [List.length_append,List.length_singleton];omega,by rw [List.length_append,List.length_singleton];go_num,hps2,by rw [ivs_snoc,List.length_append];exact ho,lots_mono HL (by rw [List.length_append,List.length_singleton];omega),F⟩
     case measure=>simp [intOf];omega
    ·have hpl : (ps.length : Int) = T:=by omega
     have hgl2:=hgl
     replace og:=owns_ext og F (by simp;omega)
     replace om:=owns_ext om F (by simp;omega)
     replace hms:=lists_keep hms fun v n xs h=>owns_ext h F (by simp;omega)
     replace ho:=owns_lower ho (show n11 + 1 ≤ nP by omega)
     have Ex:=Eo.trans F
     clear Eo F q8o q11o hnP
     replace HL:=lots_mono HL (show k + 40 + ps.length ≤ k + 43 by omega)
     obtain ⟨wq,hwq⟩ : ∃ wq,wq = wr:=⟨_,rfl⟩
     subst hwq
     obtain ⟨nR,hnR⟩ : ∃ nR,nR = wq.heap.size:=⟨_,rfl⟩
     have G : Ext [b,n11] wq wq:=Ext.refl _ _
     have hszq:=Ex.size
     have hsz11q:=blk_lt q11
     go_upto_region 26 with (fail)
     refine wp_region_lit ?_
     refine seq_val rfl rfl (R_move (v:=.int .i64 _) rfl rfl) (by simp only [ls,lz];exact rfl) ?_
     refine seq_val rfl rfl (R_field rfl rfl Try.underlying28 rfl (n:=2) (sz:=1) rfl (by kernel_rfl) (by decide)) (by simp only [ls,lz];exact rfl) ?_
     refine seq_val rfl rfl (R_load rfl rfl Try.underlying3 rfl ((cells_of_block q11 2).trans (getS (getS (get0))))) (by simp only [ls,lz];exact rfl) ?_
     refine seq_val rfl rfl (R_lss rfl rfl rfl) (by simp only [ls,lz];exact rfl) ?_
     refine wpList_nil ?_
     go_upto_region 29 with (fail)
     refine wp_region_lit ?_
     refine seq_val rfl rfl (R_move (v:=.pointer (some ⟨_,_,none⟩)) rfl rfl) (by simp only [ls,lz];exact rfl) ?_
     refine seq_call rfl rfl (by kernel_rfl) (upto_any w0 _ b _ nv 5 HL (by omega) (by omega) (by omega)) fun e w1 hR=>?_
     obtain ⟨many,rfl,hm1,hm2,HL,e1⟩:=hR
     refine ⟨_,_,rfl,(by simp only [ls,lz];exact rfl),?_⟩
     replace q11:=(e1).keep q11 (by simp;omega)
     replace G:=G.trans' e1 (fun i hi hl=>by simp only [List.mem_cons,List.not_mem_nil,or_false] at hi ⊢;omega)
     refine seq_val rfl rfl (R_assign (v:=.int .i64 _) rfl rfl) (by simp only [ls,lz];exact rfl) ?_
     refine wpList_nil ?_
     clear e1
     obtain ⟨many,rfl⟩:=Int.eq_ofNat_of_zero_le hm1
     go_wp2_with fail
     go_loopw [22] (fun iv wr=>∃ (j : Nat) (rs : List (Int × Int × Int × Int)) (ra : Option Addr) (rc : Nat),j + rs.length ≤ 5 ∧ iv = .int .i64 j ∧ (∀ r ∈ rs,RdOk S A T sl ms ps r) ∧
      wr.heap[n11]? = some (.cells #[.int .i64 S,.int .i64 A,.int .i64 T,.int .i64 bl,.int .i64 (bl + wd),.int .i64 (-p1),.int .i64 p2,.int .i64 sl,.slice ga gs.length gc,.slice ra rs.length rc,.slice none 0 0] 28 (0,0)) ∧ wr.ownsRow nR 66 4 (.slice ra rs.length rc) rs.length (flatR rs) ∧ LotsOk w0 wr b (k + 44 + 4 * rs.length) nv ∧ Ext [b,n11] wq wr) (fun iv _=>(intOf iv).toNat)
     case atStart=>exact ⟨many,[],none,0,by simp;omega,rfl,fun p h=>by simp at h,q11,World.ownsRow_nil _ _ _ _,HL,G⟩
     case round =>
      clear HL G q11 hm1 hm2
      obtain ⟨j,rs,ra,rc,hjr,rfl,hrs,q11,orr,HL,G⟩:=hrel
      by_cases hj : 0 < j
      ·obtain ⟨j,rfl⟩ : ∃ j',j = j' + 1:=⟨j - 1,by omega⟩
       have hj0 : (0 : Int) < ((j + 1 : Nat) : Int):=by omega
       go_upto_region 30 with (fail)
       refine wp_region_lit ?_
       refine seq_val rfl rfl (R_move (v:=.int .i64 _) rfl rfl) (by simp only [ls,lz];exact rfl) ?_
       refine seq_val rfl rfl (R_gtr rfl rfl rfl) (by simp only [ls,lz];exact rfl) ?_
       refine wpList_nil ?_
       go_upto_region 32 with (fail)
       go_cut [23] from 159 to 174 (fun pv wc=>∃ (n23 : Nat) (s a i : Int),pv = .pointer (some ⟨n23,0,none⟩) ∧ 0 ≤ s ∧ s < S ∧ 0 ≤ a ∧ a < A ∧ 0 ≤ i ∧ i < T ∧ nR ≤ n23 ∧ Hid (some n23 ≠ Value.ownBlock (.slice ra rs.length rc)) ∧ wc.heap[n23]? = some (.cells #[.int .i64 s,.int .i64 a,.int .i64 i,.int .i64 0] 66 (0,0)) ∧
        wc.heap[n11]? = some (.cells #[.int .i64 S,.int .i64 A,.int .i64 T,.int .i64 bl,.int .i64 (bl + wd),.int .i64 (-p1),.int .i64 p2,.int .i64 sl,.slice ga gs.length gc,.slice ra rs.length rc,.slice none 0 0] 28 (0,0)) ∧ wc.ownsRow nR 66 4 (.slice ra rs.length rc) rs.length (flatR rs) ∧ LotsOk w0 wc b (k + 47 + 4 * rs.length) nv ∧ Ext [b,n11] wq wc)
       case first =>
        refine region_until (Ext [b] wr) 17 follows fun w1 hh eS=>?_
        have q11_:=q11
        replace q11:=keep_same hh q11
        replace orr:=owns_same hh orr
        replace G:=ext_same G eS
        replace HL:=lots_ext eS HL
        replace eS:=eS.mono (Y:=[b]) (by simp)
        refine anyU_take (i:=0) (last:=17) rfl rfl (by decide) (by kernel_rfl) (by kernel_rfl) (by kernel_rfl) (by kernel_rfl) (by kernel_rfl) (fun _ _ _ h=>h) rfl rfl (fun w' hS=>R_move (v:=.pointer (some ⟨_,_,none⟩)) rfl rfl) eS (by simp only [ls,lz];exact rfl) ?_
        refine anyU_take (i:=1) (last:=17) rfl rfl (by decide) (by kernel_rfl) (by kernel_rfl) (by kernel_rfl) (by kernel_rfl) (by kernel_rfl) (fun _ _ _ h=>h) rfl rfl (fun w' hS=>R_field rfl rfl Try.underlying28 rfl (n:=0) (sz:=1) rfl (by kernel_rfl) (by decide)) eS (by simp only [ls,lz];exact rfl) ?_
        refine anyU_take (i:=2) (last:=17) rfl rfl (by decide) (by kernel_rfl) (by kernel_rfl) (by kernel_rfl) (by kernel_rfl) (by kernel_rfl) (fun _ _ _ h=>h) rfl rfl (fun w' hS=>R_load rfl rfl Try.underlying3 rfl ((cells_of_block (hS.keep q11_ (by simp;omega)) 0).trans (get0))) eS (by simp only [ls,lz];exact rfl) ?_
        refine anyU_take (i:=3) (last:=17) rfl rfl (by decide) (by kernel_rfl) (by kernel_rfl) (by kernel_rfl) (by kernel_rfl) (by kernel_rfl) (fun _ _ _ h=>h) rfl rfl (fun w' hS=>R_sub rfl rfl rfl (by omega) (by omega)) eS (by simp only [ls,lz];exact rfl) ?_
        refine anyU_take (i:=5) (last:=17) rfl rfl (by decide) (by kernel_rfl) (by kernel_rfl) (by kernel_rfl) (by kernel_rfl) (by kernel_rfl) (fun _ _ _ h=>h) rfl rfl (fun w' hS=>R_move (v:=.pointer (some ⟨_,_,none⟩)) rfl rfl) eS (by simp only [ls,lz];exact rfl) ?_
        refine anyU_take (i:=6) (last:=17) rfl rfl (by decide) (by kernel_rfl) (by kernel_rfl) (by kernel_rfl) (by kernel_rfl) (by kernel_rfl) (fun _ _ _ h=>h) rfl rfl (fun w' hS=>R_field rfl rfl Try.underlying28 rfl (n:=1) (sz:=1) rfl (by kernel_rfl) (by decide)) eS (by simp only [ls,lz];exact rfl) ?_
        refine anyU_take (i:=7) (last:=17) rfl rfl (by decide) (by kernel_rfl) (by kernel_rfl) (by kernel_rfl) (by kernel_rfl) (by kernel_rfl) (fun _ _ _ h=>h) rfl rfl (fun w' hS=>R_load rfl rfl Try.underlying3 rfl ((cells_of_block (hS.keep q11_ (by simp;omega)) 1).trans (getS (get0)))) eS (by simp only [ls,lz];exact rfl) ?_
        refine anyU_take (i:=8) (last:=17) rfl rfl (by decide) (by kernel_rfl) (by kernel_rfl) (by kernel_rfl) (by kernel_rfl) (by kernel_rfl) (fun _ _ _ h=>h) rfl rfl (fun w' hS=>R_sub rfl rfl rfl (by omega) (by omega)) eS (by simp only [ls,lz];exact rfl) ?_
        refine anyU_take (i:=10) (last:=17) rfl rfl (by decide) (by kernel_rfl) (by kernel_rfl) (by kernel_rfl) (by kernel_rfl) (by kernel_rfl) (fun _ _ _ h=>h) rfl rfl (fun w' hS=>R_move (v:=.pointer (some ⟨_,_,none⟩)) rfl rfl) eS (by simp only [ls,lz];exact rfl) ?_
        refine anyU_take (i:=11) (last:=17) rfl rfl (by decide) (by kernel_rfl) (by kernel_rfl) (by kernel_rfl) (by kernel_rfl) (by kernel_rfl) (fun _ _ _ h=>h) rfl rfl (fun w' hS=>R_field rfl rfl Try.underlying28 rfl (n:=2) (sz:=1) rfl (by kernel_rfl) (by decide)) eS (by simp only [ls,lz];exact rfl) ?_
        refine anyU_take (i:=12) (last:=17) rfl rfl (by decide) (by kernel_rfl) (by kernel_rfl) (by kernel_rfl) (by kernel_rfl) (by kernel_rfl) (fun _ _ _ h=>h) rfl rfl (fun w' hS=>R_load rfl rfl Try.underlying3 rfl ((cells_of_block (hS.keep q11_ (by simp;omega)) 2).trans (getS (getS (get0))))) eS (by simp only [ls,lz];exact rfl) ?_
        refine anyU_take (i:=13) (last:=17) rfl rfl (by decide) (by kernel_rfl) (by kernel_rfl) (by kernel_rfl) (by kernel_rfl) (by kernel_rfl) (fun _ _ _ h=>h) rfl rfl (fun w' hS=>R_sub rfl rfl rfl (by omega) (by omega)) eS (by simp only [ls,lz];exact rfl) ?_
        refine anyU_pair (i:=4) (j:=16) (by kernel_rfl) ?_ ?_
        refine opU_call rfl rfl rfl (by kernel_rfl) (upto_any w0 _ b _ nv (S - 1) HL (by omega) (by omega) (by omega)) fun e w2 hR=>?_
        obtain ⟨s,rfl,hs0,hs1,HL,e1⟩:=hR
        replace eS:=eS.trans e1
        replace q11:=(e1).keep q11 (by simp;omega)
        replace orr:=owns_ext orr e1 (by simp;omega)
        replace G:=G.trans' e1 (fun i hi hl=>by simp only [List.mem_cons,List.not_mem_nil,or_false] at hi ⊢;omega)
        refine ⟨_,_,rfl,(by simp only [ls,lz];exact rfl),fun _=>eS,?_⟩
        refine anyU_pair (i:=9) (j:=16) (by kernel_rfl) ?_ ?_
        refine opU_call rfl rfl rfl (by kernel_rfl) (upto_any w0 _ b _ nv (A - 1) HL (by omega) (by omega) (by omega)) fun e w3 hR=>?_
        obtain ⟨a,rfl,ha0,ha1,HL,e1⟩:=hR
        replace eS:=eS.trans e1
        replace q11:=(e1).keep q11 (by simp;omega)
        replace orr:=owns_ext orr e1 (by simp;omega)
        replace G:=G.trans' e1 (fun i hi hl=>by simp only [List.mem_cons,List.not_mem_nil,or_false] at hi ⊢;omega)
        refine ⟨_,_,rfl,(by simp only [ls,lz];exact rfl),fun _=>eS,?_⟩
        refine anyU_pair (i:=14) (j:=16) (by kernel_rfl) ?_ ?_
        refine opU_call rfl rfl rfl (by kernel_rfl) (upto_any w0 _ b _ nv (T - 1) HL (by omega) (by omega) (by omega)) fun e w4 hR=>?_
        obtain ⟨i,rfl,hi0,hi1,HL,e1⟩:=hR
        replace eS:=eS.trans e1
        replace q11:=(e1).keep q11 (by simp;omega)
        replace orr:=owns_ext orr e1 (by simp;omega)
        replace G:=G.trans' e1 (fun i hi hl=>by simp only [List.mem_cons,List.not_mem_nil,or_false] at hi ⊢;omega)
        refine ⟨_,_,rfl,(by simp only [ls,lz];exact rfl),fun _=>eS,?_⟩
        refine anyU_take (i:=15) (last:=17) rfl rfl (by decide) (by kernel_rfl) (by kernel_rfl) (by kernel_rfl) (by kernel_rfl) (by kernel_rfl) (fun _ _ _ h=>h) rfl rfl (fun w' hS=>R_build' rfl (cells:=#[.int .i64 s,.int .i64 a,.int .i64 i,.int .i64 0]) (by kernel_rfl)) eS (by simp only [ls,lz];exact rfl) ?_
        refine anyU_new (i:=16) rfl (by kernel_rfl) rfl rfl (R_alloc rfl Try.zeroValue66) (by simp only [ls,lz];exact rfl) fun w5 hw=>?_
        replace eS:=ext_alloc eS hw
        obtain ⟨n23,hn⟩ : ∃ n,n = w4.heap.size:=⟨_,rfl⟩
        rw [← hn]
        have l23 : wq.heap.size ≤ n23:=by rw [hn];exact G.size
        have b23_HL:=Nat.lt_of_lt_of_eq (lots_lt HL) hn.symm
        have m23_11 : n11 < n23:=by rw [hn];exact blk_lt q11
        have o23_orr:=Lib.hid (own_ne_new orr hn)
        replace q11:=keep_alloc hw q11
        replace HL:=lots_alloc hw HL
        replace orr:=owns_alloc hw orr
        have q23:=new_row hw hn
        replace G:=ext_alloc G hw
        clear hw hn
        refine ⟨fun _=>eS,?_⟩
        refine anyU_last (o:=_) rfl (by kernel_rfl) rfl rfl (R_storeRow rfl rfl rfl (by kernel_rfl) (by simp [Value.oneCell']) q23 rfl) (by kernel_rfl) fun w6 hw=>?_
        replace q11:=keep_cells hw q11 (by omega)
        replace q23:=put_row hw q23 rfl
        replace HL:=lots_cells hw HL (by omega) (by omega)
        replace orr:=owns_cellsX hw orr o23_orr.out
        replace G:=ext_cells G hw (fun h=>by first | exact absurd h (by omega) | simp)
        clear hw
        refine anyU_done (by kernel_rfl) ?_ _
        clear q11_ hh eS
        rotate_left
        refine opU_new rfl rfl rfl (R_alloc rfl Try.zeroValue66) (by simp only [ls,lz];exact rfl) fun w4 hw=>?_
        replace eS:=ext_alloc eS hw
        obtain ⟨n23,hn⟩ : ∃ n,n = w3.heap.size:=⟨_,rfl⟩
        rw [← hn]
        have l23 : wq.heap.size ≤ n23:=by rw [hn];exact G.size
        have b23_HL:=Nat.lt_of_lt_of_eq (lots_lt HL) hn.symm
        have m23_11 : n11 < n23:=by rw [hn];exact blk_lt q11
        have o23_orr:=Lib.hid (own_ne_new orr hn)
        replace q11:=keep_alloc hw q11
        replace HL:=lots_alloc hw HL
        replace orr:=owns_alloc hw orr
        have q23:=new_row hw hn
        replace G:=ext_alloc G hw
        clear hw hn
        refine ⟨fun _=>eS,?_⟩
        refine anyU_call (i:=14) rfl (by kernel_rfl) rfl rfl (by kernel_rfl) (upto_any w0 _ b _ nv (T - 1) HL (by omega) (by omega) (by omega)) fun e w5 hR=>?_
        obtain ⟨i,rfl,hi0,hi1,HL,e1⟩:=hR
        replace eS:=eS.trans e1
        replace q11:=(e1).keep q11 (by simp;omega)
        replace q23:=(e1).keep q23 (by simp;omega)
        replace orr:=owns_ext orr e1 (by simp;omega)
        replace G:=G.trans' e1 (fun i hi hl=>by simp only [List.mem_cons,List.not_mem_nil,or_false] at hi ⊢;omega)
        refine ⟨_,_,rfl,(by simp only [ls,lz];exact rfl),eS,?_⟩
        refine anyU_take (i:=15) (last:=17) rfl rfl (by decide) (by kernel_rfl) (by kernel_rfl) (by kernel_rfl) (by kernel_rfl) (by kernel_rfl) (fun _ _ _ h=>h) rfl rfl (fun w' hS=>R_build' rfl (cells:=#[.int .i64 s,.int .i64 a,.int .i64 i,.int .i64 0]) (by kernel_rfl)) eS (by simp only [ls,lz];exact rfl) ?_
        refine anyU_last (o:=_) rfl (by kernel_rfl) rfl rfl (R_storeRow rfl rfl rfl (by kernel_rfl) (by simp [Value.oneCell']) q23 rfl) (by kernel_rfl) fun w6 hw=>?_
        replace q11:=keep_cells hw q11 (by omega)
        replace q23:=put_row hw q23 rfl
        replace HL:=lots_cells hw HL (by omega) (by omega)
        replace orr:=owns_cellsX hw orr o23_orr.out
        replace G:=ext_cells G hw (fun h=>by first | exact absurd h (by omega) | simp)
        clear hw
        refine anyU_done (by kernel_rfl) ?_ _
        clear q11_ hh eS
        rotate_left
        refine opU_new rfl rfl rfl (R_alloc rfl Try.zeroValue66) (by simp only [ls,lz];exact rfl) fun w3 hw=>?_
        replace eS:=ext_alloc eS hw
        obtain ⟨n23,hn⟩ : ∃ n,n = w2.heap.size:=⟨_,rfl⟩
        rw [← hn]
        have l23 : wq.heap.size ≤ n23:=by rw [hn];exact G.size
        have b23_HL:=Nat.lt_of_lt_of_eq (lots_lt HL) hn.symm
        have m23_11 : n11 < n23:=by rw [hn];exact blk_lt q11
        have o23_orr:=Lib.hid (own_ne_new orr hn)
        replace q11:=keep_alloc hw q11
        replace HL:=lots_alloc hw HL
        replace orr:=owns_alloc hw orr
        have q23:=new_row hw hn
        replace G:=ext_alloc G hw
        clear hw hn
        refine ⟨fun _=>eS,?_⟩
        refine anyU_call (i:=9) rfl (by kernel_rfl) rfl rfl (by kernel_rfl) (upto_any w0 _ b _ nv (A - 1) HL (by omega) (by omega) (by omega)) fun e w4 hR=>?_
        obtain ⟨a,rfl,ha0,ha1,HL,e1⟩:=hR
        replace eS:=eS.trans e1
        replace q11:=(e1).keep q11 (by simp;omega)
        replace q23:=(e1).keep q23 (by simp;omega)
        replace orr:=owns_ext orr e1 (by simp;omega)
        replace G:=G.trans' e1 (fun i hi hl=>by simp only [List.mem_cons,List.not_mem_nil,or_false] at hi ⊢;omega)
        refine ⟨_,_,rfl,(by simp only [ls,lz];exact rfl),eS,?_⟩
        refine anyU_call (i:=14) rfl (by kernel_rfl) rfl rfl (by kernel_rfl) (upto_any w0 _ b _ nv (T - 1) HL (by omega) (by omega) (by omega)) fun e w5 hR=>?_
        obtain ⟨i,rfl,hi0,hi1,HL,e1⟩:=hR
        replace eS:=eS.trans e1
        replace q11:=(e1).keep q11 (by simp;omega)
        replace q23:=(e1).keep q23 (by simp;omega)
        replace orr:=owns_ext orr e1 (by simp;omega)
        replace G:=G.trans' e1 (fun i hi hl=>by simp only [List.mem_cons,List.not_mem_nil,or_false] at hi ⊢;omega)
        refine ⟨_,_,rfl,(by simp only [ls,lz];exact rfl),eS,?_⟩
        refine anyU_take (i:=15) (last:=17) rfl rfl (by decide) (by kernel_rfl) (by kernel_rfl) (by kernel_rfl) (by kernel_rfl) (by kernel_rfl) (fun _ _ _ h=>h) rfl rfl (fun w' hS=>R_build' rfl (cells:=#[.int .i64 s,.int .i64 a,.int .i64 i,.int .i64 0]) (by kernel_rfl)) eS (by simp only [ls,lz];exact rfl) ?_
        refine anyU_last (o:=_) rfl (by kernel_rfl) rfl rfl (R_storeRow rfl rfl rfl (by kernel_rfl) (by simp [Value.oneCell']) q23 rfl) (by kernel_rfl) fun w6 hw=>?_
        replace q11:=keep_cells hw q11 (by omega)
        replace q23:=put_row hw q23 rfl
        replace HL:=lots_cells hw HL (by omega) (by omega)
        replace orr:=owns_cellsX hw orr o23_orr.out
        replace G:=ext_cells G hw (fun h=>by first | exact absurd h (by omega) | simp)
        clear hw
        refine anyU_done (by kernel_rfl) ?_ _
        clear q11_ hh eS
        rotate_left
        refine opU_new rfl rfl rfl (R_alloc rfl Try.zeroValue66) (by simp only [ls,lz];exact rfl) fun w2 hw=>?_
        replace eS:=ext_alloc eS hw
        obtain ⟨n23,hn⟩ : ∃ n,n = w1.heap.size:=⟨_,rfl⟩
        rw [← hn]
        have l23 : wq.heap.size ≤ n23:=by rw [hn];exact G.size
        have b23_HL:=Nat.lt_of_lt_of_eq (lots_lt HL) hn.symm
        have m23_11 : n11 < n23:=by rw [hn];exact blk_lt q11
        have o23_orr:=Lib.hid (own_ne_new orr hn)
        replace q11:=keep_alloc hw q11
        replace HL:=lots_alloc hw HL
        replace orr:=owns_alloc hw orr
        have q23:=new_row hw hn
        replace G:=ext_alloc G hw
        clear hw hn
        refine ⟨fun _=>eS,?_⟩
        refine anyU_call (i:=4) rfl (by kernel_rfl) rfl rfl (by kernel_rfl) (upto_any w0 _ b _ nv (S - 1) HL (by omega) (by omega) (by omega)) fun e w3 hR=>?_
        obtain ⟨s,rfl,hs0,hs1,HL,e1⟩:=hR
        replace eS:=eS.trans e1
        replace q11:=(e1).keep q11 (by simp;omega)
        replace q23:=(e1).keep q23 (by simp;omega)
        replace orr:=owns_ext orr e1 (by simp;omega)
        replace G:=G.trans' e1 (fun i hi hl=>by simp only [List.mem_cons,List.not_mem_nil,or_false] at hi ⊢;omega)
        refine ⟨_,_,rfl,(by simp only [ls,lz];exact rfl),eS,?_⟩
        refine anyU_call (i:=9) rfl (by kernel_rfl) rfl rfl (by kernel_rfl) (upto_any w0 _ b _ nv (A - 1) HL (by omega) (by omega) (by omega)) fun e w4 hR=>?_
        obtain ⟨a,rfl,ha0,ha1,HL,e1⟩:=hR
        replace eS:=eS.trans e1
        replace q11:=(e1).keep q11 (by simp;omega)
        replace q23:=(e1).keep q23 (by simp;omega)
        replace orr:=owns_ext orr e1 (by simp;omega)
        replace G:=G.trans' e1 (fun i hi hl=>by simp only [List.mem_cons,List.not_mem_nil,or_false] at hi ⊢;omega)
        refine ⟨_,_,rfl,(by simp only [ls,lz];exact rfl),eS,?_⟩
        refine anyU_call (i:=14) rfl (by kernel_rfl) rfl rfl (by kernel_rfl) (upto_any w0 _ b _ nv (T - 1) HL (by omega) (by omega) (by omega)) fun e w5 hR=>?_
        obtain ⟨i,rfl,hi0,hi1,HL,e1⟩:=hR
        replace eS:=eS.trans e1
        replace q11:=(e1).keep q11 (by simp;omega)
        replace q23:=(e1).keep q23 (by simp;omega)
        replace orr:=owns_ext orr e1 (by simp;omega)
        replace G:=G.trans' e1 (fun i hi hl=>by simp only [List.mem_cons,List.not_mem_nil,or_false] at hi ⊢;omega)
        refine ⟨_,_,rfl,(by simp only [ls,lz];exact rfl),eS,?_⟩
        refine anyU_take (i:=15) (last:=17) rfl rfl (by decide) (by kernel_rfl) (by kernel_rfl) (by kernel_rfl) (by kernel_rfl) (by kernel_rfl) (fun _ _ _ h=>h) rfl rfl (fun w' hS=>R_build' rfl (cells:=#[.int .i64 s,.int .i64 a,.int .i64 i,.int .i64 0]) (by kernel_rfl)) eS (by simp only [ls,lz];exact rfl) ?_
        refine anyU_last (o:=_) rfl (by kernel_rfl) rfl rfl (R_storeRow rfl rfl rfl (by kernel_rfl) (by simp [Value.oneCell']) q23 rfl) (by kernel_rfl) fun w6 hw=>?_
        replace q11:=keep_cells hw q11 (by omega)
        replace q23:=put_row hw q23 rfl
        replace HL:=lots_cells hw HL (by omega) (by omega)
        replace orr:=owns_cellsX hw orr o23_orr.out
        replace G:=ext_cells G hw (fun h=>by first | exact absurd h (by omega) | simp)
        clear hw
        refine anyU_done (by kernel_rfl) ?_ _
        clear q11_ hh eS
        all_goals
         go_wp2_with fail
         go_meet
         case rel=>exact ⟨_,s,a,i,rfl,hs0,by omega,ha0,by omega,hi0,by omega,by omega,o23_orr,q23,q11,orr,lots_mono HL (by omega),G⟩
       case rest =>
        clear HL G q11 orr
        obtain ⟨n23,s,a,i,rfl,hs0,hs1,ha0,ha1,hi0,hi1,hn23,o23_orr,q23,q11,orr,HL,G⟩:=hcut
        obtain ⟨hrow,hmb1,hmb2⟩:=hOk.at (s:=s.toNat) (a:=a.toNat) (by omega) (by omega)
        have hrl:=hrow.len
        have hpb:=hps _ (getD_mem (l:=ps) (i:=i.toNat) 0 (by omega))
        obtain ⟨bo,br,bc,hva,hcl⟩:=lists_cell om hms (s:=s.toNat) (a:=a.toNat) (by omega) (by omega)
        obtain ⟨bp,hpa,hcp⟩:=ints_cell ho (a:=i.toNat) (by omega)
        subst hva hpa
        have hc1 : Hid (∀ W : World,Ext [b] wc W → W.cell? ⟨bo,0 + s.toNat * 1,none⟩ = some (.slice (some ⟨br,0,none⟩) (ms.getD s.toNat []).length bc) ∧ W.cell? ⟨br,0 + a.toNat * 1,none⟩ = some (.int .i64 ((ms.getD s.toNat []).getD a.toNat 0))):=fun W hW =>
         hcl [b,n11] W (by simp;omega) (G.trans' hW (by simp))
        have hc2 : Hid (∀ W : World,Ext [b] wc W → W.cell? ⟨bp,0 + i.toNat * 1,none⟩ = some (.int .i64 (ps.getD i.toNat 0))):=fun W hW =>
         hcp [b,n11] W (by simp;omega) (G.trans' hW (by simp))
        clear hcl hcp hrow
        obtain ⟨m,hm⟩ : ∃ m,m = (ms.getD s.toNat []).getD a.toNat 0:=⟨_,rfl⟩
        obtain ⟨rl,hrl'⟩ : ∃ rl,rl = (ms.getD s.toNat []).length:=⟨_,rfl⟩
        obtain ⟨p,hp⟩ : ∃ p,p = ps.getD i.toNat 0:=⟨_,rfl⟩
        rw [← hm] at hmb1 hmb2 hc1
        rw [← hrl'] at hrl hc1
        rw [← hp] at hpb hc2
        have Hm:=Lib.hid hm
        have Hp:=Lib.hid hp
        clear hm hp hrl'
        go_upto_region 33 with (fail)
        refine region_until (Ext [b] wc) 24 follows fun w51 hh eS=>?_
        have q11_:=q11
        have q23_:=q23
        replace q11:=keep_same hh q11
        replace q23:=keep_same hh q23
        replace orr:=owns_same hh orr
        replace G:=ext_same G eS
        replace HL:=lots_ext eS HL
        replace eS:=eS.mono (Y:=[b]) (by simp)
        refine anyU_take (i:=0) (last:=24) rfl rfl (by decide) (by kernel_rfl) (by kernel_rfl) (by kernel_rfl) (by kernel_rfl) (by kernel_rfl) (fun _ _ _ h=>h) rfl rfl (fun w' hS=>R_move (v:=.slice _ _ _) rfl rfl) eS (by simp only [ls,lz];exact rfl) ?_
        refine anyU_take (i:=1) (last:=24) rfl rfl (by decide) (by kernel_rfl) (by kernel_rfl) (by kernel_rfl) (by kernel_rfl) (by kernel_rfl) (fun _ _ _ h=>h) rfl rfl (fun w' hS=>R_field rfl rfl Try.underlying66 rfl (n:=0) (sz:=1) rfl (by kernel_rfl) (by decide)) eS (by simp only [ls,lz];exact rfl) ?_
        refine anyU_take (i:=2) (last:=24) rfl rfl (by decide) (by kernel_rfl) (by kernel_rfl) (by kernel_rfl) (by kernel_rfl) (by kernel_rfl) (fun _ _ _ h=>h) rfl rfl (fun w' hS=>R_load rfl rfl Try.underlying3 rfl ((cells_of_block (hS.keep q23_ (by simp;omega)) 0).trans (get0))) eS (by simp only [ls,lz];exact rfl) ?_
        refine anyU_take (i:=3) (last:=24) rfl rfl (by decide) (by kernel_rfl) (by kernel_rfl) (by kernel_rfl) (by kernel_rfl) (by kernel_rfl) (fun _ _ _ h=>h) rfl rfl (fun w' hS=>R_ixSlice (sz:=1) rfl rfl rfl Try.underlying50 (by kernel_rfl) (by omega) (by omega)) eS (by simp only [ls,lz];exact rfl) ?_
        refine anyU_take (i:=4) (last:=24) rfl rfl (by decide) (by kernel_rfl) (by kernel_rfl) (by kernel_rfl) (by kernel_rfl) (by kernel_rfl) (fun _ _ _ h=>h) rfl rfl (fun w' hS=>R_load (v:=.slice (some ⟨br,0,none⟩) rl bc) rfl rfl Try.underlying29 rfl (hc1.out _ hS).1) eS (by simp only [ls,lz];exact rfl) ?_
        refine anyU_take (i:=5) (last:=24) rfl rfl (by decide) (by kernel_rfl) (by kernel_rfl) (by kernel_rfl) (by kernel_rfl) (by kernel_rfl) (fun _ _ _ h=>h) rfl rfl (fun w' hS=>R_field rfl rfl Try.underlying66 rfl (n:=1) (sz:=1) rfl (by kernel_rfl) (by decide)) eS (by simp only [ls,lz];exact rfl) ?_
        refine anyU_take (i:=6) (last:=24) rfl rfl (by decide) (by kernel_rfl) (by kernel_rfl) (by kernel_rfl) (by kernel_rfl) (by kernel_rfl) (fun _ _ _ h=>h) rfl rfl (fun w' hS=>R_load rfl rfl Try.underlying3 rfl ((cells_of_block (hS.keep q23_ (by simp;omega)) 1).trans (getS (get0)))) eS (by simp only [ls,lz];exact rfl) ?_
        refine anyU_take (i:=7) (last:=24) rfl rfl (by decide) (by kernel_rfl) (by kernel_rfl) (by kernel_rfl) (by kernel_rfl) (by kernel_rfl) (fun _ _ _ h=>h) rfl rfl (fun w' hS=>R_ixSlice (sz:=1) rfl rfl rfl Try.underlying29 (by kernel_rfl) (by omega) (by omega)) eS (by simp only [ls,lz];exact rfl) ?_
        refine anyU_take (i:=8) (last:=24) rfl rfl (by decide) (by kernel_rfl) (by kernel_rfl) (by kernel_rfl) (by kernel_rfl) (by kernel_rfl) (fun _ _ _ h=>h) rfl rfl (fun w' hS=>R_load (v:=.int .i64 m) rfl rfl Try.underlying3 rfl (hc1.out _ hS).2) eS (by simp only [ls,lz];exact rfl) ?_
        refine anyU_take (i:=9) (last:=24) rfl rfl (by decide) (by kernel_rfl) (by kernel_rfl) (by kernel_rfl) (by kernel_rfl) (by kernel_rfl) (fun _ _ _ h=>h) rfl rfl (fun w' hS=>R_move (v:=.slice _ _ _) rfl rfl) eS (by simp only [ls,lz];exact rfl) ?_
        refine anyU_take (i:=10) (last:=24) rfl rfl (by decide) (by kernel_rfl) (by kernel_rfl) (by kernel_rfl) (by kernel_rfl) (by kernel_rfl) (fun _ _ _ h=>h) rfl rfl (fun w' hS=>R_field rfl rfl Try.underlying66 rfl (n:=2) (sz:=1) rfl (by kernel_rfl) (by decide)) eS (by simp only [ls,lz];exact rfl) ?_
        refine anyU_take (i:=11) (last:=24) rfl rfl (by decide) (by kernel_rfl) (by kernel_rfl) (by kernel_rfl) (by kernel_rfl) (by kernel_rfl) (fun _ _ _ h=>h) rfl rfl (fun w' hS=>R_load rfl rfl Try.underlying3 rfl ((cells_of_block (hS.keep q23_ (by simp;omega)) 2).trans (getS (getS (get0))))) eS (by simp only [ls,lz];exact rfl) ?_
        refine anyU_take (i:=12) (last:=24) rfl rfl (by decide) (by kernel_rfl) (by kernel_rfl) (by kernel_rfl) (by kernel_rfl) (by kernel_rfl) (fun _ _ _ h=>h) rfl rfl (fun w' hS=>R_ixSlice (sz:=1) rfl rfl rfl Try.underlying29 (by kernel_rfl) (by omega) (by omega)) eS (by simp only [ls,lz];exact rfl) ?_
        refine anyU_take (i:=13) (last:=24) rfl rfl (by decide) (by kernel_rfl) (by kernel_rfl) (by kernel_rfl) (by kernel_rfl) (by kernel_rfl) (fun _ _ _ h=>h) rfl rfl (fun w' hS=>R_load (v:=.int .i64 p) rfl rfl Try.underlying3 rfl (hc2.out _ hS)) eS (by simp only [ls,lz];exact rfl) ?_
        refine anyU_take (i:=14) (last:=24) rfl rfl (by decide) (by kernel_rfl) (by kernel_rfl) (by kernel_rfl) (by kernel_rfl) (by kernel_rfl) (fun _ _ _ h=>h) rfl rfl (fun w' hS=>R_add rfl rfl rfl (by omega) (by omega)) eS (by simp only [ls,lz];exact rfl) ?_
        refine anyU_take (i:=15) (last:=24) rfl rfl (by decide) (by kernel_rfl) (by kernel_rfl) (by kernel_rfl) (by kernel_rfl) (by kernel_rfl) (fun _ _ _ h=>h) rfl rfl (fun w' hS=>R_move (v:=.pointer (some ⟨_,_,none⟩)) rfl rfl) eS (by simp only [ls,lz];exact rfl) ?_
        refine anyU_take (i:=16) (last:=24) rfl rfl (by decide) (by kernel_rfl) (by kernel_rfl) (by kernel_rfl) (by kernel_rfl) (by kernel_rfl) (fun _ _ _ h=>h) rfl rfl (fun w' hS=>R_field rfl rfl Try.underlying28 rfl (n:=7) (sz:=1) rfl (by kernel_rfl) (by decide)) eS (by simp only [ls,lz];exact rfl) ?_
        refine anyU_take (i:=17) (last:=24) rfl rfl (by decide) (by kernel_rfl) (by kernel_rfl) (by kernel_rfl) (by kernel_rfl) (by kernel_rfl) (fun _ _ _ h=>h) rfl rfl (fun w' hS=>R_load rfl rfl Try.underlying3 rfl ((cells_of_block (hS.keep q11_ (by simp;omega)) 7).trans (getS (getS (getS (getS (getS (getS (getS (get0)))))))))) eS (by simp only [ls,lz];exact rfl) ?_
        refine anyU_take (i:=18) (last:=24) rfl rfl (by decide) (by kernel_rfl) (by kernel_rfl) (by kernel_rfl) (by kernel_rfl) (by kernel_rfl) (fun _ _ _ h=>h) rfl rfl (fun w' hS=>R_neg rfl rfl (by omega) (by omega)) eS (by simp only [ls,lz];exact rfl) ?_
        refine anyU_take (i:=19) (last:=24) rfl rfl (by decide) (by kernel_rfl) (by kernel_rfl) (by kernel_rfl) (by kernel_rfl) (by kernel_rfl) (fun _ _ _ h=>h) rfl rfl (fun w' hS=>R_field rfl rfl Try.underlying28 rfl (n:=7) (sz:=1) rfl (by kernel_rfl) (by decide)) eS (by simp only [ls,lz];exact rfl) ?_
        refine anyU_take (i:=20) (last:=24) rfl rfl (by decide) (by kernel_rfl) (by kernel_rfl) (by kernel_rfl) (by kernel_rfl) (by kernel_rfl) (fun _ _ _ h=>h) rfl rfl (fun w' hS=>R_load rfl rfl Try.underlying3 rfl ((cells_of_block (hS.keep q11_ (by simp;omega)) 7).trans (getS (getS (getS (getS (getS (getS (getS (get0)))))))))) eS (by simp only [ls,lz];exact rfl) ?_
        refine anyU_call (i:=21) rfl (by kernel_rfl) rfl rfl (by kernel_rfl) (in_any w0 _ b _ nv (-sl) sl HL (by omega) (by omega) (by omega) (by omega) (by omega)) fun e w52 hR=>?_
        obtain ⟨d,rfl,hd1,hd2,HL,e1⟩:=hR
        replace eS:=eS.trans e1
        replace q11:=(e1).keep q11 (by simp;omega)
        replace q23:=(e1).keep q23 (by simp;omega)
        replace orr:=owns_ext orr e1 (by simp;omega)
        replace G:=G.trans' e1 (fun i hi hl=>by simp only [List.mem_cons,List.not_mem_nil,or_false] at hi ⊢;omega)
        refine ⟨_,_,rfl,(by simp only [ls,lz];exact rfl),eS,?_⟩
        refine anyU_take (i:=22) (last:=24) rfl rfl (by decide) (by kernel_rfl) (by kernel_rfl) (by kernel_rfl) (by kernel_rfl) (by kernel_rfl) (fun _ _ _ h=>h) rfl rfl (fun w' hS=>R_add rfl rfl rfl (by omega) (by omega)) eS (by simp only [ls,lz];exact rfl) ?_
        refine anyU_take (i:=23) (last:=24) rfl rfl (by decide) (by kernel_rfl) (by kernel_rfl) (by kernel_rfl) (by kernel_rfl) (by kernel_rfl) (fun _ _ _ h=>h) rfl rfl (fun w' hS=>R_field rfl rfl Try.underlying66 rfl (n:=3) (sz:=1) rfl (by kernel_rfl) (by decide)) eS (by simp only [ls,lz];exact rfl) ?_
        refine anyU_last (o:=_) rfl (by kernel_rfl) rfl rfl (R_store (v:=.int .i64 _) rfl rfl rfl rfl (by kernel_rfl) ((cells_of_block q23 3).trans (getS (getS (getS (get0))))) (free_of_block q23 3)) (by kernel_rfl) fun w53 hw=>?_
        replace q11:=keep_cell hw q11 (by omega)
        replace q23:=put_cell hw q23 (by simp only [List.setIfInBounds_toArray,ls,lz];exact rfl)
        replace HL:=lots_cell hw HL (by omega) (by omega)
        replace orr:=owns_cellX hw orr o23_orr.out
        replace G:=ext_cell G hw (fun h=>by first | exact absurd h (by omega) | simp)
        clear hw
        refine anyU_done (by kernel_rfl) ?_ _
        clear q11_ q23_ hh eS
        clear hc1 hc2
        go_upto_region 34 with (fail)
        refine wp_region_lit ?_
        refine seq_val rfl rfl (R_field rfl rfl Try.underlying28 rfl (n:=9) (sz:=1) rfl (by kernel_rfl) (by decide)) (by simp only [ls,lz];exact rfl) ?_
        refine seq_val rfl rfl (R_load rfl rfl Try.underlying25 rfl ((cells_of_block q11 9).trans (getS (getS (getS (getS (getS (getS (getS (getS (getS (get0)))))))))))) (by simp only [ls,lz];exact rfl) ?_
        refine seq_val rfl rfl (R_loadBlk rfl rfl Try.underlying66 rfl (by kernel_rfl) q23) (by simp only [ls,lz];exact rfl) ?_
        refine seq_new rfl rfl (R_buildSlice rfl Try.underlying25 (size:=4) (by kernel_rfl) (by decide) (by decide) Try.zeroValue66 (cells:=#[.int .i64 s,.int .i64 a,.int .i64 i,.int .i64 (m + p + d)]) (by kernel_rfl)) (by simp only [ls,lz];exact rfl) fun w54 hw=>?_
        obtain ⟨n202,hn⟩ : ∃ n,n = w53.heap.size:=⟨_,rfl⟩
        rw [← hn]
        have l202 : wq.heap.size ≤ n202:=by rw [hn];exact G.size
        have b202_HL:=Nat.lt_of_lt_of_eq (lots_lt HL) hn.symm
        have m202_11 : n11 < n202:=by rw [hn];exact blk_lt q11
        have m202_23 : n23 < n202:=by rw [hn];exact blk_lt q23
        have o202_orr:=Lib.hid (own_ne_new orr hn)
        replace q11:=keep_alloc hw q11
        replace q23:=keep_alloc hw q23
        replace HL:=lots_alloc hw HL
        replace orr:=owns_alloc hw orr
        have q202:=new_block hw hn
        replace G:=ext_alloc G hw
        clear hw hn
        have hszR:=blk_lt q202
        refine seq_append rfl rfl rfl (nR) (e:=66) (size:=4) (bytes:=32) Try.underlying25 (by kernel_rfl) (by decide) rfl orr rfl q202 rfl (by simp [Value.oneCell']) (by omega) (by omega) (by omega) fun v' w55 hown' hg=>?_
        obtain ⟨va203,vc203,rfl⟩:=owns_slice hown'
        replace q11:=keep_type orr hg q11 (by decide)
        replace HL:=lots_append HL orr hg (by omega) (by decide)
        replace G:=ext_appendX G orr hg (by omega)
        have hgsz:=hg.size
        replace orr:=hown'
        clear hg
        refine ⟨_,(by simp only [ls,lz];exact rfl),?_⟩
        refine seq_val rfl rfl (R_field rfl rfl Try.underlying28 rfl (n:=9) (sz:=1) rfl (by kernel_rfl) (by decide)) (by simp only [ls,lz];exact rfl) ?_
        refine seq_to rfl rfl (R_store (v:=.slice _ _ _) rfl rfl rfl rfl (by kernel_rfl) ((cells_of_block q11 9).trans rfl) (free_of_block q11 9)) fun w56 hw=>?_
        replace q11:=put_cell hw q11 (by simp only [List.setIfInBounds_toArray,ls,lz];exact rfl)
        replace HL:=lots_cell hw HL (by omega) (by omega)
        replace orr:=owns_cell hw orr (by omega)
        replace G:=ext_cell G hw (fun h=>by first | exact absurd h (by omega) | simp)
        clear hw
        refine wpList_nil ?_
        have hro : RdOk S A T sl ms ps (s,a,i,m + p + d):=⟨hs0,hs1,ha0,ha1,hi0,hi1,by simp only;rw [← Hm.out,← Hp.out];omega,by simp only;rw [← Hm.out,← Hp.out];omega⟩
        have hrs2 : ∀ r ∈ rs ++ [(s,a,i,m + p + d)],RdOk S A T sl ms ps r:=fun r hr=>by
         rcases List.mem_append.1 hr with hr | hr
         ·exact hrs r hr
         ·simp at hr;subst hr;exact hro
        go_wp2
        go_roundw
        case rel =>
         exact ⟨j,rs ++ [(s,a,i,m + p + d)],_,_,by rw [List.length_append,List.length_singleton];omega,congrArg (Value.int .i64) (by omega),hrs2,by rw [List.length_append,List.length_singleton];exact q11,by rw [flatR_snoc,List.length_append,List.length_singleton];exact orr,lots_mono HL (by rw [List.length_append,List.length_singleton];omega),G⟩
        case measure=>simp [intOf]
      ·obtain rfl : j = 0:=by omega
       have hrl5 : rs.length ≤ 5:=by omega
       clear hjr hj
       have hj0 : ¬ (0 : Int) < ((0 : Nat) : Int):=by omega
       replace Ex:=Ex.trans' G (fun i hi hl=>by simp only [List.mem_cons,List.not_mem_nil,or_false] at hi ⊢;omega)
       replace om:=owns_ext om G (by simp;omega)
       replace og:=owns_ext og G (by simp;omega)
       replace ho:=owns_ext ho G (by simp;omega)
       replace q8:=G.keep q8 (by simp;omega)
       replace hms:=lists_keep hms fun v n xs h=>owns_ext h G (by simp;omega)
       replace orr:=owns_lower orr (show n11 + 1 ≤ nR by omega)
       replace HL:=lots_mono HL (show k + 44 + 4 * rs.length ≤ k + 64 by omega)
       clear G hsz11q hnR
       obtain ⟨wl,hwl⟩ : ∃ wl,wl = wr:=⟨_,rfl⟩
       subst hwl
       obtain ⟨nL,hnL⟩ : ∃ nL,nL = wl.heap.size:=⟨_,rfl⟩
       have G : Ext [b,n11] wl wl:=Ext.refl _ _
       have hszl:=Ex.size
       have hsz11l:=blk_lt q11
       go_upto_region 30 with (fail)
       refine wp_region_lit ?_
       refine seq_val rfl rfl (R_move (v:=.int .i64 _) rfl rfl) (by simp only [ls,lz];exact rfl) ?_
       refine seq_val rfl rfl (R_gtr rfl rfl rfl) (by simp only [ls,lz];exact rfl) ?_
       refine wpList_nil ?_
       go_upto_region 35 with (fail)
       refine wp_region_lit ?_
       refine seq_val rfl rfl (R_move (v:=.pointer (some ⟨_,_,none⟩)) rfl rfl) (by simp only [ls,lz];exact rfl) ?_
       refine seq_new rfl rfl (R_buildSlice rfl Try.underlying29 (size:=1) (by kernel_rfl) (by decide) (by decide) Try.zeroValue3 (cells:=#[.int .i64 0,.int .i64 0,.int .i64 1,.int .i64 2]) (by kernel_rfl)) (by simp only [ls,lz];exact rfl) fun w71 hw=>?_
       obtain ⟨n206,hn⟩ : ∃ n,n = wl.heap.size:=⟨_,rfl⟩
       rw [← hn]
       have l206 : wl.heap.size ≤ n206:=by rw [hn];exact G.size
       have b206_HL:=Nat.lt_of_lt_of_eq (lots_lt HL) hn.symm
       have m206_11 : n11 < n206:=by rw [hn];exact blk_lt q11
       replace q11:=keep_alloc hw q11
       replace HL:=lots_alloc hw HL
       have q206:=new_block hw hn
       replace G:=ext_alloc G hw
       clear hw hn
       refine seq_call rfl rfl (by kernel_rfl) (of_any w0 _ b _ nv n206 _ [0,0,1,2] HL (by omega) q206 (by omega) (by decide) (by decide)) fun e w72 hR=>?_
       obtain ⟨many,rfl,hm,HL,e1⟩:=hR
       refine ⟨_,_,rfl,(by simp only [ls,lz];exact rfl),?_⟩
       replace q11:=(e1).keep q11 (by simp;omega)
       replace q206:=(e1).keep q206 (by simp;omega)
       replace G:=G.trans' e1 (fun i hi hl=>by simp only [List.mem_cons,List.not_mem_nil,or_false] at hi ⊢;omega)
       refine seq_val rfl rfl (R_assign (v:=.int .i64 _) rfl rfl) (by simp only [ls,lz];exact rfl) ?_
       refine wpList_nil ?_
       clear e1 q206
       replace hm : 0 ≤ many ∧ many ≤ 2:=by simp at hm;omega
       obtain ⟨hm1,hm2⟩:=hm
       obtain ⟨many,rfl⟩:=Int.eq_ofNat_of_zero_le hm1
       have hm3 : many ≤ 2:=by omega
       go_wp2_with fail
       go_loopw [24] (fun iv wr=>∃ (j : Nat) (ks : List (Int × Int × Int × Int × Int × Int)) (la : Option Addr) (lc : Nat),j ≤ 2 ∧ j + ks.length ≤ 2 ∧ iv = .int .i64 j ∧ (∀ l ∈ ks,LkOk S A ms l) ∧
        wr.heap[n11]? = some (.cells #[.int .i64 S,.int .i64 A,.int .i64 T,.int .i64 bl,.int .i64 (bl + wd),.int .i64 (-p1),.int .i64 p2,.int .i64 sl,.slice ga gs.length gc,.slice ra rs.length rc,.slice la ks.length lc] 28 (0,0)) ∧ wr.ownsRow nL 75 6 (.slice la ks.length lc) ks.length (flatK ks) ∧ LotsOk w0 wr b (k + 65 + 6 * (2 - j)) nv ∧ Ext [b,n11] wl wr) (fun iv _=>(intOf iv).toNat)
       case atStart=>exact ⟨many,[],none,0,by omega,by simp;omega,rfl,fun p h=>by simp at h,q11,World.ownsRow_nil _ _ _ _,lots_mono HL (by omega),G⟩
       case round =>
        clear HL G q11 hm1 hm2 hm3
        obtain ⟨j,ks,la,lc,hj2,hjr,rfl,hks,q11,olk,HL,G⟩:=hrel
        by_cases hj : 0 < j
        ·have hj1 : (0 : Int) < (j : Int):=by omega
         obtain ⟨kk,hkk⟩ : ∃ kk,kk = 2 - j:=⟨_,rfl⟩
         rw [← hkk] at HL
         have hkk1 : kk ≤ 1:=by omega
         have hkk2 : kk + 1 = 2 - (j - 1):=by omega
         have Hkk:=Lib.hid hkk2
         clear hkk hkk2
         go_upto_region 36 with (fail)
         refine wp_region_lit ?_
         refine seq_val rfl rfl (R_move (v:=.int .i64 _) rfl rfl) (by simp only [ls,lz];exact rfl) ?_
         refine seq_val rfl rfl (R_gtr rfl rfl rfl) (by simp only [ls,lz];exact rfl) ?_
         refine wpList_nil ?_
         go_upto_region 38 with (fail)
         go_cut [25] from 212 to 232 (fun pv wc=>∃ (n25 : Nat) (s a o h : Int),pv = .pointer (some ⟨n25,0,none⟩) ∧ 0 ≤ s ∧ s < S ∧ 0 ≤ a ∧ a < A ∧ 0 ≤ o ∧ o < S ∧ 0 ≤ h ∧ h < A ∧ nL ≤ n25 ∧ Hid (some n25 ≠ Value.ownBlock (.slice la ks.length lc)) ∧ wc.heap[n25]? = some (.cells #[.int .i64 s,.int .i64 a,.int .i64 o,.int .i64 h,.int .i64 0,.int .i64 0] 75 (0,0)) ∧
          wc.heap[n11]? = some (.cells #[.int .i64 S,.int .i64 A,.int .i64 T,.int .i64 bl,.int .i64 (bl + wd),.int .i64 (-p1),.int .i64 p2,.int .i64 sl,.slice ga gs.length gc,.slice ra rs.length rc,.slice la ks.length lc] 28 (0,0)) ∧ wc.ownsRow nL 75 6 (.slice la ks.length lc) ks.length (flatK ks) ∧ LotsOk w0 wc b (k + 69 + 6 * kk) nv ∧ Ext [b,n11] wl wc)
         case first =>
          refine region_until (Ext [b] wr) 22 follows fun w1 hh eS=>?_
          have q11_:=q11
          replace q11:=keep_same hh q11
          replace olk:=owns_same hh olk
          replace G:=ext_same G eS
          replace HL:=lots_ext eS HL
          replace eS:=eS.mono (Y:=[b]) (by simp)
          refine anyU_take (i:=0) (last:=22) rfl rfl (by decide) (by kernel_rfl) (by kernel_rfl) (by kernel_rfl) (by kernel_rfl) (by kernel_rfl) (fun _ _ _ h=>h) rfl rfl (fun w' hS=>R_move (v:=.pointer (some ⟨_,_,none⟩)) rfl rfl) eS (by simp only [ls,lz];exact rfl) ?_
          refine anyU_take (i:=1) (last:=22) rfl rfl (by decide) (by kernel_rfl) (by kernel_rfl) (by kernel_rfl) (by kernel_rfl) (by kernel_rfl) (fun _ _ _ h=>h) rfl rfl (fun w' hS=>R_field rfl rfl Try.underlying28 rfl (n:=0) (sz:=1) rfl (by kernel_rfl) (by decide)) eS (by simp only [ls,lz];exact rfl) ?_
          refine anyU_take (i:=2) (last:=22) rfl rfl (by decide) (by kernel_rfl) (by kernel_rfl) (by kernel_rfl) (by kernel_rfl) (by kernel_rfl) (fun _ _ _ h=>h) rfl rfl (fun w' hS=>R_load rfl rfl Try.underlying3 rfl ((cells_of_block (hS.keep q11_ (by simp;omega)) 0).trans (get0))) eS (by simp only [ls,lz];exact rfl) ?_
          refine anyU_take (i:=3) (last:=22) rfl rfl (by decide) (by kernel_rfl) (by kernel_rfl) (by kernel_rfl) (by kernel_rfl) (by kernel_rfl) (fun _ _ _ h=>h) rfl rfl (fun w' hS=>R_sub rfl rfl rfl (by omega) (by omega)) eS (by simp only [ls,lz];exact rfl) ?_
          refine anyU_take (i:=5) (last:=22) rfl rfl (by decide) (by kernel_rfl) (by kernel_rfl) (by kernel_rfl) (by kernel_rfl) (by kernel_rfl) (fun _ _ _ h=>h) rfl rfl (fun w' hS=>R_move (v:=.pointer (some ⟨_,_,none⟩)) rfl rfl) eS (by simp only [ls,lz];exact rfl) ?_
          refine anyU_take (i:=6) (last:=22) rfl rfl (by decide) (by kernel_rfl) (by kernel_rfl) (by kernel_rfl) (by kernel_rfl) (by kernel_rfl) (fun _ _ _ h=>h) rfl rfl (fun w' hS=>R_field rfl rfl Try.underlying28 rfl (n:=1) (sz:=1) rfl (by kernel_rfl) (by decide)) eS (by simp only [ls,lz];exact rfl) ?_
          refine anyU_take (i:=7) (last:=22) rfl rfl (by decide) (by kernel_rfl) (by kernel_rfl) (by kernel_rfl) (by kernel_rfl) (by kernel_rfl) (fun _ _ _ h=>h) rfl rfl (fun w' hS=>R_load rfl rfl Try.underlying3 rfl ((cells_of_block (hS.keep q11_ (by simp;omega)) 1).trans (getS (get0)))) eS (by simp only [ls,lz];exact rfl) ?_
          refine anyU_take (i:=8) (last:=22) rfl rfl (by decide) (by kernel_rfl) (by kernel_rfl) (by kernel_rfl) (by kernel_rfl) (by kernel_rfl) (fun _ _ _ h=>h) rfl rfl (fun w' hS=>R_sub rfl rfl rfl (by omega) (by omega)) eS (by simp only [ls,lz];exact rfl) ?_
          refine anyU_take (i:=10) (last:=22) rfl rfl (by decide) (by kernel_rfl) (by kernel_rfl) (by kernel_rfl) (by kernel_rfl) (by kernel_rfl) (fun _ _ _ h=>h) rfl rfl (fun w' hS=>R_move (v:=.pointer (some ⟨_,_,none⟩)) rfl rfl) eS (by simp only [ls,lz];exact rfl) ?_
          refine anyU_take (i:=11) (last:=22) rfl rfl (by decide) (by kernel_rfl) (by kernel_rfl) (by kernel_rfl) (by kernel_rfl) (by kernel_rfl) (fun _ _ _ h=>h) rfl rfl (fun w' hS=>R_field rfl rfl Try.underlying28 rfl (n:=0) (sz:=1) rfl (by kernel_rfl) (by decide)) eS (by simp only [ls,lz];exact rfl) ?_
          refine anyU_take (i:=12) (last:=22) rfl rfl (by decide) (by kernel_rfl) (by kernel_rfl) (by kernel_rfl) (by kernel_rfl) (by kernel_rfl) (fun _ _ _ h=>h) rfl rfl (fun w' hS=>R_load rfl rfl Try.underlying3 rfl ((cells_of_block (hS.keep q11_ (by simp;omega)) 0).trans (get0))) eS (by simp only [ls,lz];exact rfl) ?_
          refine anyU_take (i:=13) (last:=22) rfl rfl (by decide) (by kernel_rfl) (by kernel_rfl) (by kernel_rfl) (by kernel_rfl) (by kernel_rfl) (fun _ _ _ h=>h) rfl rfl (fun w' hS=>R_sub rfl rfl rfl (by omega) (by omega)) eS (by simp only [ls,lz];exact rfl) ?_
          refine anyU_take (i:=15) (last:=22) rfl rfl (by decide) (by kernel_rfl) (by kernel_rfl) (by kernel_rfl) (by kernel_rfl) (by kernel_rfl) (fun _ _ _ h=>h) rfl rfl (fun w' hS=>R_move (v:=.pointer (some ⟨_,_,none⟩)) rfl rfl) eS (by simp only [ls,lz];exact rfl) ?_
          refine anyU_take (i:=16) (last:=22) rfl rfl (by decide) (by kernel_rfl) (by kernel_rfl) (by kernel_rfl) (by kernel_rfl) (by kernel_rfl) (fun _ _ _ h=>h) rfl rfl (fun w' hS=>R_field rfl rfl Try.underlying28 rfl (n:=1) (sz:=1) rfl (by kernel_rfl) (by decide)) eS (by simp only [ls,lz];exact rfl) ?_
          refine anyU_take (i:=17) (last:=22) rfl rfl (by decide) (by kernel_rfl) (by kernel_rfl) (by kernel_rfl) (by kernel_rfl) (by kernel_rfl) (fun _ _ _ h=>h) rfl rfl (fun w' hS=>R_load rfl rfl Try.underlying3 rfl ((cells_of_block (hS.keep q11_ (by simp;omega)) 1).trans (getS (get0)))) eS (by simp only [ls,lz];exact rfl) ?_
          refine anyU_take (i:=18) (last:=22) rfl rfl (by decide) (by kernel_rfl) (by kernel_rfl) (by kernel_rfl) (by kernel_rfl) (by kernel_rfl) (fun _ _ _ h=>h) rfl rfl (fun w' hS=>R_sub rfl rfl rfl (by omega) (by omega)) eS (by simp only [ls,lz];exact rfl) ?_
          refine anyU_pair (i:=4) (j:=21) (by kernel_rfl) ?_ ?_
          refine opU_call rfl rfl rfl (by kernel_rfl) (upto_any w0 _ b _ nv (S - 1) HL (by omega) (by omega) (by omega)) fun e w2 hR=>?_
          obtain ⟨s,rfl,hs0,hs1,HL,e1⟩:=hR
          replace eS:=eS.trans e1
          replace q11:=(e1).keep q11 (by simp;omega)
          replace olk:=owns_ext olk e1 (by simp;omega)
          replace G:=G.trans' e1 (fun i hi hl=>by simp only [List.mem_cons,List.not_mem_nil,or_false] at hi ⊢;omega)
          refine ⟨_,_,rfl,(by simp only [ls,lz];exact rfl),fun _=>eS,?_⟩
          refine anyU_pair (i:=9) (j:=21) (by kernel_rfl) ?_ ?_
          refine opU_call rfl rfl rfl (by kernel_rfl) (upto_any w0 _ b _ nv (A - 1) HL (by omega) (by omega) (by omega)) fun e w3 hR=>?_
          obtain ⟨a,rfl,ha0,ha1,HL,e1⟩:=hR
          replace eS:=eS.trans e1
          replace q11:=(e1).keep q11 (by simp;omega)
          replace olk:=owns_ext olk e1 (by simp;omega)
          replace G:=G.trans' e1 (fun i hi hl=>by simp only [List.mem_cons,List.not_mem_nil,or_false] at hi ⊢;omega)
          refine ⟨_,_,rfl,(by simp only [ls,lz];exact rfl),fun _=>eS,?_⟩
          refine anyU_pair (i:=14) (j:=21) (by kernel_rfl) ?_ ?_
          refine opU_call rfl rfl rfl (by kernel_rfl) (upto_any w0 _ b _ nv (S - 1) HL (by omega) (by omega) (by omega)) fun e w4 hR=>?_
          obtain ⟨o,rfl,ho0,ho1,HL,e1⟩:=hR
          replace eS:=eS.trans e1
          replace q11:=(e1).keep q11 (by simp;omega)
          replace olk:=owns_ext olk e1 (by simp;omega)
          replace G:=G.trans' e1 (fun i hi hl=>by simp only [List.mem_cons,List.not_mem_nil,or_false] at hi ⊢;omega)
          refine ⟨_,_,rfl,(by simp only [ls,lz];exact rfl),fun _=>eS,?_⟩
          refine anyU_pair (i:=19) (j:=21) (by kernel_rfl) ?_ ?_
          refine opU_call rfl rfl rfl (by kernel_rfl) (upto_any w0 _ b _ nv (A - 1) HL (by omega) (by omega) (by omega)) fun e w5 hR=>?_
          obtain ⟨h,rfl,hh0,hh1,HL,e1⟩:=hR
          replace eS:=eS.trans e1
          replace q11:=(e1).keep q11 (by simp;omega)
          replace olk:=owns_ext olk e1 (by simp;omega)
          replace G:=G.trans' e1 (fun i hi hl=>by simp only [List.mem_cons,List.not_mem_nil,or_false] at hi ⊢;omega)
          refine ⟨_,_,rfl,(by simp only [ls,lz];exact rfl),fun _=>eS,?_⟩
          refine anyU_take (i:=20) (last:=22) rfl rfl (by decide) (by kernel_rfl) (by kernel_rfl) (by kernel_rfl) (by kernel_rfl) (by kernel_rfl) (fun _ _ _ h=>h) rfl rfl (fun w' hS=>R_build' rfl (cells:=#[.int .i64 s,.int .i64 a,.int .i64 o,.int .i64 h,.int .i64 0,.int .i64 0]) (by kernel_rfl)) eS (by simp only [ls,lz];exact rfl) ?_
          refine anyU_new (i:=21) rfl (by kernel_rfl) rfl rfl (R_alloc rfl Try.zeroValue75) (by simp only [ls,lz];exact rfl) fun w6 hw=>?_
          replace eS:=ext_alloc eS hw
          obtain ⟨n25,hn⟩ : ∃ n,n = w5.heap.size:=⟨_,rfl⟩
          rw [← hn]
          have l25 : wl.heap.size ≤ n25:=by rw [hn];exact G.size
          have b25_HL:=Nat.lt_of_lt_of_eq (lots_lt HL) hn.symm
          have m25_11 : n11 < n25:=by rw [hn];exact blk_lt q11
          have o25_olk:=Lib.hid (own_ne_new olk hn)
          replace q11:=keep_alloc hw q11
          replace HL:=lots_alloc hw HL
          replace olk:=owns_alloc hw olk
          have q25:=new_row hw hn
          replace G:=ext_alloc G hw
          clear hw hn
          refine ⟨fun _=>eS,?_⟩
          refine anyU_last (o:=_) rfl (by kernel_rfl) rfl rfl (R_storeRow rfl rfl rfl (by kernel_rfl) (by simp [Value.oneCell']) q25 rfl) (by kernel_rfl) fun w7 hw=>?_
          replace q11:=keep_cells hw q11 (by omega)
          replace q25:=put_row hw q25 rfl
          replace HL:=lots_cells hw HL (by omega) (by omega)
          replace olk:=owns_cellsX hw olk o25_olk.out
          replace G:=ext_cells G hw (fun h=>by first | exact absurd h (by omega) | simp)
          clear hw
          refine anyU_done (by kernel_rfl) ?_ _
          clear q11_ hh eS
          rotate_left
          refine opU_new rfl rfl rfl (R_alloc rfl Try.zeroValue75) (by simp only [ls,lz];exact rfl) fun w5 hw=>?_
          replace eS:=ext_alloc eS hw
          obtain ⟨n25,hn⟩ : ∃ n,n = w4.heap.size:=⟨_,rfl⟩
          rw [← hn]
          have l25 : wl.heap.size ≤ n25:=by rw [hn];exact G.size
          have b25_HL:=Nat.lt_of_lt_of_eq (lots_lt HL) hn.symm
          have m25_11 : n11 < n25:=by rw [hn];exact blk_lt q11
          have o25_olk:=Lib.hid (own_ne_new olk hn)
          replace q11:=keep_alloc hw q11
          replace HL:=lots_alloc hw HL
          replace olk:=owns_alloc hw olk
          have q25:=new_row hw hn
          replace G:=ext_alloc G hw
          clear hw hn
          refine ⟨fun _=>eS,?_⟩
          refine anyU_call (i:=19) rfl (by kernel_rfl) rfl rfl (by kernel_rfl) (upto_any w0 _ b _ nv (A - 1) HL (by omega) (by omega) (by omega)) fun e w6 hR=>?_
          obtain ⟨h,rfl,hh0,hh1,HL,e1⟩:=hR
          replace eS:=eS.trans e1
          replace q11:=(e1).keep q11 (by simp;omega)
          replace q25:=(e1).keep q25 (by simp;omega)
          replace olk:=owns_ext olk e1 (by simp;omega)
          replace G:=G.trans' e1 (fun i hi hl=>by simp only [List.mem_cons,List.not_mem_nil,or_false] at hi ⊢;omega)
          refine ⟨_,_,rfl,(by simp only [ls,lz];exact rfl),eS,?_⟩
          refine anyU_take (i:=20) (last:=22) rfl rfl (by decide) (by kernel_rfl) (by kernel_rfl) (by kernel_rfl) (by kernel_rfl) (by kernel_rfl) (fun _ _ _ h=>h) rfl rfl (fun w' hS=>R_build' rfl (cells:=#[.int .i64 s,.int .i64 a,.int .i64 o,.int .i64 h,.int .i64 0,.int .i64 0]) (by kernel_rfl)) eS (by simp only [ls,lz];exact rfl) ?_
          refine anyU_last (o:=_) rfl (by kernel_rfl) rfl rfl (R_storeRow rfl rfl rfl (by kernel_rfl) (by simp [Value.oneCell']) q25 rfl) (by kernel_rfl) fun w7 hw=>?_
          replace q11:=keep_cells hw q11 (by omega)
          replace q25:=put_row hw q25 rfl
          replace HL:=lots_cells hw HL (by omega) (by omega)
          replace olk:=owns_cellsX hw olk o25_olk.out
          replace G:=ext_cells G hw (fun h=>by first | exact absurd h (by omega) | simp)
          clear hw
          refine anyU_done (by kernel_rfl) ?_ _
          clear q11_ hh eS
          rotate_left
          refine opU_new rfl rfl rfl (R_alloc rfl Try.zeroValue75) (by simp only [ls,lz];exact rfl) fun w4 hw=>?_
          replace eS:=ext_alloc eS hw
          obtain ⟨n25,hn⟩ : ∃ n,n = w3.heap.size:=⟨_,rfl⟩
          rw [← hn]
          have l25 : wl.heap.size ≤ n25:=by rw [hn];exact G.size
          have b25_HL:=Nat.lt_of_lt_of_eq (lots_lt HL) hn.symm
          have m25_11 : n11 < n25:=by rw [hn];exact blk_lt q11
          have o25_olk:=Lib.hid (own_ne_new olk hn)
          replace q11:=keep_alloc hw q11
          replace HL:=lots_alloc hw HL
          replace olk:=owns_alloc hw olk
          have q25:=new_row hw hn
          replace G:=ext_alloc G hw
          clear hw hn
          refine ⟨fun _=>eS,?_⟩
          refine anyU_call (i:=14) rfl (by kernel_rfl) rfl rfl (by kernel_rfl) (upto_any w0 _ b _ nv (S - 1) HL (by omega) (by omega) (by omega)) fun e w5 hR=>?_
          obtain ⟨o,rfl,ho0,ho1,HL,e1⟩:=hR
          replace eS:=eS.trans e1
          replace q11:=(e1).keep q11 (by simp;omega)
          replace q25:=(e1).keep q25 (by simp;omega)
          replace olk:=owns_ext olk e1 (by simp;omega)
          replace G:=G.trans' e1 (fun i hi hl=>by simp only [List.mem_cons,List.not_mem_nil,or_false] at hi ⊢;omega)
          refine ⟨_,_,rfl,(by simp only [ls,lz];exact rfl),eS,?_⟩
          refine anyU_call (i:=19) rfl (by kernel_rfl) rfl rfl (by kernel_rfl) (upto_any w0 _ b _ nv (A - 1) HL (by omega) (by omega) (by omega)) fun e w6 hR=>?_
          obtain ⟨h,rfl,hh0,hh1,HL,e1⟩:=hR
          replace eS:=eS.trans e1
          replace q11:=(e1).keep q11 (by simp;omega)
          replace q25:=(e1).keep q25 (by simp;omega)
          replace olk:=owns_ext olk e1 (by simp;omega)
          replace G:=G.trans' e1 (fun i hi hl=>by simp only [List.mem_cons,List.not_mem_nil,or_false] at hi ⊢;omega)
          refine ⟨_,_,rfl,(by simp only [ls,lz];exact rfl),eS,?_⟩
          refine anyU_take (i:=20) (last:=22) rfl rfl (by decide) (by kernel_rfl) (by kernel_rfl) (by kernel_rfl) (by kernel_rfl) (by kernel_rfl) (fun _ _ _ h=>h) rfl rfl (fun w' hS=>R_build' rfl (cells:=#[.int .i64 s,.int .i64 a,.int .i64 o,.int .i64 h,.int .i64 0,.int .i64 0]) (by kernel_rfl)) eS (by simp only [ls,lz];exact rfl) ?_
          refine anyU_last (o:=_) rfl (by kernel_rfl) rfl rfl (R_storeRow rfl rfl rfl (by kernel_rfl) (by simp [Value.oneCell']) q25 rfl) (by kernel_rfl) fun w7 hw=>?_
          replace q11:=keep_cells hw q11 (by omega)
          replace q25:=put_row hw q25 rfl
          replace HL:=lots_cells hw HL (by omega) (by omega)
          replace olk:=owns_cellsX hw olk o25_olk.out
          replace G:=ext_cells G hw (fun h=>by first | exact absurd h (by omega) | simp)
          clear hw
          refine anyU_done (by kernel_rfl) ?_ _
          clear q11_ hh eS
          rotate_left
          refine opU_new rfl rfl rfl (R_alloc rfl Try.zeroValue75) (by simp only [ls,lz];exact rfl) fun w3 hw=>?_
          replace eS:=ext_alloc eS hw
          obtain ⟨n25,hn⟩ : ∃ n,n = w2.heap.size:=⟨_,rfl⟩
          rw [← hn]
          have l25 : wl.heap.size ≤ n25:=by rw [hn];exact G.size
          have b25_HL:=Nat.lt_of_lt_of_eq (lots_lt HL) hn.symm
          have m25_11 : n11 < n25:=by rw [hn];exact blk_lt q11
          have o25_olk:=Lib.hid (own_ne_new olk hn)
          replace q11:=keep_alloc hw q11
          replace HL:=lots_alloc hw HL
          replace olk:=owns_alloc hw olk
          have q25:=new_row hw hn
          replace G:=ext_alloc G hw
          clear hw hn
          refine ⟨fun _=>eS,?_⟩
          refine anyU_call (i:=9) rfl (by kernel_rfl) rfl rfl (by kernel_rfl) (upto_any w0 _ b _ nv (A - 1) HL (by omega) (by omega) (by omega)) fun e w4 hR=>?_
          obtain ⟨a,rfl,ha0,ha1,HL,e1⟩:=hR
          replace eS:=eS.trans e1
          replace q11:=(e1).keep q11 (by simp;omega)
          replace q25:=(e1).keep q25 (by simp;omega)
          replace olk:=owns_ext olk e1 (by simp;omega)
          replace G:=G.trans' e1 (fun i hi hl=>by simp only [List.mem_cons,List.not_mem_nil,or_false] at hi ⊢;omega)
          refine ⟨_,_,rfl,(by simp only [ls,lz];exact rfl),eS,?_⟩
          refine anyU_call (i:=14) rfl (by kernel_rfl) rfl rfl (by kernel_rfl) (upto_any w0 _ b _ nv (S - 1) HL (by omega) (by omega) (by omega)) fun e w5 hR=>?_
          obtain ⟨o,rfl,ho0,ho1,HL,e1⟩:=hR
          replace eS:=eS.trans e1
          replace q11:=(e1).keep q11 (by simp;omega)
          replace q25:=(e1).keep q25 (by simp;omega)
          replace olk:=owns_ext olk e1 (by simp;omega)
          replace G:=G.trans' e1 (fun i hi hl=>by simp only [List.mem_cons,List.not_mem_nil,or_false] at hi ⊢;omega)
          refine ⟨_,_,rfl,(by simp only [ls,lz];exact rfl),eS,?_⟩
          refine anyU_call (i:=19) rfl (by kernel_rfl) rfl rfl (by kernel_rfl) (upto_any w0 _ b _ nv (A - 1) HL (by omega) (by omega) (by omega)) fun e w6 hR=>?_
          obtain ⟨h,rfl,hh0,hh1,HL,e1⟩:=hR
          replace eS:=eS.trans e1
          replace q11:=(e1).keep q11 (by simp;omega)
          replace q25:=(e1).keep q25 (by simp;omega)
          replace olk:=owns_ext olk e1 (by simp;omega)
          replace G:=G.trans' e1 (fun i hi hl=>by simp only [List.mem_cons,List.not_mem_nil,or_false] at hi ⊢;omega)
          refine ⟨_,_,rfl,(by simp only [ls,lz];exact rfl),eS,?_⟩
          refine anyU_take (i:=20) (last:=22) rfl rfl (by decide) (by kernel_rfl) (by kernel_rfl) (by kernel_rfl) (by kernel_rfl) (by kernel_rfl) (fun _ _ _ h=>h) rfl rfl (fun w' hS=>R_build' rfl (cells:=#[.int .i64 s,.int .i64 a,.int .i64 o,.int .i64 h,.int .i64 0,.int .i64 0]) (by kernel_rfl)) eS (by simp only [ls,lz];exact rfl) ?_
          refine anyU_last (o:=_) rfl (by kernel_rfl) rfl rfl (R_storeRow rfl rfl rfl (by kernel_rfl) (by simp [Value.oneCell']) q25 rfl) (by kernel_rfl) fun w7 hw=>?_
          replace q11:=keep_cells hw q11 (by omega)
          replace q25:=put_row hw q25 rfl
          replace HL:=lots_cells hw HL (by omega) (by omega)
          replace olk:=owns_cellsX hw olk o25_olk.out
          replace G:=ext_cells G hw (fun h=>by first | exact absurd h (by omega) | simp)
          clear hw
          refine anyU_done (by kernel_rfl) ?_ _
          clear q11_ hh eS
          rotate_left
          refine opU_new rfl rfl rfl (R_alloc rfl Try.zeroValue75) (by simp only [ls,lz];exact rfl) fun w2 hw=>?_
          replace eS:=ext_alloc eS hw
          obtain ⟨n25,hn⟩ : ∃ n,n = w1.heap.size:=⟨_,rfl⟩
          rw [← hn]
          have l25 : wl.heap.size ≤ n25:=by rw [hn];exact G.size
          have b25_HL:=Nat.lt_of_lt_of_eq (lots_lt HL) hn.symm
          have m25_11 : n11 < n25:=by rw [hn];exact blk_lt q11
          have o25_olk:=Lib.hid (own_ne_new olk hn)
          replace q11:=keep_alloc hw q11
          replace HL:=lots_alloc hw HL
          replace olk:=owns_alloc hw olk
          have q25:=new_row hw hn
          replace G:=ext_alloc G hw
          clear hw hn
          refine ⟨fun _=>eS,?_⟩
          refine anyU_call (i:=4) rfl (by kernel_rfl) rfl rfl (by kernel_rfl) (upto_any w0 _ b _ nv (S - 1) HL (by omega) (by omega) (by omega)) fun e w3 hR=>?_
          obtain ⟨s,rfl,hs0,hs1,HL,e1⟩:=hR
          replace eS:=eS.trans e1
          replace q11:=(e1).keep q11 (by simp;omega)
          replace q25:=(e1).keep q25 (by simp;omega)
          replace olk:=owns_ext olk e1 (by simp;omega)
          replace G:=G.trans' e1 (fun i hi hl=>by simp only [List.mem_cons,List.not_mem_nil,or_false] at hi ⊢;omega)
          refine ⟨_,_,rfl,(by simp only [ls,lz];exact rfl),eS,?_⟩
          refine anyU_call (i:=9) rfl (by kernel_rfl) rfl rfl (by kernel_rfl) (upto_any w0 _ b _ nv (A - 1) HL (by omega) (by omega) (by omega)) fun e w4 hR=>?_
          obtain ⟨a,rfl,ha0,ha1,HL,e1⟩:=hR
          replace eS:=eS.trans e1
          replace q11:=(e1).keep q11 (by simp;omega)
          replace q25:=(e1).keep q25 (by simp;omega)
          replace olk:=owns_ext olk e1 (by simp;omega)
          replace G:=G.trans' e1 (fun i hi hl=>by simp only [List.mem_cons,List.not_mem_nil,or_false] at hi ⊢;omega)
          refine ⟨_,_,rfl,(by simp only [ls,lz];exact rfl),eS,?_⟩
          refine anyU_call (i:=14) rfl (by kernel_rfl) rfl rfl (by kernel_rfl) (upto_any w0 _ b _ nv (S - 1) HL (by omega) (by omega) (by omega)) fun e w5 hR=>?_
          obtain ⟨o,rfl,ho0,ho1,HL,e1⟩:=hR
          replace eS:=eS.trans e1
          replace q11:=(e1).keep q11 (by simp;omega)
          replace q25:=(e1).keep q25 (by simp;omega)
          replace olk:=owns_ext olk e1 (by simp;omega)
          replace G:=G.trans' e1 (fun i hi hl=>by simp only [List.mem_cons,List.not_mem_nil,or_false] at hi ⊢;omega)
          refine ⟨_,_,rfl,(by simp only [ls,lz];exact rfl),eS,?_⟩
          refine anyU_call (i:=19) rfl (by kernel_rfl) rfl rfl (by kernel_rfl) (upto_any w0 _ b _ nv (A - 1) HL (by omega) (by omega) (by omega)) fun e w6 hR=>?_
          obtain ⟨h,rfl,hh0,hh1,HL,e1⟩:=hR
          replace eS:=eS.trans e1
          replace q11:=(e1).keep q11 (by simp;omega)
          replace q25:=(e1).keep q25 (by simp;omega)
          replace olk:=owns_ext olk e1 (by simp;omega)
          replace G:=G.trans' e1 (fun i hi hl=>by simp only [List.mem_cons,List.not_mem_nil,or_false] at hi ⊢;omega)
          refine ⟨_,_,rfl,(by simp only [ls,lz];exact rfl),eS,?_⟩
          refine anyU_take (i:=20) (last:=22) rfl rfl (by decide) (by kernel_rfl) (by kernel_rfl) (by kernel_rfl) (by kernel_rfl) (by kernel_rfl) (fun _ _ _ h=>h) rfl rfl (fun w' hS=>R_build' rfl (cells:=#[.int .i64 s,.int .i64 a,.int .i64 o,.int .i64 h,.int .i64 0,.int .i64 0]) (by kernel_rfl)) eS (by simp only [ls,lz];exact rfl) ?_
          refine anyU_last (o:=_) rfl (by kernel_rfl) rfl rfl (R_storeRow rfl rfl rfl (by kernel_rfl) (by simp [Value.oneCell']) q25 rfl) (by kernel_rfl) fun w7 hw=>?_
          replace q11:=keep_cells hw q11 (by omega)
          replace q25:=put_row hw q25 rfl
          replace HL:=lots_cells hw HL (by omega) (by omega)
          replace olk:=owns_cellsX hw olk o25_olk.out
          replace G:=ext_cells G hw (fun h=>by first | exact absurd h (by omega) | simp)
          clear hw
          refine anyU_done (by kernel_rfl) ?_ _
          clear q11_ hh eS
          all_goals
           go_wp2_with fail
           go_meet
           case rel=>exact ⟨_,s,a,o,h,rfl,hs0,by omega,ha0,by omega,ho0,by omega,hh0,by omega,by omega,o25_olk,q25,q11,olk,lots_mono HL (by omega),G⟩
         case rest =>
          clear HL G q11 olk
          obtain ⟨n25,s,a,o,h,rfl,hs0,hs1,ha0,ha1,ho0,ho1,hh0,hh1,hn25,o25_olk,q25,q11,olk,HL,G⟩:=hcut
          obtain ⟨wk,hwk⟩ : ∃ wk,wk = wc:=⟨_,rfl⟩
          subst hwk
          go_upto_region 39 with (fail)
          go_cut [244] from 208 to 243 (fun v wx=>v = .bool (decide (s = o ∧ a = h)) ∧ wx = wk)
          case first =>
           have c25_0:=(cells_of_block q25 0).trans rfl
           have c25_1:=(cells_of_block q25 1).trans rfl
           have c25_2:=(cells_of_block q25 2).trans rfl
           have c25_3:=(cells_of_block q25 3).trans rfl
           by_cases hso : s = o
           ·subst hso
            by_cases hah : a = h
            ·subst hah
             go_wp2_with fail
             refine Met.intro ?_
             go_step
             (repeat apply Exists.intro)
             refine ⟨?rel,?fr⟩
             case fr=>congr 1
             case rel=>exact ⟨by simp,rfl⟩
            ·have hb : (a == h) = false:=by simpa using hah
             go_wp2_with fail
             refine Met.intro ?_
             go_step
             (repeat apply Exists.intro)
             refine ⟨?rel,?fr⟩
             case fr=>congr 1
             case rel=>exact ⟨by simp [hah],rfl⟩
           ·have hb : (s == o) = false:=by simpa using hso
            go_wp2_with fail
            refine Met.intro ?_
            go_step
            (repeat apply Exists.intro)
            refine ⟨?rel,?fr⟩
            case fr=>congr 1
            case rel=>exact ⟨by simp [hso],rfl⟩
          case rest =>
           obtain ⟨rfl,hx⟩:=hcut
           subst hx
           obtain ⟨wk,hwk⟩ : ∃ wk,wk = wc:=⟨_,rfl⟩
           subst hwk
           by_cases hne : s = o ∧ a = h
           ·have hb : decide (s = o ∧ a = h) = true:=decide_eq_true hne
            go_wp2
            go_roundw
            case rel=>exact ⟨j - 1,ks,la,lc,by omega,by omega,congrArg (Value.int .i64) (by omega),hks,q11,olk,lots_mono HL (by have:=Hkk.out;omega),G⟩
            case measure=>simp [intOf];omega
           ·have hb : decide (s = o ∧ a = h) = false:=decide_eq_false hne
            obtain ⟨hrow,hmb1,hmb2⟩:=hOk.at (s:=s.toNat) (a:=a.toNat) (by omega) (by omega)
            have hrl:=hrow.len
            obtain ⟨hrow2,hmb3,hmb4⟩:=hOk.at (s:=o.toNat) (a:=h.toNat) (by omega) (by omega)
            have hrl2:=hrow2.len
            obtain ⟨bo,br,bc,hva,hcl⟩:=lists_cell om hms (s:=s.toNat) (a:=a.toNat) (by omega) (by omega)
            obtain ⟨bo2,br2,bc2,hva2,hcl2⟩:=lists_cell om hms (s:=o.toNat) (a:=h.toNat) (by omega) (by omega)
            subst hva
            cases hva2
            clear hrow hrow2
            obtain ⟨m,hm⟩ : ∃ m,m = (ms.getD s.toNat []).getD a.toNat 0:=⟨_,rfl⟩
            obtain ⟨m2,hm2⟩ : ∃ m,m = (ms.getD o.toNat []).getD h.toNat 0:=⟨_,rfl⟩
            rw [← hm] at hmb1 hmb2
            rw [← hm2] at hmb3 hmb4
            have hc1 : Hid (∀ W : World,Ext [] wk W → W.cell? ⟨bo,0 + s.toNat * 1,none⟩ = some (.slice (some ⟨br,0,none⟩) (ms.getD s.toNat []).length bc) ∧ W.cell? ⟨br,0 + a.toNat * 1,none⟩ = some (.int .i64 m)):=fun W hW=>by
             rw [hm];exact hcl [b,n11] W (by simp;omega) (G.nil hW)
            have hc2 : Hid (∀ W : World,Ext [] wk W → W.cell? ⟨bo,0 + o.toNat * 1,none⟩ = some (.slice (some ⟨br2,0,none⟩) (ms.getD o.toNat []).length bc2) ∧ W.cell? ⟨br2,0 + h.toNat * 1,none⟩ = some (.int .i64 m2)):=fun W hW=>by
             rw [hm2];exact hcl2 [b,n11] W (by simp;omega) (G.nil hW)
            have Hm:=Lib.hid hm
            have Hm2:=Lib.hid hm2
            clear hm hm2 hcl hcl2
            go_upto_region 40 with (fail)
            refine region_any (Ext [] wk) follows fun w91 hh eS=>?_
            have q11_:=q11
            have q25_:=q25
            replace q11:=keep_same hh q11
            replace q25:=keep_same hh q25
            replace olk:=owns_same hh olk
            replace G:=ext_same G eS
            replace HL:=lots_ext eS HL
            refine anyH_take (i:=0) rfl (by kernel_rfl) (by kernel_rfl) (by kernel_rfl) (fun _ _ _ h=>h) rfl rfl (fun w' hS=>R_move (v:=.slice _ _ _) rfl rfl) eS (by simp only [ls,lz];exact rfl) ?_
            refine anyH_take (i:=1) rfl (by kernel_rfl) (by kernel_rfl) (by kernel_rfl) (fun _ _ _ h=>h) rfl rfl (fun w' hS=>R_field rfl rfl Try.underlying75 rfl (n:=0) (sz:=1) rfl (by kernel_rfl) (by decide)) eS (by simp only [ls,lz];exact rfl) ?_
            refine anyH_take (i:=2) rfl (by kernel_rfl) (by kernel_rfl) (by kernel_rfl) (fun _ _ _ h=>h) rfl rfl (fun w' hS=>R_load rfl rfl Try.underlying3 rfl ((cells_of_block (hS.keep q25_ (by simp)) 0).trans (get0))) eS (by simp only [ls,lz];exact rfl) ?_
            refine anyH_take (i:=3) rfl (by kernel_rfl) (by kernel_rfl) (by kernel_rfl) (fun _ _ _ h=>h) rfl rfl (fun w' hS=>R_ixSlice (sz:=1) rfl rfl rfl Try.underlying50 (by kernel_rfl) (by omega) (by omega)) eS (by simp only [ls,lz];exact rfl) ?_
            refine anyH_take (i:=4) rfl (by kernel_rfl) (by kernel_rfl) (by kernel_rfl) (fun _ _ _ h=>h) rfl rfl (fun w' hS=>R_load (v:=.slice (some ⟨br,0,none⟩) _ bc) rfl rfl Try.underlying29 rfl (hc1.out _ hS).1) eS (by simp only [ls,lz];exact rfl) ?_
            refine anyH_take (i:=5) rfl (by kernel_rfl) (by kernel_rfl) (by kernel_rfl) (fun _ _ _ h=>h) rfl rfl (fun w' hS=>R_field rfl rfl Try.underlying75 rfl (n:=1) (sz:=1) rfl (by kernel_rfl) (by decide)) eS (by simp only [ls,lz];exact rfl) ?_
            refine anyH_take (i:=6) rfl (by kernel_rfl) (by kernel_rfl) (by kernel_rfl) (fun _ _ _ h=>h) rfl rfl (fun w' hS=>R_load rfl rfl Try.underlying3 rfl ((cells_of_block (hS.keep q25_ (by simp)) 1).trans (getS (get0)))) eS (by simp only [ls,lz];exact rfl) ?_
            refine anyH_take (i:=7) rfl (by kernel_rfl) (by kernel_rfl) (by kernel_rfl) (fun _ _ _ h=>h) rfl rfl (fun w' hS=>R_ixSlice (sz:=1) rfl rfl rfl Try.underlying29 (by kernel_rfl) (by omega) (by omega)) eS (by simp only [ls,lz];exact rfl) ?_
            refine anyH_take (i:=8) rfl (by kernel_rfl) (by kernel_rfl) (by kernel_rfl) (fun _ _ _ h=>h) rfl rfl (fun w' hS=>R_load (v:=.int .i64 m) rfl rfl Try.underlying3 rfl (hc1.out _ hS).2) eS (by simp only [ls,lz];exact rfl) ?_
            refine anyH_take (i:=9) rfl (by kernel_rfl) (by kernel_rfl) (by kernel_rfl) (fun _ _ _ h=>h) rfl rfl (fun w' hS=>R_move (v:=.slice _ _ _) rfl rfl) eS (by simp only [ls,lz];exact rfl) ?_
            refine anyH_take (i:=10) rfl (by kernel_rfl) (by kernel_rfl) (by kernel_rfl) (fun _ _ _ h=>h) rfl rfl (fun w' hS=>R_field rfl rfl Try.underlying75 rfl (n:=2) (sz:=1) rfl (by kernel_rfl) (by decide)) eS (by simp only [ls,lz];exact rfl) ?_
            refine anyH_take (i:=11) rfl (by kernel_rfl) (by kernel_rfl) (by kernel_rfl) (fun _ _ _ h=>h) rfl rfl (fun w' hS=>R_load rfl rfl Try.underlying3 rfl ((cells_of_block (hS.keep q25_ (by simp)) 2).trans (getS (getS (get0))))) eS (by simp only [ls,lz];exact rfl) ?_
            refine anyH_take (i:=12) rfl (by kernel_rfl) (by kernel_rfl) (by kernel_rfl) (fun _ _ _ h=>h) rfl rfl (fun w' hS=>R_ixSlice (sz:=1) rfl rfl rfl Try.underlying50 (by kernel_rfl) (by omega) (by omega)) eS (by simp only [ls,lz];exact rfl) ?_
            refine anyH_take (i:=13) rfl (by kernel_rfl) (by kernel_rfl) (by kernel_rfl) (fun _ _ _ h=>h) rfl rfl (fun w' hS=>R_load (v:=.slice (some ⟨br2,0,none⟩) _ bc2) rfl rfl Try.underlying29 rfl (hc2.out _ hS).1) eS (by simp only [ls,lz];exact rfl) ?_
            refine anyH_take (i:=14) rfl (by kernel_rfl) (by kernel_rfl) (by kernel_rfl) (fun _ _ _ h=>h) rfl rfl (fun w' hS=>R_field rfl rfl Try.underlying75 rfl (n:=3) (sz:=1) rfl (by kernel_rfl) (by decide)) eS (by simp only [ls,lz];exact rfl) ?_
            refine anyH_take (i:=15) rfl (by kernel_rfl) (by kernel_rfl) (by kernel_rfl) (fun _ _ _ h=>h) rfl rfl (fun w' hS=>R_load rfl rfl Try.underlying3 rfl ((cells_of_block (hS.keep q25_ (by simp)) 3).trans (getS (getS (getS (get0)))))) eS (by simp only [ls,lz];exact rfl) ?_
            refine anyH_take (i:=16) rfl (by kernel_rfl) (by kernel_rfl) (by kernel_rfl) (fun _ _ _ h=>h) rfl rfl (fun w' hS=>R_ixSlice (sz:=1) rfl rfl rfl Try.underlying29 (by kernel_rfl) (by omega) (by omega)) eS (by simp only [ls,lz];exact rfl) ?_
            refine anyH_take (i:=17) rfl (by kernel_rfl) (by kernel_rfl) (by kernel_rfl) (fun _ _ _ h=>h) rfl rfl (fun w' hS=>R_load (v:=.int .i64 m2) rfl rfl Try.underlying3 rfl (hc2.out _ hS).2) eS (by simp only [ls,lz];exact rfl) ?_
            refine anyH_take (i:=18) rfl (by kernel_rfl) (by kernel_rfl) (by kernel_rfl) (fun _ _ _ h=>h) rfl rfl (fun w' hS=>R_sub rfl rfl rfl (by omega) (by omega)) eS (by simp only [ls,lz];exact rfl) ?_
            refine anyH_take (i:=19) rfl (by kernel_rfl) (by kernel_rfl) (by kernel_rfl) (fun _ _ _ h=>h) rfl rfl (fun w' hS=>R_assign (v:=.int .i64 _) rfl rfl) eS (by simp only [ls,lz];exact rfl) ?_
            refine wpAnyH_done (by kernel_rfl) ?_ _
            clear q11_ q25_ hh eS
            clear hc1 hc2
            go_upto_region 41 with (fail)
            refine wp_region_lit ?_
            refine seq_val rfl rfl (R_move (v:=.int .i64 _) rfl rfl) (by simp only [ls,lz];exact rfl) ?_
            refine seq_val rfl rfl (R_move (v:=.pointer (some ⟨_,_,none⟩)) rfl rfl) (by simp only [ls,lz];exact rfl) ?_
            refine seq_call rfl rfl (by kernel_rfl) (upto_any w0 _ b _ nv 3 HL (by omega) (by omega) (by omega)) fun e w92 hR=>?_
            obtain ⟨u,rfl,hu0,hu1,HL,e1⟩:=hR
            refine ⟨_,_,rfl,(by simp only [ls,lz];exact rfl),?_⟩
            replace q11:=(e1).keep q11 (by simp;omega)
            replace q25:=(e1).keep q25 (by simp;omega)
            replace olk:=owns_ext olk e1 (by simp;omega)
            replace G:=G.trans' e1 (fun i hi hl=>by simp only [List.mem_cons,List.not_mem_nil,or_false] at hi ⊢;omega)
            refine seq_val rfl rfl (R_sub rfl rfl rfl (by omega) (by omega)) (by simp only [ls,lz];exact rfl) ?_
            refine seq_val rfl rfl (R_move (v:=.int .i64 _) rfl rfl) (by simp only [ls,lz];exact rfl) ?_
            refine seq_val rfl rfl (R_move (v:=.pointer (some ⟨_,_,none⟩)) rfl rfl) (by simp only [ls,lz];exact rfl) ?_
            refine seq_call rfl rfl (by kernel_rfl) (upto_any w0 _ b _ nv 3 HL (by omega) (by omega) (by omega)) fun e w93 hR=>?_
            obtain ⟨v,rfl,hv0,hv1,HL,e1⟩:=hR
            refine ⟨_,_,rfl,(by simp only [ls,lz];exact rfl),?_⟩
            replace q11:=(e1).keep q11 (by simp;omega)
            replace q25:=(e1).keep q25 (by simp;omega)
            replace olk:=owns_ext olk e1 (by simp;omega)
            replace G:=G.trans' e1 (fun i hi hl=>by simp only [List.mem_cons,List.not_mem_nil,or_false] at hi ⊢;omega)
            refine seq_val rfl rfl (R_add rfl rfl rfl (by omega) (by omega)) (by simp only [ls,lz];exact rfl) ?_
            refine seq_val rfl rfl (R_build' rfl (cells:=#[.int .i64 (m - m2 - u),.int .i64 (m - m2 + v)]) (by kernel_rfl)) (by simp only [ls,lz];exact rfl) ?_
            refine seq_val rfl rfl (R_field rfl rfl Try.underlying75 rfl (n:=4) (sz:=2) rfl (by kernel_rfl) (by decide)) (by simp only [ls,lz];exact rfl) ?_
            refine seq_to rfl rfl (R_storeMid rfl rfl rfl (by kernel_rfl) (by simp [Value.oneCell']) q25 (by simp)) fun w94 hw=>?_
            replace q11:=keep_cells hw q11 (by omega)
            replace q25:=put_mid2 hw q25 (by simp only [List.setIfInBounds_toArray,ls,lz];exact rfl)
            replace HL:=lots_cells hw HL (by omega) (by omega)
            replace olk:=owns_cellsX hw olk o25_olk.out
            replace G:=ext_cells G hw (fun h=>by first | exact absurd h (by omega) | simp)
            clear hw
            refine wpList_nil ?_
            go_upto_region 42 with (fail)
            refine wp_region_lit ?_
            refine seq_val rfl rfl (R_field rfl rfl Try.underlying28 rfl (n:=10) (sz:=1) rfl (by kernel_rfl) (by decide)) (by simp only [ls,lz];exact rfl) ?_
            refine seq_val rfl rfl (R_load rfl rfl Try.underlying26 rfl ((cells_of_block q11 10).trans (getS (getS (getS (getS (getS (getS (getS (getS (getS (getS (get0))))))))))))) (by simp only [ls,lz];exact rfl) ?_
            refine seq_val rfl rfl (R_loadBlk rfl rfl Try.underlying75 rfl (by kernel_rfl) q25) (by simp only [ls,lz];exact rfl) ?_
            refine seq_new rfl rfl (R_buildSlice rfl Try.underlying26 (size:=6) (by kernel_rfl) (by decide) (by decide) Try.zeroValue75 (cells:=#[.int .i64 s,.int .i64 a,.int .i64 o,.int .i64 h,.int .i64 (m - m2 - u),.int .i64 (m - m2 + v)]) (by kernel_rfl)) (by simp only [ls,lz];exact rfl) fun w95 hw=>?_
            obtain ⟨n277,hn⟩ : ∃ n,n = w94.heap.size:=⟨_,rfl⟩
            rw [← hn]
            have l277 : wl.heap.size ≤ n277:=by rw [hn];exact G.size
            have b277_HL:=Nat.lt_of_lt_of_eq (lots_lt HL) hn.symm
            have m277_11 : n11 < n277:=by rw [hn];exact blk_lt q11
            have m277_25 : n25 < n277:=by rw [hn];exact blk_lt q25
            have o277_olk:=Lib.hid (own_ne_new olk hn)
            replace q11:=keep_alloc hw q11
            replace q25:=keep_alloc hw q25
            replace HL:=lots_alloc hw HL
            replace olk:=owns_alloc hw olk
            have q277:=new_block hw hn
            replace G:=ext_alloc G hw
            clear hw hn
            have hszR:=blk_lt q277
            refine seq_append rfl rfl rfl (nL) (e:=75) (size:=6) (bytes:=48) Try.underlying26 (by kernel_rfl) (by decide) rfl olk rfl q277 rfl (by simp [Value.oneCell']) (by omega) (by omega) (by omega) fun v' w96 hown' hg=>?_
            obtain ⟨va278,vc278,rfl⟩:=owns_slice hown'
            replace q11:=keep_type olk hg q11 (by decide)
            replace HL:=lots_append HL olk hg (by omega) (by decide)
            replace G:=ext_appendX G olk hg (by omega)
            have hgsz:=hg.size
            replace olk:=hown'
            clear hg
            refine ⟨_,(by simp only [ls,lz];exact rfl),?_⟩
            refine seq_val rfl rfl (R_field rfl rfl Try.underlying28 rfl (n:=10) (sz:=1) rfl (by kernel_rfl) (by decide)) (by simp only [ls,lz];exact rfl) ?_
            refine seq_to rfl rfl (R_store (v:=.slice _ _ _) rfl rfl rfl rfl (by kernel_rfl) ((cells_of_block q11 10).trans rfl) (free_of_block q11 10)) fun w97 hw=>?_
            replace q11:=put_cell hw q11 (by simp only [List.setIfInBounds_toArray,ls,lz];exact rfl)
            replace HL:=lots_cell hw HL (by omega) (by omega)
            replace olk:=owns_cell hw olk (by omega)
            replace G:=ext_cell G hw (fun h=>by first | exact absurd h (by omega) | simp)
            clear hw
            refine wpList_nil ?_
            have hlo : LkOk S A ms (s,a,o,h,m - m2 - u,m - m2 + v):=by
             refine ⟨hs0,hs1,ha0,ha1,ho0,ho1,hh0,hh1,hne,?_,?_,?_,?_⟩ <;> simp only <;> rw [← Hm.out,← Hm2.out] <;> omega
            have hks2 : ∀ l ∈ ks ++ [(s,a,o,h,m - m2 - u,m - m2 + v)],LkOk S A ms l:=fun r hr=>by
             rcases List.mem_append.1 hr with hr | hr
             ·exact hks r hr
             ·simp at hr;subst hr;exact hlo
            go_wp2
            go_roundw
            case rel=>exact ⟨j - 1,ks ++ [(s,a,o,h,m - m2 - u,m - m2 + v)],_,_,by omega,by rw [List.length_append,List.length_singleton];omega,congrArg (Value.int .i64) (by omega),hks2,by rw [List.length_append,List.length_singleton];exact q11,by rw [flatK_snoc,List.length_append,List.length_singleton];exact olk,lots_mono HL (by have:=Hkk.out;omega),G⟩
            case measure=>simp [intOf];omega
        ·obtain rfl : j = 0:=by omega
         have hkl : ks.length ≤ 2:=by omega
         have hj1 : ¬ (0 : Int) < ((0 : Nat) : Int):=by omega
         replace q8:=G.keep q8 (by simp;omega)
         go_upto_region 36 with (fail)
         refine wp_region_lit ?_
         refine seq_val rfl rfl (R_move (v:=.int .i64 _) rfl rfl) (by simp only [ls,lz];exact rfl) ?_
         refine seq_val rfl rfl (R_gtr rfl rfl rfl) (by simp only [ls,lz];exact rfl) ?_
         refine wpList_nil ?_
         replace Ex:=Ex.trans' G (fun i hi hl=>by simp only [List.mem_cons,List.not_mem_nil,or_false] at hi ⊢;omega)
         replace om:=owns_ext om G (by simp;omega)
         replace og:=owns_ext og G (by simp;omega)
         replace ho:=owns_ext ho G (by simp;omega)
         replace orr:=owns_ext orr G (by simp;omega)
         replace hms:=lists_keep hms fun v n xs h=>owns_ext h G (by simp;omega)
         replace olk:=owns_lower olk (show n11 + 1 ≤ nL by omega)
         obtain ⟨kl,hkl0⟩ : ∃ kl,kl = ks.length:=⟨_,rfl⟩
         clear G
         go_upto_region 43 with (fail)
         refine wp_region_lit ?_
         refine seq_val rfl rfl (R_loadBlk rfl rfl Try.underlying28 rfl (by kernel_rfl) q11) (by simp only [ls,lz];exact rfl) ?_
         refine seq_val rfl rfl (R_move (v:=.slice _ _ _) rfl rfl) (by simp only [ls,lz];exact rfl) ?_
         refine seq_val rfl rfl (R_move (v:=.slice _ _ _) rfl rfl) (by simp only [ls,lz];exact rfl) ?_
         refine seq_to rfl rfl (R_storeRow rfl rfl rfl (by kernel_rfl) (by simp [Value.oneCell']) q8 hz8) fun w102 hw=>?_
         replace q11:=keep_cells hw q11 (by omega)
         replace q8:=put_row hw q8 hz8
         replace HL:=lots_cells hw HL (by omega) (by omega)
         replace og:=owns_cells hw og (by omega)
         replace om:=owns_cells hw om (by omega)
         replace ho:=owns_cells hw ho (by omega)
         replace orr:=owns_cells hw orr (by omega)
         replace olk:=owns_cells hw olk (by omega)
         replace hms:=lists_keep hms fun v n xs h=>owns_cells hw h (by omega)
         replace Ex:=ext_cells Ex hw (fun h=>by first | exact absurd h (by omega) | simp)
         clear hw
         refine seq_val rfl rfl (R_assign (v:=.slice _ _ _) rfl rfl) (by simp only [ls,lz];exact rfl) ?_
         refine seq_val rfl rfl (R_assign (v:=.slice _ _ _) rfl rfl) (by simp only [ls,lz];exact rfl) ?_
         refine wpList_nil ?_
         have hM : Made { S:=S,A:=A,T:=T,bl:=bl,bm:=bl + wd,pl:=-p1,pm:=p2,sl:=sl,gr:=gs,rd:=rs,lk:=ks } ms ps:=
          ⟨hS1,hS',hA1,hA',hT1,hT',hbl1,hbl',by show bl ≤ bl + wd;omega,by show bl + wd ≤ bl + 60;omega,by show -3 ≤ -p1;omega,by show -p1 ≤ 0;omega,hp2,hp2',hsl1.1,hsl1.2,hgl,hOk,hpl,hps,hrl5,hrs,hkl,hks⟩
         have HP : Hid (MofPost w0 w b k nv S0 A0 wd (.returned (.tuple #[.agg #[.int .i64 S,.int .i64 A,.int .i64 T,.int .i64 bl,.int .i64 (bl + wd),.int .i64 (-p1),.int .i64 p2,.int .i64 sl,.slice ga gs.length gc,.slice ra rs.length rc,.slice la ks.length lc],.slice va ms.length vc,.slice pa ps.length pc])) w102):=
          ⟨_,ms,ps,vs,_,_,_,_,_,rfl,hM,hSS,hAA,rfl,owns_lower og (by omega),owns_lower orr (by omega),owns_lower olk (by omega),owns_lower om (by omega),lists_lower hms (by omega),owns_lower ho (by omega),lots_mono HL (show k + 65 + 6 * (2 - 0) ≤ k + 100 by omega),Ex⟩
         have HP2:=HP.out
         rw [hml] at HP2
         replace HP2:=Lib.hid HP2
         go_wp2
         exact bodyPost_ret (res_ctt rfl rfl Try.underlying28 rfl (by kernel_rfl) q8 rfl rfl) rfl HP2.out
end Go.Proofs.Ytholfdgebdlgjaa
