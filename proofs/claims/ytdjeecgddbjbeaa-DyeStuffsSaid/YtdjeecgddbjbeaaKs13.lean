/- Parts of a proof: Dfp, Dcx, Dcy. No conditions. -/
import Derived.Test.YtdjeecgddbjbeaaKs4
import Derived.Test.YtdjeecgddbjbeaaKs8
import Derived.Test.YtdjeecgddbjbeaaKs9
import Derived.Test.YtdjeecgddbjbeaaKs12
set_option linter.unusedVariables false
set_option linter.unusedSimpArgs false
namespace Go.Proofs.Ytdjeecgddbjbeaa
open Go.RowKit
def stfF (x : Vm) : List (List Int) → Int
 | []=>0
 | l :: r=>if rcpE x l ≠ 0 then rcpE x l else stfF x r
def stfE (x : Vm) (S : List (List Int)) : Int:=if 6 < (S.length : Int) then 6 else stfF x S
theorem stf_go {x : Vm} {S : List (List Int)} {i : Nat} (h : i < S.length) (hz : rcpE x (S.getD i []) = 0) : stfF x (S.drop i) = stfF x (S.drop (i + 1)):=by
 rw [drop_getD S [] h,stfF,if_neg (by simpa using hz)]
theorem stf_bad {x : Vm} {S : List (List Int)} {i : Nat} (h : i < S.length) (hz : rcpE x (S.getD i []) ≠ 0) : stfF x (S.drop i) = rcpE x (S.getD i []):=by
 rw [drop_getD S [] h,stfF,if_pos hz]
set_option maxRecDepth 100000 in
set_option maxHeartbeats 1000000 in
theorem stuffs_bad (x : Vm) (hv : VOk x) (S : List (Value × List Int)) (hs : ∀ p ∈ S,p.2.length ≤ 1000) (hl : S.length ≤ 1000) (he : stfE x (S.map (·.2)) ≠ 0) (a : Option Addr) (c : Nat) (w : World) (h : LolAt w a S) :
  Calls Try.prog 71 #[.agg #[.int .i64 x.B,.slice x.da x.D.length x.dc,.slice x.la x.L.length x.lc,.int .i64 x.tol],.slice a S.length c] w fun e w'=>e = .panicked [fltV (stfE x (S.map (·.2)))] ∧ Ext [] w w':=by
 have E : Ext [] w w:=Ext.refl _ _
 have HA:=Lib.hid h
 have HS:=Lib.hid h.1
 have HO:=Lib.hid hs
 obtain ⟨er,her⟩ : ∃ er,er = stfE x (S.map (·.2)):=⟨_,rfl⟩
 rw [← her] at he ⊢
 unfold stfE at her
 rw [List.length_map] at her
 clear h hs
 have om : w.ownsRow w.heap.size 83 4 (.slice none 0 0) 0 (tubsV ((S.map (·.2)).take 0)):=World.ownsRow_nil _ _ _ _
 refine calls_has 26 Try.func71 rfl Try.ntmps71 (Nat.le_of_ble_eq_true rfl) ?_
 intro fa F
 refine wp_seq_k fun K1 hK1=>?_
 refine wp_region_lit ?_
 refine sq_new F rfl (by decide) rfl (R_box rfl (F.at rfl)) ?_;clear F fa;intro fa w1 F hw
 obtain ⟨n2,hn⟩ : ∃ n,n = w.heap.size:=⟨_,rfl⟩
 rw [← hn] at F
 have s2 : w.heap.size ≤ n2:=Nat.le_of_eq hn.symm
 have l2_E : w.heap.size ≤ n2:=by rw [hn];exact E.size
 have o2_om:=Lib.hid (own_ne_new om hn)
 replace om:=owns_alloc hw om
 replace E:=ext_alloc E hw
 have q2:=new_row hw hn
 clear hw hn
 refine F.vl (R_assign rfl (ev_c fa _)) ?_;clear F fa;intro fa F
 refine wpList_nil ?_
 refine hK1 _ _ ?_
 clear hK1
 refine wp_seq_k fun K2 hK2=>?_
 refine wp_seq_k fun K3 hK3=>?_
 refine wp_region_lit ?_
 refine F.mv ?_;clear F fa;intro fa F
 refine F.vl (R_len rfl rfl (F.at rfl) Try.underlying22) ?_;clear F fa;intro fa F
 refine F.vl (R_gtr rfl (F.at rfl) (ev_c fa _)) ?_;clear F fa;intro fa F
 refine wpList_nil ?_
 refine hK3 _ _ ?_
 clear hK3
 refine cd_if F rfl (fun hc10=>?_) (fun hc10=>?_)
 ·skip
  rw [if_pos (by omega)] at her
  refine wp_region_lit ?_
  refine F.vl ((R_mkIface rfl (ev_c fa _) Try.underlying126)) ?_;clear F fa;intro fa F
  refine sq_raise rfl (R_panic rfl (F.at rfl)) ?_
  (try simp only [Exit.inBlock,Exit.then,Exit.jump,reduceIte])
  refine ⟨F.ds,?_⟩
  rw [her];exact ⟨rfl,E⟩
 ·skip
  rw [if_neg (by omega)] at her
  refine wp_skip ?_
  refine hK2 _ _ ?_
  clear hK2
  refine wp_seq_k fun K4 hK4=>?_
  refine wp_region_lit ?_
  refine F.vl (R_assign rfl (ev_c fa _)) ?_;clear F fa;intro fa F
  refine wpList_nil ?_
  refine hK4 _ _ ?_
  clear hK4
  refine wp_seq_k fun K5 hK5=>?_
  refine wp_seq_k fun K6 hK6=>?_
  refine wp_region_lit ?_
  refine F.mv ?_;clear F fa;intro fa F
  refine F.vl (R_len rfl rfl (F.at rfl) Try.underlying22) ?_;clear F fa;intro fa F
  refine F.vl (R_move rfl (ev_c fa _)) ?_;clear F fa;intro fa F
  refine wpList_nil ?_
  refine hK6 _ _ ?_
  clear hK6
  refine wp_block ?_
  have F0:=F.sub (.c 2 rfl (.c 12 rfl (.c 13 rfl .n)))
  refine lp_for F0 (S.length) (fun i Lv W=>∃ va : Option Addr,∃ vc : Nat,Lv = [(5,.slice va i vc),(14,.int .i64 ((i : Nat) : Int))] ∧ Ext [] w W ∧ W.heap[n2]? = some (.cells #[.int .i64 x.B,.slice x.da x.D.length x.dc,.slice x.la x.L.length x.lc,.int .i64 x.tol] 80 (0,0)) ∧ er = stfF x ((S.map (·.2)).drop i) ∧ W.ownsRow w.heap.size 83 4 (.slice va i vc) i (tubsV ((S.map (·.2)).take i))) ⟨_,⟨none,0,rfl,E,q2,her,om⟩,F.sub (.c 5 rfl (.c 14 rfl (.c 2 rfl (.c 12 rfl (.c 13 rfl .n)))))⟩ ?_
  clear F F0
  clear E q2
  clear om
  rintro i _ fa w2 hi1 ⟨va,vc,rfl,E,q2,hst,om⟩ F
  refine wp_seq_k fun K7 hK7=>?_
  refine wp_region_lit ?_
  refine F.vl (R_lss rfl (F.at rfl) (F.at rfl)) ?_;clear F fa;intro fa F
  refine wpList_nil ?_
  refine hK7 _ _ ?_
  clear hK7
  refine wp_seq_k fun K8 hK8=>?_
  refine cd_if F rfl (fun hc15=>?_) (fun hc15=>?_)
  ·skip
   refine wp_skip ?_
   refine hK8 _ _ ?_
   clear hK8
   refine wp_seq_k fun K9 hK9=>?_
   refine wp_block ?_
   refine wp_seq_k fun K10 hK10=>?_
   obtain ⟨la,lca,hla,hlr⟩:=HA.out.2 _ (getD_mem (.bool true,[]) (show i < S.length by omega))
   have hlq:=HO.out _ (getD_mem (.bool true,[]) (show i < S.length by omega))
   refine wp_region_lit ?_
   obtain ⟨xb11,xo11,xa11,xr11⟩:=HS.out i (by omega)
   refine F.vl (R_ixSlice (sz:=1) rfl ((F.at rfl).trans (xa11 _ _)) (F.at rfl) Try.underlying22 (by kernel_rfl) (by omega) (by omega)) ?_;clear F fa;intro fa F
   refine F.vl (R_load rfl (F.at rfl) Try.underlying25 rfl (xr11 _ E 0 _ rfl)) ?_;clear F fa;intro fa F
   rw [hla] at F
   refine F.as ?_;clear F fa;intro fa F
   refine wpList_nil ?_
   refine hK10 _ _ ?_
   clear hK10
   by_cases hrn : rcpE x (S.getD i (.bool true,[])).2 ≠ 0
   ·skip
    refine wp_region_lit ?_
    refine F.mv ?_;clear F fa;intro fa F
    refine F.vl (R_loadBlk rfl (F.at rfl) Try.underlying80 rfl (by kernel_rfl) q2) ?_;clear F fa;intro fa F
    refine F.mv ?_;clear F fa;intro fa F
    refine sq_panic rfl (R_callV rfl rfl Try.call55 (mpS (F.at rfl) (mpS (F.at rfl) mp0))) (recipe_bad x hv (S.getD i (.bool true,[])).2 hlq hrn la lca _ (hlr.ext E (by simp))) fun e w3 hR=>?_
    obtain ⟨rfl,e9⟩:=hR
    refine ⟨_,rfl,?_⟩
    replace om:=owns_ext om (e9) (by simp)
    replace q2:=(e9).keep0 q2
    replace E:=ext_same E (e9)
    (try simp only [Exit.inBlock,Exit.then,Exit.jump,reduceIte])
    refine ⟨F.ds,?_⟩
    rw [hst,stf_bad (by rw [List.length_map];omega) (by rw [key_getD S (by omega)];exact hrn),key_getD S (by omega)];exact ⟨rfl,E⟩
   ·skip
    have hrc:=rcp_zero.1 (show rcpE x (S.getD i (.bool true,[])).2 = 0 from Classical.not_not.1 hrn)
    have hrz:=Classical.not_not.1 hrn
    refine wp_region_lit ?_
    refine F.mv ?_;clear F fa;intro fa F
    refine F.vl (R_loadBlk rfl (F.at rfl) Try.underlying80 rfl (by kernel_rfl) q2) ?_;clear F fa;intro fa F
    refine F.mv ?_;clear F fa;intro fa F
    refine sq_call F rfl (by decide) rfl (R_callV rfl rfl Try.call55 (mpS (F.at rfl) (mpS (F.at rfl) mp0))) (recipe_ok x hv (S.getD i (.bool true,[])).2 hrc la lca _ (hlr.ext E (by simp))) fun e w4 hR=>?_
    obtain ⟨rfl,e9⟩:=hR
    refine ⟨_,rfl,?_⟩;clear F fa;intro fa F
    replace om:=owns_ext om (e9) (by simp)
    replace q2:=(e9).keep0 q2
    replace E:=ext_same E (e9)
    clear e9
    refine sq_new F rfl (by decide) rfl (R_buildSliceV rfl (prS (F.at rfl) pr0) Try.underlying102 (size:=4) (by kernel_rfl) (by decide) (by decide) Try.zeroValue83 (cells:=#[.int .i64 (val (S.getD i (.bool true,[])).2 0),.int .i64 (val (S.getD i (.bool true,[])).2 1),.int .i64 (val (S.getD i (.bool true,[])).2 2),.int .i64 (val (S.getD i (.bool true,[])).2 3)]) (by kernel_rfl)) ?_;clear F fa;intro fa w5 F hw
    obtain ⟨n22,hn⟩ : ∃ n,n = w4.heap.size:=⟨_,rfl⟩
    rw [← hn] at F
    have s22 : w4.heap.size ≤ n22:=Nat.le_of_eq hn.symm
    have l22_E : w.heap.size ≤ n22:=by rw [hn];exact E.size
    have m22_2 : n2 < n22:=by rw [hn];exact blk_lt q2
    have o22_om:=Lib.hid (own_ne_new om hn)
    replace om:=owns_alloc hw om
    replace q2:=keep_alloc hw q2
    replace E:=ext_alloc E hw
    have q22:=new_block hw hn
    clear hw hn
    have hEs:=E.size
    refine sq_some F rfl (by decide) rfl (append_run rfl (w.heap.size) (e:=83) (size:=4) (bytes:=32) Try.underlying102 (by kernel_rfl) (by decide) (F.at rfl) om (F.at rfl) q22 rfl (by simp [Value.oneCell']) (by omega) (by omega) (by omega)) ?_;clear F fa;rintro fa v' w6 F ⟨hown',hg⟩
    obtain ⟨va23,vc23,rfl⟩:=owns_slice hown'
    replace q2:=keep_type om hg q2 (by decide)
    replace E:=ext_appendX E om hg (by omega)
    replace om:=hown'
    clear hg
    rw [show tubsV ((S.map (·.2)).take i) ++ [.int .i64 (val (S.getD i (.bool true,[])).2 0),.int .i64 (val (S.getD i (.bool true,[])).2 1),.int .i64 (val (S.getD i (.bool true,[])).2 2),.int .i64 (val (S.getD i (.bool true,[])).2 3)] = tubsV ((S.map (·.2)).take (i + 1)) by rw [take_getD (S.map (·.2)) [] (show i < (S.map (·.2)).length by rw [List.length_map];omega),tubsV,tubsV,List.map_append,List.flatten_append,key_getD S (by omega)];simp [tubR]] at om
    refine F.as ?_;clear F fa;intro fa F
    refine wpList_nil ?_
    refine hK9 _ _ ?_
    clear hK9
    refine wp_region_lit ?_
    refine F.vl (R_add rfl (F.at rfl) (ev_c fa _) (by omega) (by omega)) ?_;clear F fa;intro fa F
    refine F.mv ?_;clear F fa;intro fa F
    refine wpList_nil ?_
    show _ ∧ _
    exact ⟨by omega,_,⟨_,_,rfl,E,q2,(hst.trans (stf_go (by rw [List.length_map];omega) (by rw [key_getD S (by omega)];exact hrz))),om⟩,F.sub (.c 5 rfl (.c 14 rfl (.c 2 rfl (.c 12 rfl (.c 13 rfl .n)))))⟩
  ·skip
   refine wp_exit ?_
   rw [List.drop_of_length_le (show (S.map (·.2)).length ≤ i by rw [List.length_map];omega)] at hst
   rw [List.take_of_length_le (show (S.map (·.2)).length ≤ i by rw [List.length_map];omega),show i = S.length by omega] at om
   rw [show i = S.length by omega] at F
   refine hK5 _ _ ?_
   clear hK5
   refine wp_seq_k fun K12 hK12=>?_
   refine wp_region_lit ?_
   refine F.mv ?_;clear F fa;intro fa F
   refine F.as ?_;clear F fa;intro fa F
   refine wpList_nil ?_
   refine hK12 _ _ ?_
   clear hK12
   refine wp_ret ?_
   (try simp only [Exit.inBlock,Exit.then,reduceIte])
   refine rt_v F (rs_1 F rfl rfl) ?_
   exact absurd hst he
def mosE (x : Vm) (S : List (List Int)) (ls : List Int) : Int:=if x.err ≠ 0 then x.err else if stfE x S ≠ 0 then stfE x S else lmpE x ls
def lampO (x : Vm) (n : Int) : Int:=if outB n 0 (((x.L.length : Nat) : Int) - 1) = true then 3 else 0
def shaE (x : Vm) (n : Int) (S : List (List Int)) : Int:=if x.err ≠ 0 then x.err else if lampO x n ≠ 0 then lampO x n else stfE x S
theorem stf_okk {x : Vm} {S : List (Value × List Int)} (h : stfE x (S.map (·.2)) = 0) : S.length ≤ 6 ∧ ∀ p ∈ S,RcpOk x p.2:=by
 unfold stfE at h
 rw [List.length_map] at h
 split at h
 ·omega
 ·refine ⟨by omega,fun p hp=>?_⟩
  have key : ∀ L : List (List Int),stfF x L = 0 → ∀ l ∈ L,rcpE x l = 0:=by
   intro L
   induction L with
   | nil=>intro _ l hl;simp at hl
   | cons a r ih =>
    intro h l hl
    rw [stfF] at h
    by_cases e : rcpE x a = 0
    ·rw [if_neg (by simpa using e)] at h
     rcases List.mem_cons.1 hl with rfl | hl
     ·exact e
     ·exact ih h l hl
    ·rw [if_pos e] at h;exact absurd h e
  exact rcp_zero.1 (key _ h p.2 (List.mem_map.2 ⟨p,hp,rfl⟩))
set_option maxRecDepth 100000 in
set_option maxHeartbeats 2000000 in
theorem xMost_bad (x : Vm) (sd : SmallL x.D) (sl : SmallL x.L) (S : List (Value × List Int)) (hs : ∀ p ∈ S,p.2.length ≤ 1000) (hS : S.length ≤ 1000) (ls : List Int) (hl : ls.length ≤ 1000) (a la : Option Addr) (c lc : Nat) (w : World) (h : x.At w) (hp : LolAt w a S) (hq : IsRows w (.slice la ls.length lc) 1 (ls.map intRow)) (he : mosE x (S.map (·.2)) ls ≠ 0) :
  Calls Try.prog 28 #[.agg #[.int .i64 x.B,.slice x.da x.D.length x.dc,.slice x.la x.L.length x.lc,.int .i64 x.tol],.slice a S.length c,.slice la ls.length lc] w (IntsPost ([],mosE x (S.map (·.2)) ls) w):=by
 have E : Ext [] w w:=Ext.refl _ _
 have HX:=Lib.hid h
 have HP:=Lib.hid hp
 have HQ:=Lib.hid hq
 clear hp hq
 obtain ⟨er,her⟩ : ∃ er,er = mosE x (S.map (·.2)) ls:=⟨_,rfl⟩
 rw [← her] at he ⊢
 unfold mosE at her
 clear h
 refine calls_hasM 92 Try.func28 rfl Try.ntmps28 (Nat.le_of_ble_eq_true rfl) ?_
 intro fa F
 refine wp_seq_k fun K1 hK1=>?_
 refine wp_region_lit ?_
 refine sq_new F rfl (by decide) rfl (R_box rfl (F.at rfl)) ?_;clear F fa;intro fa w1 F hw
 obtain ⟨n3,hn⟩ : ∃ n,n = w.heap.size:=⟨_,rfl⟩
 rw [← hn] at F
 have s3 : w.heap.size ≤ n3:=Nat.le_of_eq hn.symm
 have l3_E : w.heap.size ≤ n3:=by rw [hn];exact E.size
 replace E:=ext_alloc E hw
 have q3:=new_row hw hn
 clear hw hn
 refine F.vl (R_assign rfl (ev_c fa _)) ?_;clear F fa;intro fa F
 refine sq_new F rfl (by decide) rfl (R_alloc rfl Try.zeroValue35) ?_;clear F fa;intro fa w2 F hw
 obtain ⟨n7,hn⟩ : ∃ n,n = w1.heap.size:=⟨_,rfl⟩
 rw [← hn] at F
 have s7 : w1.heap.size ≤ n7:=Nat.le_of_eq hn.symm
 have l7_E : w.heap.size ≤ n7:=by rw [hn];exact E.size
 have m7_3 : n3 < n7:=by rw [hn];exact blk_lt q3
 replace q3:=keep_alloc hw q3
 replace E:=ext_alloc E hw
 have q7:=new_one hw rfl hn
 clear hw hn
 refine wpList_nil ?_
 refine hK1 _ _ ?_
 clear hK1
 refine wp_scope_straight ?_
 refine wp_seq_k fun K2 hK2=>?_
 refine wp_region_lit ?_
 refine sq_defer F rfl rfl (R_defer rfl rfl (mpS (F.at rfl) mp0)) ?_;clear F fa;intro fa F
 refine wpList_nil ?_
 refine hK2 _ _ ?_
 clear hK2
 refine wp_seq_k fun K3 hK3=>?_
 by_cases h1 : x.err ≠ 0
 ·skip
  refine wp_region_lit ?_
  refine F.vl (R_loadBlk rfl (F.at rfl) Try.underlying24 rfl (by kernel_rfl) q3) ?_;clear F fa;intro fa F
  refine sq_panic rfl (R_callV rfl rfl Try.call54 (mpS (F.at rfl) mp0)) (begin_bad x sd sl h1 _ (HX.out.ext E)) fun e w3 hR=>?_
  obtain ⟨rfl,e9⟩:=hR
  refine ⟨_,rfl,?_⟩
  replace q3:=(e9).keep0 q3
  replace q7:=(e9).keep0 q7
  replace E:=ext_same E (e9)
  (try simp only [Exit.inBlock,Exit.then,Exit.jump,reduceIte])
  refine rtM_p F ?_
  refine lv_took q7 fun w4 hw=>?_
  replace q3:=keep_cell hw q3 (by omega)
  replace q7:=put_cell hw q7 (by simp only [List.setIfInBounds_toArray,lsQ,lzQ];exact rfl)
  replace E:=ext_cell E hw (fun h=>by first | exact absurd h (by omega) | simp)
  clear hw
  refine lv_nil (rs_tc F rfl rfl rfl Try.underlying35 rfl q7) ?_
  rw [if_pos h1] at her;subst her;exact ⟨none,0,rfl,World.ownsRow_nil _ _ _ _,E⟩
 ·skip
  rw [if_neg h1] at her
  have hv:=chk_vok (Classical.not_not.1 h1)
  refine wp_region_lit ?_
  refine F.vl (R_loadBlk rfl (F.at rfl) Try.underlying24 rfl (by kernel_rfl) q3) ?_;clear F fa;intro fa F
  refine sq_call F rfl (by decide) rfl (R_callV rfl rfl Try.call54 (mpS (F.at rfl) mp0)) (begin_ok x hv _ (HX.out.ext E)) fun e w5 hR=>?_
  obtain ⟨rfl,e9⟩:=hR
  refine ⟨_,rfl,?_⟩;clear F fa;intro fa F
  replace q3:=(e9).keep0 q3
  replace q7:=(e9).keep0 q7
  replace E:=ext_same E (e9)
  clear e9
  refine sq_new F rfl (by decide) rfl (R_alloc rfl Try.zeroValue80) ?_;clear F fa;intro fa w6 F hw
  obtain ⟨n8,hn⟩ : ∃ n,n = w5.heap.size:=⟨_,rfl⟩
  rw [← hn] at F
  have s8 : w5.heap.size ≤ n8:=Nat.le_of_eq hn.symm
  have l8_E : w.heap.size ≤ n8:=by rw [hn];exact E.size
  have m8_3 : n3 < n8:=by rw [hn];exact blk_lt q3
  have m8_7 : n7 < n8:=by rw [hn];exact blk_lt q7
  replace q3:=keep_alloc hw q3
  replace q7:=keep_alloc hw q7
  replace E:=ext_alloc E hw
  have q8:=new_row hw hn
  clear hw hn
  refine sq_to rfl rfl (R_storeRow rfl (F.at rfl) (F.at rfl) (by kernel_rfl) (by first | (simp [Value.oneCell'];done) | (simp [Value.oneCell',id];done)) q8 rfl) ?_;intro w7 hw
  replace q3:=keep_cells hw q3 (by omega)
  replace q7:=keep_cells hw q7 (by omega)
  replace q8:=put_row hw q8 rfl
  replace E:=ext_cells E hw (fun h=>by first | exact absurd h (by omega) | simp)
  clear hw
  refine wpList_nil ?_
  refine hK3 _ _ ?_
  clear hK3
  refine wp_seq_k fun K4 hK4=>?_
  by_cases hb : stfE x (S.map (·.2)) ≠ 0
  ·skip
   refine wp_region_lit ?_
   refine F.vl (R_loadBlk rfl (F.at rfl) Try.underlying80 rfl (by kernel_rfl) q8) ?_;clear F fa;intro fa F
   refine F.mv ?_;clear F fa;intro fa F
   refine sq_panic rfl (R_callV rfl rfl Try.call71 (mpS (F.at rfl) (mpS (F.at rfl) mp0))) (stuffs_bad x hv S hs hS hb a c _ (HP.out.ext E)) fun e w8 hR=>?_
   obtain ⟨rfl,e9⟩:=hR
   refine ⟨_,rfl,?_⟩
   replace q3:=(e9).keep0 q3
   replace q7:=(e9).keep0 q7
   replace q8:=(e9).keep0 q8
   replace E:=ext_same E (e9)
   (try simp only [Exit.inBlock,Exit.then,Exit.jump,reduceIte])
   refine rtM_p F ?_
   refine lv_took q7 fun w9 hw=>?_
   replace q3:=keep_cell hw q3 (by omega)
   replace q7:=put_cell hw q7 (by simp only [List.setIfInBounds_toArray,lsQ,lzQ];exact rfl)
   replace q8:=keep_cell hw q8 (by omega)
   replace E:=ext_cell E hw (fun h=>by first | exact absurd h (by omega) | simp)
   clear hw
   refine lv_nil (rs_tc F rfl rfl rfl Try.underlying35 rfl q7) ?_
   rw [if_pos hb] at her;subst her;exact ⟨none,0,rfl,World.ownsRow_nil _ _ _ _,E⟩
  ·skip
   rw [if_neg hb] at her
   have hso:=stf_okk (Classical.not_not.1 hb)
   refine wp_region_lit ?_
   refine F.vl (R_loadBlk rfl (F.at rfl) Try.underlying80 rfl (by kernel_rfl) q8) ?_;clear F fa;intro fa F
   refine F.mv ?_;clear F fa;intro fa F
   refine sq_call F rfl (by decide) rfl (R_callV rfl rfl Try.call71 (mpS (F.at rfl) (mpS (F.at rfl) mp0))) (stuffs_ok x hv S hso.2 hso.1 a c _ (HP.out.ext E)) fun e w10 hR=>?_
   obtain ⟨ma,mc,rfl,om,e9⟩:=hR
   refine ⟨_,rfl,?_⟩;clear F fa;intro fa F
   replace q3:=(e9).keep0 q3
   replace q7:=(e9).keep0 q7
   replace q8:=(e9).keep0 q8
   replace E:=ext_same E (e9)
   clear e9
   refine sq_new F rfl (by decide) rfl (R_alloc rfl Try.zeroValue102) ?_;clear F fa;intro fa w11 F hw
   obtain ⟨n9,hn⟩ : ∃ n,n = w10.heap.size:=⟨_,rfl⟩
   rw [← hn] at F
   have s9 : w10.heap.size ≤ n9:=Nat.le_of_eq hn.symm
   have l9_E : w.heap.size ≤ n9:=by rw [hn];exact E.size
   have m9_3 : n3 < n9:=by rw [hn];exact blk_lt q3
   have m9_7 : n7 < n9:=by rw [hn];exact blk_lt q7
   have m9_8 : n8 < n9:=by rw [hn];exact blk_lt q8
   replace q3:=keep_alloc hw q3
   replace q7:=keep_alloc hw q7
   replace q8:=keep_alloc hw q8
   replace E:=ext_alloc E hw
   have q9:=new_one hw rfl hn
   clear hw hn
   refine sq_to rfl rfl (R_store rfl (F.at rfl) (F.at rfl) rfl (by kernel_rfl) ((cells_of_block q9 0).trans (get0)) (free_of_block q9 0)) ?_;intro w12 hw
   replace q3:=keep_cell hw q3 (by omega)
   replace q7:=keep_cell hw q7 (by omega)
   replace q8:=keep_cell hw q8 (by omega)
   replace q9:=put_cell hw q9 (by simp only [List.setIfInBounds_toArray,lsQ,lzQ];exact rfl)
   replace E:=ext_cell E hw (fun h=>by first | exact absurd h (by omega) | simp)
   clear hw
   refine wpList_nil ?_
   refine hK4 _ _ ?_
   clear hK4
   refine wp_seq_k fun K5 hK5=>?_
   refine wp_region_lit ?_
   refine F.vl (R_loadBlk rfl (F.at rfl) Try.underlying80 rfl (by kernel_rfl) q8) ?_;clear F fa;intro fa F
   refine F.mv ?_;clear F fa;intro fa F
   refine sq_panic rfl (R_callV rfl rfl Try.call57 (mpS (F.at rfl) (mpS (F.at rfl) mp0))) ((lamps_any x sl.1 ls hl la lc _ (HQ.out.ext E (by simp))).mono (fun _ _ h=>look_out h her.symm he)) fun e w13 hR=>?_
   obtain ⟨rfl,e9⟩:=hR
   refine ⟨_,rfl,?_⟩
   replace q3:=(e9).keep0 q3
   replace q7:=(e9).keep0 q7
   replace q8:=(e9).keep0 q8
   replace q9:=(e9).keep0 q9
   replace E:=ext_same E (e9)
   (try simp only [Exit.inBlock,Exit.then,Exit.jump,reduceIte])
   refine rtM_p F ?_
   refine lv_took q7 fun w14 hw=>?_
   replace q3:=keep_cell hw q3 (by omega)
   replace q7:=put_cell hw q7 (by simp only [List.setIfInBounds_toArray,lsQ,lzQ];exact rfl)
   replace q8:=keep_cell hw q8 (by omega)
   replace q9:=keep_cell hw q9 (by omega)
   replace E:=ext_cell E hw (fun h=>by first | exact absurd h (by omega) | simp)
   clear hw
   refine lv_nil (rs_tc F rfl rfl rfl Try.underlying35 rfl q7) ?_
   exact ⟨none,0,rfl,World.ownsRow_nil _ _ _ _,E⟩
set_option maxRecDepth 100000 in
set_option maxHeartbeats 2000000 in
theorem xShades_bad (x : Vm) (sd : SmallL x.D) (sl : SmallL x.L) (n : Int) (S : List (Value × List Int)) (hs : ∀ p ∈ S,p.2.length ≤ 1000) (hS : S.length ≤ 1000) (a : Option Addr) (c : Nat) (w : World) (h : x.At w) (hp : LolAt w a S) (he : shaE x n (S.map (·.2)) ≠ 0) :
  Calls Try.prog 30 #[.agg #[.int .i64 x.B,.slice x.da x.D.length x.dc,.slice x.la x.L.length x.lc,.int .i64 x.tol],.int .i64 n,.slice a S.length c] w (IntsPost ([],shaE x n (S.map (·.2))) w):=by
 have E : Ext [] w w:=Ext.refl _ _
 have HX:=Lib.hid h
 have HP:=Lib.hid hp
 clear hp
 obtain ⟨er,her⟩ : ∃ er,er = shaE x n (S.map (·.2)):=⟨_,rfl⟩
 rw [← her] at he ⊢
 unfold shaE at her
 clear h
 refine calls_hasM 33 Try.func30 rfl Try.ntmps30 (Nat.le_of_ble_eq_true rfl) ?_
 intro fa F
 refine wp_seq_k fun K1 hK1=>?_
 refine wp_region_lit ?_
 refine sq_new F rfl (by decide) rfl (R_box rfl (F.at rfl)) ?_;clear F fa;intro fa w1 F hw
 obtain ⟨n3,hn⟩ : ∃ n,n = w.heap.size:=⟨_,rfl⟩
 rw [← hn] at F
 have s3 : w.heap.size ≤ n3:=Nat.le_of_eq hn.symm
 have l3_E : w.heap.size ≤ n3:=by rw [hn];exact E.size
 replace E:=ext_alloc E hw
 have q3:=new_row hw hn
 clear hw hn
 refine sq_new F rfl (by decide) rfl (R_box rfl (F.at rfl)) ?_;clear F fa;intro fa w2 F hw
 obtain ⟨n4,hn⟩ : ∃ n,n = w1.heap.size:=⟨_,rfl⟩
 rw [← hn] at F
 have s4 : w1.heap.size ≤ n4:=Nat.le_of_eq hn.symm
 have l4_E : w.heap.size ≤ n4:=by rw [hn];exact E.size
 have m4_3 : n3 < n4:=by rw [hn];exact blk_lt q3
 replace q3:=keep_alloc hw q3
 replace E:=ext_alloc E hw
 have q4:=new_one hw rfl hn
 clear hw hn
 refine F.vl (R_assign rfl (ev_c fa _)) ?_;clear F fa;intro fa F
 refine sq_new F rfl (by decide) rfl (R_alloc rfl Try.zeroValue35) ?_;clear F fa;intro fa w3 F hw
 obtain ⟨n7,hn⟩ : ∃ n,n = w2.heap.size:=⟨_,rfl⟩
 rw [← hn] at F
 have s7 : w2.heap.size ≤ n7:=Nat.le_of_eq hn.symm
 have l7_E : w.heap.size ≤ n7:=by rw [hn];exact E.size
 have m7_3 : n3 < n7:=by rw [hn];exact blk_lt q3
 have m7_4 : n4 < n7:=by rw [hn];exact blk_lt q4
 replace q3:=keep_alloc hw q3
 replace q4:=keep_alloc hw q4
 replace E:=ext_alloc E hw
 have q7:=new_one hw rfl hn
 clear hw hn
 refine wpList_nil ?_
 refine hK1 _ _ ?_
 clear hK1
 refine wp_seq_k fun K2 hK2=>?_
 refine wp_region_lit ?_
 refine sq_defer F rfl rfl (R_defer rfl rfl (mpS (F.at rfl) mp0)) ?_;clear F fa;intro fa F
 refine wpList_nil ?_
 refine hK2 _ _ ?_
 clear hK2
 refine wp_seq_k fun K3 hK3=>?_
 by_cases h1 : x.err ≠ 0
 ·skip
  refine wp_region_lit ?_
  refine F.vl (R_loadBlk rfl (F.at rfl) Try.underlying24 rfl (by kernel_rfl) q3) ?_;clear F fa;intro fa F
  refine sq_panic rfl (R_callV rfl rfl Try.call54 (mpS (F.at rfl) mp0)) (begin_bad x sd sl h1 _ (HX.out.ext E)) fun e w4 hR=>?_
  obtain ⟨rfl,e9⟩:=hR
  refine ⟨_,rfl,?_⟩
  replace q3:=(e9).keep0 q3
  replace q4:=(e9).keep0 q4
  replace q7:=(e9).keep0 q7
  replace E:=ext_same E (e9)
  (try simp only [Exit.inBlock,Exit.then,Exit.jump,reduceIte])
  refine rtM_p F ?_
  refine lv_took q7 fun w5 hw=>?_
  replace q3:=keep_cell hw q3 (by omega)
  replace q4:=keep_cell hw q4 (by omega)
  replace q7:=put_cell hw q7 (by simp only [List.setIfInBounds_toArray,lsQ,lzQ];exact rfl)
  replace E:=ext_cell E hw (fun h=>by first | exact absurd h (by omega) | simp)
  clear hw
  refine lv_nil (rs_tc F rfl rfl rfl Try.underlying35 rfl q7) ?_
  rw [if_pos h1] at her;subst her;exact ⟨none,0,rfl,World.ownsRow_nil _ _ _ _,E⟩
 ·skip
  rw [if_neg h1] at her
  have hv:=chk_vok (Classical.not_not.1 h1)
  refine wp_region_lit ?_
  refine F.vl (R_loadBlk rfl (F.at rfl) Try.underlying24 rfl (by kernel_rfl) q3) ?_;clear F fa;intro fa F
  refine sq_call F rfl (by decide) rfl (R_callV rfl rfl Try.call54 (mpS (F.at rfl) mp0)) (begin_ok x hv _ (HX.out.ext E)) fun e w6 hR=>?_
  obtain ⟨rfl,e9⟩:=hR
  refine ⟨_,rfl,?_⟩;clear F fa;intro fa F
  replace q3:=(e9).keep0 q3
  replace q4:=(e9).keep0 q4
  replace q7:=(e9).keep0 q7
  replace E:=ext_same E (e9)
  clear e9
  refine sq_new F rfl (by decide) rfl (R_alloc rfl Try.zeroValue80) ?_;clear F fa;intro fa w7 F hw
  obtain ⟨n8,hn⟩ : ∃ n,n = w6.heap.size:=⟨_,rfl⟩
  rw [← hn] at F
  have s8 : w6.heap.size ≤ n8:=Nat.le_of_eq hn.symm
  have l8_E : w.heap.size ≤ n8:=by rw [hn];exact E.size
  have m8_3 : n3 < n8:=by rw [hn];exact blk_lt q3
  have m8_4 : n4 < n8:=by rw [hn];exact blk_lt q4
  have m8_7 : n7 < n8:=by rw [hn];exact blk_lt q7
  replace q3:=keep_alloc hw q3
  replace q4:=keep_alloc hw q4
  replace q7:=keep_alloc hw q7
  replace E:=ext_alloc E hw
  have q8:=new_row hw hn
  clear hw hn
  refine sq_to rfl rfl (R_storeRow rfl (F.at rfl) (F.at rfl) (by kernel_rfl) (by first | (simp [Value.oneCell'];done) | (simp [Value.oneCell',id];done)) q8 rfl) ?_;intro w8 hw
  replace q3:=keep_cells hw q3 (by omega)
  replace q4:=keep_cells hw q4 (by omega)
  replace q7:=keep_cells hw q7 (by omega)
  replace q8:=put_row hw q8 rfl
  replace E:=ext_cells E hw (fun h=>by first | exact absurd h (by omega) | simp)
  clear hw
  refine wpList_nil ?_
  refine hK3 _ _ ?_
  clear hK3
  refine wp_seq_k fun K4 hK4=>?_
  by_cases hb : lampO x n ≠ 0
  ·skip
   refine wp_region_lit ?_
   refine F.vl (R_loadBlk rfl (F.at rfl) Try.underlying80 rfl (by kernel_rfl) q8) ?_;clear F fa;intro fa F
   refine F.vl (R_load rfl (F.at rfl) Try.underlying3 rfl ((cells_of_block q4 0).trans (get0))) ?_;clear F fa;intro fa F
   refine sq_panic rfl (R_callV rfl rfl Try.call82 (mpS (F.at rfl) (mpS (F.at rfl) mp0))) ((lamp_any x sl.1 n _).mono (fun _ _ h=>look_out h rfl hb)) fun e w9 hR=>?_
   obtain ⟨rfl,e9⟩:=hR
   refine ⟨_,rfl,?_⟩
   replace q3:=(e9).keep0 q3
   replace q4:=(e9).keep0 q4
   replace q7:=(e9).keep0 q7
   replace q8:=(e9).keep0 q8
   replace E:=ext_same E (e9)
   (try simp only [Exit.inBlock,Exit.then,Exit.jump,reduceIte])
   refine rtM_p F ?_
   refine lv_took q7 fun w10 hw=>?_
   replace q3:=keep_cell hw q3 (by omega)
   replace q4:=keep_cell hw q4 (by omega)
   replace q7:=put_cell hw q7 (by simp only [List.setIfInBounds_toArray,lsQ,lzQ];exact rfl)
   replace q8:=keep_cell hw q8 (by omega)
   replace E:=ext_cell E hw (fun h=>by first | exact absurd h (by omega) | simp)
   clear hw
   refine lv_nil (rs_tc F rfl rfl rfl Try.underlying35 rfl q7) ?_
   rw [if_pos hb] at her;subst her;exact ⟨none,0,rfl,World.ownsRow_nil _ _ _ _,E⟩
  ·skip
   rw [if_neg hb] at her
   refine wp_region_lit ?_
   refine F.vl (R_loadBlk rfl (F.at rfl) Try.underlying80 rfl (by kernel_rfl) q8) ?_;clear F fa;intro fa F
   refine F.vl (R_load rfl (F.at rfl) Try.underlying3 rfl ((cells_of_block q4 0).trans (get0))) ?_;clear F fa;intro fa F
   refine sq_call F rfl (by decide) rfl (R_callV rfl rfl Try.call82 (mpS (F.at rfl) (mpS (F.at rfl) mp0))) ((lamp_any x sl.1 n _).mono (fun _ _ h=>look_in h (Classical.not_not.1 hb))) fun e w11 hR=>?_
   obtain ⟨rfl,e9⟩:=hR
   refine ⟨_,rfl,?_⟩;clear F fa;intro fa F
   replace q3:=(e9).keep0 q3
   replace q4:=(e9).keep0 q4
   replace q7:=(e9).keep0 q7
   replace q8:=(e9).keep0 q8
   replace E:=ext_same E (e9)
   clear e9
   refine wpList_nil ?_
   refine hK4 _ _ ?_
   clear hK4
   refine wp_seq_k fun K5 hK5=>?_
   have hst : stfE x (S.map (·.2)) ≠ 0:=by rw [← her];exact he
   refine wp_region_lit ?_
   refine F.vl (R_loadBlk rfl (F.at rfl) Try.underlying80 rfl (by kernel_rfl) q8) ?_;clear F fa;intro fa F
   refine F.mv ?_;clear F fa;intro fa F
   refine sq_panic rfl (R_callV rfl rfl Try.call71 (mpS (F.at rfl) (mpS (F.at rfl) mp0))) (stuffs_bad x hv S hs hS hst a c _ (HP.out.ext E)) fun e w12 hR=>?_
   obtain ⟨rfl,e9⟩:=hR
   refine ⟨_,rfl,?_⟩
   replace q3:=(e9).keep0 q3
   replace q4:=(e9).keep0 q4
   replace q7:=(e9).keep0 q7
   replace q8:=(e9).keep0 q8
   replace E:=ext_same E (e9)
   (try simp only [Exit.inBlock,Exit.then,Exit.jump,reduceIte])
   refine rtM_p F ?_
   refine lv_took q7 fun w13 hw=>?_
   replace q3:=keep_cell hw q3 (by omega)
   replace q4:=keep_cell hw q4 (by omega)
   replace q7:=put_cell hw q7 (by simp only [List.setIfInBounds_toArray,lsQ,lzQ];exact rfl)
   replace q8:=keep_cell hw q8 (by omega)
   replace E:=ext_cell E hw (fun h=>by first | exact absurd h (by omega) | simp)
   clear hw
   refine lv_nil (rs_tc F rfl rfl rfl Try.underlying35 rfl q7) ?_
   rw [her];exact ⟨none,0,rfl,World.ownsRow_nil _ _ _ _,E⟩
theorem zero_sum {l : List Int} (h0 : ∀ n ∈ l,0 ≤ n) : l = List.replicate l.length 0 ↔ l.sum = 0:=by
 induction l with
 | nil=>simp
 | cons a l ih =>
  have h1:=h0 a (by simp)
  have h2 : 0 ≤ l.sum:=by
   have key : ∀ m : List Int,(∀ n ∈ m,0 ≤ n) → 0 ≤ m.sum:=by
    intro m
    induction m with
    | nil=>intro _;simp
    | cons b m ihm=>intro hm;have:=hm b (by simp);have:=ihm (fun n hn=>hm n (by simp [hn]));rw [List.sum_cons];omega
   exact key l (fun n hn=>h0 n (by simp [hn]))
  rw [List.length_cons,List.replicate_succ,List.cons.injEq,ih (fun n hn=>h0 n (by simp [hn])),List.sum_cons]
  omega
set_option maxRecDepth 100000 in
set_option maxHeartbeats 4000000 in
theorem dCheck_any (x : Vm) (w : World) (h : x.At w) (sd : SmallL x.D) (sl : SmallL x.L) :
  Calls Try.prog 63 #[.agg #[.int .i64 x.B,.slice x.da x.D.length x.dc,.slice x.la x.L.length x.lc,.int .i64 x.tol]] w fun e w'=>e = .returned (.int .i64 (chkE x.B (x.D.map (·.2)) (x.L.map (·.2)) x.tol)) ∧ Ext [] w w':=by
 have E : Ext [] w w:=Ext.refl _ _
 have HA:=Lib.hid h
 have HD:=Lib.hid h.d.1
 have HL:=Lib.hid h.l.1
 have SD:=Lib.hid sd
 have SL:=Lib.hid sl
 clear h
 obtain ⟨sd1,sd2⟩:=sd
 obtain ⟨sl1,sl2⟩:=sl
 clear sd2 sl2
 obtain ⟨ds,hds⟩ : ∃ ds,ds = x.D.map (·.2):=⟨_,rfl⟩
 obtain ⟨ls,hls⟩ : ∃ ls,ls = x.L.map (·.2):=⟨_,rfl⟩
 have hdl : ds.length = x.D.length:=by rw [hds,List.length_map]
 have hll : ls.length = x.L.length:=by rw [hls,List.length_map]
 have KD : Hid (∀ i,i < x.D.length → ds.getD i [] = (x.D.getD i (.bool true,[])).2):=fun i hi=>by rw [hds];exact key_getD _ hi
 have KL : Hid (∀ i,i < x.L.length → ls.getD i [] = (x.L.getD i (.bool true,[])).2):=fun i hi=>by rw [hls];exact key_getD _ hi
 rw [← hds,← hls]
 clear hds hls
 refine calls_has 91 Try.func63 rfl Try.ntmps63 (Nat.le_of_ble_eq_true rfl) ?_
 intro fa F
 refine wp_seq_k fun K1 hK1=>?_
 refine wp_region_lit ?_
 refine sq_new F rfl (by decide) rfl (R_box rfl (F.at rfl)) ?_;clear F fa;intro fa w1 F hw
 obtain ⟨n1,hn⟩ : ∃ n,n = w.heap.size:=⟨_,rfl⟩
 rw [← hn] at F
 have s1 : w.heap.size ≤ n1:=Nat.le_of_eq hn.symm
 have l1_E : w.heap.size ≤ n1:=by rw [hn];exact E.size
 replace E:=ext_alloc E hw
 have q1:=new_row hw hn
 clear hw hn
 refine F.vl (R_assign rfl (ev_c fa _)) ?_;clear F fa;intro fa F
 refine wpList_nil ?_
 refine hK1 _ _ ?_
 clear hK1
 refine wp_seq_k fun K2 hK2=>?_
 refine wp_seq_k fun K3 hK3=>?_
 refine wp_region_lit ?_
 refine F.vl (R_field rfl (F.at rfl) Try.underlying24 rfl (n:=0) (sz:=1) rfl (by kernel_rfl) (by decide)) ?_;clear F fa;intro fa F
 refine F.vl (R_load rfl (F.at rfl) Try.underlying3 rfl ((cells_of_block q1 0).trans (get0))) ?_;clear F fa;intro fa F
 refine sq_call F rfl (by decide) rfl (R_callV rfl rfl Try.call88 (mpS (F.at rfl) (mpS (ev_c fa _) (mpS (ev_c fa _) mp0)))) (dInside_any x.B 1 3 _) fun e w2 hR=>?_
 obtain ⟨rfl,e9⟩:=hR
 refine ⟨_,rfl,?_⟩;clear F fa;intro fa F
 replace q1:=(e9).keep0 q1
 replace E:=ext_same E (e9)
 clear e9
 refine F.vl (R_not rfl (F.at rfl)) ?_;clear F fa;intro fa F
 refine wpList_nil ?_
 refine hK3 _ _ ?_
 clear hK3
 refine cd_b F rfl (fun hc13=>?_) (fun hc13=>?_)
 ·skip
  have hb1 : outB x.B 1 3 = true:=by simpa using hc13
  refine wp_seq_k fun K4 hK4=>?_
  refine wp_region_lit ?_
  refine F.vl (R_assign rfl (ev_c fa _)) ?_;clear F fa;intro fa F
  refine wpList_nil ?_
  refine hK4 _ _ ?_
  clear hK4
  refine wp_ret ?_
  (try simp only [Exit.inBlock,Exit.then,reduceIte])
  refine rt_v F (rs_1 F rfl rfl) ?_
  exact ⟨ret_int (chk1 hb1).symm,E⟩
 ·skip
  have hb1 : outB x.B 1 3 = false:=by simpa using hc13
  obtain ⟨hB1,hB3⟩:=outB_no.1 hb1
  refine wp_skip ?_
  refine hK2 _ _ ?_
  clear hK2
  refine wp_seq_k fun K5 hK5=>?_
  refine wp_seq_k fun K6 hK6=>?_
  refine wp_region_lit ?_
  refine F.vl (R_field rfl (F.at rfl) Try.underlying24 rfl (n:=1) (sz:=1) rfl (by kernel_rfl) (by decide)) ?_;clear F fa;intro fa F
  refine F.vl (R_load rfl (F.at rfl) Try.underlying22 rfl ((cells_of_block q1 1).trans (getS (get0)))) ?_;clear F fa;intro fa F
  refine F.vl (R_len rfl rfl (F.at rfl) Try.underlying22) ?_;clear F fa;intro fa F
  refine sq_call F rfl (by decide) rfl (R_callV rfl rfl Try.call105 (mpS (F.at rfl) (mpS (ev_c fa _) mp0))) (dSized_any (x.D.length : Nat) 4 _) fun e w3 hR=>?_
  obtain ⟨rfl,e9⟩:=hR
  refine ⟨_,rfl,?_⟩;clear F fa;intro fa F
  replace q1:=(e9).keep0 q1
  replace E:=ext_same E (e9)
  clear e9
  refine F.as ?_;clear F fa;intro fa F
  refine wpList_nil ?_
  refine hK6 _ _ ?_
  clear hK6
  refine wp_seq_k fun K7 hK7=>?_
  refine wp_region_lit ?_
  refine F.mv ?_;clear F fa;intro fa F
  refine F.vl (R_neqD rfl (F.at rfl) (ev_c fa _)) ?_;clear F fa;intro fa F
  refine wpList_nil ?_
  refine hK7 _ _ ?_
  clear hK7
  refine cd_if F rfl (fun hc19=>?_) (fun hc19=>?_)
  ·skip
   refine wp_seq_k fun K8 hK8=>?_
   refine wp_region_lit ?_
   refine F.mv ?_;clear F fa;intro fa F
   refine F.as ?_;clear F fa;intro fa F
   refine wpList_nil ?_
   refine hK8 _ _ ?_
   clear hK8
   refine wp_ret ?_
   (try simp only [Exit.inBlock,Exit.then,reduceIte])
   refine rt_v F (rs_1 F rfl rfl) ?_
   exact ⟨ret_int (by rw [chk2 hb1 (by rw [hdl];exact hc19),hdl]),E⟩
  ·skip
   refine wp_skip ?_
   refine hK5 _ _ ?_
   clear hK5
   refine wp_seq_k fun K9 hK9=>?_
   refine wp_seq_k fun K10 hK10=>?_
   refine wp_region_lit ?_
   refine F.vl (R_assign rfl (ev_c fa _)) ?_;clear F fa;intro fa F
   refine wpList_nil ?_
   refine hK10 _ _ ?_
   clear hK10
   refine wp_block ?_
   have F0:=F.sub (.c 1 rfl .n)
   refine lp_for F0 (x.D.length) (fun i Lv W=>Lv = [(4,.int .i64 ((i : Nat) : Int))] ∧ Ext [] w W ∧ W.heap[n1]? = some (.cells #[.int .i64 x.B,.slice x.da x.D.length x.dc,.slice x.la x.L.length x.lc,.int .i64 x.tol] 24 (0,0)) ∧ dyeE x.B (ds.take i) (ds.drop i) = dyeE x.B [] ds ∧ (∀ j,j < i → ((x.D.getD j (.bool true,[])).2.length : Int) = x.B)) ⟨_,⟨rfl,E,q1,rfl,(fun j hj=>absurd hj (by omega))⟩,F.sub (.c 4 rfl (.c 1 rfl .n))⟩ ?_
   clear F F0
   clear E q1
   rintro i _ fa w4 hi1 ⟨rfl,E,q1,hd,hlen⟩ F
   refine wp_seq_k fun K11 hK11=>?_
   refine wp_seq_k fun K12 hK12=>?_
   refine wp_region_lit ?_
   refine F.mv ?_;clear F fa;intro fa F
   refine F.vl (R_field rfl (F.at rfl) Try.underlying24 rfl (n:=1) (sz:=1) rfl (by kernel_rfl) (by decide)) ?_;clear F fa;intro fa F
   refine F.vl (R_load rfl (F.at rfl) Try.underlying22 rfl ((cells_of_block q1 1).trans (getS (get0)))) ?_;clear F fa;intro fa F
   refine F.vl (R_len rfl rfl (F.at rfl) Try.underlying22) ?_;clear F fa;intro fa F
   refine F.vl (R_lss rfl (F.at rfl) (F.at rfl)) ?_;clear F fa;intro fa F
   refine wpList_nil ?_
   refine hK12 _ _ ?_
   clear hK12
   refine cd_if F rfl (fun hc25=>?_) (fun hc25=>?_)
   ·skip
    refine wp_skip ?_
    refine hK11 _ _ ?_
    clear hK11
    refine wp_seq_k fun K13 hK13=>?_
    refine wp_block ?_
    refine wp_seq_k fun K14 hK14=>?_
    refine wp_seq_k fun K15 hK15=>?_
    obtain ⟨la,lca,hla,hlr⟩:=HA.out.d.2 _ (getD_mem (.bool true,[]) (show i < x.D.length by omega))
    have hsz:=SD.out.2 _ (getD_mem (.bool true,[]) (show i < x.D.length by omega))
    have hkd:=KD.out i (by omega)
    refine region_x (Ext [] w4) none follows fun w5 hh eh=>?_
    have q1_:=q1
    replace q1:=keep_same hh q1
    have E_:=E
    have zEw5:=E.size
    replace E:=ext_same E eh
    have eT:=eh
    clear hh eh
    refine F.xr (i:=0) rfl (fun w' hS=>R_loadBlk rfl (F.at rfl) Try.underlying24 rfl (by kernel_rfl) (hS.keep q1_ (by simp))) (fun _=>eT) ?_;clear F fa;intro fa F
    refine F.x (i:=1) rfl (fun w'=>R_field rfl (F.at rfl) Try.underlying24 rfl (n:=1) (sz:=1) rfl (by kernel_rfl) (by decide)) (fun _=>eT) ?_;clear F fa;intro fa F
    refine F.xr (i:=2) rfl (fun w' hS=>R_load rfl (F.at rfl) Try.underlying22 rfl ((cells_of_block (hS.keep q1_ (by simp)) 1).trans (getS (get0)))) (fun _=>eT) ?_;clear F fa;intro fa F
    refine F.x (i:=3) rfl (fun w'=>R_move rfl (F.at rfl)) (fun _=>eT) ?_;clear F fa;intro fa F
    obtain ⟨xb16,xo16,xa16,xr16⟩:=HD.out i (by omega)
    refine F.x (i:=4) rfl (fun w'=>R_ixSlice (sz:=1) rfl ((F.at rfl).trans (xa16 _ _)) (F.at rfl) Try.underlying22 (by kernel_rfl) (by omega) (by omega)) (fun _=>eT) ?_;clear F fa;intro fa F
    refine F.xr (i:=5) rfl (fun w' hS=>R_load rfl (F.at rfl) Try.underlying25 rfl (xr16 _ (E_.nil hS) 0 _ rfl)) (fun _=>eT) ?_;clear F fa;intro fa F
    rw [hla] at F
    refine ax_only (i:=6) (by kernel_rfl) (op_call F rfl rfl (by decide) rfl (R_callV rfl rfl Try.call106 (mpS (F.at rfl) (mpS (F.at rfl) (mpS (ev_c fa _) mp0)))) (dBanded_any x.B x.tol (.slice x.da x.D.length x.dc) (.slice x.la x.L.length x.lc) (x.D.getD i (.bool true,[])).2 9 la lca _ (hlr.ext E (by simp)) hsz) fun e w6 hR=>?_)
    obtain ⟨rfl,e9⟩:=hR
    refine ⟨_,rfl,?_⟩;clear F fa;intro fa F
    replace q1:=(e9).keep0 q1
    replace E:=ext_same E (e9)
    replace eT:=ext_same eT (e9)
    clear e9
    refine ⟨fun _=>eT,?_⟩
    refine F.x (i:=7) rfl (fun w'=>R_assign rfl (F.at rfl)) (fun _=>eT) ?_;clear F fa;intro fa F
    refine ax_done (by kernel_rfl) ?_ _
    clear eT q1_ E_
    refine hK15 _ _ ?_
    clear hK15
    refine wp_seq_k fun K17 hK17=>?_
    refine wp_region_lit ?_
    refine F.mv ?_;clear F fa;intro fa F
    refine F.vl (R_neqD rfl (F.at rfl) (ev_c fa _)) ?_;clear F fa;intro fa F
    refine wpList_nil ?_
    refine hK17 _ _ ?_
    clear hK17
    refine cd_if F rfl (fun hc36=>?_) (fun hc36=>?_)
    ·skip
     refine wp_seq_k fun K18 hK18=>?_
     refine wp_region_lit ?_
     refine F.mv ?_;clear F fa;intro fa F
     refine F.as ?_;clear F fa;intro fa F
     refine wpList_nil ?_
     refine hK18 _ _ ?_
     clear hK18
     refine wp_ret ?_
     (try simp only [Exit.inBlock,Exit.then,reduceIte])
     refine rt_v F (rs_1 F rfl rfl) ?_
     have e:=dye_bad (B:=x.B) (ds:=ds) (i:=i) (by omega) (by rw [hkd];exact hc36)
     rw [hd,hkd] at e
     exact ⟨ret_int (by rw [chk3 hb1 (by rw [hdl];omega) (by rw [e];exact hc36),e]),E⟩
    ·skip
     have hz0 : numE (x.D.getD i (.bool true,[])).2 x.B 9 = 0:=by omega
     obtain ⟨hz1,hz2⟩:=numE_zero hz0
     refine wp_skip ?_
     refine hK14 _ _ ?_
     clear hK14
     refine wp_seq_k fun K19 hK19=>?_
     refine wp_region_lit ?_
     refine F.vl (R_assign rfl (ev_c fa _)) ?_;clear F fa;intro fa F
     refine wpList_nil ?_
     refine hK19 _ _ ?_
     clear hK19
     refine wp_block ?_
     have F0:=F.sub (.c 1 rfl (.c 4 rfl .n))
     refine lp_for F0 (i) (fun j Lv W=>Lv = [(6,.int .i64 ((j : Nat) : Int))] ∧ Ext [] w W ∧ W.heap[n1]? = some (.cells #[.int .i64 x.B,.slice x.da x.D.length x.dc,.slice x.la x.L.length x.lc,.int .i64 x.tol] 24 (0,0)) ∧ (∀ k,k < j → ds.getD k [] ≠ ds.getD i [])) ⟨_,⟨rfl,E,q1,(fun k hk=>absurd hk (by omega))⟩,F.sub (.c 6 rfl (.c 1 rfl (.c 4 rfl .n)))⟩ ?_
     clear F F0
     clear E q1
     rintro j _ fa w7 hi2 ⟨rfl,E,q1,hn⟩ F
     refine wp_seq_k fun K20 hK20=>?_
     refine wp_seq_k fun K21 hK21=>?_
     refine wp_region_lit ?_
     refine F.mv ?_;clear F fa;intro fa F
     refine F.mv ?_;clear F fa;intro fa F
     refine F.vl (R_lss rfl (F.at rfl) (F.at rfl)) ?_;clear F fa;intro fa F
     refine wpList_nil ?_
     refine hK21 _ _ ?_
     clear hK21
     refine cd_if F rfl (fun hc40=>?_) (fun hc40=>?_)
     ·skip
      refine wp_skip ?_
      refine hK20 _ _ ?_
      clear hK20
      refine wp_seq_k fun K22 hK22=>?_
      refine wp_block ?_
      refine wp_seq_k fun K23 hK23=>?_
      have hkj:=KD.out j (by omega)
      have hlj:=hlen j (by omega)
      obtain ⟨ja,jca,hja,hjr⟩:=HA.out.d.2 _ (getD_mem (.bool true,[]) (show j < x.D.length by omega))
      refine region_x (Ext [] w7) none follows fun w8 hh eh=>?_
      have q1_:=q1
      replace q1:=keep_same hh q1
      have E_:=E
      have zEw8:=E.size
      replace E:=ext_same E eh
      have eT:=eh
      clear hh eh
      refine F.x (i:=0) rfl (fun w'=>R_field rfl (F.at rfl) Try.underlying24 rfl (n:=1) (sz:=1) rfl (by kernel_rfl) (by decide)) (fun _=>eT) ?_;clear F fa;intro fa F
      refine F.xr (i:=1) rfl (fun w' hS=>R_load rfl (F.at rfl) Try.underlying22 rfl ((cells_of_block (hS.keep q1_ (by simp)) 1).trans (getS (get0)))) (fun _=>eT) ?_;clear F fa;intro fa F
      refine F.x (i:=2) rfl (fun w'=>R_move rfl (F.at rfl)) (fun _=>eT) ?_;clear F fa;intro fa F
      obtain ⟨xb24,xo24,xa24,xr24⟩:=HD.out j (by omega)
      refine F.x (i:=3) rfl (fun w'=>R_ixSlice (sz:=1) rfl ((F.at rfl).trans (xa24 _ _)) (F.at rfl) Try.underlying22 (by kernel_rfl) (by omega) (by omega)) (fun _=>eT) ?_;clear F fa;intro fa F
      refine F.xr (i:=4) rfl (fun w' hS=>R_load rfl (F.at rfl) Try.underlying25 rfl (xr24 _ (E_.nil hS) 0 _ rfl)) (fun _=>eT) ?_;clear F fa;intro fa F
      rw [hja] at F
      refine F.x (i:=5) rfl (fun w'=>R_field rfl (F.at rfl) Try.underlying24 rfl (n:=1) (sz:=1) rfl (by kernel_rfl) (by decide)) (fun _=>eT) ?_;clear F fa;intro fa F
      refine F.xr (i:=6) rfl (fun w' hS=>R_load rfl (F.at rfl) Try.underlying22 rfl ((cells_of_block (hS.keep q1_ (by simp)) 1).trans (getS (get0)))) (fun _=>eT) ?_;clear F fa;intro fa F
      refine F.x (i:=7) rfl (fun w'=>R_move rfl (F.at rfl)) (fun _=>eT) ?_;clear F fa;intro fa F
      obtain ⟨xb25,xo25,xa25,xr25⟩:=HD.out i (by omega)
      refine F.x (i:=8) rfl (fun w'=>R_ixSlice (sz:=1) rfl ((F.at rfl).trans (xa25 _ _)) (F.at rfl) Try.underlying22 (by kernel_rfl) (by omega) (by omega)) (fun _=>eT) ?_;clear F fa;intro fa F
      refine F.xr (i:=9) rfl (fun w' hS=>R_load rfl (F.at rfl) Try.underlying25 rfl (xr25 _ (E_.nil hS) 0 _ rfl)) (fun _=>eT) ?_;clear F fa;intro fa F
      rw [hla] at F
      refine ax_only (i:=10) (by kernel_rfl) (op_call F rfl rfl (by decide) rfl (R_callV rfl rfl Try.call107 (mpS (F.at rfl) (mpS (F.at rfl) mp0))) (dSame_any (x.D.getD j (.bool true,[])).2 (x.D.getD i (.bool true,[])).2 ja la jca lca _ (hjr.ext E (by simp)) (hlr.ext E (by simp)) (by omega) (by omega)) fun e w9 hR=>?_)
      obtain ⟨rfl,e9⟩:=hR
      refine ⟨_,rfl,?_⟩;clear F fa;intro fa F
      replace q1:=(e9).keep0 q1
      replace E:=ext_same E (e9)
      replace eT:=ext_same eT (e9)
      clear e9
      refine ⟨fun _=>eT,?_⟩
      refine ax_done (by kernel_rfl) ?_ _
      clear eT q1_ E_
      refine hK23 _ _ ?_
      clear hK23
      refine cd_if F rfl (fun hc53=>?_) (fun hc53=>?_)
      ·skip
       have heq : ds.getD j [] = ds.getD i []:=by rw [hkd,hkj];exact hc53
       refine wp_seq_k fun K26 hK26=>?_
       refine wp_region_lit ?_
       refine F.vl (R_assign rfl (ev_c fa _)) ?_;clear F fa;intro fa F
       refine wpList_nil ?_
       refine hK26 _ _ ?_
       clear hK26
       refine wp_ret ?_
       (try simp only [Exit.inBlock,Exit.then,reduceIte])
       refine rt_v F (rs_1 F rfl rfl) ?_
       have e:=dye_twice (B:=x.B) (ds:=ds) (i:=i) (j:=j) (by omega) (by rw [hkd];exact hz0) (by omega) heq
       rw [hd] at e
       exact ⟨ret_int (by rw [chk3 hb1 (by rw [hdl];omega) (by rw [e];decide),e]),E⟩
      ·skip
       have hne : ds.getD j [] ≠ ds.getD i []:=fun e=>by rw [hkd,hkj] at e;exact hc53 e
       refine wp_skip ?_
       refine hK22 _ _ ?_
       clear hK22
       refine wp_region_lit ?_
       refine F.mv ?_;clear F fa;intro fa F
       refine F.vl (R_add rfl (F.at rfl) (ev_c fa _) (by omega) (by omega)) ?_;clear F fa;intro fa F
       refine F.as ?_;clear F fa;intro fa F
       refine wpList_nil ?_
       show _ ∧ _
       exact ⟨by omega,_,⟨rfl,E,q1,(fun k hk=>if e : k = j then e ▸ hne else hn k (by omega))⟩,F.sub (.c 6 rfl (.c 1 rfl (.c 4 rfl .n)))⟩
     ·skip
      refine wp_exit ?_
      have hji : j = i:=by omega
      refine hK13 _ _ ?_
      clear hK13
      refine wp_region_lit ?_
      refine F.mv ?_;clear F fa;intro fa F
      refine F.vl (R_add rfl (F.at rfl) (ev_c fa _) (by omega) (by omega)) ?_;clear F fa;intro fa F
      refine F.as ?_;clear F fa;intro fa F
      refine wpList_nil ?_
      show _ ∧ _
      exact ⟨by omega,_,⟨rfl,E,q1,((dye_go (B:=x.B) (ds:=ds) (i:=i) (by omega) (by rw [hkd];exact hz0) (fun k hk=>hn k (by omega))).symm.trans hd),(fun j hj=>if e : j = i then e ▸ hz1 else hlen j (by omega))⟩,F.sub (.c 4 rfl (.c 1 rfl .n))⟩
   ·skip
    refine wp_exit ?_
    have hd0 : dyeE x.B [] ds = 0:=by rw [← hd,List.drop_eq_nil_of_le (by omega)];rfl
    refine hK9 _ _ ?_
    clear hK9
    refine wp_seq_k fun K27 hK27=>?_
    refine wp_seq_k fun K28 hK28=>?_
    refine wp_region_lit ?_
    refine F.vl (R_field rfl (F.at rfl) Try.underlying24 rfl (n:=2) (sz:=1) rfl (by kernel_rfl) (by decide)) ?_;clear F fa;intro fa F
    refine F.vl (R_load rfl (F.at rfl) Try.underlying22 rfl ((cells_of_block q1 2).trans (getS (getS (get0))))) ?_;clear F fa;intro fa F
    refine F.vl (R_len rfl rfl (F.at rfl) Try.underlying22) ?_;clear F fa;intro fa F
    refine sq_call F rfl (by decide) rfl (R_callV rfl rfl Try.call105 (mpS (F.at rfl) (mpS (ev_c fa _) mp0))) (dSized_any (x.L.length : Nat) 3 _) fun e w10 hR=>?_
    obtain ⟨rfl,e9⟩:=hR
    refine ⟨_,rfl,?_⟩;clear F fa;intro fa F
    replace q1:=(e9).keep0 q1
    replace E:=ext_same E (e9)
    clear e9
    refine F.as ?_;clear F fa;intro fa F
    refine wpList_nil ?_
    refine hK28 _ _ ?_
    clear hK28
    refine wp_seq_k fun K29 hK29=>?_
    refine wp_region_lit ?_
    refine F.mv ?_;clear F fa;intro fa F
    refine F.vl (R_neqD rfl (F.at rfl) (ev_c fa _)) ?_;clear F fa;intro fa F
    refine wpList_nil ?_
    refine hK29 _ _ ?_
    clear hK29
    refine cd_if F rfl (fun hc59=>?_) (fun hc59=>?_)
    ·skip
     refine wp_seq_k fun K30 hK30=>?_
     refine wp_region_lit ?_
     refine F.mv ?_;clear F fa;intro fa F
     refine F.as ?_;clear F fa;intro fa F
     refine wpList_nil ?_
     refine hK30 _ _ ?_
     clear hK30
     refine wp_ret ?_
     (try simp only [Exit.inBlock,Exit.then,reduceIte])
     refine rt_v F (rs_1 F rfl rfl) ?_
     exact ⟨ret_int (by rw [chk4 hb1 (by rw [hdl];omega) hd0 (by rw [hll];exact hc59),hll]),E⟩
    ·skip
     refine wp_skip ?_
     refine hK27 _ _ ?_
     clear hK27
     refine wp_seq_k fun K31 hK31=>?_
     refine wp_seq_k fun K32 hK32=>?_
     refine wp_region_lit ?_
     refine F.vl (R_assign rfl (ev_c fa _)) ?_;clear F fa;intro fa F
     refine wpList_nil ?_
     refine hK32 _ _ ?_
     clear hK32
     refine wp_block ?_
     have F0:=F.sub (.c 1 rfl .n)
     refine lp_for F0 (x.L.length) (fun k Lv W=>Lv = [(8,.int .i64 ((k : Nat) : Int))] ∧ Ext [] w W ∧ W.heap[n1]? = some (.cells #[.int .i64 x.B,.slice x.da x.D.length x.dc,.slice x.la x.L.length x.lc,.int .i64 x.tol] 24 (0,0)) ∧ lampE x.B (ls.drop k) = lampE x.B ls) ⟨_,⟨rfl,E,q1,rfl⟩,F.sub (.c 8 rfl (.c 1 rfl .n))⟩ ?_
     clear F F0
     clear E q1
     rintro k _ fa w11 hi3 ⟨rfl,E,q1,hlm⟩ F
     refine wp_seq_k fun K33 hK33=>?_
     refine wp_seq_k fun K34 hK34=>?_
     refine wp_region_lit ?_
     refine F.mv ?_;clear F fa;intro fa F
     refine F.vl (R_field rfl (F.at rfl) Try.underlying24 rfl (n:=2) (sz:=1) rfl (by kernel_rfl) (by decide)) ?_;clear F fa;intro fa F
     refine F.vl (R_load rfl (F.at rfl) Try.underlying22 rfl ((cells_of_block q1 2).trans (getS (getS (get0))))) ?_;clear F fa;intro fa F
     refine F.vl (R_len rfl rfl (F.at rfl) Try.underlying22) ?_;clear F fa;intro fa F
     refine F.vl (R_lss rfl (F.at rfl) (F.at rfl)) ?_;clear F fa;intro fa F
     refine wpList_nil ?_
     refine hK34 _ _ ?_
     clear hK34
     refine cd_if F rfl (fun hc65=>?_) (fun hc65=>?_)
     ·skip
      refine wp_skip ?_
      refine hK33 _ _ ?_
      clear hK33
      refine wp_seq_k fun K35 hK35=>?_
      refine wp_block ?_
      refine wp_seq_k fun K36 hK36=>?_
      refine wp_seq_k fun K37 hK37=>?_
      obtain ⟨la,lca,hla,hlr⟩:=HA.out.l.2 _ (getD_mem (.bool true,[]) (show k < x.L.length by omega))
      have hsz:=SL.out.2 _ (getD_mem (.bool true,[]) (show k < x.L.length by omega))
      have hkl:=KL.out k (by omega)
      refine region_x (Ext [] w11) none follows fun w12 hh eh=>?_
      have q1_:=q1
      replace q1:=keep_same hh q1
      have E_:=E
      have zEw12:=E.size
      replace E:=ext_same E eh
      have eT:=eh
      clear hh eh
      refine F.xr (i:=0) rfl (fun w' hS=>R_loadBlk rfl (F.at rfl) Try.underlying24 rfl (by kernel_rfl) (hS.keep q1_ (by simp))) (fun _=>eT) ?_;clear F fa;intro fa F
      refine F.x (i:=1) rfl (fun w'=>R_field rfl (F.at rfl) Try.underlying24 rfl (n:=2) (sz:=1) rfl (by kernel_rfl) (by decide)) (fun _=>eT) ?_;clear F fa;intro fa F
      refine F.xr (i:=2) rfl (fun w' hS=>R_load rfl (F.at rfl) Try.underlying22 rfl ((cells_of_block (hS.keep q1_ (by simp)) 2).trans (getS (getS (get0))))) (fun _=>eT) ?_;clear F fa;intro fa F
      refine F.x (i:=3) rfl (fun w'=>R_move rfl (F.at rfl)) (fun _=>eT) ?_;clear F fa;intro fa F
      obtain ⟨xb38,xo38,xa38,xr38⟩:=HL.out k (by omega)
      refine F.x (i:=4) rfl (fun w'=>R_ixSlice (sz:=1) rfl ((F.at rfl).trans (xa38 _ _)) (F.at rfl) Try.underlying22 (by kernel_rfl) (by omega) (by omega)) (fun _=>eT) ?_;clear F fa;intro fa F
      refine F.xr (i:=5) rfl (fun w' hS=>R_load rfl (F.at rfl) Try.underlying25 rfl (xr38 _ (E_.nil hS) 0 _ rfl)) (fun _=>eT) ?_;clear F fa;intro fa F
      rw [hla] at F
      refine ax_only (i:=6) (by kernel_rfl) (op_call F rfl rfl (by decide) rfl (R_callV rfl rfl Try.call106 (mpS (F.at rfl) (mpS (F.at rfl) (mpS (ev_c fa _) mp0)))) (dBanded_any x.B x.tol (.slice x.da x.D.length x.dc) (.slice x.la x.L.length x.lc) (x.L.getD k (.bool true,[])).2 3 la lca _ (hlr.ext E (by simp)) hsz) fun e w13 hR=>?_)
      obtain ⟨rfl,e9⟩:=hR
      refine ⟨_,rfl,?_⟩;clear F fa;intro fa F
      replace q1:=(e9).keep0 q1
      replace E:=ext_same E (e9)
      replace eT:=ext_same eT (e9)
      clear e9
      refine ⟨fun _=>eT,?_⟩
      refine F.x (i:=7) rfl (fun w'=>R_assign rfl (F.at rfl)) (fun _=>eT) ?_;clear F fa;intro fa F
      refine ax_done (by kernel_rfl) ?_ _
      clear eT q1_ E_
      refine hK37 _ _ ?_
      clear hK37
      refine wp_seq_k fun K39 hK39=>?_
      refine wp_region_lit ?_
      refine F.mv ?_;clear F fa;intro fa F
      refine F.vl (R_neqD rfl (F.at rfl) (ev_c fa _)) ?_;clear F fa;intro fa F
      refine wpList_nil ?_
      refine hK39 _ _ ?_
      clear hK39
      refine cd_if F rfl (fun hc76=>?_) (fun hc76=>?_)
      ·skip
       refine wp_seq_k fun K40 hK40=>?_
       refine wp_region_lit ?_
       refine F.mv ?_;clear F fa;intro fa F
       refine F.as ?_;clear F fa;intro fa F
       refine wpList_nil ?_
       refine hK40 _ _ ?_
       clear hK40
       refine wp_ret ?_
       (try simp only [Exit.inBlock,Exit.then,reduceIte])
       refine rt_v F (rs_1 F rfl rfl) ?_
       have e:=lamp_bad (B:=x.B) (ls:=ls) (i:=k) (by omega) (by rw [hkl];exact hc76)
       rw [hlm,hkl] at e
       exact ⟨ret_int (by rw [chk5 hb1 (by rw [hdl];omega) hd0 (by rw [hll];omega) (by rw [e];exact hc76),e]),E⟩
      ·skip
       have hz0 : numE (x.L.getD k (.bool true,[])).2 x.B 3 = 0:=by omega
       obtain ⟨hz1,hz2⟩:=numE_zero hz0
       have hzs:=zero_sum (fun n hn=>(hz2 n hn).1)
       obtain ⟨bn,hbn⟩ : ∃ bn : Nat,x.B = bn:=⟨x.B.toNat,by omega⟩
       have hbl : (x.L.getD k (.bool true,[])).2.length = bn:=by omega
       rw [hbl] at hzs
       refine wp_skip ?_
       refine hK36 _ _ ?_
       clear hK36
       refine wp_seq_k fun K41 hK41=>?_
       refine region_x (Ext [] w13) none follows fun w14 hh eh=>?_
       have q1_:=q1
       replace q1:=keep_same hh q1
       have E_:=E
       have zEw14:=E.size
       replace E:=ext_same E eh
       have eT:=eh
       clear hh eh
       refine F.x (i:=0) rfl (fun w'=>R_field rfl (F.at rfl) Try.underlying24 rfl (n:=2) (sz:=1) rfl (by kernel_rfl) (by decide)) (fun _=>eT) ?_;clear F fa;intro fa F
       refine F.xr (i:=1) rfl (fun w' hS=>R_load rfl (F.at rfl) Try.underlying22 rfl ((cells_of_block (hS.keep q1_ (by simp)) 2).trans (getS (getS (get0))))) (fun _=>eT) ?_;clear F fa;intro fa F
       refine F.x (i:=2) rfl (fun w'=>R_move rfl (F.at rfl)) (fun _=>eT) ?_;clear F fa;intro fa F
       obtain ⟨xb42,xo42,xa42,xr42⟩:=HL.out k (by omega)
       refine F.x (i:=3) rfl (fun w'=>R_ixSlice (sz:=1) rfl ((F.at rfl).trans (xa42 _ _)) (F.at rfl) Try.underlying22 (by kernel_rfl) (by omega) (by omega)) (fun _=>eT) ?_;clear F fa;intro fa F
       refine F.xr (i:=4) rfl (fun w' hS=>R_load rfl (F.at rfl) Try.underlying25 rfl (xr42 _ (E_.nil hS) 0 _ rfl)) (fun _=>eT) ?_;clear F fa;intro fa F
       rw [hla] at F
       refine F.x (i:=5) rfl (fun w'=>R_field rfl (F.at rfl) Try.underlying24 rfl (n:=0) (sz:=1) rfl (by kernel_rfl) (by decide)) (fun _=>eT) ?_;clear F fa;intro fa F
       refine F.xr (i:=6) rfl (fun w' hS=>R_load rfl (F.at rfl) Try.underlying3 rfl ((cells_of_block (hS.keep q1_ (by simp)) 0).trans (get0))) (fun _=>eT) ?_;clear F fa;intro fa F
       rw [hbn] at F
       have hEs:=E.size
       refine ax_only (i:=7) (by kernel_rfl) (op_some F rfl rfl (by decide) rfl (make_run rfl (w.heap.size) (e:=3) (bytes:=8) (z:=.int .i64 0) Try.underlying25 (by kernel_rfl) rfl (F.at rfl) (F.at rfl) (n:=bn) (by omega) (by decide) (by omega)) ?_);clear F fa;rintro fa v' w15 F ⟨oo,hg,rfl⟩
       obtain ⟨n85,hn⟩ : ∃ n,n = w14.heap.size:=⟨_,rfl⟩
       rw [← hn] at F oo
       have s85 : w14.heap.size ≤ n85:=Nat.le_of_eq hn.symm
       replace q1:=keep_none hg q1
       replace E:=ext_none E hg
       replace eT:=ext_none eT hg
       clear hg hn
       refine ⟨fun _=>eT,?_⟩
       rw [show List.replicate bn (Value.int .i64 0) = ivs (List.replicate bn 0) by simp [ivs]] at oo
       have hzr : IsRows w15 (.slice (some ⟨n85,0,none⟩) (List.replicate bn (0 : Int)).length bn) 1 ((List.replicate bn (0 : Int)).map intRow):=rows_of_owns (row:=intRow) (by rw [← ivs_flat,List.length_replicate];exact oo) (fun _=>rfl)
       have hsm:=dSame_any (x.L.getD k (.bool true,[])).2 (List.replicate bn 0) la (some ⟨n85,0,none⟩) lca bn w15 (hlr.ext E (by simp)) hzr (by rw [List.length_replicate];omega) (by omega)
       rw [List.length_replicate] at hsm
       refine ax_only (i:=8) (by kernel_rfl) (op_call F rfl rfl (by decide) rfl (R_callV rfl rfl Try.call107 (mpS (F.at rfl) (mpS (F.at rfl) mp0))) (hsm) fun e w16 hR=>?_)
       obtain ⟨rfl,e9⟩:=hR
       refine ⟨_,rfl,?_⟩;clear F fa;intro fa F
       replace oo:=owns_ext oo (e9) (by simp)
       replace q1:=(e9).keep0 q1
       replace E:=ext_same E (e9)
       replace eT:=ext_same eT (e9)
       clear e9
       refine ⟨fun _=>eT,?_⟩
       refine ax_done (by kernel_rfl) ?_ _
       clear eT q1_ E_
       refine hK41 _ _ ?_
       clear hK41
       refine cd_if F rfl (fun hc86=>?_) (fun hc86=>?_)
       ·skip
        refine wp_seq_k fun K43 hK43=>?_
        refine wp_region_lit ?_
        refine F.vl (R_assign rfl (ev_c fa _)) ?_;clear F fa;intro fa F
        refine wpList_nil ?_
        refine hK43 _ _ ?_
        clear hK43
        refine wp_ret ?_
        (try simp only [Exit.inBlock,Exit.then,reduceIte])
        refine rt_v F (rs_1 F rfl rfl) ?_
        have e:=lamp_dark (B:=x.B) (ls:=ls) (i:=k) (by omega) (by rw [hkl];exact hz0) (by rw [hkl];exact hzs.1 hc86)
        rw [hlm] at e
        exact ⟨ret_int (by rw [chk5 hb1 (by rw [hdl];omega) hd0 (by rw [hll];omega) (by rw [e];decide),e]),E⟩
       ·skip
        refine wp_skip ?_
        refine hK35 _ _ ?_
        clear hK35
        refine wp_region_lit ?_
        refine F.mv ?_;clear F fa;intro fa F
        refine F.vl (R_add rfl (F.at rfl) (ev_c fa _) (by omega) (by omega)) ?_;clear F fa;intro fa F
        refine F.as ?_;clear F fa;intro fa F
        refine wpList_nil ?_
        show _ ∧ _
        exact ⟨by omega,_,⟨rfl,E,q1,((lamp_go (B:=x.B) (ls:=ls) (i:=k) (by omega) (by rw [hkl];exact hz0) (by rw [hkl];exact fun e=>hc86 (hzs.2 e))).symm.trans hlm)⟩,F.sub (.c 8 rfl (.c 1 rfl .n))⟩
     ·skip
      refine wp_exit ?_
      have hl0 : lampE x.B ls = 0:=by rw [← hlm,List.drop_eq_nil_of_le (by omega)];rfl
      refine hK31 _ _ ?_
      clear hK31
      refine wp_seq_k fun K44 hK44=>?_
      refine wp_seq_k fun K45 hK45=>?_
      refine wp_region_lit ?_
      refine F.vl (R_field rfl (F.at rfl) Try.underlying24 rfl (n:=3) (sz:=1) rfl (by kernel_rfl) (by decide)) ?_;clear F fa;intro fa F
      refine F.vl (R_load rfl (F.at rfl) Try.underlying3 rfl ((cells_of_block q1 3).trans (getS (getS (getS (get0)))))) ?_;clear F fa;intro fa F
      refine sq_call F rfl (by decide) rfl (R_callV rfl rfl Try.call88 (mpS (F.at rfl) (mpS (ev_c fa _) (mpS (ev_c fa _) mp0)))) (dInside_any x.tol 0 12 _) fun e w17 hR=>?_
      obtain ⟨rfl,e9⟩:=hR
      refine ⟨_,rfl,?_⟩;clear F fa;intro fa F
      replace q1:=(e9).keep0 q1
      replace E:=ext_same E (e9)
      clear e9
      refine F.vl (R_not rfl (F.at rfl)) ?_;clear F fa;intro fa F
      refine wpList_nil ?_
      refine hK45 _ _ ?_
      clear hK45
      refine cd_b F rfl (fun hc90=>?_) (fun hc90=>?_)
      ·skip
       refine wp_seq_k fun K46 hK46=>?_
       refine wp_region_lit ?_
       refine F.vl (R_assign rfl (ev_c fa _)) ?_;clear F fa;intro fa F
       refine wpList_nil ?_
       refine hK46 _ _ ?_
       clear hK46
       refine wp_ret ?_
       (try simp only [Exit.inBlock,Exit.then,reduceIte])
       refine rt_v F (rs_1 F rfl rfl) ?_
       exact ⟨ret_int (by rw [chk6 hb1 (by rw [hdl];omega) hd0 (by rw [hll];omega) hl0,if_pos (by simpa using hc90)]),E⟩
      ·skip
       refine wp_skip ?_
       refine hK44 _ _ ?_
       clear hK44
       refine wp_seq_k fun K47 hK47=>?_
       refine wp_region_lit ?_
       refine F.vl (R_assign rfl (ev_c fa _)) ?_;clear F fa;intro fa F
       refine wpList_nil ?_
       refine hK47 _ _ ?_
       clear hK47
       refine wp_ret ?_
       (try simp only [Exit.inBlock,Exit.then,reduceIte])
       refine rt_v F (rs_1 F rfl rfl) ?_
       exact ⟨ret_int (by rw [chk6 hb1 (by rw [hdl];omega) hd0 (by rw [hll];omega) hl0,if_neg (by simpa using hc90)]),E⟩
theorem cnt_bd {l : List Int} {m h : Int} (e : cntE l m h = 0) : (l.length : Int) = m ∧ ∀ n ∈ l,0 ≤ n ∧ n ≤ h:=by
 have hl : (l.length : Int) = m:=by
  apply Classical.byContradiction
  intro hne
  rcases Int.lt_or_gt_of_ne hne with h1 | h1
  ·rw [cnt_few h1] at e;omega
  ·rw [cnt_many h1] at e;omega
 rw [cnt_num hl] at e
 exact numE_zero e
set_option maxRecDepth 100000 in
theorem dRecipe_any (x : Vm) (hd : x.D.length ≤ 1000) (l : List Int) (hl : l.length ≤ 1000) (a : Option Addr) (c : Nat) (w : World) (hr : IsRows w (.slice a l.length c) 1 (l.map intRow)) :
  Calls Try.prog 64 #[.agg #[.int .i64 x.B,.slice x.da x.D.length x.dc,.slice x.la x.L.length x.lc,.int .i64 x.tol],.slice a l.length c] w fun e w'=>e = .returned (.int .i64 (rcpE x l)) ∧ Ext [] w w':=by
 have E : Ext [] w w:=Ext.refl _ _
 have HR:=Lib.hid hr
 clear hr
 refine calls_has 17 Try.func64 rfl Try.ntmps64 (Nat.le_of_ble_eq_true rfl) ?_
 intro fa F
 refine wp_seq_k fun K1 hK1=>?_
 refine wp_region_lit ?_
 refine sq_new F rfl (by decide) rfl (R_box rfl (F.at rfl)) ?_;clear F fa;intro fa w1 F hw
 obtain ⟨n2,hn⟩ : ∃ n,n = w.heap.size:=⟨_,rfl⟩
 rw [← hn] at F
 have s2 : w.heap.size ≤ n2:=Nat.le_of_eq hn.symm
 have l2_E : w.heap.size ≤ n2:=by rw [hn];exact E.size
 replace E:=ext_alloc E hw
 have q2:=new_row hw hn
 clear hw hn
 refine F.vl (R_assign rfl (ev_c fa _)) ?_;clear F fa;intro fa F
 refine wpList_nil ?_
 refine hK1 _ _ ?_
 clear hK1
 refine wp_seq_k fun K2 hK2=>?_
 refine wp_seq_k fun K3 hK3=>?_
 refine wp_region_lit ?_
 refine F.mv ?_;clear F fa;intro fa F
 refine F.vl (R_field rfl (F.at rfl) Try.underlying24 rfl (n:=1) (sz:=1) rfl (by kernel_rfl) (by decide)) ?_;clear F fa;intro fa F
 refine F.vl (R_load rfl (F.at rfl) Try.underlying22 rfl ((cells_of_block q2 1).trans (getS (get0)))) ?_;clear F fa;intro fa F
 refine F.vl (R_len rfl rfl (F.at rfl) Try.underlying22) ?_;clear F fa;intro fa F
 refine sq_call F rfl (by decide) rfl (R_callV rfl rfl Try.call108 (mpS (F.at rfl) (mpS (F.at rfl) (mpS (ev_c fa _) mp0)))) (dCounted_any l ((x.D.length : Nat) : Int) 6 a c _ (HR.out.ext E (by simp)) hl) fun e w2 hR=>?_
 obtain ⟨rfl,e9⟩:=hR
 refine ⟨_,rfl,?_⟩;clear F fa;intro fa F
 replace q2:=(e9).keep0 q2
 replace E:=ext_same E (e9)
 clear e9
 refine F.as ?_;clear F fa;intro fa F
 refine wpList_nil ?_
 refine hK3 _ _ ?_
 clear hK3
 refine wp_seq_k fun K4 hK4=>?_
 refine wp_region_lit ?_
 refine F.mv ?_;clear F fa;intro fa F
 refine F.vl (R_neqD rfl (F.at rfl) (ev_c fa _)) ?_;clear F fa;intro fa F
 refine wpList_nil ?_
 refine hK4 _ _ ?_
 clear hK4
 refine cd_if F rfl (fun hc12=>?_) (fun hc12=>?_)
 ·skip
  refine wp_seq_k fun K5 hK5=>?_
  refine wp_region_lit ?_
  refine F.mv ?_;clear F fa;intro fa F
  refine F.as ?_;clear F fa;intro fa F
  refine wpList_nil ?_
  refine hK5 _ _ ?_
  clear hK5
  refine wp_ret ?_
  (try simp only [Exit.inBlock,Exit.then,reduceIte])
  refine rt_v F (rs_1 F rfl rfl) ?_
  exact ⟨ret_int (if_pos hc12).symm,E⟩
 ·skip
  have hz : cntE l ((x.D.length : Nat) : Int) 6 = 0:=by omega
  obtain ⟨hz1,hz2⟩:=cnt_bd hz
  refine wp_skip ?_
  refine hK2 _ _ ?_
  clear hK2
  refine wp_seq_k fun K6 hK6=>?_
  refine wp_region_lit ?_
  refine F.mv ?_;clear F fa;intro fa F
  refine sq_call F rfl (by decide) rfl (R_callV rfl rfl Try.call67 (mpS (F.at rfl) mp0)) (dTotal_any l a c _ (HR.out.ext E (by simp)) hl (fun n hn=>by have:=hz2 n hn;omega)) fun e w3 hR=>?_
  obtain ⟨rfl,e9⟩:=hR
  refine ⟨_,rfl,?_⟩;clear F fa;intro fa F
  replace q2:=(e9).keep0 q2
  replace E:=ext_same E (e9)
  clear e9
  refine sq_call F rfl (by decide) rfl (R_callV rfl rfl Try.call105 (mpS (F.at rfl) (mpS (ev_c fa _) mp0))) (dSized_any l.sum 6 _) fun e w4 hR=>?_
  obtain ⟨rfl,e9⟩:=hR
  refine ⟨_,rfl,?_⟩;clear F fa;intro fa F
  replace q2:=(e9).keep0 q2
  replace E:=ext_same E (e9)
  clear e9
  refine F.as ?_;clear F fa;intro fa F
  refine wpList_nil ?_
  refine hK6 _ _ ?_
  clear hK6
  refine wp_ret ?_
  (try simp only [Exit.inBlock,Exit.then,reduceIte])
  refine rt_v F (rs_1 F rfl rfl) ?_
  exact ⟨ret_int (if_neg (by omega)).symm,E⟩
set_option maxRecDepth 100000 in
theorem dLamps_any (x : Vm) (hl3 : x.L.length ≤ 1000) (ls : List Int) (hll : ls.length ≤ 1000) (a : Option Addr) (c : Nat) (w : World) (hr : IsRows w (.slice a ls.length c) 1 (ls.map intRow)) :
  Calls Try.prog 79 #[.agg #[.int .i64 x.B,.slice x.da x.D.length x.dc,.slice x.la x.L.length x.lc,.int .i64 x.tol],.slice a ls.length c] w fun e w'=>e = .returned (.int .i64 (lmpE x ls)) ∧ Ext [] w w':=by
 have E : Ext [] w w:=Ext.refl _ _
 have HS:=Lib.hid (slAt_of_rows hr 0)
 clear hr
 obtain ⟨hi,hhi⟩ : ∃ hi,hi = ((x.L.length : Nat) : Int) - 1:=⟨_,rfl⟩
 have hle : lmpE x ls = if ls.length = 0 then 7 else lmpF hi none ls:=by rw [hhi];rfl
 refine calls_has 39 Try.func79 rfl Try.ntmps79 (Nat.le_of_ble_eq_true rfl) ?_
 intro fa F
 refine wp_seq_k fun K1 hK1=>?_
 refine wp_region_lit ?_
 refine sq_new F rfl (by decide) rfl (R_box rfl (F.at rfl)) ?_;clear F fa;intro fa w1 F hw
 obtain ⟨n2,hn⟩ : ∃ n,n = w.heap.size:=⟨_,rfl⟩
 rw [← hn] at F
 have s2 : w.heap.size ≤ n2:=Nat.le_of_eq hn.symm
 have l2_E : w.heap.size ≤ n2:=by rw [hn];exact E.size
 replace E:=ext_alloc E hw
 have q2:=new_row hw hn
 clear hw hn
 refine F.vl (R_assign rfl (ev_c fa _)) ?_;clear F fa;intro fa F
 refine wpList_nil ?_
 refine hK1 _ _ ?_
 clear hK1
 refine wp_seq_k fun K2 hK2=>?_
 refine wp_seq_k fun K3 hK3=>?_
 refine wp_region_lit ?_
 refine F.mv ?_;clear F fa;intro fa F
 refine F.vl (R_len rfl rfl (F.at rfl) Try.underlying25) ?_;clear F fa;intro fa F
 refine F.vl (R_eqlD rfl (F.at rfl) (ev_c fa _)) ?_;clear F fa;intro fa F
 refine wpList_nil ?_
 refine hK3 _ _ ?_
 clear hK3
 refine cd_if F rfl (fun hc8=>?_) (fun hc8=>?_)
 ·skip
  rw [if_pos (by omega)] at hle
  refine wp_seq_k fun K4 hK4=>?_
  refine wp_region_lit ?_
  refine F.vl (R_assign rfl (ev_c fa _)) ?_;clear F fa;intro fa F
  refine wpList_nil ?_
  refine hK4 _ _ ?_
  clear hK4
  refine wp_ret ?_
  (try simp only [Exit.inBlock,Exit.then,reduceIte])
  refine rt_v F (rs_1 F rfl rfl) ?_
  exact ⟨ret_int hle.symm,E⟩
 ·skip
  rw [if_neg (by omega)] at hle
  refine wp_skip ?_
  refine hK2 _ _ ?_
  clear hK2
  refine wp_seq_k fun K5 hK5=>?_
  refine wp_seq_k fun K6 hK6=>?_
  refine wp_region_lit ?_
  refine F.vl (R_assign rfl (ev_c fa _)) ?_;clear F fa;intro fa F
  refine wpList_nil ?_
  refine hK6 _ _ ?_
  clear hK6
  refine wp_block ?_
  have F0:=F.sub (.c 1 rfl (.c 2 rfl .n))
  refine lp_for F0 (ls.length) (fun i Lv W=>Lv = [(5,.int .i64 ((i : Nat) : Int))] ∧ Ext [] w W ∧ W.heap[n2]? = some (.cells #[.int .i64 x.B,.slice x.da x.D.length x.dc,.slice x.la x.L.length x.lc,.int .i64 x.tol] 24 (0,0)) ∧ lmpE x ls = lmpF hi (prevO ls i) (ls.drop i)) ⟨_,⟨rfl,E,q2,hle⟩,F.sub (.c 5 rfl (.c 1 rfl (.c 2 rfl .n)))⟩ ?_
  clear F F0
  clear E q2
  rintro i _ fa w2 hi1 ⟨rfl,E,q2,hle⟩ F
  refine wp_seq_k fun K7 hK7=>?_
  refine wp_seq_k fun K8 hK8=>?_
  refine wp_region_lit ?_
  refine F.mv ?_;clear F fa;intro fa F
  refine F.mv ?_;clear F fa;intro fa F
  refine F.vl (R_len rfl rfl (F.at rfl) Try.underlying25) ?_;clear F fa;intro fa F
  refine F.vl (R_lss rfl (F.at rfl) (F.at rfl)) ?_;clear F fa;intro fa F
  refine wpList_nil ?_
  refine hK8 _ _ ?_
  clear hK8
  refine cd_if F rfl (fun hc12=>?_) (fun hc12=>?_)
  ·skip
   refine wp_skip ?_
   refine hK7 _ _ ?_
   clear hK7
   refine wp_seq_k fun K9 hK9=>?_
   refine wp_block ?_
   refine wp_seq_k fun K10 hK10=>?_
   refine wp_seq_k fun K11 hK11=>?_
   refine region_x (Ext [] w2) none follows fun w3 hh eh=>?_
   have q2_:=q2
   replace q2:=keep_same hh q2
   have E_:=E
   have zEw3:=E.size
   replace E:=ext_same E eh
   have eT:=eh
   clear hh eh
   refine F.x (i:=0) rfl (fun w'=>R_move rfl (F.at rfl)) (fun _=>eT) ?_;clear F fa;intro fa F
   refine F.x (i:=1) rfl (fun w'=>R_move rfl (F.at rfl)) (fun _=>eT) ?_;clear F fa;intro fa F
   obtain ⟨xb12,xo12,xa12,xr12⟩:=HS.out i (by omega)
   refine F.x (i:=2) rfl (fun w'=>R_ixSlice (sz:=1) rfl ((F.at rfl).trans (xa12 _ _)) (F.at rfl) Try.underlying25 (by kernel_rfl) (by omega) (by omega)) (fun _=>eT) ?_;clear F fa;intro fa F
   refine F.xr (i:=3) rfl (fun w' hS=>R_load rfl (F.at rfl) Try.underlying3 rfl (xr12 _ (E_.nil hS) 0 _ rfl)) (fun _=>eT) ?_;clear F fa;intro fa F
   refine F.x (i:=4) rfl (fun w'=>R_field rfl (F.at rfl) Try.underlying24 rfl (n:=2) (sz:=1) rfl (by kernel_rfl) (by decide)) (fun _=>eT) ?_;clear F fa;intro fa F
   refine F.xr (i:=5) rfl (fun w' hS=>R_load rfl (F.at rfl) Try.underlying22 rfl ((cells_of_block (hS.keep q2_ (by simp)) 2).trans (getS (getS (get0))))) (fun _=>eT) ?_;clear F fa;intro fa F
   refine F.x (i:=6) rfl (fun w'=>R_len rfl rfl (F.at rfl) Try.underlying22) (fun _=>eT) ?_;clear F fa;intro fa F
   refine F.x (i:=7) rfl (fun w'=>R_sub rfl (F.at rfl) (ev_c fa _) (by omega) (by omega)) (fun _=>eT) ?_;clear F fa;intro fa F
   refine ax_only (i:=8) (by kernel_rfl) (op_call F rfl rfl (by decide) rfl (R_callV rfl rfl Try.call88 (mpS (F.at rfl) (mpS (ev_c fa _) (mpS (F.at rfl) mp0)))) (dInside_any (ls.getD i 0) 0 (((x.L.length : Nat) : Int) - 1) _) fun e w4 hR=>?_)
   obtain ⟨rfl,e9⟩:=hR
   refine ⟨_,rfl,?_⟩;clear F fa;intro fa F
   replace q2:=(e9).keep0 q2
   replace E:=ext_same E (e9)
   replace eT:=ext_same eT (e9)
   clear e9
   refine ⟨fun _=>eT,?_⟩
   refine F.x (i:=9) rfl (fun w'=>R_not rfl (F.at rfl)) (fun _=>eT) ?_;clear F fa;intro fa F
   refine ax_done (by kernel_rfl) ?_ _
   clear eT q2_ E_
   refine hK11 _ _ ?_
   clear hK11
   refine cd_b F rfl (fun hc24=>?_) (fun hc24=>?_)
   ·skip
    have ho : outB (ls.getD i 0) 0 hi = true:=by rw [hhi];simpa using hc24
    refine wp_seq_k fun K13 hK13=>?_
    refine wp_region_lit ?_
    refine F.vl (R_assign rfl (ev_c fa _)) ?_;clear F fa;intro fa F
    refine wpList_nil ?_
    refine hK13 _ _ ?_
    clear hK13
    refine wp_ret ?_
    (try simp only [Exit.inBlock,Exit.then,reduceIte])
    refine rt_v F (rs_1 F rfl rfl) ?_
    exact ⟨ret_int (hle.trans (lmp_out (by omega) ho)).symm,E⟩
   ·skip
    have ho : outB (ls.getD i 0) 0 hi = false:=by rw [hhi];simpa using hc24
    refine wp_skip ?_
    refine hK10 _ _ ?_
    clear hK10
    refine wp_seq_k fun K14 hK14=>?_
    by_cases ci : 0 < i
    ·skip
     by_cases cj : ls.getD i 0 ≤ ls.getD (i - 1) 0
     ·skip
      refine region_x (Ext [] w4) none follows fun w5 hh eh=>?_
      have q2_:=q2
      replace q2:=keep_same hh q2
      have E_:=E
      have zEw5:=E.size
      replace E:=ext_same E eh
      have eT:=eh
      clear hh eh
      refine F.x (i:=0) rfl (fun w'=>R_move rfl (F.at rfl)) (fun _=>eT) ?_;clear F fa;intro fa F
      refine F.x (i:=1) rfl (fun w'=>R_gtrB (b:=true) rfl (F.at rfl) (ev_c fa _) (decide_eq_true ((by omega)))) (fun _=>eT) ?_;clear F fa;intro fa F
      refine F.x (i:=2) rfl (fun w'=>R_move rfl (F.at rfl)) (fun _=>eT) ?_;clear F fa;intro fa F
      refine F.x (i:=3) rfl (fun w'=>R_move rfl (F.at rfl)) (fun _=>eT) ?_ (hw:=(wantT F rfl rfl (by decide) rfl));clear F fa;intro fa F
      refine F.x (i:=4) rfl (fun w'=>R_move rfl (F.at rfl)) (fun _=>eT) ?_ (hw:=(wantT F rfl rfl (by decide) rfl));clear F fa;intro fa F
      obtain ⟨xb15,xo15,xa15,xr15⟩:=HS.out i (by omega)
      refine F.x (i:=5) rfl (fun w'=>R_ixSlice (sz:=1) rfl ((F.at rfl).trans (xa15 _ _)) (F.at rfl) Try.underlying25 (by kernel_rfl) (by omega) (by omega)) (fun _=>eT) ?_ (hw:=(wantT F rfl rfl (by decide) rfl));clear F fa;intro fa F
      refine F.xr (i:=6) rfl (fun w' hS=>R_load rfl (F.at rfl) Try.underlying3 rfl (xr15 _ (E_.nil hS) 0 _ rfl)) (fun _=>eT) ?_ (hw:=(wantT F rfl rfl (by decide) rfl));clear F fa;intro fa F
      refine F.x (i:=7) rfl (fun w'=>R_move rfl (F.at rfl)) (fun _=>eT) ?_ (hw:=(wantT F rfl rfl (by decide) rfl));clear F fa;intro fa F
      refine F.x (i:=8) rfl (fun w'=>R_move rfl (F.at rfl)) (fun _=>eT) ?_ (hw:=(wantT F rfl rfl (by decide) rfl));clear F fa;intro fa F
      refine F.x (i:=9) rfl (fun w'=>R_sub rfl (F.at rfl) (ev_c fa _) (by omega) (by omega)) (fun _=>eT) ?_ (hw:=(wantT F rfl rfl (by decide) rfl));clear F fa;intro fa F
      rw [show (((i : Nat) : Int) - 1) = ((i - 1 : Nat) : Int) by omega] at F
      obtain ⟨xb16,xo16,xa16,xr16⟩:=HS.out (i - 1) (by omega)
      refine F.x (i:=10) rfl (fun w'=>R_ixSlice (sz:=1) rfl ((F.at rfl).trans (xa16 _ _)) (F.at rfl) Try.underlying25 (by kernel_rfl) (by omega) (by omega)) (fun _=>eT) ?_ (hw:=(wantT F rfl rfl (by decide) rfl));clear F fa;intro fa F
      refine F.xr (i:=11) rfl (fun w' hS=>R_load rfl (F.at rfl) Try.underlying3 rfl (xr16 _ (E_.nil hS) 0 _ rfl)) (fun _=>eT) ?_ (hw:=(wantT F rfl rfl (by decide) rfl));clear F fa;intro fa F
      refine F.x (i:=12) rfl (fun w'=>R_leqB (b:=true) rfl (F.at rfl) (F.at rfl) (decide_eq_true ((by omega)))) (fun _=>eT) ?_ (hw:=(wantT F rfl rfl (by decide) rfl));clear F fa;intro fa F
      refine F.x (i:=13) rfl (fun w'=>R_pickT rfl (F.at rfl) (F.at rfl)) (fun _=>eT) ?_;clear F fa;intro fa F
      refine ax_done (by kernel_rfl) ?_ _
      clear eT q2_ E_
      refine hK14 _ _ ?_
      clear hK14
      refine cd_T F rfl ?_
      refine wp_seq_k fun K17 hK17=>?_
      refine wp_region_lit ?_
      refine F.vl (R_assign rfl (ev_c fa _)) ?_;clear F fa;intro fa F
      refine wpList_nil ?_
      refine hK17 _ _ ?_
      clear hK17
      refine wp_ret ?_
      (try simp only [Exit.inBlock,Exit.then,reduceIte])
      refine rt_v F (rs_1 F rfl rfl) ?_
      exact ⟨ret_int (hle.trans (lmp_ord (by omega) ho ci cj)).symm,E⟩
     ·skip
      refine region_x (Ext [] w4) none follows fun w6 hh eh=>?_
      have q2_:=q2
      replace q2:=keep_same hh q2
      have E_:=E
      have zEw6:=E.size
      replace E:=ext_same E eh
      have eT:=eh
      clear hh eh
      refine F.x (i:=0) rfl (fun w'=>R_move rfl (F.at rfl)) (fun _=>eT) ?_;clear F fa;intro fa F
      refine F.x (i:=1) rfl (fun w'=>R_gtrB (b:=true) rfl (F.at rfl) (ev_c fa _) (decide_eq_true ((by omega)))) (fun _=>eT) ?_;clear F fa;intro fa F
      refine F.x (i:=2) rfl (fun w'=>R_move rfl (F.at rfl)) (fun _=>eT) ?_;clear F fa;intro fa F
      refine F.x (i:=3) rfl (fun w'=>R_move rfl (F.at rfl)) (fun _=>eT) ?_ (hw:=(wantT F rfl rfl (by decide) rfl));clear F fa;intro fa F
      refine F.x (i:=4) rfl (fun w'=>R_move rfl (F.at rfl)) (fun _=>eT) ?_ (hw:=(wantT F rfl rfl (by decide) rfl));clear F fa;intro fa F
      obtain ⟨xb18,xo18,xa18,xr18⟩:=HS.out i (by omega)
      refine F.x (i:=5) rfl (fun w'=>R_ixSlice (sz:=1) rfl ((F.at rfl).trans (xa18 _ _)) (F.at rfl) Try.underlying25 (by kernel_rfl) (by omega) (by omega)) (fun _=>eT) ?_ (hw:=(wantT F rfl rfl (by decide) rfl));clear F fa;intro fa F
      refine F.xr (i:=6) rfl (fun w' hS=>R_load rfl (F.at rfl) Try.underlying3 rfl (xr18 _ (E_.nil hS) 0 _ rfl)) (fun _=>eT) ?_ (hw:=(wantT F rfl rfl (by decide) rfl));clear F fa;intro fa F
      refine F.x (i:=7) rfl (fun w'=>R_move rfl (F.at rfl)) (fun _=>eT) ?_ (hw:=(wantT F rfl rfl (by decide) rfl));clear F fa;intro fa F
      refine F.x (i:=8) rfl (fun w'=>R_move rfl (F.at rfl)) (fun _=>eT) ?_ (hw:=(wantT F rfl rfl (by decide) rfl));clear F fa;intro fa F
      refine F.x (i:=9) rfl (fun w'=>R_sub rfl (F.at rfl) (ev_c fa _) (by omega) (by omega)) (fun _=>eT) ?_ (hw:=(wantT F rfl rfl (by decide) rfl));clear F fa;intro fa F
      rw [show (((i : Nat) : Int) - 1) = ((i - 1 : Nat) : Int) by omega] at F
      obtain ⟨xb19,xo19,xa19,xr19⟩:=HS.out (i - 1) (by omega)
      refine F.x (i:=10) rfl (fun w'=>R_ixSlice (sz:=1) rfl ((F.at rfl).trans (xa19 _ _)) (F.at rfl) Try.underlying25 (by kernel_rfl) (by omega) (by omega)) (fun _=>eT) ?_ (hw:=(wantT F rfl rfl (by decide) rfl));clear F fa;intro fa F
      refine F.xr (i:=11) rfl (fun w' hS=>R_load rfl (F.at rfl) Try.underlying3 rfl (xr19 _ (E_.nil hS) 0 _ rfl)) (fun _=>eT) ?_ (hw:=(wantT F rfl rfl (by decide) rfl));clear F fa;intro fa F
      refine F.x (i:=12) rfl (fun w'=>R_leqB (b:=false) rfl (F.at rfl) (F.at rfl) (decide_eq_false ((by omega)))) (fun _=>eT) ?_ (hw:=(wantT F rfl rfl (by decide) rfl));clear F fa;intro fa F
      refine F.x (i:=13) rfl (fun w'=>R_pickT rfl (F.at rfl) (F.at rfl)) (fun _=>eT) ?_;clear F fa;intro fa F
      refine ax_done (by kernel_rfl) ?_ _
      clear eT q2_ E_
      have hgo : 0 < i → ls.getD (i - 1) 0 < ls.getD i 0:=fun _=>(by omega)
      refine hK14 _ _ ?_
      clear hK14
      refine cd_F F rfl ?_
      refine wp_skip ?_
      refine hK9 _ _ ?_
      clear hK9
      refine wp_region_lit ?_
      refine F.mv ?_;clear F fa;intro fa F
      refine F.vl (R_add rfl (F.at rfl) (ev_c fa _) (by omega) (by omega)) ?_;clear F fa;intro fa F
      refine F.as ?_;clear F fa;intro fa F
      refine wpList_nil ?_
      show _ ∧ _
      exact ⟨by omega,_,⟨rfl,E,q2,(hle.trans (lmp_go (by omega) ho hgo))⟩,F.sub (.c 5 rfl (.c 1 rfl (.c 2 rfl .n)))⟩
    ·skip
     refine region_x (Ext [] w4) none follows fun w7 hh eh=>?_
     have q2_:=q2
     replace q2:=keep_same hh q2
     have E_:=E
     have zEw7:=E.size
     replace E:=ext_same E eh
     have eT:=eh
     clear hh eh
     refine F.x (i:=0) rfl (fun w'=>R_move rfl (F.at rfl)) (fun _=>eT) ?_;clear F fa;intro fa F
     refine F.x (i:=1) rfl (fun w'=>R_gtrB (b:=false) rfl (F.at rfl) (ev_c fa _) (decide_eq_false ((by omega)))) (fun _=>eT) ?_;clear F fa;intro fa F
     refine F.x (i:=2) rfl (fun w'=>R_move rfl (F.at rfl)) (fun _=>eT) ?_;clear F fa;intro fa F
     refine ax_no (i:=3) F rfl rfl (by decide) (by kernel_rfl) (fun _ _ _ h=>h) (wantF F rfl rfl (by decide) rfl (by decide)) (fun _=>eT) ?_;clear F fa;intro fa F
     refine ax_no (i:=4) F rfl rfl (by decide) (by kernel_rfl) (fun _ _ _ h=>h) (wantF F rfl rfl (by decide) rfl (by decide)) (fun _=>eT) ?_;clear F fa;intro fa F
     refine ax_no (i:=5) F rfl rfl (by decide) (by kernel_rfl) (fun _ _ _ h=>h) (wantF F rfl rfl (by decide) rfl (by decide)) (fun _=>eT) ?_;clear F fa;intro fa F
     refine ax_no (i:=6) F rfl rfl (by decide) (by kernel_rfl) (fun _ _ _ h=>h) (wantF F rfl rfl (by decide) rfl (by decide)) (fun _=>eT) ?_;clear F fa;intro fa F
     refine ax_no (i:=7) F rfl rfl (by decide) (by kernel_rfl) (fun _ _ _ h=>h) (wantF F rfl rfl (by decide) rfl (by decide)) (fun _=>eT) ?_;clear F fa;intro fa F
     refine ax_no (i:=8) F rfl rfl (by decide) (by kernel_rfl) (fun _ _ _ h=>h) (wantF F rfl rfl (by decide) rfl (by decide)) (fun _=>eT) ?_;clear F fa;intro fa F
     refine ax_no (i:=9) F rfl rfl (by decide) (by kernel_rfl) (fun _ _ _ h=>h) (wantF F rfl rfl (by decide) rfl (by decide)) (fun _=>eT) ?_;clear F fa;intro fa F
     refine ax_no (i:=10) F rfl rfl (by decide) (by kernel_rfl) (fun _ _ _ h=>h) (wantF F rfl rfl (by decide) rfl (by decide)) (fun _=>eT) ?_;clear F fa;intro fa F
     refine ax_no (i:=11) F rfl rfl (by decide) (by kernel_rfl) (fun _ _ _ h=>h) (wantF F rfl rfl (by decide) rfl (by decide)) (fun _=>eT) ?_;clear F fa;intro fa F
     refine ax_no (i:=12) F rfl rfl (by decide) (by kernel_rfl) (fun _ _ _ h=>h) (wantF F rfl rfl (by decide) rfl (by decide)) (fun _=>eT) ?_;clear F fa;intro fa F
     refine F.x (i:=13) rfl (fun w'=>R_pickF rfl (F.at rfl) (ev_c fa _)) (fun _=>eT) ?_;clear F fa;intro fa F
     refine ax_done (by kernel_rfl) ?_ _
     clear eT q2_ E_
     have hgo : 0 < i → ls.getD (i - 1) 0 < ls.getD i 0:=fun h=>absurd h ci
     refine hK14 _ _ ?_
     clear hK14
     refine cd_F F rfl ?_
     refine wp_skip ?_
     refine hK9 _ _ ?_
     clear hK9
     refine wp_region_lit ?_
     refine F.mv ?_;clear F fa;intro fa F
     refine F.vl (R_add rfl (F.at rfl) (ev_c fa _) (by omega) (by omega)) ?_;clear F fa;intro fa F
     refine F.as ?_;clear F fa;intro fa F
     refine wpList_nil ?_
     show _ ∧ _
     exact ⟨by omega,_,⟨rfl,E,q2,(hle.trans (lmp_go (by omega) ho hgo))⟩,F.sub (.c 5 rfl (.c 1 rfl (.c 2 rfl .n)))⟩
  ·skip
   refine wp_exit ?_
   rw [List.drop_of_length_le (show ls.length ≤ i by omega)] at hle
   refine hK5 _ _ ?_
   clear hK5
   refine wp_seq_k fun K20 hK20=>?_
   refine wp_region_lit ?_
   refine F.vl (R_assign rfl (ev_c fa _)) ?_;clear F fa;intro fa F
   refine wpList_nil ?_
   refine hK20 _ _ ?_
   clear hK20
   refine wp_ret ?_
   (try simp only [Exit.inBlock,Exit.then,reduceIte])
   refine rt_v F (rs_1 F rfl rfl) ?_
   exact ⟨ret_int hle.symm,E⟩
set_option maxRecDepth 100000 in
theorem dStuffs_any (x : Vm) (hd : x.D.length ≤ 1000) (S : List (Value × List Int)) (hs : ∀ p ∈ S,p.2.length ≤ 1000) (hS : S.length ≤ 1000) (a : Option Addr) (c : Nat) (w : World) (h : LolAt w a S) :
  Calls Try.prog 78 #[.agg #[.int .i64 x.B,.slice x.da x.D.length x.dc,.slice x.la x.L.length x.lc,.int .i64 x.tol],.slice a S.length c] w fun e w'=>e = .returned (.int .i64 (stfE x (S.map (·.2)))) ∧ Ext [] w w':=by
 have E : Ext [] w w:=Ext.refl _ _
 have HA:=Lib.hid h
 have HS:=Lib.hid h.1
 have HO:=Lib.hid hs
 obtain ⟨er,her⟩ : ∃ er,er = stfE x (S.map (·.2)):=⟨_,rfl⟩
 rw [← her]
 unfold stfE at her
 rw [List.length_map] at her
 clear h hs
 refine calls_has 25 Try.func78 rfl Try.ntmps78 (Nat.le_of_ble_eq_true rfl) ?_
 intro fa F
 refine wp_seq_k fun K1 hK1=>?_
 refine wp_region_lit ?_
 refine sq_new F rfl (by decide) rfl (R_box rfl (F.at rfl)) ?_;clear F fa;intro fa w1 F hw
 obtain ⟨n2,hn⟩ : ∃ n,n = w.heap.size:=⟨_,rfl⟩
 rw [← hn] at F
 have s2 : w.heap.size ≤ n2:=Nat.le_of_eq hn.symm
 have l2_E : w.heap.size ≤ n2:=by rw [hn];exact E.size
 replace E:=ext_alloc E hw
 have q2:=new_row hw hn
 clear hw hn
 refine F.vl (R_assign rfl (ev_c fa _)) ?_;clear F fa;intro fa F
 refine wpList_nil ?_
 refine hK1 _ _ ?_
 clear hK1
 refine wp_seq_k fun K2 hK2=>?_
 refine wp_seq_k fun K3 hK3=>?_
 refine wp_region_lit ?_
 refine F.mv ?_;clear F fa;intro fa F
 refine F.vl (R_len rfl rfl (F.at rfl) Try.underlying22) ?_;clear F fa;intro fa F
 refine F.vl (R_gtr rfl (F.at rfl) (ev_c fa _)) ?_;clear F fa;intro fa F
 refine wpList_nil ?_
 refine hK3 _ _ ?_
 clear hK3
 refine cd_if F rfl (fun hc9=>?_) (fun hc9=>?_)
 ·skip
  rw [if_pos (by omega)] at her
  refine wp_seq_k fun K4 hK4=>?_
  refine wp_region_lit ?_
  refine F.vl (R_assign rfl (ev_c fa _)) ?_;clear F fa;intro fa F
  refine wpList_nil ?_
  refine hK4 _ _ ?_
  clear hK4
  refine wp_ret ?_
  (try simp only [Exit.inBlock,Exit.then,reduceIte])
  refine rt_v F (rs_1 F rfl rfl) ?_
  exact ⟨ret_int her.symm,E⟩
 ·skip
  rw [if_neg (by omega)] at her
  refine wp_skip ?_
  refine hK2 _ _ ?_
  clear hK2
  refine wp_seq_k fun K5 hK5=>?_
  refine wp_seq_k fun K6 hK6=>?_
  refine wp_region_lit ?_
  refine F.vl (R_assign rfl (ev_c fa _)) ?_;clear F fa;intro fa F
  refine wpList_nil ?_
  refine hK6 _ _ ?_
  clear hK6
  refine wp_block ?_
  have F0:=F.sub (.c 1 rfl (.c 2 rfl .n))
  refine lp_for F0 (S.length) (fun i Lv W=>Lv = [(5,.int .i64 ((i : Nat) : Int))] ∧ Ext [] w W ∧ W.heap[n2]? = some (.cells #[.int .i64 x.B,.slice x.da x.D.length x.dc,.slice x.la x.L.length x.lc,.int .i64 x.tol] 24 (0,0)) ∧ er = stfF x ((S.map (·.2)).drop i)) ⟨_,⟨rfl,E,q2,her⟩,F.sub (.c 5 rfl (.c 1 rfl (.c 2 rfl .n)))⟩ ?_
  clear F F0
  clear E q2
  rintro i _ fa w2 hi1 ⟨rfl,E,q2,hst⟩ F
  refine wp_seq_k fun K7 hK7=>?_
  refine wp_seq_k fun K8 hK8=>?_
  refine wp_region_lit ?_
  refine F.mv ?_;clear F fa;intro fa F
  refine F.mv ?_;clear F fa;intro fa F
  refine F.vl (R_len rfl rfl (F.at rfl) Try.underlying22) ?_;clear F fa;intro fa F
  refine F.vl (R_lss rfl (F.at rfl) (F.at rfl)) ?_;clear F fa;intro fa F
  refine wpList_nil ?_
  refine hK8 _ _ ?_
  clear hK8
  refine cd_if F rfl (fun hc13=>?_) (fun hc13=>?_)
  ·skip
   refine wp_skip ?_
   refine hK7 _ _ ?_
   clear hK7
   refine wp_seq_k fun K9 hK9=>?_
   refine wp_block ?_
   refine wp_seq_k fun K10 hK10=>?_
   obtain ⟨la,lca,hla,hlr⟩:=HA.out.2 _ (getD_mem (.bool true,[]) (show i < S.length by omega))
   have hlq:=HO.out _ (getD_mem (.bool true,[]) (show i < S.length by omega))
   refine region_x (Ext [] w2) none follows fun w3 hh eh=>?_
   have q2_:=q2
   replace q2:=keep_same hh q2
   have E_:=E
   have zEw3:=E.size
   replace E:=ext_same E eh
   have eT:=eh
   clear hh eh
   refine F.xr (i:=0) rfl (fun w' hS=>R_loadBlk rfl (F.at rfl) Try.underlying24 rfl (by kernel_rfl) (hS.keep q2_ (by simp))) (fun _=>eT) ?_;clear F fa;intro fa F
   refine F.x (i:=1) rfl (fun w'=>R_move rfl (F.at rfl)) (fun _=>eT) ?_;clear F fa;intro fa F
   refine F.x (i:=2) rfl (fun w'=>R_move rfl (F.at rfl)) (fun _=>eT) ?_;clear F fa;intro fa F
   obtain ⟨xb11,xo11,xa11,xr11⟩:=HS.out i (by omega)
   refine F.x (i:=3) rfl (fun w'=>R_ixSlice (sz:=1) rfl ((F.at rfl).trans (xa11 _ _)) (F.at rfl) Try.underlying22 (by kernel_rfl) (by omega) (by omega)) (fun _=>eT) ?_;clear F fa;intro fa F
   refine F.xr (i:=4) rfl (fun w' hS=>R_load rfl (F.at rfl) Try.underlying25 rfl (xr11 _ (E_.nil hS) 0 _ rfl)) (fun _=>eT) ?_;clear F fa;intro fa F
   rw [hla] at F
   refine ax_only (i:=5) (by kernel_rfl) (op_call F rfl rfl (by decide) rfl (R_callV rfl rfl Try.call64 (mpS (F.at rfl) (mpS (F.at rfl) mp0))) (dRecipe_any x hd (S.getD i (.bool true,[])).2 hlq la lca _ (hlr.ext E (by simp))) fun e w4 hR=>?_)
   obtain ⟨rfl,e9⟩:=hR
   refine ⟨_,rfl,?_⟩;clear F fa;intro fa F
   replace q2:=(e9).keep0 q2
   replace E:=ext_same E (e9)
   replace eT:=ext_same eT (e9)
   clear e9
   refine ⟨fun _=>eT,?_⟩
   refine F.x (i:=6) rfl (fun w'=>R_assign rfl (F.at rfl)) (fun _=>eT) ?_;clear F fa;intro fa F
   refine ax_done (by kernel_rfl) ?_ _
   clear eT q2_ E_
   refine hK10 _ _ ?_
   clear hK10
   refine wp_seq_k fun K12 hK12=>?_
   refine wp_region_lit ?_
   refine F.mv ?_;clear F fa;intro fa F
   refine F.vl (R_neqD rfl (F.at rfl) (ev_c fa _)) ?_;clear F fa;intro fa F
   refine wpList_nil ?_
   refine hK12 _ _ ?_
   clear hK12
   refine cd_if F rfl (fun hc23=>?_) (fun hc23=>?_)
   ·skip
    refine wp_seq_k fun K13 hK13=>?_
    refine wp_region_lit ?_
    refine F.mv ?_;clear F fa;intro fa F
    refine F.as ?_;clear F fa;intro fa F
    refine wpList_nil ?_
    refine hK13 _ _ ?_
    clear hK13
    refine wp_ret ?_
    (try simp only [Exit.inBlock,Exit.then,reduceIte])
    refine rt_v F (rs_1 F rfl rfl) ?_
    exact ⟨ret_int (by rw [hst,stf_bad (by rw [List.length_map];omega) (by rw [key_getD S (by omega)];exact hc23),key_getD S (by omega)]),E⟩
   ·skip
    refine wp_skip ?_
    refine hK9 _ _ ?_
    clear hK9
    refine wp_region_lit ?_
    refine F.mv ?_;clear F fa;intro fa F
    refine F.vl (R_add rfl (F.at rfl) (ev_c fa _) (by omega) (by omega)) ?_;clear F fa;intro fa F
    refine F.as ?_;clear F fa;intro fa F
    refine wpList_nil ?_
    show _ ∧ _
    exact ⟨by omega,_,⟨rfl,E,q2,(hst.trans (stf_go (by rw [List.length_map];omega) (by rw [key_getD S (by omega)];omega)))⟩,F.sub (.c 5 rfl (.c 1 rfl (.c 2 rfl .n)))⟩
  ·skip
   refine wp_exit ?_
   rw [List.drop_of_length_le (show (S.map (·.2)).length ≤ i by rw [List.length_map];omega)] at hst
   refine hK5 _ _ ?_
   clear hK5
   refine wp_seq_k fun K14 hK14=>?_
   refine wp_region_lit ?_
   refine F.vl (R_assign rfl (ev_c fa _)) ?_;clear F fa;intro fa F
   refine wpList_nil ?_
   refine hK14 _ _ ?_
   clear hK14
   refine wp_ret ?_
   (try simp only [Exit.inBlock,Exit.then,reduceIte])
   refine rt_v F (rs_1 F rfl rfl) ?_
   exact ⟨ret_int hst.symm,E⟩
end Go.Proofs.Ytdjeecgddbjbeaa
