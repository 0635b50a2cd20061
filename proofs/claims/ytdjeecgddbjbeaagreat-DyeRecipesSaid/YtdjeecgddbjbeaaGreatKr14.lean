/- Parts of a proof: Dcy, Dcz, Dda, Ddc, Dsv. No conditions. -/
import Derived.Test.YtdjeecgddbjbeaaGreatKr9
import Derived.Test.YtdjeecgddbjbeaaGreatKr10
import Derived.Test.YtdjeecgddbjbeaaGreatKr11
import Derived.Test.YtdjeecgddbjbeaaGreatKr12
import Derived.Test.YtdjeecgddbjbeaaGreatKr13
set_option linter.unusedVariables false
set_option linter.unusedSimpArgs false
namespace Go.Proofs.YtdjeecgddbjbeaaGreat
open Go.RowKit
theorem cnt_bd {l : List Int} {m h : Int} (e : cntE l m h = 0) : (l.length : Int) = m ∧ ∀ n ∈ l,0 ≤ n ∧ n ≤ h:=by
 have hl : (l.length : Int) = m:=by
  apply Classical.byContradiction
  intro hne
  rcases Int.lt_or_gt_of_ne hne with h1 | h1
  ·rw [cnt_few h1] at e;omega
  ·rw [cnt_many h1] at e;omega
 rw [cnt_num hl] at e
 exact numE_zero e
set_option maxRecDepth 100000 in
theorem dLamps_any (x : Vm) (hl3 : x.L.length ≤ 1000) (ls : List Int) (hll : ls.length ≤ 1000) (a : Option Addr) (c : Nat) (w : World) (hr : IsRows w (.slice a ls.length c) 1 (ls.map intRow)) :
  Calls Tryz.prog 79 #[.agg #[.int .i64 x.B,.slice x.da x.D.length x.dc,.slice x.la x.L.length x.lc,.int .i64 x.tol],.slice a ls.length c] w fun e w'=>e = .returned (.int .i64 (lmpE x ls)) ∧ Ext [] w w':=by
 have E : Ext [] w w:=Ext.refl _ _
 have HS:=Lib.hid (slAt_of_rows hr 0)
 clear hr
 obtain ⟨hi,hhi⟩ : ∃ hi,hi = ((x.L.length : Nat) : Int) - 1:=⟨_,rfl⟩
 have hle : lmpE x ls = if ls.length = 0 then 7 else lmpF hi none ls:=by rw [hhi];rfl
 refine calls_has 39 Tryz.func79 rfl Tryz.ntmps79 (Nat.le_of_ble_eq_true rfl) ?_
 intro fa F
 refine wp_seq_k fun K1 hK1=>?_
 refine wp_region_lit ?_
 refine sq_new F rfl (by decide) rfl (R_box rfl (F.at rfl)) ?_;clear F fa;intro fa w1 F hw
 obtain ⟨n2,hn⟩ : ∃ n,n = w.heap.size:=⟨_,rfl⟩
 rw [← hn] at F
 have s2 : w.heap.size ≤ n2:=Nat.le_of_eq hn.symm
 have l2_E : w.heap.size ≤ n2:=by rw [hn];exact E.size
 replace E:=ext_alloc E hw
 have q2:=new_row hw hn
 clear hw hn
 refine F.vl (R_assign rfl (ev_c fa _)) ?_;clear F fa;intro fa F
 refine wpList_nil ?_
 refine hK1 _ _ ?_
 clear hK1
 refine wp_seq_k fun K2 hK2=>?_
 refine wp_seq_k fun K3 hK3=>?_
 refine wp_region_lit ?_
 refine F.mv ?_;clear F fa;intro fa F
 refine F.vl (R_len rfl rfl (F.at rfl) Tryz.underlying25) ?_;clear F fa;intro fa F
 refine F.vl (R_eqlD rfl (F.at rfl) (ev_c fa _)) ?_;clear F fa;intro fa F
 refine wpList_nil ?_
 refine hK3 _ _ ?_
 clear hK3
 refine cd_if F rfl (fun hc8=>?_) (fun hc8=>?_)
 ·skip
  rw [if_pos (by omega)] at hle
  refine wp_seq_k fun K4 hK4=>?_
  refine wp_region_lit ?_
  refine F.vl (R_assign rfl (ev_c fa _)) ?_;clear F fa;intro fa F
  refine wpList_nil ?_
  refine hK4 _ _ ?_
  clear hK4
  refine wp_ret ?_
  (try simp only [Exit.inBlock,Exit.then,reduceIte])
  refine rt_v F (rs_1 F rfl rfl) ?_
  exact ⟨ret_int hle.symm,E⟩
 ·skip
  rw [if_neg (by omega)] at hle
  refine wp_skip ?_
  refine hK2 _ _ ?_
  clear hK2
  refine wp_seq_k fun K5 hK5=>?_
  refine wp_seq_k fun K6 hK6=>?_
  refine wp_region_lit ?_
  refine F.vl (R_assign rfl (ev_c fa _)) ?_;clear F fa;intro fa F
  refine wpList_nil ?_
  refine hK6 _ _ ?_
  clear hK6
  refine wp_block ?_
  have F0:=F.sub (.c 1 rfl (.c 2 rfl .n))
  refine lp_for F0 (ls.length) (fun i Lv W=>Lv = [(5,.int .i64 ((i : Nat) : Int))] ∧ Ext [] w W ∧ W.heap[n2]? = some (.cells #[.int .i64 x.B,.slice x.da x.D.length x.dc,.slice x.la x.L.length x.lc,.int .i64 x.tol] 24 (0,0)) ∧ lmpE x ls = lmpF hi (prevO ls i) (ls.drop i)) ⟨_,⟨rfl,E,q2,hle⟩,F.sub (.c 5 rfl (.c 1 rfl (.c 2 rfl .n)))⟩ ?_
  clear F F0
  clear E q2
  rintro i _ fa w2 hi1 ⟨rfl,E,q2,hle⟩ F
  refine wp_seq_k fun K7 hK7=>?_
  refine wp_seq_k fun K8 hK8=>?_
  refine wp_region_lit ?_
  refine F.mv ?_;clear F fa;intro fa F
  refine F.mv ?_;clear F fa;intro fa F
  refine F.vl (R_len rfl rfl (F.at rfl) Tryz.underlying25) ?_;clear F fa;intro fa F
  refine F.vl (R_lss rfl (F.at rfl) (F.at rfl)) ?_;clear F fa;intro fa F
  refine wpList_nil ?_
  refine hK8 _ _ ?_
  clear hK8
  refine cd_if F rfl (fun hc12=>?_) (fun hc12=>?_)
  ·skip
   refine wp_skip ?_
   refine hK7 _ _ ?_
   clear hK7
   refine wp_seq_k fun K9 hK9=>?_
   refine wp_block ?_
   refine wp_seq_k fun K10 hK10=>?_
   refine wp_seq_k fun K11 hK11=>?_
   refine region_x (Ext [] w2) none follows fun w3 hh eh=>?_
   have q2_:=q2
   replace q2:=keep_same hh q2
   have E_:=E
   have zEw3:=E.size
   replace E:=ext_same E eh
   have eT:=eh
   clear hh eh
   refine F.x (i:=0) rfl (fun w'=>R_move rfl (F.at rfl)) (fun _=>eT) ?_;clear F fa;intro fa F
   refine F.x (i:=1) rfl (fun w'=>R_move rfl (F.at rfl)) (fun _=>eT) ?_;clear F fa;intro fa F
   obtain ⟨xb12,xo12,xa12,xr12⟩:=HS.out i (by omega)
   refine F.x (i:=2) rfl (fun w'=>R_ixSlice (sz:=1) rfl ((F.at rfl).trans (xa12 _ _)) (F.at rfl) Tryz.underlying25 (by kernel_rfl) (by omega) (by omega)) (fun _=>eT) ?_;clear F fa;intro fa F
   refine F.xr (i:=3) rfl (fun w' hS=>R_load rfl (F.at rfl) Tryz.underlying3 rfl (xr12 _ (E_.nil hS) 0 _ rfl)) (fun _=>eT) ?_;clear F fa;intro fa F
   refine F.x (i:=4) rfl (fun w'=>R_field rfl (F.at rfl) Tryz.underlying24 rfl (n:=2) (sz:=1) rfl (by kernel_rfl) (by decide)) (fun _=>eT) ?_;clear F fa;intro fa F
   refine F.xr (i:=5) rfl (fun w' hS=>R_load rfl (F.at rfl) Tryz.underlying22 rfl ((cells_of_block (hS.keep q2_ (by simp)) 2).trans (getS (getS (get0))))) (fun _=>eT) ?_;clear F fa;intro fa F
   refine F.x (i:=6) rfl (fun w'=>R_len rfl rfl (F.at rfl) Tryz.underlying22) (fun _=>eT) ?_;clear F fa;intro fa F
   refine F.x (i:=7) rfl (fun w'=>R_sub rfl (F.at rfl) (ev_c fa _) (by omega) (by omega)) (fun _=>eT) ?_;clear F fa;intro fa F
   refine ax_only (i:=8) (by kernel_rfl) (op_call F rfl rfl (by decide) rfl (R_callV rfl rfl Tryz.call93 (mpS (F.at rfl) (mpS (ev_c fa _) (mpS (F.at rfl) mp0)))) (dInside_any (ls.getD i 0) 0 (((x.L.length : Nat) : Int) - 1) _) fun e w4 hR=>?_)
   obtain ⟨rfl,e9⟩:=hR
   refine ⟨_,rfl,?_⟩;clear F fa;intro fa F
   replace q2:=(e9).keep0 q2
   replace E:=ext_same E (e9)
   replace eT:=ext_same eT (e9)
   clear e9
   refine ⟨fun _=>eT,?_⟩
   refine F.x (i:=9) rfl (fun w'=>R_not rfl (F.at rfl)) (fun _=>eT) ?_;clear F fa;intro fa F
   refine ax_done (by kernel_rfl) ?_ _
   clear eT q2_ E_
   refine hK11 _ _ ?_
   clear hK11
   refine cd_b F rfl (fun hc24=>?_) (fun hc24=>?_)
   ·skip
    have ho : outB (ls.getD i 0) 0 hi = true:=by rw [hhi];simpa using hc24
    refine wp_seq_k fun K13 hK13=>?_
    refine wp_region_lit ?_
    refine F.vl (R_assign rfl (ev_c fa _)) ?_;clear F fa;intro fa F
    refine wpList_nil ?_
    refine hK13 _ _ ?_
    clear hK13
    refine wp_ret ?_
    (try simp only [Exit.inBlock,Exit.then,reduceIte])
    refine rt_v F (rs_1 F rfl rfl) ?_
    exact ⟨ret_int (hle.trans (lmp_out (by omega) ho)).symm,E⟩
   ·skip
    have ho : outB (ls.getD i 0) 0 hi = false:=by rw [hhi];simpa using hc24
    refine wp_skip ?_
    refine hK10 _ _ ?_
    clear hK10
    refine wp_seq_k fun K14 hK14=>?_
    by_cases ci : 0 < i
    ·skip
     by_cases cj : ls.getD i 0 ≤ ls.getD (i - 1) 0
     ·skip
      refine region_x (Ext [] w4) none follows fun w5 hh eh=>?_
      have q2_:=q2
      replace q2:=keep_same hh q2
      have E_:=E
      have zEw5:=E.size
      replace E:=ext_same E eh
      have eT:=eh
      clear hh eh
      refine F.x (i:=0) rfl (fun w'=>R_move rfl (F.at rfl)) (fun _=>eT) ?_;clear F fa;intro fa F
      refine F.x (i:=1) rfl (fun w'=>R_gtrB (b:=true) rfl (F.at rfl) (ev_c fa _) (decide_eq_true ((by omega)))) (fun _=>eT) ?_;clear F fa;intro fa F
      refine F.x (i:=2) rfl (fun w'=>R_move rfl (F.at rfl)) (fun _=>eT) ?_;clear F fa;intro fa F
      refine F.x (i:=3) rfl (fun w'=>R_move rfl (F.at rfl)) (fun _=>eT) ?_ (hw:=(wantT F rfl rfl (by decide) rfl));clear F fa;intro fa F
      refine F.x (i:=4) rfl (fun w'=>R_move rfl (F.at rfl)) (fun _=>eT) ?_ (hw:=(wantT F rfl rfl (by decide) rfl));clear F fa;intro fa F
      obtain ⟨xb15,xo15,xa15,xr15⟩:=HS.out i (by omega)
      refine F.x (i:=5) rfl (fun w'=>R_ixSlice (sz:=1) rfl ((F.at rfl).trans (xa15 _ _)) (F.at rfl) Tryz.underlying25 (by kernel_rfl) (by omega) (by omega)) (fun _=>eT) ?_ (hw:=(wantT F rfl rfl (by decide) rfl));clear F fa;intro fa F
      refine F.xr (i:=6) rfl (fun w' hS=>R_load rfl (F.at rfl) Tryz.underlying3 rfl (xr15 _ (E_.nil hS) 0 _ rfl)) (fun _=>eT) ?_ (hw:=(wantT F rfl rfl (by decide) rfl));clear F fa;intro fa F
      refine F.x (i:=7) rfl (fun w'=>R_move rfl (F.at rfl)) (fun _=>eT) ?_ (hw:=(wantT F rfl rfl (by decide) rfl));clear F fa;intro fa F
      refine F.x (i:=8) rfl (fun w'=>R_move rfl (F.at rfl)) (fun _=>eT) ?_ (hw:=(wantT F rfl rfl (by decide) rfl));clear F fa;intro fa F
      refine F.x (i:=9) rfl (fun w'=>R_sub rfl (F.at rfl) (ev_c fa _) (by omega) (by omega)) (fun _=>eT) ?_ (hw:=(wantT F rfl rfl (by decide) rfl));clear F fa;intro fa F
      rw [show (((i : Nat) : Int) - 1) = ((i - 1 : Nat) : Int) by omega] at F
      obtain ⟨xb16,xo16,xa16,xr16⟩:=HS.out (i - 1) (by omega)
      refine F.x (i:=10) rfl (fun w'=>R_ixSlice (sz:=1) rfl ((F.at rfl).trans (xa16 _ _)) (F.at rfl) Tryz.underlying25 (by kernel_rfl) (by omega) (by omega)) (fun _=>eT) ?_ (hw:=(wantT F rfl rfl (by decide) rfl));clear F fa;intro fa F
      refine F.xr (i:=11) rfl (fun w' hS=>R_load rfl (F.at rfl) Tryz.underlying3 rfl (xr16 _ (E_.nil hS) 0 _ rfl)) (fun _=>eT) ?_ (hw:=(wantT F rfl rfl (by decide) rfl));clear F fa;intro fa F
      refine F.x (i:=12) rfl (fun w'=>R_leqB (b:=true) rfl (F.at rfl) (F.at rfl) (decide_eq_true ((by omega)))) (fun _=>eT) ?_ (hw:=(wantT F rfl rfl (by decide) rfl));clear F fa;intro fa F
      refine F.x (i:=13) rfl (fun w'=>R_pickT rfl (F.at rfl) (F.at rfl)) (fun _=>eT) ?_;clear F fa;intro fa F
      refine ax_done (by kernel_rfl) ?_ _
      clear eT q2_ E_
      refine hK14 _ _ ?_
      clear hK14
      refine cd_T F rfl ?_
      refine wp_seq_k fun K17 hK17=>?_
      refine wp_region_lit ?_
      refine F.vl (R_assign rfl (ev_c fa _)) ?_;clear F fa;intro fa F
      refine wpList_nil ?_
      refine hK17 _ _ ?_
      clear hK17
      refine wp_ret ?_
      (try simp only [Exit.inBlock,Exit.then,reduceIte])
      refine rt_v F (rs_1 F rfl rfl) ?_
      exact ⟨ret_int (hle.trans (lmp_ord (by omega) ho ci cj)).symm,E⟩
     ·skip
      refine region_x (Ext [] w4) none follows fun w6 hh eh=>?_
      have q2_:=q2
      replace q2:=keep_same hh q2
      have E_:=E
      have zEw6:=E.size
      replace E:=ext_same E eh
      have eT:=eh
      clear hh eh
      refine F.x (i:=0) rfl (fun w'=>R_move rfl (F.at rfl)) (fun _=>eT) ?_;clear F fa;intro fa F
      refine F.x (i:=1) rfl (fun w'=>R_gtrB (b:=true) rfl (F.at rfl) (ev_c fa _) (decide_eq_true ((by omega)))) (fun _=>eT) ?_;clear F fa;intro fa F
      refine F.x (i:=2) rfl (fun w'=>R_move rfl (F.at rfl)) (fun _=>eT) ?_;clear F fa;intro fa F
      refine F.x (i:=3) rfl (fun w'=>R_move rfl (F.at rfl)) (fun _=>eT) ?_ (hw:=(wantT F rfl rfl (by decide) rfl));clear F fa;intro fa F
      refine F.x (i:=4) rfl (fun w'=>R_move rfl (F.at rfl)) (fun _=>eT) ?_ (hw:=(wantT F rfl rfl (by decide) rfl));clear F fa;intro fa F
      obtain ⟨xb18,xo18,xa18,xr18⟩:=HS.out i (by omega)
      refine F.x (i:=5) rfl (fun w'=>R_ixSlice (sz:=1) rfl ((F.at rfl).trans (xa18 _ _)) (F.at rfl) Tryz.underlying25 (by kernel_rfl) (by omega) (by omega)) (fun _=>eT) ?_ (hw:=(wantT F rfl rfl (by decide) rfl));clear F fa;intro fa F
      refine F.xr (i:=6) rfl (fun w' hS=>R_load rfl (F.at rfl) Tryz.underlying3 rfl (xr18 _ (E_.nil hS) 0 _ rfl)) (fun _=>eT) ?_ (hw:=(wantT F rfl rfl (by decide) rfl));clear F fa;intro fa F
      refine F.x (i:=7) rfl (fun w'=>R_move rfl (F.at rfl)) (fun _=>eT) ?_ (hw:=(wantT F rfl rfl (by decide) rfl));clear F fa;intro fa F
      refine F.x (i:=8) rfl (fun w'=>R_move rfl (F.at rfl)) (fun _=>eT) ?_ (hw:=(wantT F rfl rfl (by decide) rfl));clear F fa;intro fa F
      refine F.x (i:=9) rfl (fun w'=>R_sub rfl (F.at rfl) (ev_c fa _) (by omega) (by omega)) (fun _=>eT) ?_ (hw:=(wantT F rfl rfl (by decide) rfl));clear F fa;intro fa F
      rw [show (((i : Nat) : Int) - 1) = ((i - 1 : Nat) : Int) by omega] at F
      obtain ⟨xb19,xo19,xa19,xr19⟩:=HS.out (i - 1) (by omega)
      refine F.x (i:=10) rfl (fun w'=>R_ixSlice (sz:=1) rfl ((F.at rfl).trans (xa19 _ _)) (F.at rfl) Tryz.underlying25 (by kernel_rfl) (by omega) (by omega)) (fun _=>eT) ?_ (hw:=(wantT F rfl rfl (by decide) rfl));clear F fa;intro fa F
      refine F.xr (i:=11) rfl (fun w' hS=>R_load rfl (F.at rfl) Tryz.underlying3 rfl (xr19 _ (E_.nil hS) 0 _ rfl)) (fun _=>eT) ?_ (hw:=(wantT F rfl rfl (by decide) rfl));clear F fa;intro fa F
      refine F.x (i:=12) rfl (fun w'=>R_leqB (b:=false) rfl (F.at rfl) (F.at rfl) (decide_eq_false ((by omega)))) (fun _=>eT) ?_ (hw:=(wantT F rfl rfl (by decide) rfl));clear F fa;intro fa F
      refine F.x (i:=13) rfl (fun w'=>R_pickT rfl (F.at rfl) (F.at rfl)) (fun _=>eT) ?_;clear F fa;intro fa F
      refine ax_done (by kernel_rfl) ?_ _
      clear eT q2_ E_
      have hgo : 0 < i → ls.getD (i - 1) 0 < ls.getD i 0:=fun _=>(by omega)
      refine hK14 _ _ ?_
      clear hK14
      refine cd_F F rfl ?_
      refine wp_skip ?_
      refine hK9 _ _ ?_
      clear hK9
      refine wp_region_lit ?_
      refine F.mv ?_;clear F fa;intro fa F
      refine F.vl (R_add rfl (F.at rfl) (ev_c fa _) (by omega) (by omega)) ?_;clear F fa;intro fa F
      refine F.as ?_;clear F fa;intro fa F
      refine wpList_nil ?_
      show _ ∧ _
      exact ⟨by omega,_,⟨rfl,E,q2,(hle.trans (lmp_go (by omega) ho hgo))⟩,F.sub (.c 5 rfl (.c 1 rfl (.c 2 rfl .n)))⟩
    ·skip
     refine region_x (Ext [] w4) none follows fun w7 hh eh=>?_
     have q2_:=q2
     replace q2:=keep_same hh q2
     have E_:=E
     have zEw7:=E.size
     replace E:=ext_same E eh
     have eT:=eh
     clear hh eh
     refine F.x (i:=0) rfl (fun w'=>R_move rfl (F.at rfl)) (fun _=>eT) ?_;clear F fa;intro fa F
     refine F.x (i:=1) rfl (fun w'=>R_gtrB (b:=false) rfl (F.at rfl) (ev_c fa _) (decide_eq_false ((by omega)))) (fun _=>eT) ?_;clear F fa;intro fa F
     refine F.x (i:=2) rfl (fun w'=>R_move rfl (F.at rfl)) (fun _=>eT) ?_;clear F fa;intro fa F
     refine ax_no (i:=3) F rfl rfl (by decide) (by kernel_rfl) (fun _ _ _ h=>h) (wantF F rfl rfl (by decide) rfl (by decide)) (fun _=>eT) ?_;clear F fa;intro fa F
     refine ax_no (i:=4) F rfl rfl (by decide) (by kernel_rfl) (fun _ _ _ h=>h) (wantF F rfl rfl (by decide) rfl (by decide)) (fun _=>eT) ?_;clear F fa;intro fa F
     refine ax_no (i:=5) F rfl rfl (by decide) (by kernel_rfl) (fun _ _ _ h=>h) (wantF F rfl rfl (by decide) rfl (by decide)) (fun _=>eT) ?_;clear F fa;intro fa F
     refine ax_no (i:=6) F rfl rfl (by decide) (by kernel_rfl) (fun _ _ _ h=>h) (wantF F rfl rfl (by decide) rfl (by decide)) (fun _=>eT) ?_;clear F fa;intro fa F
     refine ax_no (i:=7) F rfl rfl (by decide) (by kernel_rfl) (fun _ _ _ h=>h) (wantF F rfl rfl (by decide) rfl (by decide)) (fun _=>eT) ?_;clear F fa;intro fa F
     refine ax_no (i:=8) F rfl rfl (by decide) (by kernel_rfl) (fun _ _ _ h=>h) (wantF F rfl rfl (by decide) rfl (by decide)) (fun _=>eT) ?_;clear F fa;intro fa F
     refine ax_no (i:=9) F rfl rfl (by decide) (by kernel_rfl) (fun _ _ _ h=>h) (wantF F rfl rfl (by decide) rfl (by decide)) (fun _=>eT) ?_;clear F fa;intro fa F
     refine ax_no (i:=10) F rfl rfl (by decide) (by kernel_rfl) (fun _ _ _ h=>h) (wantF F rfl rfl (by decide) rfl (by decide)) (fun _=>eT) ?_;clear F fa;intro fa F
     refine ax_no (i:=11) F rfl rfl (by decide) (by kernel_rfl) (fun _ _ _ h=>h) (wantF F rfl rfl (by decide) rfl (by decide)) (fun _=>eT) ?_;clear F fa;intro fa F
     refine ax_no (i:=12) F rfl rfl (by decide) (by kernel_rfl) (fun _ _ _ h=>h) (wantF F rfl rfl (by decide) rfl (by decide)) (fun _=>eT) ?_;clear F fa;intro fa F
     refine F.x (i:=13) rfl (fun w'=>R_pickF rfl (F.at rfl) (ev_c fa _)) (fun _=>eT) ?_;clear F fa;intro fa F
     refine ax_done (by kernel_rfl) ?_ _
     clear eT q2_ E_
     have hgo : 0 < i → ls.getD (i - 1) 0 < ls.getD i 0:=fun h=>absurd h ci
     refine hK14 _ _ ?_
     clear hK14
     refine cd_F F rfl ?_
     refine wp_skip ?_
     refine hK9 _ _ ?_
     clear hK9
     refine wp_region_lit ?_
     refine F.mv ?_;clear F fa;intro fa F
     refine F.vl (R_add rfl (F.at rfl) (ev_c fa _) (by omega) (by omega)) ?_;clear F fa;intro fa F
     refine F.as ?_;clear F fa;intro fa F
     refine wpList_nil ?_
     show _ ∧ _
     exact ⟨by omega,_,⟨rfl,E,q2,(hle.trans (lmp_go (by omega) ho hgo))⟩,F.sub (.c 5 rfl (.c 1 rfl (.c 2 rfl .n)))⟩
  ·skip
   refine wp_exit ?_
   rw [List.drop_of_length_le (show ls.length ≤ i by omega)] at hle
   refine hK5 _ _ ?_
   clear hK5
   refine wp_seq_k fun K20 hK20=>?_
   refine wp_region_lit ?_
   refine F.vl (R_assign rfl (ev_c fa _)) ?_;clear F fa;intro fa F
   refine wpList_nil ?_
   refine hK20 _ _ ?_
   clear hK20
   refine wp_ret ?_
   (try simp only [Exit.inBlock,Exit.then,reduceIte])
   refine rt_v F (rs_1 F rfl rfl) ?_
   exact ⟨ret_int hle.symm,E⟩
set_option maxRecDepth 100000 in
theorem dAsked_any (x : Vm) (sd : SmallL x.D) (sl : SmallL x.L) (s : List Int) (hs : s.length ≤ 1000) (ls : List Int) (hl : ls.length ≤ 1000) (a b : Option Addr) (c d : Nat) (w : World) (h : x.At w) (hr : IsRows w (.slice a s.length c) 1 (s.map intRow)) (hq : IsRows w (.slice b ls.length d) 1 (ls.map intRow)) :
  Calls Tryz.prog 45 #[.agg #[.int .i64 x.B,.slice x.da x.D.length x.dc,.slice x.la x.L.length x.lc,.int .i64 x.tol],.slice a s.length c,.slice b ls.length d] w fun e w'=>e = .returned (.int .i64 (askE x s ls)) ∧ Ext [] w w':=by
 have E : Ext [] w w:=Ext.refl _ _
 have HX:=Lib.hid h
 have HR:=Lib.hid hr
 have HQ:=Lib.hid hq
 obtain ⟨er,her⟩ : ∃ er,er = askE x s ls:=⟨_,rfl⟩
 rw [← her]
 unfold askE at her
 clear h hr hq
 obtain ⟨e1,he1⟩ : ∃ e1,e1 = x.err:=⟨_,rfl⟩
 rw [← he1] at her
 refine calls_has 24 Tryz.func45 rfl Tryz.ntmps45 (Nat.le_of_ble_eq_true rfl) ?_
 intro fa F
 refine wp_seq_k fun K1 hK1=>?_
 refine wp_region_lit ?_
 refine sq_new F rfl (by decide) rfl (R_box rfl (F.at rfl)) ?_;clear F fa;intro fa w1 F hw
 obtain ⟨n3,hn⟩ : ∃ n,n = w.heap.size:=⟨_,rfl⟩
 rw [← hn] at F
 have s3 : w.heap.size ≤ n3:=Nat.le_of_eq hn.symm
 have l3_E : w.heap.size ≤ n3:=by rw [hn];exact E.size
 replace E:=ext_alloc E hw
 have q3:=new_row hw hn
 clear hw hn
 refine F.vl (R_assign rfl (ev_c fa _)) ?_;clear F fa;intro fa F
 refine wpList_nil ?_
 refine hK1 _ _ ?_
 clear hK1
 refine wp_seq_k fun K2 hK2=>?_
 refine wp_seq_k fun K3 hK3=>?_
 refine wp_region_lit ?_
 refine F.vl (R_loadBlk rfl (F.at rfl) Tryz.underlying24 rfl (by kernel_rfl) q3) ?_;clear F fa;intro fa F
 refine sq_call F rfl (by decide) rfl (R_callV rfl rfl Tryz.call77 (mpS (F.at rfl) mp0)) (dCheck_any x _ (HX.out.ext E) sd sl) fun e w2 hR=>?_
 obtain ⟨rfl,e9⟩:=hR
 refine ⟨_,rfl,?_⟩;clear F fa;intro fa F
 replace q3:=(e9).keep0 q3
 replace E:=ext_same E (e9)
 clear e9
 rw [show chkE x.B (x.D.map (·.2)) (x.L.map (·.2)) x.tol = e1 from he1.symm] at F
 refine F.as ?_;clear F fa;intro fa F
 refine wpList_nil ?_
 refine hK3 _ _ ?_
 clear hK3
 refine wp_seq_k fun K4 hK4=>?_
 refine wp_region_lit ?_
 refine F.mv ?_;clear F fa;intro fa F
 refine F.vl (R_neqD rfl (F.at rfl) (ev_c fa _)) ?_;clear F fa;intro fa F
 refine wpList_nil ?_
 refine hK4 _ _ ?_
 clear hK4
 refine cd_if F rfl (fun hc12=>?_) (fun hc12=>?_)
 ·skip
  rw [if_pos hc12] at her
  refine wp_seq_k fun K5 hK5=>?_
  refine wp_region_lit ?_
  refine F.mv ?_;clear F fa;intro fa F
  refine F.as ?_;clear F fa;intro fa F
  refine wpList_nil ?_
  refine hK5 _ _ ?_
  clear hK5
  refine wp_ret ?_
  (try simp only [Exit.inBlock,Exit.then,reduceIte])
  refine rt_v F (rs_1 F rfl rfl) ?_
  exact ⟨ret_int her.symm,E⟩
 ·skip
  rw [if_neg hc12] at her
  refine wp_skip ?_
  refine hK2 _ _ ?_
  clear hK2
  refine wp_seq_k fun K6 hK6=>?_
  refine wp_seq_k fun K7 hK7=>?_
  refine wp_region_lit ?_
  refine F.mv ?_;clear F fa;intro fa F
  refine F.vl (R_field rfl (F.at rfl) Tryz.underlying24 rfl (n:=0) (sz:=1) rfl (by kernel_rfl) (by decide)) ?_;clear F fa;intro fa F
  refine F.vl (R_load rfl (F.at rfl) Tryz.underlying3 rfl ((cells_of_block q3 0).trans (get0))) ?_;clear F fa;intro fa F
  refine sq_call F rfl (by decide) rfl (R_callV rfl rfl Tryz.call78 (mpS (F.at rfl) (mpS (F.at rfl) (mpS (ev_c fa _) mp0)))) (dCounted_any s x.B 9 a c _ (HR.out.ext E (by simp)) hs) fun e w3 hR=>?_
  obtain ⟨rfl,e9⟩:=hR
  refine ⟨_,rfl,?_⟩;clear F fa;intro fa F
  replace q3:=(e9).keep0 q3
  replace E:=ext_same E (e9)
  clear e9
  refine F.as ?_;clear F fa;intro fa F
  refine wpList_nil ?_
  refine hK7 _ _ ?_
  clear hK7
  refine wp_seq_k fun K8 hK8=>?_
  refine wp_region_lit ?_
  refine F.mv ?_;clear F fa;intro fa F
  refine F.vl (R_neqD rfl (F.at rfl) (ev_c fa _)) ?_;clear F fa;intro fa F
  refine wpList_nil ?_
  refine hK8 _ _ ?_
  clear hK8
  refine cd_if F rfl (fun hc19=>?_) (fun hc19=>?_)
  ·skip
   rw [if_pos hc19] at her
   refine wp_seq_k fun K9 hK9=>?_
   refine wp_region_lit ?_
   refine F.mv ?_;clear F fa;intro fa F
   refine F.as ?_;clear F fa;intro fa F
   refine wpList_nil ?_
   refine hK9 _ _ ?_
   clear hK9
   refine wp_ret ?_
   (try simp only [Exit.inBlock,Exit.then,reduceIte])
   refine rt_v F (rs_1 F rfl rfl) ?_
   exact ⟨ret_int her.symm,E⟩
  ·skip
   rw [if_neg hc19] at her
   refine wp_skip ?_
   refine hK6 _ _ ?_
   clear hK6
   refine wp_seq_k fun K10 hK10=>?_
   refine wp_region_lit ?_
   refine F.vl (R_loadBlk rfl (F.at rfl) Tryz.underlying24 rfl (by kernel_rfl) q3) ?_;clear F fa;intro fa F
   refine F.mv ?_;clear F fa;intro fa F
   refine sq_call F rfl (by decide) rfl (R_callV rfl rfl Tryz.call79 (mpS (F.at rfl) (mpS (F.at rfl) mp0))) (dLamps_any x sl.1 ls hl b d _ (HQ.out.ext E (by simp))) fun e w4 hR=>?_
   obtain ⟨rfl,e9⟩:=hR
   refine ⟨_,rfl,?_⟩;clear F fa;intro fa F
   replace q3:=(e9).keep0 q3
   replace E:=ext_same E (e9)
   clear e9
   refine F.as ?_;clear F fa;intro fa F
   refine wpList_nil ?_
   refine hK10 _ _ ?_
   clear hK10
   refine wp_ret ?_
   (try simp only [Exit.inBlock,Exit.then,reduceIte])
   refine rt_v F (rs_1 F rfl rfl) ?_
   exact ⟨ret_int her.symm,E⟩
set_option maxRecDepth 100000 in
set_option maxHeartbeats 1000000 in
theorem dSums_ok (x : Vm) (hv : VOk x) (bn : Nat) (hbn : x.B = bn) (l : List Int) (hl : l.length = x.D.length) (hb : ∀ n ∈ l,0 ≤ n ∧ n ≤ 6) (a : Option Addr) (c : Nat) (w : World) (h : x.At w) (hr : IsRows w (.slice a l.length c) 1 (l.map intRow)) :
  Calls Tryz.prog 103 #[.agg #[.int .i64 x.B,.slice x.da x.D.length x.dc,.slice x.la x.L.length x.lc,.int .i64 x.tol],.slice a l.length c] w fun e w'=>∃ a,e = .returned (.slice a bn bn) ∧ w'.ownsRow w.heap.size 3 1 (.slice a bn bn) bn (ivs (sumL x (val l) bn)) ∧ Ext [] w w':=by
 have E : Ext [] w w:=Ext.refl _ _
 have HX:=Lib.hid h
 have HV:=Lib.hid hv
 have HSR:=Lib.hid (slAt_of_rows hr 0)
 have HB:=Lib.hid hb
 have HD:=Lib.hid h.d.1
 have hb1:=hv.b1
 have hb3:=hv.b3
 have hd4:=hv.d4
 have HF : RowKit.Hid (TubS (val l)):=Lib.hid (fun k _=>val_bd hb (by omega) (by omega) k)
 clear h hv hr hb
 refine calls_has 45 Tryz.func103 rfl Tryz.ntmps103 (Nat.le_of_ble_eq_true rfl) ?_
 intro fa F
 refine wp_seq_k fun K1 hK1=>?_
 refine wp_region_lit ?_
 refine sq_new F rfl (by decide) rfl (R_box rfl (F.at rfl)) ?_;clear F fa;intro fa w1 F hw
 obtain ⟨n2,hn⟩ : ∃ n,n = w.heap.size:=⟨_,rfl⟩
 rw [← hn] at F
 have s2 : w.heap.size ≤ n2:=Nat.le_of_eq hn.symm
 have l2_E : w.heap.size ≤ n2:=by rw [hn];exact E.size
 replace E:=ext_alloc E hw
 have q2:=new_row hw hn
 clear hw hn
 refine F.vl (R_assign rfl (ev_c fa _)) ?_;clear F fa;intro fa F
 refine wpList_nil ?_
 refine hK1 _ _ ?_
 clear hK1
 refine wp_seq_k fun K2 hK2=>?_
 refine wp_region_lit ?_
 refine F.vl (R_field rfl (F.at rfl) Tryz.underlying24 rfl (n:=0) (sz:=1) rfl (by kernel_rfl) (by decide)) ?_;clear F fa;intro fa F
 refine F.vl (R_load rfl (F.at rfl) Tryz.underlying3 rfl ((cells_of_block q2 0).trans (get0))) ?_;clear F fa;intro fa F
 rw [hbn] at F
 have hEs:=E.size
 refine sq_some F rfl (by decide) rfl (make_run rfl (w.heap.size) (e:=3) (bytes:=8) (z:=.int .i64 0) Tryz.underlying25 (by kernel_rfl) rfl (F.at rfl) (F.at rfl) (n:=bn) (by omega) (by decide) (by omega)) ?_;clear F fa;rintro fa v' w2 F ⟨oo,hg,rfl⟩
 obtain ⟨n10,hn⟩ : ∃ n,n = w1.heap.size:=⟨_,rfl⟩
 rw [← hn] at F oo
 have s10 : w1.heap.size ≤ n10:=Nat.le_of_eq hn.symm
 replace q2:=keep_none hg q2
 replace E:=ext_none E hg
 clear hg hn
 rw [← sumR_zero x (val l) bn] at oo
 refine F.as ?_;clear F fa;intro fa F
 refine wpList_nil ?_
 refine hK2 _ _ ?_
 clear hK2
 refine wp_seq_k fun K3 hK3=>?_
 refine wp_seq_k fun K4 hK4=>?_
 refine wp_region_lit ?_
 refine F.vl (R_assign rfl (ev_c fa _)) ?_;clear F fa;intro fa F
 refine wpList_nil ?_
 refine hK4 _ _ ?_
 clear hK4
 refine wp_block ?_
 have F0:=F.sub (.c 1 rfl (.c 2 rfl (.c 5 rfl .n)))
 refine lp_for F0 (l.length) (fun d Lv W=>Lv = [(6,.int .i64 ((d : Nat) : Int))] ∧ Ext [] w W ∧ W.heap[n2]? = some (.cells #[.int .i64 x.B,.slice x.da x.D.length x.dc,.slice x.la x.L.length x.lc,.int .i64 x.tol] 24 (0,0)) ∧ W.ownsRow w.heap.size 3 1 (.slice (some ⟨n10,0,none⟩) bn bn) bn (ivs (sumR x (val l) bn d 0))) ⟨_,⟨rfl,E,q2,oo⟩,F.sub (.c 6 rfl (.c 1 rfl (.c 2 rfl (.c 5 rfl .n))))⟩ ?_
 clear F F0
 clear E q2
 clear oo
 rintro d _ fa w3 hi1 ⟨rfl,E,q2,oo⟩ F
 refine wp_seq_k fun K5 hK5=>?_
 refine wp_seq_k fun K6 hK6=>?_
 refine wp_region_lit ?_
 refine F.mv ?_;clear F fa;intro fa F
 refine F.mv ?_;clear F fa;intro fa F
 refine F.vl (R_len rfl rfl (F.at rfl) Tryz.underlying25) ?_;clear F fa;intro fa F
 refine F.vl (R_lss rfl (F.at rfl) (F.at rfl)) ?_;clear F fa;intro fa F
 refine wpList_nil ?_
 refine hK6 _ _ ?_
 clear hK6
 refine cd_if F rfl (fun hc14=>?_) (fun hc14=>?_)
 ·skip
  refine wp_skip ?_
  refine hK5 _ _ ?_
  clear hK5
  refine wp_seq_k fun K7 hK7=>?_
  refine wp_block ?_
  refine wp_seq_k fun K8 hK8=>?_
  refine wp_region_lit ?_
  refine F.vl (R_assign rfl (ev_c fa _)) ?_;clear F fa;intro fa F
  refine wpList_nil ?_
  refine hK8 _ _ ?_
  clear hK8
  refine wp_block ?_
  have F0:=F.sub (.c 1 rfl (.c 2 rfl (.c 5 rfl (.c 6 rfl .n))))
  refine lp_for F0 (bn) (fun i Lv W=>Lv = [(7,.int .i64 ((i : Nat) : Int))] ∧ Ext [] w W ∧ W.heap[n2]? = some (.cells #[.int .i64 x.B,.slice x.da x.D.length x.dc,.slice x.la x.L.length x.lc,.int .i64 x.tol] 24 (0,0)) ∧ W.ownsRow w.heap.size 3 1 (.slice (some ⟨n10,0,none⟩) bn bn) bn (ivs (sumR x (val l) bn d i))) ⟨_,⟨rfl,E,q2,oo⟩,F.sub (.c 7 rfl (.c 1 rfl (.c 2 rfl (.c 5 rfl (.c 6 rfl .n)))))⟩ ?_
  clear F F0
  clear E q2
  clear oo
  rintro i _ fa w4 hi2 ⟨rfl,E,q2,oo⟩ F
  refine wp_seq_k fun K9 hK9=>?_
  refine wp_seq_k fun K10 hK10=>?_
  refine wp_region_lit ?_
  refine F.mv ?_;clear F fa;intro fa F
  refine F.vl (R_field rfl (F.at rfl) Tryz.underlying24 rfl (n:=0) (sz:=1) rfl (by kernel_rfl) (by decide)) ?_;clear F fa;intro fa F
  refine F.vl (R_load rfl (F.at rfl) Tryz.underlying3 rfl ((cells_of_block q2 0).trans (get0))) ?_;clear F fa;intro fa F
  rw [hbn] at F
  refine F.vl (R_lss rfl (F.at rfl) (F.at rfl)) ?_;clear F fa;intro fa F
  refine wpList_nil ?_
  refine hK10 _ _ ?_
  clear hK10
  refine cd_if F rfl (fun hc20=>?_) (fun hc20=>?_)
  ·skip
   refine wp_skip ?_
   refine hK9 _ _ ?_
   clear hK9
   refine wp_seq_k fun K11 hK11=>?_
   refine wp_block ?_
   obtain ⟨la,lca,hla,hlr⟩:=HX.out.d.2 _ (getD_mem (.bool true,[]) (show d < x.D.length by omega))
   have hlen:=(HV.out.dl _ (getD_mem (.bool true,[]) (show d < x.D.length by omega))).1
   have hlb : (x.D.getD d (.bool true,[])).2.length = bn:=by omega
   have HLR:=Lib.hid (slAt_of_rows hlr 0)
   have hml:=sumR_len x (val l) bn d i
   have hmk:=sumR_get x (val l) d (show i < bn by omega)
   have hst:=sumR_set x (val l) d (show i < bn by omega)
   have EX : Ext [] w4 w4:=Ext.refl _ _
   have HS:=Lib.hid (slAt_of_ivs oo hml.symm [] (by simp))
   have hil:=ivs_lenZ (sumR x (val l) bn d i)
   obtain ⟨hf0,hf1⟩:=HF.out d (by omega)
   obtain ⟨hg0,hg1⟩:=dye_bd HV.out (show d < x.D.length by omega) i
   simp only [val,Vm.dye] at hg0 hg1 hf0 hf1
   obtain ⟨hp0,hp1⟩:=mul_bd hf0 (by omega) hg0 (by omega)
   obtain ⟨ht0,ht1⟩:=tonE_bd HV.out HF.out i (show d ≤ x.D.length by omega)
   refine wp_region_st 21 follows (by kernel_rfl) fun w5 hh eh=>?_
   replace q2:=keep_same hh q2
   replace E:=ext_same E eh
   replace EX:=ext_same EX eh
   replace oo:=owns_same hh oo
   clear hh eh
   refine F.smv ?_;clear F fa;intro fa F
   refine F.smv ?_;clear F fa;intro fa F
   refine F.smv ?_;clear F fa;intro fa F
   refine F.smv ?_;clear F fa;intro fa F
   obtain ⟨xb12,xo12,xa12,xr12⟩:=HS.out i (by omega)
   refine F.sv (R_ixSlice (sz:=1) rfl ((F.at rfl).trans (xa12 _ _)) (F.at rfl) Tryz.underlying25 (by kernel_rfl) (by omega) (by omega)) ?_;clear F fa;intro fa F
   refine F.sv (R_load rfl (F.at rfl) Tryz.underlying3 rfl (xr12 _ EX 0 _ rfl)) ?_;clear F fa;intro fa F
   refine F.smv ?_;clear F fa;intro fa F
   refine F.smv ?_;clear F fa;intro fa F
   obtain ⟨xb13,xo13,xa13,xr13⟩:=HSR.out d (by omega)
   refine F.sv (R_ixSlice (sz:=1) rfl ((F.at rfl).trans (xa13 _ _)) (F.at rfl) Tryz.underlying25 (by kernel_rfl) (by omega) (by omega)) ?_;clear F fa;intro fa F
   refine F.sv (R_load rfl (F.at rfl) Tryz.underlying3 rfl (xr13 _ E 0 _ rfl)) ?_;clear F fa;intro fa F
   refine F.sv (R_field rfl (F.at rfl) Tryz.underlying24 rfl (n:=1) (sz:=1) rfl (by kernel_rfl) (by decide)) ?_;clear F fa;intro fa F
   refine F.sv (R_load rfl (F.at rfl) Tryz.underlying22 rfl ((cells_of_block q2 1).trans (getS (get0)))) ?_;clear F fa;intro fa F
   refine F.smv ?_;clear F fa;intro fa F
   obtain ⟨xb14,xo14,xa14,xr14⟩:=HD.out d (by omega)
   refine F.sv (R_ixSlice (sz:=1) rfl ((F.at rfl).trans (xa14 _ _)) (F.at rfl) Tryz.underlying22 (by kernel_rfl) (by omega) (by omega)) ?_;clear F fa;intro fa F
   refine F.sv (R_load rfl (F.at rfl) Tryz.underlying25 rfl (xr14 _ E 0 _ rfl)) ?_;clear F fa;intro fa F
   rw [hla] at F
   refine F.smv ?_;clear F fa;intro fa F
   obtain ⟨xb15,xo15,xa15,xr15⟩:=HLR.out i (by omega)
   refine F.sv (R_ixSlice (sz:=1) rfl ((F.at rfl).trans (xa15 _ _)) (F.at rfl) Tryz.underlying25 (by kernel_rfl) (by omega) (by omega)) ?_;clear F fa;intro fa F
   refine F.sv (R_load rfl (F.at rfl) Tryz.underlying3 rfl (xr15 _ E 0 _ rfl)) ?_;clear F fa;intro fa F
   refine F.sv (R_mul rfl (F.at rfl) (F.at rfl) (by omega) (by omega)) ?_;clear F fa;intro fa F
   refine F.sv (R_add rfl (F.at rfl) (F.at rfl) (by omega) (by omega)) ?_;clear F fa;intro fa F
   obtain ⟨xb16,xo16,xa16,xr16⟩:=HS.out i (by omega)
   refine F.sv (R_ixSlice (sz:=1) rfl ((F.at rfl).trans (xa16 _ _)) (F.at rfl) Tryz.underlying25 (by kernel_rfl) (by omega) (by omega)) ?_;clear F fa;intro fa F
   refine wpStill_nil ?_
   obtain ⟨⟨u0,hcu⟩,hfu,hst⟩:=owns_at oo xa16 (j:=i) (p:=xo16 + ((i : Nat) : Int).toNat * 1) (by first | omega | (simp;omega)) (by omega)
   refine sq_to rfl rfl (R_store rfl (F.at rfl) (F.at rfl) rfl (by kernel_rfl) hcu hfu) ?_;intro w6 hw
   obtain ⟨hown',hg⟩:=hst _ _ hw
   clear hst hcu hfu hw
   replace q2:=keep_type oo hg q2 (by decide)
   replace E:=ext_appendX E oo hg (by omega)
   replace oo:=hown'
   clear hg
   rw [ivs_setZ,hmk,show tonE x (val l) i d + l.getD d 0 * (x.D.getD d (.bool true,[])).2.getD i 0 = tonE x (val l) i (d + 1) from rfl,hst] at oo
   refine wpList_nil ?_
   refine hK11 _ _ ?_
   clear hK11
   refine wp_region_lit ?_
   refine F.mv ?_;clear F fa;intro fa F
   refine F.vl (R_add rfl (F.at rfl) (ev_c fa _) (by omega) (by omega)) ?_;clear F fa;intro fa F
   refine F.as ?_;clear F fa;intro fa F
   refine wpList_nil ?_
   show _ ∧ _
   exact ⟨by omega,_,⟨rfl,E,q2,oo⟩,F.sub (.c 7 rfl (.c 1 rfl (.c 2 rfl (.c 5 rfl (.c 6 rfl .n)))))⟩
  ·skip
   refine wp_exit ?_
   rw [show i = bn by omega,sumR_next] at oo
   refine hK7 _ _ ?_
   clear hK7
   refine wp_region_lit ?_
   refine F.mv ?_;clear F fa;intro fa F
   refine F.vl (R_add rfl (F.at rfl) (ev_c fa _) (by omega) (by omega)) ?_;clear F fa;intro fa F
   refine F.as ?_;clear F fa;intro fa F
   refine wpList_nil ?_
   show _ ∧ _
   exact ⟨by omega,_,⟨rfl,E,q2,oo⟩,F.sub (.c 6 rfl (.c 1 rfl (.c 2 rfl (.c 5 rfl .n))))⟩
 ·skip
  refine wp_exit ?_
  rw [show d = x.D.length by omega,sumR_end] at oo
  refine hK3 _ _ ?_
  clear hK3
  refine wp_seq_k fun K17 hK17=>?_
  refine wp_region_lit ?_
  refine F.mv ?_;clear F fa;intro fa F
  refine F.as ?_;clear F fa;intro fa F
  refine wpList_nil ?_
  refine hK17 _ _ ?_
  clear hK17
  refine wp_ret ?_
  (try simp only [Exit.inBlock,Exit.then,reduceIte])
  refine rt_v F (rs_1 F rfl rfl) ?_
  exact ⟨_,rfl,oo,E⟩
set_option maxRecDepth 100000 in
set_option maxHeartbeats 1000000 in
theorem dWeigh_ok (x : Vm) (hv : VOk x) (k : Nat) (hk : k < x.L.length) (bn : Nat) (hbn : x.B = bn) (s : List Int) (hs : s.length = bn) (hb : ∀ n ∈ s,0 ≤ n ∧ n ≤ 100000) (a : Option Addr) (c : Nat) (w : World) (h : x.At w) (hr : IsRows w (.slice a s.length c) 1 (s.map intRow)) :
  Calls Tryz.prog 102 #[.agg #[.int .i64 x.B,.slice x.da x.D.length x.dc,.slice x.la x.L.length x.lc,.int .i64 x.tol],.int .i64 ((k : Nat) : Int),.slice a s.length c] w fun e w'=>e = .returned (.int .i64 (dotE (val (x.lamp k)) (val s) bn)) ∧ Ext [] w w':=by
 have E : Ext [] w w:=Ext.refl _ _
 have HX:=Lib.hid h
 have HV:=Lib.hid hv
 have HSR:=Lib.hid (slAt_of_rows hr 0)
 have HB:=Lib.hid hb
 have HL:=Lib.hid h.l.1
 have hb3:=hv.b3
 have hb1:=hv.b1
 obtain ⟨la,lca,hla,hlr⟩:=h.l.2 _ (getD_mem (.bool true,[]) hk)
 have hlen:=(hv.ll _ (getD_mem (.bool true,[]) hk)).1
 have hlb : (x.L.getD k (.bool true,[])).2.length = bn:=by omega
 have HLR:=Lib.hid (slAt_of_rows hlr 0)
 clear h hv hr hb hlr
 refine calls_has 31 Tryz.func102 rfl Tryz.ntmps102 (Nat.le_of_ble_eq_true rfl) ?_
 intro fa F
 refine wp_seq_k fun K1 hK1=>?_
 refine wp_region_lit ?_
 refine sq_new F rfl (by decide) rfl (R_box rfl (F.at rfl)) ?_;clear F fa;intro fa w1 F hw
 obtain ⟨n3,hn⟩ : ∃ n,n = w.heap.size:=⟨_,rfl⟩
 rw [← hn] at F
 have s3 : w.heap.size ≤ n3:=Nat.le_of_eq hn.symm
 have l3_E : w.heap.size ≤ n3:=by rw [hn];exact E.size
 replace E:=ext_alloc E hw
 have q3:=new_row hw hn
 clear hw hn
 refine F.vl (R_assign rfl (ev_c fa _)) ?_;clear F fa;intro fa F
 refine wpList_nil ?_
 refine hK1 _ _ ?_
 clear hK1
 refine wp_seq_k fun K2 hK2=>?_
 refine wp_region_lit ?_
 refine F.vl (R_assign rfl (ev_c fa _)) ?_;clear F fa;intro fa F
 refine wpList_nil ?_
 rw [show (0 : Int) = dotE (val (x.lamp k)) (val s) 0 from rfl] at F
 refine hK2 _ _ ?_
 clear hK2
 refine wp_seq_k fun K3 hK3=>?_
 refine wp_seq_k fun K4 hK4=>?_
 refine wp_region_lit ?_
 refine F.vl (R_assign rfl (ev_c fa _)) ?_;clear F fa;intro fa F
 refine wpList_nil ?_
 refine hK4 _ _ ?_
 clear hK4
 refine wp_block ?_
 have F0:=F.sub (.c 1 rfl (.c 2 rfl (.c 3 rfl .n)))
 refine lp_for F0 (bn) (fun i Lv W=>Lv = [(7,.int .i64 (dotE (val (x.lamp k)) (val s) i)),(8,.int .i64 ((i : Nat) : Int))] ∧ Ext [] w W ∧ W.heap[n3]? = some (.cells #[.int .i64 x.B,.slice x.da x.D.length x.dc,.slice x.la x.L.length x.lc,.int .i64 x.tol] 24 (0,0)) ∧ 0 ≤ dotE (val (x.lamp k)) (val s) i ∧ dotE (val (x.lamp k)) (val s) i ≤ 1000000 * i) ⟨_,⟨rfl,E,q3,(by simp [dotE,sumTo])⟩,F.sub (.c 7 rfl (.c 8 rfl (.c 1 rfl (.c 2 rfl (.c 3 rfl .n)))))⟩ ?_
 clear F F0
 clear E q3
 rintro i _ fa w2 hi1 ⟨rfl,E,q3,hdb⟩ F
 refine wp_seq_k fun K5 hK5=>?_
 refine wp_seq_k fun K6 hK6=>?_
 refine wp_region_lit ?_
 refine F.mv ?_;clear F fa;intro fa F
 refine F.mv ?_;clear F fa;intro fa F
 refine F.vl (R_len rfl rfl (F.at rfl) Tryz.underlying25) ?_;clear F fa;intro fa F
 refine F.vl (R_lss rfl (F.at rfl) (F.at rfl)) ?_;clear F fa;intro fa F
 refine wpList_nil ?_
 refine hK6 _ _ ?_
 clear hK6
 refine cd_if F rfl (fun hc12=>?_) (fun hc12=>?_)
 ·skip
  refine wp_skip ?_
  refine hK5 _ _ ?_
  clear hK5
  refine wp_seq_k fun K7 hK7=>?_
  refine wp_block ?_
  have hlq:=lamp_bd HV.out hk i
  simp only [val,Vm.lamp] at hlq
  have hsq:=HB.out _ (getD_mem 0 (show i < s.length by omega))
  obtain ⟨hp0,hp1⟩:=mul_bd hlq.1 (by omega) hsq.1 hsq.2
  refine wp_region_st 15 follows (by kernel_rfl) fun w3 hh eh=>?_
  replace q3:=keep_same hh q3
  replace E:=ext_same E eh
  clear hh eh
  refine F.smv ?_;clear F fa;intro fa F
  refine F.sv (R_field rfl (F.at rfl) Tryz.underlying24 rfl (n:=2) (sz:=1) rfl (by kernel_rfl) (by decide)) ?_;clear F fa;intro fa F
  refine F.sv (R_load rfl (F.at rfl) Tryz.underlying22 rfl ((cells_of_block q3 2).trans (getS (getS (get0))))) ?_;clear F fa;intro fa F
  refine F.smv ?_;clear F fa;intro fa F
  obtain ⟨xb8,xo8,xa8,xr8⟩:=HL.out k (by omega)
  refine F.sv (R_ixSlice (sz:=1) rfl ((F.at rfl).trans (xa8 _ _)) (F.at rfl) Tryz.underlying22 (by kernel_rfl) (by omega) (by omega)) ?_;clear F fa;intro fa F
  refine F.sv (R_load rfl (F.at rfl) Tryz.underlying25 rfl (xr8 _ E 0 _ rfl)) ?_;clear F fa;intro fa F
  rw [hla] at F
  refine F.smv ?_;clear F fa;intro fa F
  obtain ⟨xb9,xo9,xa9,xr9⟩:=HLR.out i (by omega)
  refine F.sv (R_ixSlice (sz:=1) rfl ((F.at rfl).trans (xa9 _ _)) (F.at rfl) Tryz.underlying25 (by kernel_rfl) (by omega) (by omega)) ?_;clear F fa;intro fa F
  refine F.sv (R_load rfl (F.at rfl) Tryz.underlying3 rfl (xr9 _ E 0 _ rfl)) ?_;clear F fa;intro fa F
  refine F.smv ?_;clear F fa;intro fa F
  refine F.smv ?_;clear F fa;intro fa F
  obtain ⟨xb10,xo10,xa10,xr10⟩:=HSR.out i (by omega)
  refine F.sv (R_ixSlice (sz:=1) rfl ((F.at rfl).trans (xa10 _ _)) (F.at rfl) Tryz.underlying25 (by kernel_rfl) (by omega) (by omega)) ?_;clear F fa;intro fa F
  refine F.sv (R_load rfl (F.at rfl) Tryz.underlying3 rfl (xr10 _ E 0 _ rfl)) ?_;clear F fa;intro fa F
  refine F.sv (R_mul rfl (F.at rfl) (F.at rfl) (by omega) (by omega)) ?_;clear F fa;intro fa F
  refine F.sv (R_add rfl (F.at rfl) (F.at rfl) (by omega) (by omega)) ?_;clear F fa;intro fa F
  refine wpStill_nil ?_
  refine F.as ?_;clear F fa;intro fa F
  refine wpList_nil ?_
  rw [show dotE (val (x.lamp k)) (val s) i + (x.L.getD k (.bool true,[])).2.getD i 0 * s.getD i 0 = dotE (val (x.lamp k)) (val s) (i + 1) from rfl] at F
  refine hK7 _ _ ?_
  clear hK7
  refine wp_region_lit ?_
  refine F.mv ?_;clear F fa;intro fa F
  refine F.vl (R_add rfl (F.at rfl) (ev_c fa _) (by omega) (by omega)) ?_;clear F fa;intro fa F
  refine F.as ?_;clear F fa;intro fa F
  refine wpList_nil ?_
  show _ ∧ _
  exact ⟨by omega,_,⟨rfl,E,q3,(by have h2 : dotE (val (x.lamp k)) (val s) (i + 1) = dotE (val (x.lamp k)) (val s) i + (x.L.getD k (.bool true,[])).2.getD i 0 * s.getD i 0:=rfl;constructor <;> omega)⟩,F.sub (.c 7 rfl (.c 8 rfl (.c 1 rfl (.c 2 rfl (.c 3 rfl .n)))))⟩
 ·skip
  refine wp_exit ?_
  rw [show i = bn by omega] at F
  refine hK3 _ _ ?_
  clear hK3
  refine wp_seq_k fun K11 hK11=>?_
  refine wp_region_lit ?_
  refine F.mv ?_;clear F fa;intro fa F
  refine F.as ?_;clear F fa;intro fa F
  refine wpList_nil ?_
  refine hK11 _ _ ?_
  clear hK11
  refine wp_ret ?_
  (try simp only [Exit.inBlock,Exit.then,reduceIte])
  refine rt_v F (rs_1 F rfl rfl) ?_
  exact ⟨rfl,E⟩
set_option maxRecDepth 100000 in
set_option maxHeartbeats 2000000 in
theorem dOff_ok (x : Vm) (hv : VOk x) (k : Nat) (hk : k < x.L.length) (t : List Int) (ht : t.length = x.D.length) (hb : ∀ n ∈ t,0 ≤ n ∧ n ≤ 6) (s : List Int) (hs : SmpOk x s) (ta sa : Option Addr) (tc sc : Nat) (w : World) (h : x.At w) (hp : IsRows w (.slice ta t.length tc) 1 (t.map intRow)) (hr : IsRows w (.slice sa s.length sc) 1 (s.map intRow)) :
  Calls Tryz.prog 100 #[.agg #[.int .i64 x.B,.slice x.da x.D.length x.dc,.slice x.la x.L.length x.lc,.int .i64 x.tol],.int .i64 ((k : Nat) : Int),.slice ta t.length tc,.slice sa s.length sc] w fun e w'=>e = .returned (.int .i64 (offE x k (val t) (val s))) ∧ Ext [] w w':=by
 have E : Ext [] w w:=Ext.refl _ _
 have HX:=Lib.hid h
 have HV:=Lib.hid hv
 have HP:=Lib.hid hp
 have HR:=Lib.hid hr
 have HS:=Lib.hid hs
 have HB:=Lib.hid hb
 have hb1:=hv.b1
 have hb3:=hv.b3
 have hd4:=hv.d4
 obtain ⟨bn,hbn⟩ : ∃ bn : Nat,x.B = bn:=⟨x.B.toNat,by omega⟩
 have hbn2 : x.B.toNat = bn:=by omega
 have hts : RowKit.Hid (TubS (val t)):=Lib.hid (fun k _=>val_bd hb (by omega) (by omega) k)
 have hpr : prt (val t) = t.sum:=sumTo_list t 4 (by omega)
 have hpb:=prt_bd hts.out
 have hko : offE x k (val t) (val s) = dotE (val (x.lamp k)) (tnE x (val t)) bn - t.sum * dotE (val (x.lamp k)) (val s) bn:=by rw [offE,hbn2,hpr]
 have hof:=off_bd hv hk hts.out hs
 have hdb:=dot_bd hv hk (fun j=>smp_bd hs j) (n:=bn) (by omega)
 have hmb:=mul_bd2 hpb.1 hpb.2 hdb.1 hdb.2 (C:=51840) (by omega)
 have hda:=dot_bd hv hk (fun j=>tn_bd hv hts.out j) (n:=bn) (by omega)
 have hsn : s.length = bn:=by have:=hs.1;omega
 rw [hpr] at hmb
 clear h hv hp hr hs hb
 refine calls_has 23 Tryz.func100 rfl Tryz.ntmps100 (Nat.le_of_ble_eq_true rfl) ?_
 intro fa F
 refine wp_seq_k fun K1 hK1=>?_
 refine wp_region_lit ?_
 refine sq_new F rfl (by decide) rfl (R_box rfl (F.at rfl)) ?_;clear F fa;intro fa w1 F hw
 obtain ⟨n4,hn⟩ : ∃ n,n = w.heap.size:=⟨_,rfl⟩
 rw [← hn] at F
 have s4 : w.heap.size ≤ n4:=Nat.le_of_eq hn.symm
 have l4_E : w.heap.size ≤ n4:=by rw [hn];exact E.size
 replace E:=ext_alloc E hw
 have q4:=new_row hw hn
 clear hw hn
 refine F.vl (R_assign rfl (ev_c fa _)) ?_;clear F fa;intro fa F
 refine wpList_nil ?_
 refine hK1 _ _ ?_
 clear hK1
 refine wp_seq_k fun K2 hK2=>?_
 refine region_x (Ext [] w1) none follows fun w2 hh eh=>?_
 have q4_:=q4
 replace q4:=keep_same hh q4
 have E_:=E
 have zEw2:=E.size
 replace E:=ext_same E eh
 have eT:=eh
 clear hh eh
 refine F.xr (i:=0) rfl (fun w' hS=>R_loadBlk rfl (F.at rfl) Tryz.underlying24 rfl (by kernel_rfl) (hS.keep q4_ (by simp))) (fun _=>eT) ?_;clear F fa;intro fa F
 refine F.x (i:=1) rfl (fun w'=>R_move rfl (F.at rfl)) (fun _=>eT) ?_;clear F fa;intro fa F
 refine F.xr (i:=2) rfl (fun w' hS=>R_loadBlk rfl (F.at rfl) Tryz.underlying24 rfl (by kernel_rfl) (hS.keep q4_ (by simp))) (fun _=>eT) ?_;clear F fa;intro fa F
 refine F.x (i:=3) rfl (fun w'=>R_move rfl (F.at rfl)) (fun _=>eT) ?_;clear F fa;intro fa F
 refine F.x (i:=6) rfl (fun w'=>R_move rfl (F.at rfl)) (fun _=>eT) ?_;clear F fa;intro fa F
 refine F.xr (i:=8) rfl (fun w' hS=>R_loadBlk rfl (F.at rfl) Tryz.underlying24 rfl (by kernel_rfl) (hS.keep q4_ (by simp))) (fun _=>eT) ?_;clear F fa;intro fa F
 refine F.x (i:=9) rfl (fun w'=>R_move rfl (F.at rfl)) (fun _=>eT) ?_;clear F fa;intro fa F
 refine F.x (i:=10) rfl (fun w'=>R_move rfl (F.at rfl)) (fun _=>eT) ?_;clear F fa;intro fa F
 refine ax_only (i:=4) (by kernel_rfl) (op_call F rfl rfl (by decide) rfl (R_callV rfl rfl Tryz.call103 (mpS (F.at rfl) (mpS (F.at rfl) mp0))) (dSums_ok x HV.out bn hbn t ht HB.out ta tc _ (HX.out.ext E) (HP.out.ext E (by simp))) fun e w3 hR=>?_)
 obtain ⟨ua,rfl,uo,e9⟩:=hR
 refine ⟨_,rfl,?_⟩;clear F fa;intro fa F
 replace q4:=(e9).keep0 q4
 replace E:=ext_same E (e9)
 replace eT:=ext_same eT (e9)
 clear e9
 refine ⟨fun _=>eT,?_⟩
 have hsl : (sumL x (val t) bn).length = bn:=by simp [sumL]
 have HU:=Lib.hid (rows_of_ivs uo hsl.symm)
 obtain ⟨wS,hwS⟩ : ∃ wS,wS = w3:=⟨_,rfl⟩
 have ES : Ext [] wS w3:=by rw [hwS];exact Ext.refl _ _
 rw [← hwS] at HU
 clear uo
 have hsb:=Lib.hid (sumL_bd HV.out hts.out bn)
 have hwe:=dWeigh_ok x HV.out k hk bn hbn (sumL x (val t) bn) hsl (fun n hn=>by have:=hsb.out n hn;omega) ua bn w3 (HX.out.ext E) (by rw [hsl];exact HU.out.ext ES (by simp))
 rw [hsl] at hwe
 have hdx:=dot_sumL x (val t) (val (x.lamp k)) bn
 rw [hsl] at hdx
 rw [hdx] at hwe
 refine ax_only (i:=5) (by kernel_rfl) (op_call F rfl rfl (by decide) rfl (R_callV rfl rfl Tryz.call102 (mpS (F.at rfl) (mpS (F.at rfl) (mpS (F.at rfl) mp0)))) (hwe) fun e w4 hR=>?_)
 obtain ⟨rfl,e9⟩:=hR
 refine ⟨_,rfl,?_⟩;clear F fa;intro fa F
 replace q4:=(e9).keep0 q4
 replace E:=ext_same E (e9)
 replace ES:=ext_same ES (e9)
 replace eT:=ext_same eT (e9)
 clear e9
 refine ⟨fun _=>eT,?_⟩
 clear hwe hdx
 refine ax_only (i:=7) (by kernel_rfl) (op_call F rfl rfl (by decide) rfl (R_callV rfl rfl Tryz.call50 (mpS (F.at rfl) mp0)) (dTotal_any t ta tc _ (HP.out.ext E (by simp)) (by omega) (fun n hn=>by have:=HB.out n hn;omega)) fun e w5 hR=>?_)
 obtain ⟨rfl,e9⟩:=hR
 refine ⟨_,rfl,?_⟩;clear F fa;intro fa F
 replace q4:=(e9).keep0 q4
 replace E:=ext_same E (e9)
 replace ES:=ext_same ES (e9)
 replace eT:=ext_same eT (e9)
 clear e9
 refine ⟨fun _=>eT,?_⟩
 refine ax_only (i:=11) (by kernel_rfl) (op_call F rfl rfl (by decide) rfl (R_callV rfl rfl Tryz.call102 (mpS (F.at rfl) (mpS (F.at rfl) (mpS (F.at rfl) mp0)))) (dWeigh_ok x HV.out k hk bn hbn s hsn (fun n hn=>by have:=HS.out.2 n hn;omega) sa sc _ (HX.out.ext E) (HR.out.ext E (by simp))) fun e w6 hR=>?_)
 obtain ⟨rfl,e9⟩:=hR
 refine ⟨_,rfl,?_⟩;clear F fa;intro fa F
 replace q4:=(e9).keep0 q4
 replace E:=ext_same E (e9)
 replace ES:=ext_same ES (e9)
 replace eT:=ext_same eT (e9)
 clear e9
 refine ⟨fun _=>eT,?_⟩
 refine F.x (i:=12) rfl (fun w'=>R_mul rfl (F.at rfl) (F.at rfl) (by omega) (by omega)) (fun _=>eT) ?_;clear F fa;intro fa F
 refine F.x (i:=13) rfl (fun w'=>R_sub rfl (F.at rfl) (F.at rfl) (by omega) (by omega)) (fun _=>eT) ?_;clear F fa;intro fa F
 refine F.x (i:=14) rfl (fun w'=>R_assign rfl (F.at rfl)) (fun _=>eT) ?_;clear F fa;intro fa F
 refine ax_done (by kernel_rfl) ?_ _
 clear eT q4_ E_
 refine hK2 _ _ ?_
 clear hK2
 refine wp_ret ?_
 (try simp only [Exit.inBlock,Exit.then,reduceIte])
 refine rt_v F (rs_1 F rfl rfl) ?_
 exact ⟨ret_int hko.symm,E⟩
set_option maxRecDepth 100000 in
set_option maxHeartbeats 2000000 in
theorem dMatches_ok (x : Vm) (hv : VOk x) (k : Nat) (hk : k < x.L.length) (t : List Int) (ht : t.length = x.D.length) (hb : ∀ n ∈ t,0 ≤ n ∧ n ≤ 6) (s : List Int) (hs : SmpOk x s) (ta sa : Option Addr) (tc sc : Nat) (w : World) (h : x.At w) (hp : IsRows w (.slice ta t.length tc) 1 (t.map intRow)) (hr : IsRows w (.slice sa s.length sc) 1 (s.map intRow)) :
  Calls Tryz.prog 97 #[.agg #[.int .i64 x.B,.slice x.da x.D.length x.dc,.slice x.la x.L.length x.lc,.int .i64 x.tol],.int .i64 ((k : Nat) : Int),.slice ta t.length tc,.slice sa s.length sc] w fun e w'=>e = .returned (.bool (decide (max (offE x k (val t) (val s)) (-offE x k (val t) (val s)) ≤ x.tol * prt (val t)))) ∧ Ext [] w w':=by
 have E : Ext [] w w:=Ext.refl _ _
 have HX:=Lib.hid h
 have HV:=Lib.hid hv
 have HP:=Lib.hid hp
 have HR:=Lib.hid hr
 have HS:=Lib.hid hs
 have HB:=Lib.hid hb
 have hd4:=hv.d4
 have ht0:=hv.t0
 have ht12:=hv.t12
 have hts : RowKit.Hid (TubS (val t)):=Lib.hid (fun k _=>val_bd hb (by omega) (by omega) k)
 have hpr : prt (val t) = t.sum:=sumTo_list t 4 (by omega)
 have hpb:=prt_bd hts.out
 have h7:=mul_bd2 ht0 ht12 hpb.1 hpb.2 (C:=288) (by omega)
 have hof:=off_bd hv hk hts.out hs
 rw [hpr] at h7 ⊢
 clear h hv hp hr hs hb
 refine calls_has 25 Tryz.func97 rfl Tryz.ntmps97 (Nat.le_of_ble_eq_true rfl) ?_
 intro fa F
 refine wp_seq_k fun K1 hK1=>?_
 refine wp_region_lit ?_
 refine sq_new F rfl (by decide) rfl (R_box rfl (F.at rfl)) ?_;clear F fa;intro fa w1 F hw
 obtain ⟨n4,hn⟩ : ∃ n,n = w.heap.size:=⟨_,rfl⟩
 rw [← hn] at F
 have s4 : w.heap.size ≤ n4:=Nat.le_of_eq hn.symm
 have l4_E : w.heap.size ≤ n4:=by rw [hn];exact E.size
 replace E:=ext_alloc E hw
 have q4:=new_row hw hn
 clear hw hn
 refine F.vl (R_assign rfl (ev_c fa _)) ?_;clear F fa;intro fa F
 refine wpList_nil ?_
 refine hK1 _ _ ?_
 clear hK1
 refine wp_seq_k fun K2 hK2=>?_
 refine wp_region_lit ?_
 refine F.vl (R_loadBlk rfl (F.at rfl) Tryz.underlying24 rfl (by kernel_rfl) q4) ?_;clear F fa;intro fa F
 refine F.mv ?_;clear F fa;intro fa F
 refine F.mv ?_;clear F fa;intro fa F
 refine F.mv ?_;clear F fa;intro fa F
 refine sq_call F rfl (by decide) rfl (R_callV rfl rfl Tryz.call100 (mpS (F.at rfl) (mpS (F.at rfl) (mpS (F.at rfl) (mpS (F.at rfl) mp0))))) (dOff_ok x HV.out k hk t ht HB.out s HS.out ta sa tc sc _ (HX.out.ext E) (HP.out.ext E (by simp)) (HR.out.ext E (by simp))) fun e w2 hR=>?_
 obtain ⟨rfl,e9⟩:=hR
 refine ⟨_,rfl,?_⟩;clear F fa;intro fa F
 replace q4:=(e9).keep0 q4
 replace E:=ext_same E (e9)
 clear e9
 refine F.as ?_;clear F fa;intro fa F
 refine wpList_nil ?_
 refine hK2 _ _ ?_
 clear hK2
 refine wp_seq_k fun K3 hK3=>?_
 refine region_x (Ext [] w2) none follows fun w3 hh eh=>?_
 have q4_:=q4
 replace q4:=keep_same hh q4
 have E_:=E
 have zEw3:=E.size
 replace E:=ext_same E eh
 have eT:=eh
 clear hh eh
 refine F.x (i:=0) rfl (fun w'=>R_move rfl (F.at rfl)) (fun _=>eT) ?_;clear F fa;intro fa F
 refine F.x (i:=1) rfl (fun w'=>R_move rfl (F.at rfl)) (fun _=>eT) ?_;clear F fa;intro fa F
 refine F.x (i:=2) rfl (fun w'=>R_neg rfl (F.at rfl) (by omega) (by omega)) (fun _=>eT) ?_;clear F fa;intro fa F
 refine F.x (i:=3) rfl (fun w'=>R_max rfl rfl (F.at rfl) (F.at rfl)) (fun _=>eT) ?_;clear F fa;intro fa F
 refine F.x (i:=4) rfl (fun w'=>R_field rfl (F.at rfl) Tryz.underlying24 rfl (n:=3) (sz:=1) rfl (by kernel_rfl) (by decide)) (fun _=>eT) ?_;clear F fa;intro fa F
 refine F.xr (i:=5) rfl (fun w' hS=>R_load rfl (F.at rfl) Tryz.underlying3 rfl ((cells_of_block (hS.keep q4_ (by simp)) 3).trans (getS (getS (getS (get0)))))) (fun _=>eT) ?_;clear F fa;intro fa F
 refine F.x (i:=6) rfl (fun w'=>R_move rfl (F.at rfl)) (fun _=>eT) ?_;clear F fa;intro fa F
 refine ax_only (i:=7) (by kernel_rfl) (op_call F rfl rfl (by decide) rfl (R_callV rfl rfl Tryz.call50 (mpS (F.at rfl) mp0)) (dTotal_any t ta tc _ (HP.out.ext E (by simp)) (by omega) (fun n hn=>by have:=HB.out n hn;omega)) fun e w4 hR=>?_)
 obtain ⟨rfl,e9⟩:=hR
 refine ⟨_,rfl,?_⟩;clear F fa;intro fa F
 replace q4:=(e9).keep0 q4
 replace E:=ext_same E (e9)
 replace eT:=ext_same eT (e9)
 clear e9
 refine ⟨fun _=>eT,?_⟩
 refine F.x (i:=8) rfl (fun w'=>R_mul rfl (F.at rfl) (F.at rfl) (by omega) (by omega)) (fun _=>eT) ?_;clear F fa;intro fa F
 refine F.x (i:=9) rfl (fun w'=>R_leq rfl (F.at rfl) (F.at rfl)) (fun _=>eT) ?_;clear F fa;intro fa F
 refine F.x (i:=10) rfl (fun w'=>R_assign rfl (F.at rfl)) (fun _=>eT) ?_;clear F fa;intro fa F
 refine ax_done (by kernel_rfl) ?_ _
 clear eT q4_ E_
 refine hK3 _ _ ?_
 clear hK3
 refine wp_ret ?_
 (try simp only [Exit.inBlock,Exit.then,reduceIte])
 refine rt_v F (rs_1 F rfl rfl) ?_
 exact ⟨rfl,E⟩
set_option maxRecDepth 100000 in
set_option maxHeartbeats 2000000 in
theorem dUnder_ok (x : Vm) (hv : VOk x) (ls : List Int) (hl : LmpOk x ls) (hll : ls.length ≤ 1000) (t : List Int) (ht : t.length = x.D.length) (hb : ∀ n ∈ t,0 ≤ n ∧ n ≤ 6) (s : List Int) (hs : SmpOk x s) (la ta sa : Option Addr) (lc tc sc : Nat) (w : World) (h : x.At w) (hq : IsRows w (.slice la ls.length lc) 1 (ls.map intRow)) (hp : IsRows w (.slice ta t.length tc) 1 (t.map intRow)) (hr : IsRows w (.slice sa s.length sc) 1 (s.map intRow)) :
  Calls Tryz.prog 82 #[.agg #[.int .i64 x.B,.slice x.da x.D.length x.dc,.slice x.la x.L.length x.lc,.int .i64 x.tol],.slice la ls.length lc,.slice ta t.length tc,.slice sa s.length sc] w fun e w'=>e = .returned (.bool (matE x (val t) (val s) ls)) ∧ Ext [] w w':=by
 have E : Ext [] w w:=Ext.refl _ _
 have HX:=Lib.hid h
 have HV:=Lib.hid hv
 have HP:=Lib.hid hp
 have HR:=Lib.hid hr
 have HQ:=Lib.hid (slAt_of_rows hq 0)
 have HS:=Lib.hid hs
 have HL:=Lib.hid hl
 have HB:=Lib.hid hb
 have hl3:=hv.l3
 clear h hv hp hr hq hs hl hb
 refine calls_has 25 Tryz.func82 rfl Tryz.ntmps82 (Nat.le_of_ble_eq_true rfl) ?_
 intro fa F
 refine wp_seq_k fun K1 hK1=>?_
 refine wp_region_lit ?_
 refine sq_new F rfl (by decide) rfl (R_box rfl (F.at rfl)) ?_;clear F fa;intro fa w1 F hw
 obtain ⟨n4,hn⟩ : ∃ n,n = w.heap.size:=⟨_,rfl⟩
 rw [← hn] at F
 have s4 : w.heap.size ≤ n4:=Nat.le_of_eq hn.symm
 have l4_E : w.heap.size ≤ n4:=by rw [hn];exact E.size
 replace E:=ext_alloc E hw
 have q4:=new_row hw hn
 clear hw hn
 refine F.vl (R_assign rfl (ev_c fa _)) ?_;clear F fa;intro fa F
 refine wpList_nil ?_
 refine hK1 _ _ ?_
 clear hK1
 refine wp_seq_k fun K2 hK2=>?_
 refine wp_seq_k fun K3 hK3=>?_
 refine wp_region_lit ?_
 refine F.vl (R_assign rfl (ev_c fa _)) ?_;clear F fa;intro fa F
 refine wpList_nil ?_
 refine hK3 _ _ ?_
 clear hK3
 refine wp_block ?_
 have F0:=F.sub (.c 1 rfl (.c 2 rfl (.c 3 rfl (.c 4 rfl .n))))
 refine lp_for F0 (ls.length) (fun i Lv W=>Lv = [(9,.int .i64 ((i : Nat) : Int))] ∧ Ext [] w W ∧ W.heap[n4]? = some (.cells #[.int .i64 x.B,.slice x.da x.D.length x.dc,.slice x.la x.L.length x.lc,.int .i64 x.tol] 24 (0,0)) ∧ ∀ j,j < i → max (offE x (ls.getD j 0).toNat (val t) (val s)) (-offE x (ls.getD j 0).toNat (val t) (val s)) ≤ x.tol * prt (val t)) ⟨_,⟨rfl,E,q4,(fun j h=>by omega)⟩,F.sub (.c 9 rfl (.c 1 rfl (.c 2 rfl (.c 3 rfl (.c 4 rfl .n)))))⟩ ?_
 clear F F0
 clear E q4
 rintro i _ fa w2 hi1 ⟨rfl,E,q4,hok⟩ F
 refine wp_seq_k fun K4 hK4=>?_
 refine wp_seq_k fun K5 hK5=>?_
 refine wp_region_lit ?_
 refine F.mv ?_;clear F fa;intro fa F
 refine F.mv ?_;clear F fa;intro fa F
 refine F.vl (R_len rfl rfl (F.at rfl) Tryz.underlying25) ?_;clear F fa;intro fa F
 refine F.vl (R_lss rfl (F.at rfl) (F.at rfl)) ?_;clear F fa;intro fa F
 refine wpList_nil ?_
 refine hK5 _ _ ?_
 clear hK5
 refine cd_if F rfl (fun hc13=>?_) (fun hc13=>?_)
 ·skip
  refine wp_skip ?_
  refine hK4 _ _ ?_
  clear hK4
  refine wp_seq_k fun K6 hK6=>?_
  refine wp_block ?_
  refine wp_seq_k fun K7 hK7=>?_
  obtain ⟨hn0,hn1⟩:=HL.out _ (getD_mem 0 (show i < ls.length by omega))
  obtain ⟨k,hk⟩ : ∃ k : Nat,ls.getD i 0 = k:=⟨(ls.getD i 0).toNat,by omega⟩
  refine region_x (Ext [] w2) none follows fun w3 hh eh=>?_
  have q4_:=q4
  replace q4:=keep_same hh q4
  have E_:=E
  have zEw3:=E.size
  replace E:=ext_same E eh
  have eT:=eh
  clear hh eh
  refine F.xr (i:=0) rfl (fun w' hS=>R_loadBlk rfl (F.at rfl) Tryz.underlying24 rfl (by kernel_rfl) (hS.keep q4_ (by simp))) (fun _=>eT) ?_;clear F fa;intro fa F
  refine F.x (i:=1) rfl (fun w'=>R_move rfl (F.at rfl)) (fun _=>eT) ?_;clear F fa;intro fa F
  refine F.x (i:=2) rfl (fun w'=>R_move rfl (F.at rfl)) (fun _=>eT) ?_;clear F fa;intro fa F
  obtain ⟨xb8,xo8,xa8,xr8⟩:=HQ.out i (by omega)
  refine F.x (i:=3) rfl (fun w'=>R_ixSlice (sz:=1) rfl ((F.at rfl).trans (xa8 _ _)) (F.at rfl) Tryz.underlying25 (by kernel_rfl) (by omega) (by omega)) (fun _=>eT) ?_;clear F fa;intro fa F
  refine F.xr (i:=4) rfl (fun w' hS=>R_load rfl (F.at rfl) Tryz.underlying3 rfl (xr8 _ (E_.nil hS) 0 _ rfl)) (fun _=>eT) ?_;clear F fa;intro fa F
  rw [hk] at F
  refine F.x (i:=5) rfl (fun w'=>R_move rfl (F.at rfl)) (fun _=>eT) ?_;clear F fa;intro fa F
  refine F.x (i:=6) rfl (fun w'=>R_move rfl (F.at rfl)) (fun _=>eT) ?_;clear F fa;intro fa F
  refine ax_only (i:=7) (by kernel_rfl) (op_call F rfl rfl (by decide) rfl (R_callV rfl rfl Tryz.call97 (mpS (F.at rfl) (mpS (F.at rfl) (mpS (F.at rfl) (mpS (F.at rfl) mp0))))) (dMatches_ok x HV.out k (by omega) t ht HB.out s HS.out ta sa tc sc _ (HX.out.ext E) (HP.out.ext E (by simp)) (HR.out.ext E (by simp))) fun e w4 hR=>?_)
  obtain ⟨rfl,e9⟩:=hR
  refine ⟨_,rfl,?_⟩;clear F fa;intro fa F
  replace q4:=(e9).keep0 q4
  replace E:=ext_same E (e9)
  replace eT:=ext_same eT (e9)
  clear e9
  refine ⟨fun _=>eT,?_⟩
  refine F.x (i:=8) rfl (fun w'=>R_notD rfl (F.at rfl)) (fun _=>eT) ?_;clear F fa;intro fa F
  refine ax_done (by kernel_rfl) ?_ _
  clear eT q4_ E_
  refine hK7 _ _ ?_
  clear hK7
  refine cd_if F rfl (fun hc24=>?_) (fun hc24=>?_)
  ·skip
   refine wp_seq_k fun K9 hK9=>?_
   refine wp_region_lit ?_
   refine F.vl (R_assign rfl (ev_c fa _)) ?_;clear F fa;intro fa F
   refine wpList_nil ?_
   refine hK9 _ _ ?_
   clear hK9
   refine wp_ret ?_
   (try simp only [Exit.inBlock,Exit.then,reduceIte])
   refine rt_v F (rs_1 F rfl rfl) ?_
   exact ⟨ret_bool (mat_bad (i:=i) (by omega) (by rw [hk,Int.toNat_natCast];have : ¬ (max (offE x k (val t) (val s)) (-offE x k (val t) (val s)) ≤ x.tol * prt (val t)):=(by simpa using hc24);omega)).symm,E⟩
  ·skip
   refine wp_skip ?_
   refine hK6 _ _ ?_
   clear hK6
   refine wp_region_lit ?_
   refine F.mv ?_;clear F fa;intro fa F
   refine F.vl (R_add rfl (F.at rfl) (ev_c fa _) (by omega) (by omega)) ?_;clear F fa;intro fa F
   refine F.as ?_;clear F fa;intro fa F
   refine wpList_nil ?_
   show _ ∧ _
   exact ⟨by omega,_,⟨rfl,E,q4,(fun j h=>by rcases Nat.lt_succ_iff_lt_or_eq.1 h with h | rfl;(· exact hok j h);(· rw [hk,Int.toNat_natCast];simpa using hc24))⟩,F.sub (.c 9 rfl (.c 1 rfl (.c 2 rfl (.c 3 rfl (.c 4 rfl .n)))))⟩
 ·skip
  refine wp_exit ?_
  refine hK2 _ _ ?_
  clear hK2
  refine wp_seq_k fun K10 hK10=>?_
  refine wp_region_lit ?_
  refine F.vl (R_assign rfl (ev_c fa _)) ?_;clear F fa;intro fa F
  refine wpList_nil ?_
  refine hK10 _ _ ?_
  clear hK10
  refine wp_ret ?_
  (try simp only [Exit.inBlock,Exit.then,reduceIte])
  refine rt_v F (rs_1 F rfl rfl) ?_
  exact ⟨ret_bool (mat_all fun j hj=>hok j (by omega)).symm,E⟩
def allL : Nat → Nat → List (List Int)
 | 0,_=>[[]]
 | n + 1,p=>(List.range (p + 1)).flatMap fun k=>(allL n (p - k)).map fun l=>((k : Nat) : Int) :: l
def allT (n p k : Nat) : List (List Int):=(List.range k).flatMap fun j=>(allL n (p - j)).map fun l=>((j : Nat) : Int) :: l
theorem allT_put (n p k : Nat) : allT n p k ++ ((allL n (p - k)).map fun l=>((k : Nat) : Int) :: l) = allT n p (k + 1):=by
 rw [allT,allT,List.range_succ,List.flatMap_append];simp
theorem all_bd : ∀ n,n < 5 → ∀ p,p < 7 → (allL n p).length ≤ 300 ∧ ∀ l ∈ allL n p,l.length = n:=by decide +kernel
theorem allT_bd : ∀ n,n < 4 → ∀ p,p < 7 → ∀ k,k < 8 → (allT n p k).length ≤ 1500:=by decide +kernel
set_option maxRecDepth 100000 in
set_option maxHeartbeats 2000000 in
theorem dAll_step (n p : Nat) (hn : n ≤ 4) (hp : p ≤ 6) (IH : RowKit.Hid (∀ m,m < n → ∀ q,q ≤ 6 → ∀ w : World,Calls Tryz.prog 80 #[.int .i64 (m : Nat),.int .i64 (q : Nat)] w (LisPost (allL m q) w))) (w : World) :
  Calls Tryz.prog 80 #[.int .i64 (n : Nat),.int .i64 (p : Nat)] w (LisPost (allL n p) w):=by
 have E : Ext [] w w:=Ext.refl _ _
 refine calls_has 40 Tryz.func80 rfl Tryz.ntmps80 (Nat.le_of_ble_eq_true rfl) ?_
 intro fa F
 refine wp_seq_k fun K1 hK1=>?_
 refine wp_region_lit ?_
 refine F.vl (R_assign rfl (ev_c fa _)) ?_;clear F fa;intro fa F
 refine wpList_nil ?_
 refine hK1 _ _ ?_
 clear hK1
 refine wp_seq_k fun K2 hK2=>?_
 refine wp_seq_k fun K3 hK3=>?_
 refine wp_region_lit ?_
 refine F.mv ?_;clear F fa;intro fa F
 refine F.vl (R_eqlD rfl (F.at rfl) (ev_c fa _)) ?_;clear F fa;intro fa F
 refine wpList_nil ?_
 refine hK3 _ _ ?_
 clear hK3
 refine cd_if F rfl (fun hc10=>?_) (fun hc10=>?_)
 ·skip
  obtain rfl : n = 0:=by omega
  refine wp_seq_k fun K4 hK4=>?_
  refine wp_region_lit ?_
  refine sq_new F rfl (by decide) rfl (R_buildSliceV rfl (prS (ev_c fa _) pr0) Tryz.underlying22 (size:=1) (by kernel_rfl) (by decide) (by decide) Tryz.zeroValue25 (cells:=#[.slice none 0 0]) (by kernel_rfl)) ?_;clear F fa;intro fa w1 F hw
  obtain ⟨n11,hn⟩ : ∃ n,n = w.heap.size:=⟨_,rfl⟩
  rw [← hn] at F
  have s11 : w.heap.size ≤ n11:=Nat.le_of_eq hn.symm
  have l11_E : w.heap.size ≤ n11:=by rw [hn];exact E.size
  replace E:=ext_alloc E hw
  have q11:=new_block hw hn
  clear hw hn
  refine F.as ?_;clear F fa;intro fa F
  refine wpList_nil ?_
  obtain ⟨O0,hO0⟩ : ∃ O0,O0 = [(Value.slice none 0 0,([] : List Int))]:=⟨_,rfl⟩
  have o1 : w1.ownsRow w.heap.size 25 1 (.slice (some ⟨n11,0,none⟩) O0.length 1) O0.length (O0.map (·.1)):=by rw [hO0];exact owns_lit1 q11 (by omega)
  have f1 : FamT w1 w.heap.size O0:=by rw [hO0];exact ⟨fun p hp=>by obtain rfl : p = (Value.slice none 0 0,([] : List Int)):=(by simpa using hp);exact World.ownsRow_nil _ _ _ _,List.pairwise_singleton _ _⟩
  refine hK4 _ _ ?_
  clear hK4
  refine wp_ret ?_
  (try simp only [Exit.inBlock,Exit.then,reduceIte])
  refine rt_v F (rs_1 F rfl rfl) ?_
  rw [show (Value.slice (some ⟨n11,0,none⟩) 1 1) = .slice (some ⟨n11,0,none⟩) O0.length 1 by rw [hO0];rfl];exact ⟨O0,_,_,rfl,by rw [hO0];rfl,o1,f1,E⟩
 ·skip
  obtain ⟨m,rfl⟩ : ∃ m,n = m + 1:=⟨n - 1,by omega⟩
  refine wp_skip ?_
  refine hK2 _ _ ?_
  clear hK2
  refine wp_seq_k fun K5 hK5=>?_
  refine wp_region_lit ?_
  refine F.vl (R_assign rfl (ev_c fa _)) ?_;clear F fa;intro fa F
  refine wpList_nil ?_
  have oo : w.ownsRow w.heap.size 25 1 (.slice none 0 0) 0 (([] : List (Value × List Int)).map (·.1)):=World.ownsRow_nil _ _ _ _
  have fam : FamT w w.heap.size []:=fam_nil _ _
  refine hK5 _ _ ?_
  clear hK5
  refine wp_seq_k fun K6 hK6=>?_
  refine wp_seq_k fun K7 hK7=>?_
  refine wp_region_lit ?_
  refine F.vl (R_assign rfl (ev_c fa _)) ?_;clear F fa;intro fa F
  refine wpList_nil ?_
  refine hK7 _ _ ?_
  clear hK7
  refine wp_block ?_
  have F0:=F.sub (.c 0 rfl (.c 1 rfl .n))
  refine lp_for F0 (p + 1) (fun k Lv W=>∃ va : Option Addr,∃ vc : Nat,∃ O : List (Value × List Int),Lv = [(5,.slice va O.length vc),(6,.int .i64 ((k : Nat) : Int))] ∧ Ext [] w W ∧ W.ownsRow w.heap.size 25 1 (.slice va O.length vc) O.length (O.map (·.1)) ∧ FamT W w.heap.size O ∧ O.map (·.2) = allT m p k) ⟨_,⟨none,0,[],rfl,E,oo,fam,rfl⟩,F.sub (.c 5 rfl (.c 6 rfl (.c 0 rfl (.c 1 rfl .n))))⟩ ?_
  clear F F0
  clear E
  clear oo
  clear fam
  rintro k _ fa w2 hi1 ⟨va,vc,O,rfl,E,oo,fam,hO⟩ F
  refine wp_seq_k fun K8 hK8=>?_
  refine wp_seq_k fun K9 hK9=>?_
  refine wp_region_lit ?_
  refine F.mv ?_;clear F fa;intro fa F
  refine F.mv ?_;clear F fa;intro fa F
  refine F.vl (R_leq rfl (F.at rfl) (F.at rfl)) ?_;clear F fa;intro fa F
  refine wpList_nil ?_
  refine hK9 _ _ ?_
  clear hK9
  refine cd_if F rfl (fun hc14=>?_) (fun hc14=>?_)
  ·skip
   refine wp_skip ?_
   refine hK8 _ _ ?_
   clear hK8
   refine wp_seq_k fun K10 hK10=>?_
   refine wp_block ?_
   refine wp_seq_k fun K11 hK11=>?_
   refine wp_region_lit ?_
   refine F.mv ?_;clear F fa;intro fa F
   refine F.vl (R_sub rfl (F.at rfl) (ev_c fa _) (by omega) (by omega)) ?_;clear F fa;intro fa F
   rw [show (((m + 1 : Nat) : Int) - 1) = ((m : Nat) : Int) by omega] at F
   refine F.mv ?_;clear F fa;intro fa F
   refine F.mv ?_;clear F fa;intro fa F
   refine F.vl (R_sub rfl (F.at rfl) (F.at rfl) (by omega) (by omega)) ?_;clear F fa;intro fa F
   rw [show (((p : Nat) : Int) - ((k : Nat) : Int)) = ((p - k : Nat) : Int) by omega] at F
   have hflt0:=Lib.hid (fam_lt fam)
   have hol:=Lib.hid (fun b e=>(oo.lt b e).2)
   obtain ⟨B0,hB0⟩ : ∃ B0,B0 = w2.heap.size:=⟨_,rfl⟩
   rw [← hB0] at hflt0 hol
   have hB0w : w.heap.size ≤ B0:=by rw [hB0];exact E.size
   refine sq_call F rfl (by decide) rfl (R_callV rfl rfl Tryz.call80 (mpS (F.at rfl) (mpS (F.at rfl) mp0))) (IH.out m (by omega) (p - k) (by omega) _) fun e w3 hR=>?_
   obtain ⟨R,ra,rc,rfl,hR,ro,rf,e9⟩:=hR
   refine ⟨_,rfl,?_⟩;clear F fa;intro fa F
   replace oo:=owns_ext oo (e9) (by simp)
   replace fam:=fam_lift fam fun _ _ _ h=>owns_ext h (e9) (by simp)
   replace E:=ext_same E (e9)
   clear e9
   rw [← hB0] at ro rf
   have hap : RowKit.Hid ((Value.slice ra R.length rc).ownBlock = none ∨ (Value.slice ra R.length rc).ownBlock ≠ (Value.slice va O.length vc).ownBlock):=Lib.hid (by cases hb : (Value.slice ra R.length rc).ownBlock with | none=>exact .inl rfl | some b=>exact .inr (fun e=>by have h1:=(ro.lt b hb).1;have h2:=hol.out b e.symm;omega))
   have rr:=owns_lower ro hB0w
   have fam2:=fam_join (b1:=B0) (L:=R) rf fam hflt0.out hB0w
   clear ro rf fam hol hflt0
   have fam:=fam2
   clear fam2
   obtain ⟨hab,hal⟩:=all_bd m (by omega) (p - k) (by omega)
   have hRl : R.length ≤ 300:=(by rw [← List.length_map (f:=fun p : Value × List Int=>p.2),hR];exact hab)
   have hRm : RowKit.Hid (∀ q ∈ R,q.2.length = m):=Lib.hid (fun q hq=>hal _ (by rw [← hR];exact List.mem_map.2 ⟨q,hq,rfl⟩))
   clear hab hal
   refine F.as ?_;clear F fa;intro fa F
   refine wpList_nil ?_
   refine hK11 _ _ ?_
   clear hK11
   refine wp_seq_k fun K12 hK12=>?_
   refine wp_region_lit ?_
   refine F.vl (R_assign rfl (ev_c fa _)) ?_;clear F fa;intro fa F
   refine wpList_nil ?_
   refine hK12 _ _ ?_
   clear hK12
   refine wp_block ?_
   have F0:=F.sub (.c 0 rfl (.c 1 rfl (.c 6 rfl (.c 7 rfl .n))))
   refine lp_for F0 (R.length) (fun i Lv W=>∃ va2 : Option Addr,∃ vc2 : Nat,∃ P : List (Value × List Int),Lv = [(5,.slice va2 P.length vc2),(8,.int .i64 ((i : Nat) : Int))] ∧ Ext [] w W ∧ W.ownsRow w.heap.size 25 1 (.slice ra R.length rc) R.length (R.map (·.1)) ∧ W.ownsRow w.heap.size 25 1 (.slice va2 P.length vc2) P.length (P.map (·.1)) ∧ FamT W w.heap.size (R ++ P) ∧ RowKit.Hid ((Value.slice ra R.length rc).ownBlock = none ∨ (Value.slice ra R.length rc).ownBlock ≠ (Value.slice va2 P.length vc2).ownBlock) ∧ P.map (·.2) = allT m p k ++ ((R.map (·.2)).take i).map fun l=>((k : Nat) : Int) :: l) ⟨_,⟨va,vc,O,rfl,E,rr,oo,fam,hap,(by rw [hO];simp)⟩,F.sub (.c 5 rfl (.c 8 rfl (.c 0 rfl (.c 1 rfl (.c 6 rfl (.c 7 rfl .n))))))⟩ ?_
   clear F F0
   clear E rr
   clear oo
   clear fam
   rintro i _ fa w4 hi2 ⟨va2,vc2,P,rfl,E,rr,oo,fam,hap,hP⟩ F
   have hPl : P.length ≤ 2000:=by have h:=congrArg List.length hP;simp only [List.length_map,List.length_append,List.length_take] at h;have h2:=allT_bd m (by omega) p (by omega) k (by omega);omega
   refine wp_seq_k fun K13 hK13=>?_
   refine wp_seq_k fun K14 hK14=>?_
   refine wp_region_lit ?_
   refine F.mv ?_;clear F fa;intro fa F
   refine F.mv ?_;clear F fa;intro fa F
   refine F.vl (R_len rfl rfl (F.at rfl) Tryz.underlying22) ?_;clear F fa;intro fa F
   refine F.vl (R_lss rfl (F.at rfl) (F.at rfl)) ?_;clear F fa;intro fa F
   refine wpList_nil ?_
   refine hK14 _ _ ?_
   clear hK14
   refine cd_if F rfl (fun hc26=>?_) (fun hc26=>?_)
   ·skip
    refine wp_skip ?_
    refine hK13 _ _ ?_
    clear hK13
    refine wp_seq_k fun K15 hK15=>?_
    refine wp_block ?_
    have EX : Ext [] w4 w4:=Ext.refl _ _
    have HS:=Lib.hid (slAt_of_outer rr rfl)
    have hmm : R.getD i (.bool true,[]) ∈ R ++ P:=List.mem_append_left _ (getD_mem _ (by omega))
    obtain ⟨la,lca,hla,hlr⟩:=fam_row fam hmm
    have HLR:=Lib.hid hlr
    have hlm:=hRm.out _ (getD_mem (.bool true,[]) (show i < R.length by omega))
    refine wp_region_lit ?_
    refine F.mv ?_;clear F fa;intro fa F
    refine F.mv ?_;clear F fa;intro fa F
    have hflt:=Lib.hid (fam_lt fam)
    obtain ⟨B1,hB1⟩ : ∃ B1,B1 = w4.heap.size:=⟨_,rfl⟩
    rw [← hB1] at hflt
    have hB1w : w.heap.size ≤ B1:=(by rw [hB1];exact E.size)
    have hB1X:=EX.size
    rw [← hB1] at hB1X
    refine sq_new F rfl (by decide) rfl (R_buildSliceV rfl (prS (F.at rfl) pr0) Tryz.underlying25 (size:=1) (by kernel_rfl) (by decide) (by decide) Tryz.zeroValue3 (cells:=#[.int .i64 ((k : Nat) : Int)]) (by kernel_rfl)) ?_;clear F fa;intro fa w5 F hw
    obtain ⟨n31,hn⟩ : ∃ n,n = w4.heap.size:=⟨_,rfl⟩
    rw [← hn] at F
    have s31 : w4.heap.size ≤ n31:=Nat.le_of_eq hn.symm
    have l31_E : w.heap.size ≤ n31:=by rw [hn];exact E.size
    have l31_EX : w4.heap.size ≤ n31:=by rw [hn];exact EX.size
    have o31_oo:=Lib.hid (own_ne_new oo hn)
    have o31_rr:=Lib.hid (own_ne_new rr hn)
    replace oo:=owns_alloc hw oo
    replace fam:=fam_lift fam fun _ _ _ h=>owns_alloc hw h
    replace rr:=owns_alloc hw rr
    replace E:=ext_alloc E hw
    replace EX:=ext_alloc EX hw
    have q31:=new_block hw hn
    clear hw hn
    have oi:=owns_lower (base':=B1) (own_of_block q31 (n:=1) (size:=1) rfl (by decide)) (show B1 ≤ n31 by omega)
    refine F.mv ?_;clear F fa;intro fa F
    refine F.mv ?_;clear F fa;intro fa F
    obtain ⟨xb16,xo16,xa16,xr16⟩:=HS.out i (by omega)
    refine F.vl (R_ixSlice (sz:=1) rfl ((F.at rfl).trans (xa16 _ _)) (F.at rfl) Tryz.underlying22 (by kernel_rfl) (by omega) (by omega)) ?_;clear F fa;intro fa F
    refine F.vl (R_load rfl (F.at rfl) Tryz.underlying25 rfl (xr16 _ EX 0 _ rfl)) ?_;clear F fa;intro fa F
    rw [hla] at F
    have hB7:=EX.size
    have hE7 : B1 ≤ w5.heap.size:=(by have:=(oi.lt n31 rfl).2;have:=(oi.lt n31 rfl).1;omega)
    refine sq_some F rfl (by decide) rfl (appends_run rfl (B1) (e:=3) (size:=1) (bytes:=8) Tryz.underlying25 (by kernel_rfl) (by decide) (F.at rfl) oi (F.at rfl) (srcAt_of_rows (HLR.out.ext EX (by simp)) (by decide) (fun _=>rfl) intRow_one) (by omega) (by omega) (by omega)) ?_;clear F fa;rintro fa v' w6 F ⟨hown',hg⟩
    obtain ⟨va36,vc36,rfl⟩:=owns_slice hown'
    replace oo:=owns_other oo oi hg (by decide)
    replace fam:=fam_below fam hflt.out oi hg
    replace rr:=owns_other rr oi hg (by decide)
    replace E:=ext_appendX E oi hg (by omega)
    replace EX:=ext_appendX EX oi hg (by omega)
    replace oi:=hown'
    clear hg
    obtain ⟨S,hSe⟩ : ∃ S,S = ((k : Nat) : Int) :: (R.getD i (.bool true,[])).2:=⟨_,rfl⟩
    have hSl : 1 + (R.getD i (.bool true,[])).2.length = S.length:=(by rw [hSe,List.length_cons];omega)
    rw [← ivs_flat,show [Value.int .i64 ((k : Nat) : Int)] ++ ivs (R.getD i (.bool true,[])).2 = ivs S by rw [hSe];rfl,hSl] at oi
    rw [hSl] at F
    have fam2:=fam_perm (fam_join (b1:=B1) (L:=[(Value.slice va36 S.length vc36,S)]) ⟨fun p hp=>(by obtain rfl : p = (Value.slice va36 S.length vc36,S):=(by simpa using hp);exact oi),List.pairwise_singleton _ _⟩ fam hflt.out hB1w) (M:=(R ++ P) ++ [(Value.slice va36 S.length vc36,S)]) List.perm_append_comm
    rw [List.append_assoc] at fam2
    clear fam oi
    have fam:=fam2
    clear fam2
    refine sq_new F rfl (by decide) rfl (R_buildSliceV rfl (prS (F.at rfl) pr0) Tryz.underlying22 (size:=1) (by kernel_rfl) (by decide) (by decide) Tryz.zeroValue25 (cells:=#[.slice va36 S.length vc36]) (by kernel_rfl)) ?_;clear F fa;intro fa w7 F hw
    obtain ⟨n37,hn⟩ : ∃ n,n = w6.heap.size:=⟨_,rfl⟩
    rw [← hn] at F
    have s37 : w6.heap.size ≤ n37:=Nat.le_of_eq hn.symm
    have l37_E : w.heap.size ≤ n37:=by rw [hn];exact E.size
    have o37_oo:=Lib.hid (own_ne_new oo hn)
    have o37_rr:=Lib.hid (own_ne_new rr hn)
    replace oo:=owns_alloc hw oo
    replace fam:=fam_lift fam fun _ _ _ h=>owns_alloc hw h
    replace rr:=owns_alloc hw rr
    replace E:=ext_alloc E hw
    have q37:=new_block hw hn
    clear hw hn
    have hEs2:=E.size
    refine sq_some F rfl (by decide) rfl (append_runB rfl (w.heap.size) (e:=25) (size:=1) (bytes:=24) Tryz.underlying22 (by kernel_rfl) (by decide) (F.at rfl) oo (F.at rfl) q37 rfl (by simp [Value.oneCell']) (by omega) (by omega) (by omega)) ?_;clear F fa;rintro fa v' w8 F ⟨hown',⟨hg,hblk⟩⟩
    obtain ⟨va38,vc38,rfl⟩:=owns_slice hown'
    have hap2:=own_apart2 hap.out rr hblk
    replace fam:=fam_lift fam fun _ _ _ h=>owns_other h oo hg (by decide)
    replace rr:=rr.kept hg hap.out
    replace E:=ext_appendX E oo hg (by omega)
    replace oo:=hown'
    clear hg
    obtain ⟨P2,hP2e⟩ : ∃ P2,P2 = P ++ [(Value.slice va36 S.length vc36,S)]:=⟨_,rfl⟩
    have hPl3 : P.length + 1 = P2.length:=by rw [hP2e,List.length_append];rfl
    have hP3 : P2.map (·.2) = allT m p k ++ ((R.map (·.2)).take (i + 1)).map fun l=>((k : Nat) : Int) :: l:=by rw [hP2e,List.map_append,hP,take_getD (R.map (·.2)) [] (by rw [List.length_map];omega),List.map_append,← List.append_assoc,key_getD R (by omega),hSe];rfl
    rw [show P.map (·.1) ++ [Value.slice va36 S.length vc36] = P2.map (·.1) by rw [hP2e,List.map_append];rfl,hPl3] at oo
    rw [hPl3] at F hap2
    rw [← hP2e] at fam
    clear hap hblk
    have hap:=Lib.hid hap2
    clear hap2
    refine F.as ?_;clear F fa;intro fa F
    refine wpList_nil ?_
    refine hK15 _ _ ?_
    clear hK15
    refine wp_region_lit ?_
    refine F.mv ?_;clear F fa;intro fa F
    refine F.vl (R_add rfl (F.at rfl) (ev_c fa _) (by omega) (by omega)) ?_;clear F fa;intro fa F
    refine F.as ?_;clear F fa;intro fa F
    refine wpList_nil ?_
    show _ ∧ _
    exact ⟨by omega,_,⟨_,_,_,rfl,E,rr,oo,fam,hap,hP3⟩,F.sub (.c 5 rfl (.c 8 rfl (.c 0 rfl (.c 1 rfl (.c 6 rfl (.c 7 rfl .n))))))⟩
   ·skip
    refine wp_exit ?_
    have hO4 : P.map (·.2) = allT m p (k + 1):=(by rw [hP,List.take_of_length_le (by rw [List.length_map];omega),hR,allT_put])
    replace fam:=fam_right fam
    refine hK10 _ _ ?_
    clear hK10
    refine wp_region_lit ?_
    refine F.mv ?_;clear F fa;intro fa F
    refine F.vl (R_add rfl (F.at rfl) (ev_c fa _) (by omega) (by omega)) ?_;clear F fa;intro fa F
    refine F.as ?_;clear F fa;intro fa F
    refine wpList_nil ?_
    show _ ∧ _
    exact ⟨by omega,_,⟨_,_,_,rfl,E,oo,fam,hO4⟩,F.sub (.c 5 rfl (.c 6 rfl (.c 0 rfl (.c 1 rfl .n))))⟩
  ·skip
   refine wp_exit ?_
   rw [show k = p + 1 by omega] at hO
   refine hK6 _ _ ?_
   clear hK6
   refine wp_seq_k fun K17 hK17=>?_
   refine wp_region_lit ?_
   refine F.mv ?_;clear F fa;intro fa F
   refine F.as ?_;clear F fa;intro fa F
   refine wpList_nil ?_
   refine hK17 _ _ ?_
   clear hK17
   refine wp_ret ?_
   (try simp only [Exit.inBlock,Exit.then,reduceIte])
   refine rt_v F (rs_1 F rfl rfl) ?_
   exact ⟨O,va,vc,rfl,hO,oo,fam,E⟩
theorem dAll_any : ∀ (n : Nat),n ≤ 4 → ∀ p,p ≤ 6 → ∀ w : World,Calls Tryz.prog 80 #[.int .i64 (n : Nat),.int .i64 (p : Nat)] w (LisPost (allL n p) w):=fun n =>
 Nat.strongRecOn n fun n ih hn p hp w=>dAll_step n p hn hp (Lib.hid fun m hm q hq w=>ih m hm (by omega) q hq w) w
def wideB (L : List (List Int)) : Bool:=(L.take 21).any (fun l=>decide (20 < l.length)) || decide (20 < L.length)
theorem wide_no {L : List (List Int)} (h : wideB L = false) : L.length ≤ 20 ∧ ∀ l ∈ L,l.length ≤ 20:=by
 simp only [wideB,Bool.or_eq_false_iff,decide_eq_false_iff_not] at h
 refine ⟨by omega,fun l hl=>?_⟩
 have:=List.any_eq_false.1 h.1 l (by rw [List.take_of_length_le (by omega)];exact hl)
 simpa using this
theorem wide_some {L : List (List Int)} {i : Nat} (h : i < L.length) (hi : i < 21) (hc : 20 < (L.getD i []).length) : wideB L = true:=by
 rw [wideB,List.any_eq_true.2 ⟨L.getD i [],?_,decide_eq_true hc⟩,Bool.true_or]
 rw [List.getD_eq_getElem?_getD,List.getElem?_eq_getElem h]
 exact List.mem_take_iff_getElem.2 ⟨i,by omega,rfl⟩
theorem wide_end {L : List (List Int)} {i : Nat} (h : ∀ j,j < i → (L.getD j []).length ≤ 20) (hi : L.length ≤ i ∨ 21 ≤ i) : wideB L = decide (20 < L.length):=by
 rw [wideB,List.any_eq_false.2,Bool.false_or]
 intro l hl
 obtain ⟨j,hj,rfl⟩:=List.mem_take_iff_getElem.1 hl
 have:=h j (by omega)
 rw [List.getD_eq_getElem?_getD,List.getElem?_eq_getElem (by omega)] at this
 simpa using this
set_option maxRecDepth 100000 in
theorem wide_any (L : List (Value × List Int)) (a : Option Addr) (c : Nat) (w : World) (h : LolAt w a L) : Calls Tryz.prog 23 #[.slice a L.length c] w fun e w'=>e = .returned (.bool (wideB (L.map (·.2)))) ∧ Ext [] w w':=by
 have E : Ext [] w w:=Ext.refl _ _
 have HA:=Lib.hid h
 have HS:=Lib.hid h.1
 clear h
 refine calls_has 23 Tryz.func23 rfl Tryz.ntmps23 (Nat.le_of_ble_eq_true rfl) ?_
 intro fa F
 refine wp_seq_k fun K1 hK1=>?_
 refine wp_region_lit ?_
 refine F.vl (R_assign rfl (ev_c fa _)) ?_;clear F fa;intro fa F
 refine wpList_nil ?_
 refine hK1 _ _ ?_
 clear hK1
 refine wp_seq_k fun K2 hK2=>?_
 refine wp_seq_k fun K3 hK3=>?_
 refine wp_region_lit ?_
 refine F.vl (R_assign rfl (ev_c fa _)) ?_;clear F fa;intro fa F
 refine wpList_nil ?_
 refine hK3 _ _ ?_
 clear hK3
 refine wp_block ?_
 have F0:=F.sub (.c 0 rfl .n)
 refine lp_for F0 (L.length) (fun i Lv W=>Lv = [(3,.int .i64 ((i : Nat) : Int))] ∧ Ext [] w W ∧ ∀ j,j < i → ((L.map (·.2)).getD j []).length ≤ 20) ⟨_,⟨rfl,E,(fun j h=>by omega)⟩,F.sub (.c 3 rfl (.c 0 rfl .n))⟩ ?_
 clear F F0
 clear E
 rintro i _ fa w1 hi1 ⟨rfl,E,hs⟩ F
 refine wp_seq_k fun K4 hK4=>?_
 refine wp_seq_k fun K5 hK5=>?_
 refine wp_region_lit ?_
 refine F.mv ?_;clear F fa;intro fa F
 refine F.mv ?_;clear F fa;intro fa F
 refine F.vl (R_len rfl rfl (F.at rfl) Tryz.underlying22) ?_;clear F fa;intro fa F
 refine F.vl (R_lss rfl (F.at rfl) (F.at rfl)) ?_;clear F fa;intro fa F
 refine F.mv ?_;clear F fa;intro fa F
 by_cases hg1 : (((i : Nat) : Int) < ((L.length : Nat) : Int))
 ·skip
  replace F:=F.re (k:=8) rfl (congrArg Value.bool (decide_eq_true hg1))
  refine F.mv ?_ (hw:=(wantT F rfl rfl (by decide) rfl));clear F fa;intro fa F
  refine F.vl (R_lss rfl (F.at rfl) (ev_c fa _)) ?_ (hw:=(wantT F rfl rfl (by decide) rfl));clear F fa;intro fa F
  refine F.vl (R_pickT rfl (F.at rfl) (F.at rfl)) ?_;clear F fa;intro fa F
  refine wpList_nil ?_
  refine hK5 _ _ ?_
  clear hK5
  refine cd_if F rfl (fun hc11=>?_) (fun hc11=>?_)
  ·skip
   refine wp_skip ?_
   refine hK4 _ _ ?_
   clear hK4
   refine wp_seq_k fun K6 hK6=>?_
   refine wp_block ?_
   refine wp_seq_k fun K7 hK7=>?_
   obtain ⟨la,lca,hla,hlr⟩:=HA.out.2 _ (getD_mem (.bool true,[]) (show i < L.length by omega))
   have hkg:=key_getD L (show i < L.length by omega)
   refine wp_region_lit ?_
   refine F.mv ?_;clear F fa;intro fa F
   refine F.mv ?_;clear F fa;intro fa F
   obtain ⟨xb8,xo8,xa8,xr8⟩:=HS.out i (by omega)
   refine F.vl (R_ixSlice (sz:=1) rfl ((F.at rfl).trans (xa8 _ _)) (F.at rfl) Tryz.underlying22 (by kernel_rfl) (by omega) (by omega)) ?_;clear F fa;intro fa F
   refine F.vl (R_load rfl (F.at rfl) Tryz.underlying25 rfl (xr8 _ E 0 _ rfl)) ?_;clear F fa;intro fa F
   rw [hla] at F
   refine F.vl (R_len rfl rfl (F.at rfl) Tryz.underlying25) ?_;clear F fa;intro fa F
   refine F.vl (R_gtr rfl (F.at rfl) (ev_c fa _)) ?_;clear F fa;intro fa F
   refine wpList_nil ?_
   refine hK7 _ _ ?_
   clear hK7
   refine cd_if F rfl (fun hc19=>?_) (fun hc19=>?_)
   ·skip
    refine wp_seq_k fun K9 hK9=>?_
    refine wp_region_lit ?_
    refine F.vl (R_assign rfl (ev_c fa _)) ?_;clear F fa;intro fa F
    refine wpList_nil ?_
    refine hK9 _ _ ?_
    clear hK9
    refine wp_ret ?_
    (try simp only [Exit.inBlock,Exit.then,reduceIte])
    refine rt_v F (rs_1 F rfl rfl) ?_
    exact ⟨ret_bool (wide_some (i:=i) (by rw [List.length_map];omega) (by omega) (by rw [hkg];omega)).symm,E⟩
   ·skip
    refine wp_skip ?_
    refine hK6 _ _ ?_
    clear hK6
    refine wp_region_lit ?_
    refine F.mv ?_;clear F fa;intro fa F
    refine F.vl (R_add rfl (F.at rfl) (ev_c fa _) (by omega) (by omega)) ?_;clear F fa;intro fa F
    refine F.as ?_;clear F fa;intro fa F
    refine wpList_nil ?_
    show _ ∧ _
    exact ⟨by omega,_,⟨rfl,E,(fun j h=>by rcases Nat.lt_succ_iff_lt_or_eq.1 h with h | rfl;(· exact hs j h);(· rw [key_getD L (by omega)];omega))⟩,F.sub (.c 3 rfl (.c 0 rfl .n))⟩
  ·skip
   refine wp_exit ?_
   refine hK2 _ _ ?_
   clear hK2
   refine wp_seq_k fun K10 hK10=>?_
   refine wp_region_lit ?_
   refine F.mv ?_;clear F fa;intro fa F
   refine F.vl (R_len rfl rfl (F.at rfl) Tryz.underlying22) ?_;clear F fa;intro fa F
   refine F.vl (R_gtr rfl (F.at rfl) (ev_c fa _)) ?_;clear F fa;intro fa F
   refine F.as ?_;clear F fa;intro fa F
   refine wpList_nil ?_
   refine hK10 _ _ ?_
   clear hK10
   refine wp_ret ?_
   (try simp only [Exit.inBlock,Exit.then,reduceIte])
   refine rt_v F (rs_1 F rfl rfl) ?_
   exact ⟨ret_bool (by rw [wide_end hs (by rw [List.length_map];omega),List.length_map];exact decide_eq_decide.2 (by omega)),E⟩
 ·skip
  replace F:=F.re (k:=8) rfl (congrArg Value.bool (decide_eq_false hg1))
  refine sq_no F rfl (by decide) (wantF F rfl rfl (by decide) rfl (by decide)) ?_;clear F fa;intro fa F
  refine sq_no F rfl (by decide) (wantF F rfl rfl (by decide) rfl (by decide)) ?_;clear F fa;intro fa F
  refine F.vl (R_pickF rfl (F.at rfl) (ev_c fa _)) ?_;clear F fa;intro fa F
  refine wpList_nil ?_
  refine hK5 _ _ ?_
  clear hK5
  refine cd_F F rfl ?_
  refine wp_exit ?_
  refine hK2 _ _ ?_
  clear hK2
  refine wp_seq_k fun K11 hK11=>?_
  refine wp_region_lit ?_
  refine F.mv ?_;clear F fa;intro fa F
  refine F.vl (R_len rfl rfl (F.at rfl) Tryz.underlying22) ?_;clear F fa;intro fa F
  refine F.vl (R_gtr rfl (F.at rfl) (ev_c fa _)) ?_;clear F fa;intro fa F
  refine F.as ?_;clear F fa;intro fa F
  refine wpList_nil ?_
  refine hK11 _ _ ?_
  clear hK11
  refine wp_ret ?_
  (try simp only [Exit.inBlock,Exit.then,reduceIte])
  refine rt_v F (rs_1 F rfl rfl) ?_
  exact ⟨ret_bool (by rw [wide_end hs (by rw [List.length_map];omega),List.length_map];exact decide_eq_decide.2 (by omega)),E⟩
def longV (x : Vm) : Bool:=wideB (x.D.map (·.2)) || wideB (x.L.map (·.2))
theorem longV_no {x : Vm} (h : longV x = false) : (x.D.length ≤ 20 ∧ ∀ p ∈ x.D,p.2.length ≤ 20) ∧ (x.L.length ≤ 20 ∧ ∀ p ∈ x.L,p.2.length ≤ 20):=by
 simp only [longV,Bool.or_eq_false_iff] at h
 have h1:=wide_no h.1
 have h2:=wide_no h.2
 rw [List.length_map] at h1 h2
 exact ⟨⟨h1.1,fun p hp=>h1.2 _ (List.mem_map.2 ⟨p,hp,rfl⟩)⟩,⟨h2.1,fun p hp=>h2.2 _ (List.mem_map.2 ⟨p,hp,rfl⟩)⟩⟩
set_option maxRecDepth 100000 in
theorem long_any (x : Vm) (w : World) (h : x.At w) : Calls Tryz.prog 4 #[.agg #[.int .i64 x.B,.slice x.da x.D.length x.dc,.slice x.la x.L.length x.lc,.int .i64 x.tol]] w fun e w'=>e = .returned (.bool (longV x)) ∧ Ext [] w w':=by
 have E : Ext [] w w:=Ext.refl _ _
 have HX:=Lib.hid h
 have hl : longV x = (wideB (x.D.map (·.2)) || wideB (x.L.map (·.2))):=rfl
 clear h
 refine calls_has 11 Tryz.func4 rfl Tryz.ntmps4 (Nat.le_of_ble_eq_true rfl) ?_
 intro fa F
 refine wp_seq_k fun K1 hK1=>?_
 refine wp_region_lit ?_
 refine sq_new F rfl (by decide) rfl (R_box rfl (F.at rfl)) ?_;clear F fa;intro fa w1 F hw
 obtain ⟨n1,hn⟩ : ∃ n,n = w.heap.size:=⟨_,rfl⟩
 rw [← hn] at F
 have s1 : w.heap.size ≤ n1:=Nat.le_of_eq hn.symm
 have l1_E : w.heap.size ≤ n1:=by rw [hn];exact E.size
 replace E:=ext_alloc E hw
 have q1:=new_row hw hn
 clear hw hn
 refine F.vl (R_assign rfl (ev_c fa _)) ?_;clear F fa;intro fa F
 refine wpList_nil ?_
 refine hK1 _ _ ?_
 clear hK1
 refine wp_seq_k fun K2 hK2=>?_
 by_cases c1 : wideB (x.D.map (·.2)) = true
 ·skip
  refine wp_region_lit ?_
  refine F.vl (R_field rfl (F.at rfl) Tryz.underlying24 rfl (n:=1) (sz:=1) rfl (by kernel_rfl) (by decide)) ?_;clear F fa;intro fa F
  refine F.vl (R_load rfl (F.at rfl) Tryz.underlying22 rfl ((cells_of_block q1 1).trans (getS (get0)))) ?_;clear F fa;intro fa F
  refine sq_call F rfl (by decide) rfl (R_callV rfl rfl Tryz.call23 (mpS (F.at rfl) mp0)) (wide_any x.D _ _ _ (HX.out.d.ext E)) fun e w2 hR=>?_
  obtain ⟨rfl,e9⟩:=hR
  refine ⟨_,rfl,?_⟩;clear F fa;intro fa F
  replace q1:=(e9).keep0 q1
  replace E:=ext_same E (e9)
  clear e9
  rw [c1] at F
  refine F.mv ?_;clear F fa;intro fa F
  refine sq_no F rfl (by decide) (wantF F rfl rfl (by decide) rfl (by decide)) ?_;clear F fa;intro fa F
  refine sq_no F rfl (by decide) (wantF F rfl rfl (by decide) rfl (by decide)) ?_;clear F fa;intro fa F
  refine sq_no F rfl (by decide) (wantF F rfl rfl (by decide) rfl (by decide)) ?_;clear F fa;intro fa F
  refine F.vl (R_pickT rfl (F.at rfl) (ev_c fa _)) ?_;clear F fa;intro fa F
  refine F.as ?_;clear F fa;intro fa F
  refine wpList_nil ?_
  rw [c1,Bool.true_or] at hl
  refine hK2 _ _ ?_
  clear hK2
  refine wp_ret ?_
  (try simp only [Exit.inBlock,Exit.then,reduceIte])
  refine rt_v F (rs_1 F rfl rfl) ?_
  exact ⟨ret_bool hl.symm,E⟩
 ·skip
  refine wp_region_lit ?_
  refine F.vl (R_field rfl (F.at rfl) Tryz.underlying24 rfl (n:=1) (sz:=1) rfl (by kernel_rfl) (by decide)) ?_;clear F fa;intro fa F
  refine F.vl (R_load rfl (F.at rfl) Tryz.underlying22 rfl ((cells_of_block q1 1).trans (getS (get0)))) ?_;clear F fa;intro fa F
  refine sq_call F rfl (by decide) rfl (R_callV rfl rfl Tryz.call23 (mpS (F.at rfl) mp0)) (wide_any x.D _ _ _ (HX.out.d.ext E)) fun e w3 hR=>?_
  obtain ⟨rfl,e9⟩:=hR
  refine ⟨_,rfl,?_⟩;clear F fa;intro fa F
  replace q1:=(e9).keep0 q1
  replace E:=ext_same E (e9)
  clear e9
  rw [Bool.eq_false_iff.2 c1] at F
  refine F.mv ?_;clear F fa;intro fa F
  refine F.vl (R_field rfl (F.at rfl) Tryz.underlying24 rfl (n:=2) (sz:=1) rfl (by kernel_rfl) (by decide)) ?_ (hw:=(wantT F rfl rfl (by decide) rfl));clear F fa;intro fa F
  refine F.vl (R_load rfl (F.at rfl) Tryz.underlying22 rfl ((cells_of_block q1 2).trans (getS (getS (get0))))) ?_ (hw:=(wantT F rfl rfl (by decide) rfl));clear F fa;intro fa F
  refine sq_call F rfl (by decide) (wantT F rfl rfl (by decide) rfl) (R_callV rfl rfl Tryz.call23 (mpS (F.at rfl) mp0)) (wide_any x.L _ _ _ (HX.out.l.ext E)) fun e w4 hR=>?_
  obtain ⟨rfl,e9⟩:=hR
  refine ⟨_,rfl,?_⟩;clear F fa;intro fa F
  replace q1:=(e9).keep0 q1
  replace E:=ext_same E (e9)
  clear e9
  refine F.vl (R_pickF rfl (F.at rfl) (F.at rfl)) ?_;clear F fa;intro fa F
  refine F.as ?_;clear F fa;intro fa F
  refine wpList_nil ?_
  rw [Bool.eq_false_iff.2 c1,Bool.false_or] at hl
  refine hK2 _ _ ?_
  clear hK2
  refine wp_ret ?_
  (try simp only [Exit.inBlock,Exit.then,reduceIte])
  refine rt_v F (rs_1 F rfl rfl) ?_
  exact ⟨ret_bool hl.symm,E⟩
def CopyOPost (x : Vm) (w : World) (e : Ending) (w' : World) : Prop:=∃ y : Vm,e = .returned (.agg #[.int .i64 y.B,.slice y.da y.D.length y.dc,.slice y.la y.L.length y.lc,.int .i64 y.tol]) ∧ y.B = x.B ∧ y.tol = x.tol ∧ y.D.map (·.2) = x.D.map (·.2) ∧ y.L.map (·.2) = x.L.map (·.2) ∧
 w'.ownsRow w.heap.size 25 1 (.slice y.da y.D.length y.dc) y.D.length (y.D.map (·.1)) ∧ FamT w' w.heap.size y.D ∧ w'.ownsRow w.heap.size 25 1 (.slice y.la y.L.length y.lc) y.L.length (y.L.map (·.1)) ∧ FamT w' w.heap.size y.L ∧ ((Value.slice y.la y.L.length y.lc).ownBlock = none ∨ (Value.slice y.la y.L.length y.lc).ownBlock ≠ (Value.slice y.da y.D.length y.dc).ownBlock) ∧ Ext [] w w'
set_option maxRecDepth 100000 in
set_option maxHeartbeats 1000000 in
theorem copyVat_own (x : Vm) (w : World) (hx : x.At w) (sd : SmallL x.D) (sl : SmallL x.L) :
  Calls Tryz.prog 10 #[.agg #[.int .i64 x.B,.slice x.da x.D.length x.dc,.slice x.la x.L.length x.lc,.int .i64 x.tol]] w (CopyOPost x w):=by
 have E : Ext [] w w:=Ext.refl _ _
 have HX:=Lib.hid hx
 have SD:=Lib.hid sd
 have SL:=Lib.hid sl
 clear hx sd sl
 refine calls_has 12 Tryz.func10 rfl Tryz.ntmps10 (Nat.le_of_ble_eq_true rfl) ?_
 intro fa F
 refine wp_seq_k fun K1 hK1=>?_
 refine wp_region_lit ?_
 refine sq_new F rfl (by decide) rfl (R_box rfl (F.at rfl)) ?_;clear F fa;intro fa w1 F hw
 obtain ⟨n1,hn⟩ : ∃ n,n = w.heap.size:=⟨_,rfl⟩
 rw [← hn] at F
 have s1 : w.heap.size ≤ n1:=Nat.le_of_eq hn.symm
 have l1_E : w.heap.size ≤ n1:=by rw [hn];exact E.size
 replace E:=ext_alloc E hw
 have q1:=new_row hw hn
 clear hw hn
 refine sq_new F rfl (by decide) rfl (R_alloc rfl Tryz.zeroValue24) ?_;clear F fa;intro fa w2 F hw
 obtain ⟨n2,hn⟩ : ∃ n,n = w1.heap.size:=⟨_,rfl⟩
 rw [← hn] at F
 have s2 : w1.heap.size ≤ n2:=Nat.le_of_eq hn.symm
 have l2_E : w.heap.size ≤ n2:=by rw [hn];exact E.size
 have m2_1 : n1 < n2:=by rw [hn];exact blk_lt q1
 replace q1:=keep_alloc hw q1
 replace E:=ext_alloc E hw
 have q2:=new_row hw hn
 clear hw hn
 refine wpList_nil ?_
 refine hK1 _ _ ?_
 clear hK1
 refine wp_seq_k fun K2 hK2=>?_
 refine region_x (Ext [] w2) (some 7) follows fun w3 hh eh=>?_
 have q1_:=q1
 replace q1:=keep_same hh q1
 have q2_:=q2
 replace q2:=keep_same hh q2
 have E_:=E
 have zEw3:=E.size
 replace E:=ext_same E eh
 have eT:=eh
 clear hh eh
 refine F.x (i:=0) rfl (fun w'=>R_field rfl (F.at rfl) Tryz.underlying24 rfl (n:=1) (sz:=1) rfl (by kernel_rfl) (by decide)) (fun _=>eT) ?_;clear F fa;intro fa F
 refine F.xr (i:=1) rfl (fun w' hS=>R_load rfl (F.at rfl) Tryz.underlying22 rfl ((cells_of_block (hS.keep q1_ (by simp)) 1).trans (getS (get0)))) (fun _=>eT) ?_;clear F fa;intro fa F
 refine F.x (i:=3) rfl (fun w'=>R_field rfl (F.at rfl) Tryz.underlying24 rfl (n:=2) (sz:=1) rfl (by kernel_rfl) (by decide)) (fun _=>eT) ?_;clear F fa;intro fa F
 refine F.xr (i:=4) rfl (fun w' hS=>R_load rfl (F.at rfl) Tryz.underlying22 rfl ((cells_of_block (hS.keep q1_ (by simp)) 2).trans (getS (getS (get0))))) (fun _=>eT) ?_;clear F fa;intro fa F
 have hle:=E.size
 refine ax_only (i:=2) (by kernel_rfl) (op_call F rfl rfl (by decide) rfl (R_callV rfl rfl Tryz.call38 (mpS (F.at rfl) mp0)) (copyLists_any x.D SD.out.1 SD.out.2 _ _ _ (HX.out.d.ext E)) fun e w4 hR=>?_)
 obtain ⟨M,ma,mc,rfl,hM,oo1,fam1,eM⟩:=hR
 refine ⟨_,rfl,?_⟩;clear F fa;intro fa F
 replace q1:=(eM).keep0 q1
 replace q2:=(eM).keep0 q2
 replace E:=ext_same E (eM)
 replace eT:=ext_same eT (eM)
 refine ⟨fun _=>eT,?_⟩
 replace oo1:=owns_lower (base':=w.heap.size) oo1 hle
 replace fam1:=fam_lower fam1 hle
 refine F.x (i:=6) rfl (fun w'=>R_field rfl (F.at rfl) Tryz.underlying24 rfl (n:=1) (sz:=1) rfl (by kernel_rfl) (by decide)) (fun _=>eT) ?_;clear F fa;intro fa F
 have hle2:=E.size
 have hol:=Lib.hid (fun b e=>(oo1.lt b e).2)
 obtain ⟨B0,hB0⟩ : ∃ B0,B0 = w4.heap.size:=⟨_,rfl⟩
 rw [← hB0] at hol
 refine ax_only (i:=5) (by kernel_rfl) (op_call F rfl rfl (by decide) rfl (R_callV rfl rfl Tryz.call38 (mpS (F.at rfl) mp0)) (copyLists_any x.L SL.out.1 SL.out.2 _ _ _ (HX.out.l.ext E)) fun e w5 hR=>?_)
 obtain ⟨K,ka,kc,rfl,hK,oo2,fam2,eK⟩:=hR
 refine ⟨_,rfl,?_⟩;clear F fa;intro fa F
 replace oo1:=owns_ext oo1 (eK) (by simp)
 replace fam1:=fam_lift fam1 fun _ _ _ h=>owns_ext h (eK) (by simp)
 replace q1:=(eK).keep0 q1
 replace q2:=(eK).keep0 q2
 replace E:=ext_same E (eK)
 replace eT:=ext_same eT (eK)
 refine ⟨fun _=>eT,?_⟩
 rw [← hB0] at oo2
 have hap : RowKit.Hid ((Value.slice ka K.length kc).ownBlock = none ∨ (Value.slice ka K.length kc).ownBlock ≠ (Value.slice ma M.length mc).ownBlock):=Lib.hid (by cases hb : (Value.slice ka K.length kc).ownBlock with | none=>exact .inl rfl | some b=>exact .inr (fun e=>by have h1:=(oo2.lt b hb).1;have h2:=hol.out b e.symm;omega))
 rw [hB0] at oo2
 replace oo2:=owns_lower (base':=w.heap.size) oo2 hle2
 replace fam2:=fam_lower fam2 hle2
 refine ax_only (i:=7) (by kernel_rfl) (op_to rfl rfl rfl (R_store rfl (F.at rfl) (F.at rfl) rfl (by kernel_rfl) ((cells_of_block q1 1).trans (getS (get0))) (free_of_block q1 1)) ?_);intro w6 hw
 replace oo1:=owns_cellX hw oo1 (own_ne_type oo1 q1 (by decide))
 replace fam1:=fam_lift fam1 fun _ _ _ h=>owns_cellX hw h (own_ne_type h q1 (by decide))
 replace oo2:=owns_cellX hw oo2 (own_ne_type oo2 q1 (by decide))
 replace fam2:=fam_lift fam2 fun _ _ _ h=>owns_cellX hw h (own_ne_type h q1 (by decide))
 replace q1:=put_cell hw q1 (by simp only [List.setIfInBounds_toArray,lsQ,lzQ];exact rfl)
 replace q2:=keep_cell hw q2 (by omega)
 replace E:=ext_cell E hw (fun h=>by first | exact absurd h (by omega) | simp)
 clear hw
 refine ⟨gone (by kernel_rfl),?_⟩
 refine F.x (i:=8) rfl (fun w'=>R_field rfl (F.at rfl) Tryz.underlying24 rfl (n:=2) (sz:=1) rfl (by kernel_rfl) (by decide)) (gone (by kernel_rfl)) ?_;clear F fa;intro fa F
 refine ax_only (i:=9) (by kernel_rfl) (op_to rfl rfl rfl (R_store rfl (F.at rfl) (F.at rfl) rfl (by kernel_rfl) ((cells_of_block q1 2).trans (getS (getS (get0)))) (free_of_block q1 2)) ?_);intro w7 hw
 replace oo1:=owns_cellX hw oo1 (own_ne_type oo1 q1 (by decide))
 replace fam1:=fam_lift fam1 fun _ _ _ h=>owns_cellX hw h (own_ne_type h q1 (by decide))
 replace oo2:=owns_cellX hw oo2 (own_ne_type oo2 q1 (by decide))
 replace fam2:=fam_lift fam2 fun _ _ _ h=>owns_cellX hw h (own_ne_type h q1 (by decide))
 replace q1:=put_cell hw q1 (by simp only [List.setIfInBounds_toArray,lsQ,lzQ];exact rfl)
 replace q2:=keep_cell hw q2 (by omega)
 replace E:=ext_cell E hw (fun h=>by first | exact absurd h (by omega) | simp)
 clear hw
 refine ⟨gone (by kernel_rfl),?_⟩
 refine ax_done (by kernel_rfl) ?_ _
 clear eT q1_ q2_ E_
 refine hK2 _ _ ?_
 clear hK2
 refine wp_seq_k fun K3 hK3=>?_
 refine wp_region_lit ?_
 refine F.vl (R_loadBlk rfl (F.at rfl) Tryz.underlying24 rfl (by kernel_rfl) q1) ?_;clear F fa;intro fa F
 refine sq_to rfl rfl (R_storeRow rfl (F.at rfl) (F.at rfl) (by kernel_rfl) (by first | (simp [Value.oneCell'];done) | (simp [Value.oneCell',id];done)) q2 rfl) ?_;intro w8 hw
 replace oo1:=owns_cellsX hw oo1 (own_ne_type oo1 q2 (by decide))
 replace fam1:=fam_lift fam1 fun _ _ _ h=>owns_cellsX hw h (own_ne_type h q2 (by decide))
 replace oo2:=owns_cellsX hw oo2 (own_ne_type oo2 q2 (by decide))
 replace fam2:=fam_lift fam2 fun _ _ _ h=>owns_cellsX hw h (own_ne_type h q2 (by decide))
 replace q1:=keep_cells hw q1 (by omega)
 replace q2:=put_row hw q2 rfl
 replace E:=ext_cells E hw (fun h=>by first | exact absurd h (by omega) | simp)
 clear hw
 refine wpList_nil ?_
 refine hK3 _ _ ?_
 clear hK3
 refine wp_ret ?_
 (try simp only [Exit.inBlock,Exit.then,reduceIte])
 refine rt_v F (rs_c F rfl rfl Tryz.underlying24 rfl (by kernel_rfl) q2) ?_
 exact ⟨⟨x.B,M,ma,mc,K,ka,kc,x.tol⟩,rfl,rfl,rfl,hM,hK,oo1,fam1,oo2,fam2,hap.out,E⟩
end Go.Proofs.YtdjeecgddbjbeaaGreat
