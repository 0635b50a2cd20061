/- Parts of a proof: Rb, Vo, RfFw. No conditions. -/
import Derived.Maps.AppendAt
import Derived.Test.YtholfdgebdlgjaaPE3
import Derived.Test.YtholfdgebdlgjaaPE10
set_option linter.unusedVariables false
set_option linter.unusedSimpArgs false
namespace Go.Proofs.Ytholfdgebdlgjaa
open Go.RowKit
theorem Z14 (n lo hi:Int) (w:World) :
  Calls Try.prog 98 #[.int .i64 n,.int .i64 lo,.int .i64 hi] w fun e w'=>e = .returned (.bool (decide (lo ≤ n ∧ n ≤ hi))) ∧ Ext [] w w':=by
 have E:Ext [] w w:=Ext.refl _ _
 refine Z01 15 Try.func98 rfl Try.ntmps98 (Nat.le_of_ble_eq_true rfl) ?_
 intro fa F
 refine wp_seq_k fun K1 hK1=>?_
 refine wp_region_lit ?_
 refine F.vl (Z8 rfl (ev_c fa _)) ?_;clear F fa;intro fa F
 refine wpList_nil ?_
 refine hK1 _ _ ?_
 clear hK1
 refine wp_seq_k fun K2 hK2=>?_
 refine wp_region_lit ?_
 refine F.mv ?_;clear F fa;intro fa F
 refine F.mv ?_;clear F fa;intro fa F
 refine F.vl (Zby rfl (F.at rfl) (F.at rfl)) ?_;clear F fa;intro fa F
 refine F.mv ?_;clear F fa;intro fa F
 by_cases hg1:(lo ≤ n)
 ·skip
  replace F:=F.re (k:=10) rfl (congrArg Value.bool (decide_eq_true hg1))
  refine F.mv ?_ (hw:=(ZQ F rfl rfl (by decide) rfl));clear F fa;intro fa F
  refine F.mv ?_ (hw:=(ZQ F rfl rfl (by decide) rfl));clear F fa;intro fa F
  refine F.vl (Zb2 rfl (F.at rfl) (F.at rfl)) ?_ (hw:=(ZQ F rfl rfl (by decide) rfl));clear F fa;intro fa F
  refine F.vl (Z1m rfl (F.at rfl) (F.at rfl)) ?_;clear F fa;intro fa F
  refine F.as ?_;clear F fa;intro fa F
  refine wpList_nil ?_
  refine hK2 _ _ ?_
  clear hK2
  refine wp_ret ?_
  (try simp only [Exit.inBlock,Exit.then])
  refine rt_v F (rs_1 F rfl rfl) ?_
  exact ⟨congrArg (fun b=>Ending.returned (.bool b)) (by first | (rw [Bool.eq_iff_iff,decide_eq_true_iff,decide_eq_true_iff];omega) | (symm;rw [decide_eq_false_iff_not];omega)),E⟩
 ·skip
  replace F:=F.re (k:=10) rfl (congrArg Value.bool (decide_eq_false hg1))
  refine Z03 F rfl (by decide) (Z04 F rfl rfl (by decide) rfl (by decide)) ?_;clear F fa;intro fa F
  refine Z03 F rfl (by decide) (Z04 F rfl rfl (by decide) rfl (by decide)) ?_;clear F fa;intro fa F
  refine Z03 F rfl (by decide) (Z04 F rfl rfl (by decide) rfl (by decide)) ?_;clear F fa;intro fa F
  refine F.vl (Z0H rfl (F.at rfl) (ev_c fa _)) ?_;clear F fa;intro fa F
  refine F.as ?_;clear F fa;intro fa F
  refine wpList_nil ?_
  refine hK2 _ _ ?_
  clear hK2
  refine wp_ret ?_
  (try simp only [Exit.inBlock,Exit.then])
  refine rt_v F (rs_1 F rfl rfl) ?_
  exact ⟨congrArg (fun b=>Ending.returned (.bool b)) (by first | (rw [Bool.eq_iff_iff,decide_eq_true_iff,decide_eq_true_iff];omega) | (symm;rw [decide_eq_false_iff_not];omega)),E⟩
theorem Z5I (l m lo hi:Int):Z1n l m lo hi = if ¬ (lo ≤ l ∧ l ≤ hi) ∨ ¬ (lo ≤ m ∧ m ≤ hi) then 1 else if m < l then 5 else 0:=by
 unfold Z1n Z0y
 simp only [Z3y,ZU]
 by_cases h1:lo ≤ l ∧ l ≤ hi <;> by_cases h2:lo ≤ m ∧ m ≤ hi <;> by_cases h3:m < l <;> simp [h1,h2,h3]
theorem Z6k (S A T s a t p:Int):rdgE S A T s a t p = if ¬ (0 ≤ s ∧ s ≤ S - 1) ∨ ¬ (0 ≤ a ∧ a ≤ A - 1) ∨ ¬ (0 ≤ t ∧ t ≤ T - 1) then 3 else if ¬ (0 ≤ p ∧ p ≤ 250) then 1 else 0:=by
 unfold rdgE Z0y Z0h
 simp only [Z3y,ZU]
 by_cases h1:0 ≤ s ∧ s ≤ S - 1 <;> by_cases h2:0 ≤ a ∧ a ≤ A - 1 <;> by_cases h3:0 ≤ t ∧ t ≤ T - 1 <;> by_cases h4:0 ≤ p ∧ p ≤ 250 <;> simp [h1,h2,h3,h4]
theorem Z4I (S A s a o h lo hi:Int):lnkE S A s a o h lo hi = if ¬ (0 ≤ s ∧ s ≤ S - 1) ∨ ¬ (0 ≤ o ∧ o ≤ S - 1) ∨ ¬ (0 ≤ a ∧ a ≤ A - 1) ∨ ¬ (0 ≤ h ∧ h ≤ A - 1) then 3 else if s = o ∧ a = h then 4 else Z1n lo hi (-200) 200:=by
 unfold lnkE Z0h
 simp only [Z3y,ZU]
 by_cases h1:0 ≤ s ∧ s ≤ S - 1 <;> by_cases h2:0 ≤ o ∧ o ≤ S - 1 <;> by_cases h3:0 ≤ a ∧ a ≤ A - 1 <;> by_cases h4:0 ≤ h ∧ h ≤ A - 1 <;> by_cases h5:s = o ∧ a = h <;> by_cases h6:Z1n lo hi (-200) 200 = 0 <;> simp [h1,h2,h3,h4,h5,h6]
theorem Z2s (t:Tp):Z2Y t = if ¬ (1 ≤ t.S ∧ t.S ≤ 3) ∨ ¬ (1 ≤ t.A ∧ t.A ≤ 3) ∨ ¬ (1 ≤ t.T ∧ t.T ≤ 3) then 1 else if Z1n t.bl t.bm 20 200 ≠ 0 then Z1n t.bl t.bm 20 200 else if Z1n t.pl t.pm (-9) 9 ≠ 0 then Z1n t.pl t.pm (-9) 9 else if ¬ (0 ≤ t.sl ∧ t.sl ≤ 5) then 1 else 0:=by
 unfold Z2Y Z0y
 simp only [Z3y,ZU]
 by_cases h1:1 ≤ t.S ∧ t.S ≤ 3 <;> by_cases h2:1 ≤ t.A ∧ t.A ≤ 3 <;> by_cases h3:1 ≤ t.T ∧ t.T ≤ 3 <;> by_cases h4:0 ≤ t.sl ∧ t.sl ≤ 5 <;> by_cases h5:Z1n t.bl t.bm 20 200 = 0 <;> by_cases h6:Z1n t.pl t.pm (-9) 9 = 0 <;> simp [h1,h2,h3,h4,h5,h6]
theorem Z1y (l m lo hi:Int) (w:World) :
  Calls Try.prog 137 #[.agg #[.int .i64 l,.int .i64 m],.int .i64 lo,.int .i64 hi] w fun e w'=>e = .returned (.int .i64 (Z1n l m lo hi)) ∧ Ext [] w w':=by
 have E:Ext [] w w:=Ext.refl _ _
 refine Z01 26 Try.func137 rfl Try.ntmps137 (Nat.le_of_ble_eq_true rfl) ?_
 intro fa F
 refine wp_seq_k fun K1 hK1=>?_
 refine wp_region_lit ?_
 refine Z00 F rfl (by decide) rfl (Z0z rfl (F.at rfl)) ?_;clear F fa;intro fa w1 F hw
 obtain ⟨n3,hn⟩:∃ n,n = w.heap.size:=⟨_,rfl⟩
 rw [← hn] at F
 have s3:w.heap.size ≤ n3:=Nat.le_of_eq hn.symm
 have l3_E:w.heap.size ≤ n3:=by rw [hn];exact E.size
 replace E:=Z2 E hw
 have q3:=Zr hw hn
 clear hw hn
 refine F.vl (Z8 rfl (ev_c fa _)) ?_;clear F fa;intro fa F
 refine wpList_nil ?_
 refine hK1 _ _ ?_
 clear hK1
 refine wp_seq_k fun K2 hK2=>?_
 refine wp_seq_k fun K3 hK3=>?_
 refine wp_region_lit ?_
 refine F.vl (Z9 rfl (F.at rfl) Try.underlying23 rfl (n:=0) (sz:=1) rfl (by kernel_rfl) (by decide)) ?_;clear F fa;intro fa F
 refine F.vl (Zh rfl (F.at rfl) Try.underlying3 rfl ((Z0 q3 0).trans (get0))) ?_;clear F fa;intro fa F
 refine F.mv ?_;clear F fa;intro fa F
 refine F.mv ?_;clear F fa;intro fa F
 refine ZX F rfl (by decide) rfl (ZG rfl rfl Try.call98 (mpS (F.at rfl) (mpS (F.at rfl) (mpS (F.at rfl) mp0)))) (Z14 _ _ _ _) fun e w2 hR=>?_
 obtain ⟨rfl,e9⟩:=hR
 refine ⟨_,rfl,?_⟩;clear F fa;intro fa F
 replace q3:=(e9).keep0 q3
 replace E:=Z4 E (e9)
 clear e9
 refine F.vl (Z2t rfl (F.at rfl)) ?_;clear F fa;intro fa F
 refine F.mv ?_;clear F fa;intro fa F
 by_cases hg1:(¬ (lo ≤ l ∧ l ≤ hi))
 ·skip
  replace F:=F.re (k:=13) rfl (congrArg Value.bool (decide_eq_true hg1))
  refine Z03 F rfl (by decide) (Z04 F rfl rfl (by decide) rfl (by decide)) ?_;clear F fa;intro fa F
  refine Z03 F rfl (by decide) (Z04 F rfl rfl (by decide) rfl (by decide)) ?_;clear F fa;intro fa F
  refine Z03 F rfl (by decide) (Z04 F rfl rfl (by decide) rfl (by decide)) ?_;clear F fa;intro fa F
  refine Z03 F rfl (by decide) (Z04 F rfl rfl (by decide) rfl (by decide)) ?_;clear F fa;intro fa F
  refine Z03 F rfl (by decide) (Z04 F rfl rfl (by decide) rfl (by decide)) ?_;clear F fa;intro fa F
  refine Z03 F rfl (by decide) (Z04 F rfl rfl (by decide) rfl (by decide)) ?_;clear F fa;intro fa F
  refine F.vl (Z1m rfl (F.at rfl) (ev_c fa _)) ?_;clear F fa;intro fa F
  refine wpList_nil ?_
  refine hK3 _ _ ?_
  clear hK3
  refine cd_T F rfl ?_
  refine wp_seq_k fun K4 hK4=>?_
  refine wp_region_lit ?_
  refine F.vl (Z8 rfl (ev_c fa _)) ?_;clear F fa;intro fa F
  refine wpList_nil ?_
  refine hK4 _ _ ?_
  clear hK4
  refine wp_ret ?_
  (try simp only [Exit.inBlock,Exit.then])
  refine rt_v F (rs_1 F rfl rfl) ?_
  exact ⟨ZM (by rw [Z5I];(repeat' split) <;> omega),E⟩
 ·skip
  replace F:=F.re (k:=13) rfl (congrArg Value.bool (decide_eq_false hg1))
  refine F.vl (Z9 rfl (F.at rfl) Try.underlying23 rfl (n:=1) (sz:=1) rfl (by kernel_rfl) (by decide)) ?_ (hw:=(ZQ F rfl rfl (by decide) rfl));clear F fa;intro fa F
  refine F.vl (Zh rfl (F.at rfl) Try.underlying3 rfl ((Z0 q3 1).trans (getS (get0)))) ?_ (hw:=(ZQ F rfl rfl (by decide) rfl));clear F fa;intro fa F
  refine F.mv ?_ (hw:=(ZQ F rfl rfl (by decide) rfl));clear F fa;intro fa F
  refine F.mv ?_ (hw:=(ZQ F rfl rfl (by decide) rfl));clear F fa;intro fa F
  refine ZX F rfl (by decide) (ZQ F rfl rfl (by decide) rfl) (ZG rfl rfl Try.call98 (mpS (F.at rfl) (mpS (F.at rfl) (mpS (F.at rfl) mp0)))) (Z14 _ _ _ _) fun e w3 hR=>?_
  obtain ⟨rfl,e9⟩:=hR
  refine ⟨_,rfl,?_⟩;clear F fa;intro fa F
  replace q3:=(e9).keep0 q3
  replace E:=Z4 E (e9)
  clear e9
  refine F.vl (Z2t rfl (F.at rfl)) ?_ (hw:=(ZQ F rfl rfl (by decide) rfl));clear F fa;intro fa F
  refine F.vl (Z0H rfl (F.at rfl) (F.at rfl)) ?_;clear F fa;intro fa F
  refine wpList_nil ?_
  refine hK3 _ _ ?_
  clear hK3
  refine Z0J F rfl (fun hc20=>?_) (fun hc20=>?_)
  ·skip
   refine wp_seq_k fun K5 hK5=>?_
   refine wp_region_lit ?_
   refine F.vl (Z8 rfl (ev_c fa _)) ?_;clear F fa;intro fa F
   refine wpList_nil ?_
   refine hK5 _ _ ?_
   clear hK5
   refine wp_ret ?_
   (try simp only [Exit.inBlock,Exit.then])
   refine rt_v F (rs_1 F rfl rfl) ?_
   exact ⟨ZM (by rw [Z5I];(repeat' split) <;> omega),E⟩
  ·skip
   refine wp_skip ?_
   refine hK2 _ _ ?_
   clear hK2
   refine wp_seq_k fun K6 hK6=>?_
   refine wp_seq_k fun K7 hK7=>?_
   refine wp_region_lit ?_
   refine F.vl (Z9 rfl (F.at rfl) Try.underlying23 rfl (n:=0) (sz:=1) rfl (by kernel_rfl) (by decide)) ?_;clear F fa;intro fa F
   refine F.vl (Zh rfl (F.at rfl) Try.underlying3 rfl ((Z0 q3 0).trans (get0))) ?_;clear F fa;intro fa F
   refine F.vl (Z9 rfl (F.at rfl) Try.underlying23 rfl (n:=1) (sz:=1) rfl (by kernel_rfl) (by decide)) ?_;clear F fa;intro fa F
   refine F.vl (Zh rfl (F.at rfl) Try.underlying3 rfl ((Z0 q3 1).trans (getS (get0)))) ?_;clear F fa;intro fa F
   refine F.vl (Z4J rfl (F.at rfl) (F.at rfl)) ?_;clear F fa;intro fa F
   refine wpList_nil ?_
   refine hK7 _ _ ?_
   clear hK7
   refine Z0J F rfl (fun hc25=>?_) (fun hc25=>?_)
   ·skip
    refine wp_seq_k fun K8 hK8=>?_
    refine wp_region_lit ?_
    refine F.vl (Z8 rfl (ev_c fa _)) ?_;clear F fa;intro fa F
    refine wpList_nil ?_
    refine hK8 _ _ ?_
    clear hK8
    refine wp_ret ?_
    (try simp only [Exit.inBlock,Exit.then])
    refine rt_v F (rs_1 F rfl rfl) ?_
    exact ⟨ZM (by rw [Z5I];(repeat' split) <;> omega),E⟩
   ·skip
    refine wp_skip ?_
    refine hK6 _ _ ?_
    clear hK6
    refine wp_seq_k fun K9 hK9=>?_
    refine wp_region_lit ?_
    refine F.vl (Z8 rfl (ev_c fa _)) ?_;clear F fa;intro fa F
    refine wpList_nil ?_
    refine hK9 _ _ ?_
    clear hK9
    refine wp_ret ?_
    (try simp only [Exit.inBlock,Exit.then])
    refine rt_v F (rs_1 F rfl rfl) ?_
    exact ⟨ZM (by rw [Z5I];(repeat' split) <;> omega),E⟩
theorem Z4V {t:Tp} (hS1:1 ≤ t.S) (hS3:t.S ≤ 3) (hA1:1 ≤ t.A) (hA3:t.A ≤ 3) (hT1:1 ≤ t.T) (hT3:t.T ≤ 3) (gv rv lv:Value) (r:Int × Int × Int × Int) (w:World) :
  Calls Try.prog 88 #[tpV t gv rv lv,.agg #[.int .i64 r.1,.int .i64 r.2.1,.int .i64 r.2.2.1,.int .i64 r.2.2.2]] w fun e w'=>e = .returned (.int .i64 (rdE t r)) ∧ Ext [] w w':=by
 have E:Ext [] w w:=Ext.refl _ _
 unfold tpV
 refine Z01 34 Try.func88 rfl Try.ntmps88 (Nat.le_of_ble_eq_true rfl) ?_
 intro fa F
 refine wp_seq_k fun K1 hK1=>?_
 refine wp_region_lit ?_
 refine Z00 F rfl (by decide) rfl (Z0z rfl (F.at rfl)) ?_;clear F fa;intro fa w1 F hw
 obtain ⟨n2,hn⟩:∃ n,n = w.heap.size:=⟨_,rfl⟩
 rw [← hn] at F
 have s2:w.heap.size ≤ n2:=Nat.le_of_eq hn.symm
 have l2_E:w.heap.size ≤ n2:=by rw [hn];exact E.size
 replace E:=Z2 E hw
 have q2:=Zr hw hn
 clear hw hn
 refine Z00 F rfl (by decide) rfl (Z0z rfl (F.at rfl)) ?_;clear F fa;intro fa w2 F hw
 obtain ⟨n3,hn⟩:∃ n,n = w1.heap.size:=⟨_,rfl⟩
 rw [← hn] at F
 have s3:w1.heap.size ≤ n3:=Nat.le_of_eq hn.symm
 have l3_E:w.heap.size ≤ n3:=by rw [hn];exact E.size
 have m3_2:n2 < n3:=by rw [hn];exact Z7 q2
 replace q2:=Z1 hw q2
 replace E:=Z2 E hw
 have q3:=Zr hw hn
 clear hw hn
 refine F.vl (Z8 rfl (ev_c fa _)) ?_;clear F fa;intro fa F
 refine wpList_nil ?_
 refine hK1 _ _ ?_
 clear hK1
 refine wp_seq_k fun K2 hK2=>?_
 refine wp_seq_k fun K3 hK3=>?_
 refine wp_region_lit ?_
 refine F.vl (Z9 rfl (F.at rfl) Try.underlying66 rfl (n:=0) (sz:=1) rfl (by kernel_rfl) (by decide)) ?_;clear F fa;intro fa F
 refine F.vl (Zh rfl (F.at rfl) Try.underlying3 rfl ((Z0 q3 0).trans (get0))) ?_;clear F fa;intro fa F
 refine F.vl (Z9 rfl (F.at rfl) Try.underlying28 rfl (n:=0) (sz:=1) rfl (by kernel_rfl) (by decide)) ?_;clear F fa;intro fa F
 refine F.vl (Zh rfl (F.at rfl) Try.underlying3 rfl ((Z0 q2 0).trans (get0))) ?_;clear F fa;intro fa F
 refine F.vl (Z1I rfl (F.at rfl) (ev_c fa _) (by omega) (by omega)) ?_;clear F fa;intro fa F
 refine ZX F rfl (by decide) rfl (ZG rfl rfl Try.call98 (mpS (F.at rfl) (mpS (ev_c fa _) (mpS (F.at rfl) mp0)))) (Z14 _ _ _ _) fun e w3 hR=>?_
 obtain ⟨rfl,e9⟩:=hR
 refine ⟨_,rfl,?_⟩;clear F fa;intro fa F
 replace q2:=(e9).keep0 q2
 replace q3:=(e9).keep0 q3
 replace E:=Z4 E (e9)
 clear e9
 refine F.vl (Z2t rfl (F.at rfl)) ?_;clear F fa;intro fa F
 refine F.mv ?_;clear F fa;intro fa F
 by_cases hg1:(¬ (0 ≤ r.1 ∧ r.1 ≤ t.S - 1))
 ·skip
  replace F:=F.re (k:=12) rfl (congrArg Value.bool (decide_eq_true hg1))
  refine Z03 F rfl (by decide) (Z04 F rfl rfl (by decide) rfl (by decide)) ?_;clear F fa;intro fa F
  refine Z03 F rfl (by decide) (Z04 F rfl rfl (by decide) rfl (by decide)) ?_;clear F fa;intro fa F
  refine Z03 F rfl (by decide) (Z04 F rfl rfl (by decide) rfl (by decide)) ?_;clear F fa;intro fa F
  refine Z03 F rfl (by decide) (Z04 F rfl rfl (by decide) rfl (by decide)) ?_;clear F fa;intro fa F
  refine Z03 F rfl (by decide) (Z04 F rfl rfl (by decide) rfl (by decide)) ?_;clear F fa;intro fa F
  refine Z03 F rfl (by decide) (Z04 F rfl rfl (by decide) rfl (by decide)) ?_;clear F fa;intro fa F
  refine Z03 F rfl (by decide) (Z04 F rfl rfl (by decide) rfl (by decide)) ?_;clear F fa;intro fa F
  refine F.vl (Z1m rfl (F.at rfl) (ev_c fa _)) ?_;clear F fa;intro fa F
  refine F.mv ?_;clear F fa;intro fa F
  refine Z03 F rfl (by decide) (Z04 F rfl rfl (by decide) rfl (by decide)) ?_;clear F fa;intro fa F
  refine Z03 F rfl (by decide) (Z04 F rfl rfl (by decide) rfl (by decide)) ?_;clear F fa;intro fa F
  refine Z03 F rfl (by decide) (Z04 F rfl rfl (by decide) rfl (by decide)) ?_;clear F fa;intro fa F
  refine Z03 F rfl (by decide) (Z04 F rfl rfl (by decide) rfl (by decide)) ?_;clear F fa;intro fa F
  refine Z03 F rfl (by decide) (Z04 F rfl rfl (by decide) rfl (by decide)) ?_;clear F fa;intro fa F
  refine Z03 F rfl (by decide) (Z04 F rfl rfl (by decide) rfl (by decide)) ?_;clear F fa;intro fa F
  refine Z03 F rfl (by decide) (Z04 F rfl rfl (by decide) rfl (by decide)) ?_;clear F fa;intro fa F
  refine F.vl (Z1m rfl (F.at rfl) (ev_c fa _)) ?_;clear F fa;intro fa F
  refine wpList_nil ?_
  refine hK3 _ _ ?_
  clear hK3
  refine cd_T F rfl ?_
  refine wp_seq_k fun K4 hK4=>?_
  refine wp_region_lit ?_
  refine F.vl (Z8 rfl (ev_c fa _)) ?_;clear F fa;intro fa F
  refine wpList_nil ?_
  refine hK4 _ _ ?_
  clear hK4
  refine wp_ret ?_
  (try simp only [Exit.inBlock,Exit.then])
  refine rt_v F (rs_1 F rfl rfl) ?_
  exact ⟨ZM (by unfold rdE;rw [Z6k];(repeat' split) <;> omega),E⟩
 ·skip
  replace F:=F.re (k:=12) rfl (congrArg Value.bool (decide_eq_false hg1))
  refine F.vl (Z9 rfl (F.at rfl) Try.underlying66 rfl (n:=1) (sz:=1) rfl (by kernel_rfl) (by decide)) ?_ (hw:=(ZQ F rfl rfl (by decide) rfl));clear F fa;intro fa F
  refine F.vl (Zh rfl (F.at rfl) Try.underlying3 rfl ((Z0 q3 1).trans (getS (get0)))) ?_ (hw:=(ZQ F rfl rfl (by decide) rfl));clear F fa;intro fa F
  refine F.vl (Z9 rfl (F.at rfl) Try.underlying28 rfl (n:=1) (sz:=1) rfl (by kernel_rfl) (by decide)) ?_ (hw:=(ZQ F rfl rfl (by decide) rfl));clear F fa;intro fa F
  refine F.vl (Zh rfl (F.at rfl) Try.underlying3 rfl ((Z0 q2 1).trans (getS (get0)))) ?_ (hw:=(ZQ F rfl rfl (by decide) rfl));clear F fa;intro fa F
  refine F.vl (Z1I rfl (F.at rfl) (ev_c fa _) (by omega) (by omega)) ?_ (hw:=(ZQ F rfl rfl (by decide) rfl));clear F fa;intro fa F
  refine ZX F rfl (by decide) (ZQ F rfl rfl (by decide) rfl) (ZG rfl rfl Try.call98 (mpS (F.at rfl) (mpS (ev_c fa _) (mpS (F.at rfl) mp0)))) (Z14 _ _ _ _) fun e w4 hR=>?_
  obtain ⟨rfl,e9⟩:=hR
  refine ⟨_,rfl,?_⟩;clear F fa;intro fa F
  replace q2:=(e9).keep0 q2
  replace q3:=(e9).keep0 q3
  replace E:=Z4 E (e9)
  clear e9
  refine F.vl (Z2t rfl (F.at rfl)) ?_ (hw:=(ZQ F rfl rfl (by decide) rfl));clear F fa;intro fa F
  refine F.vl (Z0H rfl (F.at rfl) (F.at rfl)) ?_;clear F fa;intro fa F
  refine F.mv ?_;clear F fa;intro fa F
  by_cases hg2:(¬ (0 ≤ r.2.1 ∧ r.2.1 ≤ t.A - 1))
  ·skip
   replace F:=F.re (k:=21) rfl (congrArg Value.bool (decide_eq_true hg2))
   refine Z03 F rfl (by decide) (Z04 F rfl rfl (by decide) rfl (by decide)) ?_;clear F fa;intro fa F
   refine Z03 F rfl (by decide) (Z04 F rfl rfl (by decide) rfl (by decide)) ?_;clear F fa;intro fa F
   refine Z03 F rfl (by decide) (Z04 F rfl rfl (by decide) rfl (by decide)) ?_;clear F fa;intro fa F
   refine Z03 F rfl (by decide) (Z04 F rfl rfl (by decide) rfl (by decide)) ?_;clear F fa;intro fa F
   refine Z03 F rfl (by decide) (Z04 F rfl rfl (by decide) rfl (by decide)) ?_;clear F fa;intro fa F
   refine Z03 F rfl (by decide) (Z04 F rfl rfl (by decide) rfl (by decide)) ?_;clear F fa;intro fa F
   refine Z03 F rfl (by decide) (Z04 F rfl rfl (by decide) rfl (by decide)) ?_;clear F fa;intro fa F
   refine F.vl (Z1m rfl (F.at rfl) (ev_c fa _)) ?_;clear F fa;intro fa F
   refine wpList_nil ?_
   refine hK3 _ _ ?_
   clear hK3
   refine cd_T F rfl ?_
   refine wp_seq_k fun K5 hK5=>?_
   refine wp_region_lit ?_
   refine F.vl (Z8 rfl (ev_c fa _)) ?_;clear F fa;intro fa F
   refine wpList_nil ?_
   refine hK5 _ _ ?_
   clear hK5
   refine wp_ret ?_
   (try simp only [Exit.inBlock,Exit.then])
   refine rt_v F (rs_1 F rfl rfl) ?_
   exact ⟨ZM (by unfold rdE;rw [Z6k];(repeat' split) <;> omega),E⟩
  ·skip
   replace F:=F.re (k:=21) rfl (congrArg Value.bool (decide_eq_false hg2))
   refine F.vl (Z9 rfl (F.at rfl) Try.underlying66 rfl (n:=2) (sz:=1) rfl (by kernel_rfl) (by decide)) ?_ (hw:=(ZQ F rfl rfl (by decide) rfl));clear F fa;intro fa F
   refine F.vl (Zh rfl (F.at rfl) Try.underlying3 rfl ((Z0 q3 2).trans (getS (getS (get0))))) ?_ (hw:=(ZQ F rfl rfl (by decide) rfl));clear F fa;intro fa F
   refine F.vl (Z9 rfl (F.at rfl) Try.underlying28 rfl (n:=2) (sz:=1) rfl (by kernel_rfl) (by decide)) ?_ (hw:=(ZQ F rfl rfl (by decide) rfl));clear F fa;intro fa F
   refine F.vl (Zh rfl (F.at rfl) Try.underlying3 rfl ((Z0 q2 2).trans (getS (getS (get0))))) ?_ (hw:=(ZQ F rfl rfl (by decide) rfl));clear F fa;intro fa F
   refine F.vl (Z1I rfl (F.at rfl) (ev_c fa _) (by omega) (by omega)) ?_ (hw:=(ZQ F rfl rfl (by decide) rfl));clear F fa;intro fa F
   refine ZX F rfl (by decide) (ZQ F rfl rfl (by decide) rfl) (ZG rfl rfl Try.call98 (mpS (F.at rfl) (mpS (ev_c fa _) (mpS (F.at rfl) mp0)))) (Z14 _ _ _ _) fun e w5 hR=>?_
   obtain ⟨rfl,e9⟩:=hR
   refine ⟨_,rfl,?_⟩;clear F fa;intro fa F
   replace q2:=(e9).keep0 q2
   replace q3:=(e9).keep0 q3
   replace E:=Z4 E (e9)
   clear e9
   refine F.vl (Z2t rfl (F.at rfl)) ?_ (hw:=(ZQ F rfl rfl (by decide) rfl));clear F fa;intro fa F
   refine F.vl (Z0H rfl (F.at rfl) (F.at rfl)) ?_;clear F fa;intro fa F
   refine wpList_nil ?_
   refine hK3 _ _ ?_
   clear hK3
   refine Z0J F rfl (fun hc29=>?_) (fun hc29=>?_)
   ·skip
    refine wp_seq_k fun K6 hK6=>?_
    refine wp_region_lit ?_
    refine F.vl (Z8 rfl (ev_c fa _)) ?_;clear F fa;intro fa F
    refine wpList_nil ?_
    refine hK6 _ _ ?_
    clear hK6
    refine wp_ret ?_
    (try simp only [Exit.inBlock,Exit.then])
    refine rt_v F (rs_1 F rfl rfl) ?_
    exact ⟨ZM (by unfold rdE;rw [Z6k];(repeat' split) <;> omega),E⟩
   ·skip
    refine wp_skip ?_
    refine hK2 _ _ ?_
    clear hK2
    refine wp_seq_k fun K7 hK7=>?_
    refine wp_seq_k fun K8 hK8=>?_
    refine wp_region_lit ?_
    refine F.vl (Z9 rfl (F.at rfl) Try.underlying66 rfl (n:=3) (sz:=1) rfl (by kernel_rfl) (by decide)) ?_;clear F fa;intro fa F
    refine F.vl (Zh rfl (F.at rfl) Try.underlying3 rfl ((Z0 q3 3).trans (getS (getS (getS (get0)))))) ?_;clear F fa;intro fa F
    refine ZX F rfl (by decide) rfl (ZG rfl rfl Try.call98 (mpS (F.at rfl) (mpS (ev_c fa _) (mpS (ev_c fa _) mp0)))) (Z14 _ _ _ _) fun e w6 hR=>?_
    obtain ⟨rfl,e9⟩:=hR
    refine ⟨_,rfl,?_⟩;clear F fa;intro fa F
    replace q2:=(e9).keep0 q2
    replace q3:=(e9).keep0 q3
    replace E:=Z4 E (e9)
    clear e9
    refine F.vl (Z2t rfl (F.at rfl)) ?_;clear F fa;intro fa F
    refine wpList_nil ?_
    refine hK8 _ _ ?_
    clear hK8
    refine Z0J F rfl (fun hc33=>?_) (fun hc33=>?_)
    ·skip
     refine wp_seq_k fun K9 hK9=>?_
     refine wp_region_lit ?_
     refine F.vl (Z8 rfl (ev_c fa _)) ?_;clear F fa;intro fa F
     refine wpList_nil ?_
     refine hK9 _ _ ?_
     clear hK9
     refine wp_ret ?_
     (try simp only [Exit.inBlock,Exit.then])
     refine rt_v F (rs_1 F rfl rfl) ?_
     exact ⟨ZM (by unfold rdE;rw [Z6k];(repeat' split) <;> omega),E⟩
    ·skip
     refine wp_skip ?_
     refine hK7 _ _ ?_
     clear hK7
     refine wp_seq_k fun K10 hK10=>?_
     refine wp_region_lit ?_
     refine F.vl (Z8 rfl (ev_c fa _)) ?_;clear F fa;intro fa F
     refine wpList_nil ?_
     refine hK10 _ _ ?_
     clear hK10
     refine wp_ret ?_
     (try simp only [Exit.inBlock,Exit.then])
     refine rt_v F (rs_1 F rfl rfl) ?_
     exact ⟨ZM (by unfold rdE;rw [Z6k];(repeat' split) <;> omega),E⟩
theorem Z76 {t:Tp} (hS1:1 ≤ t.S) (hS3:t.S ≤ 3) (hA1:1 ≤ t.A) (hA3:t.A ≤ 3) (gv rv lv:Value) (k:Int × Int × Int × Int × Int × Int) (w:World) :
  Calls Try.prog 89 #[tpV t gv rv lv,.agg #[.int .i64 k.1,.int .i64 k.2.1,.int .i64 k.2.2.1,.int .i64 k.2.2.2.1,.int .i64 k.2.2.2.2.1,.int .i64 k.2.2.2.2.2]] w fun e w'=>e = .returned (.int .i64 (lkE t k)) ∧ Ext [] w w':=by
 have E:Ext [] w w:=Ext.refl _ _
 unfold tpV
 refine Z01 54 Try.func89 rfl Try.ntmps89 (Nat.le_of_ble_eq_true rfl) ?_
 intro fa F
 refine wp_seq_k fun K1 hK1=>?_
 refine wp_region_lit ?_
 refine Z00 F rfl (by decide) rfl (Z0z rfl (F.at rfl)) ?_;clear F fa;intro fa w1 F hw
 obtain ⟨n2,hn⟩:∃ n,n = w.heap.size:=⟨_,rfl⟩
 rw [← hn] at F
 have s2:w.heap.size ≤ n2:=Nat.le_of_eq hn.symm
 have l2_E:w.heap.size ≤ n2:=by rw [hn];exact E.size
 replace E:=Z2 E hw
 have q2:=Zr hw hn
 clear hw hn
 refine Z00 F rfl (by decide) rfl (Z0z rfl (F.at rfl)) ?_;clear F fa;intro fa w2 F hw
 obtain ⟨n3,hn⟩:∃ n,n = w1.heap.size:=⟨_,rfl⟩
 rw [← hn] at F
 have s3:w1.heap.size ≤ n3:=Nat.le_of_eq hn.symm
 have l3_E:w.heap.size ≤ n3:=by rw [hn];exact E.size
 have m3_2:n2 < n3:=by rw [hn];exact Z7 q2
 replace q2:=Z1 hw q2
 replace E:=Z2 E hw
 have q3:=Zr hw hn
 clear hw hn
 refine F.vl (Z8 rfl (ev_c fa _)) ?_;clear F fa;intro fa F
 refine wpList_nil ?_
 refine hK1 _ _ ?_
 clear hK1
 refine wp_seq_k fun K2 hK2=>?_
 refine wp_seq_k fun K3 hK3=>?_
 refine wp_region_lit ?_
 refine F.vl (Z9 rfl (F.at rfl) Try.underlying75 rfl (n:=0) (sz:=1) rfl (by kernel_rfl) (by decide)) ?_;clear F fa;intro fa F
 refine F.vl (Zh rfl (F.at rfl) Try.underlying3 rfl ((Z0 q3 0).trans (get0))) ?_;clear F fa;intro fa F
 refine F.vl (Z9 rfl (F.at rfl) Try.underlying28 rfl (n:=0) (sz:=1) rfl (by kernel_rfl) (by decide)) ?_;clear F fa;intro fa F
 refine F.vl (Zh rfl (F.at rfl) Try.underlying3 rfl ((Z0 q2 0).trans (get0))) ?_;clear F fa;intro fa F
 refine F.vl (Z1I rfl (F.at rfl) (ev_c fa _) (by omega) (by omega)) ?_;clear F fa;intro fa F
 refine ZX F rfl (by decide) rfl (ZG rfl rfl Try.call98 (mpS (F.at rfl) (mpS (ev_c fa _) (mpS (F.at rfl) mp0)))) (Z14 _ _ _ _) fun e w3 hR=>?_
 obtain ⟨rfl,e9⟩:=hR
 refine ⟨_,rfl,?_⟩;clear F fa;intro fa F
 replace q2:=(e9).keep0 q2
 replace q3:=(e9).keep0 q3
 replace E:=Z4 E (e9)
 clear e9
 refine F.vl (Z2t rfl (F.at rfl)) ?_;clear F fa;intro fa F
 refine F.mv ?_;clear F fa;intro fa F
 by_cases hg1:(¬ (0 ≤ k.1 ∧ k.1 ≤ t.S - 1))
 ·skip
  replace F:=F.re (k:=12) rfl (congrArg Value.bool (decide_eq_true hg1))
  refine Z03 F rfl (by decide) (Z04 F rfl rfl (by decide) rfl (by decide)) ?_;clear F fa;intro fa F
  refine Z03 F rfl (by decide) (Z04 F rfl rfl (by decide) rfl (by decide)) ?_;clear F fa;intro fa F
  refine Z03 F rfl (by decide) (Z04 F rfl rfl (by decide) rfl (by decide)) ?_;clear F fa;intro fa F
  refine Z03 F rfl (by decide) (Z04 F rfl rfl (by decide) rfl (by decide)) ?_;clear F fa;intro fa F
  refine Z03 F rfl (by decide) (Z04 F rfl rfl (by decide) rfl (by decide)) ?_;clear F fa;intro fa F
  refine Z03 F rfl (by decide) (Z04 F rfl rfl (by decide) rfl (by decide)) ?_;clear F fa;intro fa F
  refine Z03 F rfl (by decide) (Z04 F rfl rfl (by decide) rfl (by decide)) ?_;clear F fa;intro fa F
  refine F.vl (Z1m rfl (F.at rfl) (ev_c fa _)) ?_;clear F fa;intro fa F
  refine F.mv ?_;clear F fa;intro fa F
  refine Z03 F rfl (by decide) (Z04 F rfl rfl (by decide) rfl (by decide)) ?_;clear F fa;intro fa F
  refine Z03 F rfl (by decide) (Z04 F rfl rfl (by decide) rfl (by decide)) ?_;clear F fa;intro fa F
  refine Z03 F rfl (by decide) (Z04 F rfl rfl (by decide) rfl (by decide)) ?_;clear F fa;intro fa F
  refine Z03 F rfl (by decide) (Z04 F rfl rfl (by decide) rfl (by decide)) ?_;clear F fa;intro fa F
  refine Z03 F rfl (by decide) (Z04 F rfl rfl (by decide) rfl (by decide)) ?_;clear F fa;intro fa F
  refine Z03 F rfl (by decide) (Z04 F rfl rfl (by decide) rfl (by decide)) ?_;clear F fa;intro fa F
  refine Z03 F rfl (by decide) (Z04 F rfl rfl (by decide) rfl (by decide)) ?_;clear F fa;intro fa F
  refine F.vl (Z1m rfl (F.at rfl) (ev_c fa _)) ?_;clear F fa;intro fa F
  refine F.mv ?_;clear F fa;intro fa F
  refine Z03 F rfl (by decide) (Z04 F rfl rfl (by decide) rfl (by decide)) ?_;clear F fa;intro fa F
  refine Z03 F rfl (by decide) (Z04 F rfl rfl (by decide) rfl (by decide)) ?_;clear F fa;intro fa F
  refine Z03 F rfl (by decide) (Z04 F rfl rfl (by decide) rfl (by decide)) ?_;clear F fa;intro fa F
  refine Z03 F rfl (by decide) (Z04 F rfl rfl (by decide) rfl (by decide)) ?_;clear F fa;intro fa F
  refine Z03 F rfl (by decide) (Z04 F rfl rfl (by decide) rfl (by decide)) ?_;clear F fa;intro fa F
  refine Z03 F rfl (by decide) (Z04 F rfl rfl (by decide) rfl (by decide)) ?_;clear F fa;intro fa F
  refine Z03 F rfl (by decide) (Z04 F rfl rfl (by decide) rfl (by decide)) ?_;clear F fa;intro fa F
  refine F.vl (Z1m rfl (F.at rfl) (ev_c fa _)) ?_;clear F fa;intro fa F
  refine wpList_nil ?_
  refine hK3 _ _ ?_
  clear hK3
  refine cd_T F rfl ?_
  refine wp_seq_k fun K4 hK4=>?_
  refine wp_region_lit ?_
  refine F.vl (Z8 rfl (ev_c fa _)) ?_;clear F fa;intro fa F
  refine wpList_nil ?_
  refine hK4 _ _ ?_
  clear hK4
  refine wp_ret ?_
  (try simp only [Exit.inBlock,Exit.then])
  refine rt_v F (rs_1 F rfl rfl) ?_
  exact ⟨ZM (by unfold lkE;rw [Z4I];(repeat' split) <;> omega),E⟩
 ·skip
  replace F:=F.re (k:=12) rfl (congrArg Value.bool (decide_eq_false hg1))
  refine F.vl (Z9 rfl (F.at rfl) Try.underlying75 rfl (n:=2) (sz:=1) rfl (by kernel_rfl) (by decide)) ?_ (hw:=(ZQ F rfl rfl (by decide) rfl));clear F fa;intro fa F
  refine F.vl (Zh rfl (F.at rfl) Try.underlying3 rfl ((Z0 q3 2).trans (getS (getS (get0))))) ?_ (hw:=(ZQ F rfl rfl (by decide) rfl));clear F fa;intro fa F
  refine F.vl (Z9 rfl (F.at rfl) Try.underlying28 rfl (n:=0) (sz:=1) rfl (by kernel_rfl) (by decide)) ?_ (hw:=(ZQ F rfl rfl (by decide) rfl));clear F fa;intro fa F
  refine F.vl (Zh rfl (F.at rfl) Try.underlying3 rfl ((Z0 q2 0).trans (get0))) ?_ (hw:=(ZQ F rfl rfl (by decide) rfl));clear F fa;intro fa F
  refine F.vl (Z1I rfl (F.at rfl) (ev_c fa _) (by omega) (by omega)) ?_ (hw:=(ZQ F rfl rfl (by decide) rfl));clear F fa;intro fa F
  refine ZX F rfl (by decide) (ZQ F rfl rfl (by decide) rfl) (ZG rfl rfl Try.call98 (mpS (F.at rfl) (mpS (ev_c fa _) (mpS (F.at rfl) mp0)))) (Z14 _ _ _ _) fun e w4 hR=>?_
  obtain ⟨rfl,e9⟩:=hR
  refine ⟨_,rfl,?_⟩;clear F fa;intro fa F
  replace q2:=(e9).keep0 q2
  replace q3:=(e9).keep0 q3
  replace E:=Z4 E (e9)
  clear e9
  refine F.vl (Z2t rfl (F.at rfl)) ?_ (hw:=(ZQ F rfl rfl (by decide) rfl));clear F fa;intro fa F
  refine F.vl (Z0H rfl (F.at rfl) (F.at rfl)) ?_;clear F fa;intro fa F
  refine F.mv ?_;clear F fa;intro fa F
  by_cases hg2:(¬ (0 ≤ k.2.2.1 ∧ k.2.2.1 ≤ t.S - 1))
  ·skip
   replace F:=F.re (k:=21) rfl (congrArg Value.bool (decide_eq_true hg2))
   refine Z03 F rfl (by decide) (Z04 F rfl rfl (by decide) rfl (by decide)) ?_;clear F fa;intro fa F
   refine Z03 F rfl (by decide) (Z04 F rfl rfl (by decide) rfl (by decide)) ?_;clear F fa;intro fa F
   refine Z03 F rfl (by decide) (Z04 F rfl rfl (by decide) rfl (by decide)) ?_;clear F fa;intro fa F
   refine Z03 F rfl (by decide) (Z04 F rfl rfl (by decide) rfl (by decide)) ?_;clear F fa;intro fa F
   refine Z03 F rfl (by decide) (Z04 F rfl rfl (by decide) rfl (by decide)) ?_;clear F fa;intro fa F
   refine Z03 F rfl (by decide) (Z04 F rfl rfl (by decide) rfl (by decide)) ?_;clear F fa;intro fa F
   refine Z03 F rfl (by decide) (Z04 F rfl rfl (by decide) rfl (by decide)) ?_;clear F fa;intro fa F
   refine F.vl (Z1m rfl (F.at rfl) (ev_c fa _)) ?_;clear F fa;intro fa F
   refine F.mv ?_;clear F fa;intro fa F
   refine Z03 F rfl (by decide) (Z04 F rfl rfl (by decide) rfl (by decide)) ?_;clear F fa;intro fa F
   refine Z03 F rfl (by decide) (Z04 F rfl rfl (by decide) rfl (by decide)) ?_;clear F fa;intro fa F
   refine Z03 F rfl (by decide) (Z04 F rfl rfl (by decide) rfl (by decide)) ?_;clear F fa;intro fa F
   refine Z03 F rfl (by decide) (Z04 F rfl rfl (by decide) rfl (by decide)) ?_;clear F fa;intro fa F
   refine Z03 F rfl (by decide) (Z04 F rfl rfl (by decide) rfl (by decide)) ?_;clear F fa;intro fa F
   refine Z03 F rfl (by decide) (Z04 F rfl rfl (by decide) rfl (by decide)) ?_;clear F fa;intro fa F
   refine Z03 F rfl (by decide) (Z04 F rfl rfl (by decide) rfl (by decide)) ?_;clear F fa;intro fa F
   refine F.vl (Z1m rfl (F.at rfl) (ev_c fa _)) ?_;clear F fa;intro fa F
   refine wpList_nil ?_
   refine hK3 _ _ ?_
   clear hK3
   refine cd_T F rfl ?_
   refine wp_seq_k fun K5 hK5=>?_
   refine wp_region_lit ?_
   refine F.vl (Z8 rfl (ev_c fa _)) ?_;clear F fa;intro fa F
   refine wpList_nil ?_
   refine hK5 _ _ ?_
   clear hK5
   refine wp_ret ?_
   (try simp only [Exit.inBlock,Exit.then])
   refine rt_v F (rs_1 F rfl rfl) ?_
   exact ⟨ZM (by unfold lkE;rw [Z4I];(repeat' split) <;> omega),E⟩
  ·skip
   replace F:=F.re (k:=21) rfl (congrArg Value.bool (decide_eq_false hg2))
   refine F.vl (Z9 rfl (F.at rfl) Try.underlying75 rfl (n:=1) (sz:=1) rfl (by kernel_rfl) (by decide)) ?_ (hw:=(ZQ F rfl rfl (by decide) rfl));clear F fa;intro fa F
   refine F.vl (Zh rfl (F.at rfl) Try.underlying3 rfl ((Z0 q3 1).trans (getS (get0)))) ?_ (hw:=(ZQ F rfl rfl (by decide) rfl));clear F fa;intro fa F
   refine F.vl (Z9 rfl (F.at rfl) Try.underlying28 rfl (n:=1) (sz:=1) rfl (by kernel_rfl) (by decide)) ?_ (hw:=(ZQ F rfl rfl (by decide) rfl));clear F fa;intro fa F
   refine F.vl (Zh rfl (F.at rfl) Try.underlying3 rfl ((Z0 q2 1).trans (getS (get0)))) ?_ (hw:=(ZQ F rfl rfl (by decide) rfl));clear F fa;intro fa F
   refine F.vl (Z1I rfl (F.at rfl) (ev_c fa _) (by omega) (by omega)) ?_ (hw:=(ZQ F rfl rfl (by decide) rfl));clear F fa;intro fa F
   refine ZX F rfl (by decide) (ZQ F rfl rfl (by decide) rfl) (ZG rfl rfl Try.call98 (mpS (F.at rfl) (mpS (ev_c fa _) (mpS (F.at rfl) mp0)))) (Z14 _ _ _ _) fun e w5 hR=>?_
   obtain ⟨rfl,e9⟩:=hR
   refine ⟨_,rfl,?_⟩;clear F fa;intro fa F
   replace q2:=(e9).keep0 q2
   replace q3:=(e9).keep0 q3
   replace E:=Z4 E (e9)
   clear e9
   refine F.vl (Z2t rfl (F.at rfl)) ?_ (hw:=(ZQ F rfl rfl (by decide) rfl));clear F fa;intro fa F
   refine F.vl (Z0H rfl (F.at rfl) (F.at rfl)) ?_;clear F fa;intro fa F
   refine F.mv ?_;clear F fa;intro fa F
   by_cases hg3:(¬ (0 ≤ k.2.1 ∧ k.2.1 ≤ t.A - 1))
   ·skip
    replace F:=F.re (k:=30) rfl (congrArg Value.bool (decide_eq_true hg3))
    refine Z03 F rfl (by decide) (Z04 F rfl rfl (by decide) rfl (by decide)) ?_;clear F fa;intro fa F
    refine Z03 F rfl (by decide) (Z04 F rfl rfl (by decide) rfl (by decide)) ?_;clear F fa;intro fa F
    refine Z03 F rfl (by decide) (Z04 F rfl rfl (by decide) rfl (by decide)) ?_;clear F fa;intro fa F
    refine Z03 F rfl (by decide) (Z04 F rfl rfl (by decide) rfl (by decide)) ?_;clear F fa;intro fa F
    refine Z03 F rfl (by decide) (Z04 F rfl rfl (by decide) rfl (by decide)) ?_;clear F fa;intro fa F
    refine Z03 F rfl (by decide) (Z04 F rfl rfl (by decide) rfl (by decide)) ?_;clear F fa;intro fa F
    refine Z03 F rfl (by decide) (Z04 F rfl rfl (by decide) rfl (by decide)) ?_;clear F fa;intro fa F
    refine F.vl (Z1m rfl (F.at rfl) (ev_c fa _)) ?_;clear F fa;intro fa F
    refine wpList_nil ?_
    refine hK3 _ _ ?_
    clear hK3
    refine cd_T F rfl ?_
    refine wp_seq_k fun K6 hK6=>?_
    refine wp_region_lit ?_
    refine F.vl (Z8 rfl (ev_c fa _)) ?_;clear F fa;intro fa F
    refine wpList_nil ?_
    refine hK6 _ _ ?_
    clear hK6
    refine wp_ret ?_
    (try simp only [Exit.inBlock,Exit.then])
    refine rt_v F (rs_1 F rfl rfl) ?_
    exact ⟨ZM (by unfold lkE;rw [Z4I];(repeat' split) <;> omega),E⟩
   ·skip
    replace F:=F.re (k:=30) rfl (congrArg Value.bool (decide_eq_false hg3))
    refine F.vl (Z9 rfl (F.at rfl) Try.underlying75 rfl (n:=3) (sz:=1) rfl (by kernel_rfl) (by decide)) ?_ (hw:=(ZQ F rfl rfl (by decide) rfl));clear F fa;intro fa F
    refine F.vl (Zh rfl (F.at rfl) Try.underlying3 rfl ((Z0 q3 3).trans (getS (getS (getS (get0)))))) ?_ (hw:=(ZQ F rfl rfl (by decide) rfl));clear F fa;intro fa F
    refine F.vl (Z9 rfl (F.at rfl) Try.underlying28 rfl (n:=1) (sz:=1) rfl (by kernel_rfl) (by decide)) ?_ (hw:=(ZQ F rfl rfl (by decide) rfl));clear F fa;intro fa F
    refine F.vl (Zh rfl (F.at rfl) Try.underlying3 rfl ((Z0 q2 1).trans (getS (get0)))) ?_ (hw:=(ZQ F rfl rfl (by decide) rfl));clear F fa;intro fa F
    refine F.vl (Z1I rfl (F.at rfl) (ev_c fa _) (by omega) (by omega)) ?_ (hw:=(ZQ F rfl rfl (by decide) rfl));clear F fa;intro fa F
    refine ZX F rfl (by decide) (ZQ F rfl rfl (by decide) rfl) (ZG rfl rfl Try.call98 (mpS (F.at rfl) (mpS (ev_c fa _) (mpS (F.at rfl) mp0)))) (Z14 _ _ _ _) fun e w6 hR=>?_
    obtain ⟨rfl,e9⟩:=hR
    refine ⟨_,rfl,?_⟩;clear F fa;intro fa F
    replace q2:=(e9).keep0 q2
    replace q3:=(e9).keep0 q3
    replace E:=Z4 E (e9)
    clear e9
    refine F.vl (Z2t rfl (F.at rfl)) ?_ (hw:=(ZQ F rfl rfl (by decide) rfl));clear F fa;intro fa F
    refine F.vl (Z0H rfl (F.at rfl) (F.at rfl)) ?_;clear F fa;intro fa F
    refine wpList_nil ?_
    refine hK3 _ _ ?_
    clear hK3
    refine Z0J F rfl (fun hc38=>?_) (fun hc38=>?_)
    ·skip
     refine wp_seq_k fun K7 hK7=>?_
     refine wp_region_lit ?_
     refine F.vl (Z8 rfl (ev_c fa _)) ?_;clear F fa;intro fa F
     refine wpList_nil ?_
     refine hK7 _ _ ?_
     clear hK7
     refine wp_ret ?_
     (try simp only [Exit.inBlock,Exit.then])
     refine rt_v F (rs_1 F rfl rfl) ?_
     exact ⟨ZM (by unfold lkE;rw [Z4I];(repeat' split) <;> omega),E⟩
    ·skip
     refine wp_skip ?_
     refine hK2 _ _ ?_
     clear hK2
     refine wp_seq_k fun K8 hK8=>?_
     refine wp_seq_k fun K9 hK9=>?_
     refine wp_region_lit ?_
     refine F.vl (Z9 rfl (F.at rfl) Try.underlying75 rfl (n:=0) (sz:=1) rfl (by kernel_rfl) (by decide)) ?_;clear F fa;intro fa F
     refine F.vl (Zh rfl (F.at rfl) Try.underlying3 rfl ((Z0 q3 0).trans (get0))) ?_;clear F fa;intro fa F
     refine F.vl (Z9 rfl (F.at rfl) Try.underlying75 rfl (n:=2) (sz:=1) rfl (by kernel_rfl) (by decide)) ?_;clear F fa;intro fa F
     refine F.vl (Zh rfl (F.at rfl) Try.underlying3 rfl ((Z0 q3 2).trans (getS (getS (get0))))) ?_;clear F fa;intro fa F
     refine F.vl (Z5T rfl (F.at rfl) (F.at rfl)) ?_;clear F fa;intro fa F
     refine F.mv ?_;clear F fa;intro fa F
     by_cases hg4:(k.1 = k.2.2.1)
     ·skip
      replace F:=F.re (k:=44) rfl (congrArg Value.bool (decide_eq_true hg4))
      refine F.vl (Z9 rfl (F.at rfl) Try.underlying75 rfl (n:=1) (sz:=1) rfl (by kernel_rfl) (by decide)) ?_ (hw:=(ZQ F rfl rfl (by decide) rfl));clear F fa;intro fa F
      refine F.vl (Zh rfl (F.at rfl) Try.underlying3 rfl ((Z0 q3 1).trans (getS (get0)))) ?_ (hw:=(ZQ F rfl rfl (by decide) rfl));clear F fa;intro fa F
      refine F.vl (Z9 rfl (F.at rfl) Try.underlying75 rfl (n:=3) (sz:=1) rfl (by kernel_rfl) (by decide)) ?_ (hw:=(ZQ F rfl rfl (by decide) rfl));clear F fa;intro fa F
      refine F.vl (Zh rfl (F.at rfl) Try.underlying3 rfl ((Z0 q3 3).trans (getS (getS (getS (get0)))))) ?_ (hw:=(ZQ F rfl rfl (by decide) rfl));clear F fa;intro fa F
      refine F.vl (Z5T rfl (F.at rfl) (F.at rfl)) ?_ (hw:=(ZQ F rfl rfl (by decide) rfl));clear F fa;intro fa F
      refine F.vl (Z1m rfl (F.at rfl) (F.at rfl)) ?_;clear F fa;intro fa F
      refine wpList_nil ?_
      refine hK9 _ _ ?_
      clear hK9
      refine Z0J F rfl (fun hc50=>?_) (fun hc50=>?_)
      ·skip
       refine wp_seq_k fun K10 hK10=>?_
       refine wp_region_lit ?_
       refine F.vl (Z8 rfl (ev_c fa _)) ?_;clear F fa;intro fa F
       refine wpList_nil ?_
       refine hK10 _ _ ?_
       clear hK10
       refine wp_ret ?_
       (try simp only [Exit.inBlock,Exit.then])
       refine rt_v F (rs_1 F rfl rfl) ?_
       exact ⟨ZM (by unfold lkE;rw [Z4I];(repeat' split) <;> omega),E⟩
      ·skip
       refine wp_skip ?_
       refine hK8 _ _ ?_
       clear hK8
       refine wp_seq_k fun K11 hK11=>?_
       refine wp_region_lit ?_
       refine F.vl (Z9 rfl (F.at rfl) Try.underlying75 rfl (n:=4) (sz:=2) rfl (by kernel_rfl) (by decide)) ?_;clear F fa;intro fa F
       refine F.vl (ZP rfl (F.at rfl) Try.underlying23 rfl (by kernel_rfl) (Z0I (n:=2) q3 rfl (midS (getS (getS (getS (getS (get0))))) (midS (getS (getS (getS (getS (getS (get0)))))) mid0)))) ?_;clear F fa;intro fa F
       refine ZX F rfl (by decide) rfl (ZG rfl rfl Try.call137 (mpS (F.at rfl) (mpS (ev_c fa _) (mpS (ev_c fa _) mp0)))) (Z1y _ _ _ _ _) fun e w7 hR=>?_
       obtain ⟨rfl,e9⟩:=hR
       refine ⟨_,rfl,?_⟩;clear F fa;intro fa F
       replace q2:=(e9).keep0 q2
       replace q3:=(e9).keep0 q3
       replace E:=Z4 E (e9)
       clear e9
       refine F.as ?_;clear F fa;intro fa F
       refine wpList_nil ?_
       refine hK11 _ _ ?_
       clear hK11
       refine wp_ret ?_
       (try simp only [Exit.inBlock,Exit.then])
       refine rt_v F (rs_1 F rfl rfl) ?_
       exact ⟨ZM (by unfold lkE;rw [Z4I];(repeat' split) <;> omega),E⟩
     ·skip
      replace F:=F.re (k:=44) rfl (congrArg Value.bool (decide_eq_false hg4))
      refine Z03 F rfl (by decide) (Z04 F rfl rfl (by decide) rfl (by decide)) ?_;clear F fa;intro fa F
      refine Z03 F rfl (by decide) (Z04 F rfl rfl (by decide) rfl (by decide)) ?_;clear F fa;intro fa F
      refine Z03 F rfl (by decide) (Z04 F rfl rfl (by decide) rfl (by decide)) ?_;clear F fa;intro fa F
      refine Z03 F rfl (by decide) (Z04 F rfl rfl (by decide) rfl (by decide)) ?_;clear F fa;intro fa F
      refine Z03 F rfl (by decide) (Z04 F rfl rfl (by decide) rfl (by decide)) ?_;clear F fa;intro fa F
      refine F.vl (Z0H rfl (F.at rfl) (ev_c fa _)) ?_;clear F fa;intro fa F
      refine wpList_nil ?_
      refine hK9 _ _ ?_
      clear hK9
      refine cd_F F rfl ?_
      refine wp_skip ?_
      refine hK8 _ _ ?_
      clear hK8
      refine wp_seq_k fun K12 hK12=>?_
      refine wp_region_lit ?_
      refine F.vl (Z9 rfl (F.at rfl) Try.underlying75 rfl (n:=4) (sz:=2) rfl (by kernel_rfl) (by decide)) ?_;clear F fa;intro fa F
      refine F.vl (ZP rfl (F.at rfl) Try.underlying23 rfl (by kernel_rfl) (Z0I (n:=2) q3 rfl (midS (getS (getS (getS (getS (get0))))) (midS (getS (getS (getS (getS (getS (get0)))))) mid0)))) ?_;clear F fa;intro fa F
      refine ZX F rfl (by decide) rfl (ZG rfl rfl Try.call137 (mpS (F.at rfl) (mpS (ev_c fa _) (mpS (ev_c fa _) mp0)))) (Z1y _ _ _ _ _) fun e w8 hR=>?_
      obtain ⟨rfl,e9⟩:=hR
      refine ⟨_,rfl,?_⟩;clear F fa;intro fa F
      replace q2:=(e9).keep0 q2
      replace q3:=(e9).keep0 q3
      replace E:=Z4 E (e9)
      clear e9
      refine F.as ?_;clear F fa;intro fa F
      refine wpList_nil ?_
      refine hK12 _ _ ?_
      clear hK12
      refine wp_ret ?_
      (try simp only [Exit.inBlock,Exit.then])
      refine rt_v F (rs_1 F rfl rfl) ?_
      exact ⟨ZM (by unfold lkE;rw [Z4I];(repeat' split) <;> omega),E⟩
def hdE (t:Tp):Int:=if Z2Y t ≠ 0 then Z2Y t else if (t.gr.length:Int) < t.S then 7 else if t.S < (t.gr.length:Int) then 6 else ZU (t.gr.map grE)
theorem Zbf {t:Tp} (h:hdE t = 0):Z2Y t = 0:=by
 unfold hdE at h
 by_cases c:Z2Y t = 0
 ·exact c
 ·rw [if_pos c] at h;exact absurd h c
theorem Z4A {t:Tp}:Z08 t = if hdE t ≠ 0 then hdE t else if 8 < t.rd.length then 6 else if ZU (t.rd.map (rdE t)) ≠ 0 then ZU (t.rd.map (rdE t)) else if 3 < t.lk.length then 6 else ZU (t.lk.map (lkE t)):=by
 unfold Z08 hdE
 by_cases c:Z2Y t = 0 <;> by_cases d:(t.gr.length:Int) < t.S <;> by_cases e:t.S < (t.gr.length:Int) <;> simp [c,d,e]
set_option maxRecDepth 100000 in
theorem Z6N (t:Tp) (ga:Option Addr) (gc:Nat) (rv lv:Value) (w:World) (hg:Z0E w (.slice ga t.gr.length gc) 2 (t.gr.map Z0K)) (hl:t.gr.length ≤ 1000) (h1:rv.oneCell' = true) (h2:lv.oneCell' = true) :
  Calls Try.prog 87 #[tpV t (.slice ga t.gr.length gc) rv lv] w fun e w'=>e = .returned (.int .i64 (hdE t)) ∧ Ext [] w w':=by
 have E:Ext [] w w:=Ext.refl _ _
 have HG:=Lib.hid (Z0C hg (0,0))
 clear hg
 unfold tpV
 refine Z01 67 Try.func87 rfl Try.ntmps87 (Nat.le_of_ble_eq_true rfl) ?_
 intro fa F
 refine wp_seq_k fun K1 hK1=>?_
 refine wp_region_lit ?_
 refine Z00 F rfl (by decide) rfl (Z0z rfl (F.at rfl)) ?_;clear F fa;intro fa w1 F hw
 obtain ⟨n1,hn⟩:∃ n,n = w.heap.size:=⟨_,rfl⟩
 rw [← hn] at F
 have s1:w.heap.size ≤ n1:=Nat.le_of_eq hn.symm
 have l1_E:w.heap.size ≤ n1:=by rw [hn];exact E.size
 replace E:=Z2 E hw
 have q1:=Zr hw hn
 clear hw hn
 refine F.vl (Z8 rfl (ev_c fa _)) ?_;clear F fa;intro fa F
 refine wpList_nil ?_
 refine hK1 _ _ ?_
 clear hK1
 refine wp_seq_k fun K2 hK2=>?_
 refine wp_seq_k fun K3 hK3=>?_
 refine wp_region_lit ?_
 refine F.vl (Z9 rfl (F.at rfl) Try.underlying28 rfl (n:=0) (sz:=1) rfl (by kernel_rfl) (by decide)) ?_;clear F fa;intro fa F
 refine F.vl (Zh rfl (F.at rfl) Try.underlying3 rfl ((Z0 q1 0).trans (get0))) ?_;clear F fa;intro fa F
 refine ZX F rfl (by decide) rfl (ZG rfl rfl Try.call98 (mpS (F.at rfl) (mpS (ev_c fa _) (mpS (ev_c fa _) mp0)))) (Z14 _ _ _ _) fun e w2 hR=>?_
 obtain ⟨rfl,e9⟩:=hR
 refine ⟨_,rfl,?_⟩;clear F fa;intro fa F
 replace q1:=(e9).keep0 q1
 replace E:=Z4 E (e9)
 clear e9
 refine F.vl (Z2t rfl (F.at rfl)) ?_;clear F fa;intro fa F
 refine F.mv ?_;clear F fa;intro fa F
 by_cases hg1:(¬ (1 ≤ t.S ∧ t.S ≤ 3))
 ·skip
  replace F:=F.re (k:=11) rfl (congrArg Value.bool (decide_eq_true hg1))
  refine Z03 F rfl (by decide) (Z04 F rfl rfl (by decide) rfl (by decide)) ?_;clear F fa;intro fa F
  refine Z03 F rfl (by decide) (Z04 F rfl rfl (by decide) rfl (by decide)) ?_;clear F fa;intro fa F
  refine Z03 F rfl (by decide) (Z04 F rfl rfl (by decide) rfl (by decide)) ?_;clear F fa;intro fa F
  refine Z03 F rfl (by decide) (Z04 F rfl rfl (by decide) rfl (by decide)) ?_;clear F fa;intro fa F
  refine F.vl (Z1m rfl (F.at rfl) (ev_c fa _)) ?_;clear F fa;intro fa F
  refine F.mv ?_;clear F fa;intro fa F
  refine Z03 F rfl (by decide) (Z04 F rfl rfl (by decide) rfl (by decide)) ?_;clear F fa;intro fa F
  refine Z03 F rfl (by decide) (Z04 F rfl rfl (by decide) rfl (by decide)) ?_;clear F fa;intro fa F
  refine Z03 F rfl (by decide) (Z04 F rfl rfl (by decide) rfl (by decide)) ?_;clear F fa;intro fa F
  refine Z03 F rfl (by decide) (Z04 F rfl rfl (by decide) rfl (by decide)) ?_;clear F fa;intro fa F
  refine F.vl (Z1m rfl (F.at rfl) (ev_c fa _)) ?_;clear F fa;intro fa F
  refine wpList_nil ?_
  refine hK3 _ _ ?_
  clear hK3
  refine cd_T F rfl ?_
  refine wp_seq_k fun K4 hK4=>?_
  refine wp_region_lit ?_
  refine F.vl (Z8 rfl (ev_c fa _)) ?_;clear F fa;intro fa F
  refine wpList_nil ?_
  refine hK4 _ _ ?_
  clear hK4
  refine wp_ret ?_
  (try simp only [Exit.inBlock,Exit.then])
  refine rt_v F (rs_1 F rfl rfl) ?_
  first | exact ⟨ZM (by rw [hhd];omega),E⟩ | exact ⟨ZM (by unfold hdE;rw [if_neg (by omega)];(repeat' split) <;> omega),E⟩ | exact ⟨ZM (by unfold hdE;rw [Z2s];(repeat' split) <;> omega),E⟩
 ·skip
  replace F:=F.re (k:=11) rfl (congrArg Value.bool (decide_eq_false hg1))
  refine F.vl (Z9 rfl (F.at rfl) Try.underlying28 rfl (n:=1) (sz:=1) rfl (by kernel_rfl) (by decide)) ?_ (hw:=(ZQ F rfl rfl (by decide) rfl));clear F fa;intro fa F
  refine F.vl (Zh rfl (F.at rfl) Try.underlying3 rfl ((Z0 q1 1).trans (getS (get0)))) ?_ (hw:=(ZQ F rfl rfl (by decide) rfl));clear F fa;intro fa F
  refine ZX F rfl (by decide) (ZQ F rfl rfl (by decide) rfl) (ZG rfl rfl Try.call98 (mpS (F.at rfl) (mpS (ev_c fa _) (mpS (ev_c fa _) mp0)))) (Z14 _ _ _ _) fun e w3 hR=>?_
  obtain ⟨rfl,e9⟩:=hR
  refine ⟨_,rfl,?_⟩;clear F fa;intro fa F
  replace q1:=(e9).keep0 q1
  replace E:=Z4 E (e9)
  clear e9
  refine F.vl (Z2t rfl (F.at rfl)) ?_ (hw:=(ZQ F rfl rfl (by decide) rfl));clear F fa;intro fa F
  refine F.vl (Z0H rfl (F.at rfl) (F.at rfl)) ?_;clear F fa;intro fa F
  refine F.mv ?_;clear F fa;intro fa F
  by_cases hg2:(¬ (1 ≤ t.A ∧ t.A ≤ 3))
  ·skip
   replace F:=F.re (k:=17) rfl (congrArg Value.bool (decide_eq_true hg2))
   refine Z03 F rfl (by decide) (Z04 F rfl rfl (by decide) rfl (by decide)) ?_;clear F fa;intro fa F
   refine Z03 F rfl (by decide) (Z04 F rfl rfl (by decide) rfl (by decide)) ?_;clear F fa;intro fa F
   refine Z03 F rfl (by decide) (Z04 F rfl rfl (by decide) rfl (by decide)) ?_;clear F fa;intro fa F
   refine Z03 F rfl (by decide) (Z04 F rfl rfl (by decide) rfl (by decide)) ?_;clear F fa;intro fa F
   refine F.vl (Z1m rfl (F.at rfl) (ev_c fa _)) ?_;clear F fa;intro fa F
   refine wpList_nil ?_
   refine hK3 _ _ ?_
   clear hK3
   refine cd_T F rfl ?_
   refine wp_seq_k fun K5 hK5=>?_
   refine wp_region_lit ?_
   refine F.vl (Z8 rfl (ev_c fa _)) ?_;clear F fa;intro fa F
   refine wpList_nil ?_
   refine hK5 _ _ ?_
   clear hK5
   refine wp_ret ?_
   (try simp only [Exit.inBlock,Exit.then])
   refine rt_v F (rs_1 F rfl rfl) ?_
   first | exact ⟨ZM (by rw [hhd];omega),E⟩ | exact ⟨ZM (by unfold hdE;rw [if_neg (by omega)];(repeat' split) <;> omega),E⟩ | exact ⟨ZM (by unfold hdE;rw [Z2s];(repeat' split) <;> omega),E⟩
  ·skip
   replace F:=F.re (k:=17) rfl (congrArg Value.bool (decide_eq_false hg2))
   refine F.vl (Z9 rfl (F.at rfl) Try.underlying28 rfl (n:=2) (sz:=1) rfl (by kernel_rfl) (by decide)) ?_ (hw:=(ZQ F rfl rfl (by decide) rfl));clear F fa;intro fa F
   refine F.vl (Zh rfl (F.at rfl) Try.underlying3 rfl ((Z0 q1 2).trans (getS (getS (get0))))) ?_ (hw:=(ZQ F rfl rfl (by decide) rfl));clear F fa;intro fa F
   refine ZX F rfl (by decide) (ZQ F rfl rfl (by decide) rfl) (ZG rfl rfl Try.call98 (mpS (F.at rfl) (mpS (ev_c fa _) (mpS (ev_c fa _) mp0)))) (Z14 _ _ _ _) fun e w4 hR=>?_
   obtain ⟨rfl,e9⟩:=hR
   refine ⟨_,rfl,?_⟩;clear F fa;intro fa F
   replace q1:=(e9).keep0 q1
   replace E:=Z4 E (e9)
   clear e9
   refine F.vl (Z2t rfl (F.at rfl)) ?_ (hw:=(ZQ F rfl rfl (by decide) rfl));clear F fa;intro fa F
   refine F.vl (Z0H rfl (F.at rfl) (F.at rfl)) ?_;clear F fa;intro fa F
   refine wpList_nil ?_
   refine hK3 _ _ ?_
   clear hK3
   refine Z0J F rfl (fun hc22=>?_) (fun hc22=>?_)
   ·skip
    refine wp_seq_k fun K6 hK6=>?_
    refine wp_region_lit ?_
    refine F.vl (Z8 rfl (ev_c fa _)) ?_;clear F fa;intro fa F
    refine wpList_nil ?_
    refine hK6 _ _ ?_
    clear hK6
    refine wp_ret ?_
    (try simp only [Exit.inBlock,Exit.then])
    refine rt_v F (rs_1 F rfl rfl) ?_
    first | exact ⟨ZM (by rw [hhd];omega),E⟩ | exact ⟨ZM (by unfold hdE;rw [if_neg (by omega)];(repeat' split) <;> omega),E⟩ | exact ⟨ZM (by unfold hdE;rw [Z2s];(repeat' split) <;> omega),E⟩
   ·skip
    refine wp_skip ?_
    refine hK2 _ _ ?_
    clear hK2
    refine wp_seq_k fun K7 hK7=>?_
    refine wp_seq_k fun K8 hK8=>?_
    refine wp_region_lit ?_
    refine F.vl (Z9 rfl (F.at rfl) Try.underlying28 rfl (n:=3) (sz:=2) rfl (by kernel_rfl) (by decide)) ?_;clear F fa;intro fa F
    refine F.vl (ZP rfl (F.at rfl) Try.underlying23 rfl (by kernel_rfl) (Z0I (n:=2) q1 rfl (midS (getS (getS (getS (get0)))) (midS (getS (getS (getS (getS (get0))))) mid0)))) ?_;clear F fa;intro fa F
    refine ZX F rfl (by decide) rfl (ZG rfl rfl Try.call137 (mpS (F.at rfl) (mpS (ev_c fa _) (mpS (ev_c fa _) mp0)))) (Z1y _ _ _ _ _) fun e w5 hR=>?_
    obtain ⟨rfl,e9⟩:=hR
    refine ⟨_,rfl,?_⟩;clear F fa;intro fa F
    replace q1:=(e9).keep0 q1
    replace E:=Z4 E (e9)
    clear e9
    refine F.as ?_;clear F fa;intro fa F
    refine wpList_nil ?_
    refine hK8 _ _ ?_
    clear hK8
    refine wp_seq_k fun K9 hK9=>?_
    refine wp_region_lit ?_
    refine F.mv ?_;clear F fa;intro fa F
    refine F.vl (Z3v rfl (F.at rfl) (ev_c fa _)) ?_;clear F fa;intro fa F
    refine wpList_nil ?_
    refine hK9 _ _ ?_
    clear hK9
    refine Z0J F rfl (fun hc27=>?_) (fun hc27=>?_)
    ·skip
     refine wp_seq_k fun K10 hK10=>?_
     refine wp_region_lit ?_
     refine F.mv ?_;clear F fa;intro fa F
     refine F.as ?_;clear F fa;intro fa F
     refine wpList_nil ?_
     refine hK10 _ _ ?_
     clear hK10
     refine wp_ret ?_
     (try simp only [Exit.inBlock,Exit.then])
     refine rt_v F (rs_1 F rfl rfl) ?_
     first | exact ⟨ZM (by rw [hhd];omega),E⟩ | exact ⟨ZM (by unfold hdE;rw [if_neg (by omega)];(repeat' split) <;> omega),E⟩ | exact ⟨ZM (by unfold hdE;rw [Z2s];(repeat' split) <;> omega),E⟩
    ·skip
     refine wp_skip ?_
     refine hK7 _ _ ?_
     clear hK7
     refine wp_seq_k fun K11 hK11=>?_
     refine wp_seq_k fun K12 hK12=>?_
     refine wp_region_lit ?_
     refine F.vl (Z9 rfl (F.at rfl) Try.underlying28 rfl (n:=5) (sz:=2) rfl (by kernel_rfl) (by decide)) ?_;clear F fa;intro fa F
     refine F.vl (ZP rfl (F.at rfl) Try.underlying23 rfl (by kernel_rfl) (Z0I (n:=2) q1 rfl (midS (getS (getS (getS (getS (getS (get0)))))) (midS (getS (getS (getS (getS (getS (getS (get0))))))) mid0)))) ?_;clear F fa;intro fa F
     refine ZX F rfl (by decide) rfl (ZG rfl rfl Try.call137 (mpS (F.at rfl) (mpS (ev_c fa _) (mpS (ev_c fa _) mp0)))) (Z1y _ _ _ _ _) fun e w6 hR=>?_
     obtain ⟨rfl,e9⟩:=hR
     refine ⟨_,rfl,?_⟩;clear F fa;intro fa F
     replace q1:=(e9).keep0 q1
     replace E:=Z4 E (e9)
     clear e9
     refine F.as ?_;clear F fa;intro fa F
     refine wpList_nil ?_
     refine hK12 _ _ ?_
     clear hK12
     refine wp_seq_k fun K13 hK13=>?_
     refine wp_region_lit ?_
     refine F.mv ?_;clear F fa;intro fa F
     refine F.vl (Z3v rfl (F.at rfl) (ev_c fa _)) ?_;clear F fa;intro fa F
     refine wpList_nil ?_
     refine hK13 _ _ ?_
     clear hK13
     refine Z0J F rfl (fun hc33=>?_) (fun hc33=>?_)
     ·skip
      refine wp_seq_k fun K14 hK14=>?_
      refine wp_region_lit ?_
      refine F.mv ?_;clear F fa;intro fa F
      refine F.as ?_;clear F fa;intro fa F
      refine wpList_nil ?_
      refine hK14 _ _ ?_
      clear hK14
      refine wp_ret ?_
      (try simp only [Exit.inBlock,Exit.then])
      refine rt_v F (rs_1 F rfl rfl) ?_
      first | exact ⟨ZM (by rw [hhd];omega),E⟩ | exact ⟨ZM (by unfold hdE;rw [if_neg (by omega)];(repeat' split) <;> omega),E⟩ | exact ⟨ZM (by unfold hdE;rw [Z2s];(repeat' split) <;> omega),E⟩
     ·skip
      refine wp_skip ?_
      refine hK11 _ _ ?_
      clear hK11
      refine wp_seq_k fun K15 hK15=>?_
      refine wp_seq_k fun K16 hK16=>?_
      refine wp_region_lit ?_
      refine F.vl (Z9 rfl (F.at rfl) Try.underlying28 rfl (n:=7) (sz:=1) rfl (by kernel_rfl) (by decide)) ?_;clear F fa;intro fa F
      refine F.vl (Zh rfl (F.at rfl) Try.underlying3 rfl ((Z0 q1 7).trans (getS (getS (getS (getS (getS (getS (getS (get0)))))))))) ?_;clear F fa;intro fa F
      refine ZX F rfl (by decide) rfl (ZG rfl rfl Try.call98 (mpS (F.at rfl) (mpS (ev_c fa _) (mpS (ev_c fa _) mp0)))) (Z14 _ _ _ _) fun e w7 hR=>?_
      obtain ⟨rfl,e9⟩:=hR
      refine ⟨_,rfl,?_⟩;clear F fa;intro fa F
      replace q1:=(e9).keep0 q1
      replace E:=Z4 E (e9)
      clear e9
      refine F.vl (Z2t rfl (F.at rfl)) ?_;clear F fa;intro fa F
      refine wpList_nil ?_
      refine hK16 _ _ ?_
      clear hK16
      refine Z0J F rfl (fun hc38=>?_) (fun hc38=>?_)
      ·skip
       refine wp_seq_k fun K17 hK17=>?_
       refine wp_region_lit ?_
       refine F.vl (Z8 rfl (ev_c fa _)) ?_;clear F fa;intro fa F
       refine wpList_nil ?_
       refine hK17 _ _ ?_
       clear hK17
       refine wp_ret ?_
       (try simp only [Exit.inBlock,Exit.then])
       refine rt_v F (rs_1 F rfl rfl) ?_
       first | exact ⟨ZM (by rw [hhd];omega),E⟩ | exact ⟨ZM (by unfold hdE;rw [if_neg (by omega)];(repeat' split) <;> omega),E⟩ | exact ⟨ZM (by unfold hdE;rw [Z2s];(repeat' split) <;> omega),E⟩
      ·skip
       refine wp_skip ?_
       refine hK15 _ _ ?_
       clear hK15
       refine wp_seq_k fun K18 hK18=>?_
       refine wp_seq_k fun K19 hK19=>?_
       have hh0:Z2Y t = 0:=by rw [Z2s];(repeat' split) <;> omega
       refine wp_region_lit ?_
       refine F.vl (Z9 rfl (F.at rfl) Try.underlying28 rfl (n:=8) (sz:=1) rfl (by kernel_rfl) (by decide)) ?_;clear F fa;intro fa F
       refine F.vl (Zh rfl (F.at rfl) Try.underlying24 rfl ((Z0 q1 8).trans (getS (getS (getS (getS (getS (getS (getS (getS (get0))))))))))) ?_;clear F fa;intro fa F
       refine F.vl (Z1c rfl rfl (F.at rfl) Try.underlying24) ?_;clear F fa;intro fa F
       refine F.vl (Z9 rfl (F.at rfl) Try.underlying28 rfl (n:=0) (sz:=1) rfl (by kernel_rfl) (by decide)) ?_;clear F fa;intro fa F
       refine F.vl (Zh rfl (F.at rfl) Try.underlying3 rfl ((Z0 q1 0).trans (get0))) ?_;clear F fa;intro fa F
       refine F.vl (Z1d rfl (F.at rfl) (F.at rfl)) ?_;clear F fa;intro fa F
       refine wpList_nil ?_
       refine hK19 _ _ ?_
       clear hK19
       refine Z0J F rfl (fun hc44=>?_) (fun hc44=>?_)
       ·skip
        refine wp_seq_k fun K20 hK20=>?_
        refine wp_region_lit ?_
        refine F.vl (Z8 rfl (ev_c fa _)) ?_;clear F fa;intro fa F
        refine wpList_nil ?_
        refine hK20 _ _ ?_
        clear hK20
        refine wp_ret ?_
        (try simp only [Exit.inBlock,Exit.then])
        refine rt_v F (rs_1 F rfl rfl) ?_
        first | exact ⟨ZM (by rw [hhd];omega),E⟩ | exact ⟨ZM (by unfold hdE;rw [if_neg (by omega)];(repeat' split) <;> omega),E⟩ | exact ⟨ZM (by unfold hdE;rw [Z2s];(repeat' split) <;> omega),E⟩
       ·skip
        refine wp_skip ?_
        refine hK18 _ _ ?_
        clear hK18
        refine wp_seq_k fun K21 hK21=>?_
        refine wp_seq_k fun K22 hK22=>?_
        refine wp_region_lit ?_
        refine F.vl (Z9 rfl (F.at rfl) Try.underlying28 rfl (n:=8) (sz:=1) rfl (by kernel_rfl) (by decide)) ?_;clear F fa;intro fa F
        refine F.vl (Zh rfl (F.at rfl) Try.underlying24 rfl ((Z0 q1 8).trans (getS (getS (getS (getS (getS (getS (getS (getS (get0))))))))))) ?_;clear F fa;intro fa F
        refine F.vl (Z1c rfl rfl (F.at rfl) Try.underlying24) ?_;clear F fa;intro fa F
        refine F.vl (Z9 rfl (F.at rfl) Try.underlying28 rfl (n:=0) (sz:=1) rfl (by kernel_rfl) (by decide)) ?_;clear F fa;intro fa F
        refine F.vl (Zh rfl (F.at rfl) Try.underlying3 rfl ((Z0 q1 0).trans (get0))) ?_;clear F fa;intro fa F
        refine F.vl (Z4J rfl (F.at rfl) (F.at rfl)) ?_;clear F fa;intro fa F
        refine wpList_nil ?_
        refine hK22 _ _ ?_
        clear hK22
        refine Z0J F rfl (fun hc50=>?_) (fun hc50=>?_)
        ·skip
         refine wp_seq_k fun K23 hK23=>?_
         refine wp_region_lit ?_
         refine F.vl (Z8 rfl (ev_c fa _)) ?_;clear F fa;intro fa F
         refine wpList_nil ?_
         refine hK23 _ _ ?_
         clear hK23
         refine wp_ret ?_
         (try simp only [Exit.inBlock,Exit.then])
         refine rt_v F (rs_1 F rfl rfl) ?_
         first | exact ⟨ZM (by rw [hhd];omega),E⟩ | exact ⟨ZM (by unfold hdE;rw [if_neg (by omega)];(repeat' split) <;> omega),E⟩ | exact ⟨ZM (by unfold hdE;rw [Z2s];(repeat' split) <;> omega),E⟩
        ·skip
         refine wp_skip ?_
         refine hK21 _ _ ?_
         clear hK21
         refine wp_seq_k fun K24 hK24=>?_
         refine wp_seq_k fun K25 hK25=>?_
         refine wp_region_lit ?_
         refine F.vl (Z8 rfl (ev_c fa _)) ?_;clear F fa;intro fa F
         refine wpList_nil ?_
         have hhd:hdE t = ZU (t.gr.map grE):=by unfold hdE;rw [if_neg (by omega),if_neg (by omega),if_neg (by omega)]
         refine hK25 _ _ ?_
         clear hK25
         refine wp_block ?_
         have F0:=F.sub (.c 1 rfl .n)
         refine Z0U F0 (t.gr.length) (fun i Lv W=>Lv = [(5,.int .i64 ((i:Nat):Int))] ∧ Ext [] w7 W ∧ ZU ((t.gr.map grE).drop i) = ZU (t.gr.map grE)) ⟨_,⟨rfl,Ext.refl _ _,rfl⟩,F.sub (.c 5 rfl (.c 1 rfl .n))⟩ ?_
         clear F F0
         rintro i _ fa w8 hi1 ⟨rfl,EL1,hf⟩ F
         have q1:=EL1.keep0 q1
         have E:=E.nil EL1
         refine wp_seq_k fun K26 hK26=>?_
         refine wp_seq_k fun K27 hK27=>?_
         refine wp_region_lit ?_
         refine F.mv ?_;clear F fa;intro fa F
         refine F.vl (Z9 rfl (F.at rfl) Try.underlying28 rfl (n:=8) (sz:=1) rfl (by kernel_rfl) (by decide)) ?_;clear F fa;intro fa F
         refine F.vl (Zh rfl (F.at rfl) Try.underlying24 rfl ((Z0 q1 8).trans (getS (getS (getS (getS (getS (getS (getS (getS (get0))))))))))) ?_;clear F fa;intro fa F
         refine F.vl (Z1c rfl rfl (F.at rfl) Try.underlying24) ?_;clear F fa;intro fa F
         refine F.vl (Z1d rfl (F.at rfl) (F.at rfl)) ?_;clear F fa;intro fa F
         refine wpList_nil ?_
         refine hK27 _ _ ?_
         clear hK27
         refine Z0J F rfl (fun hc55=>?_) (fun hc55=>?_)
         ·skip
          refine wp_skip ?_
          refine hK26 _ _ ?_
          clear hK26
          refine wp_seq_k fun K28 hK28=>?_
          refine wp_block ?_
          refine wp_seq_k fun K29 hK29=>?_
          refine wp_region_lit ?_
          refine F.vl (Z9 rfl (F.at rfl) Try.underlying28 rfl (n:=8) (sz:=1) rfl (by kernel_rfl) (by decide)) ?_;clear F fa;intro fa F
          refine F.vl (Zh rfl (F.at rfl) Try.underlying24 rfl ((Z0 q1 8).trans (getS (getS (getS (getS (getS (getS (getS (getS (get0))))))))))) ?_;clear F fa;intro fa F
          refine F.mv ?_;clear F fa;intro fa F
          obtain ⟨xb30,xo30,xa30,xr30⟩:=HG.out i (by omega)
          refine F.vl (ZJ (sz:=2) rfl ((F.at rfl).trans (xa30 _ _)) (F.at rfl) Try.underlying24 (by kernel_rfl) (by omega) (by omega)) ?_;clear F fa;intro fa F
          refine F.vl (ZP rfl (F.at rfl) Try.underlying23 rfl (by kernel_rfl) (xr30 _ E)) ?_;clear F fa;intro fa F
          refine ZX F rfl (by decide) rfl (ZG rfl rfl Try.call137 (mpS (F.at rfl) (mpS (ev_c fa _) (mpS (ev_c fa _) mp0)))) (Z1y _ _ _ _ _) fun e w9 hR=>?_
          obtain ⟨rfl,e9⟩:=hR
          refine ⟨_,rfl,?_⟩;clear F fa;intro fa F
          replace q1:=(e9).keep0 q1
          replace E:=Z4 E (e9)
          replace EL1:=Z4 EL1 (e9)
          clear e9
          rw [show Z1n (t.gr.getD i (0,0)).1 (t.gr.getD i (0,0)).2 (-20) 20 = grE (t.gr.getD i (0,0)) from rfl] at F
          refine F.as ?_;clear F fa;intro fa F
          refine wpList_nil ?_
          refine hK29 _ _ ?_
          clear hK29
          refine wp_seq_k fun K31 hK31=>?_
          refine wp_region_lit ?_
          refine F.mv ?_;clear F fa;intro fa F
          refine F.vl (Z3v rfl (F.at rfl) (ev_c fa _)) ?_;clear F fa;intro fa F
          refine wpList_nil ?_
          refine hK31 _ _ ?_
          clear hK31
          refine Z0J F rfl (fun hc65=>?_) (fun hc65=>?_)
          ·skip
           have hz:=(Z24 (f:=grE) (0,0) (show i < t.gr.length by omega) (by omega)).symm.trans hf
           refine wp_seq_k fun K32 hK32=>?_
           refine wp_region_lit ?_
           refine F.mv ?_;clear F fa;intro fa F
           refine F.as ?_;clear F fa;intro fa F
           refine wpList_nil ?_
           refine hK32 _ _ ?_
           clear hK32
           refine wp_ret ?_
           (try simp only [Exit.inBlock,Exit.then])
           refine rt_v F (rs_1 F rfl rfl) ?_
           first | exact ⟨ZM (by rw [hhd];omega),E⟩ | exact ⟨ZM (by unfold hdE;rw [if_neg (by omega)];(repeat' split) <;> omega),E⟩ | exact ⟨ZM (by unfold hdE;rw [Z2s];(repeat' split) <;> omega),E⟩
          ·skip
           have hz:grE (t.gr.getD i (0,0)) = 0:=by omega
           refine wp_skip ?_
           refine hK28 _ _ ?_
           clear hK28
           refine wp_region_lit ?_
           refine F.mv ?_;clear F fa;intro fa F
           refine F.vl (Z0F rfl (F.at rfl) (ev_c fa _) (by omega) (by omega)) ?_;clear F fa;intro fa F
           refine F.as ?_;clear F fa;intro fa F
           refine wpList_nil ?_
           show _ ∧ _
           exact ⟨by omega,_,⟨rfl,EL1,(Z1H (0,0) (show i < t.gr.length by omega) hz).trans hf⟩,F.sub (.c 5 rfl (.c 1 rfl .n))⟩
         ·skip
          refine wp_exit ?_
          refine hK24 _ _ ?_
          clear hK24
          refine wp_seq_k fun K33 hK33=>?_
          have hz:=Z25 (f:=grE) (show t.gr.length ≤ i by omega) hf
          refine wp_region_lit ?_
          refine F.vl (Z8 rfl (ev_c fa _)) ?_;clear F fa;intro fa F
          refine wpList_nil ?_
          refine hK33 _ _ ?_
          clear hK33
          refine wp_ret ?_
          (try simp only [Exit.inBlock,Exit.then])
          refine rt_v F (rs_1 F rfl rfl) ?_
          first | exact ⟨ZM (by rw [hhd];omega),E⟩ | exact ⟨ZM (by unfold hdE;rw [if_neg (by omega)];(repeat' split) <;> omega),E⟩ | exact ⟨ZM (by unfold hdE;rw [Z2s];(repeat' split) <;> omega),E⟩
set_option maxRecDepth 100000 in
theorem Z6p (t:Tp) (ga ra la:Option Addr) (gc rc lc:Nat) (w:World) (ht:IsTp w (.slice ga t.gr.length gc) (.slice ra t.rd.length rc) (.slice la t.lk.length lc) t) (l1:t.gr.length ≤ 1000) (l2:t.rd.length ≤ 1000) (l3:t.lk.length ≤ 1000) :
  Calls Try.prog 32 #[tpV t (.slice ga t.gr.length gc) (.slice ra t.rd.length rc) (.slice la t.lk.length lc)] w fun e w'=>e = .returned (.int .i64 (Z08 t)) ∧ Ext [] w w':=by
 have E:Ext [] w w:=Ext.refl _ _
 have HT:=Lib.hid ht
 have HR:=Lib.hid (Z0C ht.rd (0,0,0,0))
 have HL:=Lib.hid (Z0C ht.lk (0,0,0,0,0,0))
 clear ht
 unfold tpV
 refine Z01 55 Try.func32 rfl Try.ntmps32 (Nat.le_of_ble_eq_true rfl) ?_
 intro fa F
 refine wp_seq_k fun K1 hK1=>?_
 refine wp_region_lit ?_
 refine Z00 F rfl (by decide) rfl (Z0z rfl (F.at rfl)) ?_;clear F fa;intro fa w1 F hw
 obtain ⟨n1,hn⟩:∃ n,n = w.heap.size:=⟨_,rfl⟩
 rw [← hn] at F
 have s1:w.heap.size ≤ n1:=Nat.le_of_eq hn.symm
 have l1_E:w.heap.size ≤ n1:=by rw [hn];exact E.size
 replace E:=Z2 E hw
 have q1:=Zr hw hn
 clear hw hn
 refine F.vl (Z8 rfl (ev_c fa _)) ?_;clear F fa;intro fa F
 refine wpList_nil ?_
 refine hK1 _ _ ?_
 clear hK1
 refine wp_seq_k fun K2 hK2=>?_
 refine wp_seq_k fun K3 hK3=>?_
 refine wp_region_lit ?_
 refine F.vl (Zt rfl (F.at rfl) Try.underlying28 rfl (by kernel_rfl) q1) ?_;clear F fa;intro fa F
 refine ZX F rfl (by decide) rfl (ZG rfl rfl Try.call87 (mpS (F.at rfl) mp0)) (Z6N t ga gc _ _ _ (HT.out.ext E (by simp)).gr l1 rfl rfl) fun e w2 hR=>?_
 obtain ⟨rfl,e9⟩:=hR
 refine ⟨_,rfl,?_⟩;clear F fa;intro fa F
 replace q1:=(e9).keep0 q1
 replace E:=Z4 E (e9)
 clear e9
 refine F.as ?_;clear F fa;intro fa F
 refine wpList_nil ?_
 refine hK3 _ _ ?_
 clear hK3
 refine wp_seq_k fun K4 hK4=>?_
 refine wp_region_lit ?_
 refine F.mv ?_;clear F fa;intro fa F
 refine F.vl (Z3v rfl (F.at rfl) (ev_c fa _)) ?_;clear F fa;intro fa F
 refine wpList_nil ?_
 refine hK4 _ _ ?_
 clear hK4
 refine Z0J F rfl (fun hc11=>?_) (fun hc11=>?_)
 ·skip
  refine wp_seq_k fun K5 hK5=>?_
  refine wp_region_lit ?_
  refine F.mv ?_;clear F fa;intro fa F
  refine F.as ?_;clear F fa;intro fa F
  refine wpList_nil ?_
  refine hK5 _ _ ?_
  clear hK5
  refine wp_ret ?_
  (try simp only [Exit.inBlock,Exit.then])
  refine rt_v F (rs_1 F rfl rfl) ?_
  first | exact ⟨ZM (by rw [Z4A,if_pos (by omega)]),E⟩ | exact ⟨ZM (by rw [hck,if_pos (by omega)]),E⟩ | exact ⟨ZM (by rw [hck] <;> omega),E⟩
 ·skip
  refine wp_skip ?_
  refine hK2 _ _ ?_
  clear hK2
  refine wp_seq_k fun K6 hK6=>?_
  refine wp_seq_k fun K7 hK7=>?_
  have hh0:hdE t = 0:=by omega
  obtain ⟨⟨s1,s3⟩,⟨a1,a3⟩,t1,t3⟩:=Z3W (Zbf hh0)
  have hck:=Z4A (t:=t)
  rw [if_neg (by omega)] at hck
  refine wp_region_lit ?_
  refine F.vl (Z9 rfl (F.at rfl) Try.underlying28 rfl (n:=9) (sz:=1) rfl (by kernel_rfl) (by decide)) ?_;clear F fa;intro fa F
  refine F.vl (Zh rfl (F.at rfl) Try.underlying25 rfl ((Z0 q1 9).trans (getS (getS (getS (getS (getS (getS (getS (getS (getS (get0)))))))))))) ?_;clear F fa;intro fa F
  refine F.vl (Z1c rfl rfl (F.at rfl) Try.underlying25) ?_;clear F fa;intro fa F
  refine F.vl (Z4J rfl (F.at rfl) (ev_c fa _)) ?_;clear F fa;intro fa F
  refine wpList_nil ?_
  refine hK7 _ _ ?_
  clear hK7
  refine Z0J F rfl (fun hc16=>?_) (fun hc16=>?_)
  ·skip
   refine wp_seq_k fun K8 hK8=>?_
   refine wp_region_lit ?_
   refine F.vl (Z8 rfl (ev_c fa _)) ?_;clear F fa;intro fa F
   refine wpList_nil ?_
   refine hK8 _ _ ?_
   clear hK8
   refine wp_ret ?_
   (try simp only [Exit.inBlock,Exit.then])
   refine rt_v F (rs_1 F rfl rfl) ?_
   first | exact ⟨ZM (by rw [Z4A,if_pos (by omega)]),E⟩ | exact ⟨ZM (by rw [hck,if_pos (by omega)]),E⟩ | exact ⟨ZM (by rw [hck] <;> omega),E⟩
  ·skip
   refine wp_skip ?_
   refine hK6 _ _ ?_
   clear hK6
   refine wp_seq_k fun K9 hK9=>?_
   refine wp_seq_k fun K10 hK10=>?_
   refine wp_region_lit ?_
   refine F.vl (Z8 rfl (ev_c fa _)) ?_;clear F fa;intro fa F
   refine wpList_nil ?_
   rw [if_neg (by omega)] at hck
   refine hK10 _ _ ?_
   clear hK10
   refine wp_block ?_
   have F0:=F.sub (.c 1 rfl .n)
   refine Z0U F0 (t.rd.length) (fun i Lv W=>Lv = [(4,.int .i64 ((i:Nat):Int))] ∧ Ext [] w2 W ∧ ZU ((t.rd.map (rdE t)).drop i) = ZU (t.rd.map (rdE t))) ⟨_,⟨rfl,Ext.refl _ _,rfl⟩,F.sub (.c 4 rfl (.c 1 rfl .n))⟩ ?_
   clear F F0
   rintro i _ fa w3 hi1 ⟨rfl,EL1,hf⟩ F
   have q1:=EL1.keep0 q1
   have E:=E.nil EL1
   refine wp_seq_k fun K11 hK11=>?_
   refine wp_seq_k fun K12 hK12=>?_
   refine wp_region_lit ?_
   refine F.mv ?_;clear F fa;intro fa F
   refine F.vl (Z9 rfl (F.at rfl) Try.underlying28 rfl (n:=9) (sz:=1) rfl (by kernel_rfl) (by decide)) ?_;clear F fa;intro fa F
   refine F.vl (Zh rfl (F.at rfl) Try.underlying25 rfl ((Z0 q1 9).trans (getS (getS (getS (getS (getS (getS (getS (getS (getS (get0)))))))))))) ?_;clear F fa;intro fa F
   refine F.vl (Z1c rfl rfl (F.at rfl) Try.underlying25) ?_;clear F fa;intro fa F
   refine F.vl (Z1d rfl (F.at rfl) (F.at rfl)) ?_;clear F fa;intro fa F
   refine wpList_nil ?_
   refine hK12 _ _ ?_
   clear hK12
   refine Z0J F rfl (fun hc21=>?_) (fun hc21=>?_)
   ·skip
    refine wp_skip ?_
    refine hK11 _ _ ?_
    clear hK11
    refine wp_seq_k fun K13 hK13=>?_
    refine wp_block ?_
    refine wp_seq_k fun K14 hK14=>?_
    refine Z0g 6 follows (by kernel_rfl) fun w4 hh eh=>?_
    replace q1:=Zn hh q1
    replace E:=Z4 E eh
    replace EL1:=Z4 EL1 eh
    clear hh eh
    refine F.sv (Zt rfl (F.at rfl) Try.underlying28 rfl (by kernel_rfl) q1) ?_;clear F fa;intro fa F
    refine F.sv (Z9 rfl (F.at rfl) Try.underlying28 rfl (n:=9) (sz:=1) rfl (by kernel_rfl) (by decide)) ?_;clear F fa;intro fa F
    refine F.sv (Zh rfl (F.at rfl) Try.underlying25 rfl ((Z0 q1 9).trans (getS (getS (getS (getS (getS (getS (getS (getS (getS (get0)))))))))))) ?_;clear F fa;intro fa F
    refine F.smv ?_;clear F fa;intro fa F
    obtain ⟨xb15,xo15,xa15,xr15⟩:=HR.out i (by omega)
    refine F.sv (ZJ (sz:=4) rfl ((F.at rfl).trans (xa15 _ _)) (F.at rfl) Try.underlying25 (by kernel_rfl) (by omega) (by omega)) ?_;clear F fa;intro fa F
    refine F.sv (ZP rfl (F.at rfl) Try.underlying66 rfl (by kernel_rfl) (xr15 _ E)) ?_;clear F fa;intro fa F
    refine wpStill_nil ?_
    refine ZX F rfl (by decide) rfl (ZG rfl rfl Try.call88 (mpS (F.at rfl) (mpS (F.at rfl) mp0))) (Z4V s1 s3 a1 a3 t1 t3 _ _ _ (t.rd.getD i (0,0,0,0)) _) fun e w5 hR=>?_
    obtain ⟨rfl,e9⟩:=hR
    refine ⟨_,rfl,?_⟩;clear F fa;intro fa F
    replace q1:=(e9).keep0 q1
    replace E:=Z4 E (e9)
    replace EL1:=Z4 EL1 (e9)
    clear e9
    refine F.as ?_;clear F fa;intro fa F
    refine wpList_nil ?_
    refine hK14 _ _ ?_
    clear hK14
    refine wp_seq_k fun K16 hK16=>?_
    refine wp_region_lit ?_
    refine F.mv ?_;clear F fa;intro fa F
    refine F.vl (Z3v rfl (F.at rfl) (ev_c fa _)) ?_;clear F fa;intro fa F
    refine wpList_nil ?_
    refine hK16 _ _ ?_
    clear hK16
    refine Z0J F rfl (fun hc32=>?_) (fun hc32=>?_)
    ·skip
     have hz:=(Z24 (f:=rdE t) (0,0,0,0) (show i < t.rd.length by omega) (by omega)).symm.trans hf
     rw [← hz,if_pos hc32] at hck
     refine wp_seq_k fun K17 hK17=>?_
     refine wp_region_lit ?_
     refine F.mv ?_;clear F fa;intro fa F
     refine F.as ?_;clear F fa;intro fa F
     refine wpList_nil ?_
     refine hK17 _ _ ?_
     clear hK17
     refine wp_ret ?_
     (try simp only [Exit.inBlock,Exit.then])
     refine rt_v F (rs_1 F rfl rfl) ?_
     first | exact ⟨ZM (by rw [Z4A,if_pos (by omega)]),E⟩ | exact ⟨ZM (by rw [hck,if_pos (by omega)]),E⟩ | exact ⟨ZM (by rw [hck] <;> omega),E⟩
    ·skip
     have hz:rdE t (t.rd.getD i (0,0,0,0)) = 0:=by omega
     refine wp_skip ?_
     refine hK13 _ _ ?_
     clear hK13
     refine wp_region_lit ?_
     refine F.mv ?_;clear F fa;intro fa F
     refine F.vl (Z0F rfl (F.at rfl) (ev_c fa _) (by omega) (by omega)) ?_;clear F fa;intro fa F
     refine F.as ?_;clear F fa;intro fa F
     refine wpList_nil ?_
     show _ ∧ _
     exact ⟨by omega,_,⟨rfl,EL1,(Z1H (0,0,0,0) (show i < t.rd.length by omega) hz).trans hf⟩,F.sub (.c 4 rfl (.c 1 rfl .n))⟩
   ·skip
    refine wp_exit ?_
    have hz:=Z25 (f:=rdE t) (show t.rd.length ≤ i by omega) hf
    rw [hz,if_neg (by decide)] at hck
    refine hK9 _ _ ?_
    clear hK9
    refine wp_seq_k fun K18 hK18=>?_
    refine wp_seq_k fun K19 hK19=>?_
    refine wp_region_lit ?_
    refine F.vl (Z9 rfl (F.at rfl) Try.underlying28 rfl (n:=10) (sz:=1) rfl (by kernel_rfl) (by decide)) ?_;clear F fa;intro fa F
    refine F.vl (Zh rfl (F.at rfl) Try.underlying26 rfl ((Z0 q1 10).trans (getS (getS (getS (getS (getS (getS (getS (getS (getS (getS (get0))))))))))))) ?_;clear F fa;intro fa F
    refine F.vl (Z1c rfl rfl (F.at rfl) Try.underlying26) ?_;clear F fa;intro fa F
    refine F.vl (Z4J rfl (F.at rfl) (ev_c fa _)) ?_;clear F fa;intro fa F
    refine wpList_nil ?_
    refine hK19 _ _ ?_
    clear hK19
    refine Z0J F rfl (fun hc37=>?_) (fun hc37=>?_)
    ·skip
     refine wp_seq_k fun K20 hK20=>?_
     refine wp_region_lit ?_
     refine F.vl (Z8 rfl (ev_c fa _)) ?_;clear F fa;intro fa F
     refine wpList_nil ?_
     refine hK20 _ _ ?_
     clear hK20
     refine wp_ret ?_
     (try simp only [Exit.inBlock,Exit.then])
     refine rt_v F (rs_1 F rfl rfl) ?_
     first | exact ⟨ZM (by rw [Z4A,if_pos (by omega)]),E⟩ | exact ⟨ZM (by rw [hck,if_pos (by omega)]),E⟩ | exact ⟨ZM (by rw [hck] <;> omega),E⟩
    ·skip
     refine wp_skip ?_
     refine hK18 _ _ ?_
     clear hK18
     refine wp_seq_k fun K21 hK21=>?_
     refine wp_seq_k fun K22 hK22=>?_
     refine wp_region_lit ?_
     refine F.vl (Z8 rfl (ev_c fa _)) ?_;clear F fa;intro fa F
     refine wpList_nil ?_
     rw [if_neg (by omega)] at hck
     refine hK22 _ _ ?_
     clear hK22
     refine wp_block ?_
     have F0:=F.sub (.c 1 rfl .n)
     refine Z0U F0 (t.lk.length) (fun i Lv W=>Lv = [(6,.int .i64 ((i:Nat):Int))] ∧ Ext [] w3 W ∧ ZU ((t.lk.map (lkE t)).drop i) = ZU (t.lk.map (lkE t))) ⟨_,⟨rfl,Ext.refl _ _,rfl⟩,F.sub (.c 6 rfl (.c 1 rfl .n))⟩ ?_
     clear F F0
     rintro i _ fa w6 hi2 ⟨rfl,EL2,hf⟩ F
     have q1:=EL2.keep0 q1
     have E:=E.nil EL2
     refine wp_seq_k fun K23 hK23=>?_
     refine wp_seq_k fun K24 hK24=>?_
     refine wp_region_lit ?_
     refine F.mv ?_;clear F fa;intro fa F
     refine F.vl (Z9 rfl (F.at rfl) Try.underlying28 rfl (n:=10) (sz:=1) rfl (by kernel_rfl) (by decide)) ?_;clear F fa;intro fa F
     refine F.vl (Zh rfl (F.at rfl) Try.underlying26 rfl ((Z0 q1 10).trans (getS (getS (getS (getS (getS (getS (getS (getS (getS (getS (get0))))))))))))) ?_;clear F fa;intro fa F
     refine F.vl (Z1c rfl rfl (F.at rfl) Try.underlying26) ?_;clear F fa;intro fa F
     refine F.vl (Z1d rfl (F.at rfl) (F.at rfl)) ?_;clear F fa;intro fa F
     refine wpList_nil ?_
     refine hK24 _ _ ?_
     clear hK24
     refine Z0J F rfl (fun hc42=>?_) (fun hc42=>?_)
     ·skip
      refine wp_skip ?_
      refine hK23 _ _ ?_
      clear hK23
      refine wp_seq_k fun K25 hK25=>?_
      refine wp_block ?_
      refine wp_seq_k fun K26 hK26=>?_
      refine Z0g 6 follows (by kernel_rfl) fun w7 hh eh=>?_
      replace q1:=Zn hh q1
      replace E:=Z4 E eh
      replace EL2:=Z4 EL2 eh
      clear hh eh
      refine F.sv (Zt rfl (F.at rfl) Try.underlying28 rfl (by kernel_rfl) q1) ?_;clear F fa;intro fa F
      refine F.sv (Z9 rfl (F.at rfl) Try.underlying28 rfl (n:=10) (sz:=1) rfl (by kernel_rfl) (by decide)) ?_;clear F fa;intro fa F
      refine F.sv (Zh rfl (F.at rfl) Try.underlying26 rfl ((Z0 q1 10).trans (getS (getS (getS (getS (getS (getS (getS (getS (getS (getS (get0))))))))))))) ?_;clear F fa;intro fa F
      refine F.smv ?_;clear F fa;intro fa F
      obtain ⟨xb27,xo27,xa27,xr27⟩:=HL.out i (by omega)
      refine F.sv (ZJ (sz:=6) rfl ((F.at rfl).trans (xa27 _ _)) (F.at rfl) Try.underlying26 (by kernel_rfl) (by omega) (by omega)) ?_;clear F fa;intro fa F
      refine F.sv (ZP rfl (F.at rfl) Try.underlying75 rfl (by kernel_rfl) (xr27 _ E)) ?_;clear F fa;intro fa F
      refine wpStill_nil ?_
      refine ZX F rfl (by decide) rfl (ZG rfl rfl Try.call89 (mpS (F.at rfl) (mpS (F.at rfl) mp0))) (Z76 s1 s3 a1 a3 _ _ _ (t.lk.getD i (0,0,0,0,0,0)) _) fun e w8 hR=>?_
      obtain ⟨rfl,e9⟩:=hR
      refine ⟨_,rfl,?_⟩;clear F fa;intro fa F
      replace q1:=(e9).keep0 q1
      replace E:=Z4 E (e9)
      replace EL2:=Z4 EL2 (e9)
      clear e9
      refine F.as ?_;clear F fa;intro fa F
      refine wpList_nil ?_
      refine hK26 _ _ ?_
      clear hK26
      refine wp_seq_k fun K28 hK28=>?_
      refine wp_region_lit ?_
      refine F.mv ?_;clear F fa;intro fa F
      refine F.vl (Z3v rfl (F.at rfl) (ev_c fa _)) ?_;clear F fa;intro fa F
      refine wpList_nil ?_
      refine hK28 _ _ ?_
      clear hK28
      refine Z0J F rfl (fun hc53=>?_) (fun hc53=>?_)
      ·skip
       have hz:=(Z24 (f:=lkE t) (0,0,0,0,0,0) (show i < t.lk.length by omega) (by omega)).symm.trans hf
       refine wp_seq_k fun K29 hK29=>?_
       refine wp_region_lit ?_
       refine F.mv ?_;clear F fa;intro fa F
       refine F.as ?_;clear F fa;intro fa F
       refine wpList_nil ?_
       refine hK29 _ _ ?_
       clear hK29
       refine wp_ret ?_
       (try simp only [Exit.inBlock,Exit.then])
       refine rt_v F (rs_1 F rfl rfl) ?_
       first | exact ⟨ZM (by rw [Z4A,if_pos (by omega)]),E⟩ | exact ⟨ZM (by rw [hck,if_pos (by omega)]),E⟩ | exact ⟨ZM (by rw [hck] <;> omega),E⟩
      ·skip
       have hz:lkE t (t.lk.getD i (0,0,0,0,0,0)) = 0:=by omega
       refine wp_skip ?_
       refine hK25 _ _ ?_
       clear hK25
       refine wp_region_lit ?_
       refine F.mv ?_;clear F fa;intro fa F
       refine F.vl (Z0F rfl (F.at rfl) (ev_c fa _) (by omega) (by omega)) ?_;clear F fa;intro fa F
       refine F.as ?_;clear F fa;intro fa F
       refine wpList_nil ?_
       show _ ∧ _
       exact ⟨by omega,_,⟨rfl,EL2,(Z1H (0,0,0,0,0,0) (show i < t.lk.length by omega) hz).trans hf⟩,F.sub (.c 6 rfl (.c 1 rfl .n))⟩
     ·skip
      refine wp_exit ?_
      have hz:=Z25 (f:=lkE t) (show t.lk.length ≤ i by omega) hf
      refine hK21 _ _ ?_
      clear hK21
      refine wp_seq_k fun K30 hK30=>?_
      refine wp_region_lit ?_
      refine F.vl (Z8 rfl (ev_c fa _)) ?_;clear F fa;intro fa F
      refine wpList_nil ?_
      refine hK30 _ _ ?_
      clear hK30
      refine wp_ret ?_
      (try simp only [Exit.inBlock,Exit.then])
      refine rt_v F (rs_1 F rfl rfl) ?_
      first | exact ⟨ZM (by rw [Z4A,if_pos (by omega)]),E⟩ | exact ⟨ZM (by rw [hck,if_pos (by omega)]),E⟩ | exact ⟨ZM (by rw [hck] <;> omega),E⟩
section
variable {P:Program} {md:Region.Mode} {ops:Array Oper} {Q:Exit → Act → World → Prop} {T:World → Prop} {stop:Option Nat}
def ZaY (md:Region.Mode) (ops:Array Oper) (S:List Nat) (i:Nat):Prop:=∀ k ∈ S,∃ ok,ops[k]? = some ok ∧ ∃ e ∈ ok.after,Region.binds md e = true ∧ (e.on = i ∨ e.on ∈ S)
theorem Z71 {S:List Nat} {i:Nat} {oi:Oper} {v:Value} (hi:ops[i]? = some oi) (hil:stop ≠ some i) (hS:ZaY md ops S i) (hst:∀ l,stop = some l → l ∈ S)
  (hsel:∀ (j:Nat) (o:Oper) cs b,ops[j]? = some o → o.op ≠ .select cs b) (hQ:∀ c a w,Q (.panic c) (a.put oi.dst v) w → Q (.panic c) a w) :
  ∀ (fuel:Nat) (listed:Array Bool) (a:Act) (w:World),
   (∀ j oj,ops[j]? = some oj → j ≠ i → listed.getD j true = false → (∀ e ∈ oj.after,Region.binds md e = true → e.on ≠ i) → oi.apart ops oj = true) →
   i ∈ Region.ready md ops listed → YieldsIf P ops (Zat true T) oi v a → (held stop listed = true → T w) → held stop listed = true → (∀ k ∈ S,listed.getD k true = false) →
   Z17 P md ops Q T stop fuel (listed.setIfInBounds i true) (a.put oi.dst v) w → Z17 P md ops Q T stop (fuel + 1) listed a w:=by
 intro fuel
 induction fuel with
 | zero =>
  intro listed a w _ hr hy hT hb hU H
  refine ⟨fun h=>(by rw [h] at hr;cases hr),fun j hj=>?_⟩
  by_cases hji:j = i
  ·subst hji
   exact hy.wpOp hi (fun h=>hT hb) ⟨fun h=>hT (by rwa [Z2Z hil] at h),H⟩
  ·have:=ready_mono hj hji
   rw [H.1] at this
   cases this
 | succ fuel ih =>
  intro listed a w hfree hr hy hT hb hU H
  refine ⟨fun h=>(by rw [h] at hr;cases hr),fun j hj=>?_⟩
  by_cases hji:j = i
  ·subst hji
   exact hy.wpOp hi (fun h=>hT hb) ⟨fun h=>hT (by rwa [Z2Z hil] at h),H⟩
  ·have h1:=H.2 j (ready_mono hj hji)
   obtain ⟨hjun,oj,hoj,hall⟩:=mem_ready.1 hj
   have hun:∀ n,listed.getD n true = false → ∀ e ∈ oj.after,Region.binds md e = true → e.on ≠ n:=fun n h0 e he hb heq=>by
    have h1:=hall e he hb
    rw [heq] at h1
    rcases Nat.lt_or_ge n listed.size with h' | h'
    ·simp [h'] at h0 h1;rw [h0] at h1;cases h1
    ·simp [Array.getElem?_eq_none h'] at h1
   have hnot:=hun i (mem_ready.1 hr).1
   have hjS:j ∉ S:=fun hjS=>by
    obtain ⟨ok,hok,e,he,hbd,ho⟩:=hS j hjS
    rw [hoj] at hok
    cases hok
    rcases ho with ho | ho
    ·exact hnot e he hbd ho
    ·exact hun _ (hU _ ho) e he hbd rfl
   have h2:=wpOp_putIf hoj (hfree j oj hoj hji hjun hnot) (fun cs b=>hsel i oi cs b hi) (fun cs b=>hsel j oj cs b hoj) hQ hy h1
   have hfree':∀ k ok,ops[k]? = some ok → k ≠ i → (listed.setIfInBounds j true).getD k true = false →
     (∀ e ∈ ok.after,Region.binds md e = true → e.on ≠ i) → oi.apart ops ok = true:=fun k ok hk hki hun hno=>by
    refine hfree k ok hk hki ?_ hno
    by_cases hjk:j = k
    ·subst hjk;exact hjun
    ·rw [getD_set_ne true hjk] at hun;exact hun
   have key:held stop ((listed.setIfInBounds i true).setIfInBounds j true) = held stop (listed.setIfInBounds j true):=by
    rw [Array.setIfInBounds_comm _ _ (Ne.symm hji),Z2Z hil]
   have hb':held stop (listed.setIfInBounds j true) = true:=by
    rw [Z2Z (fun e=>hjS (hst j e))]
    exact hb
   have hU':∀ k ∈ S,(listed.setIfInBounds j true).getD k true = false:=fun k hk=>by
    have hjk:j ≠ k:=fun e=>by subst e;exact hjS hk
    rw [getD_set_ne true hjk]
    exact hU k hk
   refine wpOp_mono (fun a' w' h3=>⟨fun hh=>h3.2.1 (by rw [key];exact hh),ih (listed.setIfInBounds j true) a' w' hfree' (ready_mono hr (Ne.symm hji)) h3.1 (fun hh=>h3.2.1 (by rw [key];exact hh)) hb' hU' ?_⟩) h2
   rw [Array.setIfInBounds_comm _ _ hji]
   exact h3.2.2
variable {N:Nat} {a:Act} {L:List (Nat × Value)} {w:World} {fuel:Nat} {listed:Array Bool} {v:Value}
def Z8x (md:Region.Mode) (ops:Array Oper) (stop:Option Nat) (S:List Nat) (listed:Array Bool) (i:Nat):Bool:=
 Region.noSelect ops && Region.free md ops listed i && (Region.ready md ops listed).contains i && (stop != some i) && held stop listed &&
 (match stop with | none=>true | some l=>S.contains l) &&
 S.all fun k=>!(listed.getD k true) && ((ops[k]?).map fun ok=>ok.after.any fun e=>Region.binds md e && (e.on == i || S.contains e.on)).getD false
theorem Has.xr2 (F:Has N a L) {i d:Nat} {oi:Oper} (S:List Nat) (hi:ops[i]? = some oi) (hr:∀ w,T w → (execOp a.eval oi).run P w = .ok (.value v) w) (hT:held stop listed = true → T w)
  (h:∀ a2,Has N a2 ((d,v) :: L) → Z17 P md ops Q T stop fuel (listed.setIfInBounds i true) a2 w)
  (hd:oi.dst = some d:=by rfl) (hN:d < N:=by decide) (hk:Z8x md ops stop S listed i = true:=by kernel_rfl) (hQ:∀ c a w,Q (.panic c) (a.put oi.dst v) w → Q (.panic c) a w:=by exact fun _ _ _ h=>h) (hw:Region.wanted oi (yielded ops a.tmps) = true:=by rfl):Z17 P md ops Q T stop (fuel + 1) listed a w:=by
 simp only [Z8x,Bool.and_eq_true] at hk
 obtain ⟨⟨⟨⟨⟨⟨k1,k2⟩,k3⟩,k4⟩,k5⟩,k6⟩,k7⟩:=hk
 have k7:=List.all_eq_true.1 k7
 refine Z71 (S:=S) hi (by simpa using k4) (fun k hkS=>?_) (fun l hl=>by subst hl;simpa using k6) (Region.noSelect_spec k1) hQ fuel listed a w (Region.free_spec hi k2) (by simpa using k3) (.inl ⟨hw,fun w hw=>hr w (hw rfl)⟩) hT k5 (fun k hkS=>?_) (by rw [hd];exact h _ (F.put hN v))
 ·have q:=k7 k hkS
  simp only [Bool.and_eq_true] at q
  have q2:=q.2
  cases ho:ops[k]? with
  | none=>simp [ho] at q2
  | some ok =>
   simp only [ho,Option.map_some,Option.getD_some] at q2
   obtain ⟨e,he,hbd⟩:=Array.any_eq_true'.1 q2
   simp only [Bool.and_eq_true,Bool.or_eq_true,beq_iff_eq,List.contains_iff_mem] at hbd
   exact ⟨ok,rfl,e,he,hbd.1,hbd.2⟩
 ·have q:=k7 k hkS
  simp only [Bool.and_eq_true,Bool.not_eq_true'] at q
  exact q.1
end
def Z4T (w:World) (v:Value) (xs:List Int):Prop:=∃ a c,v = .slice a xs.length c ∧ Z0E w (.slice a xs.length c) 1 (xs.map Z0Q)
section
variable {α:Type}
theorem Z7d (key:α → List Int) (d:α) (O:List α) {k:Nat} (h:k < O.length):(O.map key).getD k [] = key (O.getD k d):=by simp [h]
end
def FamT (w:World) (base:Nat) (L:List (Value × List Int)):Prop:=(∀ p ∈ L,w.ownsRow base 3 1 p.1 p.2.length (ivs p.2)) ∧ L.Pairwise fun p q=>∀ b,p.1.ownBlock = some b → q.1.ownBlock ≠ some b
theorem ZL {w w':World} {base base':Nat} {L:List (Value × List Int)} (h:FamT w base L) (k:∀ v n xs,w.ownsRow base 3 1 v n xs → w'.ownsRow base' 3 1 v n xs):FamT w' base' L:=
 ⟨fun p hp=>k _ _ _ (h.1 p hp),h.2⟩
theorem Z3D {w:World} {base:Nat} {L M:List (Value × List Int)} (h:FamT w base L) (hp:M.Perm L):FamT w base M:=
 ⟨fun p hm=>h.1 p (hp.mem_iff.1 hm),(hp.pairwise_iff (fun {x y} hxy b hb hx=>hxy b hx hb)).2 h.2⟩
theorem Z4x (w:World) (base:Nat):FamT w base []:=⟨fun p h=>by simp at h,.nil⟩
theorem Z5K {w:World} {base:Nat} {L:List (Value × List Int)} (h:FamT w base L) {p:Value × List Int} (hp:p ∈ L):Z4T w p.1 p.2:=by
 have o:=h.1 p hp
 obtain ⟨a,c,e⟩:=Zs o
 refine ⟨a,c,e,?_⟩
 rw [e,Z3I] at o
 exact Z13 (row:=Z0Q) o (fun _=>rfl)
theorem Z5R {w:World} {base:Nat} {L:List (Value × List Int)} (h:FamT w base L):∀ q ∈ L,∀ b,q.1.ownBlock = some b → b < w.heap.size:=fun q hq b e=>((h.1 q hq).lt b e).2
theorem Z3C {w:World} {b1 b2:Nat} {L O:List (Value × List Int)} (hL:FamT w b1 L) (hO:FamT w b2 O) (hlt:∀ q ∈ O,∀ b,q.1.ownBlock = some b → b < b1) (hb:b2 ≤ b1):FamT w b2 (L ++ O):=by
 refine ⟨fun p hp=>?_,List.pairwise_append.2 ⟨hL.2,hO.2,fun p hp q hq b e hc=>?_⟩⟩
 ·rcases List.mem_append.1 hp with h | h
  ·exact ZH (hL.1 p h) hb
  ·exact hO.1 p h
 ·have:=(hL.1 p hp).lt b e
  have:=hlt q hq b hc
  omega
theorem Z21 (xs:List Int) (v:Int):ivs xs ++ [.int .i64 v] = ivs (xs ++ [v]):=by simp [ivs]
def pRow (p:Value × List Int):List Value:=[p.1]
theorem Z96 (O:List (Value × List Int)):O.map (·.1) = (O.map pRow).flatten:=by
 induction O with
 | nil=>rfl
 | cons a l ih=>simp only [List.map_cons,List.flatten_cons,pRow,ih];rfl
theorem Z1J {w:World} {base n c:Nat} {a:Option Addr} {O:List (Value × List Int)} (h:w.ownsRow base 29 1 (.slice a n c) n (O.map (·.1))) (hn:n = O.length):SlAt [] w a 1 O.length (fun i=>[(O.getD i (.bool true,[])).1]):=by
 rw [Z96] at h
 exact Z2B h hn (fun _=>rfl) [] (by simp) (.bool true,[])
theorem Z4T.ext {w w':World} {v:Value} {xs:List Int} (h:Z4T w v xs) (e:Ext [] w w'):Z4T w' v xs:=by
 obtain ⟨a,c,h1,h2⟩:=h
 exact ⟨a,c,h1,h2.ext e (by simp)⟩
end Go.Proofs.Ytholfdgebdlgjaa
namespace Go.Proofs.Ytholfdgebdlgjaa
def iTt (n:Nat) (m:Nat → Nat → Int) (k:Nat):Nat → Nat → Nat → Int
 | 0=>m
 | i + 1=>Z1w (iTt n m k i) k i n
def kTt (n:Nat) (m:Nat → Nat → Int):Nat → Nat → Nat → Int
 | 0=>m
 | k + 1=>iTt n (kTt n m k) k n
theorem Z5S (n:Nat) (m:Nat → Nat → Int) (k p q:Nat):∀ i,iTt n m k i p q ≤ m p q
 | 0=>Int.le_refl _
 | i + 1=>Int.le_trans (Z2T _ _ _ _ _ _) (Z5S n m k p q i)
theorem Z61 (n:Nat) (m:Nat → Nat → Int) (p q:Nat):∀ k,kTt n m k p q ≤ m p q
 | 0=>Int.le_refl _
 | k + 1=>Int.le_trans (Z5S _ _ _ _ _ _) (Z61 n m p q k)
theorem Z7r (n:Nat) (m:Nat → Nat → Int) (p q k:Nat):∀ d,kTt n m (k + d) p q ≤ kTt n m k p q
 | 0=>Int.le_refl _
 | d + 1=>Int.le_trans (Z5S _ _ _ _ _ _) (Z7r n m p q k d)
theorem Low.nextN {L:Int} {k i n:Nat} {x:Nat → Nat → Int} (h:Low L k i n x) (hn:n ≤ 13):Low L k (i + 1) 0 x:=
 ⟨h.all,h.kk,h.row,fun q hq hc=>h.row0 q hq (by omega),h.col,fun p hp hc=>h.col0 p hp (by omega)⟩
theorem Low.all_rowsT {L:Int} (hL:0 ≤ L) {n k:Nat} (hn:n ≤ 13) (hk:k < n) {x:Nat → Nat → Int} (h:∀ p q,p < 13 → q < 13 → -L ≤ x p q):∀ i,i ≤ n → Low L k i 0 (iTt n x k i)
 | 0,_=>Low.start hL (by omega) h
 | i + 1,hi=>Low.nextN ((Low.all_rowsT hL hn hk h i (by omega)).rows hL (show k < 13 by omega) (show i < 13 by omega) n hn) hn
theorem Z8F {L:Int} (hL:0 ≤ L) {n:Nat} (hn:n ≤ 13) {m:Nat → Nat → Int} (h:∀ p q,p < 13 → q < 13 → -L ≤ m p q):∀ k,k ≤ n → ∀ p q,p < 13 → q < 13 → -(6 ^ k * L) ≤ kTt n m k p q
 | 0,_=>by simpa [kTt] using h
 | k + 1,hk=>by
  have ih:=Z8F hL hn h k (by omega)
  have hL':(0:Int) ≤ 6 ^ k * L:=Int.mul_nonneg (Int.pow_nonneg (by omega)) hL
  have:=(Low.all_rowsT hL' hn (show k < n by omega) ih n (Nat.le_refl _)).all
  intro p q hp hq
  have:=this p q hp hq
  rw [Int.pow_succ]
  have e2:(6 ^ k * 6 * L:Int) = 6 * (6 ^ k * L):=by rw [Int.mul_assoc,Int.mul_comm 6 L,← Int.mul_assoc,Int.mul_comm]
  show _ ≤ iTt n (kTt n m k) k n p q
  omega
theorem Z9A {n:Nat} (hn:n ≤ 13) {m:Nat → Nat → Int} (h:∀ p q,p < 13 → q < 13 → -1048576 ≤ m p q ∧ m p q ≤ 1048576) {k i j:Nat} (hk:k < n) (hi:i < n) (hj:j < n) :
  -4000000000000000000 ≤ Z1w (iTt n (kTt n m k) k i) k i j i k + Z1w (iTt n (kTt n m k) k i) k i j k j ∧ Z1w (iTt n (kTt n m k) k i) k i j i k + Z1w (iTt n (kTt n m k) k i) k i j k j ≤ 4000000000000000000:=by
 have l1:=Z8F (L:=1048576) (by omega) hn (fun p q hp hq=>(h p q hp hq).1) k (by omega)
 have hL':(0:Int) ≤ 6 ^ k * 1048576:=Int.mul_nonneg (Int.pow_nonneg (by omega)) (by omega)
 have l2:=((Low.all_rowsT hL' hn hk l1 i (by omega)).rows hL' (by omega) (by omega) j (by omega))
 have c1:=l2.col i (by omega)
 have c2:=l2.row j (by omega)
 have hp:=Z5X k (by omega)
 have u1:Z1w (iTt n (kTt n m k) k i) k i j i k ≤ m i k:=Int.le_trans (Z2T _ _ _ _ _ _) (Int.le_trans (Z5S _ _ _ _ _ _) (Z61 _ _ _ _ _))
 have u2:Z1w (iTt n (kTt n m k) k i) k i j k j ≤ m k j:=Int.le_trans (Z2T _ _ _ _ _ _) (Int.le_trans (Z5S _ _ _ _ _ _) (Z61 _ _ _ _ _))
 have v1:=(h i k (by omega) (by omega)).2
 have v2:=(h k j (by omega) (by omega)).2
 constructor <;> omega
def solN (n:Nat) (m:Nat → Nat → Int) (x:Nat → Int):Prop:=∀ i j,i < n → j < n → x j - x i ≤ m i j
theorem Z8Y {n:Nat} {m:Nat → Nat → Int} {x:Nat → Int} (h:solN n m x) {k i j:Nat} (hk:k < n) (hi:i < n) (hj:j < n):solN n (Z2f m k i j) x:=by
 intro p q hp hq
 unfold Z2f
 by_cases e:p = i ∧ q = j
 ·obtain ⟨rfl,rfl⟩:=e
  rw [Z3h]
  have a:=h p q hp hq
  have b:=h p k hp hk
  have c:=h k q hk hq
  omega
 ·rw [Z2M _ _ _ _ _ _ e];exact h p q hp hq
theorem Z7n {n:Nat} {m:Nat → Nat → Int} {x:Nat → Int} (h:solN n m x) {k i:Nat} (hk:k < n) (hi:i < n):∀ j,j ≤ n → solN n (Z1w m k i j) x
 | 0,_=>h
 | j + 1,hj=>Z8Y (Z7n h hk hi j (by omega)) hk hi (by omega)
theorem Z7h {n:Nat} {m:Nat → Nat → Int} {x:Nat → Int} (h:solN n m x) {k:Nat} (hk:k < n):∀ i,i ≤ n → solN n (iTt n m k i) x
 | 0,_=>h
 | i + 1,hi=>Z7n (Z7h h hk i (by omega)) hk (by omega) n (Nat.le_refl _)
theorem Z5N {n:Nat} {m:Nat → Nat → Int} {x:Nat → Int} (h:solN n m x):∀ k,k ≤ n → solN n (kTt n m k) x
 | 0,_=>h
 | k + 1,hk=>Z7h (Z5N h k (by omega)) (by omega) n (Nat.le_refl _)
theorem Z8B {n:Nat} {m:Nat → Nat → Int} {x:Nat → Int} {k:Nat} (h:solN n (kTt n m k) x):solN n m x:=fun i j hi hj=>Int.le_trans (h i j hi hj) (Z61 n m i j k)
def Z1j (n:Nat) (x:Nat → Nat → Int) (k i:Nat):Nat → Nat → Int:=fun p q=>if p < i ∧ q < n then min (x p q) (x p k + x k q) else x p q
theorem Zal {n:Nat} {x:Nat → Nat → Int} {k:Nat} (hkn:k < n) (hk:0 ≤ x k k):∀ i,i ≤ n → iTt n x k i = Z1j n x k i
 | 0,_=>by funext p q;simp [iTt,Z1j]
 | i + 1,hi=>by
  have hz:=Zal hkn hk i (by omega)
  show Z1w (iTt n x k i) k i n = _
  generalize iTt n x k i = z at hz
  have hzk:z k k = x k k:=by
   rw [hz];unfold Z1j
   split
   ·omega
   ·rfl
  have hrow:=Z5v (x:=z) (k:=k) (i:=i) (by rw [hzk];exact hk) n
  have hkq:∀ q,q < n → z k q = x k q:=fun q hq=>by
   rw [hz];unfold Z1j
   split
   ·omega
   ·rfl
  have hiq:∀ q,z i q = x i q:=fun q=>by
   rw [hz];unfold Z1j
   rw [if_neg (by omega)]
  rw [hrow]
  funext p q
  unfold Z1u
  by_cases h1:p = i ∧ q < n
  ·obtain ⟨rfl,hq⟩:=h1
   rw [if_pos ⟨rfl,hq⟩,hiq,hiq,hkq q hq]
   unfold Z1j
   rw [if_pos ⟨by omega,hq⟩]
  ·rw [if_neg h1,hz]
   unfold Z1j
   by_cases h2:p < i ∧ q < n
   ·rw [if_pos h2,if_pos ⟨by omega,h2.2⟩]
   ·rw [if_neg h2,if_neg (by omega)]
theorem Z58 {n:Nat} {m:Nat → Nat → Int} (hd:∀ p,p < n → 0 ≤ kTt n m n p p):∀ k,k ≤ n → ∀ p,p < k → ∀ i j,i < n → j < n → kTt n m k i j ≤ kTt n m k i p + kTt n m k p j
 | 0,_,p,hp=>absurd hp (Nat.not_lt_zero _)
 | k + 1,hk,p,hp=>by
  intro i j hi hj
  have hc:=Z58 hd k (by omega)
  have hz:∀ q,q < n → 0 ≤ kTt n m k q q:=fun q hq=>by
   have a:=hd q hq
   have b:=Z7r n m q q k (n - k)
   rw [show k + (n - k) = n by omega] at b
   omega
  have hy:kTt n m (k + 1) = Z1j n (kTt n m k) k n:=Zal (by omega) (hz k (by omega)) n (Nat.le_refl _)
  rw [hy]
  generalize kTt n m k = z at hc hz
  have val:∀ a b,a < n → b < n → Z1j n z k n a b = min (z a b) (z a k + z k b):=fun a b ha hb=>by
   unfold Z1j;rw [if_pos ⟨ha,hb⟩]
  have hkk:=hz k (by omega)
  by_cases e:p = k
  ·subst e
   rw [val i j hi hj,val i p hi (by omega),val p j (by omega) hj]
   omega
  ·have hp':p < k:=by omega
   have t1:=hc p hp' i j hi hj
   have t2:=hc p hp' i k hi (by omega)
   have t3:=hc p hp' k j (by omega) hj
   have t4:=hc p hp' k k (by omega) (by omega)
   rw [val i j hi hj,val i p hi (by omega),val p j (by omega) hj]
   omega
theorem Z64 {n:Nat} {m:Nat → Nat → Int} (hd:∀ p,p < n → 0 ≤ kTt n m n p p) {a:Nat} (ha:a < n):solN n m (fun j=>kTt n m n a j):=by
 refine Z8B (k:=n) fun i j hi hj=>?_
 have:=Z58 hd n (Nat.le_refl _) i hi a j ha hj
 show kTt n m n a j - kTt n m n a i ≤ kTt n m n i j
 omega
theorem Zab {n:Nat} (h0:0 < n) {m:Nat → Nat → Int}:(∀ p,p < n → 0 ≤ kTt n m n p p) ↔ ∃ x,solN n m x:=by
 constructor
 ·intro hd;exact ⟨_,Z64 hd h0⟩
 ·rintro ⟨x,hx⟩ p hp
  have:=Z5N hx n (Nat.le_refl _) p p hp hp
  omega
theorem Z2d {n:Nat} {m:Nat → Nat → Int} {l h:Nat} (hne:l ≠ h) (hl:l < n) (hh:h < n) {lo hi:Int} {x:Nat → Int} :
  solN n (Z0A m l h lo hi) x ↔ solN n m x ∧ lo ≤ x h - x l ∧ x h - x l ≤ hi:=by
 have e1:∀ i j,Z0A m l h lo hi i j = if i = h ∧ j = l then min (m h l) (-lo) else if i = l ∧ j = h then min (m l h) hi else m i j:=by
  intro i j
  unfold Z0A upd
  rw [if_neg (show ¬ (h = l ∧ l = h) by omega)]
 constructor
 ·intro H
  refine ⟨fun i j hi' hj'=>?_,?_,?_⟩
  ·have:=H i j hi' hj'
   rw [e1] at this
   split at this
   ·rename_i c;obtain ⟨rfl,rfl⟩:=c;omega
   ·split at this
    ·rename_i c;obtain ⟨rfl,rfl⟩:=c;omega
    ·exact this
  ·have:=H h l hh hl
   rw [e1,if_pos ⟨rfl,rfl⟩] at this
   omega
  ·have:=H l h hl hh
   rw [e1,if_neg (by omega),if_pos ⟨rfl,rfl⟩] at this
   omega
 ·rintro ⟨H,h1,h2⟩ i j hi' hj'
  have a:=H i j hi' hj'
  rw [e1]
  split
  ·rename_i c;obtain ⟨rfl,rfl⟩:=c;omega
  ·split
   ·rename_i c;obtain ⟨rfl,rfl⟩:=c;omega
   ·exact a
end Go.Proofs.Ytholfdgebdlgjaa
