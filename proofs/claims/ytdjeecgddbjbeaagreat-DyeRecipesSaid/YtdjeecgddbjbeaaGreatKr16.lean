/- Parts of a proof: Dzs, Dzt. No conditions. -/
import Derived.Test.YtdjeecgddbjbeaaGreatKr15
set_option linter.unusedVariables false
set_option linter.unusedSimpArgs false
namespace Go.Proofs.YtdjeecgddbjbeaaGreat
open Go.RowKit MI
theorem lmpF_zero {hi : Int} : ∀ (ls : List Int) (p : Option Int),lmpF hi p ls = 0 → (∀ n ∈ ls,0 ≤ n ∧ n ≤ hi) ∧ (∀ m,p = some m → ∀ h : 0 < ls.length,m < ls.getD 0 0) ∧ ∀ i,0 < i → i < ls.length → ls.getD (i - 1) 0 < ls.getD i 0
 | [],p,_=>⟨by simp,fun _ _ h=>absurd h (by simp),fun i _ h=>absurd h (by simp)⟩
 | n :: l,p,h=>by
  rw [lmpF] at h
  split at h
  ·cases h
  ·rename_i ho
   split at h
   ·cases h
   ·rename_i hp
    obtain ⟨h1,h2,h3⟩:=lmpF_zero l (some n) h
    refine ⟨fun k hk=>?_,fun m hm _=>?_,fun i h0 hi=>?_⟩
    ·rcases List.mem_cons.1 hk with rfl | hk
     ·exact outB_no.1 (by simpa using ho)
     ·exact h1 k hk
    ·subst hm
     simp at hp
     simpa using hp
    ·rcases i with _ | _ | i
     ·omega
     ·simpa using h2 n rfl (by simp at hi;omega)
     ·simpa using h3 (i + 1) (by omega) (by simp at hi;omega)
theorem lmp_okk {x : Vm} {ls : List Int} (h : lmpE x ls = 0) : LmpsOk x ls:=by
 unfold lmpE at h
 split at h
 ·cases h
 ·rename_i hl
  obtain ⟨h1,-,h3⟩:=lmpF_zero ls none h
  exact ⟨by omega,fun n hn=>by have:=h1 n hn;omega,h3⟩
theorem ask_okk {x : Vm} {s ls : List Int} (h : askE x s ls = 0) : VOk x ∧ SmpOk x s ∧ LmpsOk x ls:=by
 unfold askE at h
 by_cases h1 : x.err = 0
 ·rw [if_neg (by simpa using h1)] at h
  by_cases h2 : cntE s x.B 9 = 0
  ·rw [if_neg (by simpa using h2)] at h
   exact ⟨chk_vok h1,cnt_bd h2,lmp_okk h⟩
  ·rw [if_pos h2] at h;exact absurd h h2
 ·rw [if_pos h1] at h;exact absurd h h1
def RefPost (r : List Int × Int) (w : World) (e : Ending) (w' : World) : Prop:=∃ a c,e = .returned (.tuple #[.slice a r.1.length c,.int .i64 r.2]) ∧ IsRows w' (.slice a r.1.length c) 1 (r.1.map intRow) ∧ Ext [] w w'
def LsRPost (r : List (List Int) × Int) (w : World) (e : Ending) (w' : World) : Prop:=∃ (M : List (Value × List Int)) (a : Option Addr) (c : Nat),e = .returned (.tuple #[.slice a M.length c,.int .i64 r.2]) ∧ M.map (·.2) = r.1 ∧ LolAt w' a M ∧ Ext [] w w'
theorem rows_nilI (w : World) : IsRows w (.slice none ([] : List Int).length 0) 1 (([] : List Int).map intRow):=⟨none,0,rfl,by simp,fun h=>absurd rfl h⟩
theorem lol_nilI (w : World) : LolAt w none []:=⟨fun i hi=>absurd hi (by simp),by simp⟩
def rcsV (x : Vm) (s ls : List Int) : List (List Int) × Int:=if askE x s ls ≠ 0 then ([],askE x s ls) else (matL x (val s) ls,0)
def fewV (x : Vm) (s ls : List Int) : List Int × Int:=if askE x s ls ≠ 0 then ([],askE x s ls) else fewR x (val s) ls
def spaV (x : Vm) (s ls : List Int) : List Int × Int:=if askE x s ls ≠ 0 then ([],askE x s ls) else spaR x (val s) ls
def nedR (x : Vm) (s : Nat → Int) (ls : List Int) : Int × Int:=match (List.range 13).find? (fun k=>decide (matL (x.tolN ((k : Nat) : Int)) s ls ≠ [])) with
 | some k=>(((k : Nat) : Int),0)
 | none=>(0,11)
def nedV (x : Vm) (s ls : List Int) : Int × Int:=if askE x s ls ≠ 0 then (0,askE x s ls) else nedR x (val s) ls
theorem ned_some {x : Vm} {s : Nat → Int} {ls : List Int} {n : Nat} (h : n ≤ 12) (h1 : matL (x.tolN ((n : Nat) : Int)) s ls ≠ []) (h2 : ∀ k : Nat,k < n → matL (x.tolN ((k : Nat) : Int)) s ls = []) : nedR x s ls = (((n : Nat) : Int),0):=by
 have : (List.range 13).find? (fun k=>decide (matL (x.tolN ((k : Nat) : Int)) s ls ≠ [])) = some n:=by
  rw [List.find?_eq_some_iff_getElem]
  refine ⟨decide_eq_true h1,n,by simp;omega,by simp,fun j hj=>?_⟩
  simp [h2 j hj]
 rw [nedR,this]
theorem ned_none {x : Vm} {s : Nat → Int} {ls : List Int} (h2 : ∀ k : Nat,k ≤ 12 → matL (x.tolN ((k : Nat) : Int)) s ls = []) : nedR x s ls = (0,11):=by
 have : (List.range 13).find? (fun k=>decide (matL (x.tolN ((k : Nat) : Int)) s ls ≠ [])) = none:=by
  rw [List.find?_eq_none]
  intro k hk
  simp [h2 k (by have:=List.mem_range.1 hk;omega)]
 rw [nedR,this]
theorem cmpL_twoZ {a b c d : Int} : cmpL [a,b] [c,d] < 0 ↔ a < c ∨ (a = c ∧ b < d):=by
 simp only [cmpL,cmpE]
 by_cases h : a < c
 ·simp [h]
 ·by_cases h2 : c < a
  ·simp [h,h2];omega
  ·have e : a = c:=by omega
   subst e
   by_cases h3 : b < d
   ·simp [h3]
   ·by_cases h4 : d < b
    ·simp [h3,h4]
    ·simp [h3,h4]
theorem few_none {x : Vm} {s : Nat → Int} {ls : List Int} (h : pickO cF (matL x s ls) = none) : fewR x s ls = ([],11):=by rw [fewR,h]
theorem few_some {x : Vm} {s : Nat → Int} {ls t : List Int} (h : pickO cF (matL x s ls) = some t) : fewR x s ls = (cutL (val t) x.D.length,0):=by rw [fewR,h]
theorem less_irr {t u : List Int} (h : cmpL [(cF t).1,(cF t).2] [(cF u).1,(cF u).2] < 0) (e : t = u) : False:=by
 subst e;rw [cmpL_twoZ] at h;omega
theorem cF_eq {l : List Int} (h4 : l.length ≤ 4) : cF l = (dyeN (val l) l.length,l.sum):=by
 rw [cF,prt,sumTo_list l 4 h4]
 congr 1
 have:=dyeN_end l (4 - l.length)
 rwa [show l.length + (4 - l.length) = 4 by omega] at this
theorem mat_bd {x : Vm} (hv : VOk x) {s : Nat → Int} {ls : List Int} {t : List Int} (h : t ∈ matL x s ls) : t.length = x.D.length ∧ ∀ q ∈ t,0 ≤ q ∧ q ≤ 6:=by
 have hm:=(List.mem_filter.1 h).1
 obtain ⟨h1,-,-,-,-,h2⟩:=(recL_all x.D.length (by have:=hv.d4;omega)).2 t hm
 exact ⟨h1,h2⟩
set_option maxRecDepth 100000 in
set_option maxHeartbeats 4000000 in
theorem dRecipesV_any (x : Vm) (sd : SmallL x.D) (sl : SmallL x.L) (s : List Int) (hs : s.length ≤ 1000) (ls : List Int) (hl : ls.length ≤ 1000) (a b : Option Addr) (c d : Nat) (w : World) (h : x.At w) (hr : IsRows w (.slice a s.length c) 1 (s.map intRow)) (hq : IsRows w (.slice b ls.length d) 1 (ls.map intRow)) :
  Calls Tryz.prog 13 #[.agg #[.int .i64 x.B,.slice x.da x.D.length x.dc,.slice x.la x.L.length x.lc,.int .i64 x.tol],.slice a s.length c,.slice b ls.length d] w (LsRPost (rcsV x s ls) w):=by
 have E : Ext [] w w:=Ext.refl _ _
 have HX:=Lib.hid h
 have HR:=Lib.hid hr
 have HQ:=Lib.hid hq
 clear h hr hq
 refine calls_has 20 Tryz.func13 rfl Tryz.ntmps13 (Nat.le_of_ble_eq_true rfl) ?_
 intro fa F
 refine wp_seq_k fun K1 hK1=>?_
 refine wp_region_lit ?_
 refine sq_new F rfl (by decide) rfl (R_box rfl (F.at rfl)) ?_;clear F fa;intro fa w1 F hw
 obtain ⟨n3,hn⟩ : ∃ n,n = w.heap.size:=⟨_,rfl⟩
 rw [← hn] at F
 have s3 : w.heap.size ≤ n3:=Nat.le_of_eq hn.symm
 have l3_E : w.heap.size ≤ n3:=by rw [hn];exact E.size
 replace E:=ext_alloc E hw
 have q3:=new_row hw hn
 clear hw hn
 refine F.vl (R_assign rfl (ev_c fa _)) ?_;clear F fa;intro fa F
 refine F.vl (R_assign rfl (ev_c fa _)) ?_;clear F fa;intro fa F
 refine wpList_nil ?_
 refine hK1 _ _ ?_
 clear hK1
 refine wp_seq_k fun K2 hK2=>?_
 refine wp_seq_k fun K3 hK3=>?_
 refine wp_region_lit ?_
 refine F.vl (R_loadBlk rfl (F.at rfl) Tryz.underlying24 rfl (by kernel_rfl) q3) ?_;clear F fa;intro fa F
 refine F.mv ?_;clear F fa;intro fa F
 refine F.mv ?_;clear F fa;intro fa F
 refine sq_call F rfl (by decide) rfl (R_callV rfl rfl Tryz.call45 (mpS (F.at rfl) (mpS (F.at rfl) (mpS (F.at rfl) mp0)))) (dAsked_any x sd sl s hs ls hl a b c d _ (HX.out.ext E) (HR.out.ext E (by simp)) (HQ.out.ext E (by simp))) fun e w2 hR=>?_
 obtain ⟨rfl,e9⟩:=hR
 refine ⟨_,rfl,?_⟩;clear F fa;intro fa F
 replace q3:=(e9).keep0 q3
 replace E:=ext_same E (e9)
 clear e9
 refine F.as ?_;clear F fa;intro fa F
 refine wpList_nil ?_
 refine hK3 _ _ ?_
 clear hK3
 refine wp_seq_k fun K4 hK4=>?_
 refine wp_region_lit ?_
 refine F.mv ?_;clear F fa;intro fa F
 refine F.vl (R_neqD rfl (F.at rfl) (ev_c fa _)) ?_;clear F fa;intro fa F
 refine wpList_nil ?_
 refine hK4 _ _ ?_
 clear hK4
 refine cd_if F rfl (fun hc14=>?_) (fun hc14=>?_)
 ·skip
  refine wp_seq_k fun K5 hK5=>?_
  refine wp_region_lit ?_
  refine F.mv ?_;clear F fa;intro fa F
  refine F.vl (R_assign rfl (ev_c fa _)) ?_;clear F fa;intro fa F
  refine F.as ?_;clear F fa;intro fa F
  refine wpList_nil ?_
  refine hK5 _ _ ?_
  clear hK5
  refine wp_ret ?_
  (try simp only [Exit.inBlock,Exit.then,reduceIte])
  refine rt_v F (rs_2 F rfl rfl rfl) ?_
  exact ⟨[],none,0,by rw [rcsV,if_pos hc14];rfl,by rw [rcsV,if_pos hc14];rfl,lol_nilI _,E⟩
 ·skip
  have ha0 : askE x s ls = 0:=Classical.not_not.1 hc14
  obtain ⟨hv,hsm,hlm⟩:=ask_okk ha0
  have HV:=Lib.hid hv
  have HS:=Lib.hid hsm
  have HL:=Lib.hid hlm
  clear hv hsm hlm
  refine wp_skip ?_
  refine hK2 _ _ ?_
  clear hK2
  refine wp_seq_k fun K6 hK6=>?_
  refine wp_region_lit ?_
  refine F.vl (R_loadBlk rfl (F.at rfl) Tryz.underlying24 rfl (by kernel_rfl) q3) ?_;clear F fa;intro fa F
  refine F.mv ?_;clear F fa;intro fa F
  refine F.mv ?_;clear F fa;intro fa F
  refine sq_call F rfl (by decide) rfl (R_callV rfl rfl Tryz.call46 (mpS (F.at rfl) (mpS (F.at rfl) (mpS (F.at rfl) mp0)))) (dRecipes_ok x HV.out s HS.out ls HL.out.2.1 hl a b c d _ (HX.out.ext E) (HR.out.ext E (by simp)) (HQ.out.ext E (by simp))) fun e w3 hR=>?_
  obtain ⟨M,mb,mc,rfl,hM,hml,e9⟩:=hR
  refine ⟨_,rfl,?_⟩;clear F fa;intro fa F
  replace q3:=(e9).keep0 q3
  replace E:=ext_same E (e9)
  clear e9
  refine F.as ?_;clear F fa;intro fa F
  refine F.vl (R_assign rfl (ev_c fa _)) ?_;clear F fa;intro fa F
  refine wpList_nil ?_
  refine hK6 _ _ ?_
  clear hK6
  refine wp_ret ?_
  (try simp only [Exit.inBlock,Exit.then,reduceIte])
  refine rt_v F (rs_2 F rfl rfl rfl) ?_
  exact ⟨M,mb,mc,by rw [rcsV,if_neg hc14],by rw [rcsV,if_neg hc14];exact hM,hml,E⟩
set_option maxRecDepth 100000 in
set_option maxHeartbeats 4000000 in
theorem dFewest_any (x : Vm) (sd : SmallL x.D) (sl : SmallL x.L) (s : List Int) (hs : s.length ≤ 1000) (ls : List Int) (hl : ls.length ≤ 1000) (a b : Option Addr) (c d : Nat) (w : World) (h : x.At w) (hr : IsRows w (.slice a s.length c) 1 (s.map intRow)) (hq : IsRows w (.slice b ls.length d) 1 (ls.map intRow)) :
  Calls Tryz.prog 15 #[.agg #[.int .i64 x.B,.slice x.da x.D.length x.dc,.slice x.la x.L.length x.lc,.int .i64 x.tol],.slice a s.length c,.slice b ls.length d] w (RefPost (fewV x s ls) w):=by
 have E : Ext [] w w:=Ext.refl _ _
 have HX:=Lib.hid h
 have HR:=Lib.hid hr
 have HQ:=Lib.hid hq
 clear h hr hq
 refine calls_has 70 Tryz.func15 rfl Tryz.ntmps15 (Nat.le_of_ble_eq_true rfl) ?_
 intro fa F
 refine wp_seq_k fun K1 hK1=>?_
 refine wp_region_lit ?_
 refine sq_new F rfl (by decide) rfl (R_box rfl (F.at rfl)) ?_;clear F fa;intro fa w1 F hw
 obtain ⟨n3,hn⟩ : ∃ n,n = w.heap.size:=⟨_,rfl⟩
 rw [← hn] at F
 have s3 : w.heap.size ≤ n3:=Nat.le_of_eq hn.symm
 have l3_E : w.heap.size ≤ n3:=by rw [hn];exact E.size
 replace E:=ext_alloc E hw
 have q3:=new_row hw hn
 clear hw hn
 refine F.vl (R_assign rfl (ev_c fa _)) ?_;clear F fa;intro fa F
 refine F.vl (R_assign rfl (ev_c fa _)) ?_;clear F fa;intro fa F
 refine wpList_nil ?_
 refine hK1 _ _ ?_
 clear hK1
 refine wp_seq_k fun K2 hK2=>?_
 refine wp_seq_k fun K3 hK3=>?_
 refine wp_region_lit ?_
 refine F.vl (R_loadBlk rfl (F.at rfl) Tryz.underlying24 rfl (by kernel_rfl) q3) ?_;clear F fa;intro fa F
 refine F.mv ?_;clear F fa;intro fa F
 refine F.mv ?_;clear F fa;intro fa F
 refine sq_call F rfl (by decide) rfl (R_callV rfl rfl Tryz.call45 (mpS (F.at rfl) (mpS (F.at rfl) (mpS (F.at rfl) mp0)))) (dAsked_any x sd sl s hs ls hl a b c d _ (HX.out.ext E) (HR.out.ext E (by simp)) (HQ.out.ext E (by simp))) fun e w2 hR=>?_
 obtain ⟨rfl,e9⟩:=hR
 refine ⟨_,rfl,?_⟩;clear F fa;intro fa F
 replace q3:=(e9).keep0 q3
 replace E:=ext_same E (e9)
 clear e9
 refine F.as ?_;clear F fa;intro fa F
 refine wpList_nil ?_
 refine hK3 _ _ ?_
 clear hK3
 refine wp_seq_k fun K4 hK4=>?_
 refine wp_region_lit ?_
 refine F.mv ?_;clear F fa;intro fa F
 refine F.vl (R_neqD rfl (F.at rfl) (ev_c fa _)) ?_;clear F fa;intro fa F
 refine wpList_nil ?_
 refine hK4 _ _ ?_
 clear hK4
 refine cd_if F rfl (fun hc19=>?_) (fun hc19=>?_)
 ·skip
  refine wp_seq_k fun K5 hK5=>?_
  refine wp_region_lit ?_
  refine F.mv ?_;clear F fa;intro fa F
  refine F.vl (R_assign rfl (ev_c fa _)) ?_;clear F fa;intro fa F
  refine F.as ?_;clear F fa;intro fa F
  refine wpList_nil ?_
  refine hK5 _ _ ?_
  clear hK5
  refine wp_ret ?_
  (try simp only [Exit.inBlock,Exit.then,reduceIte])
  refine rt_v F (rs_2 F rfl rfl rfl) ?_
  exact ⟨none,0,by rw [fewV,if_pos hc19];rfl,by rw [fewV,if_pos hc19];exact rows_nilI _,E⟩
 ·skip
  have ha0 : askE x s ls = 0:=Classical.not_not.1 hc19
  obtain ⟨hv,hsm,hlm⟩:=ask_okk ha0
  have HV:=Lib.hid hv
  have HS:=Lib.hid hsm
  have HL:=Lib.hid hlm
  clear hv hsm hlm
  refine wp_skip ?_
  refine hK2 _ _ ?_
  clear hK2
  refine wp_seq_k fun K6 hK6=>?_
  refine wp_region_lit ?_
  refine F.vl (R_loadBlk rfl (F.at rfl) Tryz.underlying24 rfl (by kernel_rfl) q3) ?_;clear F fa;intro fa F
  refine F.mv ?_;clear F fa;intro fa F
  refine F.mv ?_;clear F fa;intro fa F
  refine sq_call F rfl (by decide) rfl (R_callV rfl rfl Tryz.call46 (mpS (F.at rfl) (mpS (F.at rfl) (mpS (F.at rfl) mp0)))) (dRecipes_ok x HV.out s HS.out ls HL.out.2.1 hl a b c d _ (HX.out.ext E) (HR.out.ext E (by simp)) (HQ.out.ext E (by simp))) fun e w3 hR=>?_
  obtain ⟨M,mb,mc,rfl,hM,hml,e9⟩:=hR
  refine ⟨_,rfl,?_⟩;clear F fa;intro fa F
  replace q3:=(e9).keep0 q3
  replace E:=ext_same E (e9)
  clear e9
  have HML:=Lib.hid hml
  have HMS:=Lib.hid hml.1
  obtain ⟨wM,hwM⟩ : ∃ wM,wM = w3:=⟨_,rfl⟩
  have EM : Ext [] wM w3:=by rw [hwM];exact Ext.refl _ _
  rw [← hwM] at HML HMS
  clear hml
  obtain ⟨L,hLe⟩ : ∃ L,L = matL x (val s) ls:=⟨_,rfl⟩
  rw [← hLe] at hM
  have hML : M.length = L.length:=by rw [← hM,List.length_map]
  have HLB : RowKit.Hid (∀ t ∈ L,t.length = x.D.length ∧ ∀ q ∈ t,0 ≤ q ∧ q ≤ 6):=Lib.hid (fun t ht=>mat_bd HV.out (by rw [← hLe];exact ht))
  have hd4:=HV.out.d4
  have hl5 : L.length ≤ 500:=by rw [hLe];exact mat_len HV.out
  refine F.as ?_;clear F fa;intro fa F
  refine wpList_nil ?_
  refine hK6 _ _ ?_
  clear hK6
  refine wp_seq_k fun K7 hK7=>?_
  refine wp_seq_k fun K8 hK8=>?_
  refine wp_region_lit ?_
  refine F.mv ?_;clear F fa;intro fa F
  refine F.vl (R_len rfl rfl (F.at rfl) Tryz.underlying22) ?_;clear F fa;intro fa F
  refine F.vl (R_eqlD rfl (F.at rfl) (ev_c fa _)) ?_;clear F fa;intro fa F
  refine wpList_nil ?_
  refine hK8 _ _ ?_
  clear hK8
  refine cd_if F rfl (fun hc27=>?_) (fun hc27=>?_)
  ·skip
   have hL0 : L = []:=List.length_eq_zero_iff.1 (by omega)
   refine wp_seq_k fun K9 hK9=>?_
   refine wp_region_lit ?_
   refine F.vl (R_assign rfl (ev_c fa _)) ?_;clear F fa;intro fa F
   refine F.vl (R_assign rfl (ev_c fa _)) ?_;clear F fa;intro fa F
   refine wpList_nil ?_
   refine hK9 _ _ ?_
   clear hK9
   refine wp_ret ?_
   (try simp only [Exit.inBlock,Exit.then,reduceIte])
   refine rt_v F (rs_2 F rfl rfl rfl) ?_
   exact ⟨none,0,by rw [fewV,if_neg hc19,few_none (by rw [← hLe,hL0];rfl)];rfl,by rw [fewV,if_neg hc19,few_none (by rw [← hLe,hL0];rfl)];exact rows_nilI _,E⟩
  ·skip
   refine wp_skip ?_
   refine hK7 _ _ ?_
   clear hK7
   refine wp_seq_k fun K10 hK10=>?_
   refine wp_region_lit ?_
   refine F.vl (R_assign rfl (ev_c fa _)) ?_;clear F fa;intro fa F
   refine wpList_nil ?_
   refine hK10 _ _ ?_
   clear hK10
   refine wp_seq_k fun K11 hK11=>?_
   refine wp_seq_k fun K12 hK12=>?_
   refine wp_region_lit ?_
   refine F.vl (R_assign rfl (ev_c fa _)) ?_;clear F fa;intro fa F
   refine wpList_nil ?_
   rw [show (Value.int .i64 0) = .int .i64 ((0 : Nat) : Int) from rfl] at F
   refine hK12 _ _ ?_
   clear hK12
   refine wp_block ?_
   have F0:=F.sub (.c 9 rfl .n)
   refine lp_for F0 (M.length) (fun i Lv W=>∃ j : Nat,Lv = [(10,.int .i64 ((j : Nat) : Int)),(11,.int .i64 ((i : Nat) : Int))] ∧ Ext [] w W ∧ Ext [] wM W ∧ W.heap[n3]? = some (.cells #[.int .i64 x.B,.slice x.da x.D.length x.dc,.slice x.la x.L.length x.lc,.int .i64 x.tol] 24 (0,0)) ∧ j < M.length ∧ RowKit.Hid ((i = 0 ∧ j = 0) ∨ pickO cF (L.take i) = some (L.getD j []))) ⟨_,⟨0,rfl,E,EM,q3,(by omega),(Lib.hid (.inl ⟨rfl,rfl⟩))⟩,F.sub (.c 10 rfl (.c 11 rfl (.c 9 rfl .n)))⟩ ?_
   clear F F0
   clear E EM q3
   rintro i _ fa w4 hi1 ⟨j,rfl,E,EM,q3,hj,hbe⟩ F
   refine wp_seq_k fun K13 hK13=>?_
   refine wp_seq_k fun K14 hK14=>?_
   refine wp_region_lit ?_
   refine F.mv ?_;clear F fa;intro fa F
   refine F.mv ?_;clear F fa;intro fa F
   refine F.vl (R_len rfl rfl (F.at rfl) Tryz.underlying22) ?_;clear F fa;intro fa F
   refine F.vl (R_lss rfl (F.at rfl) (F.at rfl)) ?_;clear F fa;intro fa F
   refine wpList_nil ?_
   refine hK14 _ _ ?_
   clear hK14
   refine cd_if F rfl (fun hc31=>?_) (fun hc31=>?_)
   ·skip
    refine wp_skip ?_
    refine hK13 _ _ ?_
    clear hK13
    refine wp_seq_k fun K15 hK15=>?_
    refine wp_block ?_
    refine wp_seq_k fun K16 hK16=>?_
    obtain ⟨ta,tc,hta,htr⟩:=HML.out.2 _ (getD_mem (.bool true,[]) (show i < M.length by omega))
    obtain ⟨ua,uc,hua,hur⟩:=HML.out.2 _ (getD_mem (.bool true,[]) hj)
    have htk:=key_getD M (show i < M.length by omega)
    have huk:=key_getD M hj
    rw [hM] at htk huk
    obtain ⟨t,ht⟩ : ∃ t,t = (M.getD i (.bool true,[])).2:=⟨_,rfl⟩
    rw [← ht] at hta htr htk
    obtain ⟨u,hu⟩ : ∃ u,u = (M.getD j (.bool true,[])).2:=⟨_,rfl⟩
    rw [← hu] at hua hur huk
    obtain ⟨ht1,ht2⟩:=HLB.out t (by rw [← htk];exact getD_memL [] (by omega))
    obtain ⟨hu1,hu2⟩:=HLB.out u (by rw [← huk];exact getD_memL [] (by omega))
    have HTR:=Lib.hid htr
    have HUR:=Lib.hid hur
    have HT:=Lib.hid ht2
    have HU:=Lib.hid hu2
    clear htr hur ht2 hu2
    have hct:=cF_eq (l:=t) (by omega)
    have hcu:=cF_eq (l:=u) (by omega)
    have hsn : pickO cF (L.take (i + 1)) = offO cF (pickO cF (L.take i)) t:=(by rw [take_getD L [] (show i < L.length by omega),pick_snoc,htk])
    refine region_x (Ext [] w4) none follows fun w5 hh eh=>?_
    have q3_:=q3
    replace q3:=keep_same hh q3
    have E_:=E
    have zEw5:=E.size
    replace E:=ext_same E eh
    have EM_:=EM
    have zEMw5:=EM.size
    replace EM:=ext_same EM eh
    have eT:=eh
    clear hh eh
    refine F.x (i:=0) rfl (fun w'=>R_move rfl (F.at rfl)) (fun _=>eT) ?_;clear F fa;intro fa F
    refine F.x (i:=1) rfl (fun w'=>R_move rfl (F.at rfl)) (fun _=>eT) ?_;clear F fa;intro fa F
    obtain ⟨xb17,xo17,xa17,xr17⟩:=HMS.out i (by omega)
    refine F.x (i:=2) rfl (fun w'=>R_ixSlice (sz:=1) rfl ((F.at rfl).trans (xa17 _ _)) (F.at rfl) Tryz.underlying22 (by kernel_rfl) (by omega) (by omega)) (fun _=>eT) ?_;clear F fa;intro fa F
    refine F.xr (i:=3) rfl (fun w' hS=>R_load rfl (F.at rfl) Tryz.underlying25 rfl (xr17 _ (EM_.nil hS) 0 _ rfl)) (fun _=>eT) ?_;clear F fa;intro fa F
    rw [hta] at F
    refine F.x (i:=5) rfl (fun w'=>R_move rfl (F.at rfl)) (fun _=>eT) ?_;clear F fa;intro fa F
    refine F.x (i:=6) rfl (fun w'=>R_move rfl (F.at rfl)) (fun _=>eT) ?_;clear F fa;intro fa F
    obtain ⟨xb18,xo18,xa18,xr18⟩:=HMS.out j (by omega)
    refine F.x (i:=7) rfl (fun w'=>R_ixSlice (sz:=1) rfl ((F.at rfl).trans (xa18 _ _)) (F.at rfl) Tryz.underlying22 (by kernel_rfl) (by omega) (by omega)) (fun _=>eT) ?_;clear F fa;intro fa F
    refine F.xr (i:=8) rfl (fun w' hS=>R_load rfl (F.at rfl) Tryz.underlying25 rfl (xr18 _ (EM_.nil hS) 0 _ rfl)) (fun _=>eT) ?_;clear F fa;intro fa F
    rw [hua] at F
    refine ax_only (i:=4) (by kernel_rfl) (op_call F rfl rfl (by decide) rfl (R_callV rfl rfl Tryz.call49 (mpS (F.at rfl) mp0)) (dDyes_any t ta tc _ (by omega) HT.out (HTR.out.ext EM (by simp))) fun e w6 hR=>?_)
    obtain ⟨rfl,e9⟩:=hR
    refine ⟨_,rfl,?_⟩;clear F fa;intro fa F
    replace q3:=(e9).keep0 q3
    replace E:=ext_same E (e9)
    replace EM:=ext_same EM (e9)
    replace eT:=ext_same eT (e9)
    clear e9
    refine ⟨fun _=>eT,?_⟩
    refine ax_only (i:=9) (by kernel_rfl) (op_call F rfl rfl (by decide) rfl (R_callV rfl rfl Tryz.call49 (mpS (F.at rfl) mp0)) (dDyes_any u ua uc _ (by omega) HU.out (HUR.out.ext EM (by simp))) fun e w7 hR=>?_)
    obtain ⟨rfl,e9⟩:=hR
    refine ⟨_,rfl,?_⟩;clear F fa;intro fa F
    replace q3:=(e9).keep0 q3
    replace E:=ext_same E (e9)
    replace EM:=ext_same EM (e9)
    replace eT:=ext_same eT (e9)
    clear e9
    refine ⟨fun _=>eT,?_⟩
    refine F.x (i:=10) rfl (fun w'=>R_assign rfl (F.at rfl)) (fun _=>eT) ?_;clear F fa;intro fa F
    refine F.x (i:=11) rfl (fun w'=>R_assign rfl (F.at rfl)) (fun _=>eT) ?_;clear F fa;intro fa F
    refine ax_done (by kernel_rfl) ?_ _
    clear eT q3_ E_ EM_
    refine hK16 _ _ ?_
    clear hK16
    refine wp_seq_k fun K19 hK19=>?_
    by_cases h1 : dyeN (val t) t.length < dyeN (val u) u.length
    ·skip
     refine region_x (Ext [] w7) none follows fun w8 hh eh=>?_
     have q3_:=q3
     replace q3:=keep_same hh q3
     have E_:=E
     have zEw8:=E.size
     replace E:=ext_same E eh
     have EM_:=EM
     have zEMw8:=EM.size
     replace EM:=ext_same EM eh
     have eT:=eh
     clear hh eh
     refine F.x (i:=0) rfl (fun w'=>R_move rfl (F.at rfl)) (fun _=>eT) ?_;clear F fa;intro fa F
     refine F.x (i:=1) rfl (fun w'=>R_move rfl (F.at rfl)) (fun _=>eT) ?_;clear F fa;intro fa F
     refine F.x (i:=2) rfl (fun w'=>R_lssB (b:=true) rfl (F.at rfl) (F.at rfl) (decide_eq_true ((by omega)))) (fun _=>eT) ?_;clear F fa;intro fa F
     refine F.x (i:=3) rfl (fun w'=>R_move rfl (F.at rfl)) (fun _=>eT) ?_;clear F fa;intro fa F
     refine ax_no (i:=4) F rfl rfl (by decide) (by kernel_rfl) (fun _ _ _ h=>h) (wantF F rfl rfl (by decide) rfl (by decide)) (fun _=>eT) ?_;clear F fa;intro fa F
     refine ax_no (i:=5) F rfl rfl (by decide) (by kernel_rfl) (fun _ _ _ h=>h) (wantF F rfl rfl (by decide) rfl (by decide)) (fun _=>eT) ?_;clear F fa;intro fa F
     refine ax_no (i:=6) F rfl rfl (by decide) (by kernel_rfl) (fun _ _ _ h=>h) (wantF F rfl rfl (by decide) rfl (by decide)) (fun _=>eT) ?_;clear F fa;intro fa F
     refine ax_no (i:=7) F rfl rfl (by decide) (by kernel_rfl) (fun _ _ _ h=>h) (wantF F rfl rfl (by decide) rfl (by decide)) (fun _=>eT) ?_;clear F fa;intro fa F
     refine ax_no (i:=8) F rfl rfl (by decide) (by kernel_rfl) (fun _ _ _ h=>h) (wantU F rfl rfl (by decide) rfl) (fun _=>eT) ?_;clear F fa;intro fa F
     refine ax_no (i:=9) F rfl rfl (by decide) (by kernel_rfl) (fun _ _ _ h=>h) (wantU F rfl rfl (by decide) rfl) (fun _=>eT) ?_;clear F fa;intro fa F
     refine ax_no (i:=10) F rfl rfl (by decide) (by kernel_rfl) (fun _ _ _ h=>h) (wantU F rfl rfl (by decide) rfl) (fun _=>eT) ?_;clear F fa;intro fa F
     refine ax_no (i:=11) F rfl rfl (by decide) (by kernel_rfl) (fun _ _ _ h=>h) (wantU F rfl rfl (by decide) rfl) (fun _=>eT) ?_;clear F fa;intro fa F
     refine ax_no (i:=12) F rfl rfl (by decide) (by kernel_rfl) (fun _ _ _ h=>h) (wantU F rfl rfl (by decide) rfl) (fun _=>eT) ?_;clear F fa;intro fa F
     refine ax_no (i:=13) F rfl rfl (by decide) (by kernel_rfl) (fun _ _ _ h=>h) (wantU F rfl rfl (by decide) rfl) (fun _=>eT) ?_;clear F fa;intro fa F
     refine ax_no (i:=14) F rfl rfl (by decide) (by kernel_rfl) (fun _ _ _ h=>h) (wantU F rfl rfl (by decide) rfl) (fun _=>eT) ?_;clear F fa;intro fa F
     refine ax_no (i:=15) F rfl rfl (by decide) (by kernel_rfl) (fun _ _ _ h=>h) (wantU F rfl rfl (by decide) rfl) (fun _=>eT) ?_;clear F fa;intro fa F
     refine ax_no (i:=16) F rfl rfl (by decide) (by kernel_rfl) (fun _ _ _ h=>h) (wantU F rfl rfl (by decide) rfl) (fun _=>eT) ?_;clear F fa;intro fa F
     refine ax_no (i:=17) F rfl rfl (by decide) (by kernel_rfl) (fun _ _ _ h=>h) (wantU F rfl rfl (by decide) rfl) (fun _=>eT) ?_;clear F fa;intro fa F
     refine ax_no (i:=18) F rfl rfl (by decide) (by kernel_rfl) (fun _ _ _ h=>h) (wantU F rfl rfl (by decide) rfl) (fun _=>eT) ?_;clear F fa;intro fa F
     refine ax_no (i:=19) F rfl rfl (by decide) (by kernel_rfl) (fun _ _ _ h=>h) (wantF F rfl rfl (by decide) rfl (by decide)) (fun _=>eT) ?_;clear F fa;intro fa F
     refine F.x (i:=20) rfl (fun w'=>R_pickT rfl (F.at rfl) (ev_c fa _)) (fun _=>eT) ?_;clear F fa;intro fa F
     refine ax_done (by kernel_rfl) ?_ _
     clear eT q3_ E_ EM_
     have hless : cmpL [(cF t).1,(cF t).2] [(cF u).1,(cF u).2] < 0:=(by rw [hct,hcu];exact cmpL_twoZ.2 (.inl h1))
     refine hK19 _ _ ?_
     clear hK19
     refine cd_T F rfl ?_
     have hj2 : i < M.length:=(by omega)
     have hbe2 : RowKit.Hid ((i + 1 = 0 ∧ i = 0) ∨ pickO cF (L.take (i + 1)) = some (L.getD i [])):=Lib.hid (.inr (by rcases hbe.out with ⟨e1,e2⟩ | e;(· exact (less_irr hless (by rw [ht,hu,e1,e2])).elim);(· rw [hsn,e,huk,offO,if_pos hless,htk])))
     refine wp_region_lit ?_
     refine F.mv ?_;clear F fa;intro fa F
     refine F.as ?_;clear F fa;intro fa F
     refine wpList_nil ?_
     refine hK15 _ _ ?_
     clear hK15
     refine wp_region_lit ?_
     refine F.mv ?_;clear F fa;intro fa F
     refine F.vl (R_add rfl (F.at rfl) (ev_c fa _) (by omega) (by omega)) ?_;clear F fa;intro fa F
     refine F.as ?_;clear F fa;intro fa F
     refine wpList_nil ?_
     show _ ∧ _
     exact ⟨by omega,_,⟨_,rfl,E,EM,q3,hj2,hbe2⟩,F.sub (.c 10 rfl (.c 11 rfl (.c 9 rfl .n)))⟩
    ·skip
     by_cases h2 : dyeN (val t) t.length = dyeN (val u) u.length
     ·skip
      refine region_x (Ext [] w7) none follows fun w9 hh eh=>?_
      have q3_:=q3
      replace q3:=keep_same hh q3
      have E_:=E
      have zEw9:=E.size
      replace E:=ext_same E eh
      have EM_:=EM
      have zEMw9:=EM.size
      replace EM:=ext_same EM eh
      have eT:=eh
      clear hh eh
      refine F.x (i:=0) rfl (fun w'=>R_move rfl (F.at rfl)) (fun _=>eT) ?_;clear F fa;intro fa F
      refine F.x (i:=1) rfl (fun w'=>R_move rfl (F.at rfl)) (fun _=>eT) ?_;clear F fa;intro fa F
      refine F.x (i:=2) rfl (fun w'=>R_lssB (b:=false) rfl (F.at rfl) (F.at rfl) (decide_eq_false ((by omega)))) (fun _=>eT) ?_;clear F fa;intro fa F
      refine F.x (i:=3) rfl (fun w'=>R_move rfl (F.at rfl)) (fun _=>eT) ?_;clear F fa;intro fa F
      refine F.x (i:=4) rfl (fun w'=>R_move rfl (F.at rfl)) (fun _=>eT) ?_ (hw:=(wantT F rfl rfl (by decide) rfl));clear F fa;intro fa F
      refine F.x (i:=5) rfl (fun w'=>R_move rfl (F.at rfl)) (fun _=>eT) ?_ (hw:=(wantT F rfl rfl (by decide) rfl));clear F fa;intro fa F
      refine F.x (i:=6) rfl (fun w'=>R_eqlB (b:=true) rfl (F.at rfl) (F.at rfl) (decide_eq_true ((by omega)))) (fun _=>eT) ?_ (hw:=(wantT F rfl rfl (by decide) rfl));clear F fa;intro fa F
      refine F.x (i:=7) rfl (fun w'=>R_move rfl (F.at rfl)) (fun _=>eT) ?_ (hw:=(wantT F rfl rfl (by decide) rfl));clear F fa;intro fa F
      refine F.x (i:=8) rfl (fun w'=>R_move rfl (F.at rfl)) (fun _=>eT) ?_ (hw:=(wantT F rfl rfl (by decide) rfl));clear F fa;intro fa F
      refine F.x (i:=9) rfl (fun w'=>R_move rfl (F.at rfl)) (fun _=>eT) ?_ (hw:=(wantT F rfl rfl (by decide) rfl));clear F fa;intro fa F
      obtain ⟨xb20,xo20,xa20,xr20⟩:=HMS.out i (by omega)
      refine F.x (i:=10) rfl (fun w'=>R_ixSlice (sz:=1) rfl ((F.at rfl).trans (xa20 _ _)) (F.at rfl) Tryz.underlying22 (by kernel_rfl) (by omega) (by omega)) (fun _=>eT) ?_ (hw:=(wantT F rfl rfl (by decide) rfl));clear F fa;intro fa F
      refine F.xr (i:=11) rfl (fun w' hS=>R_load rfl (F.at rfl) Tryz.underlying25 rfl (xr20 _ (EM_.nil hS) 0 _ rfl)) (fun _=>eT) ?_ (hw:=(wantT F rfl rfl (by decide) rfl));clear F fa;intro fa F
      rw [hta] at F
      refine F.x (i:=13) rfl (fun w'=>R_move rfl (F.at rfl)) (fun _=>eT) ?_ (hw:=(wantT F rfl rfl (by decide) rfl));clear F fa;intro fa F
      refine F.x (i:=14) rfl (fun w'=>R_move rfl (F.at rfl)) (fun _=>eT) ?_ (hw:=(wantT F rfl rfl (by decide) rfl));clear F fa;intro fa F
      obtain ⟨xb21,xo21,xa21,xr21⟩:=HMS.out j (by omega)
      refine F.x (i:=15) rfl (fun w'=>R_ixSlice (sz:=1) rfl ((F.at rfl).trans (xa21 _ _)) (F.at rfl) Tryz.underlying22 (by kernel_rfl) (by omega) (by omega)) (fun _=>eT) ?_ (hw:=(wantT F rfl rfl (by decide) rfl));clear F fa;intro fa F
      refine F.xr (i:=16) rfl (fun w' hS=>R_load rfl (F.at rfl) Tryz.underlying25 rfl (xr21 _ (EM_.nil hS) 0 _ rfl)) (fun _=>eT) ?_ (hw:=(wantT F rfl rfl (by decide) rfl));clear F fa;intro fa F
      rw [hua] at F
      refine ax_only (i:=12) (by kernel_rfl) (op_call F rfl rfl (by decide) (wantT F rfl rfl (by decide) rfl) (R_callV rfl rfl Tryz.call50 (mpS (F.at rfl) mp0)) (dTotal_any t ta tc _ (HTR.out.ext EM (by simp)) (by omega) (fun q hq=>by have:=HT.out q hq;omega)) fun e w10 hR=>?_)
      obtain ⟨rfl,e9⟩:=hR
      refine ⟨_,rfl,?_⟩;clear F fa;intro fa F
      replace q3:=(e9).keep0 q3
      replace E:=ext_same E (e9)
      replace EM:=ext_same EM (e9)
      replace eT:=ext_same eT (e9)
      clear e9
      refine ⟨fun _=>eT,?_⟩
      refine ax_only (i:=17) (by kernel_rfl) (op_call F rfl rfl (by decide) (wantT F rfl rfl (by decide) rfl) (R_callV rfl rfl Tryz.call50 (mpS (F.at rfl) mp0)) (dTotal_any u ua uc _ (HUR.out.ext EM (by simp)) (by omega) (fun q hq=>by have:=HU.out q hq;omega)) fun e w11 hR=>?_)
      obtain ⟨rfl,e9⟩:=hR
      refine ⟨_,rfl,?_⟩;clear F fa;intro fa F
      replace q3:=(e9).keep0 q3
      replace E:=ext_same E (e9)
      replace EM:=ext_same EM (e9)
      replace eT:=ext_same eT (e9)
      clear e9
      refine ⟨fun _=>eT,?_⟩
      refine F.x (i:=18) rfl (fun w'=>R_lss rfl (F.at rfl) (F.at rfl)) (fun _=>eT) ?_ (hw:=(wantT F rfl rfl (by decide) rfl));clear F fa;intro fa F
      refine F.x (i:=19) rfl (fun w'=>R_pickT rfl (F.at rfl) (F.at rfl)) (fun _=>eT) ?_ (hw:=(wantT F rfl rfl (by decide) rfl));clear F fa;intro fa F
      refine F.x (i:=20) rfl (fun w'=>R_pickF rfl (F.at rfl) (F.at rfl)) (fun _=>eT) ?_;clear F fa;intro fa F
      refine ax_done (by kernel_rfl) ?_ _
      clear eT q3_ E_ EM_
      refine hK19 _ _ ?_
      clear hK19
      refine cd_if F rfl (fun hc64=>?_) (fun hc64=>?_)
      ·skip
       have hless : cmpL [(cF t).1,(cF t).2] [(cF u).1,(cF u).2] < 0:=(by rw [hct,hcu];exact cmpL_twoZ.2 (.inr ⟨h2,hc64⟩))
       have hj2 : i < M.length:=(by omega)
       have hbe2 : RowKit.Hid ((i + 1 = 0 ∧ i = 0) ∨ pickO cF (L.take (i + 1)) = some (L.getD i [])):=Lib.hid (.inr (by rcases hbe.out with ⟨e1,e2⟩ | e;(· exact (less_irr hless (by rw [ht,hu,e1,e2])).elim);(· rw [hsn,e,huk,offO,if_pos hless,htk])))
       refine wp_region_lit ?_
       refine F.mv ?_;clear F fa;intro fa F
       refine F.as ?_;clear F fa;intro fa F
       refine wpList_nil ?_
       refine hK15 _ _ ?_
       clear hK15
       refine wp_region_lit ?_
       refine F.mv ?_;clear F fa;intro fa F
       refine F.vl (R_add rfl (F.at rfl) (ev_c fa _) (by omega) (by omega)) ?_;clear F fa;intro fa F
       refine F.as ?_;clear F fa;intro fa F
       refine wpList_nil ?_
       show _ ∧ _
       exact ⟨by omega,_,⟨_,rfl,E,EM,q3,hj2,hbe2⟩,F.sub (.c 10 rfl (.c 11 rfl (.c 9 rfl .n)))⟩
      ·skip
       have hnot : ¬ cmpL [(cF t).1,(cF t).2] [(cF u).1,(cF u).2] < 0:=(by rw [hct,hcu,cmpL_twoZ];simp only;omega)
       have hj2:=hj
       have hbe2 : RowKit.Hid ((i + 1 = 0 ∧ j = 0) ∨ pickO cF (L.take (i + 1)) = some (L.getD j [])):=Lib.hid (.inr (by rcases hbe.out with ⟨e1,e2⟩ | e;(· rw [hsn,e1,List.take_zero];show some t = _;rw [← htk,e1,e2]);(· rw [hsn,e,huk,offO,if_neg hnot])))
       refine wp_skip ?_
       refine hK15 _ _ ?_
       clear hK15
       refine wp_region_lit ?_
       refine F.mv ?_;clear F fa;intro fa F
       refine F.vl (R_add rfl (F.at rfl) (ev_c fa _) (by omega) (by omega)) ?_;clear F fa;intro fa F
       refine F.as ?_;clear F fa;intro fa F
       refine wpList_nil ?_
       show _ ∧ _
       exact ⟨by omega,_,⟨_,rfl,E,EM,q3,hj2,hbe2⟩,F.sub (.c 10 rfl (.c 11 rfl (.c 9 rfl .n)))⟩
     ·skip
      refine region_x (Ext [] w7) none follows fun w12 hh eh=>?_
      have q3_:=q3
      replace q3:=keep_same hh q3
      have E_:=E
      have zEw12:=E.size
      replace E:=ext_same E eh
      have EM_:=EM
      have zEMw12:=EM.size
      replace EM:=ext_same EM eh
      have eT:=eh
      clear hh eh
      refine F.x (i:=0) rfl (fun w'=>R_move rfl (F.at rfl)) (fun _=>eT) ?_;clear F fa;intro fa F
      refine F.x (i:=1) rfl (fun w'=>R_move rfl (F.at rfl)) (fun _=>eT) ?_;clear F fa;intro fa F
      refine F.x (i:=2) rfl (fun w'=>R_lssB (b:=false) rfl (F.at rfl) (F.at rfl) (decide_eq_false ((by omega)))) (fun _=>eT) ?_;clear F fa;intro fa F
      refine F.x (i:=3) rfl (fun w'=>R_move rfl (F.at rfl)) (fun _=>eT) ?_;clear F fa;intro fa F
      refine F.x (i:=4) rfl (fun w'=>R_move rfl (F.at rfl)) (fun _=>eT) ?_ (hw:=(wantT F rfl rfl (by decide) rfl));clear F fa;intro fa F
      refine F.x (i:=5) rfl (fun w'=>R_move rfl (F.at rfl)) (fun _=>eT) ?_ (hw:=(wantT F rfl rfl (by decide) rfl));clear F fa;intro fa F
      refine F.x (i:=6) rfl (fun w'=>R_eqlB (b:=false) rfl (F.at rfl) (F.at rfl) (decide_eq_false ((by omega)))) (fun _=>eT) ?_ (hw:=(wantT F rfl rfl (by decide) rfl));clear F fa;intro fa F
      refine F.x (i:=7) rfl (fun w'=>R_move rfl (F.at rfl)) (fun _=>eT) ?_ (hw:=(wantT F rfl rfl (by decide) rfl));clear F fa;intro fa F
      refine ax_no (i:=8) F rfl rfl (by decide) (by kernel_rfl) (fun _ _ _ h=>h) (wantF F rfl rfl (by decide) rfl (by decide)) (fun _=>eT) ?_;clear F fa;intro fa F
      refine ax_no (i:=9) F rfl rfl (by decide) (by kernel_rfl) (fun _ _ _ h=>h) (wantF F rfl rfl (by decide) rfl (by decide)) (fun _=>eT) ?_;clear F fa;intro fa F
      refine ax_no (i:=10) F rfl rfl (by decide) (by kernel_rfl) (fun _ _ _ h=>h) (wantF F rfl rfl (by decide) rfl (by decide)) (fun _=>eT) ?_;clear F fa;intro fa F
      refine ax_no (i:=11) F rfl rfl (by decide) (by kernel_rfl) (fun _ _ _ h=>h) (wantF F rfl rfl (by decide) rfl (by decide)) (fun _=>eT) ?_;clear F fa;intro fa F
      refine ax_no (i:=12) F rfl rfl (by decide) (by kernel_rfl) (fun _ _ _ h=>h) (wantF F rfl rfl (by decide) rfl (by decide)) (fun _=>eT) ?_;clear F fa;intro fa F
      refine ax_no (i:=13) F rfl rfl (by decide) (by kernel_rfl) (fun _ _ _ h=>h) (wantF F rfl rfl (by decide) rfl (by decide)) (fun _=>eT) ?_;clear F fa;intro fa F
      refine ax_no (i:=14) F rfl rfl (by decide) (by kernel_rfl) (fun _ _ _ h=>h) (wantF F rfl rfl (by decide) rfl (by decide)) (fun _=>eT) ?_;clear F fa;intro fa F
      refine ax_no (i:=15) F rfl rfl (by decide) (by kernel_rfl) (fun _ _ _ h=>h) (wantF F rfl rfl (by decide) rfl (by decide)) (fun _=>eT) ?_;clear F fa;intro fa F
      refine ax_no (i:=16) F rfl rfl (by decide) (by kernel_rfl) (fun _ _ _ h=>h) (wantF F rfl rfl (by decide) rfl (by decide)) (fun _=>eT) ?_;clear F fa;intro fa F
      refine ax_no (i:=17) F rfl rfl (by decide) (by kernel_rfl) (fun _ _ _ h=>h) (wantF F rfl rfl (by decide) rfl (by decide)) (fun _=>eT) ?_;clear F fa;intro fa F
      refine ax_no (i:=18) F rfl rfl (by decide) (by kernel_rfl) (fun _ _ _ h=>h) (wantF F rfl rfl (by decide) rfl (by decide)) (fun _=>eT) ?_;clear F fa;intro fa F
      refine F.x (i:=19) rfl (fun w'=>R_pickF rfl (F.at rfl) (ev_c fa _)) (fun _=>eT) ?_ (hw:=(wantT F rfl rfl (by decide) rfl));clear F fa;intro fa F
      refine F.x (i:=20) rfl (fun w'=>R_pickF rfl (F.at rfl) (F.at rfl)) (fun _=>eT) ?_;clear F fa;intro fa F
      refine ax_done (by kernel_rfl) ?_ _
      clear eT q3_ E_ EM_
      have hnot : ¬ cmpL [(cF t).1,(cF t).2] [(cF u).1,(cF u).2] < 0:=(by rw [hct,hcu,cmpL_twoZ];simp only;omega)
      have hj2:=hj
      have hbe2 : RowKit.Hid ((i + 1 = 0 ∧ j = 0) ∨ pickO cF (L.take (i + 1)) = some (L.getD j [])):=Lib.hid (.inr (by rcases hbe.out with ⟨e1,e2⟩ | e;(· rw [hsn,e1,List.take_zero];show some t = _;rw [← htk,e1,e2]);(· rw [hsn,e,huk,offO,if_neg hnot])))
      refine hK19 _ _ ?_
      clear hK19
      refine cd_F F rfl ?_
      refine wp_skip ?_
      refine hK15 _ _ ?_
      clear hK15
      refine wp_region_lit ?_
      refine F.mv ?_;clear F fa;intro fa F
      refine F.vl (R_add rfl (F.at rfl) (ev_c fa _) (by omega) (by omega)) ?_;clear F fa;intro fa F
      refine F.as ?_;clear F fa;intro fa F
      refine wpList_nil ?_
      show _ ∧ _
      exact ⟨by omega,_,⟨_,rfl,E,EM,q3,hj2,hbe2⟩,F.sub (.c 10 rfl (.c 11 rfl (.c 9 rfl .n)))⟩
   ·skip
    refine wp_exit ?_
    have hpk : pickO cF L = some (L.getD j []):=(by rcases hbe.out with ⟨h1,-⟩ | h1;(· omega);(· rwa [List.take_of_length_le (by omega)] at h1))
    refine hK11 _ _ ?_
    clear hK11
    refine wp_seq_k fun K22 hK22=>?_
    obtain ⟨ua,uc,hua,hur⟩:=HML.out.2 _ (getD_mem (.bool true,[]) hj)
    have huk:=key_getD M hj
    rw [hM] at huk
    obtain ⟨u,hu⟩ : ∃ u,u = (M.getD j (.bool true,[])).2:=⟨_,rfl⟩
    rw [← hu] at hua hur huk
    have hul:=(HLB.out u (by rw [← huk];exact getD_memL [] (by omega))).1
    have hfe : fewV x s ls = (u,0):=(by rw [fewV,if_neg hc19,few_some (by rw [← hLe];exact hpk),huk,cutL_val hul])
    refine wp_region_lit ?_
    refine F.mv ?_;clear F fa;intro fa F
    refine F.mv ?_;clear F fa;intro fa F
    obtain ⟨xb23,xo23,xa23,xr23⟩:=HMS.out j (by omega)
    refine F.vl (R_ixSlice (sz:=1) rfl ((F.at rfl).trans (xa23 _ _)) (F.at rfl) Tryz.underlying22 (by kernel_rfl) (by omega) (by omega)) ?_;clear F fa;intro fa F
    refine F.vl (R_load rfl (F.at rfl) Tryz.underlying25 rfl (xr23 _ EM 0 _ rfl)) ?_;clear F fa;intro fa F
    rw [hua] at F
    refine F.as ?_;clear F fa;intro fa F
    refine F.vl (R_assign rfl (ev_c fa _)) ?_;clear F fa;intro fa F
    refine wpList_nil ?_
    refine hK22 _ _ ?_
    clear hK22
    refine wp_ret ?_
    (try simp only [Exit.inBlock,Exit.then,reduceIte])
    refine rt_v F (rs_2 F rfl rfl rfl) ?_
    exact ⟨ua,uc,by rw [hfe],by rw [hfe];exact hur.ext EM (by simp),E⟩
def NedPost (r : Int × Int) (w : World) (e : Ending) (w' : World) : Prop:=e = .returned (.tuple #[.int .i64 r.1,.int .i64 r.2]) ∧ Ext [] w w'
set_option maxRecDepth 100000 in
set_option maxHeartbeats 4000000 in
theorem dNeed_any (x : Vm) (sd : SmallL x.D) (sl : SmallL x.L) (s : List Int) (hs : s.length ≤ 1000) (ls : List Int) (hl : ls.length ≤ 1000) (a b : Option Addr) (c d : Nat) (w : World) (h : x.At w) (hr : IsRows w (.slice a s.length c) 1 (s.map intRow)) (hq : IsRows w (.slice b ls.length d) 1 (ls.map intRow)) :
  Calls Tryz.prog 19 #[.agg #[.int .i64 x.B,.slice x.da x.D.length x.dc,.slice x.la x.L.length x.lc,.int .i64 x.tol],.slice a s.length c,.slice b ls.length d] w (NedPost (nedV x s ls) w):=by
 have E : Ext [] w w:=Ext.refl _ _
 have HX:=Lib.hid h
 have HR:=Lib.hid hr
 have HQ:=Lib.hid hq
 clear h hr hq
 refine calls_has 32 Tryz.func19 rfl Tryz.ntmps19 (Nat.le_of_ble_eq_true rfl) ?_
 intro fa F
 refine wp_seq_k fun K1 hK1=>?_
 refine wp_region_lit ?_
 refine sq_new F rfl (by decide) rfl (R_box rfl (F.at rfl)) ?_;clear F fa;intro fa w1 F hw
 obtain ⟨n3,hn⟩ : ∃ n,n = w.heap.size:=⟨_,rfl⟩
 rw [← hn] at F
 have s3 : w.heap.size ≤ n3:=Nat.le_of_eq hn.symm
 have l3_E : w.heap.size ≤ n3:=by rw [hn];exact E.size
 replace E:=ext_alloc E hw
 have q3:=new_row hw hn
 clear hw hn
 refine F.vl (R_assign rfl (ev_c fa _)) ?_;clear F fa;intro fa F
 refine F.vl (R_assign rfl (ev_c fa _)) ?_;clear F fa;intro fa F
 refine wpList_nil ?_
 refine hK1 _ _ ?_
 clear hK1
 refine wp_seq_k fun K2 hK2=>?_
 refine wp_seq_k fun K3 hK3=>?_
 refine wp_region_lit ?_
 refine F.vl (R_loadBlk rfl (F.at rfl) Tryz.underlying24 rfl (by kernel_rfl) q3) ?_;clear F fa;intro fa F
 refine F.mv ?_;clear F fa;intro fa F
 refine F.mv ?_;clear F fa;intro fa F
 refine sq_call F rfl (by decide) rfl (R_callV rfl rfl Tryz.call45 (mpS (F.at rfl) (mpS (F.at rfl) (mpS (F.at rfl) mp0)))) (dAsked_any x sd sl s hs ls hl a b c d _ (HX.out.ext E) (HR.out.ext E (by simp)) (HQ.out.ext E (by simp))) fun e w2 hR=>?_
 obtain ⟨rfl,e9⟩:=hR
 refine ⟨_,rfl,?_⟩;clear F fa;intro fa F
 replace q3:=(e9).keep0 q3
 replace E:=ext_same E (e9)
 clear e9
 refine F.as ?_;clear F fa;intro fa F
 refine wpList_nil ?_
 refine hK3 _ _ ?_
 clear hK3
 refine wp_seq_k fun K4 hK4=>?_
 refine wp_region_lit ?_
 refine F.mv ?_;clear F fa;intro fa F
 refine F.vl (R_neqD rfl (F.at rfl) (ev_c fa _)) ?_;clear F fa;intro fa F
 refine wpList_nil ?_
 refine hK4 _ _ ?_
 clear hK4
 refine cd_if F rfl (fun hc16=>?_) (fun hc16=>?_)
 ·skip
  refine wp_seq_k fun K5 hK5=>?_
  refine wp_region_lit ?_
  refine F.mv ?_;clear F fa;intro fa F
  refine F.vl (R_assign rfl (ev_c fa _)) ?_;clear F fa;intro fa F
  refine F.as ?_;clear F fa;intro fa F
  refine wpList_nil ?_
  refine hK5 _ _ ?_
  clear hK5
  refine wp_ret ?_
  (try simp only [Exit.inBlock,Exit.then,reduceIte])
  refine rt_v F (rs_2 F rfl rfl rfl) ?_
  exact ⟨by rw [nedV,if_pos hc16],E⟩
 ·skip
  have ha0 : askE x s ls = 0:=Classical.not_not.1 hc16
  obtain ⟨hv,hsm,hlm⟩:=ask_okk ha0
  have HV:=Lib.hid hv
  have HS:=Lib.hid hsm
  have HL:=Lib.hid hlm
  clear hv hsm hlm
  refine wp_skip ?_
  refine hK2 _ _ ?_
  clear hK2
  refine wp_seq_k fun K6 hK6=>?_
  refine wp_seq_k fun K7 hK7=>?_
  refine wp_region_lit ?_
  refine F.vl (R_assign rfl (ev_c fa _)) ?_;clear F fa;intro fa F
  refine wpList_nil ?_
  refine hK7 _ _ ?_
  clear hK7
  refine wp_block ?_
  have F0:=F.sub (.c 1 rfl (.c 2 rfl (.c 3 rfl .n)))
  refine lp_for F0 (13) (fun i Lv W=>Lv = [(9,.int .i64 ((i : Nat) : Int))] ∧ Ext [] w W ∧ W.heap[n3]? = some (.cells #[.int .i64 x.B,.slice x.da x.D.length x.dc,.slice x.la x.L.length x.lc,.int .i64 x.tol] 24 (0,0)) ∧ RowKit.Hid (∀ k : Nat,k < i → matL (x.tolN ((k : Nat) : Int)) (val s) ls = [])) ⟨_,⟨rfl,E,q3,(Lib.hid fun k hk=>by omega)⟩,F.sub (.c 9 rfl (.c 1 rfl (.c 2 rfl (.c 3 rfl .n))))⟩ ?_
  clear F F0
  clear E q3
  rintro i _ fa w3 hi1 ⟨rfl,E,q3,HN⟩ F
  refine wp_seq_k fun K8 hK8=>?_
  refine wp_seq_k fun K9 hK9=>?_
  refine wp_region_lit ?_
  refine F.mv ?_;clear F fa;intro fa F
  refine F.vl (R_leq rfl (F.at rfl) (ev_c fa _)) ?_;clear F fa;intro fa F
  refine wpList_nil ?_
  refine hK9 _ _ ?_
  clear hK9
  refine cd_if F rfl (fun hc19=>?_) (fun hc19=>?_)
  ·skip
   refine wp_skip ?_
   refine hK8 _ _ ?_
   clear hK8
   refine wp_seq_k fun K10 hK10=>?_
   refine wp_block ?_
   refine wp_seq_k fun K11 hK11=>?_
   refine wp_region_lit ?_
   refine F.vl (R_loadBlk rfl (F.at rfl) Tryz.underlying24 rfl (by kernel_rfl) q3) ?_;clear F fa;intro fa F
   refine sq_new F rfl (by decide) rfl (R_alloc rfl Tryz.zeroValue24) ?_;clear F fa;intro fa w4 F hw
   obtain ⟨n10,hn⟩ : ∃ n,n = w3.heap.size:=⟨_,rfl⟩
   rw [← hn] at F
   have s10 : w3.heap.size ≤ n10:=Nat.le_of_eq hn.symm
   have l10_E : w.heap.size ≤ n10:=by rw [hn];exact E.size
   have m10_3 : n3 < n10:=by rw [hn];exact blk_lt q3
   replace q3:=keep_alloc hw q3
   replace E:=ext_alloc E hw
   have q10:=new_row hw hn
   clear hw hn
   refine sq_to rfl rfl (R_storeRow rfl (F.at rfl) (F.at rfl) (by kernel_rfl) (by first | (simp [Value.oneCell'];done) | (simp [Value.oneCell',id];done)) q10 rfl) ?_;intro w5 hw
   replace q3:=keep_cells hw q3 (by omega)
   replace q10:=put_row hw q10 rfl
   replace E:=ext_cells E hw (fun h=>by first | exact absurd h (by omega) | simp)
   clear hw
   refine wpList_nil ?_
   refine hK11 _ _ ?_
   clear hK11
   refine wp_seq_k fun K12 hK12=>?_
   refine wp_region_lit ?_
   refine F.mv ?_;clear F fa;intro fa F
   refine F.vl (R_field rfl (F.at rfl) Tryz.underlying24 rfl (n:=3) (sz:=1) rfl (by kernel_rfl) (by decide)) ?_;clear F fa;intro fa F
   refine sq_to rfl rfl (R_store rfl (F.at rfl) (F.at rfl) rfl (by kernel_rfl) ((cells_of_block q10 3).trans (getS (getS (getS (get0))))) (free_of_block q10 3)) ?_;intro w6 hw
   replace q3:=keep_cell hw q3 (by omega)
   replace q10:=put_cell hw q10 (by simp only [List.setIfInBounds_toArray,lsQ,lzQ];exact rfl)
   replace E:=ext_cell E hw (fun h=>by first | exact absurd h (by omega) | simp)
   clear hw
   refine wpList_nil ?_
   refine hK12 _ _ ?_
   clear hK12
   refine wp_seq_k fun K13 hK13=>?_
   refine wp_region_lit ?_
   refine F.vl (R_loadBlk rfl (F.at rfl) Tryz.underlying24 rfl (by kernel_rfl) q10) ?_;clear F fa;intro fa F
   refine F.mv ?_;clear F fa;intro fa F
   refine F.mv ?_;clear F fa;intro fa F
   refine sq_call F rfl (by decide) rfl (R_callV rfl rfl Tryz.call46 (mpS (F.at rfl) (mpS (F.at rfl) (mpS (F.at rfl) mp0)))) (dRecipes_ok (x.tolN ((i : Nat) : Int)) (HV.out.tolN (by omega) (by omega)) s HS.out ls HL.out.2.1 hl a b c d _ ((HX.out.ext E).tolN _) (HR.out.ext E (by simp)) (HQ.out.ext E (by simp))) fun e w7 hR=>?_
   obtain ⟨M,mb,mc,rfl,hM,hml,e9⟩:=hR
   refine ⟨_,rfl,?_⟩;clear F fa;intro fa F
   replace q3:=(e9).keep0 q3
   replace q10:=(e9).keep0 q10
   replace E:=ext_same E (e9)
   clear e9
   refine F.vl (R_len rfl rfl (F.at rfl) Tryz.underlying22) ?_;clear F fa;intro fa F
   refine F.vl (R_gtr rfl (F.at rfl) (ev_c fa _)) ?_;clear F fa;intro fa F
   refine wpList_nil ?_
   refine hK13 _ _ ?_
   clear hK13
   refine cd_if F rfl (fun hc30=>?_) (fun hc30=>?_)
   ·skip
    have hyes : matL (x.tolN ((i : Nat) : Int)) (val s) ls ≠ []:=(by rw [← hM];intro h;have:=congrArg List.length h;simp at this;rw [this] at hc30;simp at hc30)
    refine wp_seq_k fun K14 hK14=>?_
    refine wp_region_lit ?_
    refine F.mv ?_;clear F fa;intro fa F
    refine F.as ?_;clear F fa;intro fa F
    refine F.vl (R_assign rfl (ev_c fa _)) ?_;clear F fa;intro fa F
    refine wpList_nil ?_
    refine hK14 _ _ ?_
    clear hK14
    refine wp_ret ?_
    (try simp only [Exit.inBlock,Exit.then,reduceIte])
    refine rt_v F (rs_2 F rfl rfl rfl) ?_
    exact ⟨by rw [nedV,if_neg hc16,ned_some (by omega) hyes HN.out],E⟩
   ·skip
    have hno : matL (x.tolN ((i : Nat) : Int)) (val s) ls = []:=(by rw [← hM,List.length_eq_zero_iff.1 (show M.length = 0 by omega)];rfl)
    refine wp_skip ?_
    refine hK10 _ _ ?_
    clear hK10
    refine wp_region_lit ?_
    refine F.mv ?_;clear F fa;intro fa F
    refine F.vl (R_add rfl (F.at rfl) (ev_c fa _) (by omega) (by omega)) ?_;clear F fa;intro fa F
    refine F.as ?_;clear F fa;intro fa F
    refine wpList_nil ?_
    show _ ∧ _
    exact ⟨by omega,_,⟨rfl,E,q3,(Lib.hid fun k hk=>by rcases Nat.lt_succ_iff_lt_or_eq.1 hk with h | rfl;(· exact HN.out k h);(· exact hno))⟩,F.sub (.c 9 rfl (.c 1 rfl (.c 2 rfl (.c 3 rfl .n))))⟩
  ·skip
   refine wp_exit ?_
   refine hK6 _ _ ?_
   clear hK6
   refine wp_seq_k fun K15 hK15=>?_
   refine wp_region_lit ?_
   refine F.vl (R_assign rfl (ev_c fa _)) ?_;clear F fa;intro fa F
   refine F.vl (R_assign rfl (ev_c fa _)) ?_;clear F fa;intro fa F
   refine wpList_nil ?_
   refine hK15 _ _ ?_
   clear hK15
   refine wp_ret ?_
   (try simp only [Exit.inBlock,Exit.then,reduceIte])
   refine rt_v F (rs_2 F rfl rfl rfl) ?_
   exact ⟨by rw [nedV,if_neg hc16,ned_none (fun k hk=>HN.out k (by omega))],E⟩
def lackB (L : List (List Int)) (d i : Nat) : Bool:=(L.take i).any fun t=>decide (val t d = 0)
theorem lackB_succ {L : List (List Int)} {d i : Nat} (h : i < L.length) : lackB L d (i + 1) = (lackB L d i || decide (val (L.getD i []) d = 0)):=by
 rw [lackB,take_getD L [] h,List.any_append];simp [lackB]
theorem lackB_end {L : List (List Int)} {nd d : Nat} (h : d < nd) : lackB L d L.length = !gB nd L d:=by
 rw [lackB,List.take_length,gB,decide_eq_true h,Bool.true_and,List.not_all_eq_any_not]
 congr 1
 funext t
 simp
set_option maxRecDepth 100000 in
set_option maxHeartbeats 4000000 in
theorem dSpare_any (x : Vm) (sd : SmallL x.D) (sl : SmallL x.L) (s : List Int) (hs : s.length ≤ 1000) (ls : List Int) (hl : ls.length ≤ 1000) (a b : Option Addr) (c d : Nat) (w : World) (h : x.At w) (hr : IsRows w (.slice a s.length c) 1 (s.map intRow)) (hq : IsRows w (.slice b ls.length d) 1 (ls.map intRow)) :
  Calls Tryz.prog 21 #[.agg #[.int .i64 x.B,.slice x.da x.D.length x.dc,.slice x.la x.L.length x.lc,.int .i64 x.tol],.slice a s.length c,.slice b ls.length d] w (RefPost (spaV x s ls) w):=by
 have E : Ext [] w w:=Ext.refl _ _
 have HX:=Lib.hid h
 have HR:=Lib.hid hr
 have HQ:=Lib.hid hq
 clear h hr hq
 refine calls_has 58 Tryz.func21 rfl Tryz.ntmps21 (Nat.le_of_ble_eq_true rfl) ?_
 intro fa F
 refine wp_seq_k fun K1 hK1=>?_
 refine wp_region_lit ?_
 refine sq_new F rfl (by decide) rfl (R_box rfl (F.at rfl)) ?_;clear F fa;intro fa w1 F hw
 obtain ⟨n3,hn⟩ : ∃ n,n = w.heap.size:=⟨_,rfl⟩
 rw [← hn] at F
 have s3 : w.heap.size ≤ n3:=Nat.le_of_eq hn.symm
 have l3_E : w.heap.size ≤ n3:=by rw [hn];exact E.size
 replace E:=ext_alloc E hw
 have q3:=new_row hw hn
 clear hw hn
 refine F.vl (R_assign rfl (ev_c fa _)) ?_;clear F fa;intro fa F
 refine F.vl (R_assign rfl (ev_c fa _)) ?_;clear F fa;intro fa F
 refine wpList_nil ?_
 refine hK1 _ _ ?_
 clear hK1
 refine wp_seq_k fun K2 hK2=>?_
 refine wp_seq_k fun K3 hK3=>?_
 refine wp_region_lit ?_
 refine F.vl (R_loadBlk rfl (F.at rfl) Tryz.underlying24 rfl (by kernel_rfl) q3) ?_;clear F fa;intro fa F
 refine F.mv ?_;clear F fa;intro fa F
 refine F.mv ?_;clear F fa;intro fa F
 refine sq_call F rfl (by decide) rfl (R_callV rfl rfl Tryz.call45 (mpS (F.at rfl) (mpS (F.at rfl) (mpS (F.at rfl) mp0)))) (dAsked_any x sd sl s hs ls hl a b c d _ (HX.out.ext E) (HR.out.ext E (by simp)) (HQ.out.ext E (by simp))) fun e w2 hR=>?_
 obtain ⟨rfl,e9⟩:=hR
 refine ⟨_,rfl,?_⟩;clear F fa;intro fa F
 replace q3:=(e9).keep0 q3
 replace E:=ext_same E (e9)
 clear e9
 refine F.as ?_;clear F fa;intro fa F
 refine wpList_nil ?_
 refine hK3 _ _ ?_
 clear hK3
 refine wp_seq_k fun K4 hK4=>?_
 refine wp_region_lit ?_
 refine F.mv ?_;clear F fa;intro fa F
 refine F.vl (R_neqD rfl (F.at rfl) (ev_c fa _)) ?_;clear F fa;intro fa F
 refine wpList_nil ?_
 refine hK4 _ _ ?_
 clear hK4
 refine cd_if F rfl (fun hc19=>?_) (fun hc19=>?_)
 ·skip
  refine wp_seq_k fun K5 hK5=>?_
  refine wp_region_lit ?_
  refine F.mv ?_;clear F fa;intro fa F
  refine F.vl (R_assign rfl (ev_c fa _)) ?_;clear F fa;intro fa F
  refine F.as ?_;clear F fa;intro fa F
  refine wpList_nil ?_
  refine hK5 _ _ ?_
  clear hK5
  refine wp_ret ?_
  (try simp only [Exit.inBlock,Exit.then,reduceIte])
  refine rt_v F (rs_2 F rfl rfl rfl) ?_
  exact ⟨none,0,by rw [spaV,if_pos hc19];rfl,by rw [spaV,if_pos hc19];exact rows_nilI _,E⟩
 ·skip
  have ha0 : askE x s ls = 0:=Classical.not_not.1 hc19
  obtain ⟨hv,hsm,hlm⟩:=ask_okk ha0
  have HV:=Lib.hid hv
  have HS:=Lib.hid hsm
  have HL:=Lib.hid hlm
  clear hv hsm hlm
  refine wp_skip ?_
  refine hK2 _ _ ?_
  clear hK2
  refine wp_seq_k fun K6 hK6=>?_
  refine wp_region_lit ?_
  refine F.vl (R_loadBlk rfl (F.at rfl) Tryz.underlying24 rfl (by kernel_rfl) q3) ?_;clear F fa;intro fa F
  refine F.mv ?_;clear F fa;intro fa F
  refine F.mv ?_;clear F fa;intro fa F
  refine sq_call F rfl (by decide) rfl (R_callV rfl rfl Tryz.call46 (mpS (F.at rfl) (mpS (F.at rfl) (mpS (F.at rfl) mp0)))) (dRecipes_ok x HV.out s HS.out ls HL.out.2.1 hl a b c d _ (HX.out.ext E) (HR.out.ext E (by simp)) (HQ.out.ext E (by simp))) fun e w3 hR=>?_
  obtain ⟨M,mb,mc,rfl,hM,hml,e9⟩:=hR
  refine ⟨_,rfl,?_⟩;clear F fa;intro fa F
  replace q3:=(e9).keep0 q3
  replace E:=ext_same E (e9)
  clear e9
  have HML:=Lib.hid hml
  have HMS:=Lib.hid hml.1
  obtain ⟨wM,hwM⟩ : ∃ wM,wM = w3:=⟨_,rfl⟩
  have EM : Ext [] wM w3:=by rw [hwM];exact Ext.refl _ _
  rw [← hwM] at HML HMS
  clear hml
  have hzM : w.heap.size ≤ wM.heap.size:=(by rw [hwM];exact E.size)
  obtain ⟨L,hLe⟩ : ∃ L,L = matL x (val s) ls:=⟨_,rfl⟩
  rw [← hLe] at hM
  have hML : M.length = L.length:=by rw [← hM,List.length_map]
  have HLB : RowKit.Hid (∀ t ∈ L,t.length = x.D.length ∧ ∀ q ∈ t,0 ≤ q ∧ q ≤ 6):=Lib.hid (fun t ht=>mat_bd HV.out (by rw [← hLe];exact ht))
  have hd4:=HV.out.d4
  obtain ⟨g,hg⟩ : ∃ g,g = gB x.D.length L:=⟨_,rfl⟩
  have hl5 : L.length ≤ 500:=by rw [hLe];exact mat_len HV.out
  refine F.as ?_;clear F fa;intro fa F
  refine wpList_nil ?_
  refine hK6 _ _ ?_
  clear hK6
  refine wp_seq_k fun K7 hK7=>?_
  refine wp_seq_k fun K8 hK8=>?_
  refine wp_region_lit ?_
  refine F.mv ?_;clear F fa;intro fa F
  refine F.vl (R_len rfl rfl (F.at rfl) Tryz.underlying22) ?_;clear F fa;intro fa F
  refine F.vl (R_eqlD rfl (F.at rfl) (ev_c fa _)) ?_;clear F fa;intro fa F
  refine wpList_nil ?_
  refine hK8 _ _ ?_
  clear hK8
  refine cd_if F rfl (fun hc27=>?_) (fun hc27=>?_)
  ·skip
   have hL0 : L = []:=List.length_eq_zero_iff.1 (by omega)
   refine wp_seq_k fun K9 hK9=>?_
   refine wp_region_lit ?_
   refine F.vl (R_assign rfl (ev_c fa _)) ?_;clear F fa;intro fa F
   refine F.vl (R_assign rfl (ev_c fa _)) ?_;clear F fa;intro fa F
   refine wpList_nil ?_
   refine hK9 _ _ ?_
   clear hK9
   refine wp_ret ?_
   (try simp only [Exit.inBlock,Exit.then,reduceIte])
   refine rt_v F (rs_2 F rfl rfl rfl) ?_
   exact ⟨none,0,by rw [spaV,if_neg hc19,spaR,if_pos (by rw [← hLe];exact hL0)];rfl,by rw [spaV,if_neg hc19,spaR,if_pos (by rw [← hLe];exact hL0)];exact rows_nilI _,E⟩
  ·skip
   have hL1 : L ≠ []:=(fun h=>by rw [h] at hML;exact hc27 (by rw [hML];rfl))
   refine wp_skip ?_
   refine hK7 _ _ ?_
   clear hK7
   refine wp_seq_k fun K10 hK10=>?_
   refine wp_region_lit ?_
   refine F.vl (R_assign rfl (ev_c fa _)) ?_;clear F fa;intro fa F
   refine wpList_nil ?_
   refine hK10 _ _ ?_
   clear hK10
   refine wp_seq_k fun K11 hK11=>?_
   refine wp_seq_k fun K12 hK12=>?_
   refine wp_region_lit ?_
   refine F.vl (R_assign rfl (ev_c fa _)) ?_;clear F fa;intro fa F
   refine wpList_nil ?_
   have oo : w3.ownsRow wM.heap.size 3 1 (.slice none (spaT g 0).length 0) (spaT g 0).length (ivs (spaT g 0)):=World.ownsRow_nil _ _ _ _
   refine hK12 _ _ ?_
   clear hK12
   refine wp_block ?_
   have F0:=F.sub (.c 3 rfl (.c 9 rfl .n))
   refine lp_for F0 (x.D.length) (fun d2 Lv W=>∃ va : Option Addr,∃ vc : Nat,Lv = [(10,.slice va ((spaT g d2).length) vc),(11,.int .i64 ((d2 : Nat) : Int))] ∧ Ext [] w W ∧ Ext [] wM W ∧ W.heap[n3]? = some (.cells #[.int .i64 x.B,.slice x.da x.D.length x.dc,.slice x.la x.L.length x.lc,.int .i64 x.tol] 24 (0,0)) ∧ W.ownsRow wM.heap.size 3 1 (.slice va (spaT g d2).length vc) (spaT g d2).length (ivs (spaT g d2))) ⟨_,⟨none,0,rfl,E,EM,q3,oo⟩,F.sub (.c 10 rfl (.c 11 rfl (.c 3 rfl (.c 9 rfl .n))))⟩ ?_
   clear F F0
   clear E EM q3
   clear oo
   rintro d2 _ fa w4 hi1 ⟨va,vc,rfl,E,EM,q3,oo⟩ F
   refine wp_seq_k fun K13 hK13=>?_
   refine wp_seq_k fun K14 hK14=>?_
   refine wp_region_lit ?_
   refine F.mv ?_;clear F fa;intro fa F
   refine F.vl (R_field rfl (F.at rfl) Tryz.underlying24 rfl (n:=1) (sz:=1) rfl (by kernel_rfl) (by decide)) ?_;clear F fa;intro fa F
   refine F.vl (R_load rfl (F.at rfl) Tryz.underlying22 rfl ((cells_of_block q3 1).trans (getS (get0)))) ?_;clear F fa;intro fa F
   refine F.vl (R_len rfl rfl (F.at rfl) Tryz.underlying22) ?_;clear F fa;intro fa F
   refine F.vl (R_lss rfl (F.at rfl) (F.at rfl)) ?_;clear F fa;intro fa F
   refine wpList_nil ?_
   refine hK14 _ _ ?_
   clear hK14
   refine cd_if F rfl (fun hc32=>?_) (fun hc32=>?_)
   ·skip
    refine wp_skip ?_
    refine hK13 _ _ ?_
    clear hK13
    refine wp_seq_k fun K15 hK15=>?_
    refine wp_block ?_
    refine wp_seq_k fun K16 hK16=>?_
    refine wp_region_lit ?_
    refine F.vl (R_assign rfl (ev_c fa _)) ?_;clear F fa;intro fa F
    refine wpList_nil ?_
    refine hK16 _ _ ?_
    clear hK16
    refine wp_seq_k fun K17 hK17=>?_
    refine wp_seq_k fun K18 hK18=>?_
    refine wp_region_lit ?_
    refine F.vl (R_assign rfl (ev_c fa _)) ?_;clear F fa;intro fa F
    refine wpList_nil ?_
    rw [show (Value.bool false) = .bool (lackB L d2 0) from rfl] at F
    refine hK18 _ _ ?_
    clear hK18
    refine wp_block ?_
    have F0:=F.sub (.c 3 rfl (.c 9 rfl (.c 10 rfl (.c 11 rfl .n))))
    refine lp_for F0 (M.length) (fun i Lv W=>Lv = [(12,.bool (lackB L d2 i)),(13,.int .i64 ((i : Nat) : Int))] ∧ Ext [] w W ∧ Ext [] wM W ∧ W.heap[n3]? = some (.cells #[.int .i64 x.B,.slice x.da x.D.length x.dc,.slice x.la x.L.length x.lc,.int .i64 x.tol] 24 (0,0)) ∧ W.ownsRow wM.heap.size 3 1 (.slice va (spaT g d2).length vc) (spaT g d2).length (ivs (spaT g d2))) ⟨_,⟨rfl,E,EM,q3,oo⟩,F.sub (.c 12 rfl (.c 13 rfl (.c 3 rfl (.c 9 rfl (.c 10 rfl (.c 11 rfl .n))))))⟩ ?_
    clear F F0
    clear E EM q3 oo
    rintro i _ fa w5 hi2 ⟨rfl,E,EM,q3,oo⟩ F
    refine wp_seq_k fun K19 hK19=>?_
    refine wp_seq_k fun K20 hK20=>?_
    refine wp_region_lit ?_
    refine F.mv ?_;clear F fa;intro fa F
    refine F.mv ?_;clear F fa;intro fa F
    refine F.vl (R_len rfl rfl (F.at rfl) Tryz.underlying22) ?_;clear F fa;intro fa F
    refine F.vl (R_lss rfl (F.at rfl) (F.at rfl)) ?_;clear F fa;intro fa F
    refine wpList_nil ?_
    refine hK20 _ _ ?_
    clear hK20
    refine cd_if F rfl (fun hc38=>?_) (fun hc38=>?_)
    ·skip
     refine wp_skip ?_
     refine hK19 _ _ ?_
     clear hK19
     refine wp_seq_k fun K21 hK21=>?_
     refine wp_block ?_
     by_cases hb : lackB L d2 i = true
     ·skip
      have hds:=lackB_succ (d:=d2) (show i < L.length by omega)
      rw [hb,Bool.true_or] at hds
      rw [hb] at F
      refine wp_region_lit ?_
      refine F.mv ?_;clear F fa;intro fa F
      refine F.mv ?_;clear F fa;intro fa F
      refine sq_no F rfl (by decide) (wantF F rfl rfl (by decide) rfl (by decide)) ?_;clear F fa;intro fa F
      refine sq_no F rfl (by decide) (wantF F rfl rfl (by decide) rfl (by decide)) ?_;clear F fa;intro fa F
      refine sq_no F rfl (by decide) (wantF F rfl rfl (by decide) rfl (by decide)) ?_;clear F fa;intro fa F
      refine sq_no F rfl (by decide) (wantF F rfl rfl (by decide) rfl (by decide)) ?_;clear F fa;intro fa F
      refine sq_no F rfl (by decide) (wantF F rfl rfl (by decide) rfl (by decide)) ?_;clear F fa;intro fa F
      refine sq_no F rfl (by decide) (wantF F rfl rfl (by decide) rfl (by decide)) ?_;clear F fa;intro fa F
      refine sq_no F rfl (by decide) (wantF F rfl rfl (by decide) rfl (by decide)) ?_;clear F fa;intro fa F
      refine sq_no F rfl (by decide) (wantF F rfl rfl (by decide) rfl (by decide)) ?_;clear F fa;intro fa F
      refine F.vl (R_pickT rfl (F.at rfl) (ev_c fa _)) ?_;clear F fa;intro fa F
      refine F.as ?_;clear F fa;intro fa F
      refine wpList_nil ?_
      replace F:=F.re (k:=12) rfl (congrArg Value.bool hds.symm)
      refine hK21 _ _ ?_
      clear hK21
      refine wp_region_lit ?_
      refine F.mv ?_;clear F fa;intro fa F
      refine F.vl (R_add rfl (F.at rfl) (ev_c fa _) (by omega) (by omega)) ?_;clear F fa;intro fa F
      refine F.as ?_;clear F fa;intro fa F
      refine wpList_nil ?_
      show _ ∧ _
      exact ⟨by omega,_,⟨rfl,E,EM,q3,oo⟩,F.sub (.c 12 rfl (.c 13 rfl (.c 3 rfl (.c 9 rfl (.c 10 rfl (.c 11 rfl .n))))))⟩
     ·skip
      obtain ⟨ta,tc,hta,htr⟩:=HML.out.2 _ (getD_mem (.bool true,[]) (show i < M.length by omega))
      have htk:=key_getD M (show i < M.length by omega)
      rw [hM] at htk
      obtain ⟨t,ht⟩ : ∃ t,t = (M.getD i (.bool true,[])).2:=⟨_,rfl⟩
      rw [← ht] at hta htr htk
      obtain ⟨ht1,ht2⟩:=HLB.out t (by rw [← htk];exact getD_memL [] (by omega))
      have hds:=lackB_succ (d:=d2) (show i < L.length by omega)
      rw [Bool.eq_false_iff.2 hb,Bool.false_or,htk] at hds
      rw [Bool.eq_false_iff.2 hb] at F
      have HT:=Lib.hid (slAt_of_rows htr 0)
      refine wp_region_lit ?_
      refine F.mv ?_;clear F fa;intro fa F
      refine F.mv ?_;clear F fa;intro fa F
      refine F.mv ?_ (hw:=(wantT F rfl rfl (by decide) rfl));clear F fa;intro fa F
      refine F.mv ?_ (hw:=(wantT F rfl rfl (by decide) rfl));clear F fa;intro fa F
      obtain ⟨xb22,xo22,xa22,xr22⟩:=HMS.out i (by omega)
      refine F.vl (R_ixSlice (sz:=1) rfl ((F.at rfl).trans (xa22 _ _)) (F.at rfl) Tryz.underlying22 (by kernel_rfl) (by omega) (by omega)) ?_ (hw:=(wantT F rfl rfl (by decide) rfl));clear F fa;intro fa F
      refine F.vl (R_load rfl (F.at rfl) Tryz.underlying25 rfl (xr22 _ EM 0 _ rfl)) ?_ (hw:=(wantT F rfl rfl (by decide) rfl));clear F fa;intro fa F
      rw [hta] at F
      refine F.mv ?_ (hw:=(wantT F rfl rfl (by decide) rfl));clear F fa;intro fa F
      obtain ⟨xb23,xo23,xa23,xr23⟩:=HT.out d2 (by omega)
      refine F.vl (R_ixSlice (sz:=1) rfl ((F.at rfl).trans (xa23 _ _)) (F.at rfl) Tryz.underlying25 (by kernel_rfl) (by omega) (by omega)) ?_ (hw:=(wantT F rfl rfl (by decide) rfl));clear F fa;intro fa F
      refine F.vl (R_load rfl (F.at rfl) Tryz.underlying3 rfl (xr23 _ EM 0 _ rfl)) ?_ (hw:=(wantT F rfl rfl (by decide) rfl));clear F fa;intro fa F
      refine F.vl (R_eqlD rfl (F.at rfl) (ev_c fa _)) ?_ (hw:=(wantT F rfl rfl (by decide) rfl));clear F fa;intro fa F
      refine F.vl (R_pickF rfl (F.at rfl) (F.at rfl)) ?_;clear F fa;intro fa F
      refine F.as ?_;clear F fa;intro fa F
      refine wpList_nil ?_
      replace F:=F.re (k:=12) rfl (congrArg Value.bool hds.symm)
      refine hK21 _ _ ?_
      clear hK21
      refine wp_region_lit ?_
      refine F.mv ?_;clear F fa;intro fa F
      refine F.vl (R_add rfl (F.at rfl) (ev_c fa _) (by omega) (by omega)) ?_;clear F fa;intro fa F
      refine F.as ?_;clear F fa;intro fa F
      refine wpList_nil ?_
      show _ ∧ _
      exact ⟨by omega,_,⟨rfl,E,EM,q3,oo⟩,F.sub (.c 12 rfl (.c 13 rfl (.c 3 rfl (.c 9 rfl (.c 10 rfl (.c 11 rfl .n))))))⟩
    ·skip
     refine wp_exit ?_
     have hle:=lackB_end (L:=L) (show d2 < x.D.length by omega)
     rw [← hg] at hle
     rw [show i = L.length by omega,hle] at F
     refine hK17 _ _ ?_
     clear hK17
     refine wp_seq_k fun K24 hK24=>?_
     refine wp_region_lit ?_
     refine F.mv ?_;clear F fa;intro fa F
     refine wpList_nil ?_
     refine hK24 _ _ ?_
     clear hK24
     refine cd_b F rfl (fun hc52=>?_) (fun hc52=>?_)
     ·skip
      have hgd : g d2 = false:=by simpa using hc52
      have hsl:=spaT_len g d2
      refine wp_region_lit ?_
      refine F.mv ?_;clear F fa;intro fa F
      refine F.mv ?_;clear F fa;intro fa F
      refine sq_new F rfl (by decide) rfl (R_buildSliceV rfl (prS (F.at rfl) pr0) Tryz.underlying25 (size:=1) (by kernel_rfl) (by decide) (by decide) Tryz.zeroValue3 (cells:=#[.int .i64 ((d2 : Nat) : Int)]) (by kernel_rfl)) ?_;clear F fa;intro fa w6 F hw
      obtain ⟨n55,hn⟩ : ∃ n,n = w5.heap.size:=⟨_,rfl⟩
      rw [← hn] at F
      have s55 : w5.heap.size ≤ n55:=Nat.le_of_eq hn.symm
      have l55_E : w.heap.size ≤ n55:=by rw [hn];exact E.size
      have l55_EM : wM.heap.size ≤ n55:=by rw [hn];exact EM.size
      have m55_3 : n3 < n55:=by rw [hn];exact blk_lt q3
      have o55_oo:=Lib.hid (own_ne_new oo hn)
      replace oo:=owns_alloc hw oo
      replace q3:=keep_alloc hw q3
      replace E:=ext_alloc E hw
      replace EM:=ext_alloc EM hw
      have q55:=new_block hw hn
      clear hw hn
      have hzE:=EM.size
      refine sq_some F rfl (by decide) rfl (append_run rfl (wM.heap.size) (e:=3) (size:=1) (bytes:=8) Tryz.underlying25 (by kernel_rfl) (by decide) (F.at rfl) oo (F.at rfl) q55 rfl (by simp [Value.oneCell']) (by omega) (by omega) (by omega)) ?_;clear F fa;rintro fa v' w7 F ⟨hown',hg⟩
      obtain ⟨va56,vc56,rfl⟩:=owns_slice hown'
      replace q3:=keep_type oo hg q3 (by decide)
      replace E:=ext_appendX E oo hg (by omega)
      replace EM:=ext_appendX EM oo hg (by omega)
      replace oo:=hown'
      clear hg
      rw [show ivs (spaT g d2) ++ [Value.int .i64 ((d2 : Nat) : Int)] = ivs (spaT g (d2 + 1)) by rw [← spaT_put hgd];simp [ivs],show (spaT g d2).length + 1 = (spaT g (d2 + 1)).length by rw [← spaT_put hgd,List.length_append];rfl] at oo
      rw [show (spaT g d2).length + 1 = (spaT g (d2 + 1)).length by rw [← spaT_put hgd,List.length_append];rfl] at F
      refine F.as ?_;clear F fa;intro fa F
      refine wpList_nil ?_
      refine hK15 _ _ ?_
      clear hK15
      refine wp_region_lit ?_
      refine F.mv ?_;clear F fa;intro fa F
      refine F.vl (R_add rfl (F.at rfl) (ev_c fa _) (by omega) (by omega)) ?_;clear F fa;intro fa F
      refine F.as ?_;clear F fa;intro fa F
      refine wpList_nil ?_
      show _ ∧ _
      exact ⟨by omega,_,⟨_,_,rfl,E,EM,q3,oo⟩,F.sub (.c 10 rfl (.c 11 rfl (.c 3 rfl (.c 9 rfl .n))))⟩
     ·skip
      have hgd : g d2 = true:=by simpa using hc52
      rw [spaT_skip hgd] at oo F
      refine wp_skip ?_
      refine hK15 _ _ ?_
      clear hK15
      refine wp_region_lit ?_
      refine F.mv ?_;clear F fa;intro fa F
      refine F.vl (R_add rfl (F.at rfl) (ev_c fa _) (by omega) (by omega)) ?_;clear F fa;intro fa F
      refine F.as ?_;clear F fa;intro fa F
      refine wpList_nil ?_
      show _ ∧ _
      exact ⟨by omega,_,⟨_,_,rfl,E,EM,q3,oo⟩,F.sub (.c 10 rfl (.c 11 rfl (.c 3 rfl (.c 9 rfl .n))))⟩
   ·skip
    refine wp_exit ?_
    rw [show d2 = x.D.length by omega] at oo F
    refine hK11 _ _ ?_
    clear hK11
    refine wp_seq_k fun K25 hK25=>?_
    refine wp_region_lit ?_
    refine F.mv ?_;clear F fa;intro fa F
    refine F.as ?_;clear F fa;intro fa F
    refine F.vl (R_assign rfl (ev_c fa _)) ?_;clear F fa;intro fa F
    refine wpList_nil ?_
    refine hK25 _ _ ?_
    clear hK25
    refine wp_ret ?_
    (try simp only [Exit.inBlock,Exit.then,reduceIte])
    refine rt_v F (rs_2 F rfl rfl rfl) ?_
    exact ⟨va,vc,by rw [spaV,if_neg hc19,spaR,if_neg (by rw [← hLe];exact hL1),← hLe,← hg],by rw [spaV,if_neg hc19,spaR,if_neg (by rw [← hLe];exact hL1),← hLe,← hg];exact rows_of_ivs oo rfl,E⟩
end Go.Proofs.YtdjeecgddbjbeaaGreat
