/- Parts of a proof: Ddc, Dcl, Ddd, Dde. No conditions. -/
import Derived.Test.YtdjeecgddbjbeaaKc11
import Derived.Test.YtdjeecgddbjbeaaKc12
import Derived.Test.YtdjeecgddbjbeaaKc13
set_option linter.unusedVariables false
set_option linter.unusedSimpArgs false
namespace Go.Proofs.Ytdjeecgddbjbeaa
open Go.RowKit
def allL : Nat → Nat → List (List Int)
 | 0,_=>[[]]
 | n + 1,p=>(List.range (p + 1)).flatMap fun k=>(allL n (p - k)).map fun l=>((k : Nat) : Int) :: l
def allT (n p k : Nat) : List (List Int):=(List.range k).flatMap fun j=>(allL n (p - j)).map fun l=>((j : Nat) : Int) :: l
theorem allT_put (n p k : Nat) : allT n p k ++ ((allL n (p - k)).map fun l=>((k : Nat) : Int) :: l) = allT n p (k + 1):=by
 rw [allT,allT,List.range_succ,List.flatMap_append];simp
theorem all_bd : ∀ n,n < 5 → ∀ p,p < 7 → (allL n p).length ≤ 300 ∧ ∀ l ∈ allL n p,l.length = n:=by decide +kernel
theorem allT_bd : ∀ n,n < 4 → ∀ p,p < 7 → ∀ k,k < 8 → (allT n p k).length ≤ 1500:=by decide +kernel
set_option maxRecDepth 100000 in
set_option maxHeartbeats 2000000 in
theorem dAll_step (n p : Nat) (hn : n ≤ 4) (hp : p ≤ 6) (IH : RowKit.Hid (∀ m,m < n → ∀ q,q ≤ 6 → ∀ w : World,Calls Try.prog 66 #[.int .i64 (m : Nat),.int .i64 (q : Nat)] w (LisPost (allL m q) w))) (w : World) :
  Calls Try.prog 66 #[.int .i64 (n : Nat),.int .i64 (p : Nat)] w (LisPost (allL n p) w):=by
 have E : Ext [] w w:=Ext.refl _ _
 refine calls_has 40 Try.func66 rfl Try.ntmps66 (Nat.le_of_ble_eq_true rfl) ?_
 intro fa F
 refine wp_seq_k fun K1 hK1=>?_
 refine wp_region_lit ?_
 refine F.vl (R_assign rfl (ev_c fa _)) ?_;clear F fa;intro fa F
 refine wpList_nil ?_
 refine hK1 _ _ ?_
 clear hK1
 refine wp_seq_k fun K2 hK2=>?_
 refine wp_seq_k fun K3 hK3=>?_
 refine wp_region_lit ?_
 refine F.mv ?_;clear F fa;intro fa F
 refine F.vl (R_eqlD rfl (F.at rfl) (ev_c fa _)) ?_;clear F fa;intro fa F
 refine wpList_nil ?_
 refine hK3 _ _ ?_
 clear hK3
 refine cd_if F rfl (fun hc10=>?_) (fun hc10=>?_)
 ·skip
  obtain rfl : n = 0:=by omega
  refine wp_seq_k fun K4 hK4=>?_
  refine wp_region_lit ?_
  refine sq_new F rfl (by decide) rfl (R_buildSliceV rfl (prS (ev_c fa _) pr0) Try.underlying22 (size:=1) (by kernel_rfl) (by decide) (by decide) Try.zeroValue25 (cells:=#[.slice none 0 0]) (by kernel_rfl)) ?_;clear F fa;intro fa w1 F hw
  obtain ⟨n11,hn⟩ : ∃ n,n = w.heap.size:=⟨_,rfl⟩
  rw [← hn] at F
  have s11 : w.heap.size ≤ n11:=Nat.le_of_eq hn.symm
  have l11_E : w.heap.size ≤ n11:=by rw [hn];exact E.size
  replace E:=ext_alloc E hw
  have q11:=new_block hw hn
  clear hw hn
  refine F.as ?_;clear F fa;intro fa F
  refine wpList_nil ?_
  obtain ⟨O0,hO0⟩ : ∃ O0,O0 = [(Value.slice none 0 0,([] : List Int))]:=⟨_,rfl⟩
  have o1 : w1.ownsRow w.heap.size 25 1 (.slice (some ⟨n11,0,none⟩) O0.length 1) O0.length (O0.map (·.1)):=by rw [hO0];exact owns_lit1 q11 (by omega)
  have f1 : FamT w1 w.heap.size O0:=by rw [hO0];exact ⟨fun p hp=>by obtain rfl : p = (Value.slice none 0 0,([] : List Int)):=(by simpa using hp);exact World.ownsRow_nil _ _ _ _,List.pairwise_singleton _ _⟩
  refine hK4 _ _ ?_
  clear hK4
  refine wp_ret ?_
  (try simp only [Exit.inBlock,Exit.then,reduceIte])
  refine rt_v F (rs_1 F rfl rfl) ?_
  rw [show (Value.slice (some ⟨n11,0,none⟩) 1 1) = .slice (some ⟨n11,0,none⟩) O0.length 1 by rw [hO0];rfl];exact ⟨O0,_,_,rfl,by rw [hO0];rfl,o1,f1,E⟩
 ·skip
  obtain ⟨m,rfl⟩ : ∃ m,n = m + 1:=⟨n - 1,by omega⟩
  refine wp_skip ?_
  refine hK2 _ _ ?_
  clear hK2
  refine wp_seq_k fun K5 hK5=>?_
  refine wp_region_lit ?_
  refine F.vl (R_assign rfl (ev_c fa _)) ?_;clear F fa;intro fa F
  refine wpList_nil ?_
  have oo : w.ownsRow w.heap.size 25 1 (.slice none 0 0) 0 (([] : List (Value × List Int)).map (·.1)):=World.ownsRow_nil _ _ _ _
  have fam : FamT w w.heap.size []:=fam_nil _ _
  refine hK5 _ _ ?_
  clear hK5
  refine wp_seq_k fun K6 hK6=>?_
  refine wp_seq_k fun K7 hK7=>?_
  refine wp_region_lit ?_
  refine F.vl (R_assign rfl (ev_c fa _)) ?_;clear F fa;intro fa F
  refine wpList_nil ?_
  refine hK7 _ _ ?_
  clear hK7
  refine wp_block ?_
  have F0:=F.sub (.c 0 rfl (.c 1 rfl .n))
  refine lp_for F0 (p + 1) (fun k Lv W=>∃ va : Option Addr,∃ vc : Nat,∃ O : List (Value × List Int),Lv = [(5,.slice va O.length vc),(6,.int .i64 ((k : Nat) : Int))] ∧ Ext [] w W ∧ W.ownsRow w.heap.size 25 1 (.slice va O.length vc) O.length (O.map (·.1)) ∧ FamT W w.heap.size O ∧ O.map (·.2) = allT m p k) ⟨_,⟨none,0,[],rfl,E,oo,fam,rfl⟩,F.sub (.c 5 rfl (.c 6 rfl (.c 0 rfl (.c 1 rfl .n))))⟩ ?_
  clear F F0
  clear E
  clear oo
  clear fam
  rintro k _ fa w2 hi1 ⟨va,vc,O,rfl,E,oo,fam,hO⟩ F
  refine wp_seq_k fun K8 hK8=>?_
  refine wp_seq_k fun K9 hK9=>?_
  refine wp_region_lit ?_
  refine F.mv ?_;clear F fa;intro fa F
  refine F.mv ?_;clear F fa;intro fa F
  refine F.vl (R_leq rfl (F.at rfl) (F.at rfl)) ?_;clear F fa;intro fa F
  refine wpList_nil ?_
  refine hK9 _ _ ?_
  clear hK9
  refine cd_if F rfl (fun hc14=>?_) (fun hc14=>?_)
  ·skip
   refine wp_skip ?_
   refine hK8 _ _ ?_
   clear hK8
   refine wp_seq_k fun K10 hK10=>?_
   refine wp_block ?_
   refine wp_seq_k fun K11 hK11=>?_
   refine wp_region_lit ?_
   refine F.mv ?_;clear F fa;intro fa F
   refine F.vl (R_sub rfl (F.at rfl) (ev_c fa _) (by omega) (by omega)) ?_;clear F fa;intro fa F
   rw [show (((m + 1 : Nat) : Int) - 1) = ((m : Nat) : Int) by omega] at F
   refine F.mv ?_;clear F fa;intro fa F
   refine F.mv ?_;clear F fa;intro fa F
   refine F.vl (R_sub rfl (F.at rfl) (F.at rfl) (by omega) (by omega)) ?_;clear F fa;intro fa F
   rw [show (((p : Nat) : Int) - ((k : Nat) : Int)) = ((p - k : Nat) : Int) by omega] at F
   have hflt0:=Lib.hid (fam_lt fam)
   have hol:=Lib.hid (fun b e=>(oo.lt b e).2)
   obtain ⟨B0,hB0⟩ : ∃ B0,B0 = w2.heap.size:=⟨_,rfl⟩
   rw [← hB0] at hflt0 hol
   have hB0w : w.heap.size ≤ B0:=by rw [hB0];exact E.size
   refine sq_call F rfl (by decide) rfl (R_callV rfl rfl Try.call66 (mpS (F.at rfl) (mpS (F.at rfl) mp0))) (IH.out m (by omega) (p - k) (by omega) _) fun e w3 hR=>?_
   obtain ⟨R,ra,rc,rfl,hR,ro,rf,e9⟩:=hR
   refine ⟨_,rfl,?_⟩;clear F fa;intro fa F
   replace oo:=owns_ext oo (e9) (by simp)
   replace fam:=fam_lift fam fun _ _ _ h=>owns_ext h (e9) (by simp)
   replace E:=ext_same E (e9)
   clear e9
   rw [← hB0] at ro rf
   have hap : RowKit.Hid ((Value.slice ra R.length rc).ownBlock = none ∨ (Value.slice ra R.length rc).ownBlock ≠ (Value.slice va O.length vc).ownBlock):=Lib.hid (by cases hb : (Value.slice ra R.length rc).ownBlock with | none=>exact .inl rfl | some b=>exact .inr (fun e=>by have h1:=(ro.lt b hb).1;have h2:=hol.out b e.symm;omega))
   have rr:=owns_lower ro hB0w
   have fam2:=fam_join (b1:=B0) (L:=R) rf fam hflt0.out hB0w
   clear ro rf fam hol hflt0
   have fam:=fam2
   clear fam2
   obtain ⟨hab,hal⟩:=all_bd m (by omega) (p - k) (by omega)
   have hRl : R.length ≤ 300:=(by rw [← List.length_map (f:=fun p : Value × List Int=>p.2),hR];exact hab)
   have hRm : RowKit.Hid (∀ q ∈ R,q.2.length = m):=Lib.hid (fun q hq=>hal _ (by rw [← hR];exact List.mem_map.2 ⟨q,hq,rfl⟩))
   clear hab hal
   refine F.as ?_;clear F fa;intro fa F
   refine wpList_nil ?_
   refine hK11 _ _ ?_
   clear hK11
   refine wp_seq_k fun K12 hK12=>?_
   refine wp_region_lit ?_
   refine F.vl (R_assign rfl (ev_c fa _)) ?_;clear F fa;intro fa F
   refine wpList_nil ?_
   refine hK12 _ _ ?_
   clear hK12
   refine wp_block ?_
   have F0:=F.sub (.c 0 rfl (.c 1 rfl (.c 6 rfl (.c 7 rfl .n))))
   refine lp_for F0 (R.length) (fun i Lv W=>∃ va2 : Option Addr,∃ vc2 : Nat,∃ P : List (Value × List Int),Lv = [(5,.slice va2 P.length vc2),(8,.int .i64 ((i : Nat) : Int))] ∧ Ext [] w W ∧ W.ownsRow w.heap.size 25 1 (.slice ra R.length rc) R.length (R.map (·.1)) ∧ W.ownsRow w.heap.size 25 1 (.slice va2 P.length vc2) P.length (P.map (·.1)) ∧ FamT W w.heap.size (R ++ P) ∧ RowKit.Hid ((Value.slice ra R.length rc).ownBlock = none ∨ (Value.slice ra R.length rc).ownBlock ≠ (Value.slice va2 P.length vc2).ownBlock) ∧ P.map (·.2) = allT m p k ++ ((R.map (·.2)).take i).map fun l=>((k : Nat) : Int) :: l) ⟨_,⟨va,vc,O,rfl,E,rr,oo,fam,hap,(by rw [hO];simp)⟩,F.sub (.c 5 rfl (.c 8 rfl (.c 0 rfl (.c 1 rfl (.c 6 rfl (.c 7 rfl .n))))))⟩ ?_
   clear F F0
   clear E rr
   clear oo
   clear fam
   rintro i _ fa w4 hi2 ⟨va2,vc2,P,rfl,E,rr,oo,fam,hap,hP⟩ F
   have hPl : P.length ≤ 2000:=by have h:=congrArg List.length hP;simp only [List.length_map,List.length_append,List.length_take] at h;have h2:=allT_bd m (by omega) p (by omega) k (by omega);omega
   refine wp_seq_k fun K13 hK13=>?_
   refine wp_seq_k fun K14 hK14=>?_
   refine wp_region_lit ?_
   refine F.mv ?_;clear F fa;intro fa F
   refine F.mv ?_;clear F fa;intro fa F
   refine F.vl (R_len rfl rfl (F.at rfl) Try.underlying22) ?_;clear F fa;intro fa F
   refine F.vl (R_lss rfl (F.at rfl) (F.at rfl)) ?_;clear F fa;intro fa F
   refine wpList_nil ?_
   refine hK14 _ _ ?_
   clear hK14
   refine cd_if F rfl (fun hc26=>?_) (fun hc26=>?_)
   ·skip
    refine wp_skip ?_
    refine hK13 _ _ ?_
    clear hK13
    refine wp_seq_k fun K15 hK15=>?_
    refine wp_block ?_
    have EX : Ext [] w4 w4:=Ext.refl _ _
    have HS:=Lib.hid (slAt_of_outer rr rfl)
    have hmm : R.getD i (.bool true,[]) ∈ R ++ P:=List.mem_append_left _ (getD_mem _ (by omega))
    obtain ⟨la,lca,hla,hlr⟩:=fam_row fam hmm
    have HLR:=Lib.hid hlr
    have hlm:=hRm.out _ (getD_mem (.bool true,[]) (show i < R.length by omega))
    refine wp_region_lit ?_
    refine F.mv ?_;clear F fa;intro fa F
    refine F.mv ?_;clear F fa;intro fa F
    have hflt:=Lib.hid (fam_lt fam)
    obtain ⟨B1,hB1⟩ : ∃ B1,B1 = w4.heap.size:=⟨_,rfl⟩
    rw [← hB1] at hflt
    have hB1w : w.heap.size ≤ B1:=(by rw [hB1];exact E.size)
    have hB1X:=EX.size
    rw [← hB1] at hB1X
    refine sq_new F rfl (by decide) rfl (R_buildSliceV rfl (prS (F.at rfl) pr0) Try.underlying25 (size:=1) (by kernel_rfl) (by decide) (by decide) Try.zeroValue3 (cells:=#[.int .i64 ((k : Nat) : Int)]) (by kernel_rfl)) ?_;clear F fa;intro fa w5 F hw
    obtain ⟨n31,hn⟩ : ∃ n,n = w4.heap.size:=⟨_,rfl⟩
    rw [← hn] at F
    have s31 : w4.heap.size ≤ n31:=Nat.le_of_eq hn.symm
    have l31_E : w.heap.size ≤ n31:=by rw [hn];exact E.size
    have l31_EX : w4.heap.size ≤ n31:=by rw [hn];exact EX.size
    have o31_oo:=Lib.hid (own_ne_new oo hn)
    have o31_rr:=Lib.hid (own_ne_new rr hn)
    replace oo:=owns_alloc hw oo
    replace fam:=fam_lift fam fun _ _ _ h=>owns_alloc hw h
    replace rr:=owns_alloc hw rr
    replace E:=ext_alloc E hw
    replace EX:=ext_alloc EX hw
    have q31:=new_block hw hn
    clear hw hn
    have oi:=owns_lower (base':=B1) (own_of_block q31 (n:=1) (size:=1) rfl (by decide)) (show B1 ≤ n31 by omega)
    refine F.mv ?_;clear F fa;intro fa F
    refine F.mv ?_;clear F fa;intro fa F
    obtain ⟨xb16,xo16,xa16,xr16⟩:=HS.out i (by omega)
    refine F.vl (R_ixSlice (sz:=1) rfl ((F.at rfl).trans (xa16 _ _)) (F.at rfl) Try.underlying22 (by kernel_rfl) (by omega) (by omega)) ?_;clear F fa;intro fa F
    refine F.vl (R_load rfl (F.at rfl) Try.underlying25 rfl (xr16 _ EX 0 _ rfl)) ?_;clear F fa;intro fa F
    rw [hla] at F
    have hB7:=EX.size
    have hE7 : B1 ≤ w5.heap.size:=(by have:=(oi.lt n31 rfl).2;have:=(oi.lt n31 rfl).1;omega)
    refine sq_some F rfl (by decide) rfl (appends_run rfl (B1) (e:=3) (size:=1) (bytes:=8) Try.underlying25 (by kernel_rfl) (by decide) (F.at rfl) oi (F.at rfl) (srcAt_of_rows (HLR.out.ext EX (by simp)) (by decide) (fun _=>rfl) intRow_one) (by omega) (by omega) (by omega)) ?_;clear F fa;rintro fa v' w6 F ⟨hown',hg⟩
    obtain ⟨va36,vc36,rfl⟩:=owns_slice hown'
    replace oo:=owns_other oo oi hg (by decide)
    replace fam:=fam_below fam hflt.out oi hg
    replace rr:=owns_other rr oi hg (by decide)
    replace E:=ext_appendX E oi hg (by omega)
    replace EX:=ext_appendX EX oi hg (by omega)
    replace oi:=hown'
    clear hg
    obtain ⟨S,hSe⟩ : ∃ S,S = ((k : Nat) : Int) :: (R.getD i (.bool true,[])).2:=⟨_,rfl⟩
    have hSl : 1 + (R.getD i (.bool true,[])).2.length = S.length:=(by rw [hSe,List.length_cons];omega)
    rw [← ivs_flat,show [Value.int .i64 ((k : Nat) : Int)] ++ ivs (R.getD i (.bool true,[])).2 = ivs S by rw [hSe];rfl,hSl] at oi
    rw [hSl] at F
    have fam2:=fam_perm (fam_join (b1:=B1) (L:=[(Value.slice va36 S.length vc36,S)]) ⟨fun p hp=>(by obtain rfl : p = (Value.slice va36 S.length vc36,S):=(by simpa using hp);exact oi),List.pairwise_singleton _ _⟩ fam hflt.out hB1w) (M:=(R ++ P) ++ [(Value.slice va36 S.length vc36,S)]) List.perm_append_comm
    rw [List.append_assoc] at fam2
    clear fam oi
    have fam:=fam2
    clear fam2
    refine sq_new F rfl (by decide) rfl (R_buildSliceV rfl (prS (F.at rfl) pr0) Try.underlying22 (size:=1) (by kernel_rfl) (by decide) (by decide) Try.zeroValue25 (cells:=#[.slice va36 S.length vc36]) (by kernel_rfl)) ?_;clear F fa;intro fa w7 F hw
    obtain ⟨n37,hn⟩ : ∃ n,n = w6.heap.size:=⟨_,rfl⟩
    rw [← hn] at F
    have s37 : w6.heap.size ≤ n37:=Nat.le_of_eq hn.symm
    have l37_E : w.heap.size ≤ n37:=by rw [hn];exact E.size
    have o37_oo:=Lib.hid (own_ne_new oo hn)
    have o37_rr:=Lib.hid (own_ne_new rr hn)
    replace oo:=owns_alloc hw oo
    replace fam:=fam_lift fam fun _ _ _ h=>owns_alloc hw h
    replace rr:=owns_alloc hw rr
    replace E:=ext_alloc E hw
    have q37:=new_block hw hn
    clear hw hn
    have hEs2:=E.size
    refine sq_some F rfl (by decide) rfl (append_runB rfl (w.heap.size) (e:=25) (size:=1) (bytes:=24) Try.underlying22 (by kernel_rfl) (by decide) (F.at rfl) oo (F.at rfl) q37 rfl (by simp [Value.oneCell']) (by omega) (by omega) (by omega)) ?_;clear F fa;rintro fa v' w8 F ⟨hown',⟨hg,hblk⟩⟩
    obtain ⟨va38,vc38,rfl⟩:=owns_slice hown'
    have hap2:=own_apart2 hap.out rr hblk
    replace fam:=fam_lift fam fun _ _ _ h=>owns_other h oo hg (by decide)
    replace rr:=rr.kept hg hap.out
    replace E:=ext_appendX E oo hg (by omega)
    replace oo:=hown'
    clear hg
    obtain ⟨P2,hP2e⟩ : ∃ P2,P2 = P ++ [(Value.slice va36 S.length vc36,S)]:=⟨_,rfl⟩
    have hPl3 : P.length + 1 = P2.length:=by rw [hP2e,List.length_append];rfl
    have hP3 : P2.map (·.2) = allT m p k ++ ((R.map (·.2)).take (i + 1)).map fun l=>((k : Nat) : Int) :: l:=by rw [hP2e,List.map_append,hP,take_getD (R.map (·.2)) [] (by rw [List.length_map];omega),List.map_append,← List.append_assoc,key_getD R (by omega),hSe];rfl
    rw [show P.map (·.1) ++ [Value.slice va36 S.length vc36] = P2.map (·.1) by rw [hP2e,List.map_append];rfl,hPl3] at oo
    rw [hPl3] at F hap2
    rw [← hP2e] at fam
    clear hap hblk
    have hap:=Lib.hid hap2
    clear hap2
    refine F.as ?_;clear F fa;intro fa F
    refine wpList_nil ?_
    refine hK15 _ _ ?_
    clear hK15
    refine wp_region_lit ?_
    refine F.mv ?_;clear F fa;intro fa F
    refine F.vl (R_add rfl (F.at rfl) (ev_c fa _) (by omega) (by omega)) ?_;clear F fa;intro fa F
    refine F.as ?_;clear F fa;intro fa F
    refine wpList_nil ?_
    show _ ∧ _
    exact ⟨by omega,_,⟨_,_,_,rfl,E,rr,oo,fam,hap,hP3⟩,F.sub (.c 5 rfl (.c 8 rfl (.c 0 rfl (.c 1 rfl (.c 6 rfl (.c 7 rfl .n))))))⟩
   ·skip
    refine wp_exit ?_
    have hO4 : P.map (·.2) = allT m p (k + 1):=(by rw [hP,List.take_of_length_le (by rw [List.length_map];omega),hR,allT_put])
    replace fam:=fam_right fam
    refine hK10 _ _ ?_
    clear hK10
    refine wp_region_lit ?_
    refine F.mv ?_;clear F fa;intro fa F
    refine F.vl (R_add rfl (F.at rfl) (ev_c fa _) (by omega) (by omega)) ?_;clear F fa;intro fa F
    refine F.as ?_;clear F fa;intro fa F
    refine wpList_nil ?_
    show _ ∧ _
    exact ⟨by omega,_,⟨_,_,_,rfl,E,oo,fam,hO4⟩,F.sub (.c 5 rfl (.c 6 rfl (.c 0 rfl (.c 1 rfl .n))))⟩
  ·skip
   refine wp_exit ?_
   rw [show k = p + 1 by omega] at hO
   refine hK6 _ _ ?_
   clear hK6
   refine wp_seq_k fun K17 hK17=>?_
   refine wp_region_lit ?_
   refine F.mv ?_;clear F fa;intro fa F
   refine F.as ?_;clear F fa;intro fa F
   refine wpList_nil ?_
   refine hK17 _ _ ?_
   clear hK17
   refine wp_ret ?_
   (try simp only [Exit.inBlock,Exit.then,reduceIte])
   refine rt_v F (rs_1 F rfl rfl) ?_
   exact ⟨O,va,vc,rfl,hO,oo,fam,E⟩
theorem dAll_any : ∀ (n : Nat),n ≤ 4 → ∀ p,p ≤ 6 → ∀ w : World,Calls Try.prog 66 #[.int .i64 (n : Nat),.int .i64 (p : Nat)] w (LisPost (allL n p) w):=fun n =>
 Nat.strongRecOn n fun n ih hn p hp w=>dAll_step n p hn hp (Lib.hid fun m hm q hq w=>ih m hm (by omega) q hq w) w
theorem mem_rec : ∀ nd,nd < 5 → ∀ l ∈ tupL 7 nd,1 ≤ l.sum → l.sum ≤ 6 → l ∈ recL nd:=by decide +kernel
theorem RcpOk.mem {x : Vm} {t : List Int} (h : RcpOk x t) (hd : x.D.length ≤ 4) : t ∈ recL x.D.length:=mem_rec _ (by omega) t ((mem_tupL 7 _ t).2 ⟨h.len,fun n hn=>by have:=h.bd n hn;omega⟩) h.s1 h.s6
def leB (t q : List Int) : Bool:=(List.range 4).all fun k=>decide (0 ≤ mrG t q k)
theorem cor_mix : ∀ nd,nd < 4 → ∀ t ∈ recL nd,((recL nd).filter (leB t)).map (fun q=>cutL (mrG t q) nd) = mixL nd (6 - t.sum.toNat):=by decide +kernel
def cS (m : List Int) : Int × Int:=(m.sum,0)
theorem cmpL2 (a b : Int) : cmpL [a,0] [b,0] < 0 ↔ a < b:=by
 simp only [cmpL,cmpE]
 by_cases h : a < b
 ·simp [h]
 ·by_cases h2 : b < a
  ·simp [h,h2]
  ·simp [h,h2]
theorem pick_map {α β : Type} (g : α → β) (c : β → Int × Int) (l : List α) : pickO c (l.map g) = (pickO (fun a=>c (g a)) l).map g:=by
 have key : ∀ (l : List α) (o : Option α),(l.map g).foldl (offO c) (o.map g) = (l.foldl (offO fun a=>c (g a)) o).map g:=by
  intro l
  induction l with
  | nil=>intro o;rfl
  | cons x l ih =>
   intro o
   rw [List.map_cons,List.foldl_cons,List.foldl_cons,← ih]
   congr 1
   cases o with
   | none=>rfl
   | some u =>
    simp only [Option.map_some,offO]
    split <;> rfl
 exact key l none
theorem pick_congr {α : Type} {c c' : α → Int × Int} {l : List α} (h : ∀ t ∈ l,c t = c' t) : pickO c l = pickO c' l:=by
 have key : ∀ (m : List α) (o : Option α),(∀ t ∈ m,t ∈ l) → (∀ t,o = some t → t ∈ l) → m.foldl (offO c) o = m.foldl (offO c') o:=by
  intro m
  induction m with
  | nil=>intro o _ _;rfl
  | cons x m ih =>
   intro o hm ho
   have hx:=hm x (by simp)
   have e : offO c o x = offO c' o x:=by
    cases o with
    | none=>rfl
    | some u=>simp only [offO,h x hx,h u (ho u rfl)]
   rw [List.foldl_cons,List.foldl_cons,e]
   refine ih _ (fun t ht=>hm t (by simp [ht])) fun t ht=>?_
   cases o with
   | none=>simp only [offO,Option.some.injEq] at ht;rw [← ht];exact hx
   | some u =>
    rw [offO] at ht
    split at ht
    ·obtain rfl:=Option.some.inj ht;exact hx
    ·obtain rfl:=Option.some.inj ht;exact ho _ rfl
 exact key l none (fun _ h=>h) (fun t h=>by cases h)
def addL (t m : List Int) (n : Nat) : List Int:=(List.range n).map fun k=>val t k + val m k
def phiB (x : Vm) (t : List Int) (s : Nat → Int) (ls : List Int) (m : List Int) : Bool:=matE x (val (addL t m x.D.length)) s ls
theorem prt_cut {f : Nat → Int} {n : Nat} (hn : n ≤ 4) (h : ∀ k,n ≤ k → f k = 0) : (cutL f n).sum = prt f:=by
 rw [← sumTo_list (cutL f n) 4 (by simp [cutL];omega),prt]
 refine sumTo_congr fun k _=>?_
 by_cases hk : k < n
 ·simp [cutL,val,hk]
 ·rw [val_zero (by simp [cutL];omega),h k (by omega)]
theorem cor_law {x : Vm} (hd : x.D.length ≤ 3) {t : List Int} (ht : RcpOk x t) (s : Nat → Int) (ls : List Int) :
  pickO cS ((mixL x.D.length (6 - t.sum.toNat)).filter (phiB x t s ls)) = (corO x t s ls (recL x.D.length)).map fun q=>cutL (mrG t q) x.D.length:=by
 have hrl:=(recL_all x.D.length (by omega)).2
 rw [← cor_mix x.D.length (by omega) t (ht.mem (by omega)),List.filter_map,pick_map,corO,List.filter_filter]
 have hmr : ∀ q ∈ recL x.D.length,∀ k,x.D.length ≤ k → mrG t q k = 0:=fun q hq k hk=>by
  rw [mrG,val_zero (by rw [(hrl q hq).1];exact hk),val_zero (by rw [ht.len];exact hk)];rfl
 have h1 : (recL x.D.length).filter (fun q=>((phiB x t s ls) ∘ fun q=>cutL (mrG t q) x.D.length) q && leB t q) = (recL x.D.length).filter (corB x t s ls):=by
  refine List.filter_congr fun q hq=>?_
  have e : matE x (val (addL t (cutL (mrG t q) x.D.length) x.D.length)) s ls = matE x (val q) s ls:=by
   have hql:=(hrl q hq).1
   have : addL t (cutL (mrG t q) x.D.length) x.D.length = q:=by
    refine List.ext_getElem (by simp [addL,hql]) fun k h1 h2=>?_
    have hk : k < x.D.length:=by omega
    simp [addL,cutL,val,hk,mrG,h2]
    omega
   rw [this]
  simp only [Function.comp,phiB,corB]
  rw [e,Bool.and_comm]
  rfl
 rw [h1]
 congr 1
 refine pick_congr fun q hq=>?_
 rw [cS,mrC,prt_cut (by omega) (hmr q (List.mem_filter.1 hq).1)]
def BestAt (M : List (List Int)) (p : List Int → Bool) (i : Nat) (best least : Int) : Prop:=
 (pickO cS ((M.take i).filter p) = none ∧ best = -1) ∨ ∃ j : Nat,j < i ∧ best = j ∧ least = (M.getD j []).sum ∧ pickO cS ((M.take i).filter p) = some (M.getD j [])
theorem best_zero (M : List (List Int)) (p : List Int → Bool) : BestAt M p 0 (-1) 0:=.inl ⟨rfl,rfl⟩
theorem take_filterL {M : List (List Int)} {p : List Int → Bool} {i : Nat} (h : i < M.length) : (M.take (i + 1)).filter p = (M.take i).filter p ++ if p (M.getD i []) then [M.getD i []] else []:=by
 rw [take_getD M [] h,List.filter_append,List.filter_cons,List.filter_nil]
theorem best_skip {M : List (List Int)} {p : List Int → Bool} {i : Nat} {best least : Int} (hi : i < M.length) (h : BestAt M p i best least) (hp : p (M.getD i []) = false ∨ (0 ≤ best ∧ ¬ (M.getD i []).sum < least)) : BestAt M p (i + 1) best least:=by
 by_cases hb : p (M.getD i []) = true
 ·obtain ⟨h0,hl⟩:=hp.resolve_left (by rw [hb];decide)
  rcases h with ⟨-,h2⟩ | ⟨j,h1,h2,h3,h4⟩
  ·omega
  ·refine .inr ⟨j,by omega,h2,h3,?_⟩
   rw [take_filterL hi,hb,if_pos rfl,pick_snoc,h4,offO,cS,cS,if_neg]
   rw [cmpL2,← h3];exact hl
 ·rcases h with ⟨h1,h2⟩ | ⟨j,h1,h2,h3,h4⟩
  ·exact .inl ⟨by rw [take_filterL hi,if_neg hb,List.append_nil];exact h1,h2⟩
  ·exact .inr ⟨j,by omega,h2,h3,by rw [take_filterL hi,if_neg hb,List.append_nil];exact h4⟩
theorem best_take {M : List (List Int)} {p : List Int → Bool} {i : Nat} {best least : Int} (hi : i < M.length) (h : BestAt M p i best least) (hb : p (M.getD i []) = true) (hl : best < 0 ∨ (M.getD i []).sum < least) : BestAt M p (i + 1) ((i : Nat) : Int) (M.getD i []).sum:=by
 refine .inr ⟨i,by omega,rfl,rfl,?_⟩
 rw [take_filterL hi,hb,if_pos rfl,pick_snoc]
 rcases h with ⟨h1,h2⟩ | ⟨j,h1,h2,h3,h4⟩
 ·rw [h1];rfl
 ·rw [h4,offO,cS,cS,if_pos]
  rw [cmpL2,← h3];omega
theorem best_end {M : List (List Int)} {p : List Int → Bool} {i : Nat} {best least : Int} (hi : M.length ≤ i) (h : BestAt M p i best least) : (pickO cS (M.filter p) = none ∧ best = -1) ∨ ∃ j : Nat,j < i ∧ best = j ∧ pickO cS (M.filter p) = some (M.getD j []):=by
 rw [BestAt,List.take_of_length_le hi] at h
 rcases h with h | ⟨j,h1,h2,h3,h4⟩
 ·exact .inl h
 ·exact .inr ⟨j,h1,h2,h4⟩
theorem all_mix : ∀ n,n < 5 → ∀ p,p < 7 → allL n p = mixL n p:=by decide +kernel
theorem cor_all4 : ∀ t ∈ recL 4,((recL 4).filter (leB t)).map (fun q=>cutL (mrG t q) 4) = allL 4 (6 - t.sum.toNat):=by decide +kernel
theorem lmpF_zero {hi : Int} : ∀ (ls : List Int) (p : Option Int),lmpF hi p ls = 0 → (∀ n ∈ ls,0 ≤ n ∧ n ≤ hi) ∧ (∀ m,p = some m → ∀ h : 0 < ls.length,m < ls.getD 0 0) ∧ ∀ i,0 < i → i < ls.length → ls.getD (i - 1) 0 < ls.getD i 0
 | [],p,_=>⟨by simp,fun _ _ h=>absurd h (by simp),fun i _ h=>absurd h (by simp)⟩
 | n :: l,p,h=>by
  rw [lmpF] at h
  split at h
  ·cases h
  ·rename_i ho
   split at h
   ·cases h
   ·rename_i hp
    obtain ⟨h1,h2,h3⟩:=lmpF_zero l (some n) h
    refine ⟨fun k hk=>?_,fun m hm _=>?_,fun i h0 hi=>?_⟩
    ·rcases List.mem_cons.1 hk with rfl | hk
     ·exact outB_no.1 (by simpa using ho)
     ·exact h1 k hk
    ·subst hm
     simp at hp
     simpa using hp
    ·rcases i with _ | _ | i
     ·omega
     ·simpa using h2 n rfl (by simp at hi;omega)
     ·simpa using h3 (i + 1) (by omega) (by simp at hi;omega)
theorem lmp_okk {x : Vm} {ls : List Int} (h : lmpE x ls = 0) : LmpsOk x ls:=by
 unfold lmpE at h
 split at h
 ·cases h
 ·rename_i hl
  obtain ⟨h1,-,h3⟩:=lmpF_zero ls none h
  exact ⟨by omega,fun n hn=>by have:=h1 n hn;omega,h3⟩
theorem cor_lawA {x : Vm} (hd : x.D.length ≤ 4) {t : List Int} (ht : RcpOk x t) (s : Nat → Int) (ls : List Int) :
  pickO cS ((allL x.D.length (6 - t.sum.toNat)).filter (phiB x t s ls)) = (corO x t s ls (recL x.D.length)).map fun q=>cutL (mrG t q) x.D.length:=by
 by_cases h3 : x.D.length ≤ 3
 ·rw [all_mix _ (by omega) _ (by have:=ht.s1;omega),cor_law h3 ht s ls]
 have h4 : x.D.length = 4:=by omega
 have hrl:=(recL_all x.D.length (by omega)).2
 have hm:=cor_all4 t (by have:=ht.mem hd;rwa [h4] at this)
 rw [← h4] at hm
 rw [← hm,List.filter_map,pick_map,corO,List.filter_filter]
 have hmr : ∀ q ∈ recL x.D.length,∀ k,x.D.length ≤ k → mrG t q k = 0:=fun q hq k hk=>by
  rw [mrG,val_zero (by rw [(hrl q hq).1];exact hk),val_zero (by rw [ht.len];exact hk)];rfl
 have h1 : (recL x.D.length).filter (fun q=>((phiB x t s ls) ∘ fun q=>cutL (mrG t q) x.D.length) q && leB t q) = (recL x.D.length).filter (corB x t s ls):=by
  refine List.filter_congr fun q hq=>?_
  have e : matE x (val (addL t (cutL (mrG t q) x.D.length) x.D.length)) s ls = matE x (val q) s ls:=by
   have hql:=(hrl q hq).1
   have : addL t (cutL (mrG t q) x.D.length) x.D.length = q:=by
    refine List.ext_getElem (by simp [addL,hql]) fun k h1 h2=>?_
    have hk : k < x.D.length:=by omega
    simp [addL,cutL,val,hk,mrG,h2]
    omega
   rw [this]
  simp only [Function.comp,phiB,corB]
  rw [e,Bool.and_comm]
  rfl
 rw [h1]
 congr 1
 refine pick_congr fun q hq=>?_
 rw [cS,mrC,prt_cut (by omega) (hmr q (List.mem_filter.1 hq).1)]
theorem mix_memA {nd P : Nat} {m : List Int} (h : m ∈ mixL nd P) : m.length = nd ∧ (∀ q ∈ m,0 ≤ q ∧ q ≤ P) ∧ m.sum ≤ P:=by
 obtain ⟨h1,h2⟩:=List.mem_filter.1 h
 obtain ⟨h3,h4⟩:=(mem_tupL _ _ _).1 h1
 exact ⟨h3,fun q hq=>by have:=h4 q hq;omega,of_decide_eq_true h2⟩
theorem addL_bdA {t m : List Int} {n : Nat} (ht : ∀ q ∈ t,0 ≤ q) (hm : ∀ q ∈ m,0 ≤ q) (hs : t.sum + m.sum ≤ 6) : ∀ q ∈ addL t m n,0 ≤ q ∧ q ≤ 6:=by
 have key : ∀ (l : List Int),(∀ q ∈ l,0 ≤ q) → ∀ k,0 ≤ val l k ∧ val l k ≤ l.sum:=fun l hl k=>by
  by_cases hk : k < l.length
  ·exact ⟨hl _ (getD_mem 0 hk),le_sum hl _ (getD_mem 0 hk)⟩
  ·rw [val_zero (by omega)];exact ⟨Int.le_refl _,nonneg_sum hl⟩
 intro q hq
 obtain ⟨j,-,rfl⟩:=List.mem_map.1 hq
 have h1:=key t ht j
 have h2:=key m hm j
 omega
theorem all_bds : ∀ n,n < 5 → ∀ p,p < 7 → ∀ l ∈ allL n p,l.length = n ∧ (∀ q ∈ l,0 ≤ q ∧ q ≤ p) ∧ l.sum ≤ p:=fun n hn p hp l hl=>by
 rw [all_mix n hn p hp] at hl
 exact mix_memA hl
def RefPost (r : List Int × Int) (w : World) (e : Ending) (w' : World) : Prop:=∃ a c,e = .returned (.tuple #[.slice a r.1.length c,.int .i64 r.2]) ∧ IsRows w' (.slice a r.1.length c) 1 (r.1.map intRow) ∧ Ext [] w w'
def corV (x : Vm) (t s ls : List Int) : List Int × Int:=if corE x t s ls ≠ 0 then ([],corE x t s ls) else corR x t (val s) ls
theorem corV_bad {x : Vm} {t s ls : List Int} (h : corE x t s ls ≠ 0) : corV x t s ls = ([],corE x t s ls):=if_pos h
theorem corV_ok {x : Vm} {t s ls : List Int} (h : corE x t s ls = 0) : corV x t s ls = corR x t (val s) ls:=if_neg (by simpa using h)
theorem rows_nilI (w : World) : IsRows w (.slice none ([] : List Int).length 0) 1 (([] : List Int).map intRow):=rows_of_ivs (World.ownsRow_nil w w.heap.size 3 1) rfl
set_option maxRecDepth 100000 in
set_option maxHeartbeats 4000000 in
theorem dCorrect_any (x : Vm) (sd : SmallL x.D) (sl : SmallL x.L) (t : List Int) (ht : t.length ≤ 1000) (s : List Int) (hs : s.length ≤ 1000) (ls : List Int) (hl : ls.length ≤ 1000) (ta sa la : Option Addr) (tc sc lc : Nat) (w : World) (h : x.At w) (hp : IsRows w (.slice ta t.length tc) 1 (t.map intRow)) (hr : IsRows w (.slice sa s.length sc) 1 (s.map intRow)) (hq : IsRows w (.slice la ls.length lc) 1 (ls.map intRow)) :
  Calls Try.prog 21 #[.agg #[.int .i64 x.B,.slice x.da x.D.length x.dc,.slice x.la x.L.length x.lc,.int .i64 x.tol],.slice ta t.length tc,.slice sa s.length sc,.slice la ls.length lc] w (RefPost (corV x t s ls) w):=by
 have E : Ext [] w w:=Ext.refl _ _
 have HX:=Lib.hid h
 have HP:=Lib.hid hp
 have HR:=Lib.hid hr
 have HQ:=Lib.hid hq
 clear h hp hr hq
 obtain ⟨e1,he1⟩ : ∃ e1,e1 = x.err:=⟨_,rfl⟩
 have hcor : corE x t s ls = if e1 ≠ 0 then e1 else if rcpE x t ≠ 0 then rcpE x t else askE x s ls:=by
  subst he1
  unfold corE askE
  split
  ·rfl
  ·rfl
 refine calls_has 81 Try.func21 rfl Try.ntmps21 (Nat.le_of_ble_eq_true rfl) ?_
 intro fa F
 refine wp_seq_k fun K1 hK1=>?_
 refine wp_region_lit ?_
 refine sq_new F rfl (by decide) rfl (R_box rfl (F.at rfl)) ?_;clear F fa;intro fa w1 F hw
 obtain ⟨n4,hn⟩ : ∃ n,n = w.heap.size:=⟨_,rfl⟩
 rw [← hn] at F
 have s4 : w.heap.size ≤ n4:=Nat.le_of_eq hn.symm
 have l4_E : w.heap.size ≤ n4:=by rw [hn];exact E.size
 replace E:=ext_alloc E hw
 have q4:=new_row hw hn
 clear hw hn
 refine F.vl (R_assign rfl (ev_c fa _)) ?_;clear F fa;intro fa F
 refine F.vl (R_assign rfl (ev_c fa _)) ?_;clear F fa;intro fa F
 refine wpList_nil ?_
 refine hK1 _ _ ?_
 clear hK1
 refine wp_seq_k fun K2 hK2=>?_
 refine wp_seq_k fun K3 hK3=>?_
 refine wp_region_lit ?_
 refine F.vl (R_loadBlk rfl (F.at rfl) Try.underlying24 rfl (by kernel_rfl) q4) ?_;clear F fa;intro fa F
 refine sq_call F rfl (by decide) rfl (R_callV rfl rfl Try.call63 (mpS (F.at rfl) mp0)) (dCheck_any x _ (HX.out.ext E) sd sl) fun e w2 hR=>?_
 obtain ⟨rfl,e9⟩:=hR
 refine ⟨_,rfl,?_⟩;clear F fa;intro fa F
 replace q4:=(e9).keep0 q4
 replace E:=ext_same E (e9)
 clear e9
 rw [show chkE x.B (x.D.map (·.2)) (x.L.map (·.2)) x.tol = e1 from he1.symm] at F
 refine F.as ?_;clear F fa;intro fa F
 refine wpList_nil ?_
 refine hK3 _ _ ?_
 clear hK3
 refine wp_seq_k fun K4 hK4=>?_
 refine wp_region_lit ?_
 refine F.mv ?_;clear F fa;intro fa F
 refine F.vl (R_neqD rfl (F.at rfl) (ev_c fa _)) ?_;clear F fa;intro fa F
 refine wpList_nil ?_
 refine hK4 _ _ ?_
 clear hK4
 refine cd_if F rfl (fun hc19=>?_) (fun hc19=>?_)
 ·skip
  rw [if_pos hc19] at hcor
  refine wp_seq_k fun K5 hK5=>?_
  refine wp_region_lit ?_
  refine F.mv ?_;clear F fa;intro fa F
  refine F.vl (R_assign rfl (ev_c fa _)) ?_;clear F fa;intro fa F
  refine F.as ?_;clear F fa;intro fa F
  refine wpList_nil ?_
  refine hK5 _ _ ?_
  clear hK5
  refine wp_ret ?_
  (try simp only [Exit.inBlock,Exit.then,reduceIte])
  refine rt_v F (rs_2 F rfl rfl rfl) ?_
  exact ⟨none,0,by rw [corV_bad (by rw [hcor];exact hc19),hcor];rfl,by rw [corV_bad (by rw [hcor];exact hc19)];exact rows_nilI _,E⟩
 ·skip
  rw [if_neg hc19] at hcor
  refine wp_skip ?_
  refine hK2 _ _ ?_
  clear hK2
  refine wp_seq_k fun K6 hK6=>?_
  refine wp_seq_k fun K7 hK7=>?_
  refine wp_region_lit ?_
  refine F.vl (R_loadBlk rfl (F.at rfl) Try.underlying24 rfl (by kernel_rfl) q4) ?_;clear F fa;intro fa F
  refine F.mv ?_;clear F fa;intro fa F
  refine sq_call F rfl (by decide) rfl (R_callV rfl rfl Try.call64 (mpS (F.at rfl) (mpS (F.at rfl) mp0))) (dRecipe_any x sd.1 t ht ta tc _ (HP.out.ext E (by simp))) fun e w3 hR=>?_
  obtain ⟨rfl,e9⟩:=hR
  refine ⟨_,rfl,?_⟩;clear F fa;intro fa F
  replace q4:=(e9).keep0 q4
  replace E:=ext_same E (e9)
  clear e9
  refine F.as ?_;clear F fa;intro fa F
  refine wpList_nil ?_
  refine hK7 _ _ ?_
  clear hK7
  refine wp_seq_k fun K8 hK8=>?_
  refine wp_region_lit ?_
  refine F.mv ?_;clear F fa;intro fa F
  refine F.vl (R_neqD rfl (F.at rfl) (ev_c fa _)) ?_;clear F fa;intro fa F
  refine wpList_nil ?_
  refine hK8 _ _ ?_
  clear hK8
  refine cd_if F rfl (fun hc25=>?_) (fun hc25=>?_)
  ·skip
   rw [if_pos hc25] at hcor
   refine wp_seq_k fun K9 hK9=>?_
   refine wp_region_lit ?_
   refine F.mv ?_;clear F fa;intro fa F
   refine F.vl (R_assign rfl (ev_c fa _)) ?_;clear F fa;intro fa F
   refine F.as ?_;clear F fa;intro fa F
   refine wpList_nil ?_
   refine hK9 _ _ ?_
   clear hK9
   refine wp_ret ?_
   (try simp only [Exit.inBlock,Exit.then,reduceIte])
   refine rt_v F (rs_2 F rfl rfl rfl) ?_
   exact ⟨none,0,by rw [corV_bad (by rw [hcor];exact hc25),hcor];rfl,by rw [corV_bad (by rw [hcor];exact hc25)];exact rows_nilI _,E⟩
  ·skip
   rw [if_neg hc25] at hcor
   refine wp_skip ?_
   refine hK6 _ _ ?_
   clear hK6
   refine wp_seq_k fun K10 hK10=>?_
   refine wp_seq_k fun K11 hK11=>?_
   refine wp_region_lit ?_
   refine F.vl (R_loadBlk rfl (F.at rfl) Try.underlying24 rfl (by kernel_rfl) q4) ?_;clear F fa;intro fa F
   refine F.mv ?_;clear F fa;intro fa F
   refine F.mv ?_;clear F fa;intro fa F
   refine sq_call F rfl (by decide) rfl (R_callV rfl rfl Try.call65 (mpS (F.at rfl) (mpS (F.at rfl) (mpS (F.at rfl) mp0)))) (dAsked_any x sd sl s hs ls hl sa la sc lc _ (HX.out.ext E) (HR.out.ext E (by simp)) (HQ.out.ext E (by simp))) fun e w4 hR=>?_
   obtain ⟨rfl,e9⟩:=hR
   refine ⟨_,rfl,?_⟩;clear F fa;intro fa F
   replace q4:=(e9).keep0 q4
   replace E:=ext_same E (e9)
   clear e9
   refine F.as ?_;clear F fa;intro fa F
   refine wpList_nil ?_
   refine hK11 _ _ ?_
   clear hK11
   refine wp_seq_k fun K12 hK12=>?_
   refine wp_region_lit ?_
   refine F.mv ?_;clear F fa;intro fa F
   refine F.vl (R_neqD rfl (F.at rfl) (ev_c fa _)) ?_;clear F fa;intro fa F
   refine wpList_nil ?_
   refine hK12 _ _ ?_
   clear hK12
   refine cd_if F rfl (fun hc32=>?_) (fun hc32=>?_)
   ·skip
    refine wp_seq_k fun K13 hK13=>?_
    refine wp_region_lit ?_
    refine F.mv ?_;clear F fa;intro fa F
    refine F.vl (R_assign rfl (ev_c fa _)) ?_;clear F fa;intro fa F
    refine F.as ?_;clear F fa;intro fa F
    refine wpList_nil ?_
    refine hK13 _ _ ?_
    clear hK13
    refine wp_ret ?_
    (try simp only [Exit.inBlock,Exit.then,reduceIte])
    refine rt_v F (rs_2 F rfl rfl rfl) ?_
    exact ⟨none,0,by rw [corV_bad (by rw [hcor];exact hc32),hcor];rfl,by rw [corV_bad (by rw [hcor];exact hc32)];exact rows_nilI _,E⟩
   ·skip
    have ha0 : askE x s ls = 0:=Classical.not_not.1 hc32
    have hc0 : corE x t s ls = 0:=hcor.trans ha0
    have HV:=Lib.hid (chk_vok (x:=x) (he1.symm.trans (Classical.not_not.1 hc19)))
    have HT:=Lib.hid (rcp_zero.1 (Classical.not_not.1 hc25))
    have hz1 : cntE s x.B 9 = 0:=by unfold askE at ha0;rw [← he1,if_neg hc19] at ha0;by_cases hz : cntE s x.B 9 = 0;(· exact hz);(· rw [if_pos hz] at ha0;exact ha0)
    have hz2 : lmpE x ls = 0:=by unfold askE at ha0;rw [← he1,if_neg hc19,if_neg (by simpa using hz1)] at ha0;exact ha0
    have HS : RowKit.Hid (SmpOk x s):=Lib.hid (cnt_bd hz1)
    have HL:=Lib.hid (lmp_okk hz2)
    have htl:=HT.out.len
    have ht1:=HT.out.s1
    have ht6:=HT.out.s6
    have hd4:=HV.out.d4
    refine wp_skip ?_
    refine hK10 _ _ ?_
    clear hK10
    refine wp_seq_k fun K14 hK14=>?_
    refine region_x (Ext [] w4) none follows fun w5 hh eh=>?_
    have q4_:=q4
    replace q4:=keep_same hh q4
    have E_:=E
    have zEw5:=E.size
    replace E:=ext_same E eh
    have eT:=eh
    clear hh eh
    refine F.x (i:=0) rfl (fun w'=>R_field rfl (F.at rfl) Try.underlying24 rfl (n:=1) (sz:=1) rfl (by kernel_rfl) (by decide)) (fun _=>eT) ?_;clear F fa;intro fa F
    refine F.xr (i:=1) rfl (fun w' hS=>R_load rfl (F.at rfl) Try.underlying22 rfl ((cells_of_block (hS.keep q4_ (by simp)) 1).trans (getS (get0)))) (fun _=>eT) ?_;clear F fa;intro fa F
    refine F.x (i:=2) rfl (fun w'=>R_len rfl rfl (F.at rfl) Try.underlying22) (fun _=>eT) ?_;clear F fa;intro fa F
    refine F.x (i:=3) rfl (fun w'=>R_move rfl (F.at rfl)) (fun _=>eT) ?_;clear F fa;intro fa F
    refine ax_only (i:=4) (by kernel_rfl) (op_call F rfl rfl (by decide) rfl (R_callV rfl rfl Try.call67 (mpS (F.at rfl) mp0)) (dTotal_any t ta tc _ (HP.out.ext E (by simp)) ht (fun n hn=>by have:=HT.out.bd n hn;omega)) fun e w6 hR=>?_)
    obtain ⟨rfl,e9⟩:=hR
    refine ⟨_,rfl,?_⟩;clear F fa;intro fa F
    replace q4:=(e9).keep0 q4
    replace E:=ext_same E (e9)
    replace eT:=ext_same eT (e9)
    clear e9
    refine ⟨fun _=>eT,?_⟩
    refine F.x (i:=5) rfl (fun w'=>R_sub rfl (ev_c fa _) (F.at rfl) (by omega) (by omega)) (fun _=>eT) ?_;clear F fa;intro fa F
    rw [show (6 : Int) - t.sum = ((6 - t.sum.toNat : Nat) : Int) by omega] at F
    refine ax_only (i:=6) (by kernel_rfl) (op_call F rfl rfl (by decide) rfl (R_callV rfl rfl Try.call66 (mpS (F.at rfl) (mpS (F.at rfl) mp0))) (dAll_any x.D.length hd4 (6 - t.sum.toNat) (by omega) _) fun e w7 hR=>?_)
    obtain ⟨M,mb,mc,rfl,hM,mo,mf,e9⟩:=hR
    refine ⟨_,rfl,?_⟩;clear F fa;intro fa F
    replace q4:=(e9).keep0 q4
    replace E:=ext_same E (e9)
    replace eT:=ext_same eT (e9)
    clear e9
    refine ⟨fun _=>eT,?_⟩
    have hml:=lol_of_own mo mf
    clear mo mf
    have HML:=Lib.hid hml
    have HMS:=Lib.hid hml.1
    obtain ⟨wM,hwM⟩ : ∃ wM,wM = w7:=⟨_,rfl⟩
    have EM : Ext [] wM w7:=by rw [hwM];exact Ext.refl _ _
    rw [← hwM] at HML HMS
    clear hml
    have hMB : RowKit.Hid (∀ p ∈ M,p.2.length = x.D.length ∧ (∀ q ∈ p.2,0 ≤ q ∧ q ≤ ((6 - t.sum.toNat : Nat) : Int)) ∧ p.2.sum ≤ ((6 - t.sum.toNat : Nat) : Int)):=Lib.hid (fun p hp=>all_bds _ (by omega) _ (by omega) _ (by rw [← hM];exact List.mem_map.2 ⟨p,hp,rfl⟩))
    have hMl : M.length ≤ 10000:=by rw [← List.length_map (f:=fun p : Value × List Int=>p.2),hM];have:=(all_bd x.D.length (by omega) (6 - t.sum.toNat) (by omega)).1;omega
    refine F.x (i:=7) rfl (fun w'=>R_assign rfl (F.at rfl)) (fun _=>eT) ?_;clear F fa;intro fa F
    refine ax_done (by kernel_rfl) ?_ _
    clear eT q4_ E_
    refine hK14 _ _ ?_
    clear hK14
    refine wp_seq_k fun K15 hK15=>?_
    refine wp_region_lit ?_
    refine F.vl (R_assign rfl (ev_c fa _)) ?_;clear F fa;intro fa F
    refine wpList_nil ?_
    refine hK15 _ _ ?_
    clear hK15
    refine wp_seq_k fun K16 hK16=>?_
    refine wp_seq_k fun K17 hK17=>?_
    refine wp_region_lit ?_
    refine F.vl (R_assign rfl (ev_c fa _)) ?_;clear F fa;intro fa F
    refine wpList_nil ?_
    refine hK17 _ _ ?_
    clear hK17
    refine wp_block ?_
    have F0:=F.sub (.c 1 rfl (.c 2 rfl (.c 3 rfl (.c 4 rfl (.c 13 rfl .n)))))
    refine lp_for F0 (M.length) (fun i Lv W=>∃ best least : Int,Lv = [(14,.int .i64 best),(15,.int .i64 ((i : Nat) : Int))] ∧ Ext [] w W ∧ Ext [] wM W ∧ W.heap[n4]? = some (.cells #[.int .i64 x.B,.slice x.da x.D.length x.dc,.slice x.la x.L.length x.lc,.int .i64 x.tol] 24 (0,0)) ∧ BestAt (M.map (·.2)) (phiB x t (val s) ls) i best least) ⟨_,⟨_,0,rfl,E,EM,q4,(best_zero _ _)⟩,F.sub (.c 14 rfl (.c 15 rfl (.c 1 rfl (.c 2 rfl (.c 3 rfl (.c 4 rfl (.c 13 rfl .n)))))))⟩ ?_
    clear F F0
    clear E EM q4
    rintro i _ fa w8 hi1 ⟨best,least,rfl,E,EM,q4,hba⟩ F
    refine wp_seq_k fun K18 hK18=>?_
    refine wp_seq_k fun K19 hK19=>?_
    refine wp_region_lit ?_
    refine F.mv ?_;clear F fa;intro fa F
    refine F.mv ?_;clear F fa;intro fa F
    refine F.vl (R_len rfl rfl (F.at rfl) Try.underlying22) ?_;clear F fa;intro fa F
    refine F.vl (R_lss rfl (F.at rfl) (F.at rfl)) ?_;clear F fa;intro fa F
    refine wpList_nil ?_
    refine hK19 _ _ ?_
    clear hK19
    refine cd_if F rfl (fun hc44=>?_) (fun hc44=>?_)
    ·skip
     refine wp_skip ?_
     refine hK18 _ _ ?_
     clear hK18
     refine wp_seq_k fun K20 hK20=>?_
     refine wp_block ?_
     refine wp_seq_k fun K21 hK21=>?_
     obtain ⟨ma,mca,hma,hmr⟩:=HML.out.2 _ (getD_mem (.bool true,[]) (show i < M.length by omega))
     obtain ⟨hm1,hm2,hm3⟩:=hMB.out _ (getD_mem (.bool true,[]) (show i < M.length by omega))
     have hmk:=key_getD M (show i < M.length by omega)
     obtain ⟨m,hm⟩ : ∃ m,m = (M.getD i (.bool true,[])).2:=⟨_,rfl⟩
     rw [← hm] at hma hmr hm1 hm2 hm3 hmk
     have HMR:=Lib.hid hmr
     have hil2 : i < (M.map (·.2)).length:=by rw [List.length_map];omega
     by_cases hu : phiB x t (val s) ls m = true
     ·skip
      by_cases hb : best < 0
      ·skip
       refine region_x (Ext [] w8) none follows fun w9 hh eh=>?_
       have q4_:=q4
       replace q4:=keep_same hh q4
       have E_:=E
       have zEw9:=E.size
       replace E:=ext_same E eh
       have EM_:=EM
       have zEMw9:=EM.size
       replace EM:=ext_same EM eh
       have eT:=eh
       clear hh eh
       refine F.xr (i:=0) rfl (fun w' hS=>R_loadBlk rfl (F.at rfl) Try.underlying24 rfl (by kernel_rfl) (hS.keep q4_ (by simp))) (fun _=>eT) ?_;clear F fa;intro fa F
       refine F.x (i:=1) rfl (fun w'=>R_move rfl (F.at rfl)) (fun _=>eT) ?_;clear F fa;intro fa F
       refine F.x (i:=2) rfl (fun w'=>R_move rfl (F.at rfl)) (fun _=>eT) ?_;clear F fa;intro fa F
       refine F.x (i:=3) rfl (fun w'=>R_move rfl (F.at rfl)) (fun _=>eT) ?_;clear F fa;intro fa F
       refine F.x (i:=4) rfl (fun w'=>R_move rfl (F.at rfl)) (fun _=>eT) ?_;clear F fa;intro fa F
       obtain ⟨xb22,xo22,xa22,xr22⟩:=HMS.out i (by omega)
       refine F.x (i:=5) rfl (fun w'=>R_ixSlice (sz:=1) rfl ((F.at rfl).trans (xa22 _ _)) (F.at rfl) Try.underlying22 (by kernel_rfl) (by omega) (by omega)) (fun _=>eT) ?_;clear F fa;intro fa F
       refine F.xr (i:=6) rfl (fun w' hS=>R_load rfl (F.at rfl) Try.underlying25 rfl (xr22 _ (EM_.nil hS) 0 _ rfl)) (fun _=>eT) ?_;clear F fa;intro fa F
       rw [hma] at F
       refine F.x (i:=8) rfl (fun w'=>R_move rfl (F.at rfl)) (fun _=>eT) ?_;clear F fa;intro fa F
       have hpo:=dPoured_any t m (by omega) (by omega) (fun q hq=>by have:=HT.out.bd q hq;omega) (fun q hq=>by have:=hm2 q hq;omega) ta ma tc mca w9 (HP.out.ext E (by simp)) (HMR.out.ext EM (by simp))
       refine ax_only (i:=7) (by kernel_rfl) (op_call F rfl rfl (by decide) rfl (R_callV rfl rfl Try.call69 (mpS (F.at rfl) (mpS (F.at rfl) mp0))) (hpo) fun e w10 hR=>?_)
       obtain ⟨pa,pc,rfl,po,e9⟩:=hR
       refine ⟨_,rfl,?_⟩;clear F fa;intro fa F
       replace q4:=(e9).keep0 q4
       replace E:=ext_same E (e9)
       replace EM:=ext_same EM (e9)
       replace eT:=ext_same eT (e9)
       clear e9
       refine ⟨fun _=>eT,?_⟩
       have hpl : (addL t m x.D.length).length = x.D.length:=by simp [addL]
       have hpt : (addL t m x.D.length).length = t.length:=by rw [hpl,htl]
       rw [show pouL t m t.length = addL t m x.D.length by rw [htl];rfl] at po
       have HPO:=Lib.hid (rows_of_ivs po hpt.symm)
       obtain ⟨wP,hwP⟩ : ∃ wP,wP = w10:=⟨_,rfl⟩
       have EP : Ext [] wP w10:=by rw [hwP];exact Ext.refl _ _
       rw [← hwP] at HPO
       clear po hpo
       have hun:=dUnder_ok x HV.out ls HL.out.2.1 hl (addL t m x.D.length) hpl (addL_bdA (fun q hq=>(HT.out.bd q hq).1) (fun q hq=>(hm2 q hq).1) (by omega)) s HS.out la pa sa lc pc sc w10 (HX.out.ext E) (HQ.out.ext E (by simp)) (by rw [hpt];exact HPO.out.ext EP (by simp)) (HR.out.ext E (by simp))
       rw [hpt,show matE x (val (addL t m x.D.length)) (val s) ls = true from hu] at hun
       refine ax_only (i:=9) (by kernel_rfl) (op_call F rfl rfl (by decide) rfl (R_callV rfl rfl Try.call68 (mpS (F.at rfl) (mpS (F.at rfl) (mpS (F.at rfl) (mpS (F.at rfl) mp0))))) (hun) fun e w11 hR=>?_)
       obtain ⟨rfl,e9⟩:=hR
       refine ⟨_,rfl,?_⟩;clear F fa;intro fa F
       replace q4:=(e9).keep0 q4
       replace E:=ext_same E (e9)
       replace EM:=ext_same EM (e9)
       replace EP:=ext_same EP (e9)
       replace eT:=ext_same eT (e9)
       clear e9
       refine ⟨fun _=>eT,?_⟩
       clear hun
       refine F.x (i:=10) rfl (fun w'=>R_move rfl (F.at rfl)) (fun _=>eT) ?_;clear F fa;intro fa F
       refine F.x (i:=11) rfl (fun w'=>R_move rfl (F.at rfl)) (fun _=>eT) ?_ (hw:=(wantT F rfl rfl (by decide) rfl));clear F fa;intro fa F
       refine F.x (i:=12) rfl (fun w'=>R_lssB (b:=true) rfl (F.at rfl) (ev_c fa _) (decide_eq_true ((by omega)))) (fun _=>eT) ?_ (hw:=(wantT F rfl rfl (by decide) rfl));clear F fa;intro fa F
       refine F.x (i:=13) rfl (fun w'=>R_move rfl (F.at rfl)) (fun _=>eT) ?_ (hw:=(wantT F rfl rfl (by decide) rfl));clear F fa;intro fa F
       refine ax_no (i:=14) F rfl rfl (by decide) (by kernel_rfl) (fun _ _ _ h=>h) (wantF F rfl rfl (by decide) rfl (by decide)) (fun _=>eT) ?_;clear F fa;intro fa F
       refine ax_no (i:=15) F rfl rfl (by decide) (by kernel_rfl) (fun _ _ _ h=>h) (wantF F rfl rfl (by decide) rfl (by decide)) (fun _=>eT) ?_;clear F fa;intro fa F
       refine ax_no (i:=16) F rfl rfl (by decide) (by kernel_rfl) (fun _ _ _ h=>h) (wantF F rfl rfl (by decide) rfl (by decide)) (fun _=>eT) ?_;clear F fa;intro fa F
       refine ax_no (i:=17) F rfl rfl (by decide) (by kernel_rfl) (fun _ _ _ h=>h) (wantF F rfl rfl (by decide) rfl (by decide)) (fun _=>eT) ?_;clear F fa;intro fa F
       refine ax_no (i:=18) F rfl rfl (by decide) (by kernel_rfl) (fun _ _ _ h=>h) (wantF F rfl rfl (by decide) rfl (by decide)) (fun _=>eT) ?_;clear F fa;intro fa F
       refine ax_no (i:=19) F rfl rfl (by decide) (by kernel_rfl) (fun _ _ _ h=>h) (wantF F rfl rfl (by decide) rfl (by decide)) (fun _=>eT) ?_;clear F fa;intro fa F
       refine ax_no (i:=20) F rfl rfl (by decide) (by kernel_rfl) (fun _ _ _ h=>h) (wantF F rfl rfl (by decide) rfl (by decide)) (fun _=>eT) ?_;clear F fa;intro fa F
       refine ax_no (i:=21) F rfl rfl (by decide) (by kernel_rfl) (fun _ _ _ h=>h) (wantF F rfl rfl (by decide) rfl (by decide)) (fun _=>eT) ?_;clear F fa;intro fa F
       refine ax_no (i:=22) F rfl rfl (by decide) (by kernel_rfl) (fun _ _ _ h=>h) (wantF F rfl rfl (by decide) rfl (by decide)) (fun _=>eT) ?_;clear F fa;intro fa F
       refine ax_no (i:=23) F rfl rfl (by decide) (by kernel_rfl) (fun _ _ _ h=>h) (wantF F rfl rfl (by decide) rfl (by decide)) (fun _=>eT) ?_;clear F fa;intro fa F
       refine ax_no (i:=24) F rfl rfl (by decide) (by kernel_rfl) (fun _ _ _ h=>h) (wantF F rfl rfl (by decide) rfl (by decide)) (fun _=>eT) ?_;clear F fa;intro fa F
       refine F.x (i:=25) rfl (fun w'=>R_pickT rfl (F.at rfl) (ev_c fa _)) (fun _=>eT) ?_ (hw:=(wantT F rfl rfl (by decide) rfl));clear F fa;intro fa F
       refine F.x (i:=26) rfl (fun w'=>R_pickT rfl (F.at rfl) (F.at rfl)) (fun _=>eT) ?_;clear F fa;intro fa F
       refine ax_done (by kernel_rfl) ?_ _
       clear eT q4_ E_ EM_
       refine hK21 _ _ ?_
       clear hK21
       refine cd_T F rfl ?_
       replace hba:=best_take hil2 hba (by rw [hmk];exact hu) (.inl hb)
       refine wp_region_lit ?_
       refine F.mv ?_;clear F fa;intro fa F
       refine F.as ?_;clear F fa;intro fa F
       refine wpList_nil ?_
       refine hK20 _ _ ?_
       clear hK20
       refine wp_region_lit ?_
       refine F.mv ?_;clear F fa;intro fa F
       refine F.vl (R_add rfl (F.at rfl) (ev_c fa _) (by omega) (by omega)) ?_;clear F fa;intro fa F
       refine F.as ?_;clear F fa;intro fa F
       refine wpList_nil ?_
       show _ ∧ _
       exact ⟨by omega,_,⟨_,_,rfl,E,EM,q4,hba⟩,F.sub (.c 14 rfl (.c 15 rfl (.c 1 rfl (.c 2 rfl (.c 3 rfl (.c 4 rfl (.c 13 rfl .n)))))))⟩
      ·skip
       obtain ⟨j,hj,hbj,hle⟩ : ∃ j : Nat,j < i ∧ best = j ∧ least = ((M.map (·.2)).getD j []).sum:=(by rcases hba with ⟨-,h2⟩ | ⟨j,h1,h2,h3,-⟩;(· omega);(· exact ⟨j,h1,h2,h3⟩))
       subst hbj
       obtain ⟨na,nca,hna,hnr⟩:=HML.out.2 _ (getD_mem (.bool true,[]) (show j < M.length by omega))
       obtain ⟨hn1,hn2,hn3⟩:=hMB.out _ (getD_mem (.bool true,[]) (show j < M.length by omega))
       rw [key_getD M (show j < M.length by omega)] at hle
       have HNR:=Lib.hid hnr
       refine region_x (Ext [] w8) none follows fun w12 hh eh=>?_
       have q4_:=q4
       replace q4:=keep_same hh q4
       have E_:=E
       have zEw12:=E.size
       replace E:=ext_same E eh
       have EM_:=EM
       have zEMw12:=EM.size
       replace EM:=ext_same EM eh
       have eT:=eh
       clear hh eh
       refine F.xr (i:=0) rfl (fun w' hS=>R_loadBlk rfl (F.at rfl) Try.underlying24 rfl (by kernel_rfl) (hS.keep q4_ (by simp))) (fun _=>eT) ?_;clear F fa;intro fa F
       refine F.x (i:=1) rfl (fun w'=>R_move rfl (F.at rfl)) (fun _=>eT) ?_;clear F fa;intro fa F
       refine F.x (i:=2) rfl (fun w'=>R_move rfl (F.at rfl)) (fun _=>eT) ?_;clear F fa;intro fa F
       refine F.x (i:=3) rfl (fun w'=>R_move rfl (F.at rfl)) (fun _=>eT) ?_;clear F fa;intro fa F
       refine F.x (i:=4) rfl (fun w'=>R_move rfl (F.at rfl)) (fun _=>eT) ?_;clear F fa;intro fa F
       obtain ⟨xb23,xo23,xa23,xr23⟩:=HMS.out i (by omega)
       refine F.x (i:=5) rfl (fun w'=>R_ixSlice (sz:=1) rfl ((F.at rfl).trans (xa23 _ _)) (F.at rfl) Try.underlying22 (by kernel_rfl) (by omega) (by omega)) (fun _=>eT) ?_;clear F fa;intro fa F
       refine F.xr (i:=6) rfl (fun w' hS=>R_load rfl (F.at rfl) Try.underlying25 rfl (xr23 _ (EM_.nil hS) 0 _ rfl)) (fun _=>eT) ?_;clear F fa;intro fa F
       rw [hma] at F
       refine F.x (i:=8) rfl (fun w'=>R_move rfl (F.at rfl)) (fun _=>eT) ?_;clear F fa;intro fa F
       have hpo:=dPoured_any t m (by omega) (by omega) (fun q hq=>by have:=HT.out.bd q hq;omega) (fun q hq=>by have:=hm2 q hq;omega) ta ma tc mca w12 (HP.out.ext E (by simp)) (HMR.out.ext EM (by simp))
       refine ax_only (i:=7) (by kernel_rfl) (op_call F rfl rfl (by decide) rfl (R_callV rfl rfl Try.call69 (mpS (F.at rfl) (mpS (F.at rfl) mp0))) (hpo) fun e w13 hR=>?_)
       obtain ⟨pa,pc,rfl,po,e9⟩:=hR
       refine ⟨_,rfl,?_⟩;clear F fa;intro fa F
       replace q4:=(e9).keep0 q4
       replace E:=ext_same E (e9)
       replace EM:=ext_same EM (e9)
       replace eT:=ext_same eT (e9)
       clear e9
       refine ⟨fun _=>eT,?_⟩
       have hpl : (addL t m x.D.length).length = x.D.length:=by simp [addL]
       have hpt : (addL t m x.D.length).length = t.length:=by rw [hpl,htl]
       rw [show pouL t m t.length = addL t m x.D.length by rw [htl];rfl] at po
       have HPO:=Lib.hid (rows_of_ivs po hpt.symm)
       obtain ⟨wP,hwP⟩ : ∃ wP,wP = w13:=⟨_,rfl⟩
       have EP : Ext [] wP w13:=by rw [hwP];exact Ext.refl _ _
       rw [← hwP] at HPO
       clear po hpo
       have hun:=dUnder_ok x HV.out ls HL.out.2.1 hl (addL t m x.D.length) hpl (addL_bdA (fun q hq=>(HT.out.bd q hq).1) (fun q hq=>(hm2 q hq).1) (by omega)) s HS.out la pa sa lc pc sc w13 (HX.out.ext E) (HQ.out.ext E (by simp)) (by rw [hpt];exact HPO.out.ext EP (by simp)) (HR.out.ext E (by simp))
       rw [hpt,show matE x (val (addL t m x.D.length)) (val s) ls = true from hu] at hun
       refine ax_only (i:=9) (by kernel_rfl) (op_call F rfl rfl (by decide) rfl (R_callV rfl rfl Try.call68 (mpS (F.at rfl) (mpS (F.at rfl) (mpS (F.at rfl) (mpS (F.at rfl) mp0))))) (hun) fun e w14 hR=>?_)
       obtain ⟨rfl,e9⟩:=hR
       refine ⟨_,rfl,?_⟩;clear F fa;intro fa F
       replace q4:=(e9).keep0 q4
       replace E:=ext_same E (e9)
       replace EM:=ext_same EM (e9)
       replace EP:=ext_same EP (e9)
       replace eT:=ext_same eT (e9)
       clear e9
       refine ⟨fun _=>eT,?_⟩
       clear hun
       refine F.x (i:=10) rfl (fun w'=>R_move rfl (F.at rfl)) (fun _=>eT) ?_;clear F fa;intro fa F
       refine F.x (i:=11) rfl (fun w'=>R_move rfl (F.at rfl)) (fun _=>eT) ?_ (hw:=(wantT F rfl rfl (by decide) rfl));clear F fa;intro fa F
       refine F.x (i:=12) rfl (fun w'=>R_lssB (b:=false) rfl (F.at rfl) (ev_c fa _) (decide_eq_false ((by omega)))) (fun _=>eT) ?_ (hw:=(wantT F rfl rfl (by decide) rfl));clear F fa;intro fa F
       refine F.x (i:=13) rfl (fun w'=>R_move rfl (F.at rfl)) (fun _=>eT) ?_ (hw:=(wantT F rfl rfl (by decide) rfl));clear F fa;intro fa F
       refine F.x (i:=14) rfl (fun w'=>R_move rfl (F.at rfl)) (fun _=>eT) ?_ (hw:=(wantT F rfl rfl (by decide) rfl));clear F fa;intro fa F
       refine F.x (i:=15) rfl (fun w'=>R_move rfl (F.at rfl)) (fun _=>eT) ?_ (hw:=(wantT F rfl rfl (by decide) rfl));clear F fa;intro fa F
       obtain ⟨xb24,xo24,xa24,xr24⟩:=HMS.out i (by omega)
       refine F.x (i:=16) rfl (fun w'=>R_ixSlice (sz:=1) rfl ((F.at rfl).trans (xa24 _ _)) (F.at rfl) Try.underlying22 (by kernel_rfl) (by omega) (by omega)) (fun _=>eT) ?_ (hw:=(wantT F rfl rfl (by decide) rfl));clear F fa;intro fa F
       refine F.xr (i:=17) rfl (fun w' hS=>R_load rfl (F.at rfl) Try.underlying25 rfl (xr24 _ (EM_.nil hS) 0 _ rfl)) (fun _=>eT) ?_ (hw:=(wantT F rfl rfl (by decide) rfl));clear F fa;intro fa F
       rw [hma] at F
       refine F.x (i:=19) rfl (fun w'=>R_move rfl (F.at rfl)) (fun _=>eT) ?_ (hw:=(wantT F rfl rfl (by decide) rfl));clear F fa;intro fa F
       refine F.x (i:=20) rfl (fun w'=>R_move rfl (F.at rfl)) (fun _=>eT) ?_ (hw:=(wantT F rfl rfl (by decide) rfl));clear F fa;intro fa F
       obtain ⟨xb25,xo25,xa25,xr25⟩:=HMS.out j (by omega)
       refine F.x (i:=21) rfl (fun w'=>R_ixSlice (sz:=1) rfl ((F.at rfl).trans (xa25 _ _)) (F.at rfl) Try.underlying22 (by kernel_rfl) (by omega) (by omega)) (fun _=>eT) ?_ (hw:=(wantT F rfl rfl (by decide) rfl));clear F fa;intro fa F
       refine F.xr (i:=22) rfl (fun w' hS=>R_load rfl (F.at rfl) Try.underlying25 rfl (xr25 _ (EM_.nil hS) 0 _ rfl)) (fun _=>eT) ?_ (hw:=(wantT F rfl rfl (by decide) rfl));clear F fa;intro fa F
       rw [hna] at F
       refine ax_only (i:=18) (by kernel_rfl) (op_call F rfl rfl (by decide) (wantT F rfl rfl (by decide) rfl) (R_callV rfl rfl Try.call67 (mpS (F.at rfl) mp0)) (dTotal_any m ma mca _ (HMR.out.ext EM (by simp)) (by omega) (fun q hq=>by have:=hm2 q hq;omega)) fun e w15 hR=>?_)
       obtain ⟨rfl,e9⟩:=hR
       refine ⟨_,rfl,?_⟩;clear F fa;intro fa F
       replace q4:=(e9).keep0 q4
       replace E:=ext_same E (e9)
       replace EM:=ext_same EM (e9)
       replace EP:=ext_same EP (e9)
       replace eT:=ext_same eT (e9)
       clear e9
       refine ⟨fun _=>eT,?_⟩
       refine ax_only (i:=23) (by kernel_rfl) (op_call F rfl rfl (by decide) (wantT F rfl rfl (by decide) rfl) (R_callV rfl rfl Try.call67 (mpS (F.at rfl) mp0)) (dTotal_any (M.getD j (.bool true,[])).2 na nca _ (HNR.out.ext EM (by simp)) (by omega) (fun q hq=>by have:=hn2 q hq;omega)) fun e w16 hR=>?_)
       obtain ⟨rfl,e9⟩:=hR
       refine ⟨_,rfl,?_⟩;clear F fa;intro fa F
       replace q4:=(e9).keep0 q4
       replace E:=ext_same E (e9)
       replace EM:=ext_same EM (e9)
       replace EP:=ext_same EP (e9)
       replace eT:=ext_same eT (e9)
       clear e9
       refine ⟨fun _=>eT,?_⟩
       refine F.x (i:=24) rfl (fun w'=>R_lss rfl (F.at rfl) (F.at rfl)) (fun _=>eT) ?_ (hw:=(wantT F rfl rfl (by decide) rfl));clear F fa;intro fa F
       refine F.x (i:=25) rfl (fun w'=>R_pickF rfl (F.at rfl) (F.at rfl)) (fun _=>eT) ?_ (hw:=(wantT F rfl rfl (by decide) rfl));clear F fa;intro fa F
       refine F.x (i:=26) rfl (fun w'=>R_pickT rfl (F.at rfl) (F.at rfl)) (fun _=>eT) ?_;clear F fa;intro fa F
       refine ax_done (by kernel_rfl) ?_ _
       clear eT q4_ E_ EM_
       refine hK21 _ _ ?_
       clear hK21
       refine cd_if F rfl (fun hc73=>?_) (fun hc73=>?_)
       ·skip
        replace hba:=best_take hil2 hba (by rw [hmk];exact hu) (.inr (by rw [hmk,hle];exact hc73))
        refine wp_region_lit ?_
        refine F.mv ?_;clear F fa;intro fa F
        refine F.as ?_;clear F fa;intro fa F
        refine wpList_nil ?_
        refine hK20 _ _ ?_
        clear hK20
        refine wp_region_lit ?_
        refine F.mv ?_;clear F fa;intro fa F
        refine F.vl (R_add rfl (F.at rfl) (ev_c fa _) (by omega) (by omega)) ?_;clear F fa;intro fa F
        refine F.as ?_;clear F fa;intro fa F
        refine wpList_nil ?_
        show _ ∧ _
        exact ⟨by omega,_,⟨_,_,rfl,E,EM,q4,hba⟩,F.sub (.c 14 rfl (.c 15 rfl (.c 1 rfl (.c 2 rfl (.c 3 rfl (.c 4 rfl (.c 13 rfl .n)))))))⟩
       ·skip
        replace hba:=best_skip hil2 hba (.inr ⟨by omega,by rw [hmk,hle];exact hc73⟩)
        refine wp_skip ?_
        refine hK20 _ _ ?_
        clear hK20
        refine wp_region_lit ?_
        refine F.mv ?_;clear F fa;intro fa F
        refine F.vl (R_add rfl (F.at rfl) (ev_c fa _) (by omega) (by omega)) ?_;clear F fa;intro fa F
        refine F.as ?_;clear F fa;intro fa F
        refine wpList_nil ?_
        show _ ∧ _
        exact ⟨by omega,_,⟨_,_,rfl,E,EM,q4,hba⟩,F.sub (.c 14 rfl (.c 15 rfl (.c 1 rfl (.c 2 rfl (.c 3 rfl (.c 4 rfl (.c 13 rfl .n)))))))⟩
     ·skip
      refine region_x (Ext [] w8) none follows fun w17 hh eh=>?_
      have q4_:=q4
      replace q4:=keep_same hh q4
      have E_:=E
      have zEw17:=E.size
      replace E:=ext_same E eh
      have EM_:=EM
      have zEMw17:=EM.size
      replace EM:=ext_same EM eh
      have eT:=eh
      clear hh eh
      refine F.xr (i:=0) rfl (fun w' hS=>R_loadBlk rfl (F.at rfl) Try.underlying24 rfl (by kernel_rfl) (hS.keep q4_ (by simp))) (fun _=>eT) ?_;clear F fa;intro fa F
      refine F.x (i:=1) rfl (fun w'=>R_move rfl (F.at rfl)) (fun _=>eT) ?_;clear F fa;intro fa F
      refine F.x (i:=2) rfl (fun w'=>R_move rfl (F.at rfl)) (fun _=>eT) ?_;clear F fa;intro fa F
      refine F.x (i:=3) rfl (fun w'=>R_move rfl (F.at rfl)) (fun _=>eT) ?_;clear F fa;intro fa F
      refine F.x (i:=4) rfl (fun w'=>R_move rfl (F.at rfl)) (fun _=>eT) ?_;clear F fa;intro fa F
      obtain ⟨xb26,xo26,xa26,xr26⟩:=HMS.out i (by omega)
      refine F.x (i:=5) rfl (fun w'=>R_ixSlice (sz:=1) rfl ((F.at rfl).trans (xa26 _ _)) (F.at rfl) Try.underlying22 (by kernel_rfl) (by omega) (by omega)) (fun _=>eT) ?_;clear F fa;intro fa F
      refine F.xr (i:=6) rfl (fun w' hS=>R_load rfl (F.at rfl) Try.underlying25 rfl (xr26 _ (EM_.nil hS) 0 _ rfl)) (fun _=>eT) ?_;clear F fa;intro fa F
      rw [hma] at F
      refine F.x (i:=8) rfl (fun w'=>R_move rfl (F.at rfl)) (fun _=>eT) ?_;clear F fa;intro fa F
      have hpo:=dPoured_any t m (by omega) (by omega) (fun q hq=>by have:=HT.out.bd q hq;omega) (fun q hq=>by have:=hm2 q hq;omega) ta ma tc mca w17 (HP.out.ext E (by simp)) (HMR.out.ext EM (by simp))
      refine ax_only (i:=7) (by kernel_rfl) (op_call F rfl rfl (by decide) rfl (R_callV rfl rfl Try.call69 (mpS (F.at rfl) (mpS (F.at rfl) mp0))) (hpo) fun e w18 hR=>?_)
      obtain ⟨pa,pc,rfl,po,e9⟩:=hR
      refine ⟨_,rfl,?_⟩;clear F fa;intro fa F
      replace q4:=(e9).keep0 q4
      replace E:=ext_same E (e9)
      replace EM:=ext_same EM (e9)
      replace eT:=ext_same eT (e9)
      clear e9
      refine ⟨fun _=>eT,?_⟩
      have hpl : (addL t m x.D.length).length = x.D.length:=by simp [addL]
      have hpt : (addL t m x.D.length).length = t.length:=by rw [hpl,htl]
      rw [show pouL t m t.length = addL t m x.D.length by rw [htl];rfl] at po
      have HPO:=Lib.hid (rows_of_ivs po hpt.symm)
      obtain ⟨wP,hwP⟩ : ∃ wP,wP = w18:=⟨_,rfl⟩
      have EP : Ext [] wP w18:=by rw [hwP];exact Ext.refl _ _
      rw [← hwP] at HPO
      clear po hpo
      have hun:=dUnder_ok x HV.out ls HL.out.2.1 hl (addL t m x.D.length) hpl (addL_bdA (fun q hq=>(HT.out.bd q hq).1) (fun q hq=>(hm2 q hq).1) (by omega)) s HS.out la pa sa lc pc sc w18 (HX.out.ext E) (HQ.out.ext E (by simp)) (by rw [hpt];exact HPO.out.ext EP (by simp)) (HR.out.ext E (by simp))
      rw [hpt,show matE x (val (addL t m x.D.length)) (val s) ls = false from Bool.eq_false_iff.2 hu] at hun
      refine ax_only (i:=9) (by kernel_rfl) (op_call F rfl rfl (by decide) rfl (R_callV rfl rfl Try.call68 (mpS (F.at rfl) (mpS (F.at rfl) (mpS (F.at rfl) (mpS (F.at rfl) mp0))))) (hun) fun e w19 hR=>?_)
      obtain ⟨rfl,e9⟩:=hR
      refine ⟨_,rfl,?_⟩;clear F fa;intro fa F
      replace q4:=(e9).keep0 q4
      replace E:=ext_same E (e9)
      replace EM:=ext_same EM (e9)
      replace EP:=ext_same EP (e9)
      replace eT:=ext_same eT (e9)
      clear e9
      refine ⟨fun _=>eT,?_⟩
      clear hun
      refine F.x (i:=10) rfl (fun w'=>R_move rfl (F.at rfl)) (fun _=>eT) ?_;clear F fa;intro fa F
      refine ax_no (i:=11) F rfl rfl (by decide) (by kernel_rfl) (fun _ _ _ h=>h) (wantF F rfl rfl (by decide) rfl (by decide)) (fun _=>eT) ?_;clear F fa;intro fa F
      refine ax_no (i:=12) F rfl rfl (by decide) (by kernel_rfl) (fun _ _ _ h=>h) (wantF F rfl rfl (by decide) rfl (by decide)) (fun _=>eT) ?_;clear F fa;intro fa F
      refine ax_no (i:=13) F rfl rfl (by decide) (by kernel_rfl) (fun _ _ _ h=>h) (wantF F rfl rfl (by decide) rfl (by decide)) (fun _=>eT) ?_;clear F fa;intro fa F
      refine ax_no (i:=14) F rfl rfl (by decide) (by kernel_rfl) (fun _ _ _ h=>h) (wantU F rfl rfl (by decide) rfl) (fun _=>eT) ?_;clear F fa;intro fa F
      refine ax_no (i:=15) F rfl rfl (by decide) (by kernel_rfl) (fun _ _ _ h=>h) (wantU F rfl rfl (by decide) rfl) (fun _=>eT) ?_;clear F fa;intro fa F
      refine ax_no (i:=16) F rfl rfl (by decide) (by kernel_rfl) (fun _ _ _ h=>h) (wantU F rfl rfl (by decide) rfl) (fun _=>eT) ?_;clear F fa;intro fa F
      refine ax_no (i:=17) F rfl rfl (by decide) (by kernel_rfl) (fun _ _ _ h=>h) (wantU F rfl rfl (by decide) rfl) (fun _=>eT) ?_;clear F fa;intro fa F
      refine ax_no (i:=18) F rfl rfl (by decide) (by kernel_rfl) (fun _ _ _ h=>h) (wantU F rfl rfl (by decide) rfl) (fun _=>eT) ?_;clear F fa;intro fa F
      refine ax_no (i:=19) F rfl rfl (by decide) (by kernel_rfl) (fun _ _ _ h=>h) (wantU F rfl rfl (by decide) rfl) (fun _=>eT) ?_;clear F fa;intro fa F
      refine ax_no (i:=20) F rfl rfl (by decide) (by kernel_rfl) (fun _ _ _ h=>h) (wantU F rfl rfl (by decide) rfl) (fun _=>eT) ?_;clear F fa;intro fa F
      refine ax_no (i:=21) F rfl rfl (by decide) (by kernel_rfl) (fun _ _ _ h=>h) (wantU F rfl rfl (by decide) rfl) (fun _=>eT) ?_;clear F fa;intro fa F
      refine ax_no (i:=22) F rfl rfl (by decide) (by kernel_rfl) (fun _ _ _ h=>h) (wantU F rfl rfl (by decide) rfl) (fun _=>eT) ?_;clear F fa;intro fa F
      refine ax_no (i:=23) F rfl rfl (by decide) (by kernel_rfl) (fun _ _ _ h=>h) (wantU F rfl rfl (by decide) rfl) (fun _=>eT) ?_;clear F fa;intro fa F
      refine ax_no (i:=24) F rfl rfl (by decide) (by kernel_rfl) (fun _ _ _ h=>h) (wantU F rfl rfl (by decide) rfl) (fun _=>eT) ?_;clear F fa;intro fa F
      refine ax_no (i:=25) F rfl rfl (by decide) (by kernel_rfl) (fun _ _ _ h=>h) (wantF F rfl rfl (by decide) rfl (by decide)) (fun _=>eT) ?_;clear F fa;intro fa F
      refine F.x (i:=26) rfl (fun w'=>R_pickF rfl (F.at rfl) (ev_c fa _)) (fun _=>eT) ?_;clear F fa;intro fa F
      refine ax_done (by kernel_rfl) ?_ _
      clear eT q4_ E_ EM_
      replace hba:=best_skip hil2 hba (.inl (by rw [hmk];exact Bool.eq_false_iff.2 hu))
      refine hK21 _ _ ?_
      clear hK21
      refine cd_F F rfl ?_
      refine wp_skip ?_
      refine hK20 _ _ ?_
      clear hK20
      refine wp_region_lit ?_
      refine F.mv ?_;clear F fa;intro fa F
      refine F.vl (R_add rfl (F.at rfl) (ev_c fa _) (by omega) (by omega)) ?_;clear F fa;intro fa F
      refine F.as ?_;clear F fa;intro fa F
      refine wpList_nil ?_
      show _ ∧ _
      exact ⟨by omega,_,⟨_,_,rfl,E,EM,q4,hba⟩,F.sub (.c 14 rfl (.c 15 rfl (.c 1 rfl (.c 2 rfl (.c 3 rfl (.c 4 rfl (.c 13 rfl .n)))))))⟩
    ·skip
     refine wp_exit ?_
     have hbe:=best_end (by rw [List.length_map];omega) hba
     rw [hM,cor_lawA HV.out.d4 HT.out] at hbe
     refine hK16 _ _ ?_
     clear hK16
     refine wp_seq_k fun K27 hK27=>?_
     refine wp_seq_k fun K28 hK28=>?_
     refine wp_region_lit ?_
     refine F.mv ?_;clear F fa;intro fa F
     refine F.vl (R_lss rfl (F.at rfl) (ev_c fa _)) ?_;clear F fa;intro fa F
     refine wpList_nil ?_
     refine hK28 _ _ ?_
     clear hK28
     refine cd_if F rfl (fun hc76=>?_) (fun hc76=>?_)
     ·skip
      have hge : corR x t (val s) ls = ([],11):=by rw [corR];rcases hbe with ⟨h1,-⟩ | ⟨j,-,h2,-⟩;(· rw [Option.map_eq_none_iff.1 h1]);(· omega)
      refine wp_seq_k fun K29 hK29=>?_
      refine wp_region_lit ?_
      refine F.vl (R_assign rfl (ev_c fa _)) ?_;clear F fa;intro fa F
      refine F.vl (R_assign rfl (ev_c fa _)) ?_;clear F fa;intro fa F
      refine wpList_nil ?_
      refine hK29 _ _ ?_
      clear hK29
      refine wp_ret ?_
      (try simp only [Exit.inBlock,Exit.then,reduceIte])
      refine rt_v F (rs_2 F rfl rfl rfl) ?_
      exact ⟨none,0,by rw [corV_ok hc0,hge];rfl,by rw [corV_ok hc0,hge];exact rows_nilI _,E⟩
     ·skip
      obtain ⟨j,hj,hbj,hge⟩ : ∃ j : Nat,j < M.length ∧ best = j ∧ corR x t (val s) ls = ((allL x.D.length (6 - t.sum.toNat)).getD j [],0):=by rcases hbe with ⟨-,h2⟩ | ⟨j,h1,h2,h3⟩;(· omega);(· obtain ⟨q,hq1,hq2⟩:=Option.map_eq_some_iff.1 h3;exact ⟨j,by omega,h2,by rw [corR,hq1];exact congrArg (fun z=>(z,(0 : Int))) hq2⟩)
      rw [← hM,key_getD M hj] at hge
      subst hbj
      refine wp_skip ?_
      refine hK27 _ _ ?_
      clear hK27
      refine wp_seq_k fun K30 hK30=>?_
      obtain ⟨ma,mca,hma,hmr⟩:=HML.out.2 _ (getD_mem (.bool true,[]) hj)
      refine wp_region_lit ?_
      refine F.mv ?_;clear F fa;intro fa F
      refine F.mv ?_;clear F fa;intro fa F
      obtain ⟨xb31,xo31,xa31,xr31⟩:=HMS.out j (by omega)
      refine F.vl (R_ixSlice (sz:=1) rfl ((F.at rfl).trans (xa31 _ _)) (F.at rfl) Try.underlying22 (by kernel_rfl) (by omega) (by omega)) ?_;clear F fa;intro fa F
      refine F.vl (R_load rfl (F.at rfl) Try.underlying25 rfl (xr31 _ EM 0 _ rfl)) ?_;clear F fa;intro fa F
      rw [hma] at F
      refine F.as ?_;clear F fa;intro fa F
      refine F.vl (R_assign rfl (ev_c fa _)) ?_;clear F fa;intro fa F
      refine wpList_nil ?_
      refine hK30 _ _ ?_
      clear hK30
      refine wp_ret ?_
      (try simp only [Exit.inBlock,Exit.then,reduceIte])
      refine rt_v F (rs_2 F rfl rfl rfl) ?_
      exact ⟨ma,mca,by rw [corV_ok hc0,hge],by rw [corV_ok hc0,hge];exact hmr.ext EM (by simp),E⟩
end Go.Proofs.Ytdjeecgddbjbeaa
