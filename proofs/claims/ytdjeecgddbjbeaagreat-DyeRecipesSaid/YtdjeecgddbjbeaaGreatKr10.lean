/- Parts of a proof: Dis, Dsh, Dsd, Dvv, Dxo, Ddy. No conditions. -/
import Derived.Test.YtdjeecgddbjbeaaGreatKr6
import Derived.Test.YtdjeecgddbjbeaaGreatKr9
set_option linter.unusedVariables false
set_option linter.unusedSimpArgs false
namespace Go.Proofs.YtdjeecgddbjbeaaGreat
open Go.RowKit
section
variable (c : Int → Int → Int)
def swp (l : List Int) (j : Nat) : List Int:=(l.set (j + 1) (l.getD j 0)).set j (l.getD (j + 1) 0)
def bubL : List Int → Nat → List Int
 | l,0=>l
 | l,j + 1=>if c (l.getD (j + 1) 0) (l.getD j 0) < 0 then bubL (swp l j) j else l
def srtK (l : List Int) : Nat → List Int
 | 0=>l
 | k + 1=>bubL c (srtK l k) (k + 1)
def srtL (l : List Int) : List Int:=srtK c l (l.length - 1)
theorem swp_len (l : List Int) (j : Nat) : (swp l j).length = l.length:=by simp [swp]
theorem swp_mem {l : List Int} {j : Nat} (h : j + 1 < l.length) {p : Int → Prop} (hp : ∀ n ∈ l,p n) : ∀ n ∈ swp l j,p n:=by
 intro n hn
 rcases List.mem_or_eq_of_mem_set hn with hn | rfl
 ·rcases List.mem_or_eq_of_mem_set hn with hn | rfl
  ·exact hp n hn
  ·exact hp _ (getD_mem 0 (by omega))
 ·exact hp _ (getD_mem 0 h)
theorem bub_len : ∀ (j : Nat) (l : List Int),(bubL c l j).length = l.length
 | 0,_=>rfl
 | j + 1,l=>by
  rw [bubL]
  split
  ·rw [bub_len j,swp_len]
  ·rfl
theorem bub_mem {p : Int → Prop} : ∀ (j : Nat) (l : List Int),j < l.length → (∀ n ∈ l,p n) → ∀ n ∈ bubL c l j,p n
 | 0,_,_,h=>h
 | j + 1,l,hj,h=>by
  rw [bubL]
  split
  ·exact bub_mem j _ (by rw [swp_len];omega) (swp_mem hj h)
  ·exact h
theorem srt_len (l : List Int) : ∀ k,(srtK c l k).length = l.length
 | 0=>rfl
 | k + 1=>by rw [srtK,bub_len,srt_len l k]
theorem srt_mem {p : Int → Prop} (l : List Int) (h : ∀ n ∈ l,p n) : ∀ k,k < l.length → ∀ n ∈ srtK c l k,p n
 | 0,_=>h
 | k + 1,hk=>by rw [srtK];exact bub_mem c _ _ (by rw [srt_len];exact hk) (srt_mem l h k (by omega))
theorem bub_stop {l : List Int} {j : Nat} (h : ¬ c (l.getD (j + 1) 0) (l.getD j 0) < 0) : bubL c l (j + 1) = l:=by rw [bubL,if_neg h]
theorem bub_go {l : List Int} {j : Nat} (h : c (l.getD (j + 1) 0) (l.getD j 0) < 0) : bubL c l (j + 1) = bubL c (swp l j) j:=by rw [bubL,if_pos h]
end
set_option maxRecDepth 100000 in
set_option maxHeartbeats 2000000 in
theorem isort_any (f : FuncId) (cs : Array Value) (c : Int → Int → Int) (p : Int → Prop) (base r n : Nat) (a : Option Addr) (ca : Nat) (l : List Int) (w : World) (hn : l.length = n) (h1 : n ≤ 1000) (hp : ∀ m ∈ l,p m) (ho : w.ownsRow base 3 1 (.slice a n ca) n (ivs l)) (hr : ∀ b,(Value.slice a n ca).ownBlock = some b → b = r)
  (hf : ∀ args w,(callFunc f args).run Tryz.prog w = .ok (.enter f args) w) (hc : ∀ W,Ext [r] w W → ∀ m k,p m → p k → Calls Tryz.prog f (#[] ++ [Value.int .i64 m,Value.int .i64 k].toArray ++ cs) W fun e W'=>e = .returned (.int .i64 (c m k)) ∧ Ext [] W W') :
  Calls Tryz.prog 98 #[.slice a n ca,.int .i64 0,.int .i64 ((n : Nat) : Int),.func (.func f) #[] cs] w fun e w'=>e = .returned (.tuple #[]) ∧ w'.ownsRow base 3 1 (.slice a n ca) n (ivs (srtL c l)) ∧ Ext [r] w w':=by
 have E : Ext [r] w w:=Ext.refl _ _
 have HC:=Lib.hid hc
 have HF:=Lib.hid hf
 have HP:=Lib.hid hp
 have HR:=Lib.hid hr
 replace ho : w.ownsRow base 3 1 (.slice a n ca) n (ivs (srtK c l 0)):=ho
 clear hc hf hp hr
 refine calls_has 53 Tryz.func98 rfl Tryz.ntmps98 (Nat.le_of_ble_eq_true rfl) ?_
 intro fa F
 refine wp_seq_k fun K1 hK1=>?_
 refine wp_region_lit ?_
 refine F.mv ?_;clear F fa;intro fa F
 refine F.vl (R_add rfl (F.at rfl) (ev_c fa _) (by omega) (by omega)) ?_;clear F fa;intro fa F
 rw [show (0 : Int) + 1 = ((0 + 1 : Nat) : Int) from rfl] at F
 refine F.as ?_;clear F fa;intro fa F
 refine wpList_nil ?_
 refine hK1 _ _ ?_
 clear hK1
 refine wp_block ?_
 have F0:=F.sub (.c 0 rfl (.c 1 rfl (.c 2 rfl (.c 3 rfl .n))))
 refine lp_for F0 (n) (fun i Lv W=>Lv = [(8,.int .i64 ((i + 1 : Nat) : Int))] ∧ Ext [r] w W ∧ W.ownsRow base 3 1 (.slice a n ca) n (ivs (srtK c l i)) ∧ (i < n ∨ (i = 0 ∧ n = 0))) ⟨_,⟨rfl,E,ho,(by omega)⟩,F.sub (.c 8 rfl (.c 0 rfl (.c 1 rfl (.c 2 rfl (.c 3 rfl .n)))))⟩ ?_
 clear F F0
 clear E
 clear ho
 rintro i _ fa w1 hi1 ⟨rfl,E,ho,hin⟩ F
 refine wp_seq_k fun K2 hK2=>?_
 refine wp_seq_k fun K3 hK3=>?_
 refine wp_region_lit ?_
 refine F.mv ?_;clear F fa;intro fa F
 refine F.mv ?_;clear F fa;intro fa F
 refine F.vl (R_lss rfl (F.at rfl) (F.at rfl)) ?_;clear F fa;intro fa F
 refine wpList_nil ?_
 refine hK3 _ _ ?_
 clear hK3
 refine cd_if F rfl (fun hc14=>?_) (fun hc14=>?_)
 ·skip
  refine wp_skip ?_
  refine hK2 _ _ ?_
  clear hK2
  refine wp_seq_k fun K4 hK4=>?_
  refine wp_block ?_
  refine wp_seq_k fun K5 hK5=>?_
  refine wp_region_lit ?_
  refine F.mv ?_;clear F fa;intro fa F
  refine F.as ?_;clear F fa;intro fa F
  refine wpList_nil ?_
  refine hK5 _ _ ?_
  clear hK5
  refine wp_block ?_
  have F0:=F.sub (.c 0 rfl (.c 1 rfl (.c 2 rfl (.c 3 rfl (.c 8 rfl .n)))))
  refine lp_for F0 (i + 1) (fun k Lv W=>∃ j : Nat,∃ l2 : List Int,Lv = [(9,.int .i64 ((j : Nat) : Int))] ∧ Ext [r] w W ∧ W.ownsRow base 3 1 (.slice a n ca) n (ivs l2) ∧ j + k = i + 1 ∧ l2.length = n ∧ bubL c l2 j = srtK c l (i + 1) ∧ ∀ m ∈ l2,p m) ⟨_,⟨_,_,rfl,E,ho,(by omega),(by rw [srt_len];exact hn),rfl,(srt_mem c l HP.out i (by omega))⟩,F.sub (.c 9 rfl (.c 0 rfl (.c 1 rfl (.c 2 rfl (.c 3 rfl (.c 8 rfl .n))))))⟩ ?_
  clear F F0
  clear E
  clear ho
  rintro k _ fa w2 hi2 ⟨j,l2,rfl,E,ho,hjk,hl2,hb2,hm2⟩ F
  refine wp_seq_k fun K6 hK6=>?_
  refine wp_seq_k fun K7 hK7=>?_
  by_cases hj0 : j = 0
  ·skip
   subst hj0
   refine wp_region_st 14 follows (by kernel_rfl) fun w3 hh eh=>?_
   replace E:=ext_same E eh
   replace ho:=owns_same hh ho
   clear hh eh
   refine F.smv ?_;clear F fa;intro fa F
   refine F.smv ?_;clear F fa;intro fa F
   refine F.sv (R_gtrB (b:=false) rfl (F.at rfl) (F.at rfl) (decide_eq_false (by omega))) ?_;clear F fa;intro fa F
   refine F.smv ?_;clear F fa;intro fa F
   refine st_no F rfl (by decide) (wantF F rfl rfl (by decide) rfl (by decide)) ?_;clear F fa;intro fa F
   refine st_no F rfl (by decide) (wantF F rfl rfl (by decide) rfl (by decide)) ?_;clear F fa;intro fa F
   refine st_no F rfl (by decide) (wantF F rfl rfl (by decide) rfl (by decide)) ?_;clear F fa;intro fa F
   refine st_no F rfl (by decide) (wantF F rfl rfl (by decide) rfl (by decide)) ?_;clear F fa;intro fa F
   refine st_no F rfl (by decide) (wantF F rfl rfl (by decide) rfl (by decide)) ?_;clear F fa;intro fa F
   refine st_no F rfl (by decide) (wantF F rfl rfl (by decide) rfl (by decide)) ?_;clear F fa;intro fa F
   refine st_no F rfl (by decide) (wantF F rfl rfl (by decide) rfl (by decide)) ?_;clear F fa;intro fa F
   refine st_no F rfl (by decide) (wantF F rfl rfl (by decide) rfl (by decide)) ?_;clear F fa;intro fa F
   refine st_no F rfl (by decide) (wantF F rfl rfl (by decide) rfl (by decide)) ?_;clear F fa;intro fa F
   refine st_no F rfl (by decide) (wantF F rfl rfl (by decide) rfl (by decide)) ?_;clear F fa;intro fa F
   refine wpStill_nil ?_
   refine sq_no F rfl (by decide) (wantF F rfl rfl (by decide) rfl (by decide)) ?_;clear F fa;intro fa F
   refine sq_no F rfl (by decide) (wantF F rfl rfl (by decide) rfl (by decide)) ?_;clear F fa;intro fa F
   refine F.vl (R_pickF rfl (F.at rfl) (ev_c fa _)) ?_;clear F fa;intro fa F
   refine wpList_nil ?_
   rw [show l2 = srtK c l (i + 1) from hb2] at ho
   refine hK7 _ _ ?_
   clear hK7
   refine cd_F F rfl ?_
   refine wp_exit ?_
   refine hK4 _ _ ?_
   clear hK4
   refine wp_region_lit ?_
   refine F.mv ?_;clear F fa;intro fa F
   refine F.vl (R_add rfl (F.at rfl) (ev_c fa _) (by omega) (by omega)) ?_;clear F fa;intro fa F
   rw [show ((i + 1 : Nat) : Int) + 1 = ((i + 1 + 1 : Nat) : Int) from rfl] at F
   refine F.as ?_;clear F fa;intro fa F
   refine wpList_nil ?_
   show _ ∧ _
   exact ⟨by omega,_,⟨rfl,E,ho,(by omega)⟩,F.sub (.c 8 rfl (.c 0 rfl (.c 1 rfl (.c 2 rfl (.c 3 rfl .n)))))⟩
  ·skip
   obtain ⟨j,rfl⟩ : ∃ j',j = j' + 1:=⟨j - 1,by omega⟩
   have EX : Ext [] w2 w2:=Ext.refl _ _
   have HS:=Lib.hid (slAt_of_ivs ho hl2.symm [] (by simp))
   refine wp_region_st 14 follows (by kernel_rfl) fun w4 hh eh=>?_
   replace E:=ext_same E eh
   replace EX:=ext_same EX eh
   replace ho:=owns_same hh ho
   clear hh eh
   refine F.smv ?_;clear F fa;intro fa F
   refine F.smv ?_;clear F fa;intro fa F
   refine F.sv (R_gtrB (b:=true) rfl (F.at rfl) (F.at rfl) (decide_eq_true (by omega))) ?_;clear F fa;intro fa F
   refine F.smv ?_;clear F fa;intro fa F
   refine F.smv ?_ (hw:=(wantT F rfl rfl (by decide) rfl));clear F fa;intro fa F
   refine F.smv ?_ (hw:=(wantT F rfl rfl (by decide) rfl));clear F fa;intro fa F
   refine F.smv ?_ (hw:=(wantT F rfl rfl (by decide) rfl));clear F fa;intro fa F
   obtain ⟨xb8,xo8,xa8,xr8⟩:=HS.out (j + 1) (by omega)
   refine F.sv (R_ixSlice (sz:=1) rfl ((F.at rfl).trans (xa8 _ _)) (F.at rfl) Tryz.underlying25 (by kernel_rfl) (by omega) (by omega)) ?_ (hw:=(wantT F rfl rfl (by decide) rfl));clear F fa;intro fa F
   refine F.sv (R_load rfl (F.at rfl) Tryz.underlying3 rfl (xr8 _ EX 0 _ rfl)) ?_ (hw:=(wantT F rfl rfl (by decide) rfl));clear F fa;intro fa F
   refine F.smv ?_ (hw:=(wantT F rfl rfl (by decide) rfl));clear F fa;intro fa F
   refine F.smv ?_ (hw:=(wantT F rfl rfl (by decide) rfl));clear F fa;intro fa F
   refine F.sv (R_sub rfl (F.at rfl) (ev_c fa _) (by omega) (by omega)) ?_ (hw:=(wantT F rfl rfl (by decide) rfl));clear F fa;intro fa F
   rw [show ((j + 1 : Nat) : Int) - 1 = ((j : Nat) : Int) by omega] at F
   obtain ⟨xb9,xo9,xa9,xr9⟩:=HS.out j (by omega)
   refine F.sv (R_ixSlice (sz:=1) rfl ((F.at rfl).trans (xa9 _ _)) (F.at rfl) Tryz.underlying25 (by kernel_rfl) (by omega) (by omega)) ?_ (hw:=(wantT F rfl rfl (by decide) rfl));clear F fa;intro fa F
   refine F.sv (R_load rfl (F.at rfl) Tryz.underlying3 rfl (xr9 _ EX 0 _ rfl)) ?_ (hw:=(wantT F rfl rfl (by decide) rfl));clear F fa;intro fa F
   refine wpStill_nil ?_
   refine sq_call F rfl (by decide) (wantT F rfl rfl (by decide) rfl) (R_callF rfl (F.at rfl) HF.out (mpS (F.at rfl) (mpS (F.at rfl) mp0)) rfl) (HC.out _ E (l2.getD (j + 1) 0) (l2.getD j 0) (hm2 _ (getD_mem 0 (by omega))) (hm2 _ (getD_mem 0 (by omega)))) fun e w5 hR=>?_
   obtain ⟨rfl,e9⟩:=hR
   refine ⟨_,rfl,?_⟩;clear F fa;intro fa F
   replace ho:=owns_ext ho (e9) (by simp)
   replace E:=ext_same E (e9)
   replace EX:=ext_same EX (e9)
   clear e9
   refine F.vl (R_lss rfl (F.at rfl) (ev_c fa _)) ?_ (hw:=(wantT F rfl rfl (by decide) rfl));clear F fa;intro fa F
   refine F.vl (R_pickT rfl (F.at rfl) (F.at rfl)) ?_;clear F fa;intro fa F
   refine wpList_nil ?_
   refine hK7 _ _ ?_
   clear hK7
   refine cd_if F rfl (fun hc34=>?_) (fun hc34=>?_)
   ·skip
    refine wp_skip ?_
    refine hK6 _ _ ?_
    clear hK6
    refine wp_seq_k fun K10 hK10=>?_
    refine wp_block ?_
    have EX : Ext [] w5 w5:=Ext.refl _ _
    have HS:=Lib.hid (slAt_of_ivs ho hl2.symm [] (by simp))
    have hil:=ivs_lenZ l2
    refine region_x (Ext [] w5) (some 15) follows fun w6 hh eh=>?_
    have E_:=E
    have zEw6:=E.size
    replace E:=ext_same E eh
    have EX_:=EX
    have zEXw6:=EX.size
    replace EX:=ext_same EX eh
    replace ho:=owns_same hh ho
    have eT:=eh
    clear hh eh
    refine F.x (i:=0) rfl (fun w'=>R_move rfl (F.at rfl)) (fun _=>eT) ?_;clear F fa;intro fa F
    refine F.x (i:=1) rfl (fun w'=>R_move rfl (F.at rfl)) (fun _=>eT) ?_;clear F fa;intro fa F
    refine F.x (i:=2) rfl (fun w'=>R_move rfl (F.at rfl)) (fun _=>eT) ?_;clear F fa;intro fa F
    refine F.x (i:=3) rfl (fun w'=>R_move rfl (F.at rfl)) (fun _=>eT) ?_;clear F fa;intro fa F
    refine F.x (i:=4) rfl (fun w'=>R_sub rfl (F.at rfl) (ev_c fa _) (by omega) (by omega)) (fun _=>eT) ?_;clear F fa;intro fa F
    rw [show ((j + 1 : Nat) : Int) - 1 = ((j : Nat) : Int) by omega] at F
    refine F.x (i:=5) rfl (fun w'=>R_move rfl (F.at rfl)) (fun _=>eT) ?_;clear F fa;intro fa F
    refine F.x (i:=6) rfl (fun w'=>R_move rfl (F.at rfl)) (fun _=>eT) ?_;clear F fa;intro fa F
    refine F.x (i:=7) rfl (fun w'=>R_sub rfl (F.at rfl) (ev_c fa _) (by omega) (by omega)) (fun _=>eT) ?_;clear F fa;intro fa F
    rw [show ((j + 1 : Nat) : Int) - 1 = ((j : Nat) : Int) by omega] at F
    obtain ⟨xb11,xo11,xa11,xr11⟩:=HS.out j (by omega)
    refine F.x (i:=8) rfl (fun w'=>R_ixSlice (sz:=1) rfl ((F.at rfl).trans (xa11 _ _)) (F.at rfl) Tryz.underlying25 (by kernel_rfl) (by omega) (by omega)) (fun _=>eT) ?_;clear F fa;intro fa F
    refine F.xr (i:=9) rfl (fun w' hS=>R_load rfl (F.at rfl) Tryz.underlying3 rfl (xr11 _ (EX_.nil hS) 0 _ rfl)) (fun _=>eT) ?_;clear F fa;intro fa F
    refine F.x (i:=10) rfl (fun w'=>R_move rfl (F.at rfl)) (fun _=>eT) ?_;clear F fa;intro fa F
    refine F.x (i:=11) rfl (fun w'=>R_move rfl (F.at rfl)) (fun _=>eT) ?_;clear F fa;intro fa F
    obtain ⟨xb12,xo12,xa12,xr12⟩:=HS.out (j + 1) (by omega)
    refine F.x (i:=12) rfl (fun w'=>R_ixSlice (sz:=1) rfl ((F.at rfl).trans (xa12 _ _)) (F.at rfl) Tryz.underlying25 (by kernel_rfl) (by omega) (by omega)) (fun _=>eT) ?_;clear F fa;intro fa F
    refine F.xr (i:=13) rfl (fun w' hS=>R_load rfl (F.at rfl) Tryz.underlying3 rfl (xr12 _ (EX_.nil hS) 0 _ rfl)) (fun _=>eT) ?_;clear F fa;intro fa F
    obtain ⟨xb13,xo13,xa13,xr13⟩:=HS.out (j + 1) (by omega)
    refine F.x (i:=14) rfl (fun w'=>R_ixSlice (sz:=1) rfl ((F.at rfl).trans (xa13 _ _)) (F.at rfl) Tryz.underlying25 (by kernel_rfl) (by omega) (by omega)) (fun _=>eT) ?_;clear F fa;intro fa F
    obtain ⟨⟨u0,hcu⟩,hfu,hst⟩:=owns_at ho xa13 (j:=(j + 1)) (p:=xo13 + ((j + 1 : Nat) : Int).toNat * 1) (by first | omega | (simp;omega)) (by omega)
    refine ax_only (i:=15) (by kernel_rfl) (op_to rfl rfl rfl (R_store rfl (F.at rfl) (F.at rfl) rfl (by kernel_rfl) hcu hfu) ?_);intro w7 hw
    obtain ⟨hown',hg⟩:=hst _ _ hw
    clear hst hcu hfu hw
    replace E:=ext_grownX E hg (fun b hb hl=>by rw [HR.out b hb];simp)
    replace ho:=hown'
    clear hg
    refine ⟨gone (by kernel_rfl),?_⟩
    rw [ivs_setZ] at ho
    have hil2:=ivs_lenZ (l2.set (j + 1) (l2.getD j 0))
    rw [List.length_set] at hil2
    obtain ⟨xb14,xo14,xa14,xr14⟩:=HS.out j (by omega)
    refine F.x (i:=16) rfl (fun w'=>R_ixSlice (sz:=1) rfl ((F.at rfl).trans (xa14 _ _)) (F.at rfl) Tryz.underlying25 (by kernel_rfl) (by omega) (by omega)) (gone (by kernel_rfl)) ?_;clear F fa;intro fa F
    obtain ⟨⟨u0,hcu⟩,hfu,hst⟩:=owns_at ho xa14 (j:=j) (p:=xo14 + ((j : Nat) : Int).toNat * 1) (by first | omega | (simp;omega)) (by omega)
    refine ax_only (i:=17) (by kernel_rfl) (op_to rfl rfl rfl (R_store rfl (F.at rfl) (F.at rfl) rfl (by kernel_rfl) hcu hfu) ?_);intro w8 hw
    obtain ⟨hown',hg⟩:=hst _ _ hw
    clear hst hcu hfu hw
    replace E:=ext_grownX E hg (fun b hb hl=>by rw [HR.out b hb];simp)
    replace ho:=hown'
    clear hg
    refine ⟨gone (by kernel_rfl),?_⟩
    rw [ivs_setZ] at ho
    replace ho : w8.ownsRow base 3 1 (.slice a n ca) n (ivs (swp l2 j)):=ho
    refine ax_done (by kernel_rfl) ?_ _
    clear eT E_ EX_
    refine hK10 _ _ ?_
    clear hK10
    refine wp_region_lit ?_
    refine F.mv ?_;clear F fa;intro fa F
    refine F.vl (R_sub rfl (F.at rfl) (ev_c fa _) (by omega) (by omega)) ?_;clear F fa;intro fa F
    rw [show ((j + 1 : Nat) : Int) - 1 = ((j : Nat) : Int) by omega] at F
    refine F.as ?_;clear F fa;intro fa F
    refine wpList_nil ?_
    show _ ∧ _
    exact ⟨by omega,_,⟨_,_,rfl,E,ho,(by omega),(by rw [swp_len];exact hl2),((bub_go c hc34).symm.trans hb2),(swp_mem (by omega) hm2)⟩,F.sub (.c 9 rfl (.c 0 rfl (.c 1 rfl (.c 2 rfl (.c 3 rfl (.c 8 rfl .n))))))⟩
   ·skip
    rw [show l2 = srtK c l (i + 1) from (bub_stop c hc34).symm.trans hb2] at ho
    refine wp_exit ?_
    refine hK4 _ _ ?_
    clear hK4
    refine wp_region_lit ?_
    refine F.mv ?_;clear F fa;intro fa F
    refine F.vl (R_add rfl (F.at rfl) (ev_c fa _) (by omega) (by omega)) ?_;clear F fa;intro fa F
    rw [show ((i + 1 : Nat) : Int) + 1 = ((i + 1 + 1 : Nat) : Int) from rfl] at F
    refine F.as ?_;clear F fa;intro fa F
    refine wpList_nil ?_
    show _ ∧ _
    exact ⟨by omega,_,⟨rfl,E,ho,(by omega)⟩,F.sub (.c 8 rfl (.c 0 rfl (.c 1 rfl (.c 2 rfl (.c 3 rfl .n)))))⟩
 ·skip
  refine wp_exit ?_
  rw [show i = l.length - 1 by omega] at ho
  (try simp only [Exit.inBlock,Exit.then,reduceIte])
  refine rt_vn F (rs_0 rfl) ?_
  exact ⟨rfl,ho,E⟩
theorem slAt_extX {X : List Nat} {w W : World} {a : Option Addr} {sz n : Nat} {row : Nat → List Value} (h : SlAt [] w a sz n row) (e : Ext X w W) (hX : ∀ b ∈ X,w.heap.size ≤ b) : SlAt [] W a sz n row:=fun i hi=>by
 obtain ⟨b,off,h1,h2⟩:=h i hi
 refine ⟨b,off,h1,fun V e2 j v hv=>?_⟩
 have h3:=h2 w (Ext.refl _ _) j v hv
 have hb : b < w.heap.size:=by
  apply Classical.byContradiction
  intro hn
  rw [World.cell?] at h3
  simp [Array.getElem?_eq_none (show w.heap.size ≤ b by omega)] at h3
 rw [(e.nil e2).cell (a:=⟨b,off + i * sz + j,none⟩) hb (fun hm=>by have:=hX b hm;omega)]
 exact h3
theorem RowOf.extX {X : List Nat} {w w' : World} {v : Value} {xs : List Int} (h : RowOf w v xs) (e : Ext X w w') (hX : ∀ b ∈ X,w.heap.size ≤ b) : RowOf w' v xs:=by
 obtain ⟨a,c,h1,h2⟩:=h
 exact ⟨a,c,h1,h2.ext e hX⟩
theorem Vm.At.extX {X : List Nat} {x : Vm} {w W : World} (h : x.At w) (e : Ext X w W) (hX : ∀ b ∈ X,w.heap.size ≤ b) : x.At W:=
 ⟨⟨slAt_extX h.d.1 e hX,fun p hp=>(h.d.2 p hp).extX e hX⟩,⟨slAt_extX h.l.1 e hX,fun p hp=>(h.l.2 p hp).extX e hX⟩⟩
set_option maxRecDepth 100000 in
theorem stable_any (f : FuncId) (cs : Array Value) (c : Int → Int → Int) (p : Int → Prop) (base r n : Nat) (a : Option Addr) (ca : Nat) (l : List Int) (w : World) (hn : l.length = n) (h1 : n < 20) (hp : ∀ m ∈ l,p m) (ho : w.ownsRow base 3 1 (.slice a n ca) n (ivs l)) (hr : ∀ b,(Value.slice a n ca).ownBlock = some b → b = r)
  (hf : ∀ args w,(callFunc f args).run Tryz.prog w = .ok (.enter f args) w) (hc : ∀ W,Ext [r] w W → ∀ m k,p m → p k → Calls Tryz.prog f (#[] ++ [Value.int .i64 m,Value.int .i64 k].toArray ++ cs) W fun e W'=>e = .returned (.int .i64 (c m k)) ∧ Ext [] W W') :
  Calls Tryz.prog 88 #[.slice a n ca,.int .i64 ((n : Nat) : Int),.func (.func f) #[] cs] w fun e w'=>e = .returned (.tuple #[]) ∧ w'.ownsRow base 3 1 (.slice a n ca) n (ivs (srtL c l)) ∧ Ext [r] w w':=by
 have E : Ext [r] w w:=Ext.refl _ _
 have HC:=Lib.hid hc
 have HF:=Lib.hid hf
 have HP:=Lib.hid hp
 have HR:=Lib.hid hr
 clear hc hf hp hr
 refine calls_has 63 Tryz.func88 rfl Tryz.ntmps88 (Nat.le_of_ble_eq_true rfl) ?_
 intro fa F
 refine wp_seq_k fun K1 hK1=>?_
 refine wp_region_lit ?_
 refine F.vl (R_assign rfl (ev_c fa _)) ?_;clear F fa;intro fa F
 refine wpList_nil ?_
 refine hK1 _ _ ?_
 clear hK1
 refine wp_seq_k fun K2 hK2=>?_
 refine wp_region_lit ?_
 refine F.mv ?_;clear F fa;intro fa F
 refine F.vl (R_assign rfl (ev_c fa _)) ?_;clear F fa;intro fa F
 refine F.as ?_;clear F fa;intro fa F
 refine wpList_nil ?_
 refine hK2 _ _ ?_
 clear hK2
 refine wp_seq_k fun K3 hK3=>?_
 refine wp_block ?_
 have F0:=F.sub (.c 0 rfl (.c 1 rfl (.c 2 rfl (.c 6 rfl .n))))
 refine lp_for F0 (0) (fun i Lv W=>Lv = [(7,.int .i64 0),(8,.int .i64 20)] ∧ Ext [r] w W ∧ W.ownsRow base 3 1 (.slice a n ca) n (ivs l)) ⟨_,⟨rfl,E,ho⟩,F.sub (.c 7 rfl (.c 8 rfl (.c 0 rfl (.c 1 rfl (.c 2 rfl (.c 6 rfl .n))))))⟩ ?_
 clear F F0
 clear E ho
 rintro i _ fa w1 hi1 ⟨rfl,E,ho⟩ F
 refine wp_seq_k fun K4 hK4=>?_
 refine wp_seq_k fun K5 hK5=>?_
 refine wp_region_lit ?_
 refine F.mv ?_;clear F fa;intro fa F
 refine F.mv ?_;clear F fa;intro fa F
 refine F.vl (R_leq rfl (F.at rfl) (F.at rfl)) ?_;clear F fa;intro fa F
 refine wpList_nil ?_
 refine hK5 _ _ ?_
 clear hK5
 refine cd_Fb F rfl (decide_eq_false (by omega)) ?_
 refine wp_exit ?_
 refine hK3 _ _ ?_
 clear hK3
 refine wp_seq_k fun K6 hK6=>?_
 refine wp_region_lit ?_
 refine F.mv ?_;clear F fa;intro fa F
 refine F.mv ?_;clear F fa;intro fa F
 refine F.mv ?_;clear F fa;intro fa F
 refine F.mv ?_;clear F fa;intro fa F
 refine sq_call F rfl (by decide) rfl (R_callV rfl rfl Tryz.call98 (mpS (F.at rfl) (mpS (F.at rfl) (mpS (F.at rfl) (mpS (F.at rfl) mp0))))) (isort_any f cs c p base r n a ca l _ hn (by omega) HP.out ho HR.out HF.out (fun W e=>HC.out W (E.trans e))) fun e w2 hR=>?_
 obtain ⟨rfl,ho2,e9⟩:=hR
 refine ⟨_,rfl,?_⟩;clear F fa;intro fa F
 replace E:=E.trans' e9 (fun i hi hl=>by simp only [List.mem_cons,List.not_mem_nil,or_false] at hi ⊢;omega)
 replace ho:=ho2
 clear ho2 e9
 refine wpList_nil ?_
 refine hK6 _ _ ?_
 clear hK6
 refine wp_block ?_
 have F0:=F.sub (.c 0 rfl (.c 1 rfl (.c 2 rfl .n)))
 refine lp_for F0 (0) (fun i Lv W=>Lv = [(6,.int .i64 20)] ∧ Ext [r] w W ∧ W.ownsRow base 3 1 (.slice a n ca) n (ivs (srtL c l))) ⟨_,⟨rfl,E,ho⟩,F.sub (.c 6 rfl (.c 0 rfl (.c 1 rfl (.c 2 rfl .n))))⟩ ?_
 clear F F0
 clear E ho
 rintro i _ fa w3 hi2 ⟨rfl,E,ho⟩ F
 refine wp_seq_k fun K7 hK7=>?_
 refine wp_seq_k fun K8 hK8=>?_
 refine wp_region_lit ?_
 refine F.mv ?_;clear F fa;intro fa F
 refine F.mv ?_;clear F fa;intro fa F
 refine F.vl (R_lss rfl (F.at rfl) (F.at rfl)) ?_;clear F fa;intro fa F
 refine wpList_nil ?_
 refine hK8 _ _ ?_
 clear hK8
 refine cd_Fb F rfl (decide_eq_false (by omega)) ?_
 refine wp_exit ?_
 (try simp only [Exit.inBlock,Exit.then,reduceIte])
 refine rt_vn F (rs_0 rfl) ?_
 exact ⟨rfl,ho,E⟩
set_option maxRecDepth 100000 in
theorem sortF_any (f : FuncId) (cs : Array Value) (c : Int → Int → Int) (p : Int → Prop) (base r n : Nat) (a : Option Addr) (ca : Nat) (l : List Int) (w : World) (hn : l.length = n) (h1 : n < 20) (hp : ∀ m ∈ l,p m) (ho : w.ownsRow base 3 1 (.slice a n ca) n (ivs l)) (hr : ∀ b,(Value.slice a n ca).ownBlock = some b → b = r)
  (hf : ∀ args w,(callFunc f args).run Tryz.prog w = .ok (.enter f args) w) (hc : ∀ W,Ext [r] w W → ∀ m k,p m → p k → Calls Tryz.prog f (#[] ++ [Value.int .i64 m,Value.int .i64 k].toArray ++ cs) W fun e W'=>e = .returned (.int .i64 (c m k)) ∧ Ext [] W W') :
  Calls Tryz.prog 59 #[.slice a n ca,.func (.func f) #[] cs] w fun e w'=>e = .returned (.tuple #[]) ∧ w'.ownsRow base 3 1 (.slice a n ca) n (ivs (srtL c l)) ∧ Ext [r] w w':=by
 have E : Ext [r] w w:=Ext.refl _ _
 have HC:=Lib.hid hc
 have HF:=Lib.hid hf
 have HP:=Lib.hid hp
 have HR:=Lib.hid hr
 clear hc hf hp hr
 refine calls_has 9 Tryz.func59 rfl Tryz.ntmps59 (Nat.le_of_ble_eq_true rfl) ?_
 intro fa F
 refine wp_region_lit ?_
 refine F.mv ?_;clear F fa;intro fa F
 refine F.mv ?_;clear F fa;intro fa F
 refine F.vl (R_len rfl rfl (F.at rfl) Tryz.underlying25) ?_;clear F fa;intro fa F
 refine F.mv ?_;clear F fa;intro fa F
 refine sq_call F rfl (by decide) rfl (R_callV rfl rfl Tryz.call88 (mpS (F.at rfl) (mpS (F.at rfl) (mpS (F.at rfl) mp0)))) (stable_any f cs c p base r n a ca l _ hn h1 HP.out ho HR.out HF.out (fun W e=>HC.out W (E.trans e))) fun e w1 hR=>?_
 obtain ⟨rfl,ho2,e9⟩:=hR
 refine ⟨_,rfl,?_⟩;clear F fa;intro fa F
 replace E:=E.trans' e9 (fun i hi hl=>by simp only [List.mem_cons,List.not_mem_nil,or_false] at hi ⊢;omega)
 replace ho:=ho2
 clear ho2 e9
 refine wpList_nil ?_
 (try simp only [Exit.inBlock,Exit.then,reduceIte])
 refine rt_vn F (rs_0 rfl) ?_
 exact ⟨rfl,ho,E⟩
def shdE (x : Vm) (T : List (List Int)) (lp : Nat) (j k : Int) : Int:=
 cmpE (prt (val (T.getD k.toNat [])) * dotE (val (x.lamp lp)) (tnE x (val (T.getD j.toNat []))) x.B.toNat) (prt (val (T.getD j.toNat [])) * dotE (val (x.lamp lp)) (tnE x (val (T.getD k.toNat []))) x.B.toNat)
set_option maxRecDepth 100000 in
set_option maxHeartbeats 2000000 in
theorem shades1_ok (x : Vm) (hv : VOk x) (T : List (List Int)) (hT : ∀ t ∈ T,TubS (val t)) (ma : Option Addr) (mc n9 n8 n4 lp : Nat) (j k : Int) (hj0 : 0 ≤ j) (hj : j < T.length) (hk0 : 0 ≤ k) (hk : k < T.length) (hl : lp < x.L.length) (w : World) (h : x.At w)
  (q8 : w.heap[n8]? = some (.cells #[.int .i64 x.B,.slice x.da x.D.length x.dc,.slice x.la x.L.length x.lc,.int .i64 x.tol] 69 (0,0))) (q9 : w.heap[n9]? = some (.cells #[.slice ma T.length mc] 72 (0,0))) (q4 : w.heap[n4]? = some (.cells #[.int .i64 ((lp : Nat) : Int)] 3 (0,0)))
  (hs : SlAt [] w ma 4 T.length (fun i=>tubR (val (T.getD i [])))) (h6 : T.length ≤ 6) :
  Calls Tryz.prog 60 #[.int .i64 j,.int .i64 k,.pointer (some ⟨n9,0,none⟩),.pointer (some ⟨n8,0,none⟩),.pointer (some ⟨n4,0,none⟩)] w fun e w'=>e = .returned (.int .i64 (shdE x T lp j k)) ∧ Ext [] w w':=by
 have E : Ext [] w w:=Ext.refl _ _
 obtain ⟨j,rfl⟩:=Int.eq_ofNat_of_zero_le hj0
 obtain ⟨k,rfl⟩:=Int.eq_ofNat_of_zero_le hk0
 have HX:=Lib.hid h
 have HV:=Lib.hid hv
 have HT:=Lib.hid hT
 have HS:=Lib.hid hs
 have hb1:=hv.b1
 have hb3:=hv.b3
 obtain ⟨bn,hbn⟩ : ∃ bn : Nat,x.B = bn:=⟨x.B.toNat,by omega⟩
 have hbn2 : x.B.toNat = bn:=by omega
 have HF : RowKit.Hid (TubS (val (T.getD j []))):=Lib.hid (hT _ (getD_memL [] (by omega)))
 have HG : RowKit.Hid (TubS (val (T.getD k []))):=Lib.hid (hT _ (getD_memL [] (by omega)))
 obtain ⟨f,hf⟩ : ∃ f,f = val (T.getD j []):=⟨_,rfl⟩
 obtain ⟨g,hg⟩ : ∃ g,g = val (T.getD k []):=⟨_,rfl⟩
 have h1:=dot_bd hv hl (fun j=>tn_bd hv HF.out j) (n:=bn) (by omega)
 have h2:=dot_bd hv hl (fun j=>tn_bd hv HG.out j) (n:=bn) (by omega)
 have h3:=prt_bd HF.out
 have h4:=prt_bd HG.out
 have h5:=mul_bd2 h4.1 h4.2 h1.1 h1.2 (C:=51840) (by omega)
 have h7:=mul_bd2 h3.1 h3.2 h2.1 h2.2 (C:=51840) (by omega)
 have hal : shdE x T lp ((j : Nat) : Int) ((k : Nat) : Int) = cmpE (prt (val (T.getD k [])) * dotE (val (x.lamp lp)) (tnE x (val (T.getD j []))) bn) (prt (val (T.getD j [])) * dotE (val (x.lamp lp)) (tnE x (val (T.getD k []))) bn):=by rw [shdE,hbn2];rfl
 show Calls _ _ #[.int .i64 ((j : Nat) : Int),.int .i64 ((k : Nat) : Int),_,_,_] _ _
 rw [hal]
 replace hj : j < T.length:=by omega
 replace hk : k < T.length:=by omega
 clear h hv hT hs hal hj0 hk0 hf hg f g
 refine calls_has 39 Tryz.func60 rfl Tryz.ntmps60 (Nat.le_of_ble_eq_true rfl) ?_
 intro fa F
 refine wp_seq_k fun K1 hK1=>?_
 refine wp_region_lit ?_
 refine F.vl (R_assign rfl (ev_c fa _)) ?_;clear F fa;intro fa F
 refine wpList_nil ?_
 refine hK1 _ _ ?_
 clear hK1
 refine wp_seq_k fun K2 hK2=>?_
 refine region_x (Ext [] w) none follows fun w1 hh eh=>?_
 have q8_:=q8
 replace q8:=keep_same hh q8
 have q9_:=q9
 replace q9:=keep_same hh q9
 have q4_:=q4
 replace q4:=keep_same hh q4
 have E_:=E
 have zEw1:=E.size
 replace E:=ext_same E eh
 have eT:=eh
 clear hh eh
 refine F.xr (i:=0) rfl (fun w' hS=>R_load rfl (F.at rfl) Tryz.underlying72 rfl ((cells_of_block (hS.keep q9_ (by simp)) 0).trans (get0))) (fun _=>eT) ?_;clear F fa;intro fa F
 refine F.x (i:=1) rfl (fun w'=>R_move rfl (F.at rfl)) (fun _=>eT) ?_;clear F fa;intro fa F
 obtain ⟨xb3,xo3,xa3,xr3⟩:=HS.out k (by omega)
 refine F.x (i:=2) rfl (fun w'=>R_ixSlice (sz:=4) rfl ((F.at rfl).trans (xa3 _ _)) (F.at rfl) Tryz.underlying72 (by kernel_rfl) (by omega) (by omega)) (fun _=>eT) ?_;clear F fa;intro fa F
 refine F.xr (i:=3) rfl (fun w' hS=>R_loadRow rfl (F.at rfl) Tryz.underlying75 rfl (by kernel_rfl) (xr3 _ (E_.nil hS))) (fun _=>eT) ?_;clear F fa;intro fa F
 refine F.xr (i:=5) rfl (fun w' hS=>R_loadBlk rfl (F.at rfl) Tryz.underlying69 rfl (by kernel_rfl) (hS.keep q8_ (by simp))) (fun _=>eT) ?_;clear F fa;intro fa F
 refine F.xr (i:=6) rfl (fun w' hS=>R_load rfl (F.at rfl) Tryz.underlying3 rfl ((cells_of_block (hS.keep q4_ (by simp)) 0).trans (get0))) (fun _=>eT) ?_;clear F fa;intro fa F
 refine F.xr (i:=7) rfl (fun w' hS=>R_loadBlk rfl (F.at rfl) Tryz.underlying69 rfl (by kernel_rfl) (hS.keep q8_ (by simp))) (fun _=>eT) ?_;clear F fa;intro fa F
 refine F.xr (i:=8) rfl (fun w' hS=>R_load rfl (F.at rfl) Tryz.underlying72 rfl ((cells_of_block (hS.keep q9_ (by simp)) 0).trans (get0))) (fun _=>eT) ?_;clear F fa;intro fa F
 refine F.x (i:=9) rfl (fun w'=>R_move rfl (F.at rfl)) (fun _=>eT) ?_;clear F fa;intro fa F
 obtain ⟨xb4,xo4,xa4,xr4⟩:=HS.out j (by omega)
 refine F.x (i:=10) rfl (fun w'=>R_ixSlice (sz:=4) rfl ((F.at rfl).trans (xa4 _ _)) (F.at rfl) Tryz.underlying72 (by kernel_rfl) (by omega) (by omega)) (fun _=>eT) ?_;clear F fa;intro fa F
 refine F.xr (i:=11) rfl (fun w' hS=>R_loadRow rfl (F.at rfl) Tryz.underlying75 rfl (by kernel_rfl) (xr4 _ (E_.nil hS))) (fun _=>eT) ?_;clear F fa;intro fa F
 refine F.xr (i:=15) rfl (fun w' hS=>R_load rfl (F.at rfl) Tryz.underlying72 rfl ((cells_of_block (hS.keep q9_ (by simp)) 0).trans (get0))) (fun _=>eT) ?_;clear F fa;intro fa F
 refine F.x (i:=16) rfl (fun w'=>R_move rfl (F.at rfl)) (fun _=>eT) ?_;clear F fa;intro fa F
 obtain ⟨xb5,xo5,xa5,xr5⟩:=HS.out j (by omega)
 refine F.x (i:=17) rfl (fun w'=>R_ixSlice (sz:=4) rfl ((F.at rfl).trans (xa5 _ _)) (F.at rfl) Tryz.underlying72 (by kernel_rfl) (by omega) (by omega)) (fun _=>eT) ?_;clear F fa;intro fa F
 refine F.xr (i:=18) rfl (fun w' hS=>R_loadRow rfl (F.at rfl) Tryz.underlying75 rfl (by kernel_rfl) (xr5 _ (E_.nil hS))) (fun _=>eT) ?_;clear F fa;intro fa F
 refine F.xr (i:=20) rfl (fun w' hS=>R_loadBlk rfl (F.at rfl) Tryz.underlying69 rfl (by kernel_rfl) (hS.keep q8_ (by simp))) (fun _=>eT) ?_;clear F fa;intro fa F
 refine F.xr (i:=21) rfl (fun w' hS=>R_load rfl (F.at rfl) Tryz.underlying3 rfl ((cells_of_block (hS.keep q4_ (by simp)) 0).trans (get0))) (fun _=>eT) ?_;clear F fa;intro fa F
 refine F.xr (i:=22) rfl (fun w' hS=>R_loadBlk rfl (F.at rfl) Tryz.underlying69 rfl (by kernel_rfl) (hS.keep q8_ (by simp))) (fun _=>eT) ?_;clear F fa;intro fa F
 refine F.xr (i:=23) rfl (fun w' hS=>R_load rfl (F.at rfl) Tryz.underlying72 rfl ((cells_of_block (hS.keep q9_ (by simp)) 0).trans (get0))) (fun _=>eT) ?_;clear F fa;intro fa F
 refine F.x (i:=24) rfl (fun w'=>R_move rfl (F.at rfl)) (fun _=>eT) ?_;clear F fa;intro fa F
 obtain ⟨xb6,xo6,xa6,xr6⟩:=HS.out k (by omega)
 refine F.x (i:=25) rfl (fun w'=>R_ixSlice (sz:=4) rfl ((F.at rfl).trans (xa6 _ _)) (F.at rfl) Tryz.underlying72 (by kernel_rfl) (by omega) (by omega)) (fun _=>eT) ?_;clear F fa;intro fa F
 refine F.xr (i:=26) rfl (fun w' hS=>R_loadRow rfl (F.at rfl) Tryz.underlying75 rfl (by kernel_rfl) (xr6 _ (E_.nil hS))) (fun _=>eT) ?_;clear F fa;intro fa F
 refine ax_only (i:=4) (by kernel_rfl) (op_call F rfl rfl (by decide) rfl (R_callV rfl rfl Tryz.call48 (mpS (F.at rfl) mp0)) (parts_any (val (T.getD k [])) HG.out.ok _) fun e w2 hR=>?_)
 obtain ⟨rfl,e9⟩:=hR
 refine ⟨_,rfl,?_⟩;clear F fa;intro fa F
 replace q8:=(e9).keep0 q8
 replace q9:=(e9).keep0 q9
 replace q4:=(e9).keep0 q4
 replace E:=ext_same E (e9)
 replace eT:=ext_same eT (e9)
 clear e9
 refine ⟨fun _=>eT,?_⟩
 refine ax_only (i:=12) (by kernel_rfl) (op_call F rfl rfl (by decide) rfl (R_callV rfl rfl Tryz.call63 (mpS (F.at rfl) (mpS (F.at rfl) mp0))) (sums_ok x HV.out bn hbn (val (T.getD j [])) HF.out _ (HX.out.ext E)) fun e w3 hR=>?_)
 obtain ⟨a20,rfl,oo,e9⟩:=hR
 refine ⟨_,rfl,?_⟩;clear F fa;intro fa F
 replace q8:=(e9).keep0 q8
 replace q9:=(e9).keep0 q9
 replace q4:=(e9).keep0 q4
 replace E:=ext_same E (e9)
 replace eT:=ext_same eT (e9)
 clear e9
 refine ⟨fun _=>eT,?_⟩
 have hrw:=rows_of_owns (xs:=sumL x (val (T.getD j [])) bn) (row:=intRow) (by rw [← ivs_flat,show (sumL x (val (T.getD j [])) bn).length = bn by simp [sumL]];exact oo) (fun _=>rfl)
 have hll : (sumL x (val (T.getD j [])) bn).length = bn:=by simp [sumL]
 have hwe:=weigh_ok x HV.out lp hl (sumL x (val (T.getD j [])) bn) (by rw [hll];omega) (fun n hn=>by have:=sumL_bd HV.out HF.out bn n hn;omega) a20 bn w3 (HX.out.ext E) (by rw [hll];exact hrw)
 rw [dot_sumL,hll] at hwe
 refine ax_only (i:=13) (by kernel_rfl) (op_call F rfl rfl (by decide) rfl (R_callV rfl rfl Tryz.call62 (mpS (F.at rfl) (mpS (F.at rfl) (mpS (F.at rfl) mp0)))) (hwe) fun e w4 hR=>?_)
 obtain ⟨rfl,e9⟩:=hR
 refine ⟨_,rfl,?_⟩;clear F fa;intro fa F
 replace q8:=(e9).keep0 q8
 replace q9:=(e9).keep0 q9
 replace q4:=(e9).keep0 q4
 replace E:=ext_same E (e9)
 replace eT:=ext_same eT (e9)
 clear e9
 refine ⟨fun _=>eT,?_⟩
 clear oo hrw hwe hll
 refine F.x (i:=14) rfl (fun w'=>R_mul rfl (F.at rfl) (F.at rfl) (by omega) (by omega)) (fun _=>eT) ?_;clear F fa;intro fa F
 refine ax_only (i:=19) (by kernel_rfl) (op_call F rfl rfl (by decide) rfl (R_callV rfl rfl Tryz.call48 (mpS (F.at rfl) mp0)) (parts_any (val (T.getD j [])) HF.out.ok _) fun e w5 hR=>?_)
 obtain ⟨rfl,e9⟩:=hR
 refine ⟨_,rfl,?_⟩;clear F fa;intro fa F
 replace q8:=(e9).keep0 q8
 replace q9:=(e9).keep0 q9
 replace q4:=(e9).keep0 q4
 replace E:=ext_same E (e9)
 replace eT:=ext_same eT (e9)
 clear e9
 refine ⟨fun _=>eT,?_⟩
 refine ax_only (i:=27) (by kernel_rfl) (op_call F rfl rfl (by decide) rfl (R_callV rfl rfl Tryz.call63 (mpS (F.at rfl) (mpS (F.at rfl) mp0))) (sums_ok x HV.out bn hbn (val (T.getD k [])) HG.out _ (HX.out.ext E)) fun e w6 hR=>?_)
 obtain ⟨a28,rfl,oo,e9⟩:=hR
 refine ⟨_,rfl,?_⟩;clear F fa;intro fa F
 replace q8:=(e9).keep0 q8
 replace q9:=(e9).keep0 q9
 replace q4:=(e9).keep0 q4
 replace E:=ext_same E (e9)
 replace eT:=ext_same eT (e9)
 clear e9
 refine ⟨fun _=>eT,?_⟩
 have hrw:=rows_of_owns (xs:=sumL x (val (T.getD k [])) bn) (row:=intRow) (by rw [← ivs_flat,show (sumL x (val (T.getD k [])) bn).length = bn by simp [sumL]];exact oo) (fun _=>rfl)
 have hll : (sumL x (val (T.getD k [])) bn).length = bn:=by simp [sumL]
 have hwe:=weigh_ok x HV.out lp hl (sumL x (val (T.getD k [])) bn) (by rw [hll];omega) (fun n hn=>by have:=sumL_bd HV.out HG.out bn n hn;omega) a28 bn w6 (HX.out.ext E) (by rw [hll];exact hrw)
 rw [dot_sumL,hll] at hwe
 refine ax_only (i:=28) (by kernel_rfl) (op_call F rfl rfl (by decide) rfl (R_callV rfl rfl Tryz.call62 (mpS (F.at rfl) (mpS (F.at rfl) (mpS (F.at rfl) mp0)))) (hwe) fun e w7 hR=>?_)
 obtain ⟨rfl,e9⟩:=hR
 refine ⟨_,rfl,?_⟩;clear F fa;intro fa F
 replace q8:=(e9).keep0 q8
 replace q9:=(e9).keep0 q9
 replace q4:=(e9).keep0 q4
 replace E:=ext_same E (e9)
 replace eT:=ext_same eT (e9)
 clear e9
 refine ⟨fun _=>eT,?_⟩
 clear oo hrw hwe hll
 refine F.x (i:=29) rfl (fun w'=>R_mul rfl (F.at rfl) (F.at rfl) (by omega) (by omega)) (fun _=>eT) ?_;clear F fa;intro fa F
 refine ax_only (i:=30) (by kernel_rfl) (op_call F rfl rfl (by decide) rfl (R_callV rfl rfl Tryz.call61 (mpS (F.at rfl) (mpS (F.at rfl) mp0))) (cmp_any _ _ _) fun e w8 hR=>?_)
 obtain ⟨rfl,e9⟩:=hR
 refine ⟨_,rfl,?_⟩;clear F fa;intro fa F
 replace q8:=(e9).keep0 q8
 replace q9:=(e9).keep0 q9
 replace q4:=(e9).keep0 q4
 replace E:=ext_same E (e9)
 replace eT:=ext_same eT (e9)
 clear e9
 refine ⟨fun _=>eT,?_⟩
 refine F.x (i:=31) rfl (fun w'=>R_assign rfl (F.at rfl)) (fun _=>eT) ?_;clear F fa;intro fa F
 refine ax_done (by kernel_rfl) ?_ _
 clear eT q8_ q9_ q4_ E_
 refine hK2 _ _ ?_
 clear hK2
 refine wp_ret ?_
 (try simp only [Exit.inBlock,Exit.then,reduceIte])
 refine rt_v F (rs_1 F rfl rfl) ?_
 exact ⟨rfl,E⟩
def nums (n : Nat) : List Int:=(List.range n).map fun i=>((i : Nat) : Int)
theorem nums_len (n : Nat) : (nums n).length = n:=by simp [nums]
theorem nums_succ (n : Nat) : nums (n + 1) = nums n ++ [((n : Nat) : Int)]:=by simp [nums,List.range_succ]
theorem nums_mem {n : Nat} : ∀ m ∈ nums n,0 ≤ m ∧ m < n:=by
 intro m hm
 simp only [nums,List.mem_map,List.mem_range] at hm
 obtain ⟨i,hi,rfl⟩:=hm
 omega
def shaR (x : Vm) (lp : Nat) (T : List (List Int)) : List Int:=srtL (shdE x T lp) (nums T.length)
theorem srtL_len (c : Int → Int → Int) (l : List Int) : (srtL c l).length = l.length:=by rw [srtL,srt_len]
set_option maxRecDepth 100000 in
set_option maxHeartbeats 2000000 in
theorem xShades_ok (x : Vm) (hv : VOk x) (lp : Nat) (hlp : lp < x.L.length) (S : List (Value × List Int)) (hs : ∀ p ∈ S,RcpOk x p.2) (h6 : S.length ≤ 6) (a : Option Addr) (c : Nat) (w : World) (h : x.At w) (hl : LolAt w a S) :
  Calls Tryz.prog 30 #[.agg #[.int .i64 x.B,.slice x.da x.D.length x.dc,.slice x.la x.L.length x.lc,.int .i64 x.tol],.int .i64 ((lp : Nat) : Int),.slice a S.length c] w (IntsPost (shaR x lp (S.map (·.2)),0) w):=by
 have E : Ext [] w w:=Ext.refl _ _
 have HX:=Lib.hid h
 have HV:=Lib.hid hv
 have HL:=Lib.hid hl
 have HS:=Lib.hid hs
 obtain ⟨T,hT⟩ : ∃ T,T = S.map (·.2):=⟨_,rfl⟩
 have hTl : T.length = S.length:=by rw [hT,List.length_map]
 have HT : RowKit.Hid (∀ t ∈ T,TubS (val t)):=Lib.hid (fun t ht=>by
  rw [hT] at ht
  obtain ⟨p,hp,rfl⟩:=List.mem_map.1 ht
  exact (hs p hp).tub)
 clear h hv hl hs
 refine calls_hasM 33 Tryz.func30 rfl Tryz.ntmps30 (Nat.le_of_ble_eq_true rfl) ?_
 intro fa F
 refine wp_seq_k fun K1 hK1=>?_
 refine wp_region_lit ?_
 refine sq_new F rfl (by decide) rfl (R_box rfl (F.at rfl)) ?_;clear F fa;intro fa w1 F hw
 obtain ⟨n3,hn⟩ : ∃ n,n = w.heap.size:=⟨_,rfl⟩
 rw [← hn] at F
 have s3 : w.heap.size ≤ n3:=Nat.le_of_eq hn.symm
 have l3_E : w.heap.size ≤ n3:=by rw [hn];exact E.size
 replace E:=ext_alloc E hw
 have q3:=new_row hw hn
 clear hw hn
 refine sq_new F rfl (by decide) rfl (R_box rfl (F.at rfl)) ?_;clear F fa;intro fa w2 F hw
 obtain ⟨n4,hn⟩ : ∃ n,n = w1.heap.size:=⟨_,rfl⟩
 rw [← hn] at F
 have s4 : w1.heap.size ≤ n4:=Nat.le_of_eq hn.symm
 have l4_E : w.heap.size ≤ n4:=by rw [hn];exact E.size
 have m4_3 : n3 < n4:=by rw [hn];exact blk_lt q3
 replace q3:=keep_alloc hw q3
 replace E:=ext_alloc E hw
 have q4:=new_one hw rfl hn
 clear hw hn
 refine F.vl (R_assign rfl (ev_c fa _)) ?_;clear F fa;intro fa F
 refine sq_new F rfl (by decide) rfl (R_alloc rfl Tryz.zeroValue35) ?_;clear F fa;intro fa w3 F hw
 obtain ⟨n7,hn⟩ : ∃ n,n = w2.heap.size:=⟨_,rfl⟩
 rw [← hn] at F
 have s7 : w2.heap.size ≤ n7:=Nat.le_of_eq hn.symm
 have l7_E : w.heap.size ≤ n7:=by rw [hn];exact E.size
 have m7_3 : n3 < n7:=by rw [hn];exact blk_lt q3
 have m7_4 : n4 < n7:=by rw [hn];exact blk_lt q4
 replace q3:=keep_alloc hw q3
 replace q4:=keep_alloc hw q4
 replace E:=ext_alloc E hw
 have q7:=new_one hw rfl hn
 clear hw hn
 refine wpList_nil ?_
 refine hK1 _ _ ?_
 clear hK1
 refine wp_seq_k fun K2 hK2=>?_
 refine wp_region_lit ?_
 refine sq_defer F rfl rfl (R_defer rfl rfl (mpS (F.at rfl) mp0)) ?_;clear F fa;intro fa F
 refine wpList_nil ?_
 refine hK2 _ _ ?_
 clear hK2
 refine wp_seq_k fun K3 hK3=>?_
 refine wp_region_lit ?_
 refine F.vl (R_loadBlk rfl (F.at rfl) Tryz.underlying24 rfl (by kernel_rfl) q3) ?_;clear F fa;intro fa F
 refine sq_call F rfl (by decide) rfl (R_callV rfl rfl Tryz.call40 (mpS (F.at rfl) mp0)) (begin_ok x HV.out _ (HX.out.ext E)) fun e w4 hR=>?_
 obtain ⟨rfl,e9⟩:=hR
 refine ⟨_,rfl,?_⟩;clear F fa;intro fa F
 replace q3:=(e9).keep0 q3
 replace q4:=(e9).keep0 q4
 replace q7:=(e9).keep0 q7
 replace E:=ext_same E (e9)
 clear e9
 refine sq_new F rfl (by decide) rfl (R_alloc rfl Tryz.zeroValue69) ?_;clear F fa;intro fa w5 F hw
 obtain ⟨n8,hn⟩ : ∃ n,n = w4.heap.size:=⟨_,rfl⟩
 rw [← hn] at F
 have s8 : w4.heap.size ≤ n8:=Nat.le_of_eq hn.symm
 have l8_E : w.heap.size ≤ n8:=by rw [hn];exact E.size
 have m8_3 : n3 < n8:=by rw [hn];exact blk_lt q3
 have m8_4 : n4 < n8:=by rw [hn];exact blk_lt q4
 have m8_7 : n7 < n8:=by rw [hn];exact blk_lt q7
 replace q3:=keep_alloc hw q3
 replace q4:=keep_alloc hw q4
 replace q7:=keep_alloc hw q7
 replace E:=ext_alloc E hw
 have q8:=new_row hw hn
 clear hw hn
 refine sq_to rfl rfl (R_storeRow rfl (F.at rfl) (F.at rfl) (by kernel_rfl) (by first | (simp [Value.oneCell'];done) | (simp [Value.oneCell',id];done)) q8 rfl) ?_;intro w6 hw
 replace q3:=keep_cells hw q3 (by omega)
 replace q4:=keep_cells hw q4 (by omega)
 replace q7:=keep_cells hw q7 (by omega)
 replace q8:=put_row hw q8 rfl
 replace E:=ext_cells E hw (fun h=>by first | exact absurd h (by omega) | simp)
 clear hw
 refine wpList_nil ?_
 refine hK3 _ _ ?_
 clear hK3
 refine wp_seq_k fun K4 hK4=>?_
 refine wp_region_lit ?_
 refine F.vl (R_loadBlk rfl (F.at rfl) Tryz.underlying69 rfl (by kernel_rfl) q8) ?_;clear F fa;intro fa F
 refine F.vl (R_load rfl (F.at rfl) Tryz.underlying3 rfl ((cells_of_block q4 0).trans (get0))) ?_;clear F fa;intro fa F
 refine sq_call F rfl (by decide) rfl (R_callV rfl rfl Tryz.call51 (mpS (F.at rfl) (mpS (F.at rfl) mp0))) (lamp_ok x HV.out ((lp : Nat) : Int) (by omega) (by omega) _) fun e w7 hR=>?_
 obtain ⟨rfl,e9⟩:=hR
 refine ⟨_,rfl,?_⟩;clear F fa;intro fa F
 replace q3:=(e9).keep0 q3
 replace q4:=(e9).keep0 q4
 replace q7:=(e9).keep0 q7
 replace q8:=(e9).keep0 q8
 replace E:=ext_same E (e9)
 clear e9
 refine wpList_nil ?_
 refine hK4 _ _ ?_
 clear hK4
 refine wp_seq_k fun K5 hK5=>?_
 refine wp_region_lit ?_
 refine F.vl (R_loadBlk rfl (F.at rfl) Tryz.underlying69 rfl (by kernel_rfl) q8) ?_;clear F fa;intro fa F
 refine F.mv ?_;clear F fa;intro fa F
 refine sq_call F rfl (by decide) rfl (R_callV rfl rfl Tryz.call56 (mpS (F.at rfl) (mpS (F.at rfl) mp0))) (stuffs_ok x HV.out S HS.out h6 a c _ (HL.out.ext E)) fun e w8 hR=>?_
 obtain ⟨ma,mc,rfl,om,e9⟩:=hR
 refine ⟨_,rfl,?_⟩;clear F fa;intro fa F
 replace q3:=(e9).keep0 q3
 replace q4:=(e9).keep0 q4
 replace q7:=(e9).keep0 q7
 replace q8:=(e9).keep0 q8
 replace E:=ext_same E (e9)
 clear e9
 rw [← hT,← hTl] at om
 rw [← hTl] at F
 have hrm:=Lib.hid (rows_of_owns (row:=fun t : List Int=>tubR (val t)) om (fun _=>rfl))
 clear om
 obtain ⟨wM,hwM⟩ : ∃ wM,wM = w8:=⟨_,rfl⟩
 have EM : Ext [] wM w8:=by rw [hwM];exact Ext.refl _ _
 rw [← hwM] at hrm
 refine sq_new F rfl (by decide) rfl (R_alloc rfl Tryz.zeroValue72) ?_;clear F fa;intro fa w9 F hw
 obtain ⟨n9,hn⟩ : ∃ n,n = w8.heap.size:=⟨_,rfl⟩
 rw [← hn] at F
 have s9 : w8.heap.size ≤ n9:=Nat.le_of_eq hn.symm
 have l9_E : w.heap.size ≤ n9:=by rw [hn];exact E.size
 have l9_EM : wM.heap.size ≤ n9:=by rw [hn];exact EM.size
 have m9_3 : n3 < n9:=by rw [hn];exact blk_lt q3
 have m9_4 : n4 < n9:=by rw [hn];exact blk_lt q4
 have m9_7 : n7 < n9:=by rw [hn];exact blk_lt q7
 have m9_8 : n8 < n9:=by rw [hn];exact blk_lt q8
 replace q3:=keep_alloc hw q3
 replace q4:=keep_alloc hw q4
 replace q7:=keep_alloc hw q7
 replace q8:=keep_alloc hw q8
 replace E:=ext_alloc E hw
 replace EM:=ext_alloc EM hw
 have q9:=new_one hw rfl hn
 clear hw hn
 refine sq_to rfl rfl (R_store rfl (F.at rfl) (F.at rfl) rfl (by kernel_rfl) ((cells_of_block q9 0).trans (get0)) (free_of_block q9 0)) ?_;intro w10 hw
 replace q3:=keep_cell hw q3 (by omega)
 replace q4:=keep_cell hw q4 (by omega)
 replace q7:=keep_cell hw q7 (by omega)
 replace q8:=keep_cell hw q8 (by omega)
 replace q9:=put_cell hw q9 (by simp only [List.setIfInBounds_toArray,lsQ,lzQ];exact rfl)
 replace E:=ext_cell E hw (fun h=>by first | exact absurd h (by omega) | simp)
 replace EM:=ext_cell EM hw (fun h=>by first | exact absurd h (by omega) | simp)
 clear hw
 refine wpList_nil ?_
 refine hK5 _ _ ?_
 clear hK5
 refine wp_seq_k fun K6 hK6=>?_
 refine wp_seq_k fun K7 hK7=>?_
 obtain ⟨wL,hwL⟩ : ∃ wL,wL = w10:=⟨_,rfl⟩
 have EL : Ext [] wL w10:=by rw [hwL];exact Ext.refl _ _
 have b4:=blk_lt q4
 have b7:=blk_lt q7
 have b8:=blk_lt q8
 have b9:=blk_lt q9
 rw [← hwL] at b4 b7 b8 b9
 have hww:=E.size
 rw [← hwL] at hww
 have hwm:=EM.size
 rw [← hwL] at hwm
 have oo : w10.ownsRow wL.heap.size 3 1 (.slice none 0 0) 0 (ivs (nums 0)):=World.ownsRow_nil _ _ _ _
 refine wp_region_lit ?_
 refine F.vl (R_load rfl (F.at rfl) Tryz.underlying72 rfl ((cells_of_block q9 0).trans (get0))) ?_;clear F fa;intro fa F
 refine F.vl (R_len rfl rfl (F.at rfl) Tryz.underlying72) ?_;clear F fa;intro fa F
 refine F.vl (R_move rfl (ev_c fa _)) ?_;clear F fa;intro fa F
 refine wpList_nil ?_
 refine hK7 _ _ ?_
 clear hK7
 refine wp_block ?_
 have F0:=F.sub (.c 4 rfl (.c 7 rfl (.c 8 rfl (.c 9 rfl (.c 20 rfl .n)))))
 refine lp_for F0 (T.length) (fun i Lv W=>∃ va : Option Addr,∃ vc : Nat,Lv = [(6,.slice va i vc),(21,.int .i64 ((i : Nat) : Int))] ∧ Ext [] w W ∧ Ext [] wM W ∧ Ext [] wL W ∧ W.heap[n3]? = some (.cells #[.int .i64 x.B,.slice x.da x.D.length x.dc,.slice x.la x.L.length x.lc,.int .i64 x.tol] 24 (0,0)) ∧ W.heap[n4]? = some (.cells #[.int .i64 ((lp : Nat) : Int)] 3 (0,0)) ∧ W.heap[n7]? = some (.cells #[.int .i64 0] 35 (0,0)) ∧ W.heap[n8]? = some (.cells #[.int .i64 x.B,.slice x.da x.D.length x.dc,.slice x.la x.L.length x.lc,.int .i64 x.tol] 69 (0,0)) ∧ W.heap[n9]? = some (.cells #[.slice ma T.length mc] 72 (0,0)) ∧ W.ownsRow wL.heap.size 3 1 (.slice va i vc) i (ivs (nums i))) ⟨_,⟨none,0,rfl,E,EM,EL,q3,q4,q7,q8,q9,oo⟩,F.sub (.c 6 rfl (.c 21 rfl (.c 4 rfl (.c 7 rfl (.c 8 rfl (.c 9 rfl (.c 20 rfl .n)))))))⟩ ?_
 clear F F0
 clear E EM EL q3 q4 q7 q8 q9
 clear oo
 rintro i _ fa w11 hi1 ⟨va,vc,rfl,E,EM,EL,q3,q4,q7,q8,q9,oo⟩ F
 refine wp_seq_k fun K8 hK8=>?_
 refine wp_region_lit ?_
 refine F.vl (R_lss rfl (F.at rfl) (F.at rfl)) ?_;clear F fa;intro fa F
 refine wpList_nil ?_
 refine hK8 _ _ ?_
 clear hK8
 refine wp_seq_k fun K9 hK9=>?_
 refine cd_if F rfl (fun hc22=>?_) (fun hc22=>?_)
 ·skip
  refine wp_skip ?_
  refine hK9 _ _ ?_
  clear hK9
  refine wp_seq_k fun K10 hK10=>?_
  refine wp_block ?_
  refine wp_seq_k fun K11 hK11=>?_
  refine wp_region_lit ?_
  refine F.mv ?_;clear F fa;intro fa F
  refine F.as ?_;clear F fa;intro fa F
  refine wpList_nil ?_
  refine hK11 _ _ ?_
  clear hK11
  refine wp_region_lit ?_
  refine F.mv ?_;clear F fa;intro fa F
  refine F.mv ?_;clear F fa;intro fa F
  refine sq_new F rfl (by decide) rfl (R_buildSliceV rfl (prS (F.at rfl) pr0) Tryz.underlying25 (size:=1) (by kernel_rfl) (by decide) (by decide) Tryz.zeroValue3 (cells:=#[.int .i64 ((i : Nat) : Int)]) (by kernel_rfl)) ?_;clear F fa;intro fa w12 F hw
  obtain ⟨n26,hn⟩ : ∃ n,n = w11.heap.size:=⟨_,rfl⟩
  rw [← hn] at F
  have s26 : w11.heap.size ≤ n26:=Nat.le_of_eq hn.symm
  have l26_E : w.heap.size ≤ n26:=by rw [hn];exact E.size
  have l26_EM : wM.heap.size ≤ n26:=by rw [hn];exact EM.size
  have l26_EL : wL.heap.size ≤ n26:=by rw [hn];exact EL.size
  have m26_3 : n3 < n26:=by rw [hn];exact blk_lt q3
  have m26_4 : n4 < n26:=by rw [hn];exact blk_lt q4
  have m26_7 : n7 < n26:=by rw [hn];exact blk_lt q7
  have m26_8 : n8 < n26:=by rw [hn];exact blk_lt q8
  have m26_9 : n9 < n26:=by rw [hn];exact blk_lt q9
  have o26_oo:=Lib.hid (own_ne_new oo hn)
  replace oo:=owns_alloc hw oo
  replace q3:=keep_alloc hw q3
  replace q4:=keep_alloc hw q4
  replace q7:=keep_alloc hw q7
  replace q8:=keep_alloc hw q8
  replace q9:=keep_alloc hw q9
  replace E:=ext_alloc E hw
  replace EM:=ext_alloc EM hw
  replace EL:=ext_alloc EL hw
  have q26:=new_block hw hn
  clear hw hn
  have hEs:=EL.size
  refine sq_some F rfl (by decide) rfl (append_run rfl (wL.heap.size) (e:=3) (size:=1) (bytes:=8) Tryz.underlying25 (by kernel_rfl) (by decide) (F.at rfl) oo (F.at rfl) q26 rfl (by simp [Value.oneCell']) (by omega) (by omega) (by omega)) ?_;clear F fa;rintro fa v' w13 F ⟨hown',hg⟩
  obtain ⟨va27,vc27,rfl⟩:=owns_slice hown'
  replace q3:=keep_type oo hg q3 (by decide)
  replace q4:=keep_append oo hg q4 (by omega)
  replace q7:=keep_type oo hg q7 (by decide)
  replace q8:=keep_type oo hg q8 (by decide)
  replace q9:=keep_type oo hg q9 (by decide)
  replace E:=ext_appendX E oo hg (by omega)
  replace EM:=ext_appendX EM oo hg (by omega)
  replace EL:=ext_appendX EL oo hg (by omega)
  replace oo:=hown'
  clear hg
  rw [show ivs (nums i) ++ [.int .i64 ((i : Nat) : Int)] = ivs (nums (i + 1)) by rw [nums_succ];simp [ivs]] at oo
  refine F.as ?_;clear F fa;intro fa F
  refine wpList_nil ?_
  refine hK10 _ _ ?_
  clear hK10
  refine wp_region_lit ?_
  refine F.vl (R_add rfl (F.at rfl) (ev_c fa _) (by omega) (by omega)) ?_;clear F fa;intro fa F
  refine F.mv ?_;clear F fa;intro fa F
  refine wpList_nil ?_
  show _ ∧ _
  exact ⟨by omega,_,⟨_,_,rfl,E,EM,EL,q3,q4,q7,q8,q9,oo⟩,F.sub (.c 6 rfl (.c 21 rfl (.c 4 rfl (.c 7 rfl (.c 8 rfl (.c 9 rfl (.c 20 rfl .n)))))))⟩
 ·skip
  refine wp_exit ?_
  rw [show i = T.length by omega] at oo F
  refine hK6 _ _ ?_
  clear hK6
  refine wp_seq_k fun K12 hK12=>?_
  obtain ⟨r,hrr,hrd⟩:=one_row (.slice va T.length vc) w11.heap.size
  have hrb : wL.heap.size ≤ r:=by rcases hrd with h | h;(· exact (oo.lt r h).1);(· rw [h];exact EL.size)
  refine wp_region_lit ?_
  refine F.mv ?_;clear F fa;intro fa F
  refine F.vl (R_makeFunc rfl (mapsN mp0) (mapsN (mpS (F.at rfl) (mpS (F.at rfl) (mpS (F.at rfl) mp0))))) ?_;clear F fa;intro fa F
  have hEM : Ext [] wM w11:=EM
  refine sq_call F rfl (by decide) rfl (R_callV rfl rfl Tryz.call59 (mpS (F.at rfl) (mpS (F.at rfl) mp0))) (sortF_any 60 #[.pointer (some ⟨n9,0,none⟩),.pointer (some ⟨n8,0,none⟩),.pointer (some ⟨n4,0,none⟩)] (shdE x T lp) (fun m=>0 ≤ m ∧ m < T.length) wL.heap.size r T.length va vc (nums T.length) _ (nums_len _) (by omega) nums_mem oo hrr Tryz.call60 (fun W e m k hm hk=>shades1_ok x HV.out T HT.out ma mc n9 n8 n4 lp m k hm.1 hm.2 hk.1 hk.2 hlp W (HX.out.extX ((E.mono (Y:=[r]) (by simp)).trans e) (by simp;omega)) (e.keep q8 (by simp;omega)) (e.keep q9 (by simp;omega)) (e.keep q4 (by simp;omega)) (slAt_of_rows (row:=fun t : List Int=>tubR (val t)) (hrm.out.ext ((hEM.mono (Y:=[r]) (by simp)).trans e) (by simp;omega)) []) (by omega))) fun e w14 hR=>?_
  obtain ⟨rfl,oo2,e9⟩:=hR
  refine ⟨_,rfl,?_⟩;clear F fa;intro fa F
  replace q3:=(e9).keep q3 (by simp;omega)
  replace q4:=(e9).keep q4 (by simp;omega)
  replace q7:=(e9).keep q7 (by simp;omega)
  replace q8:=(e9).keep q8 (by simp;omega)
  replace q9:=(e9).keep q9 (by simp;omega)
  replace E:=E.trans' e9 (fun i hi hl=>by simp only [List.mem_cons,List.not_mem_nil,or_false] at hi ⊢;omega)
  replace EM:=EM.trans' e9 (fun i hi hl=>by simp only [List.mem_cons,List.not_mem_nil,or_false] at hi ⊢;omega)
  replace EL:=EL.trans' e9 (fun i hi hl=>by simp only [List.mem_cons,List.not_mem_nil,or_false] at hi ⊢;omega)
  replace oo:=oo2
  clear oo2 e9
  refine wpList_nil ?_
  refine hK12 _ _ ?_
  clear hK12
  refine wp_seq_k fun K13 hK13=>?_
  refine wp_region_lit ?_
  refine F.mv ?_;clear F fa;intro fa F
  refine F.as ?_;clear F fa;intro fa F
  refine sq_to rfl rfl (R_store rfl (F.at rfl) (ev_c fa _) rfl (by kernel_rfl) ((cells_of_block q7 0).trans (get0)) (free_of_block q7 0)) ?_;intro w15 hw
  replace oo:=owns_cellX hw oo (own_ne_type oo q7 (by decide))
  replace q3:=keep_cell hw q3 (by omega)
  replace q4:=keep_cell hw q4 (by omega)
  replace q7:=put_cell hw q7 (by simp only [List.setIfInBounds_toArray,lsQ,lzQ];exact rfl)
  replace q8:=keep_cell hw q8 (by omega)
  replace q9:=keep_cell hw q9 (by omega)
  replace E:=ext_cell E hw (fun h=>by first | exact absurd h (by omega) | simp)
  clear hw
  refine wpList_nil ?_
  refine hK13 _ _ ?_
  clear hK13
  refine wp_ret ?_
  (try simp only [Exit.inBlock,Exit.then,reduceIte])
  refine rtM_v F ?_
  refine lv_caught ?_
  refine lv_nil (rs_tc F rfl rfl rfl Tryz.underlying35 rfl q7) ?_
  rw [← hT,show shaR x lp T = srtL (shdE x T lp) (nums T.length) from rfl]
  have hsl : (srtL (shdE x T lp) (nums T.length)).length = T.length:=by rw [srtL_len,nums_len]
  refine ⟨va,vc,?_,?_,E⟩
  ·simp only [hsl]
  ·simp only [hsl];exact owns_lower oo hww
theorem slAt_lit {w : World} {b : Nat} {T : TypeId} {fz : Nat × Nat} (L : List (Value × List Int)) (h : w.heap[b]? = some (.cells (L.map (·.1)).toArray T fz)) : SlAt [] w (some ⟨b,0,none⟩) 1 L.length (fun i=>[(L.getD i (.bool true,[])).1]):=fun i hi =>
 ⟨b,0,fun _ _=>rfl,fun W e j v hv=>by
  obtain rfl : j = 0:=by
   rcases j with _ | j
   ·rfl
   ·simp at hv
  rw [cells_of_block (e.keep0 h)]
  simp only [List.getElem?_cons_zero,Option.some.injEq] at hv
  subst hv
  simp [hi]⟩
theorem lol_lit {w : World} {b : Nat} {T : TypeId} {fz : Nat × Nat} (L : List (Value × List Int)) (h : w.heap[b]? = some (.cells (L.map (·.1)).toArray T fz)) (hr : ∀ p ∈ L,RowOf w p.1 p.2) : LolAt w (some ⟨b,0,none⟩) L:=⟨slAt_lit L h,hr⟩
theorem row_lit {w : World} {b : Nat} {T : TypeId} {fz : Nat × Nat} (xs : List Int) (h : w.heap[b]? = some (.cells (xs.map (Value.int .i64)).toArray T fz)) : RowOf w (.slice (some ⟨b,0,none⟩) xs.length xs.length) xs:=⟨_,_,rfl,rows_lit xs _ h⟩
def vatD : List (List Int):=[[9,0,0],[0,9,0],[0,0,9],[3,3,3]]
def vatL : List (List Int):=[[1,1,1],[3,1,0]]
structure IsVat (x : Vm) : Prop where
 b : x.B = 3
 t : x.tol = 1
 d : x.D.map (·.2) = vatD
 l : x.L.map (·.2) = vatL
set_option maxRecDepth 100000 in
theorem vat_any (w : World) : Calls Tryz.prog 24 #[] w fun e w'=>∃ x : Vm,e = .returned (.agg #[.int .i64 x.B,.slice x.da x.D.length x.dc,.slice x.la x.L.length x.lc,.int .i64 x.tol]) ∧ IsVat x ∧ x.At w' ∧ Ext [] w w':=by
 have E : Ext [] w w:=Ext.refl _ _
 refine calls_has 10 Tryz.func24 rfl Tryz.ntmps24 (Nat.le_of_ble_eq_true rfl) ?_
 intro fa F
 refine wp_seq_k fun K1 hK1=>?_
 refine wp_region_lit ?_
 refine sq_new F rfl (by decide) rfl (R_alloc rfl Tryz.zeroValue24) ?_;clear F fa;intro fa w1 F hw
 obtain ⟨n0,hn⟩ : ∃ n,n = w.heap.size:=⟨_,rfl⟩
 rw [← hn] at F
 have s0 : w.heap.size ≤ n0:=Nat.le_of_eq hn.symm
 have l0_E : w.heap.size ≤ n0:=by rw [hn];exact E.size
 replace E:=ext_alloc E hw
 have q0:=new_row hw hn
 clear hw hn
 refine wpList_nil ?_
 refine hK1 _ _ ?_
 clear hK1
 refine wp_seq_k fun K2 hK2=>?_
 refine wp_region_lit ?_
 refine sq_new F rfl (by decide) rfl (R_buildSliceV rfl (prS (ev_c fa _) (prS (ev_c fa _) (prS (ev_c fa _) pr0))) Tryz.underlying25 (size:=1) (by kernel_rfl) (by decide) (by decide) Tryz.zeroValue3 (cells:=#[.int .i64 9,.int .i64 0,.int .i64 0]) (by kernel_rfl)) ?_;clear F fa;intro fa w2 F hw
 obtain ⟨n1,hn⟩ : ∃ n,n = w1.heap.size:=⟨_,rfl⟩
 rw [← hn] at F
 have s1 : w1.heap.size ≤ n1:=Nat.le_of_eq hn.symm
 have l1_E : w.heap.size ≤ n1:=by rw [hn];exact E.size
 have m1_0 : n0 < n1:=by rw [hn];exact blk_lt q0
 replace q0:=keep_alloc hw q0
 replace E:=ext_alloc E hw
 have q1:=new_block hw hn
 clear hw hn
 refine sq_new F rfl (by decide) rfl (R_buildSliceV rfl (prS (ev_c fa _) (prS (ev_c fa _) (prS (ev_c fa _) pr0))) Tryz.underlying25 (size:=1) (by kernel_rfl) (by decide) (by decide) Tryz.zeroValue3 (cells:=#[.int .i64 0,.int .i64 9,.int .i64 0]) (by kernel_rfl)) ?_;clear F fa;intro fa w3 F hw
 obtain ⟨n2,hn⟩ : ∃ n,n = w2.heap.size:=⟨_,rfl⟩
 rw [← hn] at F
 have s2 : w2.heap.size ≤ n2:=Nat.le_of_eq hn.symm
 have l2_E : w.heap.size ≤ n2:=by rw [hn];exact E.size
 have m2_0 : n0 < n2:=by rw [hn];exact blk_lt q0
 have m2_1 : n1 < n2:=by rw [hn];exact blk_lt q1
 replace q0:=keep_alloc hw q0
 replace q1:=keep_alloc hw q1
 replace E:=ext_alloc E hw
 have q2:=new_block hw hn
 clear hw hn
 refine sq_new F rfl (by decide) rfl (R_buildSliceV rfl (prS (ev_c fa _) (prS (ev_c fa _) (prS (ev_c fa _) pr0))) Tryz.underlying25 (size:=1) (by kernel_rfl) (by decide) (by decide) Tryz.zeroValue3 (cells:=#[.int .i64 0,.int .i64 0,.int .i64 9]) (by kernel_rfl)) ?_;clear F fa;intro fa w4 F hw
 obtain ⟨n3,hn⟩ : ∃ n,n = w3.heap.size:=⟨_,rfl⟩
 rw [← hn] at F
 have s3 : w3.heap.size ≤ n3:=Nat.le_of_eq hn.symm
 have l3_E : w.heap.size ≤ n3:=by rw [hn];exact E.size
 have m3_0 : n0 < n3:=by rw [hn];exact blk_lt q0
 have m3_1 : n1 < n3:=by rw [hn];exact blk_lt q1
 have m3_2 : n2 < n3:=by rw [hn];exact blk_lt q2
 replace q0:=keep_alloc hw q0
 replace q1:=keep_alloc hw q1
 replace q2:=keep_alloc hw q2
 replace E:=ext_alloc E hw
 have q3:=new_block hw hn
 clear hw hn
 refine sq_new F rfl (by decide) rfl (R_buildSliceV rfl (prS (ev_c fa _) (prS (ev_c fa _) (prS (ev_c fa _) pr0))) Tryz.underlying25 (size:=1) (by kernel_rfl) (by decide) (by decide) Tryz.zeroValue3 (cells:=#[.int .i64 3,.int .i64 3,.int .i64 3]) (by kernel_rfl)) ?_;clear F fa;intro fa w5 F hw
 obtain ⟨n4,hn⟩ : ∃ n,n = w4.heap.size:=⟨_,rfl⟩
 rw [← hn] at F
 have s4 : w4.heap.size ≤ n4:=Nat.le_of_eq hn.symm
 have l4_E : w.heap.size ≤ n4:=by rw [hn];exact E.size
 have m4_0 : n0 < n4:=by rw [hn];exact blk_lt q0
 have m4_1 : n1 < n4:=by rw [hn];exact blk_lt q1
 have m4_2 : n2 < n4:=by rw [hn];exact blk_lt q2
 have m4_3 : n3 < n4:=by rw [hn];exact blk_lt q3
 replace q0:=keep_alloc hw q0
 replace q1:=keep_alloc hw q1
 replace q2:=keep_alloc hw q2
 replace q3:=keep_alloc hw q3
 replace E:=ext_alloc E hw
 have q4:=new_block hw hn
 clear hw hn
 refine sq_new F rfl (by decide) rfl (R_buildSliceV rfl (prS (F.at rfl) (prS (F.at rfl) (prS (F.at rfl) (prS (F.at rfl) pr0)))) Tryz.underlying22 (size:=1) (by kernel_rfl) (by decide) (by decide) Tryz.zeroValue25 (cells:=#[.slice (some ⟨n1,0,none⟩) 3 3,.slice (some ⟨n2,0,none⟩) 3 3,.slice (some ⟨n3,0,none⟩) 3 3,.slice (some ⟨n4,0,none⟩) 3 3]) (by kernel_rfl)) ?_;clear F fa;intro fa w6 F hw
 obtain ⟨n5,hn⟩ : ∃ n,n = w5.heap.size:=⟨_,rfl⟩
 rw [← hn] at F
 have s5 : w5.heap.size ≤ n5:=Nat.le_of_eq hn.symm
 have l5_E : w.heap.size ≤ n5:=by rw [hn];exact E.size
 have m5_0 : n0 < n5:=by rw [hn];exact blk_lt q0
 have m5_1 : n1 < n5:=by rw [hn];exact blk_lt q1
 have m5_2 : n2 < n5:=by rw [hn];exact blk_lt q2
 have m5_3 : n3 < n5:=by rw [hn];exact blk_lt q3
 have m5_4 : n4 < n5:=by rw [hn];exact blk_lt q4
 replace q0:=keep_alloc hw q0
 replace q1:=keep_alloc hw q1
 replace q2:=keep_alloc hw q2
 replace q3:=keep_alloc hw q3
 replace q4:=keep_alloc hw q4
 replace E:=ext_alloc E hw
 have q5:=new_block hw hn
 clear hw hn
 refine sq_new F rfl (by decide) rfl (R_buildSliceV rfl (prS (ev_c fa _) (prS (ev_c fa _) (prS (ev_c fa _) pr0))) Tryz.underlying25 (size:=1) (by kernel_rfl) (by decide) (by decide) Tryz.zeroValue3 (cells:=#[.int .i64 1,.int .i64 1,.int .i64 1]) (by kernel_rfl)) ?_;clear F fa;intro fa w7 F hw
 obtain ⟨n6,hn⟩ : ∃ n,n = w6.heap.size:=⟨_,rfl⟩
 rw [← hn] at F
 have s6 : w6.heap.size ≤ n6:=Nat.le_of_eq hn.symm
 have l6_E : w.heap.size ≤ n6:=by rw [hn];exact E.size
 have m6_0 : n0 < n6:=by rw [hn];exact blk_lt q0
 have m6_1 : n1 < n6:=by rw [hn];exact blk_lt q1
 have m6_2 : n2 < n6:=by rw [hn];exact blk_lt q2
 have m6_3 : n3 < n6:=by rw [hn];exact blk_lt q3
 have m6_4 : n4 < n6:=by rw [hn];exact blk_lt q4
 have m6_5 : n5 < n6:=by rw [hn];exact blk_lt q5
 replace q0:=keep_alloc hw q0
 replace q1:=keep_alloc hw q1
 replace q2:=keep_alloc hw q2
 replace q3:=keep_alloc hw q3
 replace q4:=keep_alloc hw q4
 replace q5:=keep_alloc hw q5
 replace E:=ext_alloc E hw
 have q6:=new_block hw hn
 clear hw hn
 refine sq_new F rfl (by decide) rfl (R_buildSliceV rfl (prS (ev_c fa _) (prS (ev_c fa _) (prS (ev_c fa _) pr0))) Tryz.underlying25 (size:=1) (by kernel_rfl) (by decide) (by decide) Tryz.zeroValue3 (cells:=#[.int .i64 3,.int .i64 1,.int .i64 0]) (by kernel_rfl)) ?_;clear F fa;intro fa w8 F hw
 obtain ⟨n7,hn⟩ : ∃ n,n = w7.heap.size:=⟨_,rfl⟩
 rw [← hn] at F
 have s7 : w7.heap.size ≤ n7:=Nat.le_of_eq hn.symm
 have l7_E : w.heap.size ≤ n7:=by rw [hn];exact E.size
 have m7_0 : n0 < n7:=by rw [hn];exact blk_lt q0
 have m7_1 : n1 < n7:=by rw [hn];exact blk_lt q1
 have m7_2 : n2 < n7:=by rw [hn];exact blk_lt q2
 have m7_3 : n3 < n7:=by rw [hn];exact blk_lt q3
 have m7_4 : n4 < n7:=by rw [hn];exact blk_lt q4
 have m7_5 : n5 < n7:=by rw [hn];exact blk_lt q5
 have m7_6 : n6 < n7:=by rw [hn];exact blk_lt q6
 replace q0:=keep_alloc hw q0
 replace q1:=keep_alloc hw q1
 replace q2:=keep_alloc hw q2
 replace q3:=keep_alloc hw q3
 replace q4:=keep_alloc hw q4
 replace q5:=keep_alloc hw q5
 replace q6:=keep_alloc hw q6
 replace E:=ext_alloc E hw
 have q7:=new_block hw hn
 clear hw hn
 refine sq_new F rfl (by decide) rfl (R_buildSliceV rfl (prS (F.at rfl) (prS (F.at rfl) pr0)) Tryz.underlying22 (size:=1) (by kernel_rfl) (by decide) (by decide) Tryz.zeroValue25 (cells:=#[.slice (some ⟨n6,0,none⟩) 3 3,.slice (some ⟨n7,0,none⟩) 3 3]) (by kernel_rfl)) ?_;clear F fa;intro fa w9 F hw
 obtain ⟨n8,hn⟩ : ∃ n,n = w8.heap.size:=⟨_,rfl⟩
 rw [← hn] at F
 have s8 : w8.heap.size ≤ n8:=Nat.le_of_eq hn.symm
 have l8_E : w.heap.size ≤ n8:=by rw [hn];exact E.size
 have m8_0 : n0 < n8:=by rw [hn];exact blk_lt q0
 have m8_1 : n1 < n8:=by rw [hn];exact blk_lt q1
 have m8_2 : n2 < n8:=by rw [hn];exact blk_lt q2
 have m8_3 : n3 < n8:=by rw [hn];exact blk_lt q3
 have m8_4 : n4 < n8:=by rw [hn];exact blk_lt q4
 have m8_5 : n5 < n8:=by rw [hn];exact blk_lt q5
 have m8_6 : n6 < n8:=by rw [hn];exact blk_lt q6
 have m8_7 : n7 < n8:=by rw [hn];exact blk_lt q7
 replace q0:=keep_alloc hw q0
 replace q1:=keep_alloc hw q1
 replace q2:=keep_alloc hw q2
 replace q3:=keep_alloc hw q3
 replace q4:=keep_alloc hw q4
 replace q5:=keep_alloc hw q5
 replace q6:=keep_alloc hw q6
 replace q7:=keep_alloc hw q7
 replace E:=ext_alloc E hw
 have q8:=new_block hw hn
 clear hw hn
 refine F.vl (R_buildV rfl (prS (ev_c fa _) (prS (F.at rfl) (prS (F.at rfl) (prS (ev_c fa _) pr0)))) (cells:=#[.int .i64 3,.slice (some ⟨n5,0,none⟩) 4 4,.slice (some ⟨n8,0,none⟩) 2 2,.int .i64 1]) (by kernel_rfl)) ?_;clear F fa;intro fa F
 refine sq_to rfl rfl (R_storeRow rfl (F.at rfl) (F.at rfl) (by kernel_rfl) (by first | (simp [Value.oneCell'];done) | (simp [Value.oneCell',id];done)) q0 rfl) ?_;intro w10 hw
 replace q0:=put_row hw q0 rfl
 replace q1:=keep_cells hw q1 (by omega)
 replace q2:=keep_cells hw q2 (by omega)
 replace q3:=keep_cells hw q3 (by omega)
 replace q4:=keep_cells hw q4 (by omega)
 replace q5:=keep_cells hw q5 (by omega)
 replace q6:=keep_cells hw q6 (by omega)
 replace q7:=keep_cells hw q7 (by omega)
 replace q8:=keep_cells hw q8 (by omega)
 replace E:=ext_cells E hw (fun h=>by first | exact absurd h (by omega) | simp)
 clear hw
 refine wpList_nil ?_
 refine hK2 _ _ ?_
 clear hK2
 refine wp_ret ?_
 (try simp only [Exit.inBlock,Exit.then,reduceIte])
 refine rt_v F (rs_c F rfl rfl Tryz.underlying24 rfl (by kernel_rfl) q0) ?_
 refine ⟨{ B:=3,tol:=1,da:=some ⟨n5,0,none⟩,dc:=4,la:=some ⟨n8,0,none⟩,lc:=2,D:=[(.slice (some ⟨n1,0,none⟩) 3 3,[9,0,0]),(.slice (some ⟨n2,0,none⟩) 3 3,[0,9,0]),(.slice (some ⟨n3,0,none⟩) 3 3,[0,0,9]),(.slice (some ⟨n4,0,none⟩) 3 3,[3,3,3])],L:=[(.slice (some ⟨n6,0,none⟩) 3 3,[1,1,1]),(.slice (some ⟨n7,0,none⟩) 3 3,[3,1,0])] },rfl,⟨rfl,rfl,rfl,rfl⟩,⟨lol_lit _ q5 ?_,lol_lit _ q8 ?_⟩,E⟩
 ·intro p hp;simp only [List.mem_cons,List.not_mem_nil,or_false] at hp;rcases hp with rfl | rfl | rfl | rfl;(· exact row_lit [9,0,0] q1);(· exact row_lit [0,9,0] q2);(· exact row_lit [0,0,9] q3);(· exact row_lit [3,3,3] q4)
 ·intro p hp;simp only [List.mem_cons,List.not_mem_nil,or_false] at hp;rcases hp with rfl | rfl;(· exact row_lit [1,1,1] q6);(· exact row_lit [3,1,0] q7)
theorem smp_any (w : World) : Calls Tryz.prog 25 #[] w fun e w'=>∃ a,e = .returned (.slice a 3 3) ∧ IsRows w' (.slice a [(4 : Int),3,2].length 3) 1 ([(4 : Int),3,2].map intRow) ∧ Ext [] w w':=by
 have E : Ext [] w w:=Ext.refl _ _
 refine calls_has 2 Tryz.func25 rfl Tryz.ntmps25 (Nat.le_of_ble_eq_true rfl) ?_
 intro fa F
 refine wp_seq_k fun K1 hK1=>?_
 refine wp_region_lit ?_
 refine F.vl (R_assign rfl (ev_c fa _)) ?_;clear F fa;intro fa F
 refine wpList_nil ?_
 refine hK1 _ _ ?_
 clear hK1
 refine wp_seq_k fun K2 hK2=>?_
 refine wp_region_lit ?_
 refine sq_new F rfl (by decide) rfl (R_buildSliceV rfl (prS (ev_c fa _) (prS (ev_c fa _) (prS (ev_c fa _) pr0))) Tryz.underlying25 (size:=1) (by kernel_rfl) (by decide) (by decide) Tryz.zeroValue3 (cells:=#[.int .i64 4,.int .i64 3,.int .i64 2]) (by kernel_rfl)) ?_;clear F fa;intro fa w1 F hw
 obtain ⟨n1,hn⟩ : ∃ n,n = w.heap.size:=⟨_,rfl⟩
 rw [← hn] at F
 have s1 : w.heap.size ≤ n1:=Nat.le_of_eq hn.symm
 have l1_E : w.heap.size ≤ n1:=by rw [hn];exact E.size
 replace E:=ext_alloc E hw
 have q1:=new_block hw hn
 clear hw hn
 refine F.as ?_;clear F fa;intro fa F
 refine wpList_nil ?_
 refine hK2 _ _ ?_
 clear hK2
 refine wp_ret ?_
 (try simp only [Exit.inBlock,Exit.then,reduceIte])
 refine rt_v F (rs_1 F rfl rfl) ?_
 exact ⟨_,rfl,rows_lit [4,3,2] 3 q1,E⟩
def clothL : List (List Int):=[[1,0,0,0],[0,1,0,0],[1,1,1,0],[0,0,0,1]]
set_option maxRecDepth 100000 in
theorem cloths_any (w : World) : Calls Tryz.prog 29 #[] w fun e w'=>∃ (a : Option Addr) (S : List (Value × List Int)),e = .returned (.slice a S.length 4) ∧ S.map (·.2) = clothL ∧ LolAt w' a S ∧ Ext [] w w':=by
 have E : Ext [] w w:=Ext.refl _ _
 refine calls_has 6 Tryz.func29 rfl Tryz.ntmps29 (Nat.le_of_ble_eq_true rfl) ?_
 intro fa F
 refine wp_seq_k fun K1 hK1=>?_
 refine wp_region_lit ?_
 refine F.vl (R_assign rfl (ev_c fa _)) ?_;clear F fa;intro fa F
 refine wpList_nil ?_
 refine hK1 _ _ ?_
 clear hK1
 refine wp_seq_k fun K2 hK2=>?_
 refine wp_region_lit ?_
 refine sq_new F rfl (by decide) rfl (R_buildSliceV rfl (prS (ev_c fa _) (prS (ev_c fa _) (prS (ev_c fa _) (prS (ev_c fa _) pr0)))) Tryz.underlying25 (size:=1) (by kernel_rfl) (by decide) (by decide) Tryz.zeroValue3 (cells:=#[.int .i64 1,.int .i64 0,.int .i64 0,.int .i64 0]) (by kernel_rfl)) ?_;clear F fa;intro fa w1 F hw
 obtain ⟨n1,hn⟩ : ∃ n,n = w.heap.size:=⟨_,rfl⟩
 rw [← hn] at F
 have s1 : w.heap.size ≤ n1:=Nat.le_of_eq hn.symm
 have l1_E : w.heap.size ≤ n1:=by rw [hn];exact E.size
 replace E:=ext_alloc E hw
 have q1:=new_block hw hn
 clear hw hn
 refine sq_new F rfl (by decide) rfl (R_buildSliceV rfl (prS (ev_c fa _) (prS (ev_c fa _) (prS (ev_c fa _) (prS (ev_c fa _) pr0)))) Tryz.underlying25 (size:=1) (by kernel_rfl) (by decide) (by decide) Tryz.zeroValue3 (cells:=#[.int .i64 0,.int .i64 1,.int .i64 0,.int .i64 0]) (by kernel_rfl)) ?_;clear F fa;intro fa w2 F hw
 obtain ⟨n2,hn⟩ : ∃ n,n = w1.heap.size:=⟨_,rfl⟩
 rw [← hn] at F
 have s2 : w1.heap.size ≤ n2:=Nat.le_of_eq hn.symm
 have l2_E : w.heap.size ≤ n2:=by rw [hn];exact E.size
 have m2_1 : n1 < n2:=by rw [hn];exact blk_lt q1
 replace q1:=keep_alloc hw q1
 replace E:=ext_alloc E hw
 have q2:=new_block hw hn
 clear hw hn
 refine sq_new F rfl (by decide) rfl (R_buildSliceV rfl (prS (ev_c fa _) (prS (ev_c fa _) (prS (ev_c fa _) (prS (ev_c fa _) pr0)))) Tryz.underlying25 (size:=1) (by kernel_rfl) (by decide) (by decide) Tryz.zeroValue3 (cells:=#[.int .i64 1,.int .i64 1,.int .i64 1,.int .i64 0]) (by kernel_rfl)) ?_;clear F fa;intro fa w3 F hw
 obtain ⟨n3,hn⟩ : ∃ n,n = w2.heap.size:=⟨_,rfl⟩
 rw [← hn] at F
 have s3 : w2.heap.size ≤ n3:=Nat.le_of_eq hn.symm
 have l3_E : w.heap.size ≤ n3:=by rw [hn];exact E.size
 have m3_1 : n1 < n3:=by rw [hn];exact blk_lt q1
 have m3_2 : n2 < n3:=by rw [hn];exact blk_lt q2
 replace q1:=keep_alloc hw q1
 replace q2:=keep_alloc hw q2
 replace E:=ext_alloc E hw
 have q3:=new_block hw hn
 clear hw hn
 refine sq_new F rfl (by decide) rfl (R_buildSliceV rfl (prS (ev_c fa _) (prS (ev_c fa _) (prS (ev_c fa _) (prS (ev_c fa _) pr0)))) Tryz.underlying25 (size:=1) (by kernel_rfl) (by decide) (by decide) Tryz.zeroValue3 (cells:=#[.int .i64 0,.int .i64 0,.int .i64 0,.int .i64 1]) (by kernel_rfl)) ?_;clear F fa;intro fa w4 F hw
 obtain ⟨n4,hn⟩ : ∃ n,n = w3.heap.size:=⟨_,rfl⟩
 rw [← hn] at F
 have s4 : w3.heap.size ≤ n4:=Nat.le_of_eq hn.symm
 have l4_E : w.heap.size ≤ n4:=by rw [hn];exact E.size
 have m4_1 : n1 < n4:=by rw [hn];exact blk_lt q1
 have m4_2 : n2 < n4:=by rw [hn];exact blk_lt q2
 have m4_3 : n3 < n4:=by rw [hn];exact blk_lt q3
 replace q1:=keep_alloc hw q1
 replace q2:=keep_alloc hw q2
 replace q3:=keep_alloc hw q3
 replace E:=ext_alloc E hw
 have q4:=new_block hw hn
 clear hw hn
 refine sq_new F rfl (by decide) rfl (R_buildSliceV rfl (prS (F.at rfl) (prS (F.at rfl) (prS (F.at rfl) (prS (F.at rfl) pr0)))) Tryz.underlying22 (size:=1) (by kernel_rfl) (by decide) (by decide) Tryz.zeroValue25 (cells:=#[.slice (some ⟨n1,0,none⟩) 4 4,.slice (some ⟨n2,0,none⟩) 4 4,.slice (some ⟨n3,0,none⟩) 4 4,.slice (some ⟨n4,0,none⟩) 4 4]) (by kernel_rfl)) ?_;clear F fa;intro fa w5 F hw
 obtain ⟨n5,hn⟩ : ∃ n,n = w4.heap.size:=⟨_,rfl⟩
 rw [← hn] at F
 have s5 : w4.heap.size ≤ n5:=Nat.le_of_eq hn.symm
 have l5_E : w.heap.size ≤ n5:=by rw [hn];exact E.size
 have m5_1 : n1 < n5:=by rw [hn];exact blk_lt q1
 have m5_2 : n2 < n5:=by rw [hn];exact blk_lt q2
 have m5_3 : n3 < n5:=by rw [hn];exact blk_lt q3
 have m5_4 : n4 < n5:=by rw [hn];exact blk_lt q4
 replace q1:=keep_alloc hw q1
 replace q2:=keep_alloc hw q2
 replace q3:=keep_alloc hw q3
 replace q4:=keep_alloc hw q4
 replace E:=ext_alloc E hw
 have q5:=new_block hw hn
 clear hw hn
 refine F.as ?_;clear F fa;intro fa F
 refine wpList_nil ?_
 refine hK2 _ _ ?_
 clear hK2
 refine wp_ret ?_
 (try simp only [Exit.inBlock,Exit.then,reduceIte])
 refine rt_v F (rs_1 F rfl rfl) ?_
 refine ⟨some ⟨n5,0,none⟩,[(.slice (some ⟨n1,0,none⟩) 4 4,[1,0,0,0]),(.slice (some ⟨n2,0,none⟩) 4 4,[0,1,0,0]),(.slice (some ⟨n3,0,none⟩) 4 4,[1,1,1,0]),(.slice (some ⟨n4,0,none⟩) 4 4,[0,0,0,1])],rfl,rfl,lol_lit _ q5 ?_,E⟩
 intro p hp;simp only [List.mem_cons,List.not_mem_nil,or_false] at hp;rcases hp with rfl | rfl | rfl | rfl;(· exact row_lit [1,0,0,0] q1);(· exact row_lit [0,1,0,0] q2);(· exact row_lit [1,1,1,0] q3);(· exact row_lit [0,0,0,1] q4)
set_option maxRecDepth 100000 in
set_option maxHeartbeats 1000000 in
theorem xOff_ok (x : Vm) (hv : VOk x) (k : Nat) (hk : k < x.L.length) (l : List Int) (hl : RcpOk x l) (s : List Int) (hs : SmpOk x s) (a b : Option Addr) (c d : Nat) (w : World) (h : x.At w) (hr : IsRows w (.slice a l.length c) 1 (l.map intRow)) (hq : IsRows w (.slice b s.length d) 1 (s.map intRow)) :
  Calls Tryz.prog 26 #[.agg #[.int .i64 x.B,.slice x.da x.D.length x.dc,.slice x.la x.L.length x.lc,.int .i64 x.tol],.int .i64 ((k : Nat) : Int),.slice a l.length c,.slice b s.length d] w fun e w'=>e = .returned (.tuple #[.int .i64 (offE x k (val l) (val s)),.int .i64 0]) ∧ Ext [] w w':=by
 have E : Ext [] w w:=Ext.refl _ _
 have HX:=Lib.hid h
 have HV:=Lib.hid hv
 have HR:=Lib.hid hr
 have HQ:=Lib.hid hq
 have HL:=Lib.hid hl
 have HS:=Lib.hid hs
 clear h hv hr hq hl hs
 refine calls_hasM 28 Tryz.func26 rfl Tryz.ntmps26 (Nat.le_of_ble_eq_true rfl) ?_
 intro fa F
 refine wp_seq_k fun K1 hK1=>?_
 refine wp_region_lit ?_
 refine sq_new F rfl (by decide) rfl (R_box rfl (F.at rfl)) ?_;clear F fa;intro fa w1 F hw
 obtain ⟨n4,hn⟩ : ∃ n,n = w.heap.size:=⟨_,rfl⟩
 rw [← hn] at F
 have s4 : w.heap.size ≤ n4:=Nat.le_of_eq hn.symm
 have l4_E : w.heap.size ≤ n4:=by rw [hn];exact E.size
 replace E:=ext_alloc E hw
 have q4:=new_row hw hn
 clear hw hn
 refine F.vl (R_assign rfl (ev_c fa _)) ?_;clear F fa;intro fa F
 refine sq_new F rfl (by decide) rfl (R_alloc rfl Tryz.zeroValue35) ?_;clear F fa;intro fa w2 F hw
 obtain ⟨n9,hn⟩ : ∃ n,n = w1.heap.size:=⟨_,rfl⟩
 rw [← hn] at F
 have s9 : w1.heap.size ≤ n9:=Nat.le_of_eq hn.symm
 have l9_E : w.heap.size ≤ n9:=by rw [hn];exact E.size
 have m9_4 : n4 < n9:=by rw [hn];exact blk_lt q4
 replace q4:=keep_alloc hw q4
 replace E:=ext_alloc E hw
 have q9:=new_one hw rfl hn
 clear hw hn
 refine wpList_nil ?_
 refine hK1 _ _ ?_
 clear hK1
 refine wp_seq_k fun K2 hK2=>?_
 refine wp_region_lit ?_
 refine sq_defer F rfl rfl (R_defer rfl rfl (mpS (F.at rfl) mp0)) ?_;clear F fa;intro fa F
 refine wpList_nil ?_
 refine hK2 _ _ ?_
 clear hK2
 refine wp_seq_k fun K3 hK3=>?_
 refine wp_region_lit ?_
 refine F.vl (R_loadBlk rfl (F.at rfl) Tryz.underlying24 rfl (by kernel_rfl) q4) ?_;clear F fa;intro fa F
 refine sq_call F rfl (by decide) rfl (R_callV rfl rfl Tryz.call40 (mpS (F.at rfl) mp0)) (begin_ok x HV.out _ (HX.out.ext E)) fun e w3 hR=>?_
 obtain ⟨rfl,e9⟩:=hR
 refine ⟨_,rfl,?_⟩;clear F fa;intro fa F
 replace q4:=(e9).keep0 q4
 replace q9:=(e9).keep0 q9
 replace E:=ext_same E (e9)
 clear e9
 refine sq_new F rfl (by decide) rfl (R_alloc rfl Tryz.zeroValue69) ?_;clear F fa;intro fa w4 F hw
 obtain ⟨n10,hn⟩ : ∃ n,n = w3.heap.size:=⟨_,rfl⟩
 rw [← hn] at F
 have s10 : w3.heap.size ≤ n10:=Nat.le_of_eq hn.symm
 have l10_E : w.heap.size ≤ n10:=by rw [hn];exact E.size
 have m10_4 : n4 < n10:=by rw [hn];exact blk_lt q4
 have m10_9 : n9 < n10:=by rw [hn];exact blk_lt q9
 replace q4:=keep_alloc hw q4
 replace q9:=keep_alloc hw q9
 replace E:=ext_alloc E hw
 have q10:=new_row hw hn
 clear hw hn
 refine sq_to rfl rfl (R_storeRow rfl (F.at rfl) (F.at rfl) (by kernel_rfl) (by first | (simp [Value.oneCell'];done) | (simp [Value.oneCell',id];done)) q10 rfl) ?_;intro w5 hw
 replace q4:=keep_cells hw q4 (by omega)
 replace q9:=keep_cells hw q9 (by omega)
 replace q10:=put_row hw q10 rfl
 replace E:=ext_cells E hw (fun h=>by first | exact absurd h (by omega) | simp)
 clear hw
 refine wpList_nil ?_
 refine hK3 _ _ ?_
 clear hK3
 refine wp_seq_k fun K4 hK4=>?_
 refine wp_region_lit ?_
 refine F.vl (R_loadBlk rfl (F.at rfl) Tryz.underlying69 rfl (by kernel_rfl) q10) ?_;clear F fa;intro fa F
 refine F.mv ?_;clear F fa;intro fa F
 refine sq_call F rfl (by decide) rfl (R_callV rfl rfl Tryz.call51 (mpS (F.at rfl) (mpS (F.at rfl) mp0))) (lamp_ok x HV.out ((k : Nat) : Int) (by omega) (by omega) _) fun e w6 hR=>?_
 obtain ⟨rfl,e9⟩:=hR
 refine ⟨_,rfl,?_⟩;clear F fa;intro fa F
 replace q4:=(e9).keep0 q4
 replace q9:=(e9).keep0 q9
 replace q10:=(e9).keep0 q10
 replace E:=ext_same E (e9)
 clear e9
 refine wpList_nil ?_
 refine hK4 _ _ ?_
 clear hK4
 refine wp_seq_k fun K5 hK5=>?_
 refine wp_region_lit ?_
 refine F.vl (R_loadBlk rfl (F.at rfl) Tryz.underlying69 rfl (by kernel_rfl) q10) ?_;clear F fa;intro fa F
 refine F.mv ?_;clear F fa;intro fa F
 refine sq_call F rfl (by decide) rfl (R_callV rfl rfl Tryz.call52 (mpS (F.at rfl) (mpS (F.at rfl) mp0))) (recipe_ok x HV.out l HL.out a c _ (HR.out.ext E (by simp))) fun e w7 hR=>?_
 obtain ⟨rfl,e9⟩:=hR
 refine ⟨_,rfl,?_⟩;clear F fa;intro fa F
 replace q4:=(e9).keep0 q4
 replace q9:=(e9).keep0 q9
 replace q10:=(e9).keep0 q10
 replace E:=ext_same E (e9)
 clear e9
 refine sq_new F rfl (by decide) rfl (R_alloc rfl Tryz.zeroValue75) ?_;clear F fa;intro fa w8 F hw
 obtain ⟨n11,hn⟩ : ∃ n,n = w7.heap.size:=⟨_,rfl⟩
 rw [← hn] at F
 have s11 : w7.heap.size ≤ n11:=Nat.le_of_eq hn.symm
 have l11_E : w.heap.size ≤ n11:=by rw [hn];exact E.size
 have m11_4 : n4 < n11:=by rw [hn];exact blk_lt q4
 have m11_9 : n9 < n11:=by rw [hn];exact blk_lt q9
 have m11_10 : n10 < n11:=by rw [hn];exact blk_lt q10
 replace q4:=keep_alloc hw q4
 replace q9:=keep_alloc hw q9
 replace q10:=keep_alloc hw q10
 replace E:=ext_alloc E hw
 have q11:=new_row hw hn
 clear hw hn
 refine sq_to rfl rfl (R_storeRow rfl (F.at rfl) (F.at rfl) (by kernel_rfl) (by simp [tubC,Value.oneCell']) q11 rfl) ?_;intro w9 hw
 replace q4:=keep_cells hw q4 (by omega)
 replace q9:=keep_cells hw q9 (by omega)
 replace q10:=keep_cells hw q10 (by omega)
 replace q11:=put_row hw q11 rfl
 replace E:=ext_cells E hw (fun h=>by first | exact absurd h (by omega) | simp)
 clear hw
 refine wpList_nil ?_
 refine hK5 _ _ ?_
 clear hK5
 refine wp_seq_k fun K6 hK6=>?_
 refine wp_region_lit ?_
 refine F.vl (R_loadBlk rfl (F.at rfl) Tryz.underlying69 rfl (by kernel_rfl) q10) ?_;clear F fa;intro fa F
 refine F.mv ?_;clear F fa;intro fa F
 refine sq_call F rfl (by decide) rfl (R_callV rfl rfl Tryz.call41 (mpS (F.at rfl) (mpS (F.at rfl) mp0))) (sample_ok x HV.out s HS.out b d _ (HQ.out.ext E (by simp))) fun e w10 hR=>?_
 obtain ⟨rfl,e9⟩:=hR
 refine ⟨_,rfl,?_⟩;clear F fa;intro fa F
 replace q4:=(e9).keep0 q4
 replace q9:=(e9).keep0 q9
 replace q10:=(e9).keep0 q10
 replace q11:=(e9).keep0 q11
 replace E:=ext_same E (e9)
 clear e9
 refine wpList_nil ?_
 refine hK6 _ _ ?_
 clear hK6
 refine wp_seq_k fun K7 hK7=>?_
 refine wp_region_lit ?_
 refine F.vl (R_loadBlk rfl (F.at rfl) Tryz.underlying69 rfl (by kernel_rfl) q10) ?_;clear F fa;intro fa F
 refine F.mv ?_;clear F fa;intro fa F
 refine F.vl (R_loadBlk rfl (F.at rfl) Tryz.underlying75 rfl (by kernel_rfl) q11) ?_;clear F fa;intro fa F
 refine F.mv ?_;clear F fa;intro fa F
 refine sq_call F rfl (by decide) rfl (R_callV rfl rfl Tryz.call53 (mpS (F.at rfl) (mpS (F.at rfl) (mpS (F.at rfl) (mpS (F.at rfl) mp0))))) (off_ok x HV.out k hk (val l) HL.out.tub s HS.out b d _ (HX.out.ext E) (HQ.out.ext E (by simp))) fun e w11 hR=>?_
 obtain ⟨rfl,e9⟩:=hR
 refine ⟨_,rfl,?_⟩;clear F fa;intro fa F
 replace q4:=(e9).keep0 q4
 replace q9:=(e9).keep0 q9
 replace q10:=(e9).keep0 q10
 replace q11:=(e9).keep0 q11
 replace E:=ext_same E (e9)
 clear e9
 refine F.as ?_;clear F fa;intro fa F
 refine sq_to rfl rfl (R_store rfl (F.at rfl) (ev_c fa _) rfl (by kernel_rfl) ((cells_of_block q9 0).trans (get0)) (free_of_block q9 0)) ?_;intro w12 hw
 replace q4:=keep_cell hw q4 (by omega)
 replace q9:=put_cell hw q9 (by simp only [List.setIfInBounds_toArray,lsQ,lzQ];exact rfl)
 replace q10:=keep_cell hw q10 (by omega)
 replace q11:=keep_cell hw q11 (by omega)
 replace E:=ext_cell E hw (fun h=>by first | exact absurd h (by omega) | simp)
 clear hw
 refine wpList_nil ?_
 refine hK7 _ _ ?_
 clear hK7
 refine wp_ret ?_
 (try simp only [Exit.inBlock,Exit.then,reduceIte])
 refine rtM_v F ?_
 refine lv_caught ?_
 refine lv_nil (rs_tc F rfl rfl rfl Tryz.underlying35 rfl q9) ?_
 exact ⟨rfl,E⟩
def mkV (B : Int) (D L : List (List Int)) (tol : Int) : Vm:={ B:=B,tol:=tol,da:=none,dc:=0,la:=none,lc:=0,D:=D.map fun l=>(.bool true,l),L:=L.map fun l=>(.bool true,l) }
structure AlkV' (x y : Vm) : Prop where
 b : x.B = y.B
 t : x.tol = y.tol
 d : x.D.map (·.2) = y.D.map (·.2)
 l : x.L.map (·.2) = y.L.map (·.2)
section
variable {x y : Vm} (h : AlkV' x y)
include h
theorem AlkV'.dl : x.D.length = y.D.length:=by have:=congrArg List.length h.d;simpa using this
theorem AlkV'.ll : x.L.length = y.L.length:=by have:=congrArg List.length h.l;simpa using this
theorem AlkV'.dye (k : Nat) : x.dye k = y.dye k:=by
 have:=congrArg (fun l=>l.getD k []) h.d
 simp only [Vm.dye]
 by_cases hk : k < x.D.length
 ·have h1:=key_getD x.D hk
  have h2:=key_getD y.D (h.dl ▸ hk)
  rw [← h1,← h2];exact this
 ·rw [List.getD_eq_getElem?_getD,List.getD_eq_getElem?_getD,List.getElem?_eq_none (by omega),List.getElem?_eq_none (by have:=h.dl;omega)]
theorem AlkV'.lamp (k : Nat) : x.lamp k = y.lamp k:=by
 have:=congrArg (fun l=>l.getD k []) h.l
 simp only [Vm.lamp]
 by_cases hk : k < x.L.length
 ·have h1:=key_getD x.L hk
  have h2:=key_getD y.L (h.ll ▸ hk)
  rw [← h1,← h2];exact this
 ·rw [List.getD_eq_getElem?_getD,List.getD_eq_getElem?_getD,List.getElem?_eq_none (by omega),List.getElem?_eq_none (by have:=h.ll;omega)]
theorem AlkV'.tn (f : Nat → Int) : tnE x f = tnE y f:=by funext j;simp only [tnE,tonE,h.dl,h.dye]
theorem AlkV'.off (k : Nat) (f s : Nat → Int) : offE x k f s = offE y k f s:=by simp only [offE,h.lamp,h.tn,h.b]
theorem AlkV'.mat (f s : Nat → Int) (ls : List Int) : matE x f s ls = matE y f s ls:=by simp only [matE,h.off,h.t]
theorem AlkV'.matL (s : Nat → Int) (ls : List Int) : matL x s ls = matL y s ls:=by
 rw [Go.Proofs.YtdjeecgddbjbeaaGreat.matL,Go.Proofs.YtdjeecgddbjbeaaGreat.matL,h.dl]
 congr 1
 funext t
 simp only [cndE,h.mat]
theorem AlkV'.few (s : Nat → Int) (ls : List Int) : fewR x s ls = fewR y s ls:=by simp only [fewR,h.matL,h.dl]
theorem AlkV'.cor (t : List Int) (s : Nat → Int) (ls : List Int) : corR x t s ls = corR y t s ls:=by
 have : corB x t s ls = corB y t s ls:=by funext q;simp only [corB,h.mat]
 simp only [corR,corO,this,h.dl]
theorem AlkV'.alk (k : Nat) (f g : Nat → Int) : alkE x k f g = alkE y k f g:=by
 have : alkV x k f g = alkV y k f g:=by simp only [alkV,h.lamp,h.tn,h.b]
 rw [alkE,alkE,this,h.t]
theorem AlkV'.tel (T : List (List Int)) : telR x T = telR y T:=by
 have h1 : unN x T = unN y T:=by
  funext n
  have : unP x n T = unP y n T:=by funext j k;simp only [unP,h.alk]
  simp only [unN,this]
 have h2 : cT x T = cT y T:=by funext n;simp only [cT,h1]
 simp only [telR,h1,h2,h.ll]
theorem AlkV'.sha (lp : Nat) (T : List (List Int)) : shaR x lp T = shaR y lp T:=by
 have : shdE x T lp = shdE y T lp:=by funext j k;simp only [shdE,h.lamp,h.tn,h.b]
 simp only [shaR,this]
theorem AlkV'.mos (ls : List Int) (T : List (List Int)) : mosR x ls T = mosR y ls T:=by
 have : nrB x ls T = nrB y ls T:=by funext j k;simp only [nrB,h.alk]
 simp only [mosR,this]
theorem AlkV'.ok (hy : VOk y) : VOk x:=by
 have key : ∀ {P : List Int → Prop} {X Y : List (Value × List Int)},X.map (·.2) = Y.map (·.2) → (∀ p ∈ Y,P p.2) → ∀ p ∈ X,P p.2:=by
  intro P X Y he hP p hp
  have : p.2 ∈ X.map (·.2):=List.mem_map.2 ⟨p,hp,rfl⟩
  rw [he] at this
  obtain ⟨q,hq,e⟩:=List.mem_map.1 this
  rw [← e];exact hP q hq
 refine ⟨by rw [h.b,h.t,h.d,h.l];exact hy.chk,by rw [h.b];exact hy.b1,by rw [h.b];exact hy.b3,by rw [h.dl];exact hy.d1,by rw [h.dl];exact hy.d4,?_,by rw [h.ll];exact hy.l1,by rw [h.ll];exact hy.l3,?_,by rw [h.t];exact hy.t0,by rw [h.t];exact hy.t12⟩
 ·rw [h.b];exact key (P:=fun l=>(l.length : Int) = y.B ∧ ∀ n ∈ l,0 ≤ n ∧ n ≤ 9) h.d hy.dl
 ·rw [h.b];exact key (P:=fun l=>(l.length : Int) = y.B ∧ ∀ n ∈ l,0 ≤ n ∧ n ≤ 3) h.l hy.ll
end
def vat0 : Vm:=mkV 3 vatD vatL 1
theorem vat0_ok : VOk vat0:=by
 refine ⟨?_,?_,?_,?_,?_,?_,?_,?_,?_,?_,?_⟩ <;> decide +kernel
theorem IsVat.alk {x : Vm} (h : IsVat x) : AlkV' x vat0:=⟨h.b,h.t,by rw [h.d];rfl,by rw [h.l];rfl⟩
theorem val_few : fewR vat0 (val [4,3,2]) [0,1] = ([1,2,0,0],0):=by decide +kernel
theorem val_off : offE vat0 1 (val [1,1,0,0]) (val [4,3,2]) = 6:=by decide +kernel
theorem val_cor : corR vat0 [0,0,0,1] (val [4,3,2]) [0,1] = ([1,1,0,0],0):=by decide +kernel
theorem val_tel : telR vat0 clothL = (1,5,0):=by decide +kernel
theorem val_sha : shaR vat0 1 clothL = [1,2,3,0]:=by decide +kernel
theorem val_mos : mosR vat0 [1] clothL = [2,3]:=by decide +kernel
section
variable {x : Vm} (h : IsVat x)
include h
theorem IsVat.ok : VOk x:=h.alk.ok vat0_ok
theorem IsVat.smp : SmpOk x [4,3,2]:=⟨by rw [h.b];rfl,by decide⟩
theorem IsVat.dl : x.D.length = 4:=h.alk.dl
theorem IsVat.ll : x.L.length = 2:=h.alk.ll
theorem IsVat.both : LmpsOk x [0,1]:=⟨by decide,by rw [LmpOk,h.ll];decide,fun i h0 h1=>by rcases i with _ | _ | i;(· omega);(· decide);(· simp at h1;omega)⟩
theorem IsVat.one : LmpsOk x [1]:=⟨by decide,by rw [LmpOk,h.ll];decide,fun i h0 h1=>by simp at h1;omega⟩
theorem IsVat.rcp {l : List Int} (h1 : l.length = 4) (h2 : ∀ n ∈ l,0 ≤ n ∧ n ≤ 6) (h3 : 1 ≤ l.sum) (h4 : l.sum ≤ 6) : RcpOk x l:=⟨by rw [h.dl];exact h1,h2,h3,h4⟩
theorem IsVat.cloths {S : List (Value × List Int)} (hs : S.map (·.2) = clothL) : ∀ p ∈ S,RcpOk x p.2:=by
 have key : ∀ l ∈ clothL,l.length = 4 ∧ (∀ n ∈ l,0 ≤ n ∧ n ≤ 6) ∧ 1 ≤ l.sum ∧ l.sum ≤ 6:=by decide
 intro p hp
 have hm : p.2 ∈ clothL:=by rw [← hs];exact List.mem_map.2 ⟨p,hp,rfl⟩
 obtain ⟨h1,h2,h3,h4⟩:=key _ hm
 exact h.rcp h1 h2 h3 h4
theorem IsVat.few : fewR x (val [4,3,2]) [0,1] = ([1,2,0,0],0):=(h.alk.few _ _).trans val_few
theorem IsVat.off : offE x 1 (val [1,1,0,0]) (val [4,3,2]) = 6:=(h.alk.off _ _ _).trans val_off
theorem IsVat.cor : corR x [0,0,0,1] (val [4,3,2]) [0,1] = ([1,1,0,0],0):=(h.alk.cor _ _ _).trans val_cor
theorem IsVat.tel : telR x clothL = (1,5,0):=(h.alk.tel _).trans val_tel
theorem IsVat.sha : shaR x 1 clothL = [1,2,3,0]:=(h.alk.sha _ _).trans val_sha
theorem IsVat.mos : mosR x [1] clothL = [2,3]:=(h.alk.mos _ _).trans val_mos
end
theorem four_len {S : List (Value × List Int)} (hs : S.map (·.2) = clothL) : S.length = 4:=by have:=congrArg List.length hs;simpa [clothL] using this
section
variable {x : Vm} (h : IsVat x) {w : World} (ha : x.At w)
include h ha
theorem dy_few {a b : Option Addr} {c d : Nat} (hr : IsRows w (.slice a [(4 : Int),3,2].length c) 1 ([(4 : Int),3,2].map intRow)) (hq : IsRows w (.slice b [(0 : Int),1].length d) 1 ([(0 : Int),1].map intRow)) :
  Calls Tryz.prog 14 #[.agg #[.int .i64 x.B,.slice x.da x.D.length x.dc,.slice x.la x.L.length x.lc,.int .i64 x.tol],.slice a 3 c,.slice b 2 d] w fun e w'=>∃ a c,e = .returned (.tuple #[.slice a 4 c,.int .i64 0]) ∧ IsRows w' (.slice a [(1 : Int),2,0,0].length c) 1 ([(1 : Int),2,0,0].map intRow) ∧ Ext [] w w':=by
 refine Calls.mono (xFewest_ok x h.ok [4,3,2] h.smp [0,1] h.both (by decide) a b c d w ha hr hq) ?_
 rintro e w' ⟨a,c,he,ho,hE⟩
 rw [h.few] at he ho
 exact ⟨a,c,he,rows_of_ivs ho rfl,hE⟩
theorem dy_off {a b : Option Addr} {c d : Nat} (hr : IsRows w (.slice a [(1 : Int),1,0,0].length c) 1 ([(1 : Int),1,0,0].map intRow)) (hq : IsRows w (.slice b [(4 : Int),3,2].length d) 1 ([(4 : Int),3,2].map intRow)) :
  Calls Tryz.prog 26 #[.agg #[.int .i64 x.B,.slice x.da x.D.length x.dc,.slice x.la x.L.length x.lc,.int .i64 x.tol],.int .i64 1,.slice a 4 c,.slice b 3 d] w fun e w'=>e = .returned (.tuple #[.int .i64 6,.int .i64 0]) ∧ Ext [] w w':=by
 have:=xOff_ok x h.ok 1 (by rw [h.ll];decide) [1,1,0,0] (h.rcp rfl (by decide) (by decide) (by decide)) [4,3,2] h.smp a b c d w ha hr hq
 rw [h.off] at this
 exact this
theorem dy_cor {a b k : Option Addr} {c d l : Nat} (hp : IsRows w (.slice a [(0 : Int),0,0,1].length c) 1 ([(0 : Int),0,0,1].map intRow)) (hr : IsRows w (.slice b [(4 : Int),3,2].length d) 1 ([(4 : Int),3,2].map intRow)) (hq : IsRows w (.slice k [(0 : Int),1].length l) 1 ([(0 : Int),1].map intRow)) :
  Calls Tryz.prog 27 #[.agg #[.int .i64 x.B,.slice x.da x.D.length x.dc,.slice x.la x.L.length x.lc,.int .i64 x.tol],.slice a 4 c,.slice b 3 d,.slice k 2 l] w fun e w'=>∃ a c,e = .returned (.tuple #[.slice a 4 c,.int .i64 0]) ∧ IsRows w' (.slice a [(1 : Int),1,0,0].length c) 1 ([(1 : Int),1,0,0].map intRow) ∧ Ext [] w w':=by
 refine Calls.mono (xCorrect_ok x h.ok [0,0,0,1] (h.rcp rfl (by decide) (by decide) (by decide)) [4,3,2] h.smp [0,1] h.both (by decide) a b k c d l w ha hp hr hq) ?_
 rintro e w' ⟨a,c,he,ho,hE⟩
 rw [h.cor] at he ho
 exact ⟨a,c,he,rows_of_ivs ho rfl,hE⟩
theorem dy_tel {a : Option Addr} {c : Nat} {S : List (Value × List Int)} (hs : S.map (·.2) = clothL) (hl : LolAt w a S) :
  Calls Tryz.prog 28 #[.agg #[.int .i64 x.B,.slice x.da x.D.length x.dc,.slice x.la x.L.length x.lc,.int .i64 x.tol],.slice a S.length c] w fun e w'=>e = .returned (.tuple #[.int .i64 1,.int .i64 5,.int .i64 0]) ∧ Ext [] w w':=by
 have:=xTelling_ok x h.ok S (h.cloths hs) (by rw [four_len hs];decide) a c w ha hl
 rw [hs,h.tel] at this
 exact this
theorem dy_sha {a : Option Addr} {c : Nat} {S : List (Value × List Int)} (hs : S.map (·.2) = clothL) (hl : LolAt w a S) :
  Calls Tryz.prog 30 #[.agg #[.int .i64 x.B,.slice x.da x.D.length x.dc,.slice x.la x.L.length x.lc,.int .i64 x.tol],.int .i64 1,.slice a S.length c] w fun e w'=>∃ a c,e = .returned (.tuple #[.slice a 4 c,.int .i64 0]) ∧ IsRows w' (.slice a [(1 : Int),2,3,0].length c) 1 ([(1 : Int),2,3,0].map intRow) ∧ Ext [] w w':=by
 refine Calls.mono (xShades_ok x h.ok 1 (by rw [h.ll];decide) S (h.cloths hs) (by rw [four_len hs];decide) a c w ha hl) ?_
 rintro e w' ⟨a,c,he,ho,hE⟩
 rw [hs,h.sha] at he ho
 exact ⟨a,c,he,rows_of_ivs ho rfl,hE⟩
theorem dy_mos {a b : Option Addr} {c d : Nat} {S : List (Value × List Int)} (hs : S.map (·.2) = clothL) (hl : LolAt w a S) (hq : IsRows w (.slice b [(1 : Int)].length d) 1 ([(1 : Int)].map intRow)) :
  Calls Tryz.prog 31 #[.agg #[.int .i64 x.B,.slice x.da x.D.length x.dc,.slice x.la x.L.length x.lc,.int .i64 x.tol],.slice a S.length c,.slice b 1 d] w fun e w'=>∃ a c,e = .returned (.tuple #[.slice a 2 c,.int .i64 0]) ∧ IsRows w' (.slice a [(2 : Int),3].length c) 1 ([(2 : Int),3].map intRow) ∧ Ext [] w w':=by
 refine Calls.mono (xMost_ok x h.ok S (h.cloths hs) (by rw [four_len hs];decide) [1] h.one (by decide) a b c d w ha hl hq) ?_
 rintro e w' ⟨a,c,he,ho,hE⟩
 rw [hs,h.mos] at he ho
 exact ⟨a,c,he,rows_of_ivs ho rfl,hE⟩
end
end Go.Proofs.YtdjeecgddbjbeaaGreat
