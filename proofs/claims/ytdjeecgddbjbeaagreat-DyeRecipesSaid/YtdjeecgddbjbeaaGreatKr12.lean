/- Parts of a proof: Dkv, Dwi, Dtu, Dfl, Dfm, Dmi. No conditions. -/
import Derived.Maps.OwnSet
import Derived.Test.YtdjeecgddbjbeaaGreatKr4
import Derived.Test.YtdjeecgddbjbeaaGreatKr5
import Derived.Test.YtdjeecgddbjbeaaGreatKr6
import Derived.Test.YtdjeecgddbjbeaaGreatKr8
import Derived.Test.YtdjeecgddbjbeaaGreatKr11
set_option linter.unusedVariables false
set_option linter.unusedSimpArgs false
namespace Go.Proofs.YtdjeecgddbjbeaaGreat
open Go.RowKit
theorem dyeE_zero {B : Int} : ∀ (ds met : List (List Int)),(∀ d ∈ ds,numE d B 9 = 0) → (met ++ ds).Nodup → dyeE B met ds = 0
 | [],_,_,_=>rfl
 | d :: ds,met,h,hn=>by
  rw [dyeE,if_neg (by simp [h d (by simp)])]
  have h1 : d ∉ met:=fun hm=>by
   rw [List.nodup_append] at hn
   exact hn.2.2 d hm d (by simp) rfl
  rw [if_neg h1]
  exact dyeE_zero ds (met ++ [d]) (fun e he=>h e (by simp [he])) (by simpa using hn)
theorem lampE_zero {B : Int} : ∀ (ls : List (List Int)),(∀ l ∈ ls,numE l B 3 = 0 ∧ l.sum ≠ 0) → lampE B ls = 0
 | [],_=>rfl
 | l :: ls,h=>by
  obtain ⟨h1,h2⟩:=h l (by simp)
  rw [lampE,if_neg (by simp [h1]),if_neg h2]
  exact lampE_zero ls fun m hm=>h m (by simp [hm])
theorem vok_of {x : Vm} (b1 : 1 ≤ x.B) (b3 : x.B ≤ 3) (d1 : 1 ≤ x.D.length) (d4 : x.D.length ≤ 4) (dl : ∀ p ∈ x.D,(p.2.length : Int) = x.B ∧ ∀ n ∈ p.2,0 ≤ n ∧ n ≤ 9) (nd : (x.D.map (·.2)).Nodup) (l1 : 1 ≤ x.L.length) (l3 : x.L.length ≤ 3) (ll : ∀ p ∈ x.L,(p.2.length : Int) = x.B ∧ ∀ n ∈ p.2,0 ≤ n ∧ n ≤ 3) (ls : ∀ p ∈ x.L,p.2.sum ≠ 0) (t0 : 0 ≤ x.tol) (t12 : x.tol ≤ 12) : VOk x:=by
 refine ⟨?_,b1,b3,d1,d4,dl,l1,l3,ll,t0,t12⟩
 have h2 : sizE ((x.D.map (·.2)).length : Nat) 4 = 0:=sizE_ok (by simp;omega) (by simp;omega)
 have h4 : sizE ((x.L.map (·.2)).length : Nat) 3 = 0:=sizE_ok (by simp;omega) (by simp;omega)
 have h3 : dyeE x.B [] (x.D.map (·.2)) = 0:=dyeE_zero _ _ (fun d hd=>by obtain ⟨p,hp,rfl⟩:=List.mem_map.1 hd;exact numE_ok (dl p hp).1 (dl p hp).2) (by simpa using nd)
 have h5 : lampE x.B (x.L.map (·.2)) = 0:=lampE_zero _ (fun d hd=>by obtain ⟨p,hp,rfl⟩:=List.mem_map.1 hd;exact ⟨numE_ok (ll p hp).1 (ll p hp).2,ls p hp⟩)
 rw [chk6 (outB_no.2 ⟨b1,b3⟩) h2 h3 h4 h5,outB_no.2 ⟨t0,t12⟩]
 rfl
theorem own_capN {w : World} {base n size m c : Nat} {a : Option Addr} {cs : List Value} {e : TypeId} (h : w.ownsRow base e size (.slice a m c) n cs) : n ≤ c:=by
 rcases h.2 with ⟨hv,hn⟩ | ⟨g,cap,cur,hv,-,-,hn,-⟩
 ·injection hv with h1 h2 h3;omega
 ·injection hv with h1 h2 h3;omega
theorem lol_ext {w W : World} {b base b2 : Nat} {a : Option Addr} {c : Nat} {M : List (Value × List Int)} (oo : w.ownsRow base 25 1 (.slice a M.length c) M.length (M.map (·.1))) (fam : FamT w b2 M) (e : Ext [b] w W) (h1 : b < base) (h2 : b < b2) : LolAt W a M:=
 lol_of_own (owns_ext oo e (by simpa using h1)) (fam_lift fam fun v n xs h=>owns_ext h e (by simpa using h2))
def VatPost (dm : Nat) (w0 : World) (b k : Nat) (nv : Value) (w : World) (e : Ending) (w' : World) : Prop:=∃ x : Vm,e = .returned (.agg #[.int .i64 x.B,.slice x.da x.D.length x.dc,.slice x.la x.L.length x.lc,.int .i64 x.tol]) ∧ VOk x ∧ (x.D.length ≤ dm ∧ x.D.length ≤ x.dc) ∧ AtB b x w' ∧ LotsOk w0 w' b (k + 100) nv ∧ Ext [b] w w'
set_option maxRecDepth 100000 in
set_option maxHeartbeats 4000000 in
theorem vatOf_any (dm : Nat) (hdm1 : 1 ≤ dm) (hdm : dm ≤ 4) (w0 w : World) (b k : Nat) (nv : Value) (h : LotsOk w0 w b k nv) (hk : k ≤ 800000) :
  Calls Tryz.prog 32 #[.pointer (some ⟨b,0,none⟩),.int .i64 ((dm : Nat) : Int)] w (VatPost dm w0 b k nv w):=by
 have HL:=h
 have hbw:=lots_lt HL
 have hb0:=HL.1
 have hws : w0.heap.size ≤ w.heap.size:=HL.2.2.1.size
 have E : Ext [b] w w:=Ext.refl _ _
 clear h
 refine calls_has 66 Tryz.func32 rfl Tryz.ntmps32 (Nat.le_of_ble_eq_true rfl) ?_
 intro fa F
 refine wp_seq_k fun K1 hK1=>?_
 refine wp_region_lit ?_
 refine sq_new F rfl (by decide) rfl (R_alloc rfl Tryz.zeroValue24) ?_;clear F fa;intro fa w1 F hw
 obtain ⟨n4,hn⟩ : ∃ n,n = w.heap.size:=⟨_,rfl⟩
 rw [← hn] at F
 have s4 : w.heap.size ≤ n4:=Nat.le_of_eq hn.symm
 have l4_E : w.heap.size ≤ n4:=by rw [hn];exact E.size
 have b4_HL:=Nat.lt_of_lt_of_eq (lots_lt HL) hn.symm
 replace E:=ext_alloc E hw
 replace HL:=lots_alloc hw HL
 have q4:=new_row hw hn
 clear hw hn
 refine wpList_nil ?_
 refine hK1 _ _ ?_
 clear hK1
 refine wp_seq_k fun K2 hK2=>?_
 refine wp_region_lit ?_
 refine F.mv ?_;clear F fa;intro fa F
 refine sq_call F rfl (by decide) rfl (R_callV rfl rfl Tryz.call69 (mpS (F.at rfl) (mpS (ev_c fa _) (mpS (ev_c fa _) mp0)))) (in_any w0 _ b _ nv 1 3 HL (by omega) (by omega) (by omega) (by omega) (by omega)) fun e w2 hR=>?_
 obtain ⟨bz,rfl,hbz1,hbz2,HL,e9⟩:=hR
 refine ⟨_,rfl,?_⟩;clear F fa;intro fa F
 replace q4:=(e9).keep q4 (by simp;omega)
 replace E:=E.trans' e9 (fun i hi hl=>by simp only [List.mem_cons,List.not_mem_nil,or_false] at hi ⊢;omega)
 obtain ⟨bn,rfl⟩:=Int.eq_ofNat_of_zero_le (show 0 ≤ bz by omega)
 refine F.mv ?_;clear F fa;intro fa F
 refine F.mv ?_;clear F fa;intro fa F
 refine sq_call F rfl (by decide) rfl (R_callV rfl rfl Tryz.call33 (mpS (F.at rfl) (mpS (ev_c fa _) mp0))) (upto_any w0 _ b _ nv 6 HL (by omega) (by omega) (by omega)) fun e w3 hR=>?_
 obtain ⟨u,rfl,hu0,hu1,HL,e9⟩:=hR
 refine ⟨_,rfl,?_⟩;clear F fa;intro fa F
 replace q4:=(e9).keep q4 (by simp;omega)
 replace E:=E.trans' e9 (fun i hi hl=>by simp only [List.mem_cons,List.not_mem_nil,or_false] at hi ⊢;omega)
 refine sq_new F rfl (by decide) rfl (R_buildSliceV rfl (prS (ev_c fa _) (prS (ev_c fa _) (prS (ev_c fa _) (prS (ev_c fa _) (prS (F.at rfl) pr0))))) Tryz.underlying25 (size:=1) (by kernel_rfl) (by decide) (by decide) Tryz.zeroValue3 (cells:=#[.int .i64 0,.int .i64 1,.int .i64 1,.int .i64 2,.int .i64 u]) (by kernel_rfl)) ?_;clear F fa;intro fa w4 F hw
 obtain ⟨n15,hn⟩ : ∃ n,n = w3.heap.size:=⟨_,rfl⟩
 rw [← hn] at F
 have s15 : w3.heap.size ≤ n15:=Nat.le_of_eq hn.symm
 have l15_E : w.heap.size ≤ n15:=by rw [hn];exact E.size
 have b15_HL:=Nat.lt_of_lt_of_eq (lots_lt HL) hn.symm
 have m15_4 : n4 < n15:=by rw [hn];exact blk_lt q4
 replace q4:=keep_alloc hw q4
 replace E:=ext_alloc E hw
 replace HL:=lots_alloc hw HL
 have q15:=new_block hw hn
 clear hw hn
 refine sq_call F rfl (by decide) rfl (R_callV rfl rfl Tryz.call36 (mpS (F.at rfl) (mpS (F.at rfl) mp0))) (of_any w0 _ b _ nv n15 _ [0,1,1,2,u] HL (by omega) q15 (by omega) (by simp) (by simp)) fun e w5 hR=>?_
 obtain ⟨tl,rfl,htm,HL,e9⟩:=hR
 refine ⟨_,rfl,?_⟩;clear F fa;intro fa F
 replace q4:=(e9).keep q4 (by simp;omega)
 replace q15:=(e9).keep q15 (by simp;omega)
 replace E:=E.trans' e9 (fun i hi hl=>by simp only [List.mem_cons,List.not_mem_nil,or_false] at hi ⊢;omega)
 have htl : 0 ≤ tl ∧ tl ≤ 6:=by simp only [List.mem_cons,List.not_mem_nil,or_false] at htm;omega
 refine F.vl (R_buildV rfl (prS (F.at rfl) (prS (F.at rfl) pr0)) (cells:=#[.int .i64 ((bn : Nat) : Int),.slice none 0 0,.slice none 0 0,.int .i64 tl]) (by kernel_rfl)) ?_;clear F fa;intro fa F
 refine sq_new F rfl (by decide) rfl (R_alloc rfl Tryz.zeroValue24) ?_;clear F fa;intro fa w6 F hw
 obtain ⟨n5,hn⟩ : ∃ n,n = w5.heap.size:=⟨_,rfl⟩
 rw [← hn] at F
 have s5 : w5.heap.size ≤ n5:=Nat.le_of_eq hn.symm
 have l5_E : w.heap.size ≤ n5:=by rw [hn];exact E.size
 have b5_HL:=Nat.lt_of_lt_of_eq (lots_lt HL) hn.symm
 have m5_4 : n4 < n5:=by rw [hn];exact blk_lt q4
 replace q4:=keep_alloc hw q4
 replace E:=ext_alloc E hw
 replace HL:=lots_alloc hw HL
 have q5:=new_row hw hn
 clear hw hn
 refine sq_to rfl rfl (R_storeRow rfl (F.at rfl) (F.at rfl) (by kernel_rfl) (by first | (simp [Value.oneCell'];done) | (simp [Value.oneCell',id];done)) q5 rfl) ?_;intro w7 hw
 replace q4:=keep_cells hw q4 (by omega)
 replace q5:=put_row hw q5 rfl
 replace E:=ext_cells E hw (fun h=>by first | exact absurd h (by omega) | simp)
 replace HL:=lots_cells hw HL (by omega) (by omega)
 clear hw
 refine wpList_nil ?_
 refine hK2 _ _ ?_
 clear hK2
 refine wp_seq_k fun K3 hK3=>?_
 refine wp_seq_k fun K4 hK4=>?_
 refine wp_region_lit ?_
 refine F.mv ?_;clear F fa;intro fa F
 refine F.mv ?_;clear F fa;intro fa F
 refine sq_call F rfl (by decide) rfl (R_callV rfl rfl Tryz.call69 (mpS (F.at rfl) (mpS (ev_c fa _) (mpS (F.at rfl) mp0)))) (in_any w0 _ b _ nv 1 ((dm : Nat) : Int) HL (by omega) (by omega) (by omega) (by omega) (by omega)) fun e w8 hR=>?_
 obtain ⟨n,rfl,hn1,hn2,HL,e9⟩:=hR
 refine ⟨_,rfl,?_⟩;clear F fa;intro fa F
 replace q4:=(e9).keep q4 (by simp;omega)
 replace q5:=(e9).keep q5 (by simp;omega)
 replace E:=E.trans' e9 (fun i hi hl=>by simp only [List.mem_cons,List.not_mem_nil,or_false] at hi ⊢;omega)
 refine F.as ?_;clear F fa;intro fa F
 refine wpList_nil ?_
 rw [show n = n - ((0 : Nat) : Int) by omega] at F
 obtain ⟨wR,hwR⟩ : ∃ wR,wR = w8:=⟨_,rfl⟩
 have ER : Ext [b,n5] wR w8:=by rw [hwR];exact Ext.refl _ _
 have hb4:=blk_lt q4
 have hb5:=blk_lt q5
 have hbb:=lots_lt HL
 rw [← hwR] at hb4 hb5 hbb
 have hwR0 : w.heap.size ≤ wR.heap.size:=by rw [hwR];exact E.size
 have oo : w8.ownsRow wR.heap.size 25 1 (.slice none 0 0) 0 (([] : List (Value × List Int)).map (·.1)):=World.ownsRow_nil _ _ _ _
 have fam : FamT w8 wR.heap.size []:=fam_nil _ _
 refine hK4 _ _ ?_
 clear hK4
 refine wp_block ?_
 have F0:=F.sub (.c 0 rfl (.c 4 rfl (.c 5 rfl .n)))
 replace HL : LotsOk w0 w8 b (k + 4 + 10 * 0) nv:=lots_mono HL (by omega)
 refine lp_for F0 (dm) (fun i Lv W=>∃ da : Option Addr,∃ dc : Nat,∃ O : List (Value × List Int),Lv = [(6,.int .i64 (n - ((i : Nat) : Int)))] ∧ Ext [b] w W ∧ Ext [b,n5] wR W ∧ W.heap[n4]? = some (.cells #[.int .i64 0,.slice none 0 0,.slice none 0 0,.int .i64 0] 24 (0,0)) ∧ W.heap[n5]? = some (.cells #[.int .i64 ((bn : Nat) : Int),.slice da O.length dc,.slice none 0 0,.int .i64 tl] 24 (0,0)) ∧ LotsOk w0 W b (k + 4 + 10 * i) nv ∧ W.ownsRow wR.heap.size 25 1 (.slice da O.length dc) O.length (O.map (·.1)) ∧ FamT W wR.heap.size O ∧ (∀ p ∈ O,(p.2.length : Int) = bn ∧ ∀ m ∈ p.2,0 ≤ m ∧ m ≤ 9) ∧ (O.map (·.2)).Nodup ∧ O.length ≤ i ∧ (0 < i → 0 < O.length) ∧ (i : Int) ≤ n) ⟨_,⟨none,0,[],rfl,E,ER,q4,q5,HL,oo,fam,(by simp),(by simp),(by simp),(by simp),(by omega)⟩,F.sub (.c 6 rfl (.c 0 rfl (.c 4 rfl (.c 5 rfl .n))))⟩ ?_
 clear F F0
 clear E ER q4 q5 HL
 clear oo
 clear fam
 rintro i _ fa w9 hi1 ⟨da,dc,O,rfl,E,ER,q4,q5,HL,oo,fam,hOB,hnd,hOl,hO1,hin⟩ F
 refine wp_seq_k fun K5 hK5=>?_
 refine wp_seq_k fun K6 hK6=>?_
 refine wp_region_lit ?_
 refine F.mv ?_;clear F fa;intro fa F
 refine F.vl (R_gtr rfl (F.at rfl) (ev_c fa _)) ?_;clear F fa;intro fa F
 refine wpList_nil ?_
 refine hK6 _ _ ?_
 clear hK6
 refine cd_if F rfl (fun hc22=>?_) (fun hc22=>?_)
 ·skip
  refine wp_skip ?_
  refine hK5 _ _ ?_
  clear hK5
  refine wp_seq_k fun K7 hK7=>?_
  refine wp_block ?_
  refine wp_seq_k fun K8 hK8=>?_
  refine wp_region_lit ?_
  refine F.mv ?_;clear F fa;intro fa F
  refine F.vl (R_field rfl (F.at rfl) Tryz.underlying24 rfl (n:=0) (sz:=1) rfl (by kernel_rfl) (by decide)) ?_;clear F fa;intro fa F
  refine F.vl (R_load rfl (F.at rfl) Tryz.underlying3 rfl ((cells_of_block q5 0).trans (get0))) ?_;clear F fa;intro fa F
  have hflt:=Lib.hid (fam_lt fam)
  obtain ⟨B1,hB1⟩ : ∃ B1,B1 = w9.heap.size:=⟨_,rfl⟩
  rw [← hB1] at hflt
  have hB1w : wR.heap.size ≤ B1:=by rw [hB1];exact ER.size
  refine sq_call F rfl (by decide) rfl (R_callV rfl rfl Tryz.call70 (mpS (F.at rfl) (mpS (F.at rfl) (mpS (ev_c fa _) mp0)))) (tonesOf_any w0 _ b _ nv bn 9 HL (by omega) (by omega) (by omega) (by omega)) fun e w10 hR=>?_
  obtain ⟨ra,rc,xs,rfl,hxl,hxb,ro,HL,e9⟩:=hR
  refine ⟨_,rfl,?_⟩;clear F fa;intro fa F
  replace oo:=owns_ext oo (e9) (by simp;omega)
  replace fam:=fam_lift fam fun _ _ _ h=>owns_ext h (e9) (by simp;omega)
  replace q4:=(e9).keep q4 (by simp;omega)
  replace q5:=(e9).keep q5 (by simp;omega)
  replace E:=E.trans' e9 (fun i hi hl=>by simp only [List.mem_cons,List.not_mem_nil,or_false] at hi ⊢;omega)
  replace ER:=ER.trans' e9 (fun i hi hl=>by simp only [List.mem_cons,List.not_mem_nil,or_false] at hi ⊢;omega)
  rw [← hB1] at ro
  refine F.as ?_;clear F fa;intro fa F
  refine wpList_nil ?_
  refine hK8 _ _ ?_
  clear hK8
  refine wp_seq_k fun K9 hK9=>?_
  refine wp_region_lit ?_
  refine F.vl (R_field rfl (F.at rfl) Tryz.underlying24 rfl (n:=1) (sz:=1) rfl (by kernel_rfl) (by decide)) ?_;clear F fa;intro fa F
  refine F.vl (R_load rfl (F.at rfl) Tryz.underlying22 rfl ((cells_of_block q5 1).trans (getS (get0)))) ?_;clear F fa;intro fa F
  refine F.mv ?_;clear F fa;intro fa F
  have hin2:=isIn_any O xs da ra dc rc w10 (lol_of_own oo fam) (by rw [hxl];exact rows_of_ivs ro hxl.symm) (by omega) (fun p hp=>by have:=(hOB p hp).1;omega) (by omega)
  rw [hxl] at hin2
  refine sq_call F rfl (by decide) rfl (R_callV rfl rfl Tryz.call71 (mpS (F.at rfl) (mpS (F.at rfl) mp0))) (hin2) fun e w11 hR=>?_
  obtain ⟨rfl,e9⟩:=hR
  refine ⟨_,rfl,?_⟩;clear F fa;intro fa F
  replace oo:=owns_ext oo (e9) (by simp)
  replace fam:=fam_lift fam fun _ _ _ h=>owns_ext h (e9) (by simp)
  replace ro:=owns_ext ro (e9) (by simp)
  replace q4:=(e9).keep0 q4
  replace q5:=(e9).keep0 q5
  replace E:=ext_same E (e9)
  replace ER:=ext_same ER (e9)
  replace HL:=lots_ext (e9) HL
  clear e9
  clear hin2
  refine F.vl (R_notD rfl (F.at rfl)) ?_;clear F fa;intro fa F
  refine wpList_nil ?_
  refine hK9 _ _ ?_
  clear hK9
  refine cd_if F rfl (fun hc33=>?_) (fun hc33=>?_)
  ·skip
   have fam2:=fam_perm (fam_join (b1:=B1) (L:=[(Value.slice ra bn rc,xs)]) ⟨fun p hp=>(by obtain rfl : p = (Value.slice ra bn rc,xs):=(by simpa using hp);rw [show ((Value.slice ra bn rc,xs) : Value × List Int).2.length = bn from hxl];exact ro),List.pairwise_singleton _ _⟩ fam hflt.out hB1w) (M:=O ++ [(Value.slice ra bn rc,xs)]) List.perm_append_comm
   clear fam ro
   have fam:=fam2
   clear fam2
   obtain ⟨P,hP⟩ : ∃ P,P = O ++ [(Value.slice ra bn rc,xs)]:=⟨_,rfl⟩
   have hPl : O.length + 1 = P.length:=by rw [hP,List.length_append];rfl
   rw [← hP] at fam
   have hPB : ∀ p ∈ P,(p.2.length : Int) = bn ∧ ∀ m ∈ p.2,0 ≤ m ∧ m ≤ 9:=by intro p hp;rw [hP] at hp;rcases List.mem_append.1 hp with hp | hp;(· exact hOB p hp);(· simp only [List.mem_cons,List.not_mem_nil,or_false] at hp;subst hp;exact ⟨by show ((xs.length : Nat) : Int) = _;omega,hxb⟩)
   have hPn : (P.map (·.2)).Nodup:=by rw [hP,List.map_append,List.nodup_append];exact ⟨hnd,by simp,fun y hy z hz=>by simp only [List.map_cons,List.map_nil,List.mem_cons,List.not_mem_nil,or_false] at hz;subst hz;intro e;subst e;exact hc33 hy⟩
   refine wp_region_lit ?_
   refine F.vl (R_field rfl (F.at rfl) Tryz.underlying24 rfl (n:=1) (sz:=1) rfl (by kernel_rfl) (by decide)) ?_;clear F fa;intro fa F
   refine F.vl (R_load rfl (F.at rfl) Tryz.underlying22 rfl ((cells_of_block q5 1).trans (getS (get0)))) ?_;clear F fa;intro fa F
   refine F.mv ?_;clear F fa;intro fa F
   refine sq_new F rfl (by decide) rfl (R_buildSliceV rfl (prS (F.at rfl) pr0) Tryz.underlying22 (size:=1) (by kernel_rfl) (by decide) (by decide) Tryz.zeroValue25 (cells:=#[.slice ra bn rc]) (by kernel_rfl)) ?_;clear F fa;intro fa w12 F hw
   obtain ⟨n37,hn⟩ : ∃ n,n = w11.heap.size:=⟨_,rfl⟩
   rw [← hn] at F
   have s37 : w11.heap.size ≤ n37:=Nat.le_of_eq hn.symm
   have l37_E : w.heap.size ≤ n37:=by rw [hn];exact E.size
   have l37_ER : wR.heap.size ≤ n37:=by rw [hn];exact ER.size
   have b37_HL:=Nat.lt_of_lt_of_eq (lots_lt HL) hn.symm
   have m37_4 : n4 < n37:=by rw [hn];exact blk_lt q4
   have m37_5 : n5 < n37:=by rw [hn];exact blk_lt q5
   have o37_oo:=Lib.hid (own_ne_new oo hn)
   replace oo:=owns_alloc hw oo
   replace fam:=fam_lift fam fun _ _ _ h=>owns_alloc hw h
   replace q4:=keep_alloc hw q4
   replace q5:=keep_alloc hw q5
   replace E:=ext_alloc E hw
   replace ER:=ext_alloc ER hw
   replace HL:=lots_alloc hw HL
   have q37:=new_block hw hn
   clear hw hn
   have hEs:=ER.size
   refine sq_some F rfl (by decide) rfl (append_run rfl (wR.heap.size) (e:=25) (size:=1) (bytes:=24) Tryz.underlying22 (by kernel_rfl) (by decide) (F.at rfl) oo (F.at rfl) q37 rfl (by simp [Value.oneCell']) (by omega) (by omega) (by omega)) ?_;clear F fa;rintro fa v' w13 F ⟨hown',hg⟩
   obtain ⟨va38,vc38,rfl⟩:=owns_slice hown'
   replace q4:=keep_type oo hg q4 (by decide)
   replace q5:=keep_type oo hg q5 (by decide)
   replace HL:=lots_append HL oo hg (by omega) (by decide)
   replace fam:=fam_lift fam fun _ _ _ h=>owns_other h oo hg (by decide)
   replace E:=ext_appendX E oo hg (by omega)
   replace ER:=ext_appendX ER oo hg (by omega)
   replace oo:=hown'
   clear hg
   rw [show O.map (·.1) ++ [Value.slice ra bn rc] = P.map (·.1) by rw [hP,List.map_append];rfl,hPl] at oo
   rw [hPl] at F
   replace hOB:=hPB
   replace hnd:=hPn
   replace hOl : P.length ≤ i + 1:=by omega
   replace hO1 : 0 < i + 1 → 0 < P.length:=fun _=>by omega
   refine F.vl (R_field rfl (F.at rfl) Tryz.underlying24 rfl (n:=1) (sz:=1) rfl (by kernel_rfl) (by decide)) ?_;clear F fa;intro fa F
   refine sq_to rfl rfl (R_store rfl (F.at rfl) (F.at rfl) rfl (by kernel_rfl) ((cells_of_block q5 1).trans (getS (get0))) (free_of_block q5 1)) ?_;intro w14 hw
   replace oo:=owns_cellX hw oo (own_ne_type oo q5 (by decide))
   replace fam:=fam_lift fam fun _ _ _ h=>owns_cellX hw h (own_ne_type h q5 (by decide))
   replace q4:=keep_cell hw q4 (by omega)
   replace q5:=put_cell hw q5 (by simp only [List.setIfInBounds_toArray,lsQ,lzQ];exact rfl)
   replace E:=ext_cell E hw (fun h=>by first | exact absurd h (by omega) | simp)
   replace ER:=ext_cell ER hw (fun h=>by first | exact absurd h (by omega) | simp)
   replace HL:=lots_cell hw HL (by omega) (by omega)
   clear hw
   refine wpList_nil ?_
   refine hK7 _ _ ?_
   clear hK7
   refine wp_region_lit ?_
   refine F.mv ?_;clear F fa;intro fa F
   refine F.vl (R_sub rfl (F.at rfl) (ev_c fa _) (by omega) (by omega)) ?_;clear F fa;intro fa F
   rw [show n - ((i : Nat) : Int) - 1 = n - ((i + 1 : Nat) : Int) by omega] at F
   refine F.as ?_;clear F fa;intro fa F
   refine wpList_nil ?_
   replace HL : LotsOk w0 w14 b (k + 4 + 10 * (i + 1)) nv:=lots_mono HL (by omega)
   show _ ∧ _
   exact ⟨by omega,_,⟨_,_,_,rfl,E,ER,q4,q5,HL,oo,fam,hOB,hnd,hOl,hO1,(by omega)⟩,F.sub (.c 6 rfl (.c 0 rfl (.c 4 rfl (.c 5 rfl .n))))⟩
  ·skip
   have hOne : 0 < O.length:=by have:=Classical.not_not.1 hc33;rcases O with _ | ⟨p,O⟩;(· simp at this);(· simp)
   replace hOl : O.length ≤ i + 1:=by omega
   replace hO1 : 0 < i + 1 → 0 < O.length:=fun _=>hOne
   refine wp_skip ?_
   refine hK7 _ _ ?_
   clear hK7
   refine wp_region_lit ?_
   refine F.mv ?_;clear F fa;intro fa F
   refine F.vl (R_sub rfl (F.at rfl) (ev_c fa _) (by omega) (by omega)) ?_;clear F fa;intro fa F
   rw [show n - ((i : Nat) : Int) - 1 = n - ((i + 1 : Nat) : Int) by omega] at F
   refine F.as ?_;clear F fa;intro fa F
   refine wpList_nil ?_
   replace HL : LotsOk w0 w11 b (k + 4 + 10 * (i + 1)) nv:=lots_mono HL (by omega)
   show _ ∧ _
   exact ⟨by omega,_,⟨_,_,_,rfl,E,ER,q4,q5,HL,oo,fam,hOB,hnd,hOl,hO1,(by omega)⟩,F.sub (.c 6 rfl (.c 0 rfl (.c 4 rfl (.c 5 rfl .n))))⟩
 ·skip
  refine wp_exit ?_
  refine hK3 _ _ ?_
  clear hK3
  refine wp_seq_k fun K10 hK10=>?_
  refine wp_seq_k fun K11 hK11=>?_
  have hdcap:=own_capN oo
  have hDl : ∀ W,Ext [b,n4,n5] w9 W → LolAt W da O:=fun W e=>lol_of_own (owns_ext oo e (by simp;omega)) (fam_lift fam fun v n xs h=>owns_ext h e (by simp;omega))
  obtain ⟨wL,hwL⟩ : ∃ wL,wL = w9:=⟨_,rfl⟩
  have EL : Ext [b,n4,n5] wL w9:=by rw [hwL];exact Ext.refl _ _
  rw [← hwL] at hDl
  have HDl:=Lib.hid hDl
  clear hDl oo fam
  have hwL0 : w.heap.size ≤ wL.heap.size:=by rw [hwL];exact E.size
  refine wp_region_lit ?_
  refine F.mv ?_;clear F fa;intro fa F
  refine sq_call F rfl (by decide) rfl (R_callV rfl rfl Tryz.call69 (mpS (F.at rfl) (mpS (ev_c fa _) (mpS (ev_c fa _) mp0)))) (in_any w0 _ b _ nv 1 3 HL (by omega) (by omega) (by omega) (by omega) (by omega)) fun e w15 hR=>?_
  obtain ⟨m,rfl,hm1,hm2,HL,e9⟩:=hR
  refine ⟨_,rfl,?_⟩;clear F fa;intro fa F
  replace q4:=(e9).keep q4 (by simp;omega)
  replace q5:=(e9).keep q5 (by simp;omega)
  replace E:=E.trans' e9 (fun i hi hl=>by simp only [List.mem_cons,List.not_mem_nil,or_false] at hi ⊢;omega)
  replace EL:=EL.trans' e9 (fun i hi hl=>by simp only [List.mem_cons,List.not_mem_nil,or_false] at hi ⊢;omega)
  refine F.as ?_;clear F fa;intro fa F
  refine wpList_nil ?_
  rw [show m = m - ((0 : Nat) : Int) by omega] at F
  have oo : w15.ownsRow wL.heap.size 25 1 (.slice none 0 0) 0 (([] : List (Value × List Int)).map (·.1)):=World.ownsRow_nil _ _ _ _
  have fam : FamT w15 wL.heap.size []:=fam_nil _ _
  have hOd : O.length ≤ dm:=by omega
  replace hO1 : 0 < O.length:=hO1 (by omega)
  refine hK11 _ _ ?_
  clear hK11
  refine wp_block ?_
  have F0:=F.sub (.c 0 rfl (.c 4 rfl (.c 5 rfl .n)))
  replace HL : LotsOk w0 w15 b (k + 5 + 10 * dm + 10 * 0) nv:=lots_mono HL (by omega)
  refine lp_for F0 (3) (fun j Lv W=>∃ la : Option Addr,∃ lc : Nat,∃ Q : List (Value × List Int),Lv = [(8,.int .i64 (m - ((j : Nat) : Int)))] ∧ Ext [b] w W ∧ Ext [b,n4,n5] wL W ∧ W.heap[n4]? = some (.cells #[.int .i64 0,.slice none 0 0,.slice none 0 0,.int .i64 0] 24 (0,0)) ∧ W.heap[n5]? = some (.cells #[.int .i64 ((bn : Nat) : Int),.slice da O.length dc,.slice la Q.length lc,.int .i64 tl] 24 (0,0)) ∧ LotsOk w0 W b (k + 5 + 10 * dm + 10 * j) nv ∧ W.ownsRow wL.heap.size 25 1 (.slice la Q.length lc) Q.length (Q.map (·.1)) ∧ FamT W wL.heap.size Q ∧ (∀ p ∈ Q,(p.2.length : Int) = bn ∧ ∀ m ∈ p.2,0 ≤ m ∧ m ≤ 3) ∧ (∀ p ∈ Q,p.2.sum ≠ 0) ∧ Q.length = j ∧ (j : Int) ≤ m) ⟨_,⟨none,0,[],rfl,E,EL,q4,q5,HL,oo,fam,(by simp),(by simp),rfl,(by omega)⟩,F.sub (.c 8 rfl (.c 0 rfl (.c 4 rfl (.c 5 rfl .n))))⟩ ?_
  clear F F0
  clear E EL q4 q5 HL
  clear oo
  clear fam
  rintro j _ fa w16 hi2 ⟨la,lc,Q,rfl,E,EL,q4,q5,HL,oo,fam,hQB,hQs,hQl,hjm⟩ F
  refine wp_seq_k fun K12 hK12=>?_
  refine wp_seq_k fun K13 hK13=>?_
  refine wp_region_lit ?_
  refine F.mv ?_;clear F fa;intro fa F
  refine F.vl (R_gtr rfl (F.at rfl) (ev_c fa _)) ?_;clear F fa;intro fa F
  refine wpList_nil ?_
  refine hK13 _ _ ?_
  clear hK13
  refine cd_if F rfl (fun hc43=>?_) (fun hc43=>?_)
  ·skip
   refine wp_skip ?_
   refine hK12 _ _ ?_
   clear hK12
   refine wp_seq_k fun K14 hK14=>?_
   refine wp_block ?_
   refine wp_seq_k fun K15 hK15=>?_
   refine wp_region_lit ?_
   refine F.mv ?_;clear F fa;intro fa F
   refine F.vl (R_field rfl (F.at rfl) Tryz.underlying24 rfl (n:=0) (sz:=1) rfl (by kernel_rfl) (by decide)) ?_;clear F fa;intro fa F
   refine F.vl (R_load rfl (F.at rfl) Tryz.underlying3 rfl ((cells_of_block q5 0).trans (get0))) ?_;clear F fa;intro fa F
   have hflt:=Lib.hid (fam_lt fam)
   obtain ⟨B1,hB1⟩ : ∃ B1,B1 = w16.heap.size:=⟨_,rfl⟩
   rw [← hB1] at hflt
   have hB1w : wL.heap.size ≤ B1:=by rw [hB1];exact EL.size
   refine sq_call F rfl (by decide) rfl (R_callV rfl rfl Tryz.call70 (mpS (F.at rfl) (mpS (F.at rfl) (mpS (ev_c fa _) mp0)))) (tonesOf_any w0 _ b _ nv bn 3 HL (by omega) (by omega) (by omega) (by omega)) fun e w17 hR=>?_
   obtain ⟨ra,rc,xs,rfl,hxl,hxb,ro,HL,e9⟩:=hR
   refine ⟨_,rfl,?_⟩;clear F fa;intro fa F
   replace oo:=owns_ext oo (e9) (by simp;omega)
   replace fam:=fam_lift fam fun _ _ _ h=>owns_ext h (e9) (by simp;omega)
   replace q4:=(e9).keep q4 (by simp;omega)
   replace q5:=(e9).keep q5 (by simp;omega)
   replace E:=E.trans' e9 (fun i hi hl=>by simp only [List.mem_cons,List.not_mem_nil,or_false] at hi ⊢;omega)
   replace EL:=EL.trans' e9 (fun i hi hl=>by simp only [List.mem_cons,List.not_mem_nil,or_false] at hi ⊢;omega)
   rw [← hB1] at ro
   refine F.as ?_;clear F fa;intro fa F
   refine wpList_nil ?_
   refine hK15 _ _ ?_
   clear hK15
   refine wp_seq_k fun K16 hK16=>?_
   refine wp_region_lit ?_
   refine F.mv ?_;clear F fa;intro fa F
   refine F.mv ?_;clear F fa;intro fa F
   refine F.vl (R_field rfl (F.at rfl) Tryz.underlying24 rfl (n:=0) (sz:=1) rfl (by kernel_rfl) (by decide)) ?_;clear F fa;intro fa F
   refine F.vl (R_load rfl (F.at rfl) Tryz.underlying3 rfl ((cells_of_block q5 0).trans (get0))) ?_;clear F fa;intro fa F
   refine F.vl (R_sub rfl (F.at rfl) (ev_c fa _) (by omega) (by omega)) ?_;clear F fa;intro fa F
   refine sq_call F rfl (by decide) rfl (R_callV rfl rfl Tryz.call33 (mpS (F.at rfl) (mpS (F.at rfl) mp0))) (upto_any w0 _ b _ nv (((bn : Nat) : Int) - 1) HL (by omega) (by omega) (by omega)) fun e w18 hR=>?_
   obtain ⟨v,rfl,hv0,hv1,HL,e9⟩:=hR
   refine ⟨_,rfl,?_⟩;clear F fa;intro fa F
   replace oo:=owns_ext oo (e9) (by simp;omega)
   replace fam:=fam_lift fam fun _ _ _ h=>owns_ext h (e9) (by simp;omega)
   replace ro:=owns_ext ro (e9) (by simp;omega)
   replace q4:=(e9).keep q4 (by simp;omega)
   replace q5:=(e9).keep q5 (by simp;omega)
   replace E:=E.trans' e9 (fun i hi hl=>by simp only [List.mem_cons,List.not_mem_nil,or_false] at hi ⊢;omega)
   replace EL:=EL.trans' e9 (fun i hi hl=>by simp only [List.mem_cons,List.not_mem_nil,or_false] at hi ⊢;omega)
   obtain ⟨v,rfl⟩:=Int.eq_ofNat_of_zero_le hv0
   refine F.mv ?_;clear F fa;intro fa F
   refine sq_call F rfl (by decide) rfl (R_callV rfl rfl Tryz.call69 (mpS (F.at rfl) (mpS (ev_c fa _) (mpS (ev_c fa _) mp0)))) (in_any w0 _ b _ nv 1 3 HL (by omega) (by omega) (by omega) (by omega) (by omega)) fun e w19 hR=>?_
   obtain ⟨z,rfl,hz1,hz2,HL,e9⟩:=hR
   refine ⟨_,rfl,?_⟩;clear F fa;intro fa F
   replace oo:=owns_ext oo (e9) (by simp;omega)
   replace fam:=fam_lift fam fun _ _ _ h=>owns_ext h (e9) (by simp;omega)
   replace ro:=owns_ext ro (e9) (by simp;omega)
   replace q4:=(e9).keep q4 (by simp;omega)
   replace q5:=(e9).keep q5 (by simp;omega)
   replace E:=E.trans' e9 (fun i hi hl=>by simp only [List.mem_cons,List.not_mem_nil,or_false] at hi ⊢;omega)
   replace EL:=EL.trans' e9 (fun i hi hl=>by simp only [List.mem_cons,List.not_mem_nil,or_false] at hi ⊢;omega)
   have EX : Ext [] w19 w19:=Ext.refl _ _
   have HS:=Lib.hid (slAt_of_ivs ro hxl.symm [] (by simp))
   have hil:=ivs_lenZ xs
   obtain ⟨xb17,xo17,xa17,xr17⟩:=HS.out v (by omega)
   refine F.vl (R_ixSlice (sz:=1) rfl ((F.at rfl).trans (xa17 _ _)) (F.at rfl) Tryz.underlying25 (by kernel_rfl) (by omega) (by omega)) ?_;clear F fa;intro fa F
   obtain ⟨⟨u0,hcu⟩,hfu,hst⟩:=owns_at ro xa17 (j:=v) (p:=xo17 + ((v : Nat) : Int).toNat * 1) (by first | omega | (simp;omega)) (by omega)
   refine sq_to rfl rfl (R_store rfl (F.at rfl) (F.at rfl) rfl (by kernel_rfl) hcu hfu) ?_;intro w20 hw
   obtain ⟨hown',hg⟩:=hst _ _ hw
   clear hst hcu hfu hw
   replace q4:=keep_type ro hg q4 (by decide)
   replace q5:=keep_type ro hg q5 (by decide)
   replace HL:=lots_append HL ro hg (by omega) (by decide)
   replace oo:=owns_other oo ro hg (by decide)
   replace fam:=fam_below fam hflt.out ro hg
   replace E:=ext_appendX E ro hg (by omega)
   replace EL:=ext_appendX EL ro hg (by omega)
   replace ro:=hown'
   clear hg
   rw [ivs_setZ] at ro
   refine wpList_nil ?_
   obtain ⟨ys,hys⟩ : ∃ ys,ys = xs.set v z:=⟨_,rfl⟩
   have hyl : ys.length = bn:=by rw [hys,List.length_set];exact hxl
   have hyb : ∀ q ∈ ys,0 ≤ q ∧ q ≤ 3:=by intro q hq;rw [hys] at hq;rcases List.mem_or_eq_of_mem_set hq with hq | rfl;(· exact hxb q hq);(· omega)
   have hysum : ys.sum ≠ 0:=by have h1:=le_sum (xs:=ys) (fun q hq=>(hyb q hq).1) z (by rw [hys];exact List.mem_set (by omega) z);omega
   rw [← hys] at ro
   refine hK16 _ _ ?_
   clear hK16
   have fam2:=fam_perm (fam_join (b1:=B1) (L:=[(Value.slice ra bn rc,ys)]) ⟨fun p hp=>(by obtain rfl : p = (Value.slice ra bn rc,ys):=(by simpa using hp);rw [show ((Value.slice ra bn rc,ys) : Value × List Int).2.length = bn from hyl];exact ro),List.pairwise_singleton _ _⟩ fam hflt.out hB1w) (M:=Q ++ [(Value.slice ra bn rc,ys)]) List.perm_append_comm
   clear fam ro
   have fam:=fam2
   clear fam2
   obtain ⟨P,hP⟩ : ∃ P,P = Q ++ [(Value.slice ra bn rc,ys)]:=⟨_,rfl⟩
   have hPl : Q.length + 1 = P.length:=by rw [hP,List.length_append];rfl
   rw [← hP] at fam
   have hPB : ∀ p ∈ P,(p.2.length : Int) = bn ∧ ∀ m ∈ p.2,0 ≤ m ∧ m ≤ 3:=by intro p hp;rw [hP] at hp;rcases List.mem_append.1 hp with hp | hp;(· exact hQB p hp);(· simp only [List.mem_cons,List.not_mem_nil,or_false] at hp;subst hp;exact ⟨by show ((ys.length : Nat) : Int) = _;omega,hyb⟩)
   have hPs : ∀ p ∈ P,p.2.sum ≠ 0:=by intro p hp;rw [hP] at hp;rcases List.mem_append.1 hp with hp | hp;(· exact hQs p hp);(· simp only [List.mem_cons,List.not_mem_nil,or_false] at hp;subst hp;exact hysum)
   refine wp_region_lit ?_
   refine F.vl (R_field rfl (F.at rfl) Tryz.underlying24 rfl (n:=2) (sz:=1) rfl (by kernel_rfl) (by decide)) ?_;clear F fa;intro fa F
   refine F.vl (R_load rfl (F.at rfl) Tryz.underlying22 rfl ((cells_of_block q5 2).trans (getS (getS (get0))))) ?_;clear F fa;intro fa F
   refine F.mv ?_;clear F fa;intro fa F
   refine sq_new F rfl (by decide) rfl (R_buildSliceV rfl (prS (F.at rfl) pr0) Tryz.underlying22 (size:=1) (by kernel_rfl) (by decide) (by decide) Tryz.zeroValue25 (cells:=#[.slice ra bn rc]) (by kernel_rfl)) ?_;clear F fa;intro fa w21 F hw
   obtain ⟨n62,hn⟩ : ∃ n,n = w20.heap.size:=⟨_,rfl⟩
   rw [← hn] at F
   have s62 : w20.heap.size ≤ n62:=Nat.le_of_eq hn.symm
   have l62_E : w.heap.size ≤ n62:=by rw [hn];exact E.size
   have l62_EL : wL.heap.size ≤ n62:=by rw [hn];exact EL.size
   have b62_HL:=Nat.lt_of_lt_of_eq (lots_lt HL) hn.symm
   have m62_4 : n4 < n62:=by rw [hn];exact blk_lt q4
   have m62_5 : n5 < n62:=by rw [hn];exact blk_lt q5
   have o62_oo:=Lib.hid (own_ne_new oo hn)
   replace oo:=owns_alloc hw oo
   replace fam:=fam_lift fam fun _ _ _ h=>owns_alloc hw h
   replace q4:=keep_alloc hw q4
   replace q5:=keep_alloc hw q5
   replace E:=ext_alloc E hw
   replace EL:=ext_alloc EL hw
   replace HL:=lots_alloc hw HL
   have q62:=new_block hw hn
   clear hw hn
   have hEs:=EL.size
   refine sq_some F rfl (by decide) rfl (append_run rfl (wL.heap.size) (e:=25) (size:=1) (bytes:=24) Tryz.underlying22 (by kernel_rfl) (by decide) (F.at rfl) oo (F.at rfl) q62 rfl (by simp [Value.oneCell']) (by omega) (by omega) (by omega)) ?_;clear F fa;rintro fa v' w22 F ⟨hown',hg⟩
   obtain ⟨va63,vc63,rfl⟩:=owns_slice hown'
   replace q4:=keep_type oo hg q4 (by decide)
   replace q5:=keep_type oo hg q5 (by decide)
   replace HL:=lots_append HL oo hg (by omega) (by decide)
   replace fam:=fam_lift fam fun _ _ _ h=>owns_other h oo hg (by decide)
   replace E:=ext_appendX E oo hg (by omega)
   replace EL:=ext_appendX EL oo hg (by omega)
   replace oo:=hown'
   clear hg
   rw [show Q.map (·.1) ++ [Value.slice ra bn rc] = P.map (·.1) by rw [hP,List.map_append];rfl,hPl] at oo
   rw [hPl] at F
   replace hQB:=hPB
   replace hQs:=hPs
   replace hQl : P.length = j + 1:=by omega
   refine F.vl (R_field rfl (F.at rfl) Tryz.underlying24 rfl (n:=2) (sz:=1) rfl (by kernel_rfl) (by decide)) ?_;clear F fa;intro fa F
   refine sq_to rfl rfl (R_store rfl (F.at rfl) (F.at rfl) rfl (by kernel_rfl) ((cells_of_block q5 2).trans (getS (getS (get0)))) (free_of_block q5 2)) ?_;intro w23 hw
   replace oo:=owns_cellX hw oo (own_ne_type oo q5 (by decide))
   replace fam:=fam_lift fam fun _ _ _ h=>owns_cellX hw h (own_ne_type h q5 (by decide))
   replace q4:=keep_cell hw q4 (by omega)
   replace q5:=put_cell hw q5 (by simp only [List.setIfInBounds_toArray,lsQ,lzQ];exact rfl)
   replace E:=ext_cell E hw (fun h=>by first | exact absurd h (by omega) | simp)
   replace EL:=ext_cell EL hw (fun h=>by first | exact absurd h (by omega) | simp)
   replace HL:=lots_cell hw HL (by omega) (by omega)
   clear hw
   refine wpList_nil ?_
   refine hK14 _ _ ?_
   clear hK14
   refine wp_region_lit ?_
   refine F.mv ?_;clear F fa;intro fa F
   refine F.vl (R_sub rfl (F.at rfl) (ev_c fa _) (by omega) (by omega)) ?_;clear F fa;intro fa F
   rw [show m - ((j : Nat) : Int) - 1 = m - ((j + 1 : Nat) : Int) by omega] at F
   refine F.as ?_;clear F fa;intro fa F
   refine wpList_nil ?_
   replace HL : LotsOk w0 w23 b (k + 5 + 10 * dm + 10 * (j + 1)) nv:=lots_mono HL (by omega)
   show _ ∧ _
   exact ⟨by omega,_,⟨_,_,_,rfl,E,EL,q4,q5,HL,oo,fam,hQB,hQs,hQl,(by omega)⟩,F.sub (.c 8 rfl (.c 0 rfl (.c 4 rfl (.c 5 rfl .n))))⟩
  ·skip
   refine wp_exit ?_
   refine hK10 _ _ ?_
   clear hK10
   refine wp_seq_k fun K18 hK18=>?_
   refine wp_region_lit ?_
   refine F.vl (R_loadBlk rfl (F.at rfl) Tryz.underlying24 rfl (by kernel_rfl) q5) ?_;clear F fa;intro fa F
   refine sq_to rfl rfl (R_storeRow rfl (F.at rfl) (F.at rfl) (by kernel_rfl) (by first | (simp [Value.oneCell'];done) | (simp [Value.oneCell',id];done)) q4 rfl) ?_;intro w24 hw
   replace oo:=owns_cellsX hw oo (own_ne_type oo q4 (by decide))
   replace fam:=fam_lift fam fun _ _ _ h=>owns_cellsX hw h (own_ne_type h q4 (by decide))
   replace q4:=put_row hw q4 rfl
   replace q5:=keep_cells hw q5 (by omega)
   replace E:=ext_cells E hw (fun h=>by first | exact absurd h (by omega) | simp)
   replace EL:=ext_cells EL hw (fun h=>by first | exact absurd h (by omega) | simp)
   replace HL:=lots_cells hw HL (by omega) (by omega)
   clear hw
   refine wpList_nil ?_
   refine hK18 _ _ ?_
   clear hK18
   refine wp_ret ?_
   (try simp only [Exit.inBlock,Exit.then,reduceIte])
   refine rt_v F (rs_c F rfl rfl Tryz.underlying24 rfl (by kernel_rfl) q4) ?_
   have hbL : b < wL.heap.size:=by omega
   refine ⟨{ B:=((bn : Nat) : Int),D:=O,da:=da,dc:=dc,L:=Q,la:=la,lc:=lc,tol:=tl },rfl,vok_of (by simp only;omega) (by simp only;omega) (by simp only;omega) (by simp only;omega) hOB hnd (by simp only;omega) (by simp only;omega) hQB hQs (by simp only;omega) (by simp only;omega),⟨hOd,hdcap⟩,fun W e=>⟨HDl.out W (EL.trans (e.mono (by simp))),lol_ext oo fam e hbL hbL⟩,lots_mono HL (by omega),E⟩
theorem own_of_block {w : World} {g n size : Nat} {e : TypeId} {cs : Array Value} (h : w.heap[g]? = some (.cells cs e (0,0))) (hs : cs.size = n * size) (hn : n ≤ maxLen) : w.ownsRow g e size (.slice (some ⟨g,0,none⟩) n n) n cs.toList:=
 ⟨by simpa using hs,.inr ⟨g,n,cs,rfl,Nat.le_refl _,h,Nat.le_refl _,hn,hs,by rw [← hs];exact List.take_of_length_le (by simp)⟩⟩
theorem lol_ownB {q : Nat} {w : World} {b b2 : Nat} {a : Option Addr} {c : Nat} {M : List (Value × List Int)} (oo : w.ownsRow b 25 1 (.slice a M.length c) M.length (M.map (·.1))) (fam : FamT w b2 M) (h1 : q < b) (h2 : q < b2) : ∀ W,Ext [q] w W → LolAt W a M:=fun W e =>
 lol_of_own (owns_ext oo e (by simpa using h1)) (fam_lift fam fun _ _ _ h=>owns_ext h e (by simpa using h2))
theorem AtB.tolN {b : Nat} {x : Vm} {w : World} (h : AtB b x w) (n : Int) : AtB b (x.tolN n) w:=fun W e=>(h W e).tolN n
theorem lamps_lt {ls : List Int} (h : ∀ i,0 < i → i < ls.length → ls.getD (i - 1) 0 < ls.getD i 0) {i : Nat} : ∀ d,i + d + 1 < ls.length → ls.getD i 0 < ls.getD (i + d + 1) 0
 | 0,hj=>by have:=h (i + 1) (by omega) hj;simpa using this
 | d + 1,hj=>Int.lt_trans (lamps_lt h d (by omega)) (by have:=h (i + (d + 1) + 1) (by omega) hj;rwa [show i + (d + 1) + 1 - 1 = i + d + 1 by omega] at this)
def dropN (ls : List Int) (k : Nat) : List Int:=ls.take k ++ ls.drop (k + 1)
theorem drop_len {ls : List Int} {k : Nat} (hk : k < ls.length) : (dropN ls k).length = ls.length - 1:=by simp [dropN];omega
theorem drop_get {ls : List Int} {k i : Nat} (hk : k < ls.length) : (dropN ls k).getD i 0 = if i < k then ls.getD i 0 else ls.getD (i + 1) 0:=by
 simp only [dropN,List.getD_eq_getElem?_getD,List.getElem?_append,List.length_take,Nat.min_eq_left (Nat.le_of_lt hk),List.getElem?_take,List.getElem?_drop]
 by_cases h : i < k
 ·simp [h]
 ·rw [if_neg h,if_neg h,show k + 1 + (i - k) = i + 1 by omega]
theorem drop_mem {ls : List Int} {k : Nat} {l : Int} (h : l ∈ dropN ls k) : l ∈ ls:=by
 rcases List.mem_append.1 h with h | h
 ·exact List.mem_of_mem_take h
 ·exact List.mem_of_mem_drop h
theorem LmpsOk.drop {x : Vm} {ls : List Int} (h : LmpsOk x ls) {k : Nat} (hk : k < ls.length) (h1 : 1 < ls.length) : LmpsOk x (dropN ls k):=by
 refine ⟨by rw [drop_len hk];omega,fun n hn=>h.2.1 n (drop_mem hn),fun i h0 hi=>?_⟩
 rw [drop_len hk] at hi
 rw [drop_get hk,drop_get hk]
 by_cases a : i < k
 ·rw [if_pos a,if_pos (by omega)];exact h.2.2 i h0 (by omega)
 ·rw [if_neg a]
  by_cases c : i - 1 < k
  ·rw [if_pos c]
   have:=lamps_lt h.2.2 (i:=i - 1) 1 (by omega)
   rwa [show i - 1 + 1 + 1 = i + 1 by omega] at this
  ·rw [if_neg c]
   have:=h.2.2 (i + 1) (by omega) (by omega)
   rwa [show i + 1 - 1 = i - 1 + 1 by omega] at this
def aftV (p : Option Addr × Nat × List (Value × List Int)) : Value:=.slice p.1 p.2.2.length p.2.1
structure AftOk (T : List (List Int)) (w : World) (a : Option Addr) (A : List (Option Addr × Nat × List (Value × List Int))) : Prop where
 out : SlAt [] w a 1 A.length (fun i=>[aftV (A.getD i (none,0,[]))])
 row : ∀ p ∈ A,LolAt w p.1 p.2.2 ∧ p.2.2.length ≤ 300 ∧ (∀ q ∈ p.2.2,q.2.length ≤ 4) ∧ ∀ t ∈ T,t ∈ p.2.2.map (·.2)
theorem AftOk.ext {T : List (List Int)} {w W : World} {a : Option Addr} {A : List (Option Addr × Nat × List (Value × List Int))} (h : AftOk T w a A) (e : Ext [] w W) : AftOk T W a A:=⟨slAt_ext h.out e,fun p hp=>⟨(h.row p hp).1.ext e,(h.row p hp).2⟩⟩
theorem fam_right {w : World} {base : Nat} {L O : List (Value × List Int)} (h : FamT w base (L ++ O)) : FamT w base O:=
 ⟨fun p hp=>h.1 p (List.mem_append_right _ hp),(List.pairwise_append.1 h.2).2.1⟩
def fltV (er : Int) : PanicEntry:={ v:=.iface 108 (.int .i64 er),recovered:=false }
theorem fault_yes (er : Int) (xT : TypeId) (w : World) : (Instr.typeAssert (.iface 108 (.int .i64 er)) xT 108 true).run Tryz.prog w = .ok (.tuple #[.int .i64 er,.bool true]) w:=by
 simp [Instr.typeAssert,run_underlying Tryz.underlying108,go_sem,Result.andThen]
set_option maxRecDepth 20000 in
set_option maxHeartbeats 400000 in
theorem caught_took (n : Nat) (b : Nat) (er x : Int) (T : TypeId) (w : World) (hb : w.heap[b]? = some (.cells #[.int .i64 x] T (0,0))) :
  CallsDIn Fence.wide n Tryz.prog 39 #[.pointer (some ⟨b,0,none⟩)] (.panicking [fltV er]) w fun e u' w'=>e = .returned (.tuple #[]) ∧ u' = .panicking [{ fltV er with recovered:=true }] ∧ w' = w.setCell ⟨b,0,none⟩ (.int .i64 er):=by
 have hc : w.cell? ⟨b,0,none⟩ = some (.int .i64 x):=(cells_of_block hb 0).trans rfl
 have hz : w.frozen? ⟨b,0,none⟩ = false:=free_of_block hb 0
 refine callsDIn_of_wpSIn Tryz.func39 rfl trivial fun c₀ cs hu=>?_
 unfold fltV at hu ⊢
 apply wpSIn_seq
 apply wpSIn_region
 simp [wpOpsSIn,Fence.wide,go_sem,recoverD,hu,Tryz.ntmps39,Exit.thenS,fault_yes,Result.andThen]
 apply wpSIn_seq
 apply wpSIn_region
 simp [wpOpsSIn,Fence.wide,go_sem,Exit.thenS,Array.replicate]
 refine wpSIn_cond (t:=true) (by simp [Act.eval]) ?_
 simp only [if_true]
 apply wpSIn_region
 simp [wpOpsSIn,Fence.wide,go_sem,hc,hz,bodyPostS,results,Tryz.results39]
theorem lv_took {fn : Func} {R : Ending → World → Prop} {tmps : Array Value} {w : World} {b : Nat} {er x : Int} {T : TypeId} {ds : List Deferred} (hb : w.heap[b]? = some (.cells #[.int .i64 x] T (0,0))) (h : ∀ w',w' = w.setCell ⟨b,0,none⟩ (.int .i64 er) → LeavesInM Fence.wide 9 Tryz.prog fn tmps R ds .returning w') : LeavesInM Fence.wide 9 Tryz.prog fn tmps R ({ target:=.fn (.func 39) #[],args:=#[.pointer (some ⟨b,0,none⟩)] } :: ds) (.panicking [fltV er]) w:=by
 refine ⟨by simp,.inr ⟨(fun h=>by cases h),_,_,39,#[.pointer (some ⟨b,0,none⟩)],rfl,(by simp [go_sem]),(fun _ _=>trivial),?_⟩⟩
 refine CallsDIn.mono (caught_took 8 b er x T w hb) ?_
 rintro e u' w' ⟨rfl,rfl,rfl⟩
 exact h _ rfl
section
variable {P : Program} {ops : Array Oper} {Q : Exit → Act → World → Prop} {o : Oper} {rest : List Oper} {N : Nat} {D : List Deferred} {a : Act} {L : List (Nat × Value)} {w w' : World}
theorem sq_panic {f : FuncId} {args : Array Value} {R : Ending → World → Prop} (hw : Region.wanted o (yielded ops a.tmps) = true) (hr : (execOp a.eval o).run P w = .ok (.enter f args) w) (hc : Calls P f args w R)
  (h : ∀ e w',R e w' → ∃ ch,e = .panicked ch ∧ Q (.panic ch) a w') : wpList P ops Q (o :: rest) a w:=by
 unfold wpList
 simp only [hw,if_true,Oper.wp,hr,Oper.upon]
 refine .inl (hc.mono fun e w' hR=>?_)
 obtain ⟨ch,rfl,h1⟩:=h e w' hR
 exact h1
theorem sq_raise {v : Value} (hw : Region.wanted o (yielded ops a.tmps) = true) (hr : (execOp a.eval o).run P w = .halt (.panic v) w) (h : Q (.panic [{ v,recovered:=false }]) a w) : wpList P ops Q (o :: rest) a w:=by
 unfold wpList
 simp only [hw,if_true,Oper.wp,hr,Oper.upon]
 exact .inl h
theorem R_panic {ρ : Operand → Value} {x : Operand} {t : TypeId} {v : Value} (ho : o.op = .panic x) (hx : ρ x = .iface t v) : (execOp ρ o).run P w = .halt (.panic (.iface t v)) w:=by
 unfold execOp
 simp [ho,hx,Instr.panic,goPanic,go_sem]
theorem R_mkIface {ρ : Operand → Value} {x : Operand} {t : TypeId} {v : Value} {q : IntKind} (ho : o.op = .makeInterface t x) (hx : ρ x = v) (hu : P.underlying t = some (.int q)) : (execOp ρ o).run P w = .ok (.value (.iface t v)) w:=by
 unfold execOp
 simp [ho,hx,Instr.makeInterface,run_underlying hu,go_sem,Result.andThen]
theorem cd_Tb (F : Has N D a L) {k : Nat} {x y : Code} {b : Bool} (hc : L.lookup k = some (.bool b)) (hb : b = true) (h : x.wp P Q a w) : (Code.cond (.tmp k) x y).wp P Q a w:=wp_cond_true (by rw [F.at hc,hb]) h
theorem rtM_p {fn : Func} {R : Ending → World → Prop} {ch : List PanicEntry} (F : Has N D a L) (h : LeavesInM Fence.wide 9 P fn a.tmps R D (.panicking ch) w) : bodyPostM Fence.wide 9 P fn R (.panic ch) a w:=by
 show LeavesInM _ _ _ _ _ _ a.defers _ _
 rw [F.ds];exact h
end
theorem must_bad (er : Int) (he : er ≠ 0) (w : World) : Calls Tryz.prog 73 #[.int .i64 er] w fun e w'=>e = .panicked [fltV er] ∧ Ext [] w w':=by
 have E : Ext [] w w:=Ext.refl _ _
 refine calls_has 6 Tryz.func73 rfl Tryz.ntmps73 (Nat.le_of_ble_eq_true rfl) ?_
 intro fa F
 refine wp_seq_k fun K1 hK1=>?_
 refine wp_region_lit ?_
 refine F.mv ?_;clear F fa;intro fa F
 refine F.vl (R_neqD rfl (F.at rfl) (ev_c fa _)) ?_;clear F fa;intro fa F
 refine wpList_nil ?_
 refine hK1 _ _ ?_
 clear hK1
 refine cd_Tb F rfl (decide_eq_true (he)) ?_
 refine wp_region_lit ?_
 refine F.mv ?_;clear F fa;intro fa F
 refine F.vl ((R_mkIface rfl (F.at rfl) Tryz.underlying108)) ?_;clear F fa;intro fa F
 refine sq_raise rfl (R_panic rfl (F.at rfl)) ?_
 (try simp only [Exit.inBlock,Exit.then,Exit.jump,reduceIte])
 refine ⟨F.ds,?_⟩
 exact ⟨rfl,E⟩
set_option maxRecDepth 100000 in
theorem begin_bad (x : Vm) (sd : SmallL x.D) (sl : SmallL x.L) (hc : chkE x.B (x.D.map (·.2)) (x.L.map (·.2)) x.tol ≠ 0) (w : World) (h : x.At w) : Calls Tryz.prog 40 #[.agg #[.int .i64 x.B,.slice x.da x.D.length x.dc,.slice x.la x.L.length x.lc,.int .i64 x.tol]] w fun e w'=>e = .panicked [fltV (chkE x.B (x.D.map (·.2)) (x.L.map (·.2)) x.tol)] ∧ Ext [] w w':=by
 have E : Ext [] w w:=Ext.refl _ _
 have HX:=Lib.hid h
 clear h
 refine calls_has 8 Tryz.func40 rfl Tryz.ntmps40 (Nat.le_of_ble_eq_true rfl) ?_
 intro fa F
 refine wp_seq_k fun K1 hK1=>?_
 refine wp_region_lit ?_
 refine sq_new F rfl (by decide) rfl (R_box rfl (F.at rfl)) ?_;clear F fa;intro fa w1 F hw
 obtain ⟨n1,hn⟩ : ∃ n,n = w.heap.size:=⟨_,rfl⟩
 rw [← hn] at F
 have s1 : w.heap.size ≤ n1:=Nat.le_of_eq hn.symm
 have l1_E : w.heap.size ≤ n1:=by rw [hn];exact E.size
 replace E:=ext_alloc E hw
 have q1:=new_row hw hn
 clear hw hn
 refine sq_new F rfl (by decide) rfl (R_alloc rfl Tryz.zeroValue69) ?_;clear F fa;intro fa w2 F hw
 obtain ⟨n2,hn⟩ : ∃ n,n = w1.heap.size:=⟨_,rfl⟩
 rw [← hn] at F
 have s2 : w1.heap.size ≤ n2:=Nat.le_of_eq hn.symm
 have l2_E : w.heap.size ≤ n2:=by rw [hn];exact E.size
 have m2_1 : n1 < n2:=by rw [hn];exact blk_lt q1
 replace q1:=keep_alloc hw q1
 replace E:=ext_alloc E hw
 have q2:=new_row hw hn
 clear hw hn
 refine wpList_nil ?_
 refine hK1 _ _ ?_
 clear hK1
 refine wp_seq_k fun K2 hK2=>?_
 refine wp_region_lit ?_
 refine F.vl (R_loadBlk rfl (F.at rfl) Tryz.underlying24 rfl (by kernel_rfl) q1) ?_;clear F fa;intro fa F
 refine sq_call F rfl (by decide) rfl (R_callV rfl rfl Tryz.call74 (mpS (F.at rfl) mp0)) (vcheck_any x _ (HX.out.ext E) sd sl) fun e w3 hR=>?_
 obtain ⟨rfl,e9⟩:=hR
 refine ⟨_,rfl,?_⟩;clear F fa;intro fa F
 replace q1:=(e9).keep0 q1
 replace q2:=(e9).keep0 q2
 replace E:=ext_same E (e9)
 clear e9
 refine sq_panic rfl (R_callV rfl rfl Tryz.call73 (mpS (F.at rfl) mp0)) (must_bad _ hc _) fun e w4 hR=>?_
 obtain ⟨rfl,e9⟩:=hR
 refine ⟨_,rfl,?_⟩
 replace q1:=(e9).keep0 q1
 replace q2:=(e9).keep0 q2
 replace E:=ext_same E (e9)
 (try simp only [Exit.inBlock,Exit.then,Exit.jump,reduceIte])
 refine ⟨F.ds,?_⟩
 exact ⟨rfl,E⟩
def LookPost (er : Int) (w : World) (e : Ending) (w' : World) : Prop:=((er = 0 ∧ e = .returned (.tuple #[])) ∨ (er ≠ 0 ∧ e = .panicked [fltV er])) ∧ Ext [] w w'
theorem look_ok {er : Int} {w : World} {e : Ending} {w' : World} (h : er = 0) (he : e = .returned (.tuple #[])) (E : Ext [] w w') : LookPost er w e w':=⟨.inl ⟨h,he⟩,E⟩
theorem look_bad {er r : Int} {w : World} {e : Ending} {w' : World} (h : er = r) (hr : r ≠ 0) (he : e = .panicked [fltV r]) (E : Ext [] w w') : LookPost er w e w':=⟨.inr ⟨by rw [h];exact hr,by rw [h];exact he⟩,E⟩
theorem cnt_few {l : List Int} {m h : Int} (hl : (l.length : Int) < m) : cntE l m h = 7:=if_pos hl
theorem cnt_many {l : List Int} {m h : Int} (hl : m < (l.length : Int)) : cntE l m h = 6:=by rw [cntE,if_neg (by omega),if_pos hl]
theorem cnt_num {l : List Int} {m h : Int} (hl : (l.length : Int) = m) : cntE l m h = numE l m h:=by
 rw [cntE,if_neg (by omega),if_neg (by omega)]
 exact (if_neg (show ¬ (l.length : Int) ≠ m from fun h=>h hl)).symm
set_option maxRecDepth 100000 in
theorem sample_any (x : Vm) (hv : VOk x) (s : List Int) (hl : s.length ≤ 1000) (a : Option Addr) (c : Nat) (w : World) (hr : IsRows w (.slice a s.length c) 1 (s.map intRow)) :
  Calls Tryz.prog 41 #[.agg #[.int .i64 x.B,.slice x.da x.D.length x.dc,.slice x.la x.L.length x.lc,.int .i64 x.tol],.slice a s.length c] w (LookPost (cntE s x.B 9) w):=by
 have E : Ext [] w w:=Ext.refl _ _
 have hb3:=hv.b3
 have HR:=Lib.hid hr
 clear hr
 refine calls_has 30 Tryz.func41 rfl Tryz.ntmps41 (Nat.le_of_ble_eq_true rfl) ?_
 intro fa F
 refine wp_seq_k fun K1 hK1=>?_
 refine wp_region_lit ?_
 refine sq_new F rfl (by decide) rfl (R_box rfl (F.at rfl)) ?_;clear F fa;intro fa w1 F hw
 obtain ⟨n2,hn⟩ : ∃ n,n = w.heap.size:=⟨_,rfl⟩
 rw [← hn] at F
 have s2 : w.heap.size ≤ n2:=Nat.le_of_eq hn.symm
 have l2_E : w.heap.size ≤ n2:=by rw [hn];exact E.size
 replace E:=ext_alloc E hw
 have q2:=new_row hw hn
 clear hw hn
 refine wpList_nil ?_
 refine hK1 _ _ ?_
 clear hK1
 refine wp_seq_k fun K2 hK2=>?_
 refine wp_seq_k fun K3 hK3=>?_
 refine wp_region_lit ?_
 refine F.mv ?_;clear F fa;intro fa F
 refine F.vl (R_len rfl rfl (F.at rfl) Tryz.underlying25) ?_;clear F fa;intro fa F
 refine F.vl (R_field rfl (F.at rfl) Tryz.underlying69 rfl (n:=0) (sz:=4) rfl (by kernel_rfl) (by decide)) ?_;clear F fa;intro fa F
 refine F.vl (R_field rfl (F.at rfl) Tryz.underlying24 rfl (n:=0) (sz:=1) rfl (by kernel_rfl) (by decide)) ?_;clear F fa;intro fa F
 refine F.vl (R_load rfl (F.at rfl) Tryz.underlying3 rfl ((cells_of_block q2 0).trans (get0))) ?_;clear F fa;intro fa F
 refine F.vl (R_lss rfl (F.at rfl) (F.at rfl)) ?_;clear F fa;intro fa F
 refine wpList_nil ?_
 refine hK3 _ _ ?_
 clear hK3
 refine cd_if F rfl (fun hc11=>?_) (fun hc11=>?_)
 ·skip
  refine wp_region_lit ?_
  refine F.vl ((R_mkIface rfl (ev_c fa _) Tryz.underlying108)) ?_;clear F fa;intro fa F
  refine sq_raise rfl (R_panic rfl (F.at rfl)) ?_
  (try simp only [Exit.inBlock,Exit.then,Exit.jump,reduceIte])
  refine ⟨F.ds,?_⟩
  exact look_bad (cnt_few (by omega)) (by decide) rfl E
 ·skip
  refine wp_skip ?_
  refine hK2 _ _ ?_
  clear hK2
  refine wp_seq_k fun K4 hK4=>?_
  refine wp_seq_k fun K5 hK5=>?_
  refine wp_region_lit ?_
  refine F.mv ?_;clear F fa;intro fa F
  refine F.vl (R_len rfl rfl (F.at rfl) Tryz.underlying25) ?_;clear F fa;intro fa F
  refine F.vl (R_field rfl (F.at rfl) Tryz.underlying69 rfl (n:=0) (sz:=4) rfl (by kernel_rfl) (by decide)) ?_;clear F fa;intro fa F
  refine F.vl (R_field rfl (F.at rfl) Tryz.underlying24 rfl (n:=0) (sz:=1) rfl (by kernel_rfl) (by decide)) ?_;clear F fa;intro fa F
  refine F.vl (R_load rfl (F.at rfl) Tryz.underlying3 rfl ((cells_of_block q2 0).trans (get0))) ?_;clear F fa;intro fa F
  refine F.vl (R_gtr rfl (F.at rfl) (F.at rfl)) ?_;clear F fa;intro fa F
  refine wpList_nil ?_
  refine hK5 _ _ ?_
  clear hK5
  refine cd_if F rfl (fun hc18=>?_) (fun hc18=>?_)
  ·skip
   refine wp_region_lit ?_
   refine F.vl ((R_mkIface rfl (ev_c fa _) Tryz.underlying108)) ?_;clear F fa;intro fa F
   refine sq_raise rfl (R_panic rfl (F.at rfl)) ?_
   (try simp only [Exit.inBlock,Exit.then,Exit.jump,reduceIte])
   refine ⟨F.ds,?_⟩
   exact look_bad (cnt_many (by omega)) (by decide) rfl E
  ·skip
   refine wp_skip ?_
   refine hK4 _ _ ?_
   clear hK4
   refine wp_seq_k fun K6 hK6=>?_
   refine wp_region_lit ?_
   refine F.mv ?_;clear F fa;intro fa F
   refine F.vl (R_field rfl (F.at rfl) Tryz.underlying69 rfl (n:=0) (sz:=4) rfl (by kernel_rfl) (by decide)) ?_;clear F fa;intro fa F
   refine F.vl (R_field rfl (F.at rfl) Tryz.underlying24 rfl (n:=0) (sz:=1) rfl (by kernel_rfl) (by decide)) ?_;clear F fa;intro fa F
   refine F.vl (R_load rfl (F.at rfl) Tryz.underlying3 rfl ((cells_of_block q2 0).trans (get0))) ?_;clear F fa;intro fa F
   refine sq_call F rfl (by decide) rfl (R_callV rfl rfl Tryz.call75 (mpS (F.at rfl) (mpS (F.at rfl) (mpS (ev_c fa _) mp0)))) (numbers_any s x.B 9 a c _ (HR.out.ext E (by simp)) (by omega) (by omega)) fun e w2 hR=>?_
   obtain ⟨rfl,e9⟩:=hR
   refine ⟨_,rfl,?_⟩;clear F fa;intro fa F
   replace q2:=(e9).keep0 q2
   replace E:=ext_same E (e9)
   clear e9
   refine F.mv ?_;clear F fa;intro fa F
   refine F.vl (R_extract rfl (F.at rfl) (get0)) ?_;clear F fa;intro fa F
   refine F.vl (R_extract rfl (F.at rfl) (getS (get0))) ?_;clear F fa;intro fa F
   refine F.as ?_;clear F fa;intro fa F
   refine F.as ?_;clear F fa;intro fa F
   refine wpList_nil ?_
   refine hK6 _ _ ?_
   clear hK6
   by_cases hz : numE s x.B 9 = 0
   ·skip
    rw [hz] at F
    refine wp_region_lit ?_
    refine F.mv ?_;clear F fa;intro fa F
    refine sq_call F rfl (by decide) rfl (R_callV rfl rfl Tryz.call73 (mpS (F.at rfl) mp0)) (must_ok _) fun e w3 hR=>?_
    obtain ⟨rfl,e9⟩:=hR
    refine ⟨_,rfl,?_⟩;clear F fa;intro fa F
    replace q2:=(e9).keep0 q2
    replace E:=ext_same E (e9)
    clear e9
    refine wpList_nil ?_
    (try simp only [Exit.inBlock,Exit.then,reduceIte])
    refine rt_vn F (rs_0 rfl) ?_
    exact look_ok ((cnt_num (by omega)).trans hz) rfl E
   ·skip
    refine wp_region_lit ?_
    refine F.mv ?_;clear F fa;intro fa F
    refine sq_panic rfl (R_callV rfl rfl Tryz.call73 (mpS (F.at rfl) mp0)) (must_bad _ hz _) fun e w4 hR=>?_
    obtain ⟨rfl,e9⟩:=hR
    refine ⟨_,rfl,?_⟩
    replace q2:=(e9).keep0 q2
    replace E:=ext_same E (e9)
    (try simp only [Exit.inBlock,Exit.then,Exit.jump,reduceIte])
    refine ⟨F.ds,?_⟩
    exact look_bad (cnt_num (by omega)) hz rfl E
def lmpF (hi : Int) : Option Int → List Int → Int
 | _,[]=>0
 | p,n :: l=>if outB n 0 hi = true then 3 else if p.any (fun m=>decide (n ≤ m)) = true then 5 else lmpF hi (some n) l
def lmpE (x : Vm) (ls : List Int) : Int:=if ls.length = 0 then 7 else lmpF (((x.L.length : Nat) : Int) - 1) none ls
def prevO (ls : List Int) (i : Nat) : Option Int:=if i = 0 then none else some (ls.getD (i - 1) 0)
theorem prevO_succ (ls : List Int) (i : Nat) : prevO ls (i + 1) = some (ls.getD i 0):=by rw [prevO,if_neg (by omega)];rfl
theorem lmp_out {hi : Int} {ls : List Int} {i : Nat} (h : i < ls.length) (ho : outB (ls.getD i 0) 0 hi = true) : lmpF hi (prevO ls i) (ls.drop i) = 3:=by
 rw [drop_getD ls 0 h,lmpF,if_pos ho]
theorem lmp_ord {hi : Int} {ls : List Int} {i : Nat} (h : i < ls.length) (ho : outB (ls.getD i 0) 0 hi = false) (h0 : 0 < i) (hc : ls.getD i 0 ≤ ls.getD (i - 1) 0) : lmpF hi (prevO ls i) (ls.drop i) = 5:=by
 have hp : prevO ls i = some (ls.getD (i - 1) 0):=if_neg (by omega)
 rw [drop_getD ls 0 h,lmpF,if_neg (by rw [ho];simp),hp]
 exact if_pos (decide_eq_true hc)
theorem lmp_go {hi : Int} {ls : List Int} {i : Nat} (h : i < ls.length) (ho : outB (ls.getD i 0) 0 hi = false) (hc : 0 < i → ls.getD (i - 1) 0 < ls.getD i 0) : lmpF hi (prevO ls i) (ls.drop i) = lmpF hi (prevO ls (i + 1)) (ls.drop (i + 1)):=by
 rw [drop_getD ls 0 h,lmpF,if_neg (by rw [ho];simp),prevO_succ,if_neg]
 rw [prevO]
 by_cases e : i = 0
 ·rw [if_pos e];simp
 ·rw [if_neg e]
  have:=hc (by omega)
  simp only [Option.any_some,decide_eq_true_eq]
  omega
set_option maxRecDepth 100000 in
theorem lamp_any (x : Vm) (hl3 : x.L.length ≤ 1000) (n : Int) (w : World) : Calls Tryz.prog 51 #[.agg #[.int .i64 x.B,.slice x.da x.D.length x.dc,.slice x.la x.L.length x.lc,.int .i64 x.tol],.int .i64 n] w (LookPost (if outB n 0 (((x.L.length : Nat) : Int) - 1) = true then 3 else 0) w):=by
 have E : Ext [] w w:=Ext.refl _ _
 obtain ⟨bb,hbb⟩ : ∃ bb,bb = outB n 0 (((x.L.length : Nat) : Int) - 1):=⟨_,rfl⟩
 rw [← hbb]
 refine calls_has 12 Tryz.func51 rfl Tryz.ntmps51 (Nat.le_of_ble_eq_true rfl) ?_
 intro fa F
 refine wp_seq_k fun K1 hK1=>?_
 refine wp_region_lit ?_
 refine sq_new F rfl (by decide) rfl (R_box rfl (F.at rfl)) ?_;clear F fa;intro fa w1 F hw
 obtain ⟨n2,hn⟩ : ∃ n,n = w.heap.size:=⟨_,rfl⟩
 rw [← hn] at F
 have s2 : w.heap.size ≤ n2:=Nat.le_of_eq hn.symm
 have l2_E : w.heap.size ≤ n2:=by rw [hn];exact E.size
 replace E:=ext_alloc E hw
 have q2:=new_row hw hn
 clear hw hn
 refine wpList_nil ?_
 refine hK1 _ _ ?_
 clear hK1
 refine wp_seq_k fun K2 hK2=>?_
 refine wp_region_lit ?_
 refine F.mv ?_;clear F fa;intro fa F
 refine F.vl (R_field rfl (F.at rfl) Tryz.underlying69 rfl (n:=0) (sz:=4) rfl (by kernel_rfl) (by decide)) ?_;clear F fa;intro fa F
 refine F.vl (R_field rfl (F.at rfl) Tryz.underlying24 rfl (n:=2) (sz:=1) rfl (by kernel_rfl) (by decide)) ?_;clear F fa;intro fa F
 refine F.vl (R_load rfl (F.at rfl) Tryz.underlying22 rfl ((cells_of_block q2 2).trans (getS (getS (get0))))) ?_;clear F fa;intro fa F
 refine F.vl (R_len rfl rfl (F.at rfl) Tryz.underlying22) ?_;clear F fa;intro fa F
 refine F.vl (R_sub rfl (F.at rfl) (ev_c fa _) (by omega) (by omega)) ?_;clear F fa;intro fa F
 refine sq_call F rfl (by decide) rfl (R_callV rfl rfl Tryz.call83 (mpS (F.at rfl) (mpS (ev_c fa _) (mpS (F.at rfl) mp0)))) (outside_any n 0 (((x.L.length : Nat) : Int) - 1) _) fun e w2 hR=>?_
 obtain ⟨rfl,e9⟩:=hR
 refine ⟨_,rfl,?_⟩;clear F fa;intro fa F
 replace q2:=(e9).keep0 q2
 replace E:=ext_same E (e9)
 clear e9
 rw [← hbb] at F
 refine wpList_nil ?_
 refine hK2 _ _ ?_
 clear hK2
 refine cd_b F rfl (fun hc10=>?_) (fun hc10=>?_)
 ·skip
  refine wp_region_lit ?_
  refine F.vl ((R_mkIface rfl (ev_c fa _) Tryz.underlying108)) ?_;clear F fa;intro fa F
  refine sq_raise rfl (R_panic rfl (F.at rfl)) ?_
  (try simp only [Exit.inBlock,Exit.then,Exit.jump,reduceIte])
  refine ⟨F.ds,?_⟩
  exact look_bad (if_pos hc10) (by decide) rfl E
 ·skip
  refine wp_skip ?_
  (try simp only [Exit.inBlock,Exit.then,reduceIte])
  refine rt_vn F (rs_0 rfl) ?_
  exact look_ok (if_neg (by simpa using hc10)) rfl E
theorem look_out {er r : Int} {w : World} {e : Ending} {w' : World} (h : LookPost er w e w') (he : er = r) (hr : r ≠ 0) : e = .panicked [fltV r] ∧ Ext [] w w':=by
 subst he
 rcases h with ⟨⟨h1,-⟩ | ⟨-,h1⟩,E⟩
 ·exact absurd h1 hr
 ·exact ⟨h1,E⟩
theorem look_in {er : Int} {w : World} {e : Ending} {w' : World} (h : LookPost er w e w') (he : er = 0) : e = .returned (.tuple #[]) ∧ Ext [] w w':=by
 subst he
 rcases h with ⟨⟨-,h1⟩ | ⟨h1,-⟩,E⟩
 ·exact ⟨h1,E⟩
 ·exact absurd rfl h1
set_option maxRecDepth 100000 in
theorem lamps_any (x : Vm) (hl3 : x.L.length ≤ 1000) (ls : List Int) (hll : ls.length ≤ 1000) (a : Option Addr) (c : Nat) (w : World) (hr : IsRows w (.slice a ls.length c) 1 (ls.map intRow)) :
  Calls Tryz.prog 42 #[.agg #[.int .i64 x.B,.slice x.da x.D.length x.dc,.slice x.la x.L.length x.lc,.int .i64 x.tol],.slice a ls.length c] w (LookPost (lmpE x ls) w):=by
 have E : Ext [] w w:=Ext.refl _ _
 have HS:=Lib.hid (slAt_of_rows hr 0)
 clear hr
 obtain ⟨hi,hhi⟩ : ∃ hi,hi = ((x.L.length : Nat) : Int) - 1:=⟨_,rfl⟩
 have hle : lmpE x ls = if ls.length = 0 then 7 else lmpF hi none ls:=by rw [hhi];rfl
 refine calls_has 33 Tryz.func42 rfl Tryz.ntmps42 (Nat.le_of_ble_eq_true rfl) ?_
 intro fa F
 refine wp_seq_k fun K1 hK1=>?_
 refine wp_region_lit ?_
 refine sq_new F rfl (by decide) rfl (R_box rfl (F.at rfl)) ?_;clear F fa;intro fa w1 F hw
 obtain ⟨n2,hn⟩ : ∃ n,n = w.heap.size:=⟨_,rfl⟩
 rw [← hn] at F
 have s2 : w.heap.size ≤ n2:=Nat.le_of_eq hn.symm
 have l2_E : w.heap.size ≤ n2:=by rw [hn];exact E.size
 replace E:=ext_alloc E hw
 have q2:=new_row hw hn
 clear hw hn
 refine wpList_nil ?_
 refine hK1 _ _ ?_
 clear hK1
 refine wp_seq_k fun K2 hK2=>?_
 refine wp_seq_k fun K3 hK3=>?_
 refine wp_region_lit ?_
 refine F.mv ?_;clear F fa;intro fa F
 refine F.vl (R_len rfl rfl (F.at rfl) Tryz.underlying25) ?_;clear F fa;intro fa F
 refine F.vl (R_eqlD rfl (F.at rfl) (ev_c fa _)) ?_;clear F fa;intro fa F
 refine wpList_nil ?_
 refine hK3 _ _ ?_
 clear hK3
 refine cd_if F rfl (fun hc8=>?_) (fun hc8=>?_)
 ·skip
  rw [if_pos (by omega)] at hle
  refine wp_region_lit ?_
  refine F.vl ((R_mkIface rfl (ev_c fa _) Tryz.underlying108)) ?_;clear F fa;intro fa F
  refine sq_raise rfl (R_panic rfl (F.at rfl)) ?_
  (try simp only [Exit.inBlock,Exit.then,Exit.jump,reduceIte])
  refine ⟨F.ds,?_⟩
  exact look_bad hle (by decide) rfl E
 ·skip
  rw [if_neg (by omega)] at hle
  refine wp_skip ?_
  refine hK2 _ _ ?_
  clear hK2
  refine wp_seq_k fun K4 hK4=>?_
  refine wp_region_lit ?_
  refine F.mv ?_;clear F fa;intro fa F
  refine F.vl (R_len rfl rfl (F.at rfl) Tryz.underlying25) ?_;clear F fa;intro fa F
  refine F.vl (R_move rfl (ev_c fa _)) ?_;clear F fa;intro fa F
  refine wpList_nil ?_
  refine hK4 _ _ ?_
  clear hK4
  refine wp_block ?_
  have F0:=F.sub (.c 1 rfl (.c 2 rfl (.c 10 rfl (.c 11 rfl .n))))
  refine lp_for F0 (ls.length) (fun i Lv W=>Lv = [(12,.int .i64 ((i : Nat) : Int))] ∧ Ext [] w W ∧ W.heap[n2]? = some (.cells #[.int .i64 x.B,.slice x.da x.D.length x.dc,.slice x.la x.L.length x.lc,.int .i64 x.tol] 69 (0,0)) ∧ lmpE x ls = lmpF hi (prevO ls i) (ls.drop i)) ⟨_,⟨rfl,E,q2,hle⟩,F.sub (.c 12 rfl (.c 1 rfl (.c 2 rfl (.c 10 rfl (.c 11 rfl .n)))))⟩ ?_
  clear F F0
  clear E q2
  rintro i _ fa w2 hi1 ⟨rfl,E,q2,hle⟩ F
  refine wp_seq_k fun K5 hK5=>?_
  refine wp_region_lit ?_
  refine F.vl (R_lss rfl (F.at rfl) (F.at rfl)) ?_;clear F fa;intro fa F
  refine wpList_nil ?_
  refine hK5 _ _ ?_
  clear hK5
  refine wp_seq_k fun K6 hK6=>?_
  refine cd_if F rfl (fun hc13=>?_) (fun hc13=>?_)
  ·skip
   refine wp_skip ?_
   refine hK6 _ _ ?_
   clear hK6
   refine wp_seq_k fun K7 hK7=>?_
   refine wp_block ?_
   refine wp_seq_k fun K8 hK8=>?_
   refine wp_region_lit ?_
   refine F.mv ?_;clear F fa;intro fa F
   obtain ⟨xb9,xo9,xa9,xr9⟩:=HS.out i (by omega)
   refine F.vl (R_ixSlice (sz:=1) rfl ((F.at rfl).trans (xa9 _ _)) (F.at rfl) Tryz.underlying25 (by kernel_rfl) (by omega) (by omega)) ?_;clear F fa;intro fa F
   refine F.vl (R_load rfl (F.at rfl) Tryz.underlying3 rfl (xr9 _ E 0 _ rfl)) ?_;clear F fa;intro fa F
   refine F.as ?_;clear F fa;intro fa F
   refine F.as ?_;clear F fa;intro fa F
   refine wpList_nil ?_
   refine hK8 _ _ ?_
   clear hK8
   refine wp_seq_k fun K10 hK10=>?_
   by_cases ho : outB (ls.getD i 0) 0 hi = true
   ·skip
    refine wp_region_lit ?_
    refine F.vl (R_loadBlk rfl (F.at rfl) Tryz.underlying69 rfl (by kernel_rfl) q2) ?_;clear F fa;intro fa F
    refine F.mv ?_;clear F fa;intro fa F
    refine sq_panic rfl (R_callV rfl rfl Tryz.call51 (mpS (F.at rfl) (mpS (F.at rfl) mp0))) (((lamp_any x hl3 (ls.getD i 0) _).mono fun _ _ h=>look_out h (if_pos (by rw [← hhi];exact ho)) (show (3 : Int) ≠ 0 by decide))) fun e w3 hR=>?_
    obtain ⟨rfl,e9⟩:=hR
    refine ⟨_,rfl,?_⟩
    replace q2:=(e9).keep0 q2
    replace E:=ext_same E (e9)
    (try simp only [Exit.inBlock,Exit.then,Exit.jump,reduceIte])
    refine ⟨F.ds,?_⟩
    exact look_bad (hle.trans (lmp_out (by omega) ho)) (by decide) rfl E
   ·skip
    refine wp_region_lit ?_
    refine F.vl (R_loadBlk rfl (F.at rfl) Tryz.underlying69 rfl (by kernel_rfl) q2) ?_;clear F fa;intro fa F
    refine F.mv ?_;clear F fa;intro fa F
    refine sq_call F rfl (by decide) rfl (R_callV rfl rfl Tryz.call51 (mpS (F.at rfl) (mpS (F.at rfl) mp0))) (((lamp_any x hl3 (ls.getD i 0) _).mono fun _ _ h=>look_in h (if_neg (by rw [← hhi];exact ho)))) fun e w4 hR=>?_
    obtain ⟨rfl,e9⟩:=hR
    refine ⟨_,rfl,?_⟩;clear F fa;intro fa F
    replace q2:=(e9).keep0 q2
    replace E:=ext_same E (e9)
    clear e9
    refine wpList_nil ?_
    refine hK10 _ _ ?_
    clear hK10
    refine wp_seq_k fun K11 hK11=>?_
    by_cases ci : 0 < i
    ·skip
     by_cases cj : ls.getD i 0 ≤ ls.getD (i - 1) 0
     ·skip
      refine wp_region_lit ?_
      refine F.mv ?_;clear F fa;intro fa F
      refine F.vl (R_gtrB (b:=true) rfl (F.at rfl) (ev_c fa _) (decide_eq_true ((by omega)))) ?_;clear F fa;intro fa F
      refine F.mv ?_;clear F fa;intro fa F
      refine F.mv ?_ (hw:=(wantT F rfl rfl (by decide) rfl));clear F fa;intro fa F
      refine F.mv ?_ (hw:=(wantT F rfl rfl (by decide) rfl));clear F fa;intro fa F
      refine F.mv ?_ (hw:=(wantT F rfl rfl (by decide) rfl));clear F fa;intro fa F
      refine F.vl (R_sub rfl (F.at rfl) (ev_c fa _) (by omega) (by omega)) ?_ (hw:=(wantT F rfl rfl (by decide) rfl));clear F fa;intro fa F
      rw [show (((i : Nat) : Int) - 1) = ((i - 1 : Nat) : Int) by omega] at F
      obtain ⟨xb12,xo12,xa12,xr12⟩:=HS.out (i - 1) (by omega)
      refine F.vl (R_ixSlice (sz:=1) rfl ((F.at rfl).trans (xa12 _ _)) (F.at rfl) Tryz.underlying25 (by kernel_rfl) (by omega) (by omega)) ?_ (hw:=(wantT F rfl rfl (by decide) rfl));clear F fa;intro fa F
      refine F.vl (R_load rfl (F.at rfl) Tryz.underlying3 rfl (xr12 _ E 0 _ rfl)) ?_ (hw:=(wantT F rfl rfl (by decide) rfl));clear F fa;intro fa F
      refine F.vl (R_leqB (b:=true) rfl (F.at rfl) (F.at rfl) (decide_eq_true ((by omega)))) ?_ (hw:=(wantT F rfl rfl (by decide) rfl));clear F fa;intro fa F
      refine F.vl (R_pickT rfl (F.at rfl) (F.at rfl)) ?_;clear F fa;intro fa F
      refine wpList_nil ?_
      refine hK11 _ _ ?_
      clear hK11
      refine cd_T F rfl ?_
      refine wp_region_lit ?_
      refine F.vl ((R_mkIface rfl (ev_c fa _) Tryz.underlying108)) ?_;clear F fa;intro fa F
      refine sq_raise rfl (R_panic rfl (F.at rfl)) ?_
      (try simp only [Exit.inBlock,Exit.then,Exit.jump,reduceIte])
      refine ⟨F.ds,?_⟩
      exact look_bad (hle.trans (lmp_ord (by omega) (by simpa using ho) ci cj)) (by decide) rfl E
     ·skip
      refine wp_region_lit ?_
      refine F.mv ?_;clear F fa;intro fa F
      refine F.vl (R_gtrB (b:=true) rfl (F.at rfl) (ev_c fa _) (decide_eq_true ((by omega)))) ?_;clear F fa;intro fa F
      refine F.mv ?_;clear F fa;intro fa F
      refine F.mv ?_ (hw:=(wantT F rfl rfl (by decide) rfl));clear F fa;intro fa F
      refine F.mv ?_ (hw:=(wantT F rfl rfl (by decide) rfl));clear F fa;intro fa F
      refine F.mv ?_ (hw:=(wantT F rfl rfl (by decide) rfl));clear F fa;intro fa F
      refine F.vl (R_sub rfl (F.at rfl) (ev_c fa _) (by omega) (by omega)) ?_ (hw:=(wantT F rfl rfl (by decide) rfl));clear F fa;intro fa F
      rw [show (((i : Nat) : Int) - 1) = ((i - 1 : Nat) : Int) by omega] at F
      obtain ⟨xb13,xo13,xa13,xr13⟩:=HS.out (i - 1) (by omega)
      refine F.vl (R_ixSlice (sz:=1) rfl ((F.at rfl).trans (xa13 _ _)) (F.at rfl) Tryz.underlying25 (by kernel_rfl) (by omega) (by omega)) ?_ (hw:=(wantT F rfl rfl (by decide) rfl));clear F fa;intro fa F
      refine F.vl (R_load rfl (F.at rfl) Tryz.underlying3 rfl (xr13 _ E 0 _ rfl)) ?_ (hw:=(wantT F rfl rfl (by decide) rfl));clear F fa;intro fa F
      refine F.vl (R_leqB (b:=false) rfl (F.at rfl) (F.at rfl) (decide_eq_false ((by omega)))) ?_ (hw:=(wantT F rfl rfl (by decide) rfl));clear F fa;intro fa F
      refine F.vl (R_pickT rfl (F.at rfl) (F.at rfl)) ?_;clear F fa;intro fa F
      refine wpList_nil ?_
      have hgo : 0 < i → ls.getD (i - 1) 0 < ls.getD i 0:=fun _=>(by omega)
      refine hK11 _ _ ?_
      clear hK11
      refine cd_F F rfl ?_
      refine wp_skip ?_
      refine hK7 _ _ ?_
      clear hK7
      refine wp_region_lit ?_
      refine F.vl (R_add rfl (F.at rfl) (ev_c fa _) (by omega) (by omega)) ?_;clear F fa;intro fa F
      refine F.mv ?_;clear F fa;intro fa F
      refine wpList_nil ?_
      show _ ∧ _
      exact ⟨by omega,_,⟨rfl,E,q2,(hle.trans (lmp_go (by omega) (by simpa using ho) hgo))⟩,F.sub (.c 12 rfl (.c 1 rfl (.c 2 rfl (.c 10 rfl (.c 11 rfl .n)))))⟩
    ·skip
     refine wp_region_lit ?_
     refine F.mv ?_;clear F fa;intro fa F
     refine F.vl (R_gtrB (b:=false) rfl (F.at rfl) (ev_c fa _) (decide_eq_false ((by omega)))) ?_;clear F fa;intro fa F
     refine F.mv ?_;clear F fa;intro fa F
     refine sq_no F rfl (by decide) (wantF F rfl rfl (by decide) rfl (by decide)) ?_;clear F fa;intro fa F
     refine sq_no F rfl (by decide) (wantF F rfl rfl (by decide) rfl (by decide)) ?_;clear F fa;intro fa F
     refine sq_no F rfl (by decide) (wantF F rfl rfl (by decide) rfl (by decide)) ?_;clear F fa;intro fa F
     refine sq_no F rfl (by decide) (wantF F rfl rfl (by decide) rfl (by decide)) ?_;clear F fa;intro fa F
     refine sq_no F rfl (by decide) (wantF F rfl rfl (by decide) rfl (by decide)) ?_;clear F fa;intro fa F
     refine sq_no F rfl (by decide) (wantF F rfl rfl (by decide) rfl (by decide)) ?_;clear F fa;intro fa F
     refine sq_no F rfl (by decide) (wantF F rfl rfl (by decide) rfl (by decide)) ?_;clear F fa;intro fa F
     refine F.vl (R_pickF rfl (F.at rfl) (ev_c fa _)) ?_;clear F fa;intro fa F
     refine wpList_nil ?_
     have hgo : 0 < i → ls.getD (i - 1) 0 < ls.getD i 0:=fun h=>absurd h ci
     refine hK11 _ _ ?_
     clear hK11
     refine cd_F F rfl ?_
     refine wp_skip ?_
     refine hK7 _ _ ?_
     clear hK7
     refine wp_region_lit ?_
     refine F.vl (R_add rfl (F.at rfl) (ev_c fa _) (by omega) (by omega)) ?_;clear F fa;intro fa F
     refine F.mv ?_;clear F fa;intro fa F
     refine wpList_nil ?_
     show _ ∧ _
     exact ⟨by omega,_,⟨rfl,E,q2,(hle.trans (lmp_go (by omega) (by simpa using ho) hgo))⟩,F.sub (.c 12 rfl (.c 1 rfl (.c 2 rfl (.c 10 rfl (.c 11 rfl .n)))))⟩
  ·skip
   refine wp_exit ?_
   rw [List.drop_of_length_le (show ls.length ≤ i by omega)] at hle
   (try simp only [Exit.inBlock,Exit.then,reduceIte])
   refine rt_vn F (rs_0 rfl) ?_
   exact look_ok hle rfl E
end Go.Proofs.YtdjeecgddbjbeaaGreat
namespace Go.Proofs.YtdjeecgddbjbeaaGreat
open Go.RowKit Go.Maps Go.WideMaps Go.ChangeShapes
section
variable {P : Program} {ops : Array Oper} {o : Oper} {rest : List Oper} {N : Nat} {D : List Deferred} {a : Act} {L : List (Nat × Value)} {w : World} {Q : Exit → Act → World → Prop}
theorem sq_exn {C : World → Prop} (hd : o.dst = none) (hw : Region.wanted o (yielded ops a.tmps) = true) (hr : ∃ w' v,(execOp a.eval o).run P w = .ok (.value v) w' ∧ C w') (h : ∀ w2,C w2 → wpList P ops Q rest a w2) : wpList P ops Q (o :: rest) a w:=by
 obtain ⟨w',v,h1,h2⟩:=hr
 unfold wpList
 simp only [hw,if_true,Oper.wp,h1,Oper.upon,hd,Act.put]
 exact .inl (h _ h2)
end
namespace MI
def MapI (w : World) (b m : Nat) (g : Nat → Bool) : Prop:=∃ D : DataW Unit,w.ownsMap Tryz.prog 3 (plainElem Tryz.prog 4) b m D ∧ ∀ k : Nat,D.atKey (.int .i64 k) (.lit (.bool false)) = .lit (.bool (g k))
theorem MapI.congr {w : World} {b m m' : Nat} {g g' : Nat → Bool} (h : MapI w b m g) (e : ∀ k,g k = g' k) (hm : m ≤ m') : MapI w b m' g':=by
 obtain ⟨D,h1,h2⟩:=h
 exact ⟨D,h1.mono hm,fun k=>by rw [h2 k,e k]⟩
theorem MapI.kept {w w' : World} {b m : Nat} {g : Nat → Bool} {row : Option Nat} (h : MapI w b m g) (hg : w.grownBy w' row) (hr : some b ≠ row) : MapI w' b m g:=by
 obtain ⟨D,h1,h2⟩:=h
 exact ⟨D,h1.kept hg hr,h2⟩
theorem MapI.obj {w : World} {b m : Nat} {g : Nat → Bool} (h : MapI w b m g) : ∃ es clock,w.heap[b]? = some (.map es clock):=by
 obtain ⟨D,⟨es,clock,hb,-⟩,-⟩:=h
 exact ⟨es,clock,hb⟩
theorem MapI.ne {w : World} {b c m : Nat} {g : Nat → Bool} (h : MapI w b m g) {o : Obj} (H : w.heap[c]? = some o) (ho : ∀ es k,o ≠ .map es k) : b ≠ c:=by
 intro e
 obtain ⟨es,k,hb⟩:=h.obj
 subst e
 rw [H] at hb
 exact ho es k (by simpa using hb)
theorem map_alloc {w w2 : World} {o : Obj} {b m : Nat} {g : Nat → Bool} (e : w2 = w.alloc o) (h : MapI w b m g) : MapI w2 b m g:=by rw [e];exact h.kept (World.grownBy_alloc w o none) (by simp)
theorem map_cells {w w2 : World} {b c off m : Nat} {l : List Value} {g : Nat → Bool} {cs : Array Value} {T : TypeId} {fz : Nat × Nat} (e : w2 = w.setCells c off l) (h : MapI w b m g) (H : w.heap[c]? = some (.cells cs T fz)) : MapI w2 b m g:=by
 have hbc:=h.ne H (fun _ _ h=>by cases h)
 obtain ⟨D,⟨es,clock,hb,h3,h4,h5⟩,h2⟩:=h
 exact ⟨D,⟨es,clock,keep_cells e hb hbc,h3,h4,h5⟩,h2⟩
theorem map_cell {w w2 : World} {b c off m : Nat} {v : Value} {g : Nat → Bool} {cs : Array Value} {T : TypeId} {fz : Nat × Nat} (e : w2 = w.setCell ⟨c,off,none⟩ v) (h : MapI w b m g) (H : w.heap[c]? = some (.cells cs T fz)) : MapI w2 b m g:=by
 have hbc:=h.ne H (fun _ _ h=>by cases h)
 obtain ⟨D,⟨es,clock,hb,h3,h4,h5⟩,h2⟩:=h
 exact ⟨D,⟨es,clock,keep_cell e hb hbc,h3,h4,h5⟩,h2⟩
theorem map_ext {w w2 : World} {b m : Nat} {g : Nat → Bool} (h : MapI w b m g) (e : Ext [] w w2) : MapI w2 b m g:=h.kept (grown_of_ext e) (by simp)
theorem map_own {w w2 : World} {b base n size m : Nat} {e : TypeId} {v : Value} {xs : List Value} {g : Nat → Bool} (h : MapI w b m g) (ho : w.ownsRow base e size v n xs) (hg : w.grownBy w2 v.ownBlock) : MapI w2 b m g:=by
 refine h.kept hg ?_
 rcases ho.2 with ⟨rfl,_⟩ | ⟨g,cap,cur,rfl,_,hgb,_⟩
 ·simp [Value.ownBlock]
 ·intro e
  exact h.ne hgb (fun _ _ h=>by cases h) (by simpa [Value.ownBlock] using e)
theorem map_put {w w2 : World} {b D m : Nat} {g : Nat → Bool} {d : Option (List Deferred)} {o' : Obj} (e : w2 = w.putObj D o') (hD : w.heap[D]? = some (.deferred d)) (h : MapI w b m g) : MapI w2 b m g:=by
 rw [e]
 exact h.kept (grownBy_putObj' w D o') (fun e=>h.ne hD (fun _ _ h=>by cases h) (by simpa using e))
theorem map_made (w : World) : MapI (w.alloc (.map #[] 0)) w.heap.size 0 (fun _=>false):=⟨.map [],World.ownsMap_made w _ _ _,fun k=>rfl⟩
theorem keep_map {w w2 : World} {b c m : Nat} {g : Nat → Bool} {cs : Array Value} {T : TypeId} {fz : Nat × Nat} (h : MapI w b m g) (hg : w.grownBy w2 (some b)) (q : w.heap[c]? = some (.cells cs T fz)) : w2.heap[c]? = some (.cells cs T fz):=
 (hg.block c (blk_lt q) (fun e=>h.ne q (fun _ _ h=>by cases h) (by simpa using e.symm))).trans q
theorem owns_map {w w2 : World} {b base n size m : Nat} {e : TypeId} {v : Value} {xs : List Value} {g : Nat → Bool} (h : MapI w b m g) (hg : w.grownBy w2 (some b)) (ho : w.ownsRow base e size v n xs) : w2.ownsRow base e size v n xs:=by
 refine ho.kept hg ?_
 rcases ho.2 with ⟨rfl,_⟩ | ⟨g,cap,cur,rfl,_,hgb,_⟩
 ·exact .inl rfl
 ·exact .inr fun e=>h.ne hgb (fun _ _ h=>by cases h) (by simpa [Value.ownBlock] using e.symm)
theorem lit_ne {j k : Nat} (e : ¬ j = k) : Lit.int .i64 (j : Nat) ≠ Lit.int .i64 (k : Nat):=fun h=>e (by
 have h2 : ((j : Nat) : Int) = (k : Nat):=by injection h
 exact Int.ofNat.inj h2)
theorem keyedI : Keyed Tryz.prog 3:=int_keyed Tryz.underlying3
theorem keyI {k : Nat} (hk : k ≤ 1000) : keyOf Tryz.prog 3 (.int .i64 (k : Nat)) = some (.int .i64 (k : Nat)):=keyOf_int_mk Tryz.underlying3 (WalkArith.wf_i64 (by omega))
section
variable {ρ : Operand → Value} {o : Oper} {w : World}
theorem R_lookupI {x y : Operand} {b k m : Nat} {g : Nat → Bool} (ho : o.op = .lookup 85 x y false) (hx : ρ x = .map (some b)) (hy : ρ y = .int .i64 (k : Nat)) (hk : k ≤ 1000) (h : MapI w b m g) :
  (execOp ρ o).run Tryz.prog w = .ok (.value (.bool (g k))) w:=by
 obtain ⟨D,h1,h2⟩:=h
 obtain ⟨v,ps,hr,hv⟩:=h1.lookup keyedI Tryz.underlying85 (z:=.bool false) (zd:=.lit (.bool false)) (zp:=[]) (by kernel_rfl) (plainElem_bool Tryz.underlying4 false) (keyI hk)
 obtain ⟨c,rfl,hc⟩:=plainElem_bool_inv Tryz.underlying4 hv
 rw [h2] at hc
 obtain rfl : g k = c:=by simpa using congrArg Prod.fst hc
 unfold execOp
 simp [ho,hx,hy,hr,Result.andThen,go_sem]
theorem R_mapPutI {x y z : Operand} {b k m : Nat} {g : Nat → Bool} (ho : o.op = .mapUpdate 85 x y z) (hx : ρ x = .map (some b)) (hy : ρ y = .int .i64 (k : Nat)) (hz : ρ z = .bool true) (hk : k ≤ 1000) (hm : m ≤ 1000) (h : MapI w b m g) :
  ∃ w',(execOp ρ o).run Tryz.prog w = .ok .skip w' ∧ MapI w' b (m + 1) (fun j=>if j = k then true else g j) ∧ w.grownBy w' (some b):=by
 obtain ⟨D,h1,h2⟩:=h
 obtain ⟨w',hr,h3,h4⟩:=h1.update keyedI Tryz.underlying85 (by simp only [maxLen];omega) (keyI hk) (plainElem_bool Tryz.underlying4 true)
 refine ⟨w',?_,⟨_,h3,fun j=>?_⟩,h4⟩
 ·unfold execOp
  simp [ho,hx,hy,hz,hr,Result.andThen,go_sem]
 ·show _ = DataW.lit (Lit.bool (if j = k then _ else _))
  by_cases e : j = k
  ·subst e;rw [if_pos rfl,atKey_put_same h1.isMap (show WideAt.IsKeyLit (Lit.int .i64 (j : Nat)) from trivial)]
  ·rw [if_neg e,atKey_put_other (lit_ne e),h2]
theorem R_delI {x y : Operand} {b k m : Nat} {g : Nat → Bool} (ho : o.op = .call { callee:=.builtin .delete,args:=#[x,y],argTypes:=#[85,3] }) (hx : ρ x = .map (some b)) (hy : ρ y = .int .i64 (k : Nat)) (hk : k ≤ 1000) (h : MapI w b m g) :
  ∃ w' v,(execOp ρ o).run Tryz.prog w = .ok (.value v) w' ∧ MapI w' b m (fun j=>if j = k then false else g j) ∧ w.grownBy w' (some b):=by
 obtain ⟨D,h1,h2⟩:=h
 obtain ⟨w',hr,h3,h4⟩:=h1.drop keyedI Tryz.underlying85 (keyI hk) o.type
 refine ⟨w',.tuple #[],?_,⟨_,h3,fun j=>?_⟩,?_⟩
 ·unfold execOp
  simp [ho,hx,hy,hr,Result.andThen,go_sem]
 ·show _ = DataW.lit (Lit.bool (if j = k then _ else _))
  by_cases e : j = k
  ·subst e;rw [if_pos rfl,atKey_del_same]
  ·rw [if_neg e,atKey_del_other (lit_ne e),h2]
 ·obtain ⟨es,clock,es',clock',hb,rfl⟩:=h4
  exact ⟨rfl,rfl,rfl,by simp [Go.ChangeMaps.setBlock],fun i _ hi=>Go.ChangeMaps.heap_setBlock_other hb _ (fun e=>hi (by rw [e]))⟩
end
end MI
end Go.Proofs.YtdjeecgddbjbeaaGreat
