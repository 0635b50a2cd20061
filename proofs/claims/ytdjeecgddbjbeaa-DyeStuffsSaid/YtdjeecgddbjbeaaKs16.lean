/- Parts of a proof: Dcu. No conditions. -/
import Derived.Test.YtdjeecgddbjbeaaKs14
import Derived.Test.YtdjeecgddbjbeaaKs15
set_option linter.unusedVariables false
set_option linter.unusedSimpArgs false
namespace Go.Proofs.Ytdjeecgddbjbeaa
open Go.RowKit
theorem SameV.alk {y x : Vm} (h : SameV y x) (k : Nat) (f g : Nat → Int) : alkE y k f g = alkE x k f g:=by
 have ht : ∀ f,tnE y f = tnE x f:=fun f=>funext fun j=>by rw [tnE,tnE,h.dl,h.ton]
 rw [alkE,alkE,alkV,alkV,h.lamp,h.B,ht,ht,h.tol]
theorem SameV.nr {y x : Vm} (h : SameV y x) (ls : List Int) (T : List (List Int)) : nrB y ls T = nrB x ls T:=by
 funext j k
 rw [nrB,nrB]
 congr 2
 funext l
 rw [h.alk]
theorem SameV.stf {y x : Vm} (h : SameV y x) (S : List (List Int)) : stfE y S = stfE x S:=by
 have key : ∀ S,stfF y S = stfF x S:=by
  intro S
  induction S with
  | nil=>rfl
  | cons a r ih=>rw [stfF,stfF,ih,h.rcp]
 rw [stfE,stfE,key]
theorem SameV.mosV {y x : Vm} (h : SameV y x) (S : List (List Int)) (l : List Int) : Go.Proofs.Ytdjeecgddbjbeaa.mosV y S l = Go.Proofs.Ytdjeecgddbjbeaa.mosV x S l:=by
 have h1 : mosE y S l = mosE x S l:=by rw [mosE,mosE,h.err,h.stf,h.lmpe]
 unfold Go.Proofs.Ytdjeecgddbjbeaa.mosV
 rw [h1,mosR,mosR,h.nr]
theorem SameV.shaV {y x : Vm} (h : SameV y x) (n : Int) (S : List (List Int)) : Go.Proofs.Ytdjeecgddbjbeaa.shaV y n S = Go.Proofs.Ytdjeecgddbjbeaa.shaV x n S:=by
 have h1 : shaE y n S = shaE x n S:=by rw [shaE,shaE,h.err,h.stf,lampO,lampO,h.ll]
 have ht : ∀ f,tnE y f = tnE x f:=fun f=>funext fun j=>by rw [tnE,tnE,h.dl,h.ton]
 have h2 : ∀ lp,shdE y S lp = shdE x S lp:=fun lp=>funext fun j=>funext fun k=>by rw [shdE,shdE,h.lamp,h.B,ht,ht]
 unfold Go.Proofs.Ytdjeecgddbjbeaa.shaV
 rw [h1,shaR,shaR,h2]
theorem mosV_len (x : Vm) (S : List (List Int)) (l : List Int) : (Go.Proofs.Ytdjeecgddbjbeaa.mosV x S l).1.length ≤ 1000:=by
 unfold Go.Proofs.Ytdjeecgddbjbeaa.mosV
 split
 ·simp
 ·rw [mosR]
  have : ∀ s,(setList s).length ≤ 6:=fun s=>by rw [setList,List.length_map];exact Nat.le_trans (List.length_filter_le _ _) (by simp)
  have:=this (bestK (nrB x l S) S.length (2 ^ S.length))
  simp only;omega
theorem shaV_len {x : Vm} {n : Int} {S : List (List Int)} (h : S.length ≤ 1000) : (Go.Proofs.Ytdjeecgddbjbeaa.shaV x n S).1.length ≤ 1000:=by
 unfold Go.Proofs.Ytdjeecgddbjbeaa.shaV
 split
 ·simp
 ·rw [shaR];simp only [srtL_len,nums_len];exact h
theorem xMost_any (x : Vm) (sd : SmallL x.D) (sl : SmallL x.L) (S : List (Value × List Int)) (hs : ∀ p ∈ S,p.2.length ≤ 1000) (hS : S.length ≤ 1000) (ls : List Int) (hl : ls.length ≤ 1000) (a la : Option Addr) (c lc : Nat) (w : World) (h : x.At w) (hp : LolAt w a S) (hq : IsRows w (.slice la ls.length lc) 1 (ls.map intRow)) :
  Calls Try.prog 28 #[.agg #[.int .i64 x.B,.slice x.da x.D.length x.dc,.slice x.la x.L.length x.lc,.int .i64 x.tol],.slice a S.length c,.slice la ls.length lc] w (IntsPost (mosV x (S.map (·.2)) ls) w):=by
 by_cases he : mosE x (S.map (·.2)) ls = 0
 ·rw [mosV_ok he]
  unfold mosE at he
  by_cases h1 : x.err = 0
  ·rw [if_neg (by simpa using h1)] at he
   by_cases h2 : stfE x (S.map (·.2)) = 0
   ·rw [if_neg (by simpa using h2)] at he
    obtain ⟨g1,g2⟩:=stf_okk h2
    exact xMost_ok x (chk_vok h1) S g2 g1 ls (lmp_okk he) hl a la c lc w h hp hq
   ·rw [if_pos h2] at he;exact absurd he h2
  ·rw [if_pos h1] at he;exact absurd he h1
 ·rw [mosV_bad he]
  exact xMost_bad x sd sl S hs hS ls hl a la c lc w h hp hq he
theorem xShades_any (x : Vm) (sd : SmallL x.D) (sl : SmallL x.L) (n : Int) (S : List (Value × List Int)) (hs : ∀ p ∈ S,p.2.length ≤ 1000) (hS : S.length ≤ 1000) (a : Option Addr) (c : Nat) (w : World) (h : x.At w) (hp : LolAt w a S) :
  Calls Try.prog 30 #[.agg #[.int .i64 x.B,.slice x.da x.D.length x.dc,.slice x.la x.L.length x.lc,.int .i64 x.tol],.int .i64 n,.slice a S.length c] w (IntsPost (shaV x n (S.map (·.2))) w):=by
 by_cases he : shaE x n (S.map (·.2)) = 0
 ·rw [shaV_ok he]
  unfold shaE at he
  by_cases h1 : x.err = 0
  ·rw [if_neg (by simpa using h1)] at he
   by_cases h2 : lampO x n = 0
   ·rw [if_neg (by simpa using h2)] at he
    obtain ⟨g1,g2⟩:=stf_okk he
    have ho : outB n 0 (((x.L.length : Nat) : Int) - 1) = false:=by
     rw [lampO] at h2
     by_cases e : outB n 0 (((x.L.length : Nat) : Int) - 1) = true
     ·rw [if_pos e] at h2;cases h2
     ·simpa using e
    obtain ⟨o1,o2⟩:=outB_no.1 ho
    obtain ⟨lp,rfl⟩:=Int.eq_ofNat_of_zero_le o1
    rw [Int.toNat_natCast]
    exact xShades_ok x (chk_vok h1) lp (by omega) S g2 g1 a c w h hp
   ·rw [if_pos h2] at he;exact absurd he h2
  ·rw [if_pos h1] at he;exact absurd he h1
 ·rw [shaV_bad he]
  exact xShades_bad x sd sl n S hs hS a c w h hp he
abbrev LolM:=Option Addr × Nat × List (Value × List Int)
theorem fourA_ex {w : World} {b : Nat} {T : TypeId} {fz : Nat × Nat} {m1 m2 m3 m4 : LolM} (h : w.heap[b]? = some (.cells #[aftV m1,aftV m2,aftV m3,aftV m4] T fz)) (r1 : LolAt w m1.1 m1.2.2) (r2 : LolAt w m2.1 m2.2.2) (r3 : LolAt w m3.1 m3.2.2) (r4 : LolAt w m4.1 m4.2.2)
  (b1 : SmallL m1.2.2) (b2 : SmallL m2.2.2) (b3 : SmallL m3.2.2) (b4 : SmallL m4.2.2) : ∃ R : List LolM,R.length = 4 ∧ (∀ p ∈ R,SmallL p.2.2 ∧ LolAt w p.1 p.2.2) ∧ SlAt [] w (some ⟨b,0,none⟩) 1 4 (fun i=>[aftV (R.getD i (none,0,[]))]):=by
 refine ⟨[m1,m2,m3,m4],rfl,fun p hp=>?_,?_⟩
 ·simp only [List.mem_cons,List.not_mem_nil,or_false] at hp
  rcases hp with rfl | rfl | rfl | rfl
  ·exact ⟨b1,r1⟩
  ·exact ⟨b2,r2⟩
  ·exact ⟨b3,r3⟩
  ·exact ⟨b4,r4⟩
 ·have:=rows_newV (xs:=[m1,m2,m3,m4]) (row:=fun p=>[aftV p]) h (sz:=1) (fun _=>rfl)
  exact slAt_of_rows this (none,0,[])
theorem fourI_ex {w : World} {b : Nat} {T : TypeId} {fz : Nat × Nat} {a1 a2 a3 a4 : Int} (h : w.heap[b]? = some (.cells #[.int .i64 a1,.int .i64 a2,.int .i64 a3,.int .i64 a4] T fz)) : ∃ R : List Int,R.length = 4 ∧ SlAt [] w (some ⟨b,0,none⟩) 1 4 (fun i=>[.int .i64 (R.getD i 0)]):=
 ⟨[a1,a2,a3,a4],rfl,slAt_of_rows (rows_newV (xs:=[a1,a2,a3,a4]) (row:=intRow) h (sz:=1) (fun _=>rfl)) 0⟩
set_option maxRecDepth 100000 in
set_option maxHeartbeats 8000000 in
theorem dyeStuffs_walk (x : Vm) (n0 : Int) (T : List (Value × List Int)) (l : List Int) (ta la na : Option Addr) (tc lc nn nc : Nat) (z : List Int) (w : World) (hx : x.At w) (ht : LolAt w ta T) (hl : IsRows w (.slice la l.length lc) 1 (l.map intRow)) (hn : IsRow .i64 w na nn nc z) :
  Calls Try.prog 4 #[.agg #[.int .i64 x.B,.slice x.da x.D.length x.dc,.slice x.la x.L.length x.lc,.int .i64 x.tol],.int .i64 n0,.slice ta T.length tc,.slice la l.length lc,.slice na nn nc] w fun e w'=>e = .returned (.bool true) ∧ Ext [] w w':=by
 have E : Ext [] w w:=Ext.refl _ _
 have HX:=Lib.hid hx
 have HT0:=Lib.hid ht
 have HL0:=Lib.hid hl
 have HN:=Lib.hid hn
 clear hx ht hl hn
 refine calls_has 203 Try.func4 rfl Try.ntmps4 (Nat.le_of_ble_eq_true rfl) ?_
 intro fa F
 refine wp_seq_k fun K1 hK1=>?_
 refine wp_region_lit ?_
 refine sq_new F rfl (by decide) rfl (R_box rfl (F.at rfl)) ?_;clear F fa;intro fa w1 F hw
 obtain ⟨n5,hn⟩ : ∃ n,n = w.heap.size:=⟨_,rfl⟩
 rw [← hn] at F
 have s5 : w.heap.size ≤ n5:=Nat.le_of_eq hn.symm
 have l5_E : w.heap.size ≤ n5:=by rw [hn];exact E.size
 replace E:=ext_alloc E hw
 have q5:=new_row hw hn
 clear hw hn
 refine F.vl (R_assign rfl (ev_c fa _)) ?_;clear F fa;intro fa F
 refine wpList_nil ?_
 refine hK1 _ _ ?_
 clear hK1
 refine wp_seq_k fun K2 hK2=>?_
 refine wp_seq_k fun K3 hK3=>?_
 refine wp_region_lit ?_
 refine F.vl (R_loadBlk rfl (F.at rfl) Try.underlying24 rfl (by kernel_rfl) q5) ?_;clear F fa;intro fa F
 refine sq_call F rfl (by decide) rfl (R_callV rfl rfl Try.call11 (mpS (F.at rfl) mp0)) (long_any x _ (HX.out.ext E)) fun e w2 hR=>?_
 obtain ⟨rfl,e9⟩:=hR
 refine ⟨_,rfl,?_⟩;clear F fa;intro fa F
 replace q5:=(e9).keep0 q5
 replace E:=ext_same E (e9)
 clear e9
 refine F.mv ?_;clear F fa;intro fa F
 cases hg1 : (longV x)
 ·skip
  replace F:=F.re (k:=32) rfl (congrArg Value.bool hg1)
  refine F.mv ?_ (hw:=(wantT F rfl rfl (by decide) rfl));clear F fa;intro fa F
  refine F.vl (R_len rfl rfl (F.at rfl) Try.underlying25) ?_ (hw:=(wantT F rfl rfl (by decide) rfl));clear F fa;intro fa F
  refine F.vl (R_gtr rfl (F.at rfl) (ev_c fa _)) ?_ (hw:=(wantT F rfl rfl (by decide) rfl));clear F fa;intro fa F
  refine F.vl (R_pickF rfl (F.at rfl) (F.at rfl)) ?_;clear F fa;intro fa F
  refine F.mv ?_;clear F fa;intro fa F
  by_cases hg2 : (20 < ((l.length : Nat) : Int))
  ·skip
   replace F:=F.re (k:=37) rfl (congrArg Value.bool (decide_eq_true hg2))
   refine sq_no F rfl (by decide) (wantF F rfl rfl (by decide) rfl (by decide)) ?_;clear F fa;intro fa F
   refine sq_no F rfl (by decide) (wantF F rfl rfl (by decide) rfl (by decide)) ?_;clear F fa;intro fa F
   refine F.vl (R_pickT rfl (F.at rfl) (ev_c fa _)) ?_;clear F fa;intro fa F
   refine wpList_nil ?_
   refine hK3 _ _ ?_
   clear hK3
   refine cd_T F rfl ?_
   refine wp_seq_k fun K4 hK4=>?_
   refine wp_region_lit ?_
   refine sq_call F rfl (by decide) rfl (R_callV rfl rfl Try.call12 mp0) (dyed_any _) fun e w3 hR=>?_
   obtain ⟨rfl,e9⟩:=hR
   refine ⟨_,rfl,?_⟩;clear F fa;intro fa F
   replace q5:=(e9).keep0 q5
   replace E:=ext_same E (e9)
   clear e9
   refine F.as ?_;clear F fa;intro fa F
   refine wpList_nil ?_
   refine hK4 _ _ ?_
   clear hK4
   refine wp_ret ?_
   (try simp only [Exit.inBlock,Exit.then,reduceIte])
   refine rt_v F (rs_1 F rfl rfl) ?_
   exact ⟨rfl,E⟩
  ·skip
   replace F:=F.re (k:=37) rfl (congrArg Value.bool (decide_eq_false hg2))
   refine F.mv ?_ (hw:=(wantT F rfl rfl (by decide) rfl));clear F fa;intro fa F
   refine sq_call F rfl (by decide) (wantT F rfl rfl (by decide) rfl) (R_callV rfl rfl Try.call24 (mpS (F.at rfl) mp0)) (wide_any T ta tc _ (HT0.out.ext E)) fun e w4 hR=>?_
   obtain ⟨rfl,e9⟩:=hR
   refine ⟨_,rfl,?_⟩;clear F fa;intro fa F
   replace q5:=(e9).keep0 q5
   replace E:=ext_same E (e9)
   clear e9
   refine F.vl (R_pickF rfl (F.at rfl) (F.at rfl)) ?_;clear F fa;intro fa F
   refine wpList_nil ?_
   refine hK3 _ _ ?_
   clear hK3
   refine cd_b F rfl (fun hc40=>?_) (fun hc40=>?_)
   ·skip
    refine wp_seq_k fun K5 hK5=>?_
    refine wp_region_lit ?_
    refine sq_call F rfl (by decide) rfl (R_callV rfl rfl Try.call12 mp0) (dyed_any _) fun e w5 hR=>?_
    obtain ⟨rfl,e9⟩:=hR
    refine ⟨_,rfl,?_⟩;clear F fa;intro fa F
    replace q5:=(e9).keep0 q5
    replace E:=ext_same E (e9)
    clear e9
    refine F.as ?_;clear F fa;intro fa F
    refine wpList_nil ?_
    refine hK5 _ _ ?_
    clear hK5
    refine wp_ret ?_
    (try simp only [Exit.inBlock,Exit.then,reduceIte])
    refine rt_v F (rs_1 F rfl rfl) ?_
    exact ⟨rfl,E⟩
   ·skip
    obtain ⟨⟨hD1,hD2⟩,⟨hL1,hL2⟩⟩:=longV_no (by simpa using hg1)
    obtain ⟨hT1,hT2⟩:=wide_no (L:=T.map (·.2)) (by simpa using hc40)
    have hll : l.length ≤ 20:=by omega
    have SD : SmallL x.D:=⟨by omega,fun p hp=>by have:=hD2 p hp;omega⟩
    have SL : SmallL x.L:=⟨by omega,fun p hp=>by have:=hL2 p hp;omega⟩
    have ST : SmallL T:=⟨by rw [List.length_map] at hT1;omega,fun p hp=>by have:=hT2 _ (List.mem_map.2 ⟨p,hp,rfl⟩);omega⟩
    refine wp_skip ?_
    refine hK2 _ _ ?_
    clear hK2
    refine wp_seq_k fun K6 hK6=>?_
    refine wp_region_lit ?_
    refine F.mv ?_;clear F fa;intro fa F
    have HXN:=Lib.hid (HX.out.ext E)
    have hzE:=E.size
    have hz5:=blk_lt q5
    refine sq_call F rfl (by decide) rfl (R_callV rfl rfl Try.call13 (mpS (F.at rfl) mp0)) (newLots_any _ na nn nc z (row_extD HN.out E)) fun e w6 hR=>?_
    obtain ⟨b,rfl,hbw0,hbw1,HL,e9⟩:=hR
    refine ⟨_,rfl,?_⟩;clear F fa;intro fa F
    replace q5:=(e9).keep0 q5
    replace E:=ext_same E (e9)
    clear e9
    refine F.as ?_;clear F fa;intro fa F
    refine wpList_nil ?_
    refine hK6 _ _ ?_
    clear hK6
    refine wp_seq_k fun K7 hK7=>?_
    refine wp_region_lit ?_
    refine F.vl (R_loadBlk rfl (F.at rfl) Try.underlying24 rfl (by kernel_rfl) q5) ?_;clear F fa;intro fa F
    refine F.mv ?_;clear F fa;intro fa F
    refine sq_call F rfl (by decide) rfl (R_callV rfl rfl Try.call14 (mpS (F.at rfl) (mpS (F.at rfl) mp0))) (sets_any x SD SL _ _ b _ _ HL (by omega) HXN.out) fun e w7 hR=>?_
    obtain ⟨va,y,z2,rfl,hv,hzd,hzl,hvs,HL,e9⟩:=hR
    refine ⟨_,rfl,?_⟩;clear F fa;intro fa F
    replace q5:=(e9).keep q5 (by simp;omega)
    replace E:=E.trans' e9 (fun i hi hl=>by simp only [List.mem_cons,List.not_mem_nil,or_false] at hi ⊢;omega)
    obtain ⟨X,hXe⟩ : ∃ X,X = [x,y,z2,y]:=⟨_,rfl⟩
    rw [← hXe] at hvs
    have hX4 : X.length = 4:=(by rw [hXe];rfl)
    have hX1 : vsI X 1 = y:=(by rw [hXe];rfl)
    have HV:=Lib.hid hv
    have hSm : RowKit.Hid (∀ u ∈ X,SmallL u.D ∧ SmallL u.L):=Lib.hid (fun u hu=>(by rw [hXe] at hu;simp only [List.mem_cons,List.not_mem_nil,or_false] at hu;rcases hu with rfl | rfl | rfl | rfl;(· exact ⟨SD,SL⟩);(· exact ⟨hv.sd,hv.sl⟩);(· exact ⟨hzd,hzl⟩);(· exact ⟨hv.sd,hv.sl⟩)))
    have hym : y ∈ X:=(by rw [hXe];simp)
    have HVB:=Lib.hid hvs
    have HVS:=Lib.hid (slAt_all (fun W hW=>(by have:=slAt_of_rows (hvs W hW).rows vm0;exact this)))
    obtain ⟨wV,hwV⟩ : ∃ wV,wV = w7:=⟨_,rfl⟩
    have EV : Ext [b] wV w7:=by rw [hwV];exact Ext.refl _ _
    rw [← hwV] at HVB HVS
    rw [hX4] at HVS
    clear hv hvs hXe hzd hzl
    refine F.as ?_;clear F fa;intro fa F
    refine wpList_nil ?_
    refine hK7 _ _ ?_
    clear hK7
    refine wp_seq_k fun K8 hK8=>?_
    refine region_x (Ext [b] w7) none follows fun w8 hh eh=>?_
    have q5_:=q5
    replace q5:=keep_same hh q5
    have E_:=E
    have zEw8:=E.size
    replace E:=ext_same E eh
    have EV_:=EV
    have zEVw8:=EV.size
    replace EV:=ext_same EV eh
    have zbw8:=lots_lt HL
    replace HL:=lots_ext eh HL
    have eT:=eh.mono (Y:=[b]) (by simp)
    clear hh eh
    refine F.x (i:=0) rfl (fun w'=>R_move rfl (F.at rfl)) (fun _=>eT) ?_;clear F fa;intro fa F
    refine F.x (i:=1) rfl (fun w'=>R_move rfl (F.at rfl)) (fun _=>eT) ?_;clear F fa;intro fa F
    obtain ⟨xb9,xo9,xa9,xr9⟩:=HVS.out 1 (by omega)
    refine F.x (i:=2) rfl (fun w'=>R_ixSlice (sz:=4) rfl ((F.at rfl).trans (xa9 _ _)) (ev_c fa _) Try.underlying30 (by kernel_rfl) (by omega) (by omega)) (fun _=>eT) ?_;clear F fa;intro fa F
    refine F.xr (i:=3) rfl (fun w' hS=>R_loadRow rfl (F.at rfl) Try.underlying24 rfl (by kernel_rfl) (xr9 _ (EV_.trans hS))) (fun _=>eT) ?_;clear F fa;intro fa F
    replace F:=F.re (k:=50) rfl (show Value.agg #[.int .i64 (vsI X 1).B,.slice (vsI X 1).da (vsI X 1).D.length (vsI X 1).dc,.slice (vsI X 1).la (vsI X 1).L.length (vsI X 1).lc,.int .i64 (vsI X 1).tol] = .agg #[.int .i64 y.B,.slice y.da y.D.length y.dc,.slice y.la y.L.length y.lc,.int .i64 y.tol] by rw [hX1])
    refine F.x (i:=5) rfl (fun w'=>R_move rfl (F.at rfl)) (fun _=>eT) ?_;clear F fa;intro fa F
    refine F.x (i:=6) rfl (fun w'=>R_move rfl (F.at rfl)) (fun _=>eT) ?_;clear F fa;intro fa F
    obtain ⟨xb10,xo10,xa10,xr10⟩:=HVS.out 1 (by omega)
    refine F.x (i:=7) rfl (fun w'=>R_ixSlice (sz:=4) rfl ((F.at rfl).trans (xa10 _ _)) (ev_c fa _) Try.underlying30 (by kernel_rfl) (by omega) (by omega)) (fun _=>eT) ?_;clear F fa;intro fa F
    refine F.xr (i:=8) rfl (fun w' hS=>R_loadRow rfl (F.at rfl) Try.underlying24 rfl (by kernel_rfl) (xr10 _ (EV_.trans hS))) (fun _=>eT) ?_;clear F fa;intro fa F
    replace F:=F.re (k:=55) rfl (show Value.agg #[.int .i64 (vsI X 1).B,.slice (vsI X 1).da (vsI X 1).D.length (vsI X 1).dc,.slice (vsI X 1).la (vsI X 1).L.length (vsI X 1).lc,.int .i64 (vsI X 1).tol] = .agg #[.int .i64 y.B,.slice y.da y.D.length y.dc,.slice y.la y.L.length y.lc,.int .i64 y.tol] by rw [hX1])
    obtain ⟨B1,hB1⟩ : ∃ B1,B1 = w8.heap.size:=⟨_,rfl⟩
    have hb1 : b < B1:=by rw [hB1];exact lots_lt HL
    refine ax_only (i:=4) (by kernel_rfl) (op_call F rfl rfl (by decide) rfl (R_callV rfl rfl Try.call25 (mpS (F.at rfl) (mpS (F.at rfl) (mpS (ev_c fa _) mp0)))) (stuffsOf_any y HV.out _ _ b _ _ HL (by omega)) fun e w9 hR=>?_)
    obtain ⟨oa,oc,O,rfl,hO6,hOr,oo,fam,HL,e9⟩:=hR
    refine ⟨_,rfl,?_⟩;clear F fa;intro fa F
    replace q5:=(e9).keep q5 (by simp;omega)
    replace E:=E.trans' e9 (fun i hi hl=>by simp only [List.mem_cons,List.not_mem_nil,or_false] at hi ⊢;omega)
    replace EV:=EV.trans' e9 (fun i hi hl=>by simp only [List.mem_cons,List.not_mem_nil,or_false] at hi ⊢;omega)
    replace eT:=eT.trans' e9 (fun i hi hl=>by simp only [List.mem_cons,List.not_mem_nil,or_false] at hi ⊢;omega)
    refine ⟨fun _=>eT,?_⟩
    rw [← hB1] at oo fam
    obtain ⟨B3,hB3⟩ : ∃ B3,B3 = w9.heap.size:=⟨_,rfl⟩
    have hb3 : b < B3:=by rw [hB3];exact lots_lt HL
    refine ax_only (i:=9) (by kernel_rfl) (op_call F rfl rfl (by decide) rfl (R_callV rfl rfl Try.call17 (mpS (F.at rfl) (mpS (F.at rfl) mp0))) (lampsOf_any y HV.out _ _ b _ _ HL (by omega)) fun e w10 hR=>?_)
    obtain ⟨qa,qc,q,rfl,hq,hq3,qo,HL,e9⟩:=hR
    refine ⟨_,rfl,?_⟩;clear F fa;intro fa F
    replace oo:=owns_ext oo (e9) (by simp;omega)
    replace fam:=fam_lift fam fun _ _ _ h=>owns_ext h (e9) (by simp;omega)
    replace q5:=(e9).keep q5 (by simp;omega)
    replace E:=E.trans' e9 (fun i hi hl=>by simp only [List.mem_cons,List.not_mem_nil,or_false] at hi ⊢;omega)
    replace EV:=EV.trans' e9 (fun i hi hl=>by simp only [List.mem_cons,List.not_mem_nil,or_false] at hi ⊢;omega)
    replace eT:=eT.trans' e9 (fun i hi hl=>by simp only [List.mem_cons,List.not_mem_nil,or_false] at hi ⊢;omega)
    refine ⟨fun _=>eT,?_⟩
    rw [← hB3] at qo
    refine F.x (i:=10) rfl (fun w'=>R_assign rfl (F.at rfl)) (fun _=>eT) ?_;clear F fa;intro fa F
    refine F.x (i:=11) rfl (fun w'=>R_assign rfl (F.at rfl)) (fun _=>eT) ?_;clear F fa;intro fa F
    refine ax_done (by kernel_rfl) ?_ _
    clear eT q5_ E_ EV_
    have hy4:=HV.out.d4
    have hyl3:=HV.out.l3
    have hyl1:=HV.out.l1
    have SO : SmallL O:=⟨by omega,fun p hp=>by have:=(hOr p hp).len;omega⟩
    have HO:=Lib.hid (lol_ownB oo fam hb1 hb1)
    have HQ:=Lib.hid (fun W (e : Ext [b] w10 W)=>rows_of_ivs (owns_ext qo e (by simpa using hb3)) rfl)
    have HVA:=Lib.hid (fun W (e : Ext [b] w10 W)=>HVB.out W (EV.trans e))
    have hbD:=lots_lt HL
    obtain ⟨wD,hwD⟩ : ∃ wD,wD = w10:=⟨_,rfl⟩
    have ED : Ext [b] wD w10:=by rw [hwD];exact Ext.refl _ _
    rw [← hwD] at HO HQ HVA hbD
    clear oo fam qo EV hq hOr HVB HVS
    have HVS:=Lib.hid (show SlAt [b] wD va 4 4 (fun i=>vmC (vsI X i)) from slAt_all (fun W hW=>(by have:=slAt_of_rows (HVA.out W hW).rows vm0;rw [hX4] at this;exact this)))
    refine hK8 _ _ ?_
    clear hK8
    refine wp_seq_k fun K11 hK11=>?_
    suffices hcut : ∀ (n61 : Nat) (n66 : Nat) (n84 : Nat) (g1 g2 : Int) (fa : Act) (w75 : World),Has 203 [] fa [(12,.slice va 4 4),(15,.slice (some ⟨n61,0,none⟩) 4 4),(16,.slice (some ⟨n66,0,none⟩) 4 4),(17,.slice (some ⟨n84,0,none⟩) 4 4)] → w75.heap[n61]? = some (.cells #[.slice ta T.length tc,.slice oa O.length oc,.slice oa O.length oc,.slice oa O.length oc] 22 (0,0)) → w75.heap[n66]? = some (.cells #[.slice la l.length lc,.slice qa q.length qc,.slice qa q.length qc,.slice la l.length lc] 25 (0,0)) → w75.heap[n84]? = some (.cells #[.int .i64 n0,.int .i64 g1,.int .i64 g2,.int .i64 n0] 3 (0,0)) → Ext [] w w75 → Ext [b] wD w75 → w.heap.size ≤ n61 → wD.heap.size ≤ n61 → w.heap.size ≤ n66 → wD.heap.size ≤ n66 → w.heap.size ≤ n84 → wD.heap.size ≤ n84 → n61 ≠ n66 → n61 ≠ n84 → n66 ≠ n84 → K11 fa w75 by
     refine region_x (Ext [b] w10) (some 27) follows fun w11 hh eh=>?_
     have q5_:=q5
     replace q5:=keep_same hh q5
     have E_:=E
     have zEw11:=E.size
     replace E:=ext_same E eh
     have ED_:=ED
     have zEDw11:=ED.size
     replace ED:=ext_same ED eh
     have zbw11:=lots_lt HL
     replace HL:=lots_ext eh HL
     have eT:=eh.mono (Y:=[b]) (by simp)
     clear hh eh
     refine F.x (i:=0) rfl (fun w'=>R_move rfl (F.at rfl)) (fun _=>eT) ?_;clear F fa;intro fa F
     refine F.x (i:=1) rfl (fun w'=>R_move rfl (F.at rfl)) (fun _=>eT) ?_;clear F fa;intro fa F
     refine F.x (i:=2) rfl (fun w'=>R_move rfl (F.at rfl)) (fun _=>eT) ?_;clear F fa;intro fa F
     refine F.x (i:=3) rfl (fun w'=>R_move rfl (F.at rfl)) (fun _=>eT) ?_;clear F fa;intro fa F
     refine F.x (i:=5) rfl (fun w'=>R_move rfl (F.at rfl)) (fun _=>eT) ?_;clear F fa;intro fa F
     refine F.x (i:=6) rfl (fun w'=>R_move rfl (F.at rfl)) (fun _=>eT) ?_;clear F fa;intro fa F
     refine F.x (i:=7) rfl (fun w'=>R_move rfl (F.at rfl)) (fun _=>eT) ?_;clear F fa;intro fa F
     refine F.x (i:=8) rfl (fun w'=>R_move rfl (F.at rfl)) (fun _=>eT) ?_;clear F fa;intro fa F
     refine F.x (i:=10) rfl (fun w'=>R_move rfl (F.at rfl)) (fun _=>eT) ?_;clear F fa;intro fa F
     refine F.x (i:=11) rfl (fun w'=>R_move rfl (F.at rfl)) (fun _=>eT) ?_;clear F fa;intro fa F
     refine F.x (i:=12) rfl (fun w'=>R_move rfl (F.at rfl)) (fun _=>eT) ?_;clear F fa;intro fa F
     obtain ⟨xb12,xo12,xa12,xr12⟩:=HVS.out 1 (by omega)
     refine F.x (i:=13) rfl (fun w'=>R_ixSlice (sz:=4) rfl ((F.at rfl).trans (xa12 _ _)) (ev_c fa _) Try.underlying30 (by kernel_rfl) (by omega) (by omega)) (fun _=>eT) ?_;clear F fa;intro fa F
     refine F.x (i:=14) rfl (fun w'=>R_field rfl (F.at rfl) Try.underlying24 rfl (n:=xo12 + (1 : Int).toNat * 4 + 2) (sz:=1) rfl (by kernel_rfl) (by decide)) (fun _=>eT) ?_;clear F fa;intro fa F
     refine F.xr2 (i:=15) [16,17,18,25,27] rfl (fun w' hS=>R_load rfl (F.at rfl) Try.underlying22 rfl (xr12 _ (ED_.trans hS) 2 _ rfl)) (fun _=>eT) ?_;clear F fa;intro fa F
     replace F:=F.re (k:=72) rfl (show Value.slice (vsI X 1).la (vsI X 1).L.length (vsI X 1).lc = .slice y.la y.L.length y.lc by rw [hX1])
     refine F.x (i:=16) rfl (fun w'=>R_len rfl rfl (F.at rfl) Try.underlying22) (fun _=>eT) ?_;clear F fa;intro fa F
     refine F.x (i:=17) rfl (fun w'=>R_sub rfl (F.at rfl) (ev_c fa _) (by omega) (by omega)) (fun _=>eT) ?_;clear F fa;intro fa F
     refine F.x (i:=19) rfl (fun w'=>R_move rfl (F.at rfl)) (fun _=>eT) ?_;clear F fa;intro fa F
     refine F.x (i:=20) rfl (fun w'=>R_move rfl (F.at rfl)) (fun _=>eT) ?_;clear F fa;intro fa F
     obtain ⟨xb13,xo13,xa13,xr13⟩:=HVS.out 1 (by omega)
     refine F.x (i:=21) rfl (fun w'=>R_ixSlice (sz:=4) rfl ((F.at rfl).trans (xa13 _ _)) (ev_c fa _) Try.underlying30 (by kernel_rfl) (by omega) (by omega)) (fun _=>eT) ?_;clear F fa;intro fa F
     refine F.x (i:=22) rfl (fun w'=>R_field rfl (F.at rfl) Try.underlying24 rfl (n:=xo13 + (1 : Int).toNat * 4 + 2) (sz:=1) rfl (by kernel_rfl) (by decide)) (fun _=>eT) ?_;clear F fa;intro fa F
     refine F.xr2 (i:=23) [24,25,27] rfl (fun w' hS=>R_load rfl (F.at rfl) Try.underlying22 rfl (xr13 _ (ED_.trans hS) 2 _ rfl)) (fun _=>eT) ?_;clear F fa;intro fa F
     replace F:=F.re (k:=80) rfl (show Value.slice (vsI X 1).la (vsI X 1).L.length (vsI X 1).lc = .slice y.la y.L.length y.lc by rw [hX1])
     refine F.x (i:=24) rfl (fun w'=>R_len rfl rfl (F.at rfl) Try.underlying22) (fun _=>eT) ?_;clear F fa;intro fa F
     refine F.x (i:=26) rfl (fun w'=>R_move rfl (F.at rfl)) (fun _=>eT) ?_;clear F fa;intro fa F
     refine ax_three (i:=4) (j:=9) (k:=18) (by kernel_rfl) ?_ ?_ ?_
     ·skip
      refine (op_new F rfl rfl (by decide) rfl (R_buildSliceV rfl (prS (F.at rfl) (prS (F.at rfl) (prS (F.at rfl) (prS (F.at rfl) pr0)))) Try.underlying43 (size:=1) (by kernel_rfl) (by decide) (by decide) Try.zeroValue22 (cells:=#[.slice ta T.length tc,.slice oa O.length oc,.slice oa O.length oc,.slice oa O.length oc]) (by kernel_rfl)) ?_);clear F fa;intro fa w12 F hw
      obtain ⟨n61,hn⟩ : ∃ n,n = w11.heap.size:=⟨_,rfl⟩
      rw [← hn] at F
      have s61 : w11.heap.size ≤ n61:=Nat.le_of_eq hn.symm
      have l61_E : w.heap.size ≤ n61:=by rw [hn];exact E.size
      have l61_ED : wD.heap.size ≤ n61:=by rw [hn];exact ED.size
      have lT61 : w10.heap.size ≤ n61:=by rw [hn];exact eT.size
      have b61_HL:=Nat.lt_of_lt_of_eq (lots_lt HL) hn.symm
      have m61_5 : n5 < n61:=by rw [hn];exact blk_lt q5
      replace q5:=keep_alloc hw q5
      replace E:=ext_alloc E hw
      replace ED:=ext_alloc ED hw
      replace HL:=lots_alloc hw HL
      replace eT:=ext_alloc eT hw
      have q61:=new_block hw hn
      clear hw hn
      refine ⟨fun _=>eT,?_⟩
      refine ax_pair (i:=9) (j:=18) (by kernel_rfl) ?_ ?_
      ·skip
       refine (op_new F rfl rfl (by decide) rfl (R_buildSliceV rfl (prS (F.at rfl) (prS (F.at rfl) (prS (F.at rfl) (prS (F.at rfl) pr0)))) Try.underlying22 (size:=1) (by kernel_rfl) (by decide) (by decide) Try.zeroValue25 (cells:=#[.slice la l.length lc,.slice qa q.length qc,.slice qa q.length qc,.slice la l.length lc]) (by kernel_rfl)) ?_);clear F fa;intro fa w13 F hw
       obtain ⟨n66,hn⟩ : ∃ n,n = w12.heap.size:=⟨_,rfl⟩
       rw [← hn] at F
       have s66 : w12.heap.size ≤ n66:=Nat.le_of_eq hn.symm
       have l66_E : w.heap.size ≤ n66:=by rw [hn];exact E.size
       have l66_ED : wD.heap.size ≤ n66:=by rw [hn];exact ED.size
       have lT66 : w10.heap.size ≤ n66:=by rw [hn];exact eT.size
       have b66_HL:=Nat.lt_of_lt_of_eq (lots_lt HL) hn.symm
       have m66_5 : n5 < n66:=by rw [hn];exact blk_lt q5
       have m66_61 : n61 < n66:=by rw [hn];exact blk_lt q61
       replace q5:=keep_alloc hw q5
       replace q61:=keep_alloc hw q61
       replace E:=ext_alloc E hw
       replace ED:=ext_alloc ED hw
       replace HL:=lots_alloc hw HL
       replace eT:=ext_alloc eT hw
       have q66:=new_block hw hn
       clear hw hn
       refine ⟨fun _=>eT,?_⟩
       refine ax_only (i:=18) (by kernel_rfl) (op_call F rfl rfl (by decide) rfl (R_callV rfl rfl Try.call26 (mpS (F.at rfl) (mpS (F.at rfl) mp0))) (upto_any _ _ b _ _ (((y.L.length : Nat) : Int) - 1) HL (by omega) (by omega) (by omega)) fun e w14 hR=>?_)
       obtain ⟨g1,rfl,hg10,hg11,HL,e9⟩:=hR
       refine ⟨_,rfl,?_⟩;clear F fa;intro fa F
       replace q5:=(e9).keep q5 (by simp;omega)
       replace q61:=(e9).keep q61 (by simp;omega)
       replace q66:=(e9).keep q66 (by simp;omega)
       replace E:=E.trans' e9 (fun i hi hl=>by simp only [List.mem_cons,List.not_mem_nil,or_false] at hi ⊢;omega)
       replace ED:=ED.trans' e9 (fun i hi hl=>by simp only [List.mem_cons,List.not_mem_nil,or_false] at hi ⊢;omega)
       replace eT:=eT.trans' e9 (fun i hi hl=>by simp only [List.mem_cons,List.not_mem_nil,or_false] at hi ⊢;omega)
       refine ⟨fun _=>eT,?_⟩
       refine ax_only (i:=25) (by kernel_rfl) (op_call F rfl rfl (by decide) rfl (R_callV rfl rfl Try.call26 (mpS (F.at rfl) (mpS (F.at rfl) mp0))) (upto_any _ _ b _ _ ((y.L.length : Nat) : Int) HL (by omega) (by omega) (by omega)) fun e w15 hR=>?_)
       obtain ⟨g2,rfl,hg20,hg21,HL,e9⟩:=hR
       refine ⟨_,rfl,?_⟩;clear F fa;intro fa F
       replace q5:=(e9).keep q5 (by simp;omega)
       replace q61:=(e9).keep q61 (by simp;omega)
       replace q66:=(e9).keep q66 (by simp;omega)
       replace E:=E.trans' e9 (fun i hi hl=>by simp only [List.mem_cons,List.not_mem_nil,or_false] at hi ⊢;omega)
       replace ED:=ED.trans' e9 (fun i hi hl=>by simp only [List.mem_cons,List.not_mem_nil,or_false] at hi ⊢;omega)
       replace eT:=eT.trans' e9 (fun i hi hl=>by simp only [List.mem_cons,List.not_mem_nil,or_false] at hi ⊢;omega)
       refine ⟨fun _=>eT,?_⟩
       refine F.x (i:=28) rfl (fun w'=>R_assign rfl (F.at rfl)) (fun _=>eT) ?_;clear F fa;intro fa F
       refine F.x (i:=29) rfl (fun w'=>R_assign rfl (F.at rfl)) (fun _=>eT) ?_;clear F fa;intro fa F
       refine ax_only (i:=27) (by kernel_rfl) (op_new F rfl rfl (by decide) rfl (R_buildSliceV rfl (prS (F.at rfl) (prS (F.at rfl) (prS (F.at rfl) (prS (F.at rfl) pr0)))) Try.underlying25 (size:=1) (by kernel_rfl) (by decide) (by decide) Try.zeroValue3 (cells:=#[.int .i64 n0,.int .i64 g1,.int .i64 g2,.int .i64 n0]) (by kernel_rfl)) ?_);clear F fa;intro fa w16 F hw
       obtain ⟨n84,hn⟩ : ∃ n,n = w15.heap.size:=⟨_,rfl⟩
       rw [← hn] at F
       have s84 : w15.heap.size ≤ n84:=Nat.le_of_eq hn.symm
       have l84_E : w.heap.size ≤ n84:=by rw [hn];exact E.size
       have l84_ED : wD.heap.size ≤ n84:=by rw [hn];exact ED.size
       have m84_5 : n5 < n84:=by rw [hn];exact blk_lt q5
       have m84_61 : n61 < n84:=by rw [hn];exact blk_lt q61
       have m84_66 : n66 < n84:=by rw [hn];exact blk_lt q66
       replace q5:=keep_alloc hw q5
       replace q61:=keep_alloc hw q61
       replace q66:=keep_alloc hw q66
       replace E:=ext_alloc E hw
       replace ED:=ext_alloc ED hw
       have q84:=new_block hw hn
       clear hw hn
       refine ⟨gone (by kernel_rfl),?_⟩
       refine F.x (i:=30) rfl (fun w'=>R_assign rfl (F.at rfl)) (gone (by kernel_rfl)) ?_;clear F fa;intro fa F
       refine ax_done (by kernel_rfl) ?_ _
       exact hcut _ _ _ _ _ _ _ (F.sub (.c 12 rfl (.c 15 rfl (.c 16 rfl (.c 17 rfl .n))))) q61 q66 q84 E ED (by omega) (by omega) (by omega) (by omega) (by omega) (by omega) (by omega) (by omega) (by omega)
      ·skip
       refine (op_call F rfl rfl (by decide) rfl (R_callV rfl rfl Try.call26 (mpS (F.at rfl) (mpS (F.at rfl) mp0))) (upto_any _ _ b _ _ (((y.L.length : Nat) : Int) - 1) HL (by omega) (by omega) (by omega)) fun e w17 hR=>?_)
       obtain ⟨g1,rfl,hg10,hg11,HL,e9⟩:=hR
       refine ⟨_,rfl,?_⟩;clear F fa;intro fa F
       replace q5:=(e9).keep q5 (by simp;omega)
       replace q61:=(e9).keep q61 (by simp;omega)
       replace E:=E.trans' e9 (fun i hi hl=>by simp only [List.mem_cons,List.not_mem_nil,or_false] at hi ⊢;omega)
       replace ED:=ED.trans' e9 (fun i hi hl=>by simp only [List.mem_cons,List.not_mem_nil,or_false] at hi ⊢;omega)
       replace eT:=eT.trans' e9 (fun i hi hl=>by simp only [List.mem_cons,List.not_mem_nil,or_false] at hi ⊢;omega)
       refine ⟨fun _=>eT,?_⟩
       refine ax_pair (i:=9) (j:=25) (by kernel_rfl) ?_ ?_
       ·skip
        refine (op_new F rfl rfl (by decide) rfl (R_buildSliceV rfl (prS (F.at rfl) (prS (F.at rfl) (prS (F.at rfl) (prS (F.at rfl) pr0)))) Try.underlying22 (size:=1) (by kernel_rfl) (by decide) (by decide) Try.zeroValue25 (cells:=#[.slice la l.length lc,.slice qa q.length qc,.slice qa q.length qc,.slice la l.length lc]) (by kernel_rfl)) ?_);clear F fa;intro fa w18 F hw
        obtain ⟨n66,hn⟩ : ∃ n,n = w17.heap.size:=⟨_,rfl⟩
        rw [← hn] at F
        have s66 : w17.heap.size ≤ n66:=Nat.le_of_eq hn.symm
        have l66_E : w.heap.size ≤ n66:=by rw [hn];exact E.size
        have l66_ED : wD.heap.size ≤ n66:=by rw [hn];exact ED.size
        have lT66 : w10.heap.size ≤ n66:=by rw [hn];exact eT.size
        have b66_HL:=Nat.lt_of_lt_of_eq (lots_lt HL) hn.symm
        have m66_5 : n5 < n66:=by rw [hn];exact blk_lt q5
        have m66_61 : n61 < n66:=by rw [hn];exact blk_lt q61
        replace q5:=keep_alloc hw q5
        replace q61:=keep_alloc hw q61
        replace E:=ext_alloc E hw
        replace ED:=ext_alloc ED hw
        replace HL:=lots_alloc hw HL
        replace eT:=ext_alloc eT hw
        have q66:=new_block hw hn
        clear hw hn
        refine ⟨fun _=>eT,?_⟩
        refine ax_only (i:=25) (by kernel_rfl) (op_call F rfl rfl (by decide) rfl (R_callV rfl rfl Try.call26 (mpS (F.at rfl) (mpS (F.at rfl) mp0))) (upto_any _ _ b _ _ ((y.L.length : Nat) : Int) HL (by omega) (by omega) (by omega)) fun e w19 hR=>?_)
        obtain ⟨g2,rfl,hg20,hg21,HL,e9⟩:=hR
        refine ⟨_,rfl,?_⟩;clear F fa;intro fa F
        replace q5:=(e9).keep q5 (by simp;omega)
        replace q61:=(e9).keep q61 (by simp;omega)
        replace q66:=(e9).keep q66 (by simp;omega)
        replace E:=E.trans' e9 (fun i hi hl=>by simp only [List.mem_cons,List.not_mem_nil,or_false] at hi ⊢;omega)
        replace ED:=ED.trans' e9 (fun i hi hl=>by simp only [List.mem_cons,List.not_mem_nil,or_false] at hi ⊢;omega)
        replace eT:=eT.trans' e9 (fun i hi hl=>by simp only [List.mem_cons,List.not_mem_nil,or_false] at hi ⊢;omega)
        refine ⟨fun _=>eT,?_⟩
        refine F.x (i:=28) rfl (fun w'=>R_assign rfl (F.at rfl)) (fun _=>eT) ?_;clear F fa;intro fa F
        refine F.x (i:=29) rfl (fun w'=>R_assign rfl (F.at rfl)) (fun _=>eT) ?_;clear F fa;intro fa F
        refine ax_only (i:=27) (by kernel_rfl) (op_new F rfl rfl (by decide) rfl (R_buildSliceV rfl (prS (F.at rfl) (prS (F.at rfl) (prS (F.at rfl) (prS (F.at rfl) pr0)))) Try.underlying25 (size:=1) (by kernel_rfl) (by decide) (by decide) Try.zeroValue3 (cells:=#[.int .i64 n0,.int .i64 g1,.int .i64 g2,.int .i64 n0]) (by kernel_rfl)) ?_);clear F fa;intro fa w20 F hw
        obtain ⟨n84,hn⟩ : ∃ n,n = w19.heap.size:=⟨_,rfl⟩
        rw [← hn] at F
        have s84 : w19.heap.size ≤ n84:=Nat.le_of_eq hn.symm
        have l84_E : w.heap.size ≤ n84:=by rw [hn];exact E.size
        have l84_ED : wD.heap.size ≤ n84:=by rw [hn];exact ED.size
        have m84_5 : n5 < n84:=by rw [hn];exact blk_lt q5
        have m84_61 : n61 < n84:=by rw [hn];exact blk_lt q61
        have m84_66 : n66 < n84:=by rw [hn];exact blk_lt q66
        replace q5:=keep_alloc hw q5
        replace q61:=keep_alloc hw q61
        replace q66:=keep_alloc hw q66
        replace E:=ext_alloc E hw
        replace ED:=ext_alloc ED hw
        have q84:=new_block hw hn
        clear hw hn
        refine ⟨gone (by kernel_rfl),?_⟩
        refine F.x (i:=30) rfl (fun w'=>R_assign rfl (F.at rfl)) (gone (by kernel_rfl)) ?_;clear F fa;intro fa F
        refine ax_done (by kernel_rfl) ?_ _
        exact hcut _ _ _ _ _ _ _ (F.sub (.c 12 rfl (.c 15 rfl (.c 16 rfl (.c 17 rfl .n))))) q61 q66 q84 E ED (by omega) (by omega) (by omega) (by omega) (by omega) (by omega) (by omega) (by omega) (by omega)
       ·skip
        refine (op_call F rfl rfl (by decide) rfl (R_callV rfl rfl Try.call26 (mpS (F.at rfl) (mpS (F.at rfl) mp0))) (upto_any _ _ b _ _ ((y.L.length : Nat) : Int) HL (by omega) (by omega) (by omega)) fun e w21 hR=>?_)
        obtain ⟨g2,rfl,hg20,hg21,HL,e9⟩:=hR
        refine ⟨_,rfl,?_⟩;clear F fa;intro fa F
        replace q5:=(e9).keep q5 (by simp;omega)
        replace q61:=(e9).keep q61 (by simp;omega)
        replace E:=E.trans' e9 (fun i hi hl=>by simp only [List.mem_cons,List.not_mem_nil,or_false] at hi ⊢;omega)
        replace ED:=ED.trans' e9 (fun i hi hl=>by simp only [List.mem_cons,List.not_mem_nil,or_false] at hi ⊢;omega)
        replace eT:=eT.trans' e9 (fun i hi hl=>by simp only [List.mem_cons,List.not_mem_nil,or_false] at hi ⊢;omega)
        refine ⟨fun _=>eT,?_⟩
        refine F.x (i:=28) rfl (fun w'=>R_assign rfl (F.at rfl)) (fun _=>eT) ?_;clear F fa;intro fa F
        refine ax_pair (i:=9) (j:=27) (by kernel_rfl) ?_ ?_
        ·skip
         refine (op_new F rfl rfl (by decide) rfl (R_buildSliceV rfl (prS (F.at rfl) (prS (F.at rfl) (prS (F.at rfl) (prS (F.at rfl) pr0)))) Try.underlying22 (size:=1) (by kernel_rfl) (by decide) (by decide) Try.zeroValue25 (cells:=#[.slice la l.length lc,.slice qa q.length qc,.slice qa q.length qc,.slice la l.length lc]) (by kernel_rfl)) ?_);clear F fa;intro fa w22 F hw
         obtain ⟨n66,hn⟩ : ∃ n,n = w21.heap.size:=⟨_,rfl⟩
         rw [← hn] at F
         have s66 : w21.heap.size ≤ n66:=Nat.le_of_eq hn.symm
         have l66_E : w.heap.size ≤ n66:=by rw [hn];exact E.size
         have l66_ED : wD.heap.size ≤ n66:=by rw [hn];exact ED.size
         have lT66 : w10.heap.size ≤ n66:=by rw [hn];exact eT.size
         have m66_5 : n5 < n66:=by rw [hn];exact blk_lt q5
         have m66_61 : n61 < n66:=by rw [hn];exact blk_lt q61
         replace q5:=keep_alloc hw q5
         replace q61:=keep_alloc hw q61
         replace E:=ext_alloc E hw
         replace ED:=ext_alloc ED hw
         replace eT:=ext_alloc eT hw
         have q66:=new_block hw hn
         clear hw hn
         refine ⟨fun _=>eT,?_⟩
         refine F.x (i:=29) rfl (fun w'=>R_assign rfl (F.at rfl)) (fun _=>eT) ?_;clear F fa;intro fa F
         refine ax_only (i:=27) (by kernel_rfl) (op_new F rfl rfl (by decide) rfl (R_buildSliceV rfl (prS (F.at rfl) (prS (F.at rfl) (prS (F.at rfl) (prS (F.at rfl) pr0)))) Try.underlying25 (size:=1) (by kernel_rfl) (by decide) (by decide) Try.zeroValue3 (cells:=#[.int .i64 n0,.int .i64 g1,.int .i64 g2,.int .i64 n0]) (by kernel_rfl)) ?_);clear F fa;intro fa w23 F hw
         obtain ⟨n84,hn⟩ : ∃ n,n = w22.heap.size:=⟨_,rfl⟩
         rw [← hn] at F
         have s84 : w22.heap.size ≤ n84:=Nat.le_of_eq hn.symm
         have l84_E : w.heap.size ≤ n84:=by rw [hn];exact E.size
         have l84_ED : wD.heap.size ≤ n84:=by rw [hn];exact ED.size
         have m84_5 : n5 < n84:=by rw [hn];exact blk_lt q5
         have m84_61 : n61 < n84:=by rw [hn];exact blk_lt q61
         have m84_66 : n66 < n84:=by rw [hn];exact blk_lt q66
         replace q5:=keep_alloc hw q5
         replace q61:=keep_alloc hw q61
         replace q66:=keep_alloc hw q66
         replace E:=ext_alloc E hw
         replace ED:=ext_alloc ED hw
         have q84:=new_block hw hn
         clear hw hn
         refine ⟨gone (by kernel_rfl),?_⟩
         refine F.x (i:=30) rfl (fun w'=>R_assign rfl (F.at rfl)) (gone (by kernel_rfl)) ?_;clear F fa;intro fa F
         refine ax_done (by kernel_rfl) ?_ _
         exact hcut _ _ _ _ _ _ _ (F.sub (.c 12 rfl (.c 15 rfl (.c 16 rfl (.c 17 rfl .n))))) q61 q66 q84 E ED (by omega) (by omega) (by omega) (by omega) (by omega) (by omega) (by omega) (by omega) (by omega)
        ·skip
         refine (op_new F rfl rfl (by decide) rfl (R_buildSliceV rfl (prS (F.at rfl) (prS (F.at rfl) (prS (F.at rfl) (prS (F.at rfl) pr0)))) Try.underlying25 (size:=1) (by kernel_rfl) (by decide) (by decide) Try.zeroValue3 (cells:=#[.int .i64 n0,.int .i64 g1,.int .i64 g2,.int .i64 n0]) (by kernel_rfl)) ?_);clear F fa;intro fa w24 F hw
         obtain ⟨n84,hn⟩ : ∃ n,n = w21.heap.size:=⟨_,rfl⟩
         rw [← hn] at F
         have s84 : w21.heap.size ≤ n84:=Nat.le_of_eq hn.symm
         have l84_E : w.heap.size ≤ n84:=by rw [hn];exact E.size
         have l84_ED : wD.heap.size ≤ n84:=by rw [hn];exact ED.size
         have m84_5 : n5 < n84:=by rw [hn];exact blk_lt q5
         have m84_61 : n61 < n84:=by rw [hn];exact blk_lt q61
         replace q5:=keep_alloc hw q5
         replace q61:=keep_alloc hw q61
         replace E:=ext_alloc E hw
         replace ED:=ext_alloc ED hw
         have q84:=new_block hw hn
         clear hw hn
         refine ⟨gone (by kernel_rfl),?_⟩
         refine ax_only (i:=9) (by kernel_rfl) (op_new F rfl rfl (by decide) rfl (R_buildSliceV rfl (prS (F.at rfl) (prS (F.at rfl) (prS (F.at rfl) (prS (F.at rfl) pr0)))) Try.underlying22 (size:=1) (by kernel_rfl) (by decide) (by decide) Try.zeroValue25 (cells:=#[.slice la l.length lc,.slice qa q.length qc,.slice qa q.length qc,.slice la l.length lc]) (by kernel_rfl)) ?_);clear F fa;intro fa w25 F hw
         obtain ⟨n66,hn⟩ : ∃ n,n = w24.heap.size:=⟨_,rfl⟩
         rw [← hn] at F
         have s66 : w24.heap.size ≤ n66:=Nat.le_of_eq hn.symm
         have l66_E : w.heap.size ≤ n66:=by rw [hn];exact E.size
         have l66_ED : wD.heap.size ≤ n66:=by rw [hn];exact ED.size
         have m66_5 : n5 < n66:=by rw [hn];exact blk_lt q5
         have m66_61 : n61 < n66:=by rw [hn];exact blk_lt q61
         have m66_84 : n84 < n66:=by rw [hn];exact blk_lt q84
         replace q5:=keep_alloc hw q5
         replace q61:=keep_alloc hw q61
         replace q84:=keep_alloc hw q84
         replace E:=ext_alloc E hw
         replace ED:=ext_alloc ED hw
         have q66:=new_block hw hn
         clear hw hn
         refine ⟨gone (by kernel_rfl),?_⟩
         refine F.x (i:=29) rfl (fun w'=>R_assign rfl (F.at rfl)) (gone (by kernel_rfl)) ?_;clear F fa;intro fa F
         refine F.x (i:=30) rfl (fun w'=>R_assign rfl (F.at rfl)) (gone (by kernel_rfl)) ?_;clear F fa;intro fa F
         refine ax_done (by kernel_rfl) ?_ _
         exact hcut _ _ _ _ _ _ _ (F.sub (.c 12 rfl (.c 15 rfl (.c 16 rfl (.c 17 rfl .n))))) q61 q66 q84 E ED (by omega) (by omega) (by omega) (by omega) (by omega) (by omega) (by omega) (by omega) (by omega)
     ·skip
      refine (op_new F rfl rfl (by decide) rfl (R_buildSliceV rfl (prS (F.at rfl) (prS (F.at rfl) (prS (F.at rfl) (prS (F.at rfl) pr0)))) Try.underlying22 (size:=1) (by kernel_rfl) (by decide) (by decide) Try.zeroValue25 (cells:=#[.slice la l.length lc,.slice qa q.length qc,.slice qa q.length qc,.slice la l.length lc]) (by kernel_rfl)) ?_);clear F fa;intro fa w26 F hw
      obtain ⟨n66,hn⟩ : ∃ n,n = w11.heap.size:=⟨_,rfl⟩
      rw [← hn] at F
      have s66 : w11.heap.size ≤ n66:=Nat.le_of_eq hn.symm
      have l66_E : w.heap.size ≤ n66:=by rw [hn];exact E.size
      have l66_ED : wD.heap.size ≤ n66:=by rw [hn];exact ED.size
      have lT66 : w10.heap.size ≤ n66:=by rw [hn];exact eT.size
      have b66_HL:=Nat.lt_of_lt_of_eq (lots_lt HL) hn.symm
      have m66_5 : n5 < n66:=by rw [hn];exact blk_lt q5
      replace q5:=keep_alloc hw q5
      replace E:=ext_alloc E hw
      replace ED:=ext_alloc ED hw
      replace HL:=lots_alloc hw HL
      replace eT:=ext_alloc eT hw
      have q66:=new_block hw hn
      clear hw hn
      refine ⟨fun _=>eT,?_⟩
      refine ax_pair (i:=4) (j:=18) (by kernel_rfl) ?_ ?_
      ·skip
       refine (op_new F rfl rfl (by decide) rfl (R_buildSliceV rfl (prS (F.at rfl) (prS (F.at rfl) (prS (F.at rfl) (prS (F.at rfl) pr0)))) Try.underlying43 (size:=1) (by kernel_rfl) (by decide) (by decide) Try.zeroValue22 (cells:=#[.slice ta T.length tc,.slice oa O.length oc,.slice oa O.length oc,.slice oa O.length oc]) (by kernel_rfl)) ?_);clear F fa;intro fa w27 F hw
       obtain ⟨n61,hn⟩ : ∃ n,n = w26.heap.size:=⟨_,rfl⟩
       rw [← hn] at F
       have s61 : w26.heap.size ≤ n61:=Nat.le_of_eq hn.symm
       have l61_E : w.heap.size ≤ n61:=by rw [hn];exact E.size
       have l61_ED : wD.heap.size ≤ n61:=by rw [hn];exact ED.size
       have lT61 : w10.heap.size ≤ n61:=by rw [hn];exact eT.size
       have b61_HL:=Nat.lt_of_lt_of_eq (lots_lt HL) hn.symm
       have m61_5 : n5 < n61:=by rw [hn];exact blk_lt q5
       have m61_66 : n66 < n61:=by rw [hn];exact blk_lt q66
       replace q5:=keep_alloc hw q5
       replace q66:=keep_alloc hw q66
       replace E:=ext_alloc E hw
       replace ED:=ext_alloc ED hw
       replace HL:=lots_alloc hw HL
       replace eT:=ext_alloc eT hw
       have q61:=new_block hw hn
       clear hw hn
       refine ⟨fun _=>eT,?_⟩
       refine ax_only (i:=18) (by kernel_rfl) (op_call F rfl rfl (by decide) rfl (R_callV rfl rfl Try.call26 (mpS (F.at rfl) (mpS (F.at rfl) mp0))) (upto_any _ _ b _ _ (((y.L.length : Nat) : Int) - 1) HL (by omega) (by omega) (by omega)) fun e w28 hR=>?_)
       obtain ⟨g1,rfl,hg10,hg11,HL,e9⟩:=hR
       refine ⟨_,rfl,?_⟩;clear F fa;intro fa F
       replace q5:=(e9).keep q5 (by simp;omega)
       replace q66:=(e9).keep q66 (by simp;omega)
       replace q61:=(e9).keep q61 (by simp;omega)
       replace E:=E.trans' e9 (fun i hi hl=>by simp only [List.mem_cons,List.not_mem_nil,or_false] at hi ⊢;omega)
       replace ED:=ED.trans' e9 (fun i hi hl=>by simp only [List.mem_cons,List.not_mem_nil,or_false] at hi ⊢;omega)
       replace eT:=eT.trans' e9 (fun i hi hl=>by simp only [List.mem_cons,List.not_mem_nil,or_false] at hi ⊢;omega)
       refine ⟨fun _=>eT,?_⟩
       refine ax_only (i:=25) (by kernel_rfl) (op_call F rfl rfl (by decide) rfl (R_callV rfl rfl Try.call26 (mpS (F.at rfl) (mpS (F.at rfl) mp0))) (upto_any _ _ b _ _ ((y.L.length : Nat) : Int) HL (by omega) (by omega) (by omega)) fun e w29 hR=>?_)
       obtain ⟨g2,rfl,hg20,hg21,HL,e9⟩:=hR
       refine ⟨_,rfl,?_⟩;clear F fa;intro fa F
       replace q5:=(e9).keep q5 (by simp;omega)
       replace q66:=(e9).keep q66 (by simp;omega)
       replace q61:=(e9).keep q61 (by simp;omega)
       replace E:=E.trans' e9 (fun i hi hl=>by simp only [List.mem_cons,List.not_mem_nil,or_false] at hi ⊢;omega)
       replace ED:=ED.trans' e9 (fun i hi hl=>by simp only [List.mem_cons,List.not_mem_nil,or_false] at hi ⊢;omega)
       replace eT:=eT.trans' e9 (fun i hi hl=>by simp only [List.mem_cons,List.not_mem_nil,or_false] at hi ⊢;omega)
       refine ⟨fun _=>eT,?_⟩
       refine F.x (i:=28) rfl (fun w'=>R_assign rfl (F.at rfl)) (fun _=>eT) ?_;clear F fa;intro fa F
       refine F.x (i:=29) rfl (fun w'=>R_assign rfl (F.at rfl)) (fun _=>eT) ?_;clear F fa;intro fa F
       refine ax_only (i:=27) (by kernel_rfl) (op_new F rfl rfl (by decide) rfl (R_buildSliceV rfl (prS (F.at rfl) (prS (F.at rfl) (prS (F.at rfl) (prS (F.at rfl) pr0)))) Try.underlying25 (size:=1) (by kernel_rfl) (by decide) (by decide) Try.zeroValue3 (cells:=#[.int .i64 n0,.int .i64 g1,.int .i64 g2,.int .i64 n0]) (by kernel_rfl)) ?_);clear F fa;intro fa w30 F hw
       obtain ⟨n84,hn⟩ : ∃ n,n = w29.heap.size:=⟨_,rfl⟩
       rw [← hn] at F
       have s84 : w29.heap.size ≤ n84:=Nat.le_of_eq hn.symm
       have l84_E : w.heap.size ≤ n84:=by rw [hn];exact E.size
       have l84_ED : wD.heap.size ≤ n84:=by rw [hn];exact ED.size
       have m84_5 : n5 < n84:=by rw [hn];exact blk_lt q5
       have m84_66 : n66 < n84:=by rw [hn];exact blk_lt q66
       have m84_61 : n61 < n84:=by rw [hn];exact blk_lt q61
       replace q5:=keep_alloc hw q5
       replace q66:=keep_alloc hw q66
       replace q61:=keep_alloc hw q61
       replace E:=ext_alloc E hw
       replace ED:=ext_alloc ED hw
       have q84:=new_block hw hn
       clear hw hn
       refine ⟨gone (by kernel_rfl),?_⟩
       refine F.x (i:=30) rfl (fun w'=>R_assign rfl (F.at rfl)) (gone (by kernel_rfl)) ?_;clear F fa;intro fa F
       refine ax_done (by kernel_rfl) ?_ _
       exact hcut _ _ _ _ _ _ _ (F.sub (.c 12 rfl (.c 15 rfl (.c 16 rfl (.c 17 rfl .n))))) q61 q66 q84 E ED (by omega) (by omega) (by omega) (by omega) (by omega) (by omega) (by omega) (by omega) (by omega)
      ·skip
       refine (op_call F rfl rfl (by decide) rfl (R_callV rfl rfl Try.call26 (mpS (F.at rfl) (mpS (F.at rfl) mp0))) (upto_any _ _ b _ _ (((y.L.length : Nat) : Int) - 1) HL (by omega) (by omega) (by omega)) fun e w31 hR=>?_)
       obtain ⟨g1,rfl,hg10,hg11,HL,e9⟩:=hR
       refine ⟨_,rfl,?_⟩;clear F fa;intro fa F
       replace q5:=(e9).keep q5 (by simp;omega)
       replace q66:=(e9).keep q66 (by simp;omega)
       replace E:=E.trans' e9 (fun i hi hl=>by simp only [List.mem_cons,List.not_mem_nil,or_false] at hi ⊢;omega)
       replace ED:=ED.trans' e9 (fun i hi hl=>by simp only [List.mem_cons,List.not_mem_nil,or_false] at hi ⊢;omega)
       replace eT:=eT.trans' e9 (fun i hi hl=>by simp only [List.mem_cons,List.not_mem_nil,or_false] at hi ⊢;omega)
       refine ⟨fun _=>eT,?_⟩
       refine ax_pair (i:=4) (j:=25) (by kernel_rfl) ?_ ?_
       ·skip
        refine (op_new F rfl rfl (by decide) rfl (R_buildSliceV rfl (prS (F.at rfl) (prS (F.at rfl) (prS (F.at rfl) (prS (F.at rfl) pr0)))) Try.underlying43 (size:=1) (by kernel_rfl) (by decide) (by decide) Try.zeroValue22 (cells:=#[.slice ta T.length tc,.slice oa O.length oc,.slice oa O.length oc,.slice oa O.length oc]) (by kernel_rfl)) ?_);clear F fa;intro fa w32 F hw
        obtain ⟨n61,hn⟩ : ∃ n,n = w31.heap.size:=⟨_,rfl⟩
        rw [← hn] at F
        have s61 : w31.heap.size ≤ n61:=Nat.le_of_eq hn.symm
        have l61_E : w.heap.size ≤ n61:=by rw [hn];exact E.size
        have l61_ED : wD.heap.size ≤ n61:=by rw [hn];exact ED.size
        have lT61 : w10.heap.size ≤ n61:=by rw [hn];exact eT.size
        have b61_HL:=Nat.lt_of_lt_of_eq (lots_lt HL) hn.symm
        have m61_5 : n5 < n61:=by rw [hn];exact blk_lt q5
        have m61_66 : n66 < n61:=by rw [hn];exact blk_lt q66
        replace q5:=keep_alloc hw q5
        replace q66:=keep_alloc hw q66
        replace E:=ext_alloc E hw
        replace ED:=ext_alloc ED hw
        replace HL:=lots_alloc hw HL
        replace eT:=ext_alloc eT hw
        have q61:=new_block hw hn
        clear hw hn
        refine ⟨fun _=>eT,?_⟩
        refine ax_only (i:=25) (by kernel_rfl) (op_call F rfl rfl (by decide) rfl (R_callV rfl rfl Try.call26 (mpS (F.at rfl) (mpS (F.at rfl) mp0))) (upto_any _ _ b _ _ ((y.L.length : Nat) : Int) HL (by omega) (by omega) (by omega)) fun e w33 hR=>?_)
        obtain ⟨g2,rfl,hg20,hg21,HL,e9⟩:=hR
        refine ⟨_,rfl,?_⟩;clear F fa;intro fa F
        replace q5:=(e9).keep q5 (by simp;omega)
        replace q66:=(e9).keep q66 (by simp;omega)
        replace q61:=(e9).keep q61 (by simp;omega)
        replace E:=E.trans' e9 (fun i hi hl=>by simp only [List.mem_cons,List.not_mem_nil,or_false] at hi ⊢;omega)
        replace ED:=ED.trans' e9 (fun i hi hl=>by simp only [List.mem_cons,List.not_mem_nil,or_false] at hi ⊢;omega)
        replace eT:=eT.trans' e9 (fun i hi hl=>by simp only [List.mem_cons,List.not_mem_nil,or_false] at hi ⊢;omega)
        refine ⟨fun _=>eT,?_⟩
        refine F.x (i:=28) rfl (fun w'=>R_assign rfl (F.at rfl)) (fun _=>eT) ?_;clear F fa;intro fa F
        refine F.x (i:=29) rfl (fun w'=>R_assign rfl (F.at rfl)) (fun _=>eT) ?_;clear F fa;intro fa F
        refine ax_only (i:=27) (by kernel_rfl) (op_new F rfl rfl (by decide) rfl (R_buildSliceV rfl (prS (F.at rfl) (prS (F.at rfl) (prS (F.at rfl) (prS (F.at rfl) pr0)))) Try.underlying25 (size:=1) (by kernel_rfl) (by decide) (by decide) Try.zeroValue3 (cells:=#[.int .i64 n0,.int .i64 g1,.int .i64 g2,.int .i64 n0]) (by kernel_rfl)) ?_);clear F fa;intro fa w34 F hw
        obtain ⟨n84,hn⟩ : ∃ n,n = w33.heap.size:=⟨_,rfl⟩
        rw [← hn] at F
        have s84 : w33.heap.size ≤ n84:=Nat.le_of_eq hn.symm
        have l84_E : w.heap.size ≤ n84:=by rw [hn];exact E.size
        have l84_ED : wD.heap.size ≤ n84:=by rw [hn];exact ED.size
        have m84_5 : n5 < n84:=by rw [hn];exact blk_lt q5
        have m84_66 : n66 < n84:=by rw [hn];exact blk_lt q66
        have m84_61 : n61 < n84:=by rw [hn];exact blk_lt q61
        replace q5:=keep_alloc hw q5
        replace q66:=keep_alloc hw q66
        replace q61:=keep_alloc hw q61
        replace E:=ext_alloc E hw
        replace ED:=ext_alloc ED hw
        have q84:=new_block hw hn
        clear hw hn
        refine ⟨gone (by kernel_rfl),?_⟩
        refine F.x (i:=30) rfl (fun w'=>R_assign rfl (F.at rfl)) (gone (by kernel_rfl)) ?_;clear F fa;intro fa F
        refine ax_done (by kernel_rfl) ?_ _
        exact hcut _ _ _ _ _ _ _ (F.sub (.c 12 rfl (.c 15 rfl (.c 16 rfl (.c 17 rfl .n))))) q61 q66 q84 E ED (by omega) (by omega) (by omega) (by omega) (by omega) (by omega) (by omega) (by omega) (by omega)
       ·skip
        refine (op_call F rfl rfl (by decide) rfl (R_callV rfl rfl Try.call26 (mpS (F.at rfl) (mpS (F.at rfl) mp0))) (upto_any _ _ b _ _ ((y.L.length : Nat) : Int) HL (by omega) (by omega) (by omega)) fun e w35 hR=>?_)
        obtain ⟨g2,rfl,hg20,hg21,HL,e9⟩:=hR
        refine ⟨_,rfl,?_⟩;clear F fa;intro fa F
        replace q5:=(e9).keep q5 (by simp;omega)
        replace q66:=(e9).keep q66 (by simp;omega)
        replace E:=E.trans' e9 (fun i hi hl=>by simp only [List.mem_cons,List.not_mem_nil,or_false] at hi ⊢;omega)
        replace ED:=ED.trans' e9 (fun i hi hl=>by simp only [List.mem_cons,List.not_mem_nil,or_false] at hi ⊢;omega)
        replace eT:=eT.trans' e9 (fun i hi hl=>by simp only [List.mem_cons,List.not_mem_nil,or_false] at hi ⊢;omega)
        refine ⟨fun _=>eT,?_⟩
        refine ax_pair (i:=4) (j:=27) (by kernel_rfl) ?_ ?_
        ·skip
         refine (op_new F rfl rfl (by decide) rfl (R_buildSliceV rfl (prS (F.at rfl) (prS (F.at rfl) (prS (F.at rfl) (prS (F.at rfl) pr0)))) Try.underlying43 (size:=1) (by kernel_rfl) (by decide) (by decide) Try.zeroValue22 (cells:=#[.slice ta T.length tc,.slice oa O.length oc,.slice oa O.length oc,.slice oa O.length oc]) (by kernel_rfl)) ?_);clear F fa;intro fa w36 F hw
         obtain ⟨n61,hn⟩ : ∃ n,n = w35.heap.size:=⟨_,rfl⟩
         rw [← hn] at F
         have s61 : w35.heap.size ≤ n61:=Nat.le_of_eq hn.symm
         have l61_E : w.heap.size ≤ n61:=by rw [hn];exact E.size
         have l61_ED : wD.heap.size ≤ n61:=by rw [hn];exact ED.size
         have lT61 : w10.heap.size ≤ n61:=by rw [hn];exact eT.size
         have m61_5 : n5 < n61:=by rw [hn];exact blk_lt q5
         have m61_66 : n66 < n61:=by rw [hn];exact blk_lt q66
         replace q5:=keep_alloc hw q5
         replace q66:=keep_alloc hw q66
         replace E:=ext_alloc E hw
         replace ED:=ext_alloc ED hw
         replace eT:=ext_alloc eT hw
         have q61:=new_block hw hn
         clear hw hn
         refine ⟨fun _=>eT,?_⟩
         refine F.x (i:=28) rfl (fun w'=>R_assign rfl (F.at rfl)) (fun _=>eT) ?_;clear F fa;intro fa F
         refine F.x (i:=29) rfl (fun w'=>R_assign rfl (F.at rfl)) (fun _=>eT) ?_;clear F fa;intro fa F
         refine ax_only (i:=27) (by kernel_rfl) (op_new F rfl rfl (by decide) rfl (R_buildSliceV rfl (prS (F.at rfl) (prS (F.at rfl) (prS (F.at rfl) (prS (F.at rfl) pr0)))) Try.underlying25 (size:=1) (by kernel_rfl) (by decide) (by decide) Try.zeroValue3 (cells:=#[.int .i64 n0,.int .i64 g1,.int .i64 g2,.int .i64 n0]) (by kernel_rfl)) ?_);clear F fa;intro fa w37 F hw
         obtain ⟨n84,hn⟩ : ∃ n,n = w36.heap.size:=⟨_,rfl⟩
         rw [← hn] at F
         have s84 : w36.heap.size ≤ n84:=Nat.le_of_eq hn.symm
         have l84_E : w.heap.size ≤ n84:=by rw [hn];exact E.size
         have l84_ED : wD.heap.size ≤ n84:=by rw [hn];exact ED.size
         have m84_5 : n5 < n84:=by rw [hn];exact blk_lt q5
         have m84_66 : n66 < n84:=by rw [hn];exact blk_lt q66
         have m84_61 : n61 < n84:=by rw [hn];exact blk_lt q61
         replace q5:=keep_alloc hw q5
         replace q66:=keep_alloc hw q66
         replace q61:=keep_alloc hw q61
         replace E:=ext_alloc E hw
         replace ED:=ext_alloc ED hw
         have q84:=new_block hw hn
         clear hw hn
         refine ⟨gone (by kernel_rfl),?_⟩
         refine F.x (i:=30) rfl (fun w'=>R_assign rfl (F.at rfl)) (gone (by kernel_rfl)) ?_;clear F fa;intro fa F
         refine ax_done (by kernel_rfl) ?_ _
         exact hcut _ _ _ _ _ _ _ (F.sub (.c 12 rfl (.c 15 rfl (.c 16 rfl (.c 17 rfl .n))))) q61 q66 q84 E ED (by omega) (by omega) (by omega) (by omega) (by omega) (by omega) (by omega) (by omega) (by omega)
        ·skip
         refine (op_new F rfl rfl (by decide) rfl (R_buildSliceV rfl (prS (F.at rfl) (prS (F.at rfl) (prS (F.at rfl) (prS (F.at rfl) pr0)))) Try.underlying25 (size:=1) (by kernel_rfl) (by decide) (by decide) Try.zeroValue3 (cells:=#[.int .i64 n0,.int .i64 g1,.int .i64 g2,.int .i64 n0]) (by kernel_rfl)) ?_);clear F fa;intro fa w38 F hw
         obtain ⟨n84,hn⟩ : ∃ n,n = w35.heap.size:=⟨_,rfl⟩
         rw [← hn] at F
         have s84 : w35.heap.size ≤ n84:=Nat.le_of_eq hn.symm
         have l84_E : w.heap.size ≤ n84:=by rw [hn];exact E.size
         have l84_ED : wD.heap.size ≤ n84:=by rw [hn];exact ED.size
         have m84_5 : n5 < n84:=by rw [hn];exact blk_lt q5
         have m84_66 : n66 < n84:=by rw [hn];exact blk_lt q66
         replace q5:=keep_alloc hw q5
         replace q66:=keep_alloc hw q66
         replace E:=ext_alloc E hw
         replace ED:=ext_alloc ED hw
         have q84:=new_block hw hn
         clear hw hn
         refine ⟨gone (by kernel_rfl),?_⟩
         refine ax_only (i:=4) (by kernel_rfl) (op_new F rfl rfl (by decide) rfl (R_buildSliceV rfl (prS (F.at rfl) (prS (F.at rfl) (prS (F.at rfl) (prS (F.at rfl) pr0)))) Try.underlying43 (size:=1) (by kernel_rfl) (by decide) (by decide) Try.zeroValue22 (cells:=#[.slice ta T.length tc,.slice oa O.length oc,.slice oa O.length oc,.slice oa O.length oc]) (by kernel_rfl)) ?_);clear F fa;intro fa w39 F hw
         obtain ⟨n61,hn⟩ : ∃ n,n = w38.heap.size:=⟨_,rfl⟩
         rw [← hn] at F
         have s61 : w38.heap.size ≤ n61:=Nat.le_of_eq hn.symm
         have l61_E : w.heap.size ≤ n61:=by rw [hn];exact E.size
         have l61_ED : wD.heap.size ≤ n61:=by rw [hn];exact ED.size
         have m61_5 : n5 < n61:=by rw [hn];exact blk_lt q5
         have m61_66 : n66 < n61:=by rw [hn];exact blk_lt q66
         have m61_84 : n84 < n61:=by rw [hn];exact blk_lt q84
         replace q5:=keep_alloc hw q5
         replace q66:=keep_alloc hw q66
         replace q84:=keep_alloc hw q84
         replace E:=ext_alloc E hw
         replace ED:=ext_alloc ED hw
         have q61:=new_block hw hn
         clear hw hn
         refine ⟨gone (by kernel_rfl),?_⟩
         refine F.x (i:=28) rfl (fun w'=>R_assign rfl (F.at rfl)) (gone (by kernel_rfl)) ?_;clear F fa;intro fa F
         refine F.x (i:=29) rfl (fun w'=>R_assign rfl (F.at rfl)) (gone (by kernel_rfl)) ?_;clear F fa;intro fa F
         refine F.x (i:=30) rfl (fun w'=>R_assign rfl (F.at rfl)) (gone (by kernel_rfl)) ?_;clear F fa;intro fa F
         refine ax_done (by kernel_rfl) ?_ _
         exact hcut _ _ _ _ _ _ _ (F.sub (.c 12 rfl (.c 15 rfl (.c 16 rfl (.c 17 rfl .n))))) q61 q66 q84 E ED (by omega) (by omega) (by omega) (by omega) (by omega) (by omega) (by omega) (by omega) (by omega)
     ·skip
      refine (op_call F rfl rfl (by decide) rfl (R_callV rfl rfl Try.call26 (mpS (F.at rfl) (mpS (F.at rfl) mp0))) (upto_any _ _ b _ _ (((y.L.length : Nat) : Int) - 1) HL (by omega) (by omega) (by omega)) fun e w40 hR=>?_)
      obtain ⟨g1,rfl,hg10,hg11,HL,e9⟩:=hR
      refine ⟨_,rfl,?_⟩;clear F fa;intro fa F
      replace q5:=(e9).keep q5 (by simp;omega)
      replace E:=E.trans' e9 (fun i hi hl=>by simp only [List.mem_cons,List.not_mem_nil,or_false] at hi ⊢;omega)
      replace ED:=ED.trans' e9 (fun i hi hl=>by simp only [List.mem_cons,List.not_mem_nil,or_false] at hi ⊢;omega)
      replace eT:=eT.trans' e9 (fun i hi hl=>by simp only [List.mem_cons,List.not_mem_nil,or_false] at hi ⊢;omega)
      refine ⟨fun _=>eT,?_⟩
      refine ax_three (i:=4) (j:=9) (k:=25) (by kernel_rfl) ?_ ?_ ?_
      ·skip
       refine (op_new F rfl rfl (by decide) rfl (R_buildSliceV rfl (prS (F.at rfl) (prS (F.at rfl) (prS (F.at rfl) (prS (F.at rfl) pr0)))) Try.underlying43 (size:=1) (by kernel_rfl) (by decide) (by decide) Try.zeroValue22 (cells:=#[.slice ta T.length tc,.slice oa O.length oc,.slice oa O.length oc,.slice oa O.length oc]) (by kernel_rfl)) ?_);clear F fa;intro fa w41 F hw
       obtain ⟨n61,hn⟩ : ∃ n,n = w40.heap.size:=⟨_,rfl⟩
       rw [← hn] at F
       have s61 : w40.heap.size ≤ n61:=Nat.le_of_eq hn.symm
       have l61_E : w.heap.size ≤ n61:=by rw [hn];exact E.size
       have l61_ED : wD.heap.size ≤ n61:=by rw [hn];exact ED.size
       have lT61 : w10.heap.size ≤ n61:=by rw [hn];exact eT.size
       have b61_HL:=Nat.lt_of_lt_of_eq (lots_lt HL) hn.symm
       have m61_5 : n5 < n61:=by rw [hn];exact blk_lt q5
       replace q5:=keep_alloc hw q5
       replace E:=ext_alloc E hw
       replace ED:=ext_alloc ED hw
       replace HL:=lots_alloc hw HL
       replace eT:=ext_alloc eT hw
       have q61:=new_block hw hn
       clear hw hn
       refine ⟨fun _=>eT,?_⟩
       refine ax_pair (i:=9) (j:=25) (by kernel_rfl) ?_ ?_
       ·skip
        refine (op_new F rfl rfl (by decide) rfl (R_buildSliceV rfl (prS (F.at rfl) (prS (F.at rfl) (prS (F.at rfl) (prS (F.at rfl) pr0)))) Try.underlying22 (size:=1) (by kernel_rfl) (by decide) (by decide) Try.zeroValue25 (cells:=#[.slice la l.length lc,.slice qa q.length qc,.slice qa q.length qc,.slice la l.length lc]) (by kernel_rfl)) ?_);clear F fa;intro fa w42 F hw
        obtain ⟨n66,hn⟩ : ∃ n,n = w41.heap.size:=⟨_,rfl⟩
        rw [← hn] at F
        have s66 : w41.heap.size ≤ n66:=Nat.le_of_eq hn.symm
        have l66_E : w.heap.size ≤ n66:=by rw [hn];exact E.size
        have l66_ED : wD.heap.size ≤ n66:=by rw [hn];exact ED.size
        have lT66 : w10.heap.size ≤ n66:=by rw [hn];exact eT.size
        have b66_HL:=Nat.lt_of_lt_of_eq (lots_lt HL) hn.symm
        have m66_5 : n5 < n66:=by rw [hn];exact blk_lt q5
        have m66_61 : n61 < n66:=by rw [hn];exact blk_lt q61
        replace q5:=keep_alloc hw q5
        replace q61:=keep_alloc hw q61
        replace E:=ext_alloc E hw
        replace ED:=ext_alloc ED hw
        replace HL:=lots_alloc hw HL
        replace eT:=ext_alloc eT hw
        have q66:=new_block hw hn
        clear hw hn
        refine ⟨fun _=>eT,?_⟩
        refine ax_only (i:=25) (by kernel_rfl) (op_call F rfl rfl (by decide) rfl (R_callV rfl rfl Try.call26 (mpS (F.at rfl) (mpS (F.at rfl) mp0))) (upto_any _ _ b _ _ ((y.L.length : Nat) : Int) HL (by omega) (by omega) (by omega)) fun e w43 hR=>?_)
        obtain ⟨g2,rfl,hg20,hg21,HL,e9⟩:=hR
        refine ⟨_,rfl,?_⟩;clear F fa;intro fa F
        replace q5:=(e9).keep q5 (by simp;omega)
        replace q61:=(e9).keep q61 (by simp;omega)
        replace q66:=(e9).keep q66 (by simp;omega)
        replace E:=E.trans' e9 (fun i hi hl=>by simp only [List.mem_cons,List.not_mem_nil,or_false] at hi ⊢;omega)
        replace ED:=ED.trans' e9 (fun i hi hl=>by simp only [List.mem_cons,List.not_mem_nil,or_false] at hi ⊢;omega)
        replace eT:=eT.trans' e9 (fun i hi hl=>by simp only [List.mem_cons,List.not_mem_nil,or_false] at hi ⊢;omega)
        refine ⟨fun _=>eT,?_⟩
        refine F.x (i:=28) rfl (fun w'=>R_assign rfl (F.at rfl)) (fun _=>eT) ?_;clear F fa;intro fa F
        refine F.x (i:=29) rfl (fun w'=>R_assign rfl (F.at rfl)) (fun _=>eT) ?_;clear F fa;intro fa F
        refine ax_only (i:=27) (by kernel_rfl) (op_new F rfl rfl (by decide) rfl (R_buildSliceV rfl (prS (F.at rfl) (prS (F.at rfl) (prS (F.at rfl) (prS (F.at rfl) pr0)))) Try.underlying25 (size:=1) (by kernel_rfl) (by decide) (by decide) Try.zeroValue3 (cells:=#[.int .i64 n0,.int .i64 g1,.int .i64 g2,.int .i64 n0]) (by kernel_rfl)) ?_);clear F fa;intro fa w44 F hw
        obtain ⟨n84,hn⟩ : ∃ n,n = w43.heap.size:=⟨_,rfl⟩
        rw [← hn] at F
        have s84 : w43.heap.size ≤ n84:=Nat.le_of_eq hn.symm
        have l84_E : w.heap.size ≤ n84:=by rw [hn];exact E.size
        have l84_ED : wD.heap.size ≤ n84:=by rw [hn];exact ED.size
        have m84_5 : n5 < n84:=by rw [hn];exact blk_lt q5
        have m84_61 : n61 < n84:=by rw [hn];exact blk_lt q61
        have m84_66 : n66 < n84:=by rw [hn];exact blk_lt q66
        replace q5:=keep_alloc hw q5
        replace q61:=keep_alloc hw q61
        replace q66:=keep_alloc hw q66
        replace E:=ext_alloc E hw
        replace ED:=ext_alloc ED hw
        have q84:=new_block hw hn
        clear hw hn
        refine ⟨gone (by kernel_rfl),?_⟩
        refine F.x (i:=30) rfl (fun w'=>R_assign rfl (F.at rfl)) (gone (by kernel_rfl)) ?_;clear F fa;intro fa F
        refine ax_done (by kernel_rfl) ?_ _
        exact hcut _ _ _ _ _ _ _ (F.sub (.c 12 rfl (.c 15 rfl (.c 16 rfl (.c 17 rfl .n))))) q61 q66 q84 E ED (by omega) (by omega) (by omega) (by omega) (by omega) (by omega) (by omega) (by omega) (by omega)
       ·skip
        refine (op_call F rfl rfl (by decide) rfl (R_callV rfl rfl Try.call26 (mpS (F.at rfl) (mpS (F.at rfl) mp0))) (upto_any _ _ b _ _ ((y.L.length : Nat) : Int) HL (by omega) (by omega) (by omega)) fun e w45 hR=>?_)
        obtain ⟨g2,rfl,hg20,hg21,HL,e9⟩:=hR
        refine ⟨_,rfl,?_⟩;clear F fa;intro fa F
        replace q5:=(e9).keep q5 (by simp;omega)
        replace q61:=(e9).keep q61 (by simp;omega)
        replace E:=E.trans' e9 (fun i hi hl=>by simp only [List.mem_cons,List.not_mem_nil,or_false] at hi ⊢;omega)
        replace ED:=ED.trans' e9 (fun i hi hl=>by simp only [List.mem_cons,List.not_mem_nil,or_false] at hi ⊢;omega)
        replace eT:=eT.trans' e9 (fun i hi hl=>by simp only [List.mem_cons,List.not_mem_nil,or_false] at hi ⊢;omega)
        refine ⟨fun _=>eT,?_⟩
        refine F.x (i:=28) rfl (fun w'=>R_assign rfl (F.at rfl)) (fun _=>eT) ?_;clear F fa;intro fa F
        refine ax_pair (i:=9) (j:=27) (by kernel_rfl) ?_ ?_
        ·skip
         refine (op_new F rfl rfl (by decide) rfl (R_buildSliceV rfl (prS (F.at rfl) (prS (F.at rfl) (prS (F.at rfl) (prS (F.at rfl) pr0)))) Try.underlying22 (size:=1) (by kernel_rfl) (by decide) (by decide) Try.zeroValue25 (cells:=#[.slice la l.length lc,.slice qa q.length qc,.slice qa q.length qc,.slice la l.length lc]) (by kernel_rfl)) ?_);clear F fa;intro fa w46 F hw
         obtain ⟨n66,hn⟩ : ∃ n,n = w45.heap.size:=⟨_,rfl⟩
         rw [← hn] at F
         have s66 : w45.heap.size ≤ n66:=Nat.le_of_eq hn.symm
         have l66_E : w.heap.size ≤ n66:=by rw [hn];exact E.size
         have l66_ED : wD.heap.size ≤ n66:=by rw [hn];exact ED.size
         have lT66 : w10.heap.size ≤ n66:=by rw [hn];exact eT.size
         have m66_5 : n5 < n66:=by rw [hn];exact blk_lt q5
         have m66_61 : n61 < n66:=by rw [hn];exact blk_lt q61
         replace q5:=keep_alloc hw q5
         replace q61:=keep_alloc hw q61
         replace E:=ext_alloc E hw
         replace ED:=ext_alloc ED hw
         replace eT:=ext_alloc eT hw
         have q66:=new_block hw hn
         clear hw hn
         refine ⟨fun _=>eT,?_⟩
         refine F.x (i:=29) rfl (fun w'=>R_assign rfl (F.at rfl)) (fun _=>eT) ?_;clear F fa;intro fa F
         refine ax_only (i:=27) (by kernel_rfl) (op_new F rfl rfl (by decide) rfl (R_buildSliceV rfl (prS (F.at rfl) (prS (F.at rfl) (prS (F.at rfl) (prS (F.at rfl) pr0)))) Try.underlying25 (size:=1) (by kernel_rfl) (by decide) (by decide) Try.zeroValue3 (cells:=#[.int .i64 n0,.int .i64 g1,.int .i64 g2,.int .i64 n0]) (by kernel_rfl)) ?_);clear F fa;intro fa w47 F hw
         obtain ⟨n84,hn⟩ : ∃ n,n = w46.heap.size:=⟨_,rfl⟩
         rw [← hn] at F
         have s84 : w46.heap.size ≤ n84:=Nat.le_of_eq hn.symm
         have l84_E : w.heap.size ≤ n84:=by rw [hn];exact E.size
         have l84_ED : wD.heap.size ≤ n84:=by rw [hn];exact ED.size
         have m84_5 : n5 < n84:=by rw [hn];exact blk_lt q5
         have m84_61 : n61 < n84:=by rw [hn];exact blk_lt q61
         have m84_66 : n66 < n84:=by rw [hn];exact blk_lt q66
         replace q5:=keep_alloc hw q5
         replace q61:=keep_alloc hw q61
         replace q66:=keep_alloc hw q66
         replace E:=ext_alloc E hw
         replace ED:=ext_alloc ED hw
         have q84:=new_block hw hn
         clear hw hn
         refine ⟨gone (by kernel_rfl),?_⟩
         refine F.x (i:=30) rfl (fun w'=>R_assign rfl (F.at rfl)) (gone (by kernel_rfl)) ?_;clear F fa;intro fa F
         refine ax_done (by kernel_rfl) ?_ _
         exact hcut _ _ _ _ _ _ _ (F.sub (.c 12 rfl (.c 15 rfl (.c 16 rfl (.c 17 rfl .n))))) q61 q66 q84 E ED (by omega) (by omega) (by omega) (by omega) (by omega) (by omega) (by omega) (by omega) (by omega)
        ·skip
         refine (op_new F rfl rfl (by decide) rfl (R_buildSliceV rfl (prS (F.at rfl) (prS (F.at rfl) (prS (F.at rfl) (prS (F.at rfl) pr0)))) Try.underlying25 (size:=1) (by kernel_rfl) (by decide) (by decide) Try.zeroValue3 (cells:=#[.int .i64 n0,.int .i64 g1,.int .i64 g2,.int .i64 n0]) (by kernel_rfl)) ?_);clear F fa;intro fa w48 F hw
         obtain ⟨n84,hn⟩ : ∃ n,n = w45.heap.size:=⟨_,rfl⟩
         rw [← hn] at F
         have s84 : w45.heap.size ≤ n84:=Nat.le_of_eq hn.symm
         have l84_E : w.heap.size ≤ n84:=by rw [hn];exact E.size
         have l84_ED : wD.heap.size ≤ n84:=by rw [hn];exact ED.size
         have m84_5 : n5 < n84:=by rw [hn];exact blk_lt q5
         have m84_61 : n61 < n84:=by rw [hn];exact blk_lt q61
         replace q5:=keep_alloc hw q5
         replace q61:=keep_alloc hw q61
         replace E:=ext_alloc E hw
         replace ED:=ext_alloc ED hw
         have q84:=new_block hw hn
         clear hw hn
         refine ⟨gone (by kernel_rfl),?_⟩
         refine ax_only (i:=9) (by kernel_rfl) (op_new F rfl rfl (by decide) rfl (R_buildSliceV rfl (prS (F.at rfl) (prS (F.at rfl) (prS (F.at rfl) (prS (F.at rfl) pr0)))) Try.underlying22 (size:=1) (by kernel_rfl) (by decide) (by decide) Try.zeroValue25 (cells:=#[.slice la l.length lc,.slice qa q.length qc,.slice qa q.length qc,.slice la l.length lc]) (by kernel_rfl)) ?_);clear F fa;intro fa w49 F hw
         obtain ⟨n66,hn⟩ : ∃ n,n = w48.heap.size:=⟨_,rfl⟩
         rw [← hn] at F
         have s66 : w48.heap.size ≤ n66:=Nat.le_of_eq hn.symm
         have l66_E : w.heap.size ≤ n66:=by rw [hn];exact E.size
         have l66_ED : wD.heap.size ≤ n66:=by rw [hn];exact ED.size
         have m66_5 : n5 < n66:=by rw [hn];exact blk_lt q5
         have m66_61 : n61 < n66:=by rw [hn];exact blk_lt q61
         have m66_84 : n84 < n66:=by rw [hn];exact blk_lt q84
         replace q5:=keep_alloc hw q5
         replace q61:=keep_alloc hw q61
         replace q84:=keep_alloc hw q84
         replace E:=ext_alloc E hw
         replace ED:=ext_alloc ED hw
         have q66:=new_block hw hn
         clear hw hn
         refine ⟨gone (by kernel_rfl),?_⟩
         refine F.x (i:=29) rfl (fun w'=>R_assign rfl (F.at rfl)) (gone (by kernel_rfl)) ?_;clear F fa;intro fa F
         refine F.x (i:=30) rfl (fun w'=>R_assign rfl (F.at rfl)) (gone (by kernel_rfl)) ?_;clear F fa;intro fa F
         refine ax_done (by kernel_rfl) ?_ _
         exact hcut _ _ _ _ _ _ _ (F.sub (.c 12 rfl (.c 15 rfl (.c 16 rfl (.c 17 rfl .n))))) q61 q66 q84 E ED (by omega) (by omega) (by omega) (by omega) (by omega) (by omega) (by omega) (by omega) (by omega)
      ·skip
       refine (op_new F rfl rfl (by decide) rfl (R_buildSliceV rfl (prS (F.at rfl) (prS (F.at rfl) (prS (F.at rfl) (prS (F.at rfl) pr0)))) Try.underlying22 (size:=1) (by kernel_rfl) (by decide) (by decide) Try.zeroValue25 (cells:=#[.slice la l.length lc,.slice qa q.length qc,.slice qa q.length qc,.slice la l.length lc]) (by kernel_rfl)) ?_);clear F fa;intro fa w50 F hw
       obtain ⟨n66,hn⟩ : ∃ n,n = w40.heap.size:=⟨_,rfl⟩
       rw [← hn] at F
       have s66 : w40.heap.size ≤ n66:=Nat.le_of_eq hn.symm
       have l66_E : w.heap.size ≤ n66:=by rw [hn];exact E.size
       have l66_ED : wD.heap.size ≤ n66:=by rw [hn];exact ED.size
       have lT66 : w10.heap.size ≤ n66:=by rw [hn];exact eT.size
       have b66_HL:=Nat.lt_of_lt_of_eq (lots_lt HL) hn.symm
       have m66_5 : n5 < n66:=by rw [hn];exact blk_lt q5
       replace q5:=keep_alloc hw q5
       replace E:=ext_alloc E hw
       replace ED:=ext_alloc ED hw
       replace HL:=lots_alloc hw HL
       replace eT:=ext_alloc eT hw
       have q66:=new_block hw hn
       clear hw hn
       refine ⟨fun _=>eT,?_⟩
       refine ax_pair (i:=4) (j:=25) (by kernel_rfl) ?_ ?_
       ·skip
        refine (op_new F rfl rfl (by decide) rfl (R_buildSliceV rfl (prS (F.at rfl) (prS (F.at rfl) (prS (F.at rfl) (prS (F.at rfl) pr0)))) Try.underlying43 (size:=1) (by kernel_rfl) (by decide) (by decide) Try.zeroValue22 (cells:=#[.slice ta T.length tc,.slice oa O.length oc,.slice oa O.length oc,.slice oa O.length oc]) (by kernel_rfl)) ?_);clear F fa;intro fa w51 F hw
        obtain ⟨n61,hn⟩ : ∃ n,n = w50.heap.size:=⟨_,rfl⟩
        rw [← hn] at F
        have s61 : w50.heap.size ≤ n61:=Nat.le_of_eq hn.symm
        have l61_E : w.heap.size ≤ n61:=by rw [hn];exact E.size
        have l61_ED : wD.heap.size ≤ n61:=by rw [hn];exact ED.size
        have lT61 : w10.heap.size ≤ n61:=by rw [hn];exact eT.size
        have b61_HL:=Nat.lt_of_lt_of_eq (lots_lt HL) hn.symm
        have m61_5 : n5 < n61:=by rw [hn];exact blk_lt q5
        have m61_66 : n66 < n61:=by rw [hn];exact blk_lt q66
        replace q5:=keep_alloc hw q5
        replace q66:=keep_alloc hw q66
        replace E:=ext_alloc E hw
        replace ED:=ext_alloc ED hw
        replace HL:=lots_alloc hw HL
        replace eT:=ext_alloc eT hw
        have q61:=new_block hw hn
        clear hw hn
        refine ⟨fun _=>eT,?_⟩
        refine ax_only (i:=25) (by kernel_rfl) (op_call F rfl rfl (by decide) rfl (R_callV rfl rfl Try.call26 (mpS (F.at rfl) (mpS (F.at rfl) mp0))) (upto_any _ _ b _ _ ((y.L.length : Nat) : Int) HL (by omega) (by omega) (by omega)) fun e w52 hR=>?_)
        obtain ⟨g2,rfl,hg20,hg21,HL,e9⟩:=hR
        refine ⟨_,rfl,?_⟩;clear F fa;intro fa F
        replace q5:=(e9).keep q5 (by simp;omega)
        replace q66:=(e9).keep q66 (by simp;omega)
        replace q61:=(e9).keep q61 (by simp;omega)
        replace E:=E.trans' e9 (fun i hi hl=>by simp only [List.mem_cons,List.not_mem_nil,or_false] at hi ⊢;omega)
        replace ED:=ED.trans' e9 (fun i hi hl=>by simp only [List.mem_cons,List.not_mem_nil,or_false] at hi ⊢;omega)
        replace eT:=eT.trans' e9 (fun i hi hl=>by simp only [List.mem_cons,List.not_mem_nil,or_false] at hi ⊢;omega)
        refine ⟨fun _=>eT,?_⟩
        refine F.x (i:=28) rfl (fun w'=>R_assign rfl (F.at rfl)) (fun _=>eT) ?_;clear F fa;intro fa F
        refine F.x (i:=29) rfl (fun w'=>R_assign rfl (F.at rfl)) (fun _=>eT) ?_;clear F fa;intro fa F
        refine ax_only (i:=27) (by kernel_rfl) (op_new F rfl rfl (by decide) rfl (R_buildSliceV rfl (prS (F.at rfl) (prS (F.at rfl) (prS (F.at rfl) (prS (F.at rfl) pr0)))) Try.underlying25 (size:=1) (by kernel_rfl) (by decide) (by decide) Try.zeroValue3 (cells:=#[.int .i64 n0,.int .i64 g1,.int .i64 g2,.int .i64 n0]) (by kernel_rfl)) ?_);clear F fa;intro fa w53 F hw
        obtain ⟨n84,hn⟩ : ∃ n,n = w52.heap.size:=⟨_,rfl⟩
        rw [← hn] at F
        have s84 : w52.heap.size ≤ n84:=Nat.le_of_eq hn.symm
        have l84_E : w.heap.size ≤ n84:=by rw [hn];exact E.size
        have l84_ED : wD.heap.size ≤ n84:=by rw [hn];exact ED.size
        have m84_5 : n5 < n84:=by rw [hn];exact blk_lt q5
        have m84_66 : n66 < n84:=by rw [hn];exact blk_lt q66
        have m84_61 : n61 < n84:=by rw [hn];exact blk_lt q61
        replace q5:=keep_alloc hw q5
        replace q66:=keep_alloc hw q66
        replace q61:=keep_alloc hw q61
        replace E:=ext_alloc E hw
        replace ED:=ext_alloc ED hw
        have q84:=new_block hw hn
        clear hw hn
        refine ⟨gone (by kernel_rfl),?_⟩
        refine F.x (i:=30) rfl (fun w'=>R_assign rfl (F.at rfl)) (gone (by kernel_rfl)) ?_;clear F fa;intro fa F
        refine ax_done (by kernel_rfl) ?_ _
        exact hcut _ _ _ _ _ _ _ (F.sub (.c 12 rfl (.c 15 rfl (.c 16 rfl (.c 17 rfl .n))))) q61 q66 q84 E ED (by omega) (by omega) (by omega) (by omega) (by omega) (by omega) (by omega) (by omega) (by omega)
       ·skip
        refine (op_call F rfl rfl (by decide) rfl (R_callV rfl rfl Try.call26 (mpS (F.at rfl) (mpS (F.at rfl) mp0))) (upto_any _ _ b _ _ ((y.L.length : Nat) : Int) HL (by omega) (by omega) (by omega)) fun e w54 hR=>?_)
        obtain ⟨g2,rfl,hg20,hg21,HL,e9⟩:=hR
        refine ⟨_,rfl,?_⟩;clear F fa;intro fa F
        replace q5:=(e9).keep q5 (by simp;omega)
        replace q66:=(e9).keep q66 (by simp;omega)
        replace E:=E.trans' e9 (fun i hi hl=>by simp only [List.mem_cons,List.not_mem_nil,or_false] at hi ⊢;omega)
        replace ED:=ED.trans' e9 (fun i hi hl=>by simp only [List.mem_cons,List.not_mem_nil,or_false] at hi ⊢;omega)
        replace eT:=eT.trans' e9 (fun i hi hl=>by simp only [List.mem_cons,List.not_mem_nil,or_false] at hi ⊢;omega)
        refine ⟨fun _=>eT,?_⟩
        refine ax_pair (i:=4) (j:=27) (by kernel_rfl) ?_ ?_
        ·skip
         refine (op_new F rfl rfl (by decide) rfl (R_buildSliceV rfl (prS (F.at rfl) (prS (F.at rfl) (prS (F.at rfl) (prS (F.at rfl) pr0)))) Try.underlying43 (size:=1) (by kernel_rfl) (by decide) (by decide) Try.zeroValue22 (cells:=#[.slice ta T.length tc,.slice oa O.length oc,.slice oa O.length oc,.slice oa O.length oc]) (by kernel_rfl)) ?_);clear F fa;intro fa w55 F hw
         obtain ⟨n61,hn⟩ : ∃ n,n = w54.heap.size:=⟨_,rfl⟩
         rw [← hn] at F
         have s61 : w54.heap.size ≤ n61:=Nat.le_of_eq hn.symm
         have l61_E : w.heap.size ≤ n61:=by rw [hn];exact E.size
         have l61_ED : wD.heap.size ≤ n61:=by rw [hn];exact ED.size
         have lT61 : w10.heap.size ≤ n61:=by rw [hn];exact eT.size
         have m61_5 : n5 < n61:=by rw [hn];exact blk_lt q5
         have m61_66 : n66 < n61:=by rw [hn];exact blk_lt q66
         replace q5:=keep_alloc hw q5
         replace q66:=keep_alloc hw q66
         replace E:=ext_alloc E hw
         replace ED:=ext_alloc ED hw
         replace eT:=ext_alloc eT hw
         have q61:=new_block hw hn
         clear hw hn
         refine ⟨fun _=>eT,?_⟩
         refine F.x (i:=28) rfl (fun w'=>R_assign rfl (F.at rfl)) (fun _=>eT) ?_;clear F fa;intro fa F
         refine F.x (i:=29) rfl (fun w'=>R_assign rfl (F.at rfl)) (fun _=>eT) ?_;clear F fa;intro fa F
         refine ax_only (i:=27) (by kernel_rfl) (op_new F rfl rfl (by decide) rfl (R_buildSliceV rfl (prS (F.at rfl) (prS (F.at rfl) (prS (F.at rfl) (prS (F.at rfl) pr0)))) Try.underlying25 (size:=1) (by kernel_rfl) (by decide) (by decide) Try.zeroValue3 (cells:=#[.int .i64 n0,.int .i64 g1,.int .i64 g2,.int .i64 n0]) (by kernel_rfl)) ?_);clear F fa;intro fa w56 F hw
         obtain ⟨n84,hn⟩ : ∃ n,n = w55.heap.size:=⟨_,rfl⟩
         rw [← hn] at F
         have s84 : w55.heap.size ≤ n84:=Nat.le_of_eq hn.symm
         have l84_E : w.heap.size ≤ n84:=by rw [hn];exact E.size
         have l84_ED : wD.heap.size ≤ n84:=by rw [hn];exact ED.size
         have m84_5 : n5 < n84:=by rw [hn];exact blk_lt q5
         have m84_66 : n66 < n84:=by rw [hn];exact blk_lt q66
         have m84_61 : n61 < n84:=by rw [hn];exact blk_lt q61
         replace q5:=keep_alloc hw q5
         replace q66:=keep_alloc hw q66
         replace q61:=keep_alloc hw q61
         replace E:=ext_alloc E hw
         replace ED:=ext_alloc ED hw
         have q84:=new_block hw hn
         clear hw hn
         refine ⟨gone (by kernel_rfl),?_⟩
         refine F.x (i:=30) rfl (fun w'=>R_assign rfl (F.at rfl)) (gone (by kernel_rfl)) ?_;clear F fa;intro fa F
         refine ax_done (by kernel_rfl) ?_ _
         exact hcut _ _ _ _ _ _ _ (F.sub (.c 12 rfl (.c 15 rfl (.c 16 rfl (.c 17 rfl .n))))) q61 q66 q84 E ED (by omega) (by omega) (by omega) (by omega) (by omega) (by omega) (by omega) (by omega) (by omega)
        ·skip
         refine (op_new F rfl rfl (by decide) rfl (R_buildSliceV rfl (prS (F.at rfl) (prS (F.at rfl) (prS (F.at rfl) (prS (F.at rfl) pr0)))) Try.underlying25 (size:=1) (by kernel_rfl) (by decide) (by decide) Try.zeroValue3 (cells:=#[.int .i64 n0,.int .i64 g1,.int .i64 g2,.int .i64 n0]) (by kernel_rfl)) ?_);clear F fa;intro fa w57 F hw
         obtain ⟨n84,hn⟩ : ∃ n,n = w54.heap.size:=⟨_,rfl⟩
         rw [← hn] at F
         have s84 : w54.heap.size ≤ n84:=Nat.le_of_eq hn.symm
         have l84_E : w.heap.size ≤ n84:=by rw [hn];exact E.size
         have l84_ED : wD.heap.size ≤ n84:=by rw [hn];exact ED.size
         have m84_5 : n5 < n84:=by rw [hn];exact blk_lt q5
         have m84_66 : n66 < n84:=by rw [hn];exact blk_lt q66
         replace q5:=keep_alloc hw q5
         replace q66:=keep_alloc hw q66
         replace E:=ext_alloc E hw
         replace ED:=ext_alloc ED hw
         have q84:=new_block hw hn
         clear hw hn
         refine ⟨gone (by kernel_rfl),?_⟩
         refine ax_only (i:=4) (by kernel_rfl) (op_new F rfl rfl (by decide) rfl (R_buildSliceV rfl (prS (F.at rfl) (prS (F.at rfl) (prS (F.at rfl) (prS (F.at rfl) pr0)))) Try.underlying43 (size:=1) (by kernel_rfl) (by decide) (by decide) Try.zeroValue22 (cells:=#[.slice ta T.length tc,.slice oa O.length oc,.slice oa O.length oc,.slice oa O.length oc]) (by kernel_rfl)) ?_);clear F fa;intro fa w58 F hw
         obtain ⟨n61,hn⟩ : ∃ n,n = w57.heap.size:=⟨_,rfl⟩
         rw [← hn] at F
         have s61 : w57.heap.size ≤ n61:=Nat.le_of_eq hn.symm
         have l61_E : w.heap.size ≤ n61:=by rw [hn];exact E.size
         have l61_ED : wD.heap.size ≤ n61:=by rw [hn];exact ED.size
         have m61_5 : n5 < n61:=by rw [hn];exact blk_lt q5
         have m61_66 : n66 < n61:=by rw [hn];exact blk_lt q66
         have m61_84 : n84 < n61:=by rw [hn];exact blk_lt q84
         replace q5:=keep_alloc hw q5
         replace q66:=keep_alloc hw q66
         replace q84:=keep_alloc hw q84
         replace E:=ext_alloc E hw
         replace ED:=ext_alloc ED hw
         have q61:=new_block hw hn
         clear hw hn
         refine ⟨gone (by kernel_rfl),?_⟩
         refine F.x (i:=28) rfl (fun w'=>R_assign rfl (F.at rfl)) (gone (by kernel_rfl)) ?_;clear F fa;intro fa F
         refine F.x (i:=29) rfl (fun w'=>R_assign rfl (F.at rfl)) (gone (by kernel_rfl)) ?_;clear F fa;intro fa F
         refine F.x (i:=30) rfl (fun w'=>R_assign rfl (F.at rfl)) (gone (by kernel_rfl)) ?_;clear F fa;intro fa F
         refine ax_done (by kernel_rfl) ?_ _
         exact hcut _ _ _ _ _ _ _ (F.sub (.c 12 rfl (.c 15 rfl (.c 16 rfl (.c 17 rfl .n))))) q61 q66 q84 E ED (by omega) (by omega) (by omega) (by omega) (by omega) (by omega) (by omega) (by omega) (by omega)
      ·skip
       refine (op_call F rfl rfl (by decide) rfl (R_callV rfl rfl Try.call26 (mpS (F.at rfl) (mpS (F.at rfl) mp0))) (upto_any _ _ b _ _ ((y.L.length : Nat) : Int) HL (by omega) (by omega) (by omega)) fun e w59 hR=>?_)
       obtain ⟨g2,rfl,hg20,hg21,HL,e9⟩:=hR
       refine ⟨_,rfl,?_⟩;clear F fa;intro fa F
       replace q5:=(e9).keep q5 (by simp;omega)
       replace E:=E.trans' e9 (fun i hi hl=>by simp only [List.mem_cons,List.not_mem_nil,or_false] at hi ⊢;omega)
       replace ED:=ED.trans' e9 (fun i hi hl=>by simp only [List.mem_cons,List.not_mem_nil,or_false] at hi ⊢;omega)
       replace eT:=eT.trans' e9 (fun i hi hl=>by simp only [List.mem_cons,List.not_mem_nil,or_false] at hi ⊢;omega)
       refine ⟨fun _=>eT,?_⟩
       refine ax_three (i:=4) (j:=9) (k:=27) (by kernel_rfl) ?_ ?_ ?_
       ·skip
        refine (op_new F rfl rfl (by decide) rfl (R_buildSliceV rfl (prS (F.at rfl) (prS (F.at rfl) (prS (F.at rfl) (prS (F.at rfl) pr0)))) Try.underlying43 (size:=1) (by kernel_rfl) (by decide) (by decide) Try.zeroValue22 (cells:=#[.slice ta T.length tc,.slice oa O.length oc,.slice oa O.length oc,.slice oa O.length oc]) (by kernel_rfl)) ?_);clear F fa;intro fa w60 F hw
        obtain ⟨n61,hn⟩ : ∃ n,n = w59.heap.size:=⟨_,rfl⟩
        rw [← hn] at F
        have s61 : w59.heap.size ≤ n61:=Nat.le_of_eq hn.symm
        have l61_E : w.heap.size ≤ n61:=by rw [hn];exact E.size
        have l61_ED : wD.heap.size ≤ n61:=by rw [hn];exact ED.size
        have lT61 : w10.heap.size ≤ n61:=by rw [hn];exact eT.size
        have m61_5 : n5 < n61:=by rw [hn];exact blk_lt q5
        replace q5:=keep_alloc hw q5
        replace E:=ext_alloc E hw
        replace ED:=ext_alloc ED hw
        replace eT:=ext_alloc eT hw
        have q61:=new_block hw hn
        clear hw hn
        refine ⟨fun _=>eT,?_⟩
        refine F.x (i:=28) rfl (fun w'=>R_assign rfl (F.at rfl)) (fun _=>eT) ?_;clear F fa;intro fa F
        refine ax_pair (i:=9) (j:=27) (by kernel_rfl) ?_ ?_
        ·skip
         refine (op_new F rfl rfl (by decide) rfl (R_buildSliceV rfl (prS (F.at rfl) (prS (F.at rfl) (prS (F.at rfl) (prS (F.at rfl) pr0)))) Try.underlying22 (size:=1) (by kernel_rfl) (by decide) (by decide) Try.zeroValue25 (cells:=#[.slice la l.length lc,.slice qa q.length qc,.slice qa q.length qc,.slice la l.length lc]) (by kernel_rfl)) ?_);clear F fa;intro fa w61 F hw
         obtain ⟨n66,hn⟩ : ∃ n,n = w60.heap.size:=⟨_,rfl⟩
         rw [← hn] at F
         have s66 : w60.heap.size ≤ n66:=Nat.le_of_eq hn.symm
         have l66_E : w.heap.size ≤ n66:=by rw [hn];exact E.size
         have l66_ED : wD.heap.size ≤ n66:=by rw [hn];exact ED.size
         have lT66 : w10.heap.size ≤ n66:=by rw [hn];exact eT.size
         have m66_5 : n5 < n66:=by rw [hn];exact blk_lt q5
         have m66_61 : n61 < n66:=by rw [hn];exact blk_lt q61
         replace q5:=keep_alloc hw q5
         replace q61:=keep_alloc hw q61
         replace E:=ext_alloc E hw
         replace ED:=ext_alloc ED hw
         replace eT:=ext_alloc eT hw
         have q66:=new_block hw hn
         clear hw hn
         refine ⟨fun _=>eT,?_⟩
         refine F.x (i:=29) rfl (fun w'=>R_assign rfl (F.at rfl)) (fun _=>eT) ?_;clear F fa;intro fa F
         refine ax_only (i:=27) (by kernel_rfl) (op_new F rfl rfl (by decide) rfl (R_buildSliceV rfl (prS (F.at rfl) (prS (F.at rfl) (prS (F.at rfl) (prS (F.at rfl) pr0)))) Try.underlying25 (size:=1) (by kernel_rfl) (by decide) (by decide) Try.zeroValue3 (cells:=#[.int .i64 n0,.int .i64 g1,.int .i64 g2,.int .i64 n0]) (by kernel_rfl)) ?_);clear F fa;intro fa w62 F hw
         obtain ⟨n84,hn⟩ : ∃ n,n = w61.heap.size:=⟨_,rfl⟩
         rw [← hn] at F
         have s84 : w61.heap.size ≤ n84:=Nat.le_of_eq hn.symm
         have l84_E : w.heap.size ≤ n84:=by rw [hn];exact E.size
         have l84_ED : wD.heap.size ≤ n84:=by rw [hn];exact ED.size
         have m84_5 : n5 < n84:=by rw [hn];exact blk_lt q5
         have m84_61 : n61 < n84:=by rw [hn];exact blk_lt q61
         have m84_66 : n66 < n84:=by rw [hn];exact blk_lt q66
         replace q5:=keep_alloc hw q5
         replace q61:=keep_alloc hw q61
         replace q66:=keep_alloc hw q66
         replace E:=ext_alloc E hw
         replace ED:=ext_alloc ED hw
         have q84:=new_block hw hn
         clear hw hn
         refine ⟨gone (by kernel_rfl),?_⟩
         refine F.x (i:=30) rfl (fun w'=>R_assign rfl (F.at rfl)) (gone (by kernel_rfl)) ?_;clear F fa;intro fa F
         refine ax_done (by kernel_rfl) ?_ _
         exact hcut _ _ _ _ _ _ _ (F.sub (.c 12 rfl (.c 15 rfl (.c 16 rfl (.c 17 rfl .n))))) q61 q66 q84 E ED (by omega) (by omega) (by omega) (by omega) (by omega) (by omega) (by omega) (by omega) (by omega)
        ·skip
         refine (op_new F rfl rfl (by decide) rfl (R_buildSliceV rfl (prS (F.at rfl) (prS (F.at rfl) (prS (F.at rfl) (prS (F.at rfl) pr0)))) Try.underlying25 (size:=1) (by kernel_rfl) (by decide) (by decide) Try.zeroValue3 (cells:=#[.int .i64 n0,.int .i64 g1,.int .i64 g2,.int .i64 n0]) (by kernel_rfl)) ?_);clear F fa;intro fa w63 F hw
         obtain ⟨n84,hn⟩ : ∃ n,n = w60.heap.size:=⟨_,rfl⟩
         rw [← hn] at F
         have s84 : w60.heap.size ≤ n84:=Nat.le_of_eq hn.symm
         have l84_E : w.heap.size ≤ n84:=by rw [hn];exact E.size
         have l84_ED : wD.heap.size ≤ n84:=by rw [hn];exact ED.size
         have m84_5 : n5 < n84:=by rw [hn];exact blk_lt q5
         have m84_61 : n61 < n84:=by rw [hn];exact blk_lt q61
         replace q5:=keep_alloc hw q5
         replace q61:=keep_alloc hw q61
         replace E:=ext_alloc E hw
         replace ED:=ext_alloc ED hw
         have q84:=new_block hw hn
         clear hw hn
         refine ⟨gone (by kernel_rfl),?_⟩
         refine ax_only (i:=9) (by kernel_rfl) (op_new F rfl rfl (by decide) rfl (R_buildSliceV rfl (prS (F.at rfl) (prS (F.at rfl) (prS (F.at rfl) (prS (F.at rfl) pr0)))) Try.underlying22 (size:=1) (by kernel_rfl) (by decide) (by decide) Try.zeroValue25 (cells:=#[.slice la l.length lc,.slice qa q.length qc,.slice qa q.length qc,.slice la l.length lc]) (by kernel_rfl)) ?_);clear F fa;intro fa w64 F hw
         obtain ⟨n66,hn⟩ : ∃ n,n = w63.heap.size:=⟨_,rfl⟩
         rw [← hn] at F
         have s66 : w63.heap.size ≤ n66:=Nat.le_of_eq hn.symm
         have l66_E : w.heap.size ≤ n66:=by rw [hn];exact E.size
         have l66_ED : wD.heap.size ≤ n66:=by rw [hn];exact ED.size
         have m66_5 : n5 < n66:=by rw [hn];exact blk_lt q5
         have m66_61 : n61 < n66:=by rw [hn];exact blk_lt q61
         have m66_84 : n84 < n66:=by rw [hn];exact blk_lt q84
         replace q5:=keep_alloc hw q5
         replace q61:=keep_alloc hw q61
         replace q84:=keep_alloc hw q84
         replace E:=ext_alloc E hw
         replace ED:=ext_alloc ED hw
         have q66:=new_block hw hn
         clear hw hn
         refine ⟨gone (by kernel_rfl),?_⟩
         refine F.x (i:=29) rfl (fun w'=>R_assign rfl (F.at rfl)) (gone (by kernel_rfl)) ?_;clear F fa;intro fa F
         refine F.x (i:=30) rfl (fun w'=>R_assign rfl (F.at rfl)) (gone (by kernel_rfl)) ?_;clear F fa;intro fa F
         refine ax_done (by kernel_rfl) ?_ _
         exact hcut _ _ _ _ _ _ _ (F.sub (.c 12 rfl (.c 15 rfl (.c 16 rfl (.c 17 rfl .n))))) q61 q66 q84 E ED (by omega) (by omega) (by omega) (by omega) (by omega) (by omega) (by omega) (by omega) (by omega)
       ·skip
        refine (op_new F rfl rfl (by decide) rfl (R_buildSliceV rfl (prS (F.at rfl) (prS (F.at rfl) (prS (F.at rfl) (prS (F.at rfl) pr0)))) Try.underlying22 (size:=1) (by kernel_rfl) (by decide) (by decide) Try.zeroValue25 (cells:=#[.slice la l.length lc,.slice qa q.length qc,.slice qa q.length qc,.slice la l.length lc]) (by kernel_rfl)) ?_);clear F fa;intro fa w65 F hw
        obtain ⟨n66,hn⟩ : ∃ n,n = w59.heap.size:=⟨_,rfl⟩
        rw [← hn] at F
        have s66 : w59.heap.size ≤ n66:=Nat.le_of_eq hn.symm
        have l66_E : w.heap.size ≤ n66:=by rw [hn];exact E.size
        have l66_ED : wD.heap.size ≤ n66:=by rw [hn];exact ED.size
        have lT66 : w10.heap.size ≤ n66:=by rw [hn];exact eT.size
        have m66_5 : n5 < n66:=by rw [hn];exact blk_lt q5
        replace q5:=keep_alloc hw q5
        replace E:=ext_alloc E hw
        replace ED:=ext_alloc ED hw
        replace eT:=ext_alloc eT hw
        have q66:=new_block hw hn
        clear hw hn
        refine ⟨fun _=>eT,?_⟩
        refine ax_pair (i:=4) (j:=27) (by kernel_rfl) ?_ ?_
        ·skip
         refine (op_new F rfl rfl (by decide) rfl (R_buildSliceV rfl (prS (F.at rfl) (prS (F.at rfl) (prS (F.at rfl) (prS (F.at rfl) pr0)))) Try.underlying43 (size:=1) (by kernel_rfl) (by decide) (by decide) Try.zeroValue22 (cells:=#[.slice ta T.length tc,.slice oa O.length oc,.slice oa O.length oc,.slice oa O.length oc]) (by kernel_rfl)) ?_);clear F fa;intro fa w66 F hw
         obtain ⟨n61,hn⟩ : ∃ n,n = w65.heap.size:=⟨_,rfl⟩
         rw [← hn] at F
         have s61 : w65.heap.size ≤ n61:=Nat.le_of_eq hn.symm
         have l61_E : w.heap.size ≤ n61:=by rw [hn];exact E.size
         have l61_ED : wD.heap.size ≤ n61:=by rw [hn];exact ED.size
         have lT61 : w10.heap.size ≤ n61:=by rw [hn];exact eT.size
         have m61_5 : n5 < n61:=by rw [hn];exact blk_lt q5
         have m61_66 : n66 < n61:=by rw [hn];exact blk_lt q66
         replace q5:=keep_alloc hw q5
         replace q66:=keep_alloc hw q66
         replace E:=ext_alloc E hw
         replace ED:=ext_alloc ED hw
         replace eT:=ext_alloc eT hw
         have q61:=new_block hw hn
         clear hw hn
         refine ⟨fun _=>eT,?_⟩
         refine F.x (i:=28) rfl (fun w'=>R_assign rfl (F.at rfl)) (fun _=>eT) ?_;clear F fa;intro fa F
         refine F.x (i:=29) rfl (fun w'=>R_assign rfl (F.at rfl)) (fun _=>eT) ?_;clear F fa;intro fa F
         refine ax_only (i:=27) (by kernel_rfl) (op_new F rfl rfl (by decide) rfl (R_buildSliceV rfl (prS (F.at rfl) (prS (F.at rfl) (prS (F.at rfl) (prS (F.at rfl) pr0)))) Try.underlying25 (size:=1) (by kernel_rfl) (by decide) (by decide) Try.zeroValue3 (cells:=#[.int .i64 n0,.int .i64 g1,.int .i64 g2,.int .i64 n0]) (by kernel_rfl)) ?_);clear F fa;intro fa w67 F hw
         obtain ⟨n84,hn⟩ : ∃ n,n = w66.heap.size:=⟨_,rfl⟩
         rw [← hn] at F
         have s84 : w66.heap.size ≤ n84:=Nat.le_of_eq hn.symm
         have l84_E : w.heap.size ≤ n84:=by rw [hn];exact E.size
         have l84_ED : wD.heap.size ≤ n84:=by rw [hn];exact ED.size
         have m84_5 : n5 < n84:=by rw [hn];exact blk_lt q5
         have m84_66 : n66 < n84:=by rw [hn];exact blk_lt q66
         have m84_61 : n61 < n84:=by rw [hn];exact blk_lt q61
         replace q5:=keep_alloc hw q5
         replace q66:=keep_alloc hw q66
         replace q61:=keep_alloc hw q61
         replace E:=ext_alloc E hw
         replace ED:=ext_alloc ED hw
         have q84:=new_block hw hn
         clear hw hn
         refine ⟨gone (by kernel_rfl),?_⟩
         refine F.x (i:=30) rfl (fun w'=>R_assign rfl (F.at rfl)) (gone (by kernel_rfl)) ?_;clear F fa;intro fa F
         refine ax_done (by kernel_rfl) ?_ _
         exact hcut _ _ _ _ _ _ _ (F.sub (.c 12 rfl (.c 15 rfl (.c 16 rfl (.c 17 rfl .n))))) q61 q66 q84 E ED (by omega) (by omega) (by omega) (by omega) (by omega) (by omega) (by omega) (by omega) (by omega)
        ·skip
         refine (op_new F rfl rfl (by decide) rfl (R_buildSliceV rfl (prS (F.at rfl) (prS (F.at rfl) (prS (F.at rfl) (prS (F.at rfl) pr0)))) Try.underlying25 (size:=1) (by kernel_rfl) (by decide) (by decide) Try.zeroValue3 (cells:=#[.int .i64 n0,.int .i64 g1,.int .i64 g2,.int .i64 n0]) (by kernel_rfl)) ?_);clear F fa;intro fa w68 F hw
         obtain ⟨n84,hn⟩ : ∃ n,n = w65.heap.size:=⟨_,rfl⟩
         rw [← hn] at F
         have s84 : w65.heap.size ≤ n84:=Nat.le_of_eq hn.symm
         have l84_E : w.heap.size ≤ n84:=by rw [hn];exact E.size
         have l84_ED : wD.heap.size ≤ n84:=by rw [hn];exact ED.size
         have m84_5 : n5 < n84:=by rw [hn];exact blk_lt q5
         have m84_66 : n66 < n84:=by rw [hn];exact blk_lt q66
         replace q5:=keep_alloc hw q5
         replace q66:=keep_alloc hw q66
         replace E:=ext_alloc E hw
         replace ED:=ext_alloc ED hw
         have q84:=new_block hw hn
         clear hw hn
         refine ⟨gone (by kernel_rfl),?_⟩
         refine ax_only (i:=4) (by kernel_rfl) (op_new F rfl rfl (by decide) rfl (R_buildSliceV rfl (prS (F.at rfl) (prS (F.at rfl) (prS (F.at rfl) (prS (F.at rfl) pr0)))) Try.underlying43 (size:=1) (by kernel_rfl) (by decide) (by decide) Try.zeroValue22 (cells:=#[.slice ta T.length tc,.slice oa O.length oc,.slice oa O.length oc,.slice oa O.length oc]) (by kernel_rfl)) ?_);clear F fa;intro fa w69 F hw
         obtain ⟨n61,hn⟩ : ∃ n,n = w68.heap.size:=⟨_,rfl⟩
         rw [← hn] at F
         have s61 : w68.heap.size ≤ n61:=Nat.le_of_eq hn.symm
         have l61_E : w.heap.size ≤ n61:=by rw [hn];exact E.size
         have l61_ED : wD.heap.size ≤ n61:=by rw [hn];exact ED.size
         have m61_5 : n5 < n61:=by rw [hn];exact blk_lt q5
         have m61_66 : n66 < n61:=by rw [hn];exact blk_lt q66
         have m61_84 : n84 < n61:=by rw [hn];exact blk_lt q84
         replace q5:=keep_alloc hw q5
         replace q66:=keep_alloc hw q66
         replace q84:=keep_alloc hw q84
         replace E:=ext_alloc E hw
         replace ED:=ext_alloc ED hw
         have q61:=new_block hw hn
         clear hw hn
         refine ⟨gone (by kernel_rfl),?_⟩
         refine F.x (i:=28) rfl (fun w'=>R_assign rfl (F.at rfl)) (gone (by kernel_rfl)) ?_;clear F fa;intro fa F
         refine F.x (i:=29) rfl (fun w'=>R_assign rfl (F.at rfl)) (gone (by kernel_rfl)) ?_;clear F fa;intro fa F
         refine F.x (i:=30) rfl (fun w'=>R_assign rfl (F.at rfl)) (gone (by kernel_rfl)) ?_;clear F fa;intro fa F
         refine ax_done (by kernel_rfl) ?_ _
         exact hcut _ _ _ _ _ _ _ (F.sub (.c 12 rfl (.c 15 rfl (.c 16 rfl (.c 17 rfl .n))))) q61 q66 q84 E ED (by omega) (by omega) (by omega) (by omega) (by omega) (by omega) (by omega) (by omega) (by omega)
       ·skip
        refine (op_new F rfl rfl (by decide) rfl (R_buildSliceV rfl (prS (F.at rfl) (prS (F.at rfl) (prS (F.at rfl) (prS (F.at rfl) pr0)))) Try.underlying25 (size:=1) (by kernel_rfl) (by decide) (by decide) Try.zeroValue3 (cells:=#[.int .i64 n0,.int .i64 g1,.int .i64 g2,.int .i64 n0]) (by kernel_rfl)) ?_);clear F fa;intro fa w70 F hw
        obtain ⟨n84,hn⟩ : ∃ n,n = w59.heap.size:=⟨_,rfl⟩
        rw [← hn] at F
        have s84 : w59.heap.size ≤ n84:=Nat.le_of_eq hn.symm
        have l84_E : w.heap.size ≤ n84:=by rw [hn];exact E.size
        have l84_ED : wD.heap.size ≤ n84:=by rw [hn];exact ED.size
        have m84_5 : n5 < n84:=by rw [hn];exact blk_lt q5
        replace q5:=keep_alloc hw q5
        replace E:=ext_alloc E hw
        replace ED:=ext_alloc ED hw
        have q84:=new_block hw hn
        clear hw hn
        refine ⟨gone (by kernel_rfl),?_⟩
        refine ax_pair (i:=4) (j:=9) (by kernel_rfl) ?_ ?_
        ·skip
         refine (op_new F rfl rfl (by decide) rfl (R_buildSliceV rfl (prS (F.at rfl) (prS (F.at rfl) (prS (F.at rfl) (prS (F.at rfl) pr0)))) Try.underlying43 (size:=1) (by kernel_rfl) (by decide) (by decide) Try.zeroValue22 (cells:=#[.slice ta T.length tc,.slice oa O.length oc,.slice oa O.length oc,.slice oa O.length oc]) (by kernel_rfl)) ?_);clear F fa;intro fa w71 F hw
         obtain ⟨n61,hn⟩ : ∃ n,n = w70.heap.size:=⟨_,rfl⟩
         rw [← hn] at F
         have s61 : w70.heap.size ≤ n61:=Nat.le_of_eq hn.symm
         have l61_E : w.heap.size ≤ n61:=by rw [hn];exact E.size
         have l61_ED : wD.heap.size ≤ n61:=by rw [hn];exact ED.size
         have m61_5 : n5 < n61:=by rw [hn];exact blk_lt q5
         have m61_84 : n84 < n61:=by rw [hn];exact blk_lt q84
         replace q5:=keep_alloc hw q5
         replace q84:=keep_alloc hw q84
         replace E:=ext_alloc E hw
         replace ED:=ext_alloc ED hw
         have q61:=new_block hw hn
         clear hw hn
         refine ⟨gone (by kernel_rfl),?_⟩
         refine F.x (i:=28) rfl (fun w'=>R_assign rfl (F.at rfl)) (gone (by kernel_rfl)) ?_;clear F fa;intro fa F
         refine ax_only (i:=9) (by kernel_rfl) (op_new F rfl rfl (by decide) rfl (R_buildSliceV rfl (prS (F.at rfl) (prS (F.at rfl) (prS (F.at rfl) (prS (F.at rfl) pr0)))) Try.underlying22 (size:=1) (by kernel_rfl) (by decide) (by decide) Try.zeroValue25 (cells:=#[.slice la l.length lc,.slice qa q.length qc,.slice qa q.length qc,.slice la l.length lc]) (by kernel_rfl)) ?_);clear F fa;intro fa w72 F hw
         obtain ⟨n66,hn⟩ : ∃ n,n = w71.heap.size:=⟨_,rfl⟩
         rw [← hn] at F
         have s66 : w71.heap.size ≤ n66:=Nat.le_of_eq hn.symm
         have l66_E : w.heap.size ≤ n66:=by rw [hn];exact E.size
         have l66_ED : wD.heap.size ≤ n66:=by rw [hn];exact ED.size
         have m66_5 : n5 < n66:=by rw [hn];exact blk_lt q5
         have m66_84 : n84 < n66:=by rw [hn];exact blk_lt q84
         have m66_61 : n61 < n66:=by rw [hn];exact blk_lt q61
         replace q5:=keep_alloc hw q5
         replace q84:=keep_alloc hw q84
         replace q61:=keep_alloc hw q61
         replace E:=ext_alloc E hw
         replace ED:=ext_alloc ED hw
         have q66:=new_block hw hn
         clear hw hn
         refine ⟨gone (by kernel_rfl),?_⟩
         refine F.x (i:=29) rfl (fun w'=>R_assign rfl (F.at rfl)) (gone (by kernel_rfl)) ?_;clear F fa;intro fa F
         refine F.x (i:=30) rfl (fun w'=>R_assign rfl (F.at rfl)) (gone (by kernel_rfl)) ?_;clear F fa;intro fa F
         refine ax_done (by kernel_rfl) ?_ _
         exact hcut _ _ _ _ _ _ _ (F.sub (.c 12 rfl (.c 15 rfl (.c 16 rfl (.c 17 rfl .n))))) q61 q66 q84 E ED (by omega) (by omega) (by omega) (by omega) (by omega) (by omega) (by omega) (by omega) (by omega)
        ·skip
         refine (op_new F rfl rfl (by decide) rfl (R_buildSliceV rfl (prS (F.at rfl) (prS (F.at rfl) (prS (F.at rfl) (prS (F.at rfl) pr0)))) Try.underlying22 (size:=1) (by kernel_rfl) (by decide) (by decide) Try.zeroValue25 (cells:=#[.slice la l.length lc,.slice qa q.length qc,.slice qa q.length qc,.slice la l.length lc]) (by kernel_rfl)) ?_);clear F fa;intro fa w73 F hw
         obtain ⟨n66,hn⟩ : ∃ n,n = w70.heap.size:=⟨_,rfl⟩
         rw [← hn] at F
         have s66 : w70.heap.size ≤ n66:=Nat.le_of_eq hn.symm
         have l66_E : w.heap.size ≤ n66:=by rw [hn];exact E.size
         have l66_ED : wD.heap.size ≤ n66:=by rw [hn];exact ED.size
         have m66_5 : n5 < n66:=by rw [hn];exact blk_lt q5
         have m66_84 : n84 < n66:=by rw [hn];exact blk_lt q84
         replace q5:=keep_alloc hw q5
         replace q84:=keep_alloc hw q84
         replace E:=ext_alloc E hw
         replace ED:=ext_alloc ED hw
         have q66:=new_block hw hn
         clear hw hn
         refine ⟨gone (by kernel_rfl),?_⟩
         refine ax_only (i:=4) (by kernel_rfl) (op_new F rfl rfl (by decide) rfl (R_buildSliceV rfl (prS (F.at rfl) (prS (F.at rfl) (prS (F.at rfl) (prS (F.at rfl) pr0)))) Try.underlying43 (size:=1) (by kernel_rfl) (by decide) (by decide) Try.zeroValue22 (cells:=#[.slice ta T.length tc,.slice oa O.length oc,.slice oa O.length oc,.slice oa O.length oc]) (by kernel_rfl)) ?_);clear F fa;intro fa w74 F hw
         obtain ⟨n61,hn⟩ : ∃ n,n = w73.heap.size:=⟨_,rfl⟩
         rw [← hn] at F
         have s61 : w73.heap.size ≤ n61:=Nat.le_of_eq hn.symm
         have l61_E : w.heap.size ≤ n61:=by rw [hn];exact E.size
         have l61_ED : wD.heap.size ≤ n61:=by rw [hn];exact ED.size
         have m61_5 : n5 < n61:=by rw [hn];exact blk_lt q5
         have m61_84 : n84 < n61:=by rw [hn];exact blk_lt q84
         have m61_66 : n66 < n61:=by rw [hn];exact blk_lt q66
         replace q5:=keep_alloc hw q5
         replace q84:=keep_alloc hw q84
         replace q66:=keep_alloc hw q66
         replace E:=ext_alloc E hw
         replace ED:=ext_alloc ED hw
         have q61:=new_block hw hn
         clear hw hn
         refine ⟨gone (by kernel_rfl),?_⟩
         refine F.x (i:=28) rfl (fun w'=>R_assign rfl (F.at rfl)) (gone (by kernel_rfl)) ?_;clear F fa;intro fa F
         refine F.x (i:=29) rfl (fun w'=>R_assign rfl (F.at rfl)) (gone (by kernel_rfl)) ?_;clear F fa;intro fa F
         refine F.x (i:=30) rfl (fun w'=>R_assign rfl (F.at rfl)) (gone (by kernel_rfl)) ?_;clear F fa;intro fa F
         refine ax_done (by kernel_rfl) ?_ _
         exact hcut _ _ _ _ _ _ _ (F.sub (.c 12 rfl (.c 15 rfl (.c 16 rfl (.c 17 rfl .n))))) q61 q66 q84 E ED (by omega) (by omega) (by omega) (by omega) (by omega) (by omega) (by omega) (by omega) (by omega)
    clear F q5 E ED HL fa
    intro n61 n66 n84 g1 g2 fa w75 F q61 q66 q84 E ED l61_E l61_ED l66_E l66_ED l84_E l84_ED m66_61 m84_61 m84_66
    refine hK11 _ _ ?_
    clear hK11
    refine wp_seq_k fun K14 hK14=>?_
    refine wp_seq_k fun K15 hK15=>?_
    have rT:=HT0.out.ext E
    have rO:=HO.out _ ED
    have rl : RowOf w75 (.slice la l.length lc) l:=⟨la,lc,rfl,HL0.out.ext E (by simp)⟩
    have rq : RowOf w75 (.slice qa q.length qc) q:=⟨qa,qc,rfl,HQ.out _ ED⟩
    obtain ⟨A,hA4,hAA,hAS⟩:=fourA_ex (m1:=(ta,tc,T)) (m2:=(oa,oc,O)) (m3:=(oa,oc,O)) (m4:=(oa,oc,O)) q61 rT rO rO rO ST SO SO SO
    obtain ⟨Q,hQ4,hQs,hQA⟩:=four_ex q66 rl rq rq rl (by omega) (by omega) (by omega) (by omega)
    obtain ⟨NS,hN4,hNS⟩:=fourI_ex q84
    have hA1:=Lib.hid hAS
    have hQ1:=Lib.hid (show SlAt [] w75 (some ⟨n66,0,none⟩) 1 4 (fun i=>[(Q.getD i (.bool true,[])).1]) from (by have:=hQA.1;rwa [hQ4] at this))
    have hN1:=Lib.hid hNS
    have HAA:=Lib.hid hAA
    have HQA:=Lib.hid hQA
    have HVA2:=Lib.hid (show ∀ k,k < 4 → (vsI X k).At w75 from fun k hk=>vs_at (HVA.out _ ED) (by omega))
    have HVS2:=Lib.hid (show SlAt [] w75 va 4 4 (fun i=>vmC (vsI X i)) from (by have:=slAt_of_rows (HVA.out _ ED).rows vm0;rw [hX4] at this;exact this))
    obtain ⟨wB,hwB⟩ : ∃ wB,wB = w75:=⟨_,rfl⟩
    have EB : Ext [] wB w75:=by rw [hwB];exact Ext.refl _ _
    rw [← hwB] at hA1 hQ1 hN1 HAA HQA HVA2 HVS2
    clear rT rO rq rl hAA hAS hQA hNS HO HQ HVA HVS ED
    refine wp_region_lit ?_
    refine F.vl (R_assign rfl (ev_c fa _)) ?_;clear F fa;intro fa F
    refine wpList_nil ?_
    refine hK15 _ _ ?_
    clear hK15
    refine wp_block ?_
    have F0:=F.sub (.c 12 rfl (.c 15 rfl (.c 16 rfl (.c 17 rfl .n))))
    refine lp_for F0 (4) (fun i Lv W=>Lv = [(18,.int .i64 ((i : Nat) : Int))] ∧ Ext [] w75 W) ⟨_,⟨rfl,Ext.refl _ _⟩,F.sub (.c 18 rfl (.c 12 rfl (.c 15 rfl (.c 16 rfl (.c 17 rfl .n)))))⟩ ?_
    clear F F0
    rintro i _ fa w76 hi1 ⟨rfl,EL1⟩ F
    have E:=E.nil EL1
    have EB:=EB.nil EL1
    refine wp_seq_k fun K16 hK16=>?_
    refine wp_seq_k fun K17 hK17=>?_
    refine wp_region_lit ?_
    refine F.mv ?_;clear F fa;intro fa F
    refine F.mv ?_;clear F fa;intro fa F
    refine F.vl (R_len rfl rfl (F.at rfl) Try.underlying30) ?_;clear F fa;intro fa F
    refine F.vl (R_lss rfl (F.at rfl) (F.at rfl)) ?_;clear F fa;intro fa F
    refine wpList_nil ?_
    refine hK17 _ _ ?_
    clear hK17
    refine cd_if F rfl (fun hc88=>?_) (fun hc88=>?_)
    ·skip
     refine wp_skip ?_
     refine hK16 _ _ ?_
     clear hK16
     refine wp_seq_k fun K18 hK18=>?_
     refine wp_block ?_
     refine wp_seq_k fun K19 hK19=>?_
     obtain ⟨m1,m2⟩:=hSm.out _ (vsI_mem (show i < X.length by omega))
     obtain ⟨hst,hat⟩:=HAA.out _ (getD_memL (none,0,[]) (show i < A.length by omega))
     obtain ⟨ka,kc,hka,hkr⟩:=HQA.out.2 _ (getD_mem (.bool true,[]) (show i < Q.length by omega))
     have hk20:=hQs _ (getD_mem (.bool true,[]) (show i < Q.length by omega))
     obtain ⟨m,hm⟩ : ∃ m,m = A.getD i (none,0,[]):=⟨_,rfl⟩
     rw [← hm] at hst hat
     obtain ⟨ma,mc,M⟩:=m
     obtain ⟨k,hk⟩ : ∃ k,k = (Q.getD i (.bool true,[])).2:=⟨_,rfl⟩
     rw [← hk] at hka hkr hk20
     obtain ⟨v,hv⟩ : ∃ v,v = NS.getD i 0:=⟨_,rfl⟩
     have HMR:=Lib.hid hat
     have HKR:=Lib.hid hkr
     clear hat hkr
     suffices hcut : ∀ (n19 : Nat) (u : Vm) (M2 : List (Value × List Int)) (ma2 ka2 : Option Addr) (mc2 kc2 : Nat) (fa : Act) (w95 : World),Has 203 [] fa [(12,.slice va 4 4),(15,.slice (some ⟨n61,0,none⟩) 4 4),(16,.slice (some ⟨n66,0,none⟩) 4 4),(17,.slice (some ⟨n84,0,none⟩) 4 4),(18,.int .i64 ((i : Nat) : Int)),(19,.pointer (some ⟨n19,0,none⟩)),(20,.slice ma2 M2.length mc2),(21,.slice ka2 k.length kc2)] → w95.heap[n19]? = some (.cells #[.int .i64 u.B,.slice u.da u.D.length u.dc,.slice u.la u.L.length u.lc,.int .i64 u.tol] 24 (0,0)) → Ext [] w w95 → Ext [] wB w95 → Ext [] w75 w95 → w.heap.size ≤ n19 → wB.heap.size ≤ n19 → w75.heap.size ≤ n19 → w95.ownsRow w.heap.size 25 1 (.slice u.da u.D.length u.dc) u.D.length (u.D.map (·.1)) → FamT w95 w.heap.size u.D → w95.ownsRow w.heap.size 25 1 (.slice u.la u.L.length u.lc) u.L.length (u.L.map (·.1)) → FamT w95 w.heap.size u.L → w95.ownsRow w.heap.size 25 1 (.slice ma2 M2.length mc2) M2.length (M2.map (·.1)) → FamT w95 w.heap.size M2 → w95.ownsRow w.heap.size 3 1 (.slice ka2 k.length kc2) k.length (ivs k) → RowKit.Hid (SameV u (vsI X i)) → RowKit.Hid (M2.map (·.2) = M.map (·.2)) → K19 fa w95 by
      refine region_x (Ext [] w76) none follows fun w77 hh eh=>?_
      have E_:=E
      have zEw77:=E.size
      replace E:=ext_same E eh
      have EB_:=EB
      have zEBw77:=EB.size
      replace EB:=ext_same EB eh
      have EL1_:=EL1
      have zEL1w77:=EL1.size
      replace EL1:=ext_same EL1 eh
      have eT:=eh
      clear hh eh
      refine F.x (i:=0) rfl (fun w'=>R_move rfl (F.at rfl)) (fun _=>eT) ?_;clear F fa;intro fa F
      refine F.x (i:=1) rfl (fun w'=>R_move rfl (F.at rfl)) (fun _=>eT) ?_;clear F fa;intro fa F
      obtain ⟨xb20,xo20,xa20,xr20⟩:=HVS2.out i (by omega)
      refine F.x (i:=2) rfl (fun w'=>R_ixSlice (sz:=4) rfl ((F.at rfl).trans (xa20 _ _)) (F.at rfl) Try.underlying30 (by kernel_rfl) (by omega) (by omega)) (fun _=>eT) ?_;clear F fa;intro fa F
      refine F.xr (i:=3) rfl (fun w' hS=>R_loadRow rfl (F.at rfl) Try.underlying24 rfl (by kernel_rfl) (xr20 _ (EB_.nil hS))) (fun _=>eT) ?_;clear F fa;intro fa F
      refine F.x (i:=5) rfl (fun w'=>R_move rfl (F.at rfl)) (fun _=>eT) ?_;clear F fa;intro fa F
      refine F.x (i:=6) rfl (fun w'=>R_move rfl (F.at rfl)) (fun _=>eT) ?_;clear F fa;intro fa F
      obtain ⟨xb21,xo21,xa21,xr21⟩:=hA1.out i (by omega)
      refine F.x (i:=7) rfl (fun w'=>R_ixSlice (sz:=1) rfl ((F.at rfl).trans (xa21 _ _)) (F.at rfl) Try.underlying43 (by kernel_rfl) (by omega) (by omega)) (fun _=>eT) ?_;clear F fa;intro fa F
      refine F.xr (i:=8) rfl (fun w' hS=>R_load rfl (F.at rfl) Try.underlying22 rfl (xr21 _ (EB_.nil hS) 0 _ rfl)) (fun _=>eT) ?_;clear F fa;intro fa F
      rw [← hm] at F
      refine F.x (i:=10) rfl (fun w'=>R_move rfl (F.at rfl)) (fun _=>eT) ?_;clear F fa;intro fa F
      refine F.x (i:=11) rfl (fun w'=>R_move rfl (F.at rfl)) (fun _=>eT) ?_;clear F fa;intro fa F
      obtain ⟨xb22,xo22,xa22,xr22⟩:=hQ1.out i (by omega)
      refine F.x (i:=12) rfl (fun w'=>R_ixSlice (sz:=1) rfl ((F.at rfl).trans (xa22 _ _)) (F.at rfl) Try.underlying22 (by kernel_rfl) (by omega) (by omega)) (fun _=>eT) ?_;clear F fa;intro fa F
      refine F.xr (i:=13) rfl (fun w' hS=>R_load rfl (F.at rfl) Try.underlying25 rfl (xr22 _ (EB_.nil hS) 0 _ rfl)) (fun _=>eT) ?_;clear F fa;intro fa F
      rw [hka] at F
      refine ax_pair (i:=4) (j:=15) (by kernel_rfl) ?_ ?_
      ·skip
       have hle4:=E.size
       refine (op_call F rfl rfl (by decide) rfl (R_callV rfl rfl Try.call18 (mpS (F.at rfl) mp0)) (copyVat_own (vsI X i) _ ((HVA2.out i (by omega)).ext EB) m1 m2) fun e w78 hR=>?_)
       obtain ⟨u,rfl,huB,hut,huD,huL,oo1,fam1,oo2,fam2,-,e9⟩:=hR
       refine ⟨_,rfl,?_⟩;clear F fa;intro fa F
       replace E:=ext_same E (e9)
       replace EB:=ext_same EB (e9)
       replace EL1:=ext_same EL1 (e9)
       replace eT:=ext_same eT (e9)
       clear e9
       refine ⟨fun _=>eT,?_⟩
       have HSV:=Lib.hid (SameV.mk huB hut huD huL)
       replace oo1:=owns_lower (base':=w.heap.size) oo1 hle4
       replace fam1:=fam_lower fam1 hle4
       replace oo2:=owns_lower (base':=w.heap.size) oo2 hle4
       replace fam2:=fam_lower fam2 hle4
       refine ax_pair (i:=9) (j:=15) (by kernel_rfl) ?_ ?_
       ·skip
        have hle9:=E.size
        refine (op_call F rfl rfl (by decide) rfl (R_callV rfl rfl Try.call27 (mpS (F.at rfl) mp0)) (copyLists_any M hst.1 hst.2 ma mc _ (HMR.out.ext EB)) fun e w79 hR=>?_)
        obtain ⟨M2,ma2,mc2,rfl,hM2,oo3,fam3,e9⟩:=hR
        refine ⟨_,rfl,?_⟩;clear F fa;intro fa F
        replace oo1:=owns_ext oo1 (e9) (by simp)
        replace fam1:=fam_lift fam1 fun _ _ _ h=>owns_ext h (e9) (by simp)
        replace oo2:=owns_ext oo2 (e9) (by simp)
        replace fam2:=fam_lift fam2 fun _ _ _ h=>owns_ext h (e9) (by simp)
        replace E:=ext_same E (e9)
        replace EB:=ext_same EB (e9)
        replace EL1:=ext_same EL1 (e9)
        replace eT:=ext_same eT (e9)
        clear e9
        refine ⟨fun _=>eT,?_⟩
        have HM2:=Lib.hid hM2
        replace oo3:=owns_lower (base':=w.heap.size) oo3 hle9
        replace fam3:=fam_lower fam3 hle9
        refine ax_pair (i:=14) (j:=15) (by kernel_rfl) ?_ ?_
        ·skip
         have hle14:=E.size
         refine (op_call F rfl rfl (by decide) rfl (R_callV rfl rfl Try.call19 (mpS (F.at rfl) mp0)) (copyInts_any (w:=_) ⟨ka,kc,rfl,HKR.out.ext EB (by simp)⟩ (by omega)) fun e w80 hR=>?_)
         obtain ⟨ka2,kc2,rfl,ko,e9⟩:=hR
         refine ⟨_,rfl,?_⟩;clear F fa;intro fa F
         replace oo1:=owns_ext oo1 (e9) (by simp)
         replace fam1:=fam_lift fam1 fun _ _ _ h=>owns_ext h (e9) (by simp)
         replace oo2:=owns_ext oo2 (e9) (by simp)
         replace fam2:=fam_lift fam2 fun _ _ _ h=>owns_ext h (e9) (by simp)
         replace oo3:=owns_ext oo3 (e9) (by simp)
         replace fam3:=fam_lift fam3 fun _ _ _ h=>owns_ext h (e9) (by simp)
         replace E:=ext_same E (e9)
         replace EB:=ext_same EB (e9)
         replace EL1:=ext_same EL1 (e9)
         replace eT:=ext_same eT (e9)
         clear e9
         refine ⟨fun _=>eT,?_⟩
         replace ko:=owns_lower (base':=w.heap.size) ko hle14
         refine ax_only (i:=15) (by kernel_rfl) (op_new F rfl rfl (by decide) rfl (R_alloc rfl Try.zeroValue24) ?_);clear F fa;intro fa w81 F hw
         obtain ⟨n19,hn⟩ : ∃ n,n = w80.heap.size:=⟨_,rfl⟩
         rw [← hn] at F
         have s19 : w80.heap.size ≤ n19:=Nat.le_of_eq hn.symm
         have l19_E : w.heap.size ≤ n19:=by rw [hn];exact E.size
         have l19_EB : wB.heap.size ≤ n19:=by rw [hn];exact EB.size
         have l19_EL1 : w75.heap.size ≤ n19:=by rw [hn];exact EL1.size
         have lT19 : w76.heap.size ≤ n19:=by rw [hn];exact eT.size
         have o19_oo1:=Lib.hid (own_ne_new oo1 hn)
         have o19_oo2:=Lib.hid (own_ne_new oo2 hn)
         have o19_oo3:=Lib.hid (own_ne_new oo3 hn)
         have o19_ko:=Lib.hid (own_ne_new ko hn)
         replace oo1:=owns_alloc hw oo1
         replace fam1:=fam_lift fam1 fun _ _ _ h=>owns_alloc hw h
         replace oo2:=owns_alloc hw oo2
         replace fam2:=fam_lift fam2 fun _ _ _ h=>owns_alloc hw h
         replace oo3:=owns_alloc hw oo3
         replace fam3:=fam_lift fam3 fun _ _ _ h=>owns_alloc hw h
         replace ko:=owns_alloc hw ko
         replace E:=ext_alloc E hw
         replace EB:=ext_alloc EB hw
         replace EL1:=ext_alloc EL1 hw
         replace eT:=ext_alloc eT hw
         have q19:=new_row hw hn
         clear hw hn
         refine ⟨fun _=>eT,?_⟩
         refine ax_only (i:=16) (by kernel_rfl) (op_to rfl rfl rfl (R_storeRow rfl (F.at rfl) (F.at rfl) (by kernel_rfl) (by first | (simp [Value.oneCell'];done) | (simp [Value.oneCell',id];done)) q19 rfl) ?_);intro w82 hw
         replace oo1:=owns_cellsX hw oo1 (own_ne_type oo1 q19 (by decide))
         replace fam1:=fam_lift fam1 fun _ _ _ h=>owns_cellsX hw h (own_ne_type h q19 (by decide))
         replace oo2:=owns_cellsX hw oo2 (own_ne_type oo2 q19 (by decide))
         replace fam2:=fam_lift fam2 fun _ _ _ h=>owns_cellsX hw h (own_ne_type h q19 (by decide))
         replace oo3:=owns_cellsX hw oo3 (own_ne_type oo3 q19 (by decide))
         replace fam3:=fam_lift fam3 fun _ _ _ h=>owns_cellsX hw h (own_ne_type h q19 (by decide))
         replace ko:=owns_cellsX hw ko (own_ne_type ko q19 (by decide))
         replace q19:=put_row hw q19 rfl
         replace E:=ext_cells E hw (fun h=>by first | exact absurd h (by omega) | simp)
         replace EB:=ext_cells EB hw (fun h=>by first | exact absurd h (by omega) | simp)
         replace EL1:=ext_cells EL1 hw (fun h=>by first | exact absurd h (by omega) | simp)
         replace eT:=ext_cells eT hw (fun h=>by first | exact absurd h (by omega) | simp)
         clear hw
         refine ⟨fun _=>eT,?_⟩
         refine F.x (i:=17) rfl (fun w'=>R_assign rfl (F.at rfl)) (fun _=>eT) ?_;clear F fa;intro fa F
         refine F.x (i:=18) rfl (fun w'=>R_assign rfl (F.at rfl)) (fun _=>eT) ?_;clear F fa;intro fa F
         refine ax_done (by kernel_rfl) ?_ _
         exact hcut _ _ _ _ _ _ _ _ _ (F.sub (.c 12 rfl (.c 15 rfl (.c 16 rfl (.c 17 rfl (.c 18 rfl (.c 19 rfl (.c 20 rfl (.c 21 rfl .n))))))))) q19 E EB EL1 (by omega) (by omega) (by omega) oo1 fam1 oo2 fam2 oo3 fam3 ko HSV HM2
        ·skip
         refine (op_new F rfl rfl (by decide) rfl (R_alloc rfl Try.zeroValue24) ?_);clear F fa;intro fa w83 F hw
         obtain ⟨n19,hn⟩ : ∃ n,n = w79.heap.size:=⟨_,rfl⟩
         rw [← hn] at F
         have s19 : w79.heap.size ≤ n19:=Nat.le_of_eq hn.symm
         have l19_E : w.heap.size ≤ n19:=by rw [hn];exact E.size
         have l19_EB : wB.heap.size ≤ n19:=by rw [hn];exact EB.size
         have l19_EL1 : w75.heap.size ≤ n19:=by rw [hn];exact EL1.size
         have lT19 : w76.heap.size ≤ n19:=by rw [hn];exact eT.size
         have o19_oo1:=Lib.hid (own_ne_new oo1 hn)
         have o19_oo2:=Lib.hid (own_ne_new oo2 hn)
         have o19_oo3:=Lib.hid (own_ne_new oo3 hn)
         replace oo1:=owns_alloc hw oo1
         replace fam1:=fam_lift fam1 fun _ _ _ h=>owns_alloc hw h
         replace oo2:=owns_alloc hw oo2
         replace fam2:=fam_lift fam2 fun _ _ _ h=>owns_alloc hw h
         replace oo3:=owns_alloc hw oo3
         replace fam3:=fam_lift fam3 fun _ _ _ h=>owns_alloc hw h
         replace E:=ext_alloc E hw
         replace EB:=ext_alloc EB hw
         replace EL1:=ext_alloc EL1 hw
         replace eT:=ext_alloc eT hw
         have q19:=new_row hw hn
         clear hw hn
         refine ⟨fun _=>eT,?_⟩
         have hle14:=E.size
         refine ax_only (i:=14) (by kernel_rfl) (op_call F rfl rfl (by decide) rfl (R_callV rfl rfl Try.call19 (mpS (F.at rfl) mp0)) (copyInts_any (w:=_) ⟨ka,kc,rfl,HKR.out.ext EB (by simp)⟩ (by omega)) fun e w84 hR=>?_)
         obtain ⟨ka2,kc2,rfl,ko,e9⟩:=hR
         refine ⟨_,rfl,?_⟩;clear F fa;intro fa F
         replace oo1:=owns_ext oo1 (e9) (by simp)
         replace fam1:=fam_lift fam1 fun _ _ _ h=>owns_ext h (e9) (by simp)
         replace oo2:=owns_ext oo2 (e9) (by simp)
         replace fam2:=fam_lift fam2 fun _ _ _ h=>owns_ext h (e9) (by simp)
         replace oo3:=owns_ext oo3 (e9) (by simp)
         replace fam3:=fam_lift fam3 fun _ _ _ h=>owns_ext h (e9) (by simp)
         replace q19:=(e9).keep0 q19
         replace E:=ext_same E (e9)
         replace EB:=ext_same EB (e9)
         replace EL1:=ext_same EL1 (e9)
         replace eT:=ext_same eT (e9)
         clear e9
         refine ⟨fun _=>eT,?_⟩
         replace ko:=owns_lower (base':=w.heap.size) ko hle14
         refine ax_only (i:=16) (by kernel_rfl) (op_to rfl rfl rfl (R_storeRow rfl (F.at rfl) (F.at rfl) (by kernel_rfl) (by first | (simp [Value.oneCell'];done) | (simp [Value.oneCell',id];done)) q19 rfl) ?_);intro w85 hw
         replace oo1:=owns_cellsX hw oo1 (own_ne_type oo1 q19 (by decide))
         replace fam1:=fam_lift fam1 fun _ _ _ h=>owns_cellsX hw h (own_ne_type h q19 (by decide))
         replace oo2:=owns_cellsX hw oo2 (own_ne_type oo2 q19 (by decide))
         replace fam2:=fam_lift fam2 fun _ _ _ h=>owns_cellsX hw h (own_ne_type h q19 (by decide))
         replace oo3:=owns_cellsX hw oo3 (own_ne_type oo3 q19 (by decide))
         replace fam3:=fam_lift fam3 fun _ _ _ h=>owns_cellsX hw h (own_ne_type h q19 (by decide))
         replace ko:=owns_cellsX hw ko (own_ne_type ko q19 (by decide))
         replace q19:=put_row hw q19 rfl
         replace E:=ext_cells E hw (fun h=>by first | exact absurd h (by omega) | simp)
         replace EB:=ext_cells EB hw (fun h=>by first | exact absurd h (by omega) | simp)
         replace EL1:=ext_cells EL1 hw (fun h=>by first | exact absurd h (by omega) | simp)
         replace eT:=ext_cells eT hw (fun h=>by first | exact absurd h (by omega) | simp)
         clear hw
         refine ⟨fun _=>eT,?_⟩
         refine F.x (i:=17) rfl (fun w'=>R_assign rfl (F.at rfl)) (fun _=>eT) ?_;clear F fa;intro fa F
         refine F.x (i:=18) rfl (fun w'=>R_assign rfl (F.at rfl)) (fun _=>eT) ?_;clear F fa;intro fa F
         refine ax_done (by kernel_rfl) ?_ _
         exact hcut _ _ _ _ _ _ _ _ _ (F.sub (.c 12 rfl (.c 15 rfl (.c 16 rfl (.c 17 rfl (.c 18 rfl (.c 19 rfl (.c 20 rfl (.c 21 rfl .n))))))))) q19 E EB EL1 (by omega) (by omega) (by omega) oo1 fam1 oo2 fam2 oo3 fam3 ko HSV HM2
       ·skip
        refine (op_new F rfl rfl (by decide) rfl (R_alloc rfl Try.zeroValue24) ?_);clear F fa;intro fa w86 F hw
        obtain ⟨n19,hn⟩ : ∃ n,n = w78.heap.size:=⟨_,rfl⟩
        rw [← hn] at F
        have s19 : w78.heap.size ≤ n19:=Nat.le_of_eq hn.symm
        have l19_E : w.heap.size ≤ n19:=by rw [hn];exact E.size
        have l19_EB : wB.heap.size ≤ n19:=by rw [hn];exact EB.size
        have l19_EL1 : w75.heap.size ≤ n19:=by rw [hn];exact EL1.size
        have lT19 : w76.heap.size ≤ n19:=by rw [hn];exact eT.size
        have o19_oo1:=Lib.hid (own_ne_new oo1 hn)
        have o19_oo2:=Lib.hid (own_ne_new oo2 hn)
        replace oo1:=owns_alloc hw oo1
        replace fam1:=fam_lift fam1 fun _ _ _ h=>owns_alloc hw h
        replace oo2:=owns_alloc hw oo2
        replace fam2:=fam_lift fam2 fun _ _ _ h=>owns_alloc hw h
        replace E:=ext_alloc E hw
        replace EB:=ext_alloc EB hw
        replace EL1:=ext_alloc EL1 hw
        replace eT:=ext_alloc eT hw
        have q19:=new_row hw hn
        clear hw hn
        refine ⟨fun _=>eT,?_⟩
        have hle9:=E.size
        refine ax_only (i:=9) (by kernel_rfl) (op_call F rfl rfl (by decide) rfl (R_callV rfl rfl Try.call27 (mpS (F.at rfl) mp0)) (copyLists_any M hst.1 hst.2 ma mc _ (HMR.out.ext EB)) fun e w87 hR=>?_)
        obtain ⟨M2,ma2,mc2,rfl,hM2,oo3,fam3,e9⟩:=hR
        refine ⟨_,rfl,?_⟩;clear F fa;intro fa F
        replace oo1:=owns_ext oo1 (e9) (by simp)
        replace fam1:=fam_lift fam1 fun _ _ _ h=>owns_ext h (e9) (by simp)
        replace oo2:=owns_ext oo2 (e9) (by simp)
        replace fam2:=fam_lift fam2 fun _ _ _ h=>owns_ext h (e9) (by simp)
        replace q19:=(e9).keep0 q19
        replace E:=ext_same E (e9)
        replace EB:=ext_same EB (e9)
        replace EL1:=ext_same EL1 (e9)
        replace eT:=ext_same eT (e9)
        clear e9
        refine ⟨fun _=>eT,?_⟩
        have HM2:=Lib.hid hM2
        replace oo3:=owns_lower (base':=w.heap.size) oo3 hle9
        replace fam3:=fam_lower fam3 hle9
        have hle14:=E.size
        refine ax_only (i:=14) (by kernel_rfl) (op_call F rfl rfl (by decide) rfl (R_callV rfl rfl Try.call19 (mpS (F.at rfl) mp0)) (copyInts_any (w:=_) ⟨ka,kc,rfl,HKR.out.ext EB (by simp)⟩ (by omega)) fun e w88 hR=>?_)
        obtain ⟨ka2,kc2,rfl,ko,e9⟩:=hR
        refine ⟨_,rfl,?_⟩;clear F fa;intro fa F
        replace oo1:=owns_ext oo1 (e9) (by simp)
        replace fam1:=fam_lift fam1 fun _ _ _ h=>owns_ext h (e9) (by simp)
        replace oo2:=owns_ext oo2 (e9) (by simp)
        replace fam2:=fam_lift fam2 fun _ _ _ h=>owns_ext h (e9) (by simp)
        replace oo3:=owns_ext oo3 (e9) (by simp)
        replace fam3:=fam_lift fam3 fun _ _ _ h=>owns_ext h (e9) (by simp)
        replace q19:=(e9).keep0 q19
        replace E:=ext_same E (e9)
        replace EB:=ext_same EB (e9)
        replace EL1:=ext_same EL1 (e9)
        replace eT:=ext_same eT (e9)
        clear e9
        refine ⟨fun _=>eT,?_⟩
        replace ko:=owns_lower (base':=w.heap.size) ko hle14
        refine ax_only (i:=16) (by kernel_rfl) (op_to rfl rfl rfl (R_storeRow rfl (F.at rfl) (F.at rfl) (by kernel_rfl) (by first | (simp [Value.oneCell'];done) | (simp [Value.oneCell',id];done)) q19 rfl) ?_);intro w89 hw
        replace oo1:=owns_cellsX hw oo1 (own_ne_type oo1 q19 (by decide))
        replace fam1:=fam_lift fam1 fun _ _ _ h=>owns_cellsX hw h (own_ne_type h q19 (by decide))
        replace oo2:=owns_cellsX hw oo2 (own_ne_type oo2 q19 (by decide))
        replace fam2:=fam_lift fam2 fun _ _ _ h=>owns_cellsX hw h (own_ne_type h q19 (by decide))
        replace oo3:=owns_cellsX hw oo3 (own_ne_type oo3 q19 (by decide))
        replace fam3:=fam_lift fam3 fun _ _ _ h=>owns_cellsX hw h (own_ne_type h q19 (by decide))
        replace ko:=owns_cellsX hw ko (own_ne_type ko q19 (by decide))
        replace q19:=put_row hw q19 rfl
        replace E:=ext_cells E hw (fun h=>by first | exact absurd h (by omega) | simp)
        replace EB:=ext_cells EB hw (fun h=>by first | exact absurd h (by omega) | simp)
        replace EL1:=ext_cells EL1 hw (fun h=>by first | exact absurd h (by omega) | simp)
        replace eT:=ext_cells eT hw (fun h=>by first | exact absurd h (by omega) | simp)
        clear hw
        refine ⟨fun _=>eT,?_⟩
        refine F.x (i:=17) rfl (fun w'=>R_assign rfl (F.at rfl)) (fun _=>eT) ?_;clear F fa;intro fa F
        refine F.x (i:=18) rfl (fun w'=>R_assign rfl (F.at rfl)) (fun _=>eT) ?_;clear F fa;intro fa F
        refine ax_done (by kernel_rfl) ?_ _
        exact hcut _ _ _ _ _ _ _ _ _ (F.sub (.c 12 rfl (.c 15 rfl (.c 16 rfl (.c 17 rfl (.c 18 rfl (.c 19 rfl (.c 20 rfl (.c 21 rfl .n))))))))) q19 E EB EL1 (by omega) (by omega) (by omega) oo1 fam1 oo2 fam2 oo3 fam3 ko HSV HM2
      ·skip
       refine (op_new F rfl rfl (by decide) rfl (R_alloc rfl Try.zeroValue24) ?_);clear F fa;intro fa w90 F hw
       obtain ⟨n19,hn⟩ : ∃ n,n = w77.heap.size:=⟨_,rfl⟩
       rw [← hn] at F
       have s19 : w77.heap.size ≤ n19:=Nat.le_of_eq hn.symm
       have l19_E : w.heap.size ≤ n19:=by rw [hn];exact E.size
       have l19_EB : wB.heap.size ≤ n19:=by rw [hn];exact EB.size
       have l19_EL1 : w75.heap.size ≤ n19:=by rw [hn];exact EL1.size
       have lT19 : w76.heap.size ≤ n19:=by rw [hn];exact eT.size
       replace E:=ext_alloc E hw
       replace EB:=ext_alloc EB hw
       replace EL1:=ext_alloc EL1 hw
       replace eT:=ext_alloc eT hw
       have q19:=new_row hw hn
       clear hw hn
       refine ⟨fun _=>eT,?_⟩
       have hle4:=E.size
       refine ax_only (i:=4) (by kernel_rfl) (op_call F rfl rfl (by decide) rfl (R_callV rfl rfl Try.call18 (mpS (F.at rfl) mp0)) (copyVat_own (vsI X i) _ ((HVA2.out i (by omega)).ext EB) m1 m2) fun e w91 hR=>?_)
       obtain ⟨u,rfl,huB,hut,huD,huL,oo1,fam1,oo2,fam2,-,e9⟩:=hR
       refine ⟨_,rfl,?_⟩;clear F fa;intro fa F
       replace q19:=(e9).keep0 q19
       replace E:=ext_same E (e9)
       replace EB:=ext_same EB (e9)
       replace EL1:=ext_same EL1 (e9)
       replace eT:=ext_same eT (e9)
       clear e9
       refine ⟨fun _=>eT,?_⟩
       have HSV:=Lib.hid (SameV.mk huB hut huD huL)
       replace oo1:=owns_lower (base':=w.heap.size) oo1 hle4
       replace fam1:=fam_lower fam1 hle4
       replace oo2:=owns_lower (base':=w.heap.size) oo2 hle4
       replace fam2:=fam_lower fam2 hle4
       have hle9:=E.size
       refine ax_only (i:=9) (by kernel_rfl) (op_call F rfl rfl (by decide) rfl (R_callV rfl rfl Try.call27 (mpS (F.at rfl) mp0)) (copyLists_any M hst.1 hst.2 ma mc _ (HMR.out.ext EB)) fun e w92 hR=>?_)
       obtain ⟨M2,ma2,mc2,rfl,hM2,oo3,fam3,e9⟩:=hR
       refine ⟨_,rfl,?_⟩;clear F fa;intro fa F
       replace oo1:=owns_ext oo1 (e9) (by simp)
       replace fam1:=fam_lift fam1 fun _ _ _ h=>owns_ext h (e9) (by simp)
       replace oo2:=owns_ext oo2 (e9) (by simp)
       replace fam2:=fam_lift fam2 fun _ _ _ h=>owns_ext h (e9) (by simp)
       replace q19:=(e9).keep0 q19
       replace E:=ext_same E (e9)
       replace EB:=ext_same EB (e9)
       replace EL1:=ext_same EL1 (e9)
       replace eT:=ext_same eT (e9)
       clear e9
       refine ⟨fun _=>eT,?_⟩
       have HM2:=Lib.hid hM2
       replace oo3:=owns_lower (base':=w.heap.size) oo3 hle9
       replace fam3:=fam_lower fam3 hle9
       have hle14:=E.size
       refine ax_only (i:=14) (by kernel_rfl) (op_call F rfl rfl (by decide) rfl (R_callV rfl rfl Try.call19 (mpS (F.at rfl) mp0)) (copyInts_any (w:=_) ⟨ka,kc,rfl,HKR.out.ext EB (by simp)⟩ (by omega)) fun e w93 hR=>?_)
       obtain ⟨ka2,kc2,rfl,ko,e9⟩:=hR
       refine ⟨_,rfl,?_⟩;clear F fa;intro fa F
       replace oo1:=owns_ext oo1 (e9) (by simp)
       replace fam1:=fam_lift fam1 fun _ _ _ h=>owns_ext h (e9) (by simp)
       replace oo2:=owns_ext oo2 (e9) (by simp)
       replace fam2:=fam_lift fam2 fun _ _ _ h=>owns_ext h (e9) (by simp)
       replace oo3:=owns_ext oo3 (e9) (by simp)
       replace fam3:=fam_lift fam3 fun _ _ _ h=>owns_ext h (e9) (by simp)
       replace q19:=(e9).keep0 q19
       replace E:=ext_same E (e9)
       replace EB:=ext_same EB (e9)
       replace EL1:=ext_same EL1 (e9)
       replace eT:=ext_same eT (e9)
       clear e9
       refine ⟨fun _=>eT,?_⟩
       replace ko:=owns_lower (base':=w.heap.size) ko hle14
       refine ax_only (i:=16) (by kernel_rfl) (op_to rfl rfl rfl (R_storeRow rfl (F.at rfl) (F.at rfl) (by kernel_rfl) (by first | (simp [Value.oneCell'];done) | (simp [Value.oneCell',id];done)) q19 rfl) ?_);intro w94 hw
       replace oo1:=owns_cellsX hw oo1 (own_ne_type oo1 q19 (by decide))
       replace fam1:=fam_lift fam1 fun _ _ _ h=>owns_cellsX hw h (own_ne_type h q19 (by decide))
       replace oo2:=owns_cellsX hw oo2 (own_ne_type oo2 q19 (by decide))
       replace fam2:=fam_lift fam2 fun _ _ _ h=>owns_cellsX hw h (own_ne_type h q19 (by decide))
       replace oo3:=owns_cellsX hw oo3 (own_ne_type oo3 q19 (by decide))
       replace fam3:=fam_lift fam3 fun _ _ _ h=>owns_cellsX hw h (own_ne_type h q19 (by decide))
       replace ko:=owns_cellsX hw ko (own_ne_type ko q19 (by decide))
       replace q19:=put_row hw q19 rfl
       replace E:=ext_cells E hw (fun h=>by first | exact absurd h (by omega) | simp)
       replace EB:=ext_cells EB hw (fun h=>by first | exact absurd h (by omega) | simp)
       replace EL1:=ext_cells EL1 hw (fun h=>by first | exact absurd h (by omega) | simp)
       replace eT:=ext_cells eT hw (fun h=>by first | exact absurd h (by omega) | simp)
       clear hw
       refine ⟨fun _=>eT,?_⟩
       refine F.x (i:=17) rfl (fun w'=>R_assign rfl (F.at rfl)) (fun _=>eT) ?_;clear F fa;intro fa F
       refine F.x (i:=18) rfl (fun w'=>R_assign rfl (F.at rfl)) (fun _=>eT) ?_;clear F fa;intro fa F
       refine ax_done (by kernel_rfl) ?_ _
       exact hcut _ _ _ _ _ _ _ _ _ (F.sub (.c 12 rfl (.c 15 rfl (.c 16 rfl (.c 17 rfl (.c 18 rfl (.c 19 rfl (.c 20 rfl (.c 21 rfl .n))))))))) q19 E EB EL1 (by omega) (by omega) (by omega) oo1 fam1 oo2 fam2 oo3 fam3 ko HSV HM2
     clear F E EB EL1 fa
     intro n19 u M2 ma2 ka2 mc2 kc2 fa w95 F q19 E EB EL1 l19_E l19_EB l19_EL1 oo1 fam1 oo2 fam2 oo3 fam3 ko HSV HM2
     refine hK19 _ _ ?_
     clear hK19
     refine wp_seq_k fun K23 hK23=>?_
     have HU:=Lib.hid (show u.At w95 from ⟨lol_of_own oo1 fam1,lol_of_own oo2 fam2⟩)
     have HMC:=Lib.hid (lol_of_own oo3 fam3)
     have HK2:=Lib.hid (rows_of_ivs ko rfl)
     obtain ⟨wC,hwC⟩ : ∃ wC,wC = w95:=⟨_,rfl⟩
     have EC : Ext [] wC w95:=by rw [hwC];exact Ext.refl _ _
     rw [← hwC] at HU HMC HK2
     clear oo1 fam1 oo2 fam2 oo3 fam3 ko
     have hs2:=small_key hst HM2.out
     have hMl : M.length ≤ 1000:=hst.1
     have hml2 : (M.map (·.2)).length ≤ 1000:=(by rw [List.length_map];exact hMl)
     refine wp_region_lit ?_
     refine F.vl (R_loadBlk rfl (F.at rfl) Try.underlying24 rfl (by kernel_rfl) q19) ?_;clear F fa;intro fa F
     refine F.mv ?_;clear F fa;intro fa F
     refine F.mv ?_;clear F fa;intro fa F
     obtain ⟨g,hg⟩ : ∃ g,g = mosV (vsI X i) (M.map (·.2)) k:=⟨_,rfl⟩
     have hco:=xMost_any u (small_key m1 HSV.out.D) (small_key m2 HSV.out.L) M2 hs2.2 hs2.1 k (by omega) ma2 ka2 mc2 kc2 w95 (HU.out.ext EC) (HMC.out.ext EC) (HK2.out.ext EC (by simp))
     rw [HSV.out.mosV,HM2.out,← hg] at hco
     refine sq_call F rfl (by decide) rfl (R_callV rfl rfl Try.call28 (mpS (F.at rfl) (mpS (F.at rfl) (mpS (F.at rfl) mp0)))) (hco) fun e w96 hR=>?_
     obtain ⟨ga,gc,rfl,og,e9⟩:=hR
     refine ⟨_,rfl,?_⟩;clear F fa;intro fa F
     replace q19:=(e9).keep0 q19
     replace E:=ext_same E (e9)
     replace EB:=ext_same EB (e9)
     replace EL1:=ext_same EL1 (e9)
     replace EC:=ext_same EC (e9)
     clear e9
     have hgl : g.1.length ≤ 1000:=(by rw [hg];exact mosV_len _ _ _)
     have HG:=Lib.hid (rows_of_ivs og rfl)
     obtain ⟨wG,hwG⟩ : ∃ wG,wG = w96:=⟨_,rfl⟩
     have EG : Ext [] wG w96:=by rw [hwG];exact Ext.refl _ _
     rw [← hwG] at HG
     clear og hco
     refine F.mv ?_;clear F fa;intro fa F
     refine F.vl (R_extract rfl (F.at rfl) (get0)) ?_;clear F fa;intro fa F
     refine F.vl (R_extract rfl (F.at rfl) (getS (get0))) ?_;clear F fa;intro fa F
     refine F.as ?_;clear F fa;intro fa F
     refine F.as ?_;clear F fa;intro fa F
     refine wpList_nil ?_
     refine hK23 _ _ ?_
     clear hK23
     refine wp_seq_k fun K24 hK24=>?_
     refine region_x (Ext [] w96) none follows fun w97 hh eh=>?_
     have q19_:=q19
     replace q19:=keep_same hh q19
     have E_:=E
     have zEw97:=E.size
     replace E:=ext_same E eh
     have EB_:=EB
     have zEBw97:=EB.size
     replace EB:=ext_same EB eh
     have EL1_:=EL1
     have zEL1w97:=EL1.size
     replace EL1:=ext_same EL1 eh
     have EC_:=EC
     have zECw97:=EC.size
     replace EC:=ext_same EC eh
     have EG_:=EG
     have zEGw97:=EG.size
     replace EG:=ext_same EG eh
     have eT:=eh
     clear hh eh
     refine F.x (i:=0) rfl (fun w'=>R_move rfl (F.at rfl)) (fun _=>eT) ?_;clear F fa;intro fa F
     refine F.x (i:=1) rfl (fun w'=>R_move rfl (F.at rfl)) (fun _=>eT) ?_;clear F fa;intro fa F
     obtain ⟨xb25,xo25,xa25,xr25⟩:=HVS2.out i (by omega)
     refine F.x (i:=2) rfl (fun w'=>R_ixSlice (sz:=4) rfl ((F.at rfl).trans (xa25 _ _)) (F.at rfl) Try.underlying30 (by kernel_rfl) (by omega) (by omega)) (fun _=>eT) ?_;clear F fa;intro fa F
     refine F.xr (i:=3) rfl (fun w' hS=>R_loadRow rfl (F.at rfl) Try.underlying24 rfl (by kernel_rfl) (xr25 _ (EB_.nil hS))) (fun _=>eT) ?_;clear F fa;intro fa F
     refine F.x (i:=4) rfl (fun w'=>R_move rfl (F.at rfl)) (fun _=>eT) ?_;clear F fa;intro fa F
     refine F.x (i:=5) rfl (fun w'=>R_move rfl (F.at rfl)) (fun _=>eT) ?_;clear F fa;intro fa F
     obtain ⟨xb26,xo26,xa26,xr26⟩:=hA1.out i (by omega)
     refine F.x (i:=6) rfl (fun w'=>R_ixSlice (sz:=1) rfl ((F.at rfl).trans (xa26 _ _)) (F.at rfl) Try.underlying43 (by kernel_rfl) (by omega) (by omega)) (fun _=>eT) ?_;clear F fa;intro fa F
     refine F.xr (i:=7) rfl (fun w' hS=>R_load rfl (F.at rfl) Try.underlying22 rfl (xr26 _ (EB_.nil hS) 0 _ rfl)) (fun _=>eT) ?_;clear F fa;intro fa F
     rw [← hm] at F
     refine F.x (i:=8) rfl (fun w'=>R_move rfl (F.at rfl)) (fun _=>eT) ?_;clear F fa;intro fa F
     refine F.x (i:=9) rfl (fun w'=>R_move rfl (F.at rfl)) (fun _=>eT) ?_;clear F fa;intro fa F
     obtain ⟨xb27,xo27,xa27,xr27⟩:=hQ1.out i (by omega)
     refine F.x (i:=10) rfl (fun w'=>R_ixSlice (sz:=1) rfl ((F.at rfl).trans (xa27 _ _)) (F.at rfl) Try.underlying22 (by kernel_rfl) (by omega) (by omega)) (fun _=>eT) ?_;clear F fa;intro fa F
     refine F.xr (i:=11) rfl (fun w' hS=>R_load rfl (F.at rfl) Try.underlying25 rfl (xr27 _ (EB_.nil hS) 0 _ rfl)) (fun _=>eT) ?_;clear F fa;intro fa F
     rw [hka] at F
     have hdo:=dMost_any (vsI X i) m1 m2 M hst.2 hst.1 k (by omega) ma ka mc kc w97 ((HVA2.out i (by omega)).ext EB) (HMR.out.ext EB) (HKR.out.ext EB (by simp))
     rw [← hg] at hdo
     refine ax_only (i:=12) (by kernel_rfl) (op_call F rfl rfl (by decide) rfl (R_callV rfl rfl Try.call29 (mpS (F.at rfl) (mpS (F.at rfl) (mpS (F.at rfl) mp0)))) (hdo) fun e w98 hR=>?_)
     obtain ⟨ha,hc,rfl,hh,e9⟩:=hR
     refine ⟨_,rfl,?_⟩;clear F fa;intro fa F
     replace q19:=(e9).keep0 q19
     replace E:=ext_same E (e9)
     replace EB:=ext_same EB (e9)
     replace EL1:=ext_same EL1 (e9)
     replace EC:=ext_same EC (e9)
     replace EG:=ext_same EG (e9)
     replace eT:=ext_same eT (e9)
     clear e9
     refine ⟨fun _=>eT,?_⟩
     have HH:=Lib.hid hh
     obtain ⟨wH,hwH⟩ : ∃ wH,wH = w98:=⟨_,rfl⟩
     have EH : Ext [] wH w98:=by rw [hwH];exact Ext.refl _ _
     rw [← hwH] at HH
     clear hh hdo
     refine F.x (i:=13) rfl (fun w'=>R_move rfl (F.at rfl)) (fun _=>eT) ?_;clear F fa;intro fa F
     refine F.x (i:=14) rfl (fun w'=>R_extract rfl (F.at rfl) (get0)) (fun _=>eT) ?_;clear F fa;intro fa F
     refine F.x (i:=15) rfl (fun w'=>R_extract rfl (F.at rfl) (getS (get0))) (fun _=>eT) ?_;clear F fa;intro fa F
     refine F.x (i:=16) rfl (fun w'=>R_assign rfl (F.at rfl)) (fun _=>eT) ?_;clear F fa;intro fa F
     refine F.x (i:=17) rfl (fun w'=>R_assign rfl (F.at rfl)) (fun _=>eT) ?_;clear F fa;intro fa F
     refine ax_done (by kernel_rfl) ?_ _
     clear eT q19_ E_ EB_ EL1_ EC_ EG_
     refine hK24 _ _ ?_
     clear hK24
     refine wp_seq_k fun K28 hK28=>?_
     refine region_x (Ext [] w98) none follows fun w99 hh eh=>?_
     have q19_:=q19
     replace q19:=keep_same hh q19
     have E_:=E
     have zEw99:=E.size
     replace E:=ext_same E eh
     have EB_:=EB
     have zEBw99:=EB.size
     replace EB:=ext_same EB eh
     have EL1_:=EL1
     have zEL1w99:=EL1.size
     replace EL1:=ext_same EL1 eh
     have EC_:=EC
     have zECw99:=EC.size
     replace EC:=ext_same EC eh
     have EG_:=EG
     have zEGw99:=EG.size
     replace EG:=ext_same EG eh
     have EH_:=EH
     have zEHw99:=EH.size
     replace EH:=ext_same EH eh
     have eT:=eh
     clear hh eh
     refine F.xr (i:=0) rfl (fun w' hS=>R_loadBlk rfl (F.at rfl) Try.underlying24 rfl (by kernel_rfl) (hS.keep q19_ (by simp))) (fun _=>eT) ?_;clear F fa;intro fa F
     refine F.x (i:=1) rfl (fun w'=>R_move rfl (F.at rfl)) (fun _=>eT) ?_;clear F fa;intro fa F
     refine F.x (i:=2) rfl (fun w'=>R_move rfl (F.at rfl)) (fun _=>eT) ?_;clear F fa;intro fa F
     obtain ⟨xb29,xo29,xa29,xr29⟩:=hN1.out i (by omega)
     refine F.x (i:=3) rfl (fun w'=>R_ixSlice (sz:=1) rfl ((F.at rfl).trans (xa29 _ _)) (F.at rfl) Try.underlying25 (by kernel_rfl) (by omega) (by omega)) (fun _=>eT) ?_;clear F fa;intro fa F
     refine F.xr (i:=4) rfl (fun w' hS=>R_load rfl (F.at rfl) Try.underlying3 rfl (xr29 _ (EB_.nil hS) 0 _ rfl)) (fun _=>eT) ?_;clear F fa;intro fa F
     rw [← hv] at F
     refine F.x (i:=5) rfl (fun w'=>R_move rfl (F.at rfl)) (fun _=>eT) ?_;clear F fa;intro fa F
     obtain ⟨r,hr⟩ : ∃ r,r = shaV (vsI X i) v (M.map (·.2)):=⟨_,rfl⟩
     have hco:=xShades_any u (small_key m1 HSV.out.D) (small_key m2 HSV.out.L) v M2 hs2.2 hs2.1 ma2 mc2 w99 (HU.out.ext EC) (HMC.out.ext EC)
     rw [HSV.out.shaV,HM2.out,← hr] at hco
     refine ax_only (i:=6) (by kernel_rfl) (op_call F rfl rfl (by decide) rfl (R_callV rfl rfl Try.call30 (mpS (F.at rfl) (mpS (F.at rfl) (mpS (F.at rfl) mp0)))) (hco) fun e w100 hR=>?_)
     obtain ⟨ra,rc,rfl,orr,e9⟩:=hR
     refine ⟨_,rfl,?_⟩;clear F fa;intro fa F
     replace q19:=(e9).keep0 q19
     replace E:=ext_same E (e9)
     replace EB:=ext_same EB (e9)
     replace EL1:=ext_same EL1 (e9)
     replace EC:=ext_same EC (e9)
     replace EG:=ext_same EG (e9)
     replace EH:=ext_same EH (e9)
     replace eT:=ext_same eT (e9)
     clear e9
     refine ⟨fun _=>eT,?_⟩
     have hrl : r.1.length ≤ 1000:=(by rw [hr];exact shaV_len hml2)
     have HRR:=Lib.hid (rows_of_ivs orr rfl)
     obtain ⟨wR,hwR⟩ : ∃ wR,wR = w100:=⟨_,rfl⟩
     have ER : Ext [] wR w100:=by rw [hwR];exact Ext.refl _ _
     rw [← hwR] at HRR
     clear orr hco
     refine F.x (i:=7) rfl (fun w'=>R_move rfl (F.at rfl)) (fun _=>eT) ?_;clear F fa;intro fa F
     refine F.x (i:=8) rfl (fun w'=>R_extract rfl (F.at rfl) (get0)) (fun _=>eT) ?_;clear F fa;intro fa F
     refine F.x (i:=9) rfl (fun w'=>R_extract rfl (F.at rfl) (getS (get0))) (fun _=>eT) ?_;clear F fa;intro fa F
     refine F.x (i:=10) rfl (fun w'=>R_assign rfl (F.at rfl)) (fun _=>eT) ?_;clear F fa;intro fa F
     refine F.x (i:=11) rfl (fun w'=>R_assign rfl (F.at rfl)) (fun _=>eT) ?_;clear F fa;intro fa F
     refine ax_done (by kernel_rfl) ?_ _
     clear eT q19_ E_ EB_ EL1_ EC_ EG_ EH_
     refine hK28 _ _ ?_
     clear hK28
     refine wp_seq_k fun K30 hK30=>?_
     refine region_x (Ext [] w100) none follows fun w101 hh eh=>?_
     have q19_:=q19
     replace q19:=keep_same hh q19
     have E_:=E
     have zEw101:=E.size
     replace E:=ext_same E eh
     have EB_:=EB
     have zEBw101:=EB.size
     replace EB:=ext_same EB eh
     have EL1_:=EL1
     have zEL1w101:=EL1.size
     replace EL1:=ext_same EL1 eh
     have EC_:=EC
     have zECw101:=EC.size
     replace EC:=ext_same EC eh
     have EG_:=EG
     have zEGw101:=EG.size
     replace EG:=ext_same EG eh
     have EH_:=EH
     have zEHw101:=EH.size
     replace EH:=ext_same EH eh
     have ER_:=ER
     have zERw101:=ER.size
     replace ER:=ext_same ER eh
     have eT:=eh
     clear hh eh
     refine F.x (i:=0) rfl (fun w'=>R_move rfl (F.at rfl)) (fun _=>eT) ?_;clear F fa;intro fa F
     refine F.x (i:=1) rfl (fun w'=>R_move rfl (F.at rfl)) (fun _=>eT) ?_;clear F fa;intro fa F
     obtain ⟨xb31,xo31,xa31,xr31⟩:=HVS2.out i (by omega)
     refine F.x (i:=2) rfl (fun w'=>R_ixSlice (sz:=4) rfl ((F.at rfl).trans (xa31 _ _)) (F.at rfl) Try.underlying30 (by kernel_rfl) (by omega) (by omega)) (fun _=>eT) ?_;clear F fa;intro fa F
     refine F.xr (i:=3) rfl (fun w' hS=>R_loadRow rfl (F.at rfl) Try.underlying24 rfl (by kernel_rfl) (xr31 _ (EB_.nil hS))) (fun _=>eT) ?_;clear F fa;intro fa F
     refine F.x (i:=4) rfl (fun w'=>R_move rfl (F.at rfl)) (fun _=>eT) ?_;clear F fa;intro fa F
     refine F.x (i:=5) rfl (fun w'=>R_move rfl (F.at rfl)) (fun _=>eT) ?_;clear F fa;intro fa F
     obtain ⟨xb32,xo32,xa32,xr32⟩:=hN1.out i (by omega)
     refine F.x (i:=6) rfl (fun w'=>R_ixSlice (sz:=1) rfl ((F.at rfl).trans (xa32 _ _)) (F.at rfl) Try.underlying25 (by kernel_rfl) (by omega) (by omega)) (fun _=>eT) ?_;clear F fa;intro fa F
     refine F.xr (i:=7) rfl (fun w' hS=>R_load rfl (F.at rfl) Try.underlying3 rfl (xr32 _ (EB_.nil hS) 0 _ rfl)) (fun _=>eT) ?_;clear F fa;intro fa F
     rw [← hv] at F
     refine F.x (i:=8) rfl (fun w'=>R_move rfl (F.at rfl)) (fun _=>eT) ?_;clear F fa;intro fa F
     refine F.x (i:=9) rfl (fun w'=>R_move rfl (F.at rfl)) (fun _=>eT) ?_;clear F fa;intro fa F
     obtain ⟨xb33,xo33,xa33,xr33⟩:=hA1.out i (by omega)
     refine F.x (i:=10) rfl (fun w'=>R_ixSlice (sz:=1) rfl ((F.at rfl).trans (xa33 _ _)) (F.at rfl) Try.underlying43 (by kernel_rfl) (by omega) (by omega)) (fun _=>eT) ?_;clear F fa;intro fa F
     refine F.xr (i:=11) rfl (fun w' hS=>R_load rfl (F.at rfl) Try.underlying22 rfl (xr33 _ (EB_.nil hS) 0 _ rfl)) (fun _=>eT) ?_;clear F fa;intro fa F
     rw [← hm] at F
     have hdo:=dShades_any (vsI X i) m1 m2 v M hst.2 hst.1 ma mc w101 ((HVA2.out i (by omega)).ext EB) (HMR.out.ext EB)
     rw [← hr] at hdo
     refine ax_only (i:=12) (by kernel_rfl) (op_call F rfl rfl (by decide) rfl (R_callV rfl rfl Try.call31 (mpS (F.at rfl) (mpS (F.at rfl) (mpS (F.at rfl) mp0)))) (hdo) fun e w102 hR=>?_)
     obtain ⟨sa,sc,rfl,hh,e9⟩:=hR
     refine ⟨_,rfl,?_⟩;clear F fa;intro fa F
     replace q19:=(e9).keep0 q19
     replace E:=ext_same E (e9)
     replace EB:=ext_same EB (e9)
     replace EL1:=ext_same EL1 (e9)
     replace EC:=ext_same EC (e9)
     replace EG:=ext_same EG (e9)
     replace EH:=ext_same EH (e9)
     replace ER:=ext_same ER (e9)
     replace eT:=ext_same eT (e9)
     clear e9
     refine ⟨fun _=>eT,?_⟩
     have HSS:=Lib.hid hh
     obtain ⟨wS,hwS⟩ : ∃ wS,wS = w102:=⟨_,rfl⟩
     have ES : Ext [] wS w102:=by rw [hwS];exact Ext.refl _ _
     rw [← hwS] at HSS
     clear hh hdo
     refine F.x (i:=13) rfl (fun w'=>R_move rfl (F.at rfl)) (fun _=>eT) ?_;clear F fa;intro fa F
     refine F.x (i:=14) rfl (fun w'=>R_extract rfl (F.at rfl) (get0)) (fun _=>eT) ?_;clear F fa;intro fa F
     refine F.x (i:=15) rfl (fun w'=>R_extract rfl (F.at rfl) (getS (get0))) (fun _=>eT) ?_;clear F fa;intro fa F
     refine F.x (i:=16) rfl (fun w'=>R_assign rfl (F.at rfl)) (fun _=>eT) ?_;clear F fa;intro fa F
     refine F.x (i:=17) rfl (fun w'=>R_assign rfl (F.at rfl)) (fun _=>eT) ?_;clear F fa;intro fa F
     refine ax_done (by kernel_rfl) ?_ _
     clear eT q19_ E_ EB_ EL1_ EC_ EG_ EH_ ER_
     refine hK30 _ _ ?_
     clear hK30
     refine wp_seq_k fun K34 hK34=>?_
     refine region_x (Ext [] w102) none follows fun w103 hh eh=>?_
     have q19_:=q19
     replace q19:=keep_same hh q19
     have E_:=E
     have zEw103:=E.size
     replace E:=ext_same E eh
     have EB_:=EB
     have zEBw103:=EB.size
     replace EB:=ext_same EB eh
     have EL1_:=EL1
     have zEL1w103:=EL1.size
     replace EL1:=ext_same EL1 eh
     have EC_:=EC
     have zECw103:=EC.size
     replace EC:=ext_same EC eh
     have EG_:=EG
     have zEGw103:=EG.size
     replace EG:=ext_same EG eh
     have EH_:=EH
     have zEHw103:=EH.size
     replace EH:=ext_same EH eh
     have ER_:=ER
     have zERw103:=ER.size
     replace ER:=ext_same ER eh
     have ES_:=ES
     have zESw103:=ES.size
     replace ES:=ext_same ES eh
     have eT:=eh
     clear hh eh
     refine F.x (i:=0) rfl (fun w'=>R_move rfl (F.at rfl)) (fun _=>eT) ?_;clear F fa;intro fa F
     refine F.x (i:=1) rfl (fun w'=>R_move rfl (F.at rfl)) (fun _=>eT) ?_;clear F fa;intro fa F
     refine F.x (i:=2) rfl (fun w'=>R_neqB (b:=false) rfl (F.at rfl) (F.at rfl) (decide_eq_true ((by omega)))) (fun _=>eT) ?_;clear F fa;intro fa F
     refine F.x (i:=3) rfl (fun w'=>R_move rfl (F.at rfl)) (fun _=>eT) ?_;clear F fa;intro fa F
     refine F.x (i:=4) rfl (fun w'=>R_move rfl (F.at rfl)) (fun _=>eT) ?_ (hw:=(wantT F rfl rfl (by decide) rfl));clear F fa;intro fa F
     refine F.x (i:=5) rfl (fun w'=>R_move rfl (F.at rfl)) (fun _=>eT) ?_ (hw:=(wantT F rfl rfl (by decide) rfl));clear F fa;intro fa F
     refine F.x (i:=6) rfl (fun w'=>R_neqB (b:=false) rfl (F.at rfl) (F.at rfl) (decide_eq_true ((by omega)))) (fun _=>eT) ?_ (hw:=(wantT F rfl rfl (by decide) rfl));clear F fa;intro fa F
     refine F.x (i:=7) rfl (fun w'=>R_pickF rfl (F.at rfl) (F.at rfl)) (fun _=>eT) ?_;clear F fa;intro fa F
     refine F.x (i:=8) rfl (fun w'=>R_move rfl (F.at rfl)) (fun _=>eT) ?_;clear F fa;intro fa F
     refine F.x (i:=9) rfl (fun w'=>R_move rfl (F.at rfl)) (fun _=>eT) ?_ (hw:=(wantT F rfl rfl (by decide) rfl));clear F fa;intro fa F
     refine F.x (i:=10) rfl (fun w'=>R_move rfl (F.at rfl)) (fun _=>eT) ?_ (hw:=(wantT F rfl rfl (by decide) rfl));clear F fa;intro fa F
     refine ax_only (i:=11) (by kernel_rfl) (op_call F rfl rfl (by decide) (wantT F rfl rfl (by decide) rfl) (R_callV rfl rfl Try.call22 (mpS (F.at rfl) (mpS (F.at rfl) mp0))) (sameInts_any g.1 g.1 ga ha gc hc _ (HG.out.ext EG (by simp)) (HH.out.ext EH (by simp)) (by omega) (by omega)) fun e w104 hR=>?_)
     obtain ⟨rfl,e9⟩:=hR
     refine ⟨_,rfl,?_⟩;clear F fa;intro fa F
     replace q19:=(e9).keep0 q19
     replace E:=ext_same E (e9)
     replace EB:=ext_same EB (e9)
     replace EL1:=ext_same EL1 (e9)
     replace EC:=ext_same EC (e9)
     replace EG:=ext_same EG (e9)
     replace EH:=ext_same EH (e9)
     replace ER:=ext_same ER (e9)
     replace ES:=ext_same ES (e9)
     replace eT:=ext_same eT (e9)
     clear e9
     refine ⟨fun _=>eT,?_⟩
     rw [eqb_self] at F
     refine F.x (i:=12) rfl (fun w'=>R_not rfl (F.at rfl)) (fun _=>eT) ?_ (hw:=(wantT F rfl rfl (by decide) rfl));clear F fa;intro fa F
     refine F.x (i:=13) rfl (fun w'=>R_pickF rfl (F.at rfl) (F.at rfl)) (fun _=>eT) ?_;clear F fa;intro fa F
     refine F.x (i:=14) rfl (fun w'=>R_move rfl (F.at rfl)) (fun _=>eT) ?_;clear F fa;intro fa F
     refine F.x (i:=15) rfl (fun w'=>R_move rfl (F.at rfl)) (fun _=>eT) ?_ (hw:=(wantT F rfl rfl (by decide) rfl));clear F fa;intro fa F
     refine F.x (i:=16) rfl (fun w'=>R_move rfl (F.at rfl)) (fun _=>eT) ?_ (hw:=(wantT F rfl rfl (by decide) rfl));clear F fa;intro fa F
     refine ax_only (i:=17) (by kernel_rfl) (op_call F rfl rfl (by decide) (wantT F rfl rfl (by decide) rfl) (R_callV rfl rfl Try.call22 (mpS (F.at rfl) (mpS (F.at rfl) mp0))) (sameInts_any r.1 r.1 ra sa rc sc _ (HRR.out.ext ER (by simp)) (HSS.out.ext ES (by simp)) (by omega) (by omega)) fun e w105 hR=>?_)
     obtain ⟨rfl,e9⟩:=hR
     refine ⟨_,rfl,?_⟩;clear F fa;intro fa F
     replace q19:=(e9).keep0 q19
     replace E:=ext_same E (e9)
     replace EB:=ext_same EB (e9)
     replace EL1:=ext_same EL1 (e9)
     replace EC:=ext_same EC (e9)
     replace EG:=ext_same EG (e9)
     replace EH:=ext_same EH (e9)
     replace ER:=ext_same ER (e9)
     replace ES:=ext_same ES (e9)
     replace eT:=ext_same eT (e9)
     clear e9
     refine ⟨fun _=>eT,?_⟩
     rw [eqb_self] at F
     refine F.x (i:=18) rfl (fun w'=>R_not rfl (F.at rfl)) (fun _=>eT) ?_ (hw:=(wantT F rfl rfl (by decide) rfl));clear F fa;intro fa F
     refine F.x (i:=19) rfl (fun w'=>R_pickF rfl (F.at rfl) (F.at rfl)) (fun _=>eT) ?_;clear F fa;intro fa F
     refine F.x (i:=20) rfl (fun w'=>R_move rfl (F.at rfl)) (fun _=>eT) ?_;clear F fa;intro fa F
     refine F.xr (i:=21) rfl (fun w' hS=>R_loadBlk rfl (F.at rfl) Try.underlying24 rfl (by kernel_rfl) (hS.keep q19_ (by simp))) (fun _=>eT) ?_ (hw:=(wantT F rfl rfl (by decide) rfl));clear F fa;intro fa F
     refine F.x (i:=22) rfl (fun w'=>R_move rfl (F.at rfl)) (fun _=>eT) ?_ (hw:=(wantT F rfl rfl (by decide) rfl));clear F fa;intro fa F
     refine F.x (i:=23) rfl (fun w'=>R_move rfl (F.at rfl)) (fun _=>eT) ?_ (hw:=(wantT F rfl rfl (by decide) rfl));clear F fa;intro fa F
     obtain ⟨xb35,xo35,xa35,xr35⟩:=HVS2.out i (by omega)
     refine F.x (i:=24) rfl (fun w'=>R_ixSlice (sz:=4) rfl ((F.at rfl).trans (xa35 _ _)) (F.at rfl) Try.underlying30 (by kernel_rfl) (by omega) (by omega)) (fun _=>eT) ?_ (hw:=(wantT F rfl rfl (by decide) rfl));clear F fa;intro fa F
     refine F.xr (i:=25) rfl (fun w' hS=>R_loadRow rfl (F.at rfl) Try.underlying24 rfl (by kernel_rfl) (xr35 _ (EB_.nil hS))) (fun _=>eT) ?_ (hw:=(wantT F rfl rfl (by decide) rfl));clear F fa;intro fa F
     refine ax_only (i:=26) (by kernel_rfl) (op_call F rfl rfl (by decide) (wantT F rfl rfl (by decide) rfl) (R_callV rfl rfl Try.call23 (mpS (F.at rfl) (mpS (F.at rfl) mp0))) (sameVats_yes u (vsI X i) _ (HU.out.ext EC) ((HVA2.out i (by omega)).ext EB) m1 m2 HSV.out.B HSV.out.tol HSV.out.D HSV.out.L) fun e w106 hR=>?_)
     obtain ⟨rfl,e9⟩:=hR
     refine ⟨_,rfl,?_⟩;clear F fa;intro fa F
     replace q19:=(e9).keep0 q19
     replace E:=ext_same E (e9)
     replace EB:=ext_same EB (e9)
     replace EL1:=ext_same EL1 (e9)
     replace EC:=ext_same EC (e9)
     replace EG:=ext_same EG (e9)
     replace EH:=ext_same EH (e9)
     replace ER:=ext_same ER (e9)
     replace ES:=ext_same ES (e9)
     replace eT:=ext_same eT (e9)
     clear e9
     refine ⟨fun _=>eT,?_⟩
     refine F.x (i:=27) rfl (fun w'=>R_not rfl (F.at rfl)) (fun _=>eT) ?_ (hw:=(wantT F rfl rfl (by decide) rfl));clear F fa;intro fa F
     refine F.x (i:=28) rfl (fun w'=>R_pickF rfl (F.at rfl) (F.at rfl)) (fun _=>eT) ?_;clear F fa;intro fa F
     refine F.x (i:=29) rfl (fun w'=>R_move rfl (F.at rfl)) (fun _=>eT) ?_;clear F fa;intro fa F
     refine F.x (i:=30) rfl (fun w'=>R_move rfl (F.at rfl)) (fun _=>eT) ?_ (hw:=(wantT F rfl rfl (by decide) rfl));clear F fa;intro fa F
     refine F.x (i:=31) rfl (fun w'=>R_move rfl (F.at rfl)) (fun _=>eT) ?_ (hw:=(wantT F rfl rfl (by decide) rfl));clear F fa;intro fa F
     refine F.x (i:=32) rfl (fun w'=>R_move rfl (F.at rfl)) (fun _=>eT) ?_ (hw:=(wantT F rfl rfl (by decide) rfl));clear F fa;intro fa F
     obtain ⟨xb36,xo36,xa36,xr36⟩:=hA1.out i (by omega)
     refine F.x (i:=33) rfl (fun w'=>R_ixSlice (sz:=1) rfl ((F.at rfl).trans (xa36 _ _)) (F.at rfl) Try.underlying43 (by kernel_rfl) (by omega) (by omega)) (fun _=>eT) ?_ (hw:=(wantT F rfl rfl (by decide) rfl));clear F fa;intro fa F
     refine F.xr (i:=34) rfl (fun w' hS=>R_load rfl (F.at rfl) Try.underlying22 rfl (xr36 _ (EB_.nil hS) 0 _ rfl)) (fun _=>eT) ?_ (hw:=(wantT F rfl rfl (by decide) rfl));clear F fa;intro fa F
     rw [← hm] at F
     refine ax_only (i:=35) (by kernel_rfl) (op_call F rfl rfl (by decide) (wantT F rfl rfl (by decide) rfl) (R_callV rfl rfl Try.call32 (mpS (F.at rfl) (mpS (F.at rfl) mp0))) (sameLists_yes M2 M HM2.out hst.2 hst.1 ma2 ma mc2 mc _ (HMC.out.ext EC) (HMR.out.ext EB)) fun e w107 hR=>?_)
     obtain ⟨rfl,e9⟩:=hR
     refine ⟨_,rfl,?_⟩;clear F fa;intro fa F
     replace q19:=(e9).keep0 q19
     replace E:=ext_same E (e9)
     replace EB:=ext_same EB (e9)
     replace EL1:=ext_same EL1 (e9)
     replace EC:=ext_same EC (e9)
     replace EG:=ext_same EG (e9)
     replace EH:=ext_same EH (e9)
     replace ER:=ext_same ER (e9)
     replace ES:=ext_same ES (e9)
     replace eT:=ext_same eT (e9)
     clear e9
     refine ⟨fun _=>eT,?_⟩
     refine F.x (i:=36) rfl (fun w'=>R_not rfl (F.at rfl)) (fun _=>eT) ?_ (hw:=(wantT F rfl rfl (by decide) rfl));clear F fa;intro fa F
     refine F.x (i:=37) rfl (fun w'=>R_pickF rfl (F.at rfl) (F.at rfl)) (fun _=>eT) ?_;clear F fa;intro fa F
     refine F.x (i:=38) rfl (fun w'=>R_move rfl (F.at rfl)) (fun _=>eT) ?_;clear F fa;intro fa F
     refine F.x (i:=39) rfl (fun w'=>R_move rfl (F.at rfl)) (fun _=>eT) ?_ (hw:=(wantT F rfl rfl (by decide) rfl));clear F fa;intro fa F
     refine F.x (i:=40) rfl (fun w'=>R_move rfl (F.at rfl)) (fun _=>eT) ?_ (hw:=(wantT F rfl rfl (by decide) rfl));clear F fa;intro fa F
     refine F.x (i:=41) rfl (fun w'=>R_move rfl (F.at rfl)) (fun _=>eT) ?_ (hw:=(wantT F rfl rfl (by decide) rfl));clear F fa;intro fa F
     obtain ⟨xb37,xo37,xa37,xr37⟩:=hQ1.out i (by omega)
     refine F.x (i:=42) rfl (fun w'=>R_ixSlice (sz:=1) rfl ((F.at rfl).trans (xa37 _ _)) (F.at rfl) Try.underlying22 (by kernel_rfl) (by omega) (by omega)) (fun _=>eT) ?_ (hw:=(wantT F rfl rfl (by decide) rfl));clear F fa;intro fa F
     refine F.xr (i:=43) rfl (fun w' hS=>R_load rfl (F.at rfl) Try.underlying25 rfl (xr37 _ (EB_.nil hS) 0 _ rfl)) (fun _=>eT) ?_ (hw:=(wantT F rfl rfl (by decide) rfl));clear F fa;intro fa F
     rw [hka] at F
     refine ax_only (i:=44) (by kernel_rfl) (op_call F rfl rfl (by decide) (wantT F rfl rfl (by decide) rfl) (R_callV rfl rfl Try.call22 (mpS (F.at rfl) (mpS (F.at rfl) mp0))) (sameInts_any k k ka2 ka kc2 kc _ (HK2.out.ext EC (by simp)) (HKR.out.ext EB (by simp)) (by omega) (by omega)) fun e w108 hR=>?_)
     obtain ⟨rfl,e9⟩:=hR
     refine ⟨_,rfl,?_⟩;clear F fa;intro fa F
     replace q19:=(e9).keep0 q19
     replace E:=ext_same E (e9)
     replace EB:=ext_same EB (e9)
     replace EL1:=ext_same EL1 (e9)
     replace EC:=ext_same EC (e9)
     replace EG:=ext_same EG (e9)
     replace EH:=ext_same EH (e9)
     replace ER:=ext_same ER (e9)
     replace ES:=ext_same ES (e9)
     replace eT:=ext_same eT (e9)
     clear e9
     refine ⟨fun _=>eT,?_⟩
     rw [eqb_self] at F
     refine F.x (i:=45) rfl (fun w'=>R_not rfl (F.at rfl)) (fun _=>eT) ?_ (hw:=(wantT F rfl rfl (by decide) rfl));clear F fa;intro fa F
     refine F.x (i:=46) rfl (fun w'=>R_pickF rfl (F.at rfl) (F.at rfl)) (fun _=>eT) ?_;clear F fa;intro fa F
     refine ax_done (by kernel_rfl) ?_ _
     clear eT q19_ E_ EB_ EL1_ EC_ EG_ EH_ ER_ ES_
     refine hK34 _ _ ?_
     clear hK34
     refine cd_F F rfl ?_
     refine wp_skip ?_
     refine hK18 _ _ ?_
     clear hK18
     replace F:=F.sub (.c 12 rfl (.c 15 rfl (.c 16 rfl (.c 17 rfl (.c 18 rfl .n)))))
     clear q19
     refine wp_region_lit ?_
     refine F.mv ?_;clear F fa;intro fa F
     refine F.vl (R_add rfl (F.at rfl) (ev_c fa _) (by omega) (by omega)) ?_;clear F fa;intro fa F
     refine F.as ?_;clear F fa;intro fa F
     refine wpList_nil ?_
     show _ ∧ _
     exact ⟨by omega,_,⟨rfl,EL1⟩,F.sub (.c 18 rfl (.c 12 rfl (.c 15 rfl (.c 16 rfl (.c 17 rfl .n)))))⟩
    ·skip
     refine wp_exit ?_
     refine hK14 _ _ ?_
     clear hK14
     refine wp_seq_k fun K38 hK38=>?_
     refine wp_region_lit ?_
     refine sq_call F rfl (by decide) rfl (R_callV rfl rfl Try.call12 mp0) (dyed_any _) fun e w109 hR=>?_
     obtain ⟨rfl,e9⟩:=hR
     refine ⟨_,rfl,?_⟩;clear F fa;intro fa F
     replace E:=ext_same E (e9)
     replace EB:=ext_same EB (e9)
     clear e9
     refine F.as ?_;clear F fa;intro fa F
     refine wpList_nil ?_
     refine hK38 _ _ ?_
     clear hK38
     refine wp_ret ?_
     (try simp only [Exit.inBlock,Exit.then,reduceIte])
     refine rt_v F (rs_1 F rfl rfl) ?_
     exact ⟨rfl,E⟩
 ·skip
  replace F:=F.re (k:=32) rfl (congrArg Value.bool hg1)
  refine sq_no F rfl (by decide) (wantF F rfl rfl (by decide) rfl (by decide)) ?_;clear F fa;intro fa F
  refine sq_no F rfl (by decide) (wantF F rfl rfl (by decide) rfl (by decide)) ?_;clear F fa;intro fa F
  refine sq_no F rfl (by decide) (wantF F rfl rfl (by decide) rfl (by decide)) ?_;clear F fa;intro fa F
  refine F.vl (R_pickT rfl (F.at rfl) (ev_c fa _)) ?_;clear F fa;intro fa F
  refine F.mv ?_;clear F fa;intro fa F
  refine sq_no F rfl (by decide) (wantF F rfl rfl (by decide) rfl (by decide)) ?_;clear F fa;intro fa F
  refine sq_no F rfl (by decide) (wantF F rfl rfl (by decide) rfl (by decide)) ?_;clear F fa;intro fa F
  refine F.vl (R_pickT rfl (F.at rfl) (ev_c fa _)) ?_;clear F fa;intro fa F
  refine wpList_nil ?_
  refine hK3 _ _ ?_
  clear hK3
  refine cd_T F rfl ?_
  refine wp_seq_k fun K39 hK39=>?_
  refine wp_region_lit ?_
  refine sq_call F rfl (by decide) rfl (R_callV rfl rfl Try.call12 mp0) (dyed_any _) fun e w110 hR=>?_
  obtain ⟨rfl,e9⟩:=hR
  refine ⟨_,rfl,?_⟩;clear F fa;intro fa F
  replace q5:=(e9).keep0 q5
  replace E:=ext_same E (e9)
  clear e9
  refine F.as ?_;clear F fa;intro fa F
  refine wpList_nil ?_
  refine hK39 _ _ ?_
  clear hK39
  refine wp_ret ?_
  (try simp only [Exit.inBlock,Exit.then,reduceIte])
  refine rt_v F (rs_1 F rfl rfl) ?_
  exact ⟨rfl,E⟩
end Go.Proofs.Ytdjeecgddbjbeaa
