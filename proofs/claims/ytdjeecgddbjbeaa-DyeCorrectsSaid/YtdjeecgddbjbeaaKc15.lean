/- Parts of a proof: Dcs, Dfk. No conditions. -/
import Derived.ChangeSlices
import Derived.WalkKit
import Derived.WideShapes
import Derived.Test.YtdjeecgddbjbeaaKc1
import Derived.Test.YtdjeecgddbjbeaaKc3
import Derived.Test.YtdjeecgddbjbeaaKc10
import Derived.Test.YtdjeecgddbjbeaaKc12
import Derived.Test.YtdjeecgddbjbeaaKc14
set_option linter.unusedVariables false
set_option linter.unusedSimpArgs false
namespace Go.Proofs.Ytdjeecgddbjbeaa
open Go.RowKit
theorem SameV.err {y x : Vm} (h : SameV y x) : y.err = x.err:=by rw [Vm.err,Vm.err,h.B,h.D,h.L,h.tol]
theorem SameV.rcp {y x : Vm} (h : SameV y x) (l : List Int) : rcpE y l = rcpE x l:=by rw [rcpE,rcpE,h.dl]
theorem SameV.lmpe {y x : Vm} (h : SameV y x) (l : List Int) : lmpE y l = lmpE x l:=by rw [lmpE,lmpE,h.ll]
theorem SameV.corE {y x : Vm} (h : SameV y x) (t s l : List Int) : Go.Proofs.Ytdjeecgddbjbeaa.corE y t s l = Go.Proofs.Ytdjeecgddbjbeaa.corE x t s l:=by
 unfold Go.Proofs.Ytdjeecgddbjbeaa.corE
 rw [h.err,h.rcp,h.B,h.lmpe]
theorem SameV.mat1 {y x : Vm} (h : SameV y x) (f s : Nat → Int) (ls : List Int) : matE y f s ls = matE x f s ls:=by
 rw [matE,matE]
 congr 1
 funext l
 rw [h.off,h.tol]
theorem SameV.corR {y x : Vm} (h : SameV y x) (t : List Int) (s : Nat → Int) (l : List Int) : Go.Proofs.Ytdjeecgddbjbeaa.corR y t s l = Go.Proofs.Ytdjeecgddbjbeaa.corR x t s l:=by
 have : corB y t s l = corB x t s l:=funext fun q=>by rw [corB,corB,h.mat1]
 unfold Go.Proofs.Ytdjeecgddbjbeaa.corR corO
 rw [this,h.dl]
theorem SameV.corV {y x : Vm} (h : SameV y x) (t s l : List Int) : Go.Proofs.Ytdjeecgddbjbeaa.corV y t s l = Go.Proofs.Ytdjeecgddbjbeaa.corV x t s l:=by
 unfold Go.Proofs.Ytdjeecgddbjbeaa.corV
 rw [h.corE,h.corR]
theorem xCorrect_any (x : Vm) (sd : SmallL x.D) (sl : SmallL x.L) (t : List Int) (ht : t.length ≤ 1000) (s : List Int) (hs : s.length ≤ 1000) (ls : List Int) (hl : ls.length ≤ 1000) (ta sa la : Option Addr) (tc sc lc : Nat) (w : World) (h : x.At w) (hp : IsRows w (.slice ta t.length tc) 1 (t.map intRow)) (hr : IsRows w (.slice sa s.length sc) 1 (s.map intRow)) (hq : IsRows w (.slice la ls.length lc) 1 (ls.map intRow)) :
  Calls Try.prog 20 #[.agg #[.int .i64 x.B,.slice x.da x.D.length x.dc,.slice x.la x.L.length x.lc,.int .i64 x.tol],.slice ta t.length tc,.slice sa s.length sc,.slice la ls.length lc] w (IntsPost (corV x t s ls) w):=by
 by_cases he : corE x t s ls = 0
 ·rw [corV_ok he]
  unfold corE at he
  by_cases h1 : x.err = 0
  ·rw [if_neg (by simpa using h1)] at he
   by_cases h2 : rcpE x t = 0
   ·rw [if_neg (by simpa using h2)] at he
    by_cases h3 : cntE s x.B 9 = 0
    ·rw [if_neg (by simpa using h3)] at he
     exact xCorrect_ok x (chk_vok h1) t (rcp_zero.1 h2) s (cnt_bd h3) ls (lmp_okk he) hl ta sa la tc sc lc w h hp hr hq
    ·rw [if_pos h3] at he;exact absurd he h3
   ·rw [if_pos h2] at he;exact absurd he h2
  ·rw [if_pos h1] at he;exact absurd he h1
 ·rw [corV_bad he]
  exact xCorrect_bad x sd sl t ht s hs ls hl ta sa la tc sc lc w h hp hr hq he
theorem corV_len (x : Vm) (t s l : List Int) : (corV x t s l).1.length ≤ x.D.length:=by
 unfold corV
 split
 ·simp
 ·unfold corR
  split
  ·simp
  ·simp [cutL]
theorem eqb_self (l : List Int) : decide (l = l) = true:=decide_eq_true rfl
theorem vsI_mem {X : List Vm} {i : Nat} (h : i < X.length) : vsI X i ∈ X:=getD_mem vm0 h
theorem slAt_all {b : Nat} {w : World} {a : Option Addr} {sz n : Nat} {row : Nat → List Value} (h : ∀ W,Ext [b] w W → SlAt [] W a sz n row) : SlAt [b] w a sz n row:=fun i hi=>by
 obtain ⟨c,off,h1,-⟩:=h w (Ext.refl _ _) i hi
 refine ⟨c,off,h1,fun W hW=>?_⟩
 obtain ⟨c2,off2,h3,h4⟩:=h W hW i hi
 have:=(h1 0 0).symm.trans (h3 0 0)
 simp only [Value.slice.injEq,Option.some.injEq,Addr.mk.injEq] at this
 obtain ⟨⟨rfl,rfl,-⟩,-⟩:=this
 exact h4 W (Ext.refl _ _)
theorem row_extD {w W : World} {a : Option Addr} {n c : Nat} {zs : List Int} (h : IsRow .i64 w a n c zs) (e : Ext [] w W) : IsRow .i64 W a n c zs:=by
 rcases h with h | ⟨x,rfl,hl,hm,hz,hc,hw⟩
 ·exact .inl h
 ·refine .inr ⟨x,rfl,hl,hm,hz,fun i hi=>?_,hw⟩
  have:=hc i hi
  have hb : (x.add i).block < w.heap.size:=by
   unfold World.cell? at this
   cases hq : w.heap[(x.add i).block]? with
   | none=>simp [hq] at this
   | some o=>exact (Array.getElem?_eq_some_iff.1 hq).1
  rw [e.cell hb (by simp)]
  exact this
theorem four_ex {w : World} {b : Nat} {T : TypeId} {fz : Nat × Nat} {v1 v2 v3 v4 : Value} {l1 l2 l3 l4 : List Int} (h : w.heap[b]? = some (.cells #[v1,v2,v3,v4] T fz)) (r1 : RowOf w v1 l1) (r2 : RowOf w v2 l2) (r3 : RowOf w v3 l3) (r4 : RowOf w v4 l4)
  (b1 : l1.length ≤ 20) (b2 : l2.length ≤ 20) (b3 : l3.length ≤ 20) (b4 : l4.length ≤ 20) : ∃ R : List (Value × List Int),R.length = 4 ∧ (∀ p ∈ R,p.2.length ≤ 20) ∧ LolAt w (some ⟨b,0,none⟩) R:=
 ⟨[(v1,l1),(v2,l2),(v3,l3),(v4,l4)],rfl,fun p hp=>by
  simp only [List.mem_cons,List.not_mem_nil,or_false] at hp
  rcases hp with rfl | rfl | rfl | rfl <;> assumption,lol_lit [(v1,l1),(v2,l2),(v3,l3),(v4,l4)] h fun p hp=>by
  simp only [List.mem_cons,List.not_mem_nil,or_false] at hp
  rcases hp with rfl | rfl | rfl | rfl <;> assumption⟩
set_option maxRecDepth 100000 in
set_option maxHeartbeats 8000000 in
theorem dyeCorrects_walk (x : Vm) (r s l : List Int) (ra sa la na : Option Addr) (rc sc lc nn nc : Nat) (z : List Int) (w : World) (hx : x.At w) (hr : IsRows w (.slice ra r.length rc) 1 (r.map intRow)) (hs : IsRows w (.slice sa s.length sc) 1 (s.map intRow)) (hl : IsRows w (.slice la l.length lc) 1 (l.map intRow)) (hn : IsRow .i64 w na nn nc z) :
  Calls Try.prog 3 #[.agg #[.int .i64 x.B,.slice x.da x.D.length x.dc,.slice x.la x.L.length x.lc,.int .i64 x.tol],.slice ra r.length rc,.slice sa s.length sc,.slice la l.length lc,.slice na nn nc] w fun e w'=>e = .returned (.bool true) ∧ Ext [] w w':=by
 have E : Ext [] w w:=Ext.refl _ _
 have HX:=Lib.hid hx
 have HR:=Lib.hid hr
 have HS:=Lib.hid hs
 have HL0:=Lib.hid hl
 have HN:=Lib.hid hn
 clear hx hr hs hl hn
 refine calls_has 181 Try.func3 rfl Try.ntmps3 (Nat.le_of_ble_eq_true rfl) ?_
 intro fa F
 refine wp_seq_k fun K1 hK1=>?_
 refine wp_region_lit ?_
 refine sq_new F rfl (by decide) rfl (R_box rfl (F.at rfl)) ?_;clear F fa;intro fa w1 F hw
 obtain ⟨n5,hn⟩ : ∃ n,n = w.heap.size:=⟨_,rfl⟩
 rw [← hn] at F
 have s5 : w.heap.size ≤ n5:=Nat.le_of_eq hn.symm
 have l5_E : w.heap.size ≤ n5:=by rw [hn];exact E.size
 replace E:=ext_alloc E hw
 have q5:=new_row hw hn
 clear hw hn
 refine F.vl (R_assign rfl (ev_c fa _)) ?_;clear F fa;intro fa F
 refine wpList_nil ?_
 refine hK1 _ _ ?_
 clear hK1
 refine wp_seq_k fun K2 hK2=>?_
 refine wp_seq_k fun K3 hK3=>?_
 refine wp_region_lit ?_
 refine F.vl (R_loadBlk rfl (F.at rfl) Try.underlying24 rfl (by kernel_rfl) q5) ?_;clear F fa;intro fa F
 refine sq_call F rfl (by decide) rfl (R_callV rfl rfl Try.call11 (mpS (F.at rfl) mp0)) (long_any x _ (HX.out.ext E)) fun e w2 hR=>?_
 obtain ⟨rfl,e9⟩:=hR
 refine ⟨_,rfl,?_⟩;clear F fa;intro fa F
 replace q5:=(e9).keep0 q5
 replace E:=ext_same E (e9)
 clear e9
 refine F.mv ?_;clear F fa;intro fa F
 cases hg1 : (longV x)
 ·skip
  replace F:=F.re (k:=30) rfl (congrArg Value.bool hg1)
  refine F.mv ?_ (hw:=(wantT F rfl rfl (by decide) rfl));clear F fa;intro fa F
  refine F.vl (R_len rfl rfl (F.at rfl) Try.underlying25) ?_ (hw:=(wantT F rfl rfl (by decide) rfl));clear F fa;intro fa F
  refine F.vl (R_gtr rfl (F.at rfl) (ev_c fa _)) ?_ (hw:=(wantT F rfl rfl (by decide) rfl));clear F fa;intro fa F
  refine F.vl (R_pickF rfl (F.at rfl) (F.at rfl)) ?_;clear F fa;intro fa F
  refine F.mv ?_;clear F fa;intro fa F
  by_cases hg2 : (20 < ((r.length : Nat) : Int))
  ·skip
   replace F:=F.re (k:=35) rfl (congrArg Value.bool (decide_eq_true hg2))
   refine sq_no F rfl (by decide) (wantF F rfl rfl (by decide) rfl (by decide)) ?_;clear F fa;intro fa F
   refine sq_no F rfl (by decide) (wantF F rfl rfl (by decide) rfl (by decide)) ?_;clear F fa;intro fa F
   refine sq_no F rfl (by decide) (wantF F rfl rfl (by decide) rfl (by decide)) ?_;clear F fa;intro fa F
   refine F.vl (R_pickT rfl (F.at rfl) (ev_c fa _)) ?_;clear F fa;intro fa F
   refine F.mv ?_;clear F fa;intro fa F
   refine sq_no F rfl (by decide) (wantF F rfl rfl (by decide) rfl (by decide)) ?_;clear F fa;intro fa F
   refine sq_no F rfl (by decide) (wantF F rfl rfl (by decide) rfl (by decide)) ?_;clear F fa;intro fa F
   refine sq_no F rfl (by decide) (wantF F rfl rfl (by decide) rfl (by decide)) ?_;clear F fa;intro fa F
   refine F.vl (R_pickT rfl (F.at rfl) (ev_c fa _)) ?_;clear F fa;intro fa F
   refine wpList_nil ?_
   refine hK3 _ _ ?_
   clear hK3
   refine cd_T F rfl ?_
   refine wp_seq_k fun K4 hK4=>?_
   refine wp_region_lit ?_
   refine sq_call F rfl (by decide) rfl (R_callV rfl rfl Try.call12 mp0) (dyed_any _) fun e w3 hR=>?_
   obtain ⟨rfl,e9⟩:=hR
   refine ⟨_,rfl,?_⟩;clear F fa;intro fa F
   replace q5:=(e9).keep0 q5
   replace E:=ext_same E (e9)
   clear e9
   refine F.as ?_;clear F fa;intro fa F
   refine wpList_nil ?_
   refine hK4 _ _ ?_
   clear hK4
   refine wp_ret ?_
   (try simp only [Exit.inBlock,Exit.then,reduceIte])
   refine rt_v F (rs_1 F rfl rfl) ?_
   exact ⟨rfl,E⟩
  ·skip
   replace F:=F.re (k:=35) rfl (congrArg Value.bool (decide_eq_false hg2))
   refine F.mv ?_ (hw:=(wantT F rfl rfl (by decide) rfl));clear F fa;intro fa F
   refine F.vl (R_len rfl rfl (F.at rfl) Try.underlying25) ?_ (hw:=(wantT F rfl rfl (by decide) rfl));clear F fa;intro fa F
   refine F.vl (R_gtr rfl (F.at rfl) (ev_c fa _)) ?_ (hw:=(wantT F rfl rfl (by decide) rfl));clear F fa;intro fa F
   refine F.vl (R_pickF rfl (F.at rfl) (F.at rfl)) ?_;clear F fa;intro fa F
   refine F.mv ?_;clear F fa;intro fa F
   by_cases hg3 : (20 < ((l.length : Nat) : Int))
   ·skip
    replace F:=F.re (k:=40) rfl (congrArg Value.bool (decide_eq_true hg3))
    refine sq_no F rfl (by decide) (wantF F rfl rfl (by decide) rfl (by decide)) ?_;clear F fa;intro fa F
    refine sq_no F rfl (by decide) (wantF F rfl rfl (by decide) rfl (by decide)) ?_;clear F fa;intro fa F
    refine sq_no F rfl (by decide) (wantF F rfl rfl (by decide) rfl (by decide)) ?_;clear F fa;intro fa F
    refine F.vl (R_pickT rfl (F.at rfl) (ev_c fa _)) ?_;clear F fa;intro fa F
    refine wpList_nil ?_
    refine hK3 _ _ ?_
    clear hK3
    refine cd_T F rfl ?_
    refine wp_seq_k fun K5 hK5=>?_
    refine wp_region_lit ?_
    refine sq_call F rfl (by decide) rfl (R_callV rfl rfl Try.call12 mp0) (dyed_any _) fun e w4 hR=>?_
    obtain ⟨rfl,e9⟩:=hR
    refine ⟨_,rfl,?_⟩;clear F fa;intro fa F
    replace q5:=(e9).keep0 q5
    replace E:=ext_same E (e9)
    clear e9
    refine F.as ?_;clear F fa;intro fa F
    refine wpList_nil ?_
    refine hK5 _ _ ?_
    clear hK5
    refine wp_ret ?_
    (try simp only [Exit.inBlock,Exit.then,reduceIte])
    refine rt_v F (rs_1 F rfl rfl) ?_
    exact ⟨rfl,E⟩
   ·skip
    replace F:=F.re (k:=40) rfl (congrArg Value.bool (decide_eq_false hg3))
    refine F.mv ?_ (hw:=(wantT F rfl rfl (by decide) rfl));clear F fa;intro fa F
    refine F.vl (R_len rfl rfl (F.at rfl) Try.underlying25) ?_ (hw:=(wantT F rfl rfl (by decide) rfl));clear F fa;intro fa F
    refine F.vl (R_gtr rfl (F.at rfl) (ev_c fa _)) ?_ (hw:=(wantT F rfl rfl (by decide) rfl));clear F fa;intro fa F
    refine F.vl (R_pickF rfl (F.at rfl) (F.at rfl)) ?_;clear F fa;intro fa F
    refine wpList_nil ?_
    refine hK3 _ _ ?_
    clear hK3
    refine cd_if F rfl (fun hc44=>?_) (fun hc44=>?_)
    ·skip
     refine wp_seq_k fun K6 hK6=>?_
     refine wp_region_lit ?_
     refine sq_call F rfl (by decide) rfl (R_callV rfl rfl Try.call12 mp0) (dyed_any _) fun e w5 hR=>?_
     obtain ⟨rfl,e9⟩:=hR
     refine ⟨_,rfl,?_⟩;clear F fa;intro fa F
     replace q5:=(e9).keep0 q5
     replace E:=ext_same E (e9)
     clear e9
     refine F.as ?_;clear F fa;intro fa F
     refine wpList_nil ?_
     refine hK6 _ _ ?_
     clear hK6
     refine wp_ret ?_
     (try simp only [Exit.inBlock,Exit.then,reduceIte])
     refine rt_v F (rs_1 F rfl rfl) ?_
     exact ⟨rfl,E⟩
    ·skip
     obtain ⟨⟨hD1,hD2⟩,⟨hL1,hL2⟩⟩:=longV_no (by simpa using hg1)
     have hrl : r.length ≤ 20:=by omega
     have hsl : s.length ≤ 20:=by omega
     have hll : l.length ≤ 20:=by omega
     have SD : SmallL x.D:=⟨by omega,fun p hp=>by have:=hD2 p hp;omega⟩
     have SL : SmallL x.L:=⟨by omega,fun p hp=>by have:=hL2 p hp;omega⟩
     refine wp_skip ?_
     refine hK2 _ _ ?_
     clear hK2
     refine wp_seq_k fun K7 hK7=>?_
     refine wp_region_lit ?_
     refine F.mv ?_;clear F fa;intro fa F
     have HXN:=Lib.hid (HX.out.ext E)
     have hzE:=E.size
     have hz5:=blk_lt q5
     refine sq_call F rfl (by decide) rfl (R_callV rfl rfl Try.call13 (mpS (F.at rfl) mp0)) (newLots_any _ na nn nc z (row_extD HN.out E)) fun e w6 hR=>?_
     obtain ⟨b,rfl,hbw0,hbw1,HL,e9⟩:=hR
     refine ⟨_,rfl,?_⟩;clear F fa;intro fa F
     replace q5:=(e9).keep0 q5
     replace E:=ext_same E (e9)
     clear e9
     refine F.as ?_;clear F fa;intro fa F
     refine wpList_nil ?_
     refine hK7 _ _ ?_
     clear hK7
     refine wp_seq_k fun K8 hK8=>?_
     refine wp_region_lit ?_
     refine F.vl (R_loadBlk rfl (F.at rfl) Try.underlying24 rfl (by kernel_rfl) q5) ?_;clear F fa;intro fa F
     refine F.mv ?_;clear F fa;intro fa F
     refine sq_call F rfl (by decide) rfl (R_callV rfl rfl Try.call14 (mpS (F.at rfl) (mpS (F.at rfl) mp0))) (sets_any x SD SL _ _ b _ _ HL (by omega) HXN.out) fun e w7 hR=>?_
     obtain ⟨va,y,z2,rfl,hv,hzd,hzl,hvs,HL,e9⟩:=hR
     refine ⟨_,rfl,?_⟩;clear F fa;intro fa F
     replace q5:=(e9).keep q5 (by simp;omega)
     replace E:=E.trans' e9 (fun i hi hl=>by simp only [List.mem_cons,List.not_mem_nil,or_false] at hi ⊢;omega)
     obtain ⟨X,hXe⟩ : ∃ X,X = [x,y,z2,y]:=⟨_,rfl⟩
     rw [← hXe] at hvs
     have hX4 : X.length = 4:=(by rw [hXe];rfl)
     have hX1 : vsI X 1 = y:=(by rw [hXe];rfl)
     have HV:=Lib.hid hv
     have hSm : RowKit.Hid (∀ u ∈ X,SmallL u.D ∧ SmallL u.L):=Lib.hid (fun u hu=>(by rw [hXe] at hu;simp only [List.mem_cons,List.not_mem_nil,or_false] at hu;rcases hu with rfl | rfl | rfl | rfl;(· exact ⟨SD,SL⟩);(· exact ⟨hv.sd,hv.sl⟩);(· exact ⟨hzd,hzl⟩);(· exact ⟨hv.sd,hv.sl⟩)))
     have hym : y ∈ X:=(by rw [hXe];simp)
     have HVB:=Lib.hid hvs
     have HVS:=Lib.hid (slAt_all (fun W hW=>(by have:=slAt_of_rows (hvs W hW).rows vm0;exact this)))
     obtain ⟨wV,hwV⟩ : ∃ wV,wV = w7:=⟨_,rfl⟩
     have EV : Ext [b] wV w7:=by rw [hwV];exact Ext.refl _ _
     rw [← hwV] at HVB HVS
     rw [hX4] at HVS
     clear hv hvs hXe hzd hzl
     refine F.as ?_;clear F fa;intro fa F
     refine wpList_nil ?_
     refine hK8 _ _ ?_
     clear hK8
     refine wp_seq_k fun K9 hK9=>?_
     refine region_x (Ext [b] w7) none follows fun w8 hh eh=>?_
     have q5_:=q5
     replace q5:=keep_same hh q5
     have E_:=E
     have zEw8:=E.size
     replace E:=ext_same E eh
     have EV_:=EV
     have zEVw8:=EV.size
     replace EV:=ext_same EV eh
     have zbw8:=lots_lt HL
     replace HL:=lots_ext eh HL
     have eT:=eh.mono (Y:=[b]) (by simp)
     clear hh eh
     refine F.x (i:=0) rfl (fun w'=>R_move rfl (F.at rfl)) (fun _=>eT) ?_;clear F fa;intro fa F
     refine F.x (i:=1) rfl (fun w'=>R_move rfl (F.at rfl)) (fun _=>eT) ?_;clear F fa;intro fa F
     obtain ⟨xb10,xo10,xa10,xr10⟩:=HVS.out 1 (by omega)
     refine F.x (i:=2) rfl (fun w'=>R_ixSlice (sz:=4) rfl ((F.at rfl).trans (xa10 _ _)) (ev_c fa _) Try.underlying30 (by kernel_rfl) (by omega) (by omega)) (fun _=>eT) ?_;clear F fa;intro fa F
     refine F.xr (i:=3) rfl (fun w' hS=>R_loadRow rfl (F.at rfl) Try.underlying24 rfl (by kernel_rfl) (xr10 _ (EV_.trans hS))) (fun _=>eT) ?_;clear F fa;intro fa F
     replace F:=F.re (k:=54) rfl (show Value.agg #[.int .i64 (vsI X 1).B,.slice (vsI X 1).da (vsI X 1).D.length (vsI X 1).dc,.slice (vsI X 1).la (vsI X 1).L.length (vsI X 1).lc,.int .i64 (vsI X 1).tol] = .agg #[.int .i64 y.B,.slice y.da y.D.length y.dc,.slice y.la y.L.length y.lc,.int .i64 y.tol] by rw [hX1])
     refine F.x (i:=5) rfl (fun w'=>R_move rfl (F.at rfl)) (fun _=>eT) ?_;clear F fa;intro fa F
     refine F.x (i:=6) rfl (fun w'=>R_move rfl (F.at rfl)) (fun _=>eT) ?_;clear F fa;intro fa F
     obtain ⟨xb11,xo11,xa11,xr11⟩:=HVS.out 1 (by omega)
     refine F.x (i:=7) rfl (fun w'=>R_ixSlice (sz:=4) rfl ((F.at rfl).trans (xa11 _ _)) (ev_c fa _) Try.underlying30 (by kernel_rfl) (by omega) (by omega)) (fun _=>eT) ?_;clear F fa;intro fa F
     refine F.xr (i:=8) rfl (fun w' hS=>R_loadRow rfl (F.at rfl) Try.underlying24 rfl (by kernel_rfl) (xr11 _ (EV_.trans hS))) (fun _=>eT) ?_;clear F fa;intro fa F
     replace F:=F.re (k:=59) rfl (show Value.agg #[.int .i64 (vsI X 1).B,.slice (vsI X 1).da (vsI X 1).D.length (vsI X 1).dc,.slice (vsI X 1).la (vsI X 1).L.length (vsI X 1).lc,.int .i64 (vsI X 1).tol] = .agg #[.int .i64 y.B,.slice y.da y.D.length y.dc,.slice y.la y.L.length y.lc,.int .i64 y.tol] by rw [hX1])
     refine F.x (i:=10) rfl (fun w'=>R_move rfl (F.at rfl)) (fun _=>eT) ?_;clear F fa;intro fa F
     refine F.x (i:=11) rfl (fun w'=>R_move rfl (F.at rfl)) (fun _=>eT) ?_;clear F fa;intro fa F
     obtain ⟨xb12,xo12,xa12,xr12⟩:=HVS.out 1 (by omega)
     refine F.x (i:=12) rfl (fun w'=>R_ixSlice (sz:=4) rfl ((F.at rfl).trans (xa12 _ _)) (ev_c fa _) Try.underlying30 (by kernel_rfl) (by omega) (by omega)) (fun _=>eT) ?_;clear F fa;intro fa F
     refine F.xr (i:=13) rfl (fun w' hS=>R_loadRow rfl (F.at rfl) Try.underlying24 rfl (by kernel_rfl) (xr12 _ (EV_.trans hS))) (fun _=>eT) ?_;clear F fa;intro fa F
     replace F:=F.re (k:=64) rfl (show Value.agg #[.int .i64 (vsI X 1).B,.slice (vsI X 1).da (vsI X 1).D.length (vsI X 1).dc,.slice (vsI X 1).la (vsI X 1).L.length (vsI X 1).lc,.int .i64 (vsI X 1).tol] = .agg #[.int .i64 y.B,.slice y.da y.D.length y.dc,.slice y.la y.L.length y.lc,.int .i64 y.tol] by rw [hX1])
     obtain ⟨B1,hB1⟩ : ∃ B1,B1 = w8.heap.size:=⟨_,rfl⟩
     have hb1 : b < B1:=by rw [hB1];exact lots_lt HL
     refine ax_only (i:=4) (by kernel_rfl) (op_call F rfl rfl (by decide) rfl (R_callV rfl rfl Try.call15 (mpS (F.at rfl) (mpS (F.at rfl) mp0))) (recipeOf_any y HV.out _ _ b _ _ HL (by omega)) fun e w9 hR=>?_)
     obtain ⟨oa,o,rfl,ho,oo,HL,e9⟩:=hR
     refine ⟨_,rfl,?_⟩;clear F fa;intro fa F
     replace q5:=(e9).keep q5 (by simp;omega)
     replace E:=E.trans' e9 (fun i hi hl=>by simp only [List.mem_cons,List.not_mem_nil,or_false] at hi ⊢;omega)
     replace EV:=EV.trans' e9 (fun i hi hl=>by simp only [List.mem_cons,List.not_mem_nil,or_false] at hi ⊢;omega)
     replace eT:=eT.trans' e9 (fun i hi hl=>by simp only [List.mem_cons,List.not_mem_nil,or_false] at hi ⊢;omega)
     refine ⟨fun _=>eT,?_⟩
     rw [← hB1] at oo
     obtain ⟨B2,hB2⟩ : ∃ B2,B2 = w9.heap.size:=⟨_,rfl⟩
     have hb2 : b < B2:=by rw [hB2];exact lots_lt HL
     refine ax_only (i:=9) (by kernel_rfl) (op_call F rfl rfl (by decide) rfl (R_callV rfl rfl Try.call16 (mpS (F.at rfl) (mpS (F.at rfl) mp0))) (sampleOf_any y HV.out _ _ b _ _ HL (by omega) (fun W hW=>(HVB.out W (EV.trans hW)).at_ y hym)) fun e w10 hR=>?_)
     obtain ⟨pa,pc,p,rfl,hp,po,HL,e9⟩:=hR
     refine ⟨_,rfl,?_⟩;clear F fa;intro fa F
     replace oo:=owns_ext oo (e9) (by simp;omega)
     replace q5:=(e9).keep q5 (by simp;omega)
     replace E:=E.trans' e9 (fun i hi hl=>by simp only [List.mem_cons,List.not_mem_nil,or_false] at hi ⊢;omega)
     replace EV:=EV.trans' e9 (fun i hi hl=>by simp only [List.mem_cons,List.not_mem_nil,or_false] at hi ⊢;omega)
     replace eT:=eT.trans' e9 (fun i hi hl=>by simp only [List.mem_cons,List.not_mem_nil,or_false] at hi ⊢;omega)
     refine ⟨fun _=>eT,?_⟩
     rw [← hB2] at po
     obtain ⟨B3,hB3⟩ : ∃ B3,B3 = w10.heap.size:=⟨_,rfl⟩
     have hb3 : b < B3:=by rw [hB3];exact lots_lt HL
     refine ax_only (i:=14) (by kernel_rfl) (op_call F rfl rfl (by decide) rfl (R_callV rfl rfl Try.call17 (mpS (F.at rfl) (mpS (F.at rfl) mp0))) (lampsOf_any y HV.out _ _ b _ _ HL (by omega)) fun e w11 hR=>?_)
     obtain ⟨qa,qc,q,rfl,hq,hq3,qo,HL,e9⟩:=hR
     refine ⟨_,rfl,?_⟩;clear F fa;intro fa F
     replace oo:=owns_ext oo (e9) (by simp;omega)
     replace po:=owns_ext po (e9) (by simp;omega)
     replace q5:=(e9).keep q5 (by simp;omega)
     replace E:=E.trans' e9 (fun i hi hl=>by simp only [List.mem_cons,List.not_mem_nil,or_false] at hi ⊢;omega)
     replace EV:=EV.trans' e9 (fun i hi hl=>by simp only [List.mem_cons,List.not_mem_nil,or_false] at hi ⊢;omega)
     replace eT:=eT.trans' e9 (fun i hi hl=>by simp only [List.mem_cons,List.not_mem_nil,or_false] at hi ⊢;omega)
     refine ⟨fun _=>eT,?_⟩
     rw [← hB3] at qo
     refine F.x (i:=15) rfl (fun w'=>R_assign rfl (F.at rfl)) (fun _=>eT) ?_;clear F fa;intro fa F
     refine F.x (i:=16) rfl (fun w'=>R_assign rfl (F.at rfl)) (fun _=>eT) ?_;clear F fa;intro fa F
     refine F.x (i:=17) rfl (fun w'=>R_assign rfl (F.at rfl)) (fun _=>eT) ?_;clear F fa;intro fa F
     refine ax_done (by kernel_rfl) ?_ _
     clear eT q5_ E_ EV_
     have hol:=ho.len
     have hy4:=HV.out.d4
     have hpl:=hp.1
     have hyb:=HV.out.b3
     have HO:=Lib.hid (rows_of_ivs oo hol.symm)
     have HP:=Lib.hid (rows_of_ivs po rfl)
     have HQ:=Lib.hid (rows_of_ivs qo rfl)
     have HVA:=Lib.hid (HVB.out _ EV)
     obtain ⟨wD,hwD⟩ : ∃ wD,wD = w11:=⟨_,rfl⟩
     have ED : Ext [] wD w11:=by rw [hwD];exact Ext.refl _ _
     rw [← hwD] at HO HP HQ HVA
     clear oo po qo HL EV ho hp hq HVB HVS
     have HVS:=Lib.hid (show SlAt [] wD va 4 4 (fun i=>vmC (vsI X i)) from (by have:=slAt_of_rows HVA.out.rows vm0;rw [hX4] at this;exact this))
     refine hK9 _ _ ?_
     clear hK9
     refine wp_seq_k fun K13 hK13=>?_
     refine wp_region_lit ?_
     refine F.mv ?_;clear F fa;intro fa F
     refine F.mv ?_;clear F fa;intro fa F
     refine F.mv ?_;clear F fa;intro fa F
     refine F.mv ?_;clear F fa;intro fa F
     refine sq_new F rfl (by decide) rfl (R_buildSliceV rfl (prS (F.at rfl) (prS (F.at rfl) (prS (F.at rfl) (prS (F.at rfl) pr0)))) Try.underlying22 (size:=1) (by kernel_rfl) (by decide) (by decide) Try.zeroValue25 (cells:=#[.slice ra r.length rc,.slice oa y.D.length y.D.length,.slice oa y.D.length y.D.length,.slice ra r.length rc]) (by kernel_rfl)) ?_;clear F fa;intro fa w12 F hw
     obtain ⟨n70,hn⟩ : ∃ n,n = w11.heap.size:=⟨_,rfl⟩
     rw [← hn] at F
     have s70 : w11.heap.size ≤ n70:=Nat.le_of_eq hn.symm
     have l70_E : w.heap.size ≤ n70:=by rw [hn];exact E.size
     have l70_ED : wD.heap.size ≤ n70:=by rw [hn];exact ED.size
     have m70_5 : n5 < n70:=by rw [hn];exact blk_lt q5
     replace q5:=keep_alloc hw q5
     replace E:=ext_alloc E hw
     replace ED:=ext_alloc ED hw
     have q70:=new_block hw hn
     clear hw hn
     refine F.mv ?_;clear F fa;intro fa F
     refine F.mv ?_;clear F fa;intro fa F
     refine F.mv ?_;clear F fa;intro fa F
     refine F.mv ?_;clear F fa;intro fa F
     refine sq_new F rfl (by decide) rfl (R_buildSliceV rfl (prS (F.at rfl) (prS (F.at rfl) (prS (F.at rfl) (prS (F.at rfl) pr0)))) Try.underlying22 (size:=1) (by kernel_rfl) (by decide) (by decide) Try.zeroValue25 (cells:=#[.slice sa s.length sc,.slice pa p.length pc,.slice pa p.length pc,.slice sa s.length sc]) (by kernel_rfl)) ?_;clear F fa;intro fa w13 F hw
     obtain ⟨n75,hn⟩ : ∃ n,n = w12.heap.size:=⟨_,rfl⟩
     rw [← hn] at F
     have s75 : w12.heap.size ≤ n75:=Nat.le_of_eq hn.symm
     have l75_E : w.heap.size ≤ n75:=by rw [hn];exact E.size
     have l75_ED : wD.heap.size ≤ n75:=by rw [hn];exact ED.size
     have m75_5 : n5 < n75:=by rw [hn];exact blk_lt q5
     have m75_70 : n70 < n75:=by rw [hn];exact blk_lt q70
     replace q5:=keep_alloc hw q5
     replace q70:=keep_alloc hw q70
     replace E:=ext_alloc E hw
     replace ED:=ext_alloc ED hw
     have q75:=new_block hw hn
     clear hw hn
     refine F.mv ?_;clear F fa;intro fa F
     refine F.mv ?_;clear F fa;intro fa F
     refine F.mv ?_;clear F fa;intro fa F
     refine F.mv ?_;clear F fa;intro fa F
     refine sq_new F rfl (by decide) rfl (R_buildSliceV rfl (prS (F.at rfl) (prS (F.at rfl) (prS (F.at rfl) (prS (F.at rfl) pr0)))) Try.underlying22 (size:=1) (by kernel_rfl) (by decide) (by decide) Try.zeroValue25 (cells:=#[.slice la l.length lc,.slice qa q.length qc,.slice qa q.length qc,.slice qa q.length qc]) (by kernel_rfl)) ?_;clear F fa;intro fa w14 F hw
     obtain ⟨n80,hn⟩ : ∃ n,n = w13.heap.size:=⟨_,rfl⟩
     rw [← hn] at F
     have s80 : w13.heap.size ≤ n80:=Nat.le_of_eq hn.symm
     have l80_E : w.heap.size ≤ n80:=by rw [hn];exact E.size
     have l80_ED : wD.heap.size ≤ n80:=by rw [hn];exact ED.size
     have m80_5 : n5 < n80:=by rw [hn];exact blk_lt q5
     have m80_70 : n70 < n80:=by rw [hn];exact blk_lt q70
     have m80_75 : n75 < n80:=by rw [hn];exact blk_lt q75
     replace q5:=keep_alloc hw q5
     replace q70:=keep_alloc hw q70
     replace q75:=keep_alloc hw q75
     replace E:=ext_alloc E hw
     replace ED:=ext_alloc ED hw
     have q80:=new_block hw hn
     clear hw hn
     refine F.as ?_;clear F fa;intro fa F
     refine F.as ?_;clear F fa;intro fa F
     refine F.as ?_;clear F fa;intro fa F
     refine wpList_nil ?_
     have ro : RowOf w14 (.slice oa y.D.length y.D.length) o:=⟨oa,y.D.length,(by rw [hol]),(by rw [hol];exact HO.out.ext ED (by simp))⟩
     have rp : RowOf w14 (.slice pa p.length pc) p:=⟨pa,pc,rfl,HP.out.ext ED (by simp)⟩
     have rq : RowOf w14 (.slice qa q.length qc) q:=⟨qa,qc,rfl,HQ.out.ext ED (by simp)⟩
     have rr : RowOf w14 (.slice ra r.length rc) r:=⟨ra,rc,rfl,HR.out.ext E (by simp)⟩
     have rs : RowOf w14 (.slice sa s.length sc) s:=⟨sa,sc,rfl,HS.out.ext E (by simp)⟩
     have rl : RowOf w14 (.slice la l.length lc) l:=⟨la,lc,rfl,HL0.out.ext E (by simp)⟩
     obtain ⟨R,hR4,hRs,hRA⟩:=four_ex q70 rr ro ro rr (by omega) (by omega) (by omega) (by omega)
     obtain ⟨U,hU4,hUs,hUA⟩:=four_ex q75 rs rp rp rs (by omega) (by omega) (by omega) (by omega)
     obtain ⟨Q,hQ4,hQs,hQA⟩:=four_ex q80 rl rq rq rq (by omega) (by omega) (by omega) (by omega)
     have hR1:=Lib.hid (show SlAt [] w14 (some ⟨n70,0,none⟩) 1 4 (fun i=>[(R.getD i (.bool true,[])).1]) from (by have:=hRA.1;rwa [hR4] at this))
     have hU1:=Lib.hid (show SlAt [] w14 (some ⟨n75,0,none⟩) 1 4 (fun i=>[(U.getD i (.bool true,[])).1]) from (by have:=hUA.1;rwa [hU4] at this))
     have hQ1:=Lib.hid (show SlAt [] w14 (some ⟨n80,0,none⟩) 1 4 (fun i=>[(Q.getD i (.bool true,[])).1]) from (by have:=hQA.1;rwa [hQ4] at this))
     have HRA:=Lib.hid hRA
     have HUA:=Lib.hid hUA
     have HQA:=Lib.hid hQA
     have HVA2:=Lib.hid (show ∀ k,k < 4 → (vsI X k).At w14 from fun k hk=>(vs_at HVA.out (by omega)).ext ED)
     have HVS2:=Lib.hid (slAt_ext HVS.out ED)
     obtain ⟨wB,hwB⟩ : ∃ wB,wB = w14:=⟨_,rfl⟩
     have EB : Ext [] wB w14:=by rw [hwB];exact Ext.refl _ _
     rw [← hwB] at hR1 hU1 hQ1 HRA HUA HQA HVA2 HVS2
     clear ro rp rq rr rs rl hRA hUA hQA HO HP HQ HVA HVS
     refine hK13 _ _ ?_
     clear hK13
     refine wp_seq_k fun K14 hK14=>?_
     refine wp_seq_k fun K15 hK15=>?_
     replace F:=F.sub (.c 12 rfl (.c 16 rfl (.c 17 rfl (.c 18 rfl .n))))
     clear q5
     refine wp_region_lit ?_
     refine F.vl (R_assign rfl (ev_c fa _)) ?_;clear F fa;intro fa F
     refine wpList_nil ?_
     refine hK15 _ _ ?_
     clear hK15
     refine wp_block ?_
     have F0:=F.sub (.c 12 rfl (.c 16 rfl (.c 17 rfl (.c 18 rfl .n))))
     refine lp_for F0 (4) (fun i Lv W=>Lv = [(19,.int .i64 ((i : Nat) : Int))] ∧ Ext [] w14 W) ⟨_,⟨rfl,Ext.refl _ _⟩,F.sub (.c 19 rfl (.c 12 rfl (.c 16 rfl (.c 17 rfl (.c 18 rfl .n)))))⟩ ?_
     clear F F0
     rintro i _ fa w15 hi1 ⟨rfl,EL1⟩ F
     have E:=E.nil EL1
     have EB:=EB.nil EL1
     refine wp_seq_k fun K16 hK16=>?_
     refine wp_seq_k fun K17 hK17=>?_
     refine wp_region_lit ?_
     refine F.mv ?_;clear F fa;intro fa F
     refine F.mv ?_;clear F fa;intro fa F
     refine F.vl (R_len rfl rfl (F.at rfl) Try.underlying30) ?_;clear F fa;intro fa F
     refine F.vl (R_lss rfl (F.at rfl) (F.at rfl)) ?_;clear F fa;intro fa F
     refine wpList_nil ?_
     refine hK17 _ _ ?_
     clear hK17
     refine cd_if F rfl (fun hc84=>?_) (fun hc84=>?_)
     ·skip
      refine wp_skip ?_
      refine hK16 _ _ ?_
      clear hK16
      refine wp_seq_k fun K18 hK18=>?_
      refine wp_block ?_
      refine wp_seq_k fun K19 hK19=>?_
      obtain ⟨m1,m2⟩:=hSm.out _ (vsI_mem (show i < X.length by omega))
      obtain ⟨ta,tc,hta,htr⟩:=HRA.out.2 _ (getD_mem (.bool true,[]) (show i < R.length by omega))
      obtain ⟨ua,uc,hua,hur⟩:=HUA.out.2 _ (getD_mem (.bool true,[]) (show i < U.length by omega))
      obtain ⟨ka,kc,hka,hkr⟩:=HQA.out.2 _ (getD_mem (.bool true,[]) (show i < Q.length by omega))
      have ht20:=hRs _ (getD_mem (.bool true,[]) (show i < R.length by omega))
      have hu20:=hUs _ (getD_mem (.bool true,[]) (show i < U.length by omega))
      have hk20:=hQs _ (getD_mem (.bool true,[]) (show i < Q.length by omega))
      obtain ⟨t,ht⟩ : ∃ t,t = (R.getD i (.bool true,[])).2:=⟨_,rfl⟩
      rw [← ht] at hta htr ht20
      obtain ⟨n,hn⟩ : ∃ n,n = (U.getD i (.bool true,[])).2:=⟨_,rfl⟩
      rw [← hn] at hua hur hu20
      obtain ⟨k,hk⟩ : ∃ k,k = (Q.getD i (.bool true,[])).2:=⟨_,rfl⟩
      rw [← hk] at hka hkr hk20
      have HTR:=Lib.hid htr
      have HUR:=Lib.hid hur
      have HKR:=Lib.hid hkr
      clear htr hur hkr
      suffices hcut : ∀ (n20 : Nat) (u : Vm) (ta2 ua2 ka2 : Option Addr) (tc2 uc2 kc2 : Nat) (fa : Act) (w41 : World),Has 181 [] fa [(12,.slice va 4 4),(16,.slice (some ⟨n70,0,none⟩) 4 4),(17,.slice (some ⟨n75,0,none⟩) 4 4),(18,.slice (some ⟨n80,0,none⟩) 4 4),(19,.int .i64 ((i : Nat) : Int)),(20,.pointer (some ⟨n20,0,none⟩)),(21,.slice ta2 t.length tc2),(22,.slice ua2 n.length uc2),(23,.slice ka2 k.length kc2)] → w41.heap[n20]? = some (.cells #[.int .i64 u.B,.slice u.da u.D.length u.dc,.slice u.la u.L.length u.lc,.int .i64 u.tol] 24 (0,0)) → Ext [] w w41 → Ext [] wB w41 → Ext [] w14 w41 → w.heap.size ≤ n20 → wB.heap.size ≤ n20 → w14.heap.size ≤ n20 → w41.ownsRow w.heap.size 25 1 (.slice u.da u.D.length u.dc) u.D.length (u.D.map (·.1)) → FamT w41 w.heap.size u.D → w41.ownsRow w.heap.size 25 1 (.slice u.la u.L.length u.lc) u.L.length (u.L.map (·.1)) → FamT w41 w.heap.size u.L → w41.ownsRow w.heap.size 3 1 (.slice ta2 t.length tc2) t.length (ivs t) → w41.ownsRow w.heap.size 3 1 (.slice ua2 n.length uc2) n.length (ivs n) → w41.ownsRow w.heap.size 3 1 (.slice ka2 k.length kc2) k.length (ivs k) → RowKit.Hid (SameV u (vsI X i)) → K19 fa w41 by
       refine region_x (Ext [] w15) none follows fun w16 hh eh=>?_
       have E_:=E
       have zEw16:=E.size
       replace E:=ext_same E eh
       have EB_:=EB
       have zEBw16:=EB.size
       replace EB:=ext_same EB eh
       have EL1_:=EL1
       have zEL1w16:=EL1.size
       replace EL1:=ext_same EL1 eh
       have eT:=eh
       clear hh eh
       refine F.x (i:=0) rfl (fun w'=>R_move rfl (F.at rfl)) (fun _=>eT) ?_;clear F fa;intro fa F
       refine F.x (i:=1) rfl (fun w'=>R_move rfl (F.at rfl)) (fun _=>eT) ?_;clear F fa;intro fa F
       obtain ⟨xb20,xo20,xa20,xr20⟩:=HVS2.out i (by omega)
       refine F.x (i:=2) rfl (fun w'=>R_ixSlice (sz:=4) rfl ((F.at rfl).trans (xa20 _ _)) (F.at rfl) Try.underlying30 (by kernel_rfl) (by omega) (by omega)) (fun _=>eT) ?_;clear F fa;intro fa F
       refine F.xr (i:=3) rfl (fun w' hS=>R_loadRow rfl (F.at rfl) Try.underlying24 rfl (by kernel_rfl) (xr20 _ (EB_.nil hS))) (fun _=>eT) ?_;clear F fa;intro fa F
       refine F.x (i:=5) rfl (fun w'=>R_move rfl (F.at rfl)) (fun _=>eT) ?_;clear F fa;intro fa F
       refine F.x (i:=6) rfl (fun w'=>R_move rfl (F.at rfl)) (fun _=>eT) ?_;clear F fa;intro fa F
       obtain ⟨xb21,xo21,xa21,xr21⟩:=hR1.out i (by omega)
       refine F.x (i:=7) rfl (fun w'=>R_ixSlice (sz:=1) rfl ((F.at rfl).trans (xa21 _ _)) (F.at rfl) Try.underlying22 (by kernel_rfl) (by omega) (by omega)) (fun _=>eT) ?_;clear F fa;intro fa F
       refine F.xr (i:=8) rfl (fun w' hS=>R_load rfl (F.at rfl) Try.underlying25 rfl (xr21 _ (EB_.nil hS) 0 _ rfl)) (fun _=>eT) ?_;clear F fa;intro fa F
       rw [hta] at F
       refine F.x (i:=10) rfl (fun w'=>R_move rfl (F.at rfl)) (fun _=>eT) ?_;clear F fa;intro fa F
       refine F.x (i:=11) rfl (fun w'=>R_move rfl (F.at rfl)) (fun _=>eT) ?_;clear F fa;intro fa F
       obtain ⟨xb22,xo22,xa22,xr22⟩:=hU1.out i (by omega)
       refine F.x (i:=12) rfl (fun w'=>R_ixSlice (sz:=1) rfl ((F.at rfl).trans (xa22 _ _)) (F.at rfl) Try.underlying22 (by kernel_rfl) (by omega) (by omega)) (fun _=>eT) ?_;clear F fa;intro fa F
       refine F.xr (i:=13) rfl (fun w' hS=>R_load rfl (F.at rfl) Try.underlying25 rfl (xr22 _ (EB_.nil hS) 0 _ rfl)) (fun _=>eT) ?_;clear F fa;intro fa F
       rw [hua] at F
       refine F.x (i:=15) rfl (fun w'=>R_move rfl (F.at rfl)) (fun _=>eT) ?_;clear F fa;intro fa F
       refine F.x (i:=16) rfl (fun w'=>R_move rfl (F.at rfl)) (fun _=>eT) ?_;clear F fa;intro fa F
       obtain ⟨xb23,xo23,xa23,xr23⟩:=hQ1.out i (by omega)
       refine F.x (i:=17) rfl (fun w'=>R_ixSlice (sz:=1) rfl ((F.at rfl).trans (xa23 _ _)) (F.at rfl) Try.underlying22 (by kernel_rfl) (by omega) (by omega)) (fun _=>eT) ?_;clear F fa;intro fa F
       refine F.xr (i:=18) rfl (fun w' hS=>R_load rfl (F.at rfl) Try.underlying25 rfl (xr23 _ (EB_.nil hS) 0 _ rfl)) (fun _=>eT) ?_;clear F fa;intro fa F
       rw [hka] at F
       refine ax_pair (i:=4) (j:=20) (by kernel_rfl) ?_ ?_
       ·skip
        have hle4:=E.size
        refine (op_call F rfl rfl (by decide) rfl (R_callV rfl rfl Try.call18 (mpS (F.at rfl) mp0)) (copyVat_own (vsI X i) _ ((HVA2.out i (by omega)).ext EB) m1 m2) fun e w17 hR=>?_)
        obtain ⟨u,rfl,huB,hut,huD,huL,oo1,fam1,oo2,fam2,-,e9⟩:=hR
        refine ⟨_,rfl,?_⟩;clear F fa;intro fa F
        replace E:=ext_same E (e9)
        replace EB:=ext_same EB (e9)
        replace EL1:=ext_same EL1 (e9)
        replace eT:=ext_same eT (e9)
        clear e9
        refine ⟨fun _=>eT,?_⟩
        have HSV:=Lib.hid (SameV.mk huB hut huD huL)
        replace oo1:=owns_lower (base':=w.heap.size) oo1 hle4
        replace fam1:=fam_lower fam1 hle4
        replace oo2:=owns_lower (base':=w.heap.size) oo2 hle4
        replace fam2:=fam_lower fam2 hle4
        refine ax_pair (i:=9) (j:=20) (by kernel_rfl) ?_ ?_
        ·skip
         have hle9:=E.size
         refine (op_call F rfl rfl (by decide) rfl (R_callV rfl rfl Try.call19 (mpS (F.at rfl) mp0)) (copyInts_any (w:=_) ⟨ta,tc,rfl,HTR.out.ext EB (by simp)⟩ (by omega)) fun e w18 hR=>?_)
         obtain ⟨ta2,tc2,rfl,tto,e9⟩:=hR
         refine ⟨_,rfl,?_⟩;clear F fa;intro fa F
         replace oo1:=owns_ext oo1 (e9) (by simp)
         replace fam1:=fam_lift fam1 fun _ _ _ h=>owns_ext h (e9) (by simp)
         replace oo2:=owns_ext oo2 (e9) (by simp)
         replace fam2:=fam_lift fam2 fun _ _ _ h=>owns_ext h (e9) (by simp)
         replace E:=ext_same E (e9)
         replace EB:=ext_same EB (e9)
         replace EL1:=ext_same EL1 (e9)
         replace eT:=ext_same eT (e9)
         clear e9
         refine ⟨fun _=>eT,?_⟩
         replace tto:=owns_lower (base':=w.heap.size) tto hle9
         refine ax_pair (i:=14) (j:=20) (by kernel_rfl) ?_ ?_
         ·skip
          have hle14:=E.size
          refine (op_call F rfl rfl (by decide) rfl (R_callV rfl rfl Try.call19 (mpS (F.at rfl) mp0)) (copyInts_any (w:=_) ⟨ua,uc,rfl,HUR.out.ext EB (by simp)⟩ (by omega)) fun e w19 hR=>?_)
          obtain ⟨ua2,uc2,rfl,uo,e9⟩:=hR
          refine ⟨_,rfl,?_⟩;clear F fa;intro fa F
          replace oo1:=owns_ext oo1 (e9) (by simp)
          replace fam1:=fam_lift fam1 fun _ _ _ h=>owns_ext h (e9) (by simp)
          replace oo2:=owns_ext oo2 (e9) (by simp)
          replace fam2:=fam_lift fam2 fun _ _ _ h=>owns_ext h (e9) (by simp)
          replace tto:=owns_ext tto (e9) (by simp)
          replace E:=ext_same E (e9)
          replace EB:=ext_same EB (e9)
          replace EL1:=ext_same EL1 (e9)
          replace eT:=ext_same eT (e9)
          clear e9
          refine ⟨fun _=>eT,?_⟩
          replace uo:=owns_lower (base':=w.heap.size) uo hle14
          refine ax_pair (i:=19) (j:=20) (by kernel_rfl) ?_ ?_
          ·skip
           have hle19:=E.size
           refine (op_call F rfl rfl (by decide) rfl (R_callV rfl rfl Try.call19 (mpS (F.at rfl) mp0)) (copyInts_any (w:=_) ⟨ka,kc,rfl,HKR.out.ext EB (by simp)⟩ (by omega)) fun e w20 hR=>?_)
           obtain ⟨ka2,kc2,rfl,ko,e9⟩:=hR
           refine ⟨_,rfl,?_⟩;clear F fa;intro fa F
           replace oo1:=owns_ext oo1 (e9) (by simp)
           replace fam1:=fam_lift fam1 fun _ _ _ h=>owns_ext h (e9) (by simp)
           replace oo2:=owns_ext oo2 (e9) (by simp)
           replace fam2:=fam_lift fam2 fun _ _ _ h=>owns_ext h (e9) (by simp)
           replace tto:=owns_ext tto (e9) (by simp)
           replace uo:=owns_ext uo (e9) (by simp)
           replace E:=ext_same E (e9)
           replace EB:=ext_same EB (e9)
           replace EL1:=ext_same EL1 (e9)
           replace eT:=ext_same eT (e9)
           clear e9
           refine ⟨fun _=>eT,?_⟩
           replace ko:=owns_lower (base':=w.heap.size) ko hle19
           refine ax_only (i:=20) (by kernel_rfl) (op_new F rfl rfl (by decide) rfl (R_alloc rfl Try.zeroValue24) ?_);clear F fa;intro fa w21 F hw
           obtain ⟨n20,hn⟩ : ∃ n,n = w20.heap.size:=⟨_,rfl⟩
           rw [← hn] at F
           have s20 : w20.heap.size ≤ n20:=Nat.le_of_eq hn.symm
           have l20_E : w.heap.size ≤ n20:=by rw [hn];exact E.size
           have l20_EB : wB.heap.size ≤ n20:=by rw [hn];exact EB.size
           have l20_EL1 : w14.heap.size ≤ n20:=by rw [hn];exact EL1.size
           have lT20 : w15.heap.size ≤ n20:=by rw [hn];exact eT.size
           have o20_oo1:=Lib.hid (own_ne_new oo1 hn)
           have o20_oo2:=Lib.hid (own_ne_new oo2 hn)
           have o20_tto:=Lib.hid (own_ne_new tto hn)
           have o20_uo:=Lib.hid (own_ne_new uo hn)
           have o20_ko:=Lib.hid (own_ne_new ko hn)
           replace oo1:=owns_alloc hw oo1
           replace fam1:=fam_lift fam1 fun _ _ _ h=>owns_alloc hw h
           replace oo2:=owns_alloc hw oo2
           replace fam2:=fam_lift fam2 fun _ _ _ h=>owns_alloc hw h
           replace tto:=owns_alloc hw tto
           replace uo:=owns_alloc hw uo
           replace ko:=owns_alloc hw ko
           replace E:=ext_alloc E hw
           replace EB:=ext_alloc EB hw
           replace EL1:=ext_alloc EL1 hw
           replace eT:=ext_alloc eT hw
           have q20:=new_row hw hn
           clear hw hn
           refine ⟨fun _=>eT,?_⟩
           refine ax_only (i:=21) (by kernel_rfl) (op_to rfl rfl rfl (R_storeRow rfl (F.at rfl) (F.at rfl) (by kernel_rfl) (by first | (simp [Value.oneCell'];done) | (simp [Value.oneCell',id];done)) q20 rfl) ?_);intro w22 hw
           replace oo1:=owns_cellsX hw oo1 (own_ne_type oo1 q20 (by decide))
           replace fam1:=fam_lift fam1 fun _ _ _ h=>owns_cellsX hw h (own_ne_type h q20 (by decide))
           replace oo2:=owns_cellsX hw oo2 (own_ne_type oo2 q20 (by decide))
           replace fam2:=fam_lift fam2 fun _ _ _ h=>owns_cellsX hw h (own_ne_type h q20 (by decide))
           replace tto:=owns_cellsX hw tto (own_ne_type tto q20 (by decide))
           replace uo:=owns_cellsX hw uo (own_ne_type uo q20 (by decide))
           replace ko:=owns_cellsX hw ko (own_ne_type ko q20 (by decide))
           replace q20:=put_row hw q20 rfl
           replace E:=ext_cells E hw (fun h=>by first | exact absurd h (by omega) | simp)
           replace EB:=ext_cells EB hw (fun h=>by first | exact absurd h (by omega) | simp)
           replace EL1:=ext_cells EL1 hw (fun h=>by first | exact absurd h (by omega) | simp)
           replace eT:=ext_cells eT hw (fun h=>by first | exact absurd h (by omega) | simp)
           clear hw
           refine ⟨fun _=>eT,?_⟩
           refine F.x (i:=22) rfl (fun w'=>R_assign rfl (F.at rfl)) (fun _=>eT) ?_;clear F fa;intro fa F
           refine F.x (i:=23) rfl (fun w'=>R_assign rfl (F.at rfl)) (fun _=>eT) ?_;clear F fa;intro fa F
           refine F.x (i:=24) rfl (fun w'=>R_assign rfl (F.at rfl)) (fun _=>eT) ?_;clear F fa;intro fa F
           refine ax_done (by kernel_rfl) ?_ _
           exact hcut _ _ _ _ _ _ _ _ _ _ (F.sub (.c 12 rfl (.c 16 rfl (.c 17 rfl (.c 18 rfl (.c 19 rfl (.c 20 rfl (.c 21 rfl (.c 22 rfl (.c 23 rfl .n)))))))))) q20 E EB EL1 (by omega) (by omega) (by omega) oo1 fam1 oo2 fam2 tto uo ko HSV
          ·skip
           refine (op_new F rfl rfl (by decide) rfl (R_alloc rfl Try.zeroValue24) ?_);clear F fa;intro fa w23 F hw
           obtain ⟨n20,hn⟩ : ∃ n,n = w19.heap.size:=⟨_,rfl⟩
           rw [← hn] at F
           have s20 : w19.heap.size ≤ n20:=Nat.le_of_eq hn.symm
           have l20_E : w.heap.size ≤ n20:=by rw [hn];exact E.size
           have l20_EB : wB.heap.size ≤ n20:=by rw [hn];exact EB.size
           have l20_EL1 : w14.heap.size ≤ n20:=by rw [hn];exact EL1.size
           have lT20 : w15.heap.size ≤ n20:=by rw [hn];exact eT.size
           have o20_oo1:=Lib.hid (own_ne_new oo1 hn)
           have o20_oo2:=Lib.hid (own_ne_new oo2 hn)
           have o20_tto:=Lib.hid (own_ne_new tto hn)
           have o20_uo:=Lib.hid (own_ne_new uo hn)
           replace oo1:=owns_alloc hw oo1
           replace fam1:=fam_lift fam1 fun _ _ _ h=>owns_alloc hw h
           replace oo2:=owns_alloc hw oo2
           replace fam2:=fam_lift fam2 fun _ _ _ h=>owns_alloc hw h
           replace tto:=owns_alloc hw tto
           replace uo:=owns_alloc hw uo
           replace E:=ext_alloc E hw
           replace EB:=ext_alloc EB hw
           replace EL1:=ext_alloc EL1 hw
           replace eT:=ext_alloc eT hw
           have q20:=new_row hw hn
           clear hw hn
           refine ⟨fun _=>eT,?_⟩
           have hle19:=E.size
           refine ax_only (i:=19) (by kernel_rfl) (op_call F rfl rfl (by decide) rfl (R_callV rfl rfl Try.call19 (mpS (F.at rfl) mp0)) (copyInts_any (w:=_) ⟨ka,kc,rfl,HKR.out.ext EB (by simp)⟩ (by omega)) fun e w24 hR=>?_)
           obtain ⟨ka2,kc2,rfl,ko,e9⟩:=hR
           refine ⟨_,rfl,?_⟩;clear F fa;intro fa F
           replace oo1:=owns_ext oo1 (e9) (by simp)
           replace fam1:=fam_lift fam1 fun _ _ _ h=>owns_ext h (e9) (by simp)
           replace oo2:=owns_ext oo2 (e9) (by simp)
           replace fam2:=fam_lift fam2 fun _ _ _ h=>owns_ext h (e9) (by simp)
           replace tto:=owns_ext tto (e9) (by simp)
           replace uo:=owns_ext uo (e9) (by simp)
           replace q20:=(e9).keep0 q20
           replace E:=ext_same E (e9)
           replace EB:=ext_same EB (e9)
           replace EL1:=ext_same EL1 (e9)
           replace eT:=ext_same eT (e9)
           clear e9
           refine ⟨fun _=>eT,?_⟩
           replace ko:=owns_lower (base':=w.heap.size) ko hle19
           refine ax_only (i:=21) (by kernel_rfl) (op_to rfl rfl rfl (R_storeRow rfl (F.at rfl) (F.at rfl) (by kernel_rfl) (by first | (simp [Value.oneCell'];done) | (simp [Value.oneCell',id];done)) q20 rfl) ?_);intro w25 hw
           replace oo1:=owns_cellsX hw oo1 (own_ne_type oo1 q20 (by decide))
           replace fam1:=fam_lift fam1 fun _ _ _ h=>owns_cellsX hw h (own_ne_type h q20 (by decide))
           replace oo2:=owns_cellsX hw oo2 (own_ne_type oo2 q20 (by decide))
           replace fam2:=fam_lift fam2 fun _ _ _ h=>owns_cellsX hw h (own_ne_type h q20 (by decide))
           replace tto:=owns_cellsX hw tto (own_ne_type tto q20 (by decide))
           replace uo:=owns_cellsX hw uo (own_ne_type uo q20 (by decide))
           replace ko:=owns_cellsX hw ko (own_ne_type ko q20 (by decide))
           replace q20:=put_row hw q20 rfl
           replace E:=ext_cells E hw (fun h=>by first | exact absurd h (by omega) | simp)
           replace EB:=ext_cells EB hw (fun h=>by first | exact absurd h (by omega) | simp)
           replace EL1:=ext_cells EL1 hw (fun h=>by first | exact absurd h (by omega) | simp)
           replace eT:=ext_cells eT hw (fun h=>by first | exact absurd h (by omega) | simp)
           clear hw
           refine ⟨fun _=>eT,?_⟩
           refine F.x (i:=22) rfl (fun w'=>R_assign rfl (F.at rfl)) (fun _=>eT) ?_;clear F fa;intro fa F
           refine F.x (i:=23) rfl (fun w'=>R_assign rfl (F.at rfl)) (fun _=>eT) ?_;clear F fa;intro fa F
           refine F.x (i:=24) rfl (fun w'=>R_assign rfl (F.at rfl)) (fun _=>eT) ?_;clear F fa;intro fa F
           refine ax_done (by kernel_rfl) ?_ _
           exact hcut _ _ _ _ _ _ _ _ _ _ (F.sub (.c 12 rfl (.c 16 rfl (.c 17 rfl (.c 18 rfl (.c 19 rfl (.c 20 rfl (.c 21 rfl (.c 22 rfl (.c 23 rfl .n)))))))))) q20 E EB EL1 (by omega) (by omega) (by omega) oo1 fam1 oo2 fam2 tto uo ko HSV
         ·skip
          refine (op_new F rfl rfl (by decide) rfl (R_alloc rfl Try.zeroValue24) ?_);clear F fa;intro fa w26 F hw
          obtain ⟨n20,hn⟩ : ∃ n,n = w18.heap.size:=⟨_,rfl⟩
          rw [← hn] at F
          have s20 : w18.heap.size ≤ n20:=Nat.le_of_eq hn.symm
          have l20_E : w.heap.size ≤ n20:=by rw [hn];exact E.size
          have l20_EB : wB.heap.size ≤ n20:=by rw [hn];exact EB.size
          have l20_EL1 : w14.heap.size ≤ n20:=by rw [hn];exact EL1.size
          have lT20 : w15.heap.size ≤ n20:=by rw [hn];exact eT.size
          have o20_oo1:=Lib.hid (own_ne_new oo1 hn)
          have o20_oo2:=Lib.hid (own_ne_new oo2 hn)
          have o20_tto:=Lib.hid (own_ne_new tto hn)
          replace oo1:=owns_alloc hw oo1
          replace fam1:=fam_lift fam1 fun _ _ _ h=>owns_alloc hw h
          replace oo2:=owns_alloc hw oo2
          replace fam2:=fam_lift fam2 fun _ _ _ h=>owns_alloc hw h
          replace tto:=owns_alloc hw tto
          replace E:=ext_alloc E hw
          replace EB:=ext_alloc EB hw
          replace EL1:=ext_alloc EL1 hw
          replace eT:=ext_alloc eT hw
          have q20:=new_row hw hn
          clear hw hn
          refine ⟨fun _=>eT,?_⟩
          have hle14:=E.size
          refine ax_only (i:=14) (by kernel_rfl) (op_call F rfl rfl (by decide) rfl (R_callV rfl rfl Try.call19 (mpS (F.at rfl) mp0)) (copyInts_any (w:=_) ⟨ua,uc,rfl,HUR.out.ext EB (by simp)⟩ (by omega)) fun e w27 hR=>?_)
          obtain ⟨ua2,uc2,rfl,uo,e9⟩:=hR
          refine ⟨_,rfl,?_⟩;clear F fa;intro fa F
          replace oo1:=owns_ext oo1 (e9) (by simp)
          replace fam1:=fam_lift fam1 fun _ _ _ h=>owns_ext h (e9) (by simp)
          replace oo2:=owns_ext oo2 (e9) (by simp)
          replace fam2:=fam_lift fam2 fun _ _ _ h=>owns_ext h (e9) (by simp)
          replace tto:=owns_ext tto (e9) (by simp)
          replace q20:=(e9).keep0 q20
          replace E:=ext_same E (e9)
          replace EB:=ext_same EB (e9)
          replace EL1:=ext_same EL1 (e9)
          replace eT:=ext_same eT (e9)
          clear e9
          refine ⟨fun _=>eT,?_⟩
          replace uo:=owns_lower (base':=w.heap.size) uo hle14
          have hle19:=E.size
          refine ax_only (i:=19) (by kernel_rfl) (op_call F rfl rfl (by decide) rfl (R_callV rfl rfl Try.call19 (mpS (F.at rfl) mp0)) (copyInts_any (w:=_) ⟨ka,kc,rfl,HKR.out.ext EB (by simp)⟩ (by omega)) fun e w28 hR=>?_)
          obtain ⟨ka2,kc2,rfl,ko,e9⟩:=hR
          refine ⟨_,rfl,?_⟩;clear F fa;intro fa F
          replace oo1:=owns_ext oo1 (e9) (by simp)
          replace fam1:=fam_lift fam1 fun _ _ _ h=>owns_ext h (e9) (by simp)
          replace oo2:=owns_ext oo2 (e9) (by simp)
          replace fam2:=fam_lift fam2 fun _ _ _ h=>owns_ext h (e9) (by simp)
          replace tto:=owns_ext tto (e9) (by simp)
          replace uo:=owns_ext uo (e9) (by simp)
          replace q20:=(e9).keep0 q20
          replace E:=ext_same E (e9)
          replace EB:=ext_same EB (e9)
          replace EL1:=ext_same EL1 (e9)
          replace eT:=ext_same eT (e9)
          clear e9
          refine ⟨fun _=>eT,?_⟩
          replace ko:=owns_lower (base':=w.heap.size) ko hle19
          refine ax_only (i:=21) (by kernel_rfl) (op_to rfl rfl rfl (R_storeRow rfl (F.at rfl) (F.at rfl) (by kernel_rfl) (by first | (simp [Value.oneCell'];done) | (simp [Value.oneCell',id];done)) q20 rfl) ?_);intro w29 hw
          replace oo1:=owns_cellsX hw oo1 (own_ne_type oo1 q20 (by decide))
          replace fam1:=fam_lift fam1 fun _ _ _ h=>owns_cellsX hw h (own_ne_type h q20 (by decide))
          replace oo2:=owns_cellsX hw oo2 (own_ne_type oo2 q20 (by decide))
          replace fam2:=fam_lift fam2 fun _ _ _ h=>owns_cellsX hw h (own_ne_type h q20 (by decide))
          replace tto:=owns_cellsX hw tto (own_ne_type tto q20 (by decide))
          replace uo:=owns_cellsX hw uo (own_ne_type uo q20 (by decide))
          replace ko:=owns_cellsX hw ko (own_ne_type ko q20 (by decide))
          replace q20:=put_row hw q20 rfl
          replace E:=ext_cells E hw (fun h=>by first | exact absurd h (by omega) | simp)
          replace EB:=ext_cells EB hw (fun h=>by first | exact absurd h (by omega) | simp)
          replace EL1:=ext_cells EL1 hw (fun h=>by first | exact absurd h (by omega) | simp)
          replace eT:=ext_cells eT hw (fun h=>by first | exact absurd h (by omega) | simp)
          clear hw
          refine ⟨fun _=>eT,?_⟩
          refine F.x (i:=22) rfl (fun w'=>R_assign rfl (F.at rfl)) (fun _=>eT) ?_;clear F fa;intro fa F
          refine F.x (i:=23) rfl (fun w'=>R_assign rfl (F.at rfl)) (fun _=>eT) ?_;clear F fa;intro fa F
          refine F.x (i:=24) rfl (fun w'=>R_assign rfl (F.at rfl)) (fun _=>eT) ?_;clear F fa;intro fa F
          refine ax_done (by kernel_rfl) ?_ _
          exact hcut _ _ _ _ _ _ _ _ _ _ (F.sub (.c 12 rfl (.c 16 rfl (.c 17 rfl (.c 18 rfl (.c 19 rfl (.c 20 rfl (.c 21 rfl (.c 22 rfl (.c 23 rfl .n)))))))))) q20 E EB EL1 (by omega) (by omega) (by omega) oo1 fam1 oo2 fam2 tto uo ko HSV
        ·skip
         refine (op_new F rfl rfl (by decide) rfl (R_alloc rfl Try.zeroValue24) ?_);clear F fa;intro fa w30 F hw
         obtain ⟨n20,hn⟩ : ∃ n,n = w17.heap.size:=⟨_,rfl⟩
         rw [← hn] at F
         have s20 : w17.heap.size ≤ n20:=Nat.le_of_eq hn.symm
         have l20_E : w.heap.size ≤ n20:=by rw [hn];exact E.size
         have l20_EB : wB.heap.size ≤ n20:=by rw [hn];exact EB.size
         have l20_EL1 : w14.heap.size ≤ n20:=by rw [hn];exact EL1.size
         have lT20 : w15.heap.size ≤ n20:=by rw [hn];exact eT.size
         have o20_oo1:=Lib.hid (own_ne_new oo1 hn)
         have o20_oo2:=Lib.hid (own_ne_new oo2 hn)
         replace oo1:=owns_alloc hw oo1
         replace fam1:=fam_lift fam1 fun _ _ _ h=>owns_alloc hw h
         replace oo2:=owns_alloc hw oo2
         replace fam2:=fam_lift fam2 fun _ _ _ h=>owns_alloc hw h
         replace E:=ext_alloc E hw
         replace EB:=ext_alloc EB hw
         replace EL1:=ext_alloc EL1 hw
         replace eT:=ext_alloc eT hw
         have q20:=new_row hw hn
         clear hw hn
         refine ⟨fun _=>eT,?_⟩
         have hle9:=E.size
         refine ax_only (i:=9) (by kernel_rfl) (op_call F rfl rfl (by decide) rfl (R_callV rfl rfl Try.call19 (mpS (F.at rfl) mp0)) (copyInts_any (w:=_) ⟨ta,tc,rfl,HTR.out.ext EB (by simp)⟩ (by omega)) fun e w31 hR=>?_)
         obtain ⟨ta2,tc2,rfl,tto,e9⟩:=hR
         refine ⟨_,rfl,?_⟩;clear F fa;intro fa F
         replace oo1:=owns_ext oo1 (e9) (by simp)
         replace fam1:=fam_lift fam1 fun _ _ _ h=>owns_ext h (e9) (by simp)
         replace oo2:=owns_ext oo2 (e9) (by simp)
         replace fam2:=fam_lift fam2 fun _ _ _ h=>owns_ext h (e9) (by simp)
         replace q20:=(e9).keep0 q20
         replace E:=ext_same E (e9)
         replace EB:=ext_same EB (e9)
         replace EL1:=ext_same EL1 (e9)
         replace eT:=ext_same eT (e9)
         clear e9
         refine ⟨fun _=>eT,?_⟩
         replace tto:=owns_lower (base':=w.heap.size) tto hle9
         have hle14:=E.size
         refine ax_only (i:=14) (by kernel_rfl) (op_call F rfl rfl (by decide) rfl (R_callV rfl rfl Try.call19 (mpS (F.at rfl) mp0)) (copyInts_any (w:=_) ⟨ua,uc,rfl,HUR.out.ext EB (by simp)⟩ (by omega)) fun e w32 hR=>?_)
         obtain ⟨ua2,uc2,rfl,uo,e9⟩:=hR
         refine ⟨_,rfl,?_⟩;clear F fa;intro fa F
         replace oo1:=owns_ext oo1 (e9) (by simp)
         replace fam1:=fam_lift fam1 fun _ _ _ h=>owns_ext h (e9) (by simp)
         replace oo2:=owns_ext oo2 (e9) (by simp)
         replace fam2:=fam_lift fam2 fun _ _ _ h=>owns_ext h (e9) (by simp)
         replace tto:=owns_ext tto (e9) (by simp)
         replace q20:=(e9).keep0 q20
         replace E:=ext_same E (e9)
         replace EB:=ext_same EB (e9)
         replace EL1:=ext_same EL1 (e9)
         replace eT:=ext_same eT (e9)
         clear e9
         refine ⟨fun _=>eT,?_⟩
         replace uo:=owns_lower (base':=w.heap.size) uo hle14
         have hle19:=E.size
         refine ax_only (i:=19) (by kernel_rfl) (op_call F rfl rfl (by decide) rfl (R_callV rfl rfl Try.call19 (mpS (F.at rfl) mp0)) (copyInts_any (w:=_) ⟨ka,kc,rfl,HKR.out.ext EB (by simp)⟩ (by omega)) fun e w33 hR=>?_)
         obtain ⟨ka2,kc2,rfl,ko,e9⟩:=hR
         refine ⟨_,rfl,?_⟩;clear F fa;intro fa F
         replace oo1:=owns_ext oo1 (e9) (by simp)
         replace fam1:=fam_lift fam1 fun _ _ _ h=>owns_ext h (e9) (by simp)
         replace oo2:=owns_ext oo2 (e9) (by simp)
         replace fam2:=fam_lift fam2 fun _ _ _ h=>owns_ext h (e9) (by simp)
         replace tto:=owns_ext tto (e9) (by simp)
         replace uo:=owns_ext uo (e9) (by simp)
         replace q20:=(e9).keep0 q20
         replace E:=ext_same E (e9)
         replace EB:=ext_same EB (e9)
         replace EL1:=ext_same EL1 (e9)
         replace eT:=ext_same eT (e9)
         clear e9
         refine ⟨fun _=>eT,?_⟩
         replace ko:=owns_lower (base':=w.heap.size) ko hle19
         refine ax_only (i:=21) (by kernel_rfl) (op_to rfl rfl rfl (R_storeRow rfl (F.at rfl) (F.at rfl) (by kernel_rfl) (by first | (simp [Value.oneCell'];done) | (simp [Value.oneCell',id];done)) q20 rfl) ?_);intro w34 hw
         replace oo1:=owns_cellsX hw oo1 (own_ne_type oo1 q20 (by decide))
         replace fam1:=fam_lift fam1 fun _ _ _ h=>owns_cellsX hw h (own_ne_type h q20 (by decide))
         replace oo2:=owns_cellsX hw oo2 (own_ne_type oo2 q20 (by decide))
         replace fam2:=fam_lift fam2 fun _ _ _ h=>owns_cellsX hw h (own_ne_type h q20 (by decide))
         replace tto:=owns_cellsX hw tto (own_ne_type tto q20 (by decide))
         replace uo:=owns_cellsX hw uo (own_ne_type uo q20 (by decide))
         replace ko:=owns_cellsX hw ko (own_ne_type ko q20 (by decide))
         replace q20:=put_row hw q20 rfl
         replace E:=ext_cells E hw (fun h=>by first | exact absurd h (by omega) | simp)
         replace EB:=ext_cells EB hw (fun h=>by first | exact absurd h (by omega) | simp)
         replace EL1:=ext_cells EL1 hw (fun h=>by first | exact absurd h (by omega) | simp)
         replace eT:=ext_cells eT hw (fun h=>by first | exact absurd h (by omega) | simp)
         clear hw
         refine ⟨fun _=>eT,?_⟩
         refine F.x (i:=22) rfl (fun w'=>R_assign rfl (F.at rfl)) (fun _=>eT) ?_;clear F fa;intro fa F
         refine F.x (i:=23) rfl (fun w'=>R_assign rfl (F.at rfl)) (fun _=>eT) ?_;clear F fa;intro fa F
         refine F.x (i:=24) rfl (fun w'=>R_assign rfl (F.at rfl)) (fun _=>eT) ?_;clear F fa;intro fa F
         refine ax_done (by kernel_rfl) ?_ _
         exact hcut _ _ _ _ _ _ _ _ _ _ (F.sub (.c 12 rfl (.c 16 rfl (.c 17 rfl (.c 18 rfl (.c 19 rfl (.c 20 rfl (.c 21 rfl (.c 22 rfl (.c 23 rfl .n)))))))))) q20 E EB EL1 (by omega) (by omega) (by omega) oo1 fam1 oo2 fam2 tto uo ko HSV
       ·skip
        refine (op_new F rfl rfl (by decide) rfl (R_alloc rfl Try.zeroValue24) ?_);clear F fa;intro fa w35 F hw
        obtain ⟨n20,hn⟩ : ∃ n,n = w16.heap.size:=⟨_,rfl⟩
        rw [← hn] at F
        have s20 : w16.heap.size ≤ n20:=Nat.le_of_eq hn.symm
        have l20_E : w.heap.size ≤ n20:=by rw [hn];exact E.size
        have l20_EB : wB.heap.size ≤ n20:=by rw [hn];exact EB.size
        have l20_EL1 : w14.heap.size ≤ n20:=by rw [hn];exact EL1.size
        have lT20 : w15.heap.size ≤ n20:=by rw [hn];exact eT.size
        replace E:=ext_alloc E hw
        replace EB:=ext_alloc EB hw
        replace EL1:=ext_alloc EL1 hw
        replace eT:=ext_alloc eT hw
        have q20:=new_row hw hn
        clear hw hn
        refine ⟨fun _=>eT,?_⟩
        have hle4:=E.size
        refine ax_only (i:=4) (by kernel_rfl) (op_call F rfl rfl (by decide) rfl (R_callV rfl rfl Try.call18 (mpS (F.at rfl) mp0)) (copyVat_own (vsI X i) _ ((HVA2.out i (by omega)).ext EB) m1 m2) fun e w36 hR=>?_)
        obtain ⟨u,rfl,huB,hut,huD,huL,oo1,fam1,oo2,fam2,-,e9⟩:=hR
        refine ⟨_,rfl,?_⟩;clear F fa;intro fa F
        replace q20:=(e9).keep0 q20
        replace E:=ext_same E (e9)
        replace EB:=ext_same EB (e9)
        replace EL1:=ext_same EL1 (e9)
        replace eT:=ext_same eT (e9)
        clear e9
        refine ⟨fun _=>eT,?_⟩
        have HSV:=Lib.hid (SameV.mk huB hut huD huL)
        replace oo1:=owns_lower (base':=w.heap.size) oo1 hle4
        replace fam1:=fam_lower fam1 hle4
        replace oo2:=owns_lower (base':=w.heap.size) oo2 hle4
        replace fam2:=fam_lower fam2 hle4
        have hle9:=E.size
        refine ax_only (i:=9) (by kernel_rfl) (op_call F rfl rfl (by decide) rfl (R_callV rfl rfl Try.call19 (mpS (F.at rfl) mp0)) (copyInts_any (w:=_) ⟨ta,tc,rfl,HTR.out.ext EB (by simp)⟩ (by omega)) fun e w37 hR=>?_)
        obtain ⟨ta2,tc2,rfl,tto,e9⟩:=hR
        refine ⟨_,rfl,?_⟩;clear F fa;intro fa F
        replace oo1:=owns_ext oo1 (e9) (by simp)
        replace fam1:=fam_lift fam1 fun _ _ _ h=>owns_ext h (e9) (by simp)
        replace oo2:=owns_ext oo2 (e9) (by simp)
        replace fam2:=fam_lift fam2 fun _ _ _ h=>owns_ext h (e9) (by simp)
        replace q20:=(e9).keep0 q20
        replace E:=ext_same E (e9)
        replace EB:=ext_same EB (e9)
        replace EL1:=ext_same EL1 (e9)
        replace eT:=ext_same eT (e9)
        clear e9
        refine ⟨fun _=>eT,?_⟩
        replace tto:=owns_lower (base':=w.heap.size) tto hle9
        have hle14:=E.size
        refine ax_only (i:=14) (by kernel_rfl) (op_call F rfl rfl (by decide) rfl (R_callV rfl rfl Try.call19 (mpS (F.at rfl) mp0)) (copyInts_any (w:=_) ⟨ua,uc,rfl,HUR.out.ext EB (by simp)⟩ (by omega)) fun e w38 hR=>?_)
        obtain ⟨ua2,uc2,rfl,uo,e9⟩:=hR
        refine ⟨_,rfl,?_⟩;clear F fa;intro fa F
        replace oo1:=owns_ext oo1 (e9) (by simp)
        replace fam1:=fam_lift fam1 fun _ _ _ h=>owns_ext h (e9) (by simp)
        replace oo2:=owns_ext oo2 (e9) (by simp)
        replace fam2:=fam_lift fam2 fun _ _ _ h=>owns_ext h (e9) (by simp)
        replace tto:=owns_ext tto (e9) (by simp)
        replace q20:=(e9).keep0 q20
        replace E:=ext_same E (e9)
        replace EB:=ext_same EB (e9)
        replace EL1:=ext_same EL1 (e9)
        replace eT:=ext_same eT (e9)
        clear e9
        refine ⟨fun _=>eT,?_⟩
        replace uo:=owns_lower (base':=w.heap.size) uo hle14
        have hle19:=E.size
        refine ax_only (i:=19) (by kernel_rfl) (op_call F rfl rfl (by decide) rfl (R_callV rfl rfl Try.call19 (mpS (F.at rfl) mp0)) (copyInts_any (w:=_) ⟨ka,kc,rfl,HKR.out.ext EB (by simp)⟩ (by omega)) fun e w39 hR=>?_)
        obtain ⟨ka2,kc2,rfl,ko,e9⟩:=hR
        refine ⟨_,rfl,?_⟩;clear F fa;intro fa F
        replace oo1:=owns_ext oo1 (e9) (by simp)
        replace fam1:=fam_lift fam1 fun _ _ _ h=>owns_ext h (e9) (by simp)
        replace oo2:=owns_ext oo2 (e9) (by simp)
        replace fam2:=fam_lift fam2 fun _ _ _ h=>owns_ext h (e9) (by simp)
        replace tto:=owns_ext tto (e9) (by simp)
        replace uo:=owns_ext uo (e9) (by simp)
        replace q20:=(e9).keep0 q20
        replace E:=ext_same E (e9)
        replace EB:=ext_same EB (e9)
        replace EL1:=ext_same EL1 (e9)
        replace eT:=ext_same eT (e9)
        clear e9
        refine ⟨fun _=>eT,?_⟩
        replace ko:=owns_lower (base':=w.heap.size) ko hle19
        refine ax_only (i:=21) (by kernel_rfl) (op_to rfl rfl rfl (R_storeRow rfl (F.at rfl) (F.at rfl) (by kernel_rfl) (by first | (simp [Value.oneCell'];done) | (simp [Value.oneCell',id];done)) q20 rfl) ?_);intro w40 hw
        replace oo1:=owns_cellsX hw oo1 (own_ne_type oo1 q20 (by decide))
        replace fam1:=fam_lift fam1 fun _ _ _ h=>owns_cellsX hw h (own_ne_type h q20 (by decide))
        replace oo2:=owns_cellsX hw oo2 (own_ne_type oo2 q20 (by decide))
        replace fam2:=fam_lift fam2 fun _ _ _ h=>owns_cellsX hw h (own_ne_type h q20 (by decide))
        replace tto:=owns_cellsX hw tto (own_ne_type tto q20 (by decide))
        replace uo:=owns_cellsX hw uo (own_ne_type uo q20 (by decide))
        replace ko:=owns_cellsX hw ko (own_ne_type ko q20 (by decide))
        replace q20:=put_row hw q20 rfl
        replace E:=ext_cells E hw (fun h=>by first | exact absurd h (by omega) | simp)
        replace EB:=ext_cells EB hw (fun h=>by first | exact absurd h (by omega) | simp)
        replace EL1:=ext_cells EL1 hw (fun h=>by first | exact absurd h (by omega) | simp)
        replace eT:=ext_cells eT hw (fun h=>by first | exact absurd h (by omega) | simp)
        clear hw
        refine ⟨fun _=>eT,?_⟩
        refine F.x (i:=22) rfl (fun w'=>R_assign rfl (F.at rfl)) (fun _=>eT) ?_;clear F fa;intro fa F
        refine F.x (i:=23) rfl (fun w'=>R_assign rfl (F.at rfl)) (fun _=>eT) ?_;clear F fa;intro fa F
        refine F.x (i:=24) rfl (fun w'=>R_assign rfl (F.at rfl)) (fun _=>eT) ?_;clear F fa;intro fa F
        refine ax_done (by kernel_rfl) ?_ _
        exact hcut _ _ _ _ _ _ _ _ _ _ (F.sub (.c 12 rfl (.c 16 rfl (.c 17 rfl (.c 18 rfl (.c 19 rfl (.c 20 rfl (.c 21 rfl (.c 22 rfl (.c 23 rfl .n)))))))))) q20 E EB EL1 (by omega) (by omega) (by omega) oo1 fam1 oo2 fam2 tto uo ko HSV
      clear F E EB EL1 fa
      intro n20 u ta2 ua2 ka2 tc2 uc2 kc2 fa w41 F q20 E EB EL1 l20_E l20_EB l20_EL1 oo1 fam1 oo2 fam2 tto uo ko HSV
      refine hK19 _ _ ?_
      clear hK19
      refine wp_seq_k fun K24 hK24=>?_
      have HU:=Lib.hid (show u.At w41 from ⟨lol_of_own oo1 fam1,lol_of_own oo2 fam2⟩)
      have HT2:=Lib.hid (rows_of_ivs tto rfl)
      have HU2:=Lib.hid (rows_of_ivs uo rfl)
      have HK2:=Lib.hid (rows_of_ivs ko rfl)
      obtain ⟨wC,hwC⟩ : ∃ wC,wC = w41:=⟨_,rfl⟩
      have EC : Ext [] wC w41:=by rw [hwC];exact Ext.refl _ _
      rw [← hwC] at HU HT2 HU2 HK2
      clear oo1 fam1 oo2 fam2 tto uo ko
      refine wp_region_lit ?_
      refine F.vl (R_loadBlk rfl (F.at rfl) Try.underlying24 rfl (by kernel_rfl) q20) ?_;clear F fa;intro fa F
      refine F.mv ?_;clear F fa;intro fa F
      refine F.mv ?_;clear F fa;intro fa F
      refine F.mv ?_;clear F fa;intro fa F
      obtain ⟨g,hg⟩ : ∃ g,g = corV (vsI X i) t n k:=⟨_,rfl⟩
      have hco:=xCorrect_any u (small_key m1 HSV.out.D) (small_key m2 HSV.out.L) t (by omega) n (by omega) k (by omega) ta2 ua2 ka2 tc2 uc2 kc2 w41 (HU.out.ext EC) (HT2.out.ext EC (by simp)) (HU2.out.ext EC (by simp)) (HK2.out.ext EC (by simp))
      rw [HSV.out.corV,← hg] at hco
      refine sq_call F rfl (by decide) rfl (R_callV rfl rfl Try.call20 (mpS (F.at rfl) (mpS (F.at rfl) (mpS (F.at rfl) (mpS (F.at rfl) mp0))))) (hco) fun e w42 hR=>?_
      obtain ⟨ga,gc,rfl,og,e9⟩:=hR
      refine ⟨_,rfl,?_⟩;clear F fa;intro fa F
      replace q20:=(e9).keep0 q20
      replace E:=ext_same E (e9)
      replace EB:=ext_same EB (e9)
      replace EL1:=ext_same EL1 (e9)
      replace EC:=ext_same EC (e9)
      clear e9
      have hgl : g.1.length ≤ 1000:=(by have h1:=corV_len (vsI X i) t n k;have h2:=m1.1;rw [← hg] at h1;omega)
      have HG:=Lib.hid (rows_of_ivs og rfl)
      obtain ⟨wG,hwG⟩ : ∃ wG,wG = w42:=⟨_,rfl⟩
      have EG : Ext [] wG w42:=by rw [hwG];exact Ext.refl _ _
      rw [← hwG] at HG
      clear og hco
      refine F.mv ?_;clear F fa;intro fa F
      refine F.vl (R_extract rfl (F.at rfl) (get0)) ?_;clear F fa;intro fa F
      refine F.vl (R_extract rfl (F.at rfl) (getS (get0))) ?_;clear F fa;intro fa F
      refine F.as ?_;clear F fa;intro fa F
      refine F.as ?_;clear F fa;intro fa F
      refine wpList_nil ?_
      refine hK24 _ _ ?_
      clear hK24
      refine wp_seq_k fun K25 hK25=>?_
      refine region_x (Ext [] w42) none follows fun w43 hh eh=>?_
      have q20_:=q20
      replace q20:=keep_same hh q20
      have E_:=E
      have zEw43:=E.size
      replace E:=ext_same E eh
      have EB_:=EB
      have zEBw43:=EB.size
      replace EB:=ext_same EB eh
      have EL1_:=EL1
      have zEL1w43:=EL1.size
      replace EL1:=ext_same EL1 eh
      have EC_:=EC
      have zECw43:=EC.size
      replace EC:=ext_same EC eh
      have EG_:=EG
      have zEGw43:=EG.size
      replace EG:=ext_same EG eh
      have eT:=eh
      clear hh eh
      refine F.x (i:=0) rfl (fun w'=>R_move rfl (F.at rfl)) (fun _=>eT) ?_;clear F fa;intro fa F
      refine F.x (i:=1) rfl (fun w'=>R_move rfl (F.at rfl)) (fun _=>eT) ?_;clear F fa;intro fa F
      obtain ⟨xb26,xo26,xa26,xr26⟩:=HVS2.out i (by omega)
      refine F.x (i:=2) rfl (fun w'=>R_ixSlice (sz:=4) rfl ((F.at rfl).trans (xa26 _ _)) (F.at rfl) Try.underlying30 (by kernel_rfl) (by omega) (by omega)) (fun _=>eT) ?_;clear F fa;intro fa F
      refine F.xr (i:=3) rfl (fun w' hS=>R_loadRow rfl (F.at rfl) Try.underlying24 rfl (by kernel_rfl) (xr26 _ (EB_.nil hS))) (fun _=>eT) ?_;clear F fa;intro fa F
      refine F.x (i:=4) rfl (fun w'=>R_move rfl (F.at rfl)) (fun _=>eT) ?_;clear F fa;intro fa F
      refine F.x (i:=5) rfl (fun w'=>R_move rfl (F.at rfl)) (fun _=>eT) ?_;clear F fa;intro fa F
      obtain ⟨xb27,xo27,xa27,xr27⟩:=hR1.out i (by omega)
      refine F.x (i:=6) rfl (fun w'=>R_ixSlice (sz:=1) rfl ((F.at rfl).trans (xa27 _ _)) (F.at rfl) Try.underlying22 (by kernel_rfl) (by omega) (by omega)) (fun _=>eT) ?_;clear F fa;intro fa F
      refine F.xr (i:=7) rfl (fun w' hS=>R_load rfl (F.at rfl) Try.underlying25 rfl (xr27 _ (EB_.nil hS) 0 _ rfl)) (fun _=>eT) ?_;clear F fa;intro fa F
      rw [hta] at F
      refine F.x (i:=8) rfl (fun w'=>R_move rfl (F.at rfl)) (fun _=>eT) ?_;clear F fa;intro fa F
      refine F.x (i:=9) rfl (fun w'=>R_move rfl (F.at rfl)) (fun _=>eT) ?_;clear F fa;intro fa F
      obtain ⟨xb28,xo28,xa28,xr28⟩:=hU1.out i (by omega)
      refine F.x (i:=10) rfl (fun w'=>R_ixSlice (sz:=1) rfl ((F.at rfl).trans (xa28 _ _)) (F.at rfl) Try.underlying22 (by kernel_rfl) (by omega) (by omega)) (fun _=>eT) ?_;clear F fa;intro fa F
      refine F.xr (i:=11) rfl (fun w' hS=>R_load rfl (F.at rfl) Try.underlying25 rfl (xr28 _ (EB_.nil hS) 0 _ rfl)) (fun _=>eT) ?_;clear F fa;intro fa F
      rw [hua] at F
      refine F.x (i:=12) rfl (fun w'=>R_move rfl (F.at rfl)) (fun _=>eT) ?_;clear F fa;intro fa F
      refine F.x (i:=13) rfl (fun w'=>R_move rfl (F.at rfl)) (fun _=>eT) ?_;clear F fa;intro fa F
      obtain ⟨xb29,xo29,xa29,xr29⟩:=hQ1.out i (by omega)
      refine F.x (i:=14) rfl (fun w'=>R_ixSlice (sz:=1) rfl ((F.at rfl).trans (xa29 _ _)) (F.at rfl) Try.underlying22 (by kernel_rfl) (by omega) (by omega)) (fun _=>eT) ?_;clear F fa;intro fa F
      refine F.xr (i:=15) rfl (fun w' hS=>R_load rfl (F.at rfl) Try.underlying25 rfl (xr29 _ (EB_.nil hS) 0 _ rfl)) (fun _=>eT) ?_;clear F fa;intro fa F
      rw [hka] at F
      have hdo:=dCorrect_any (vsI X i) m1 m2 t (by omega) n (by omega) k (by omega) ta ua ka tc uc kc w43 ((HVA2.out i (by omega)).ext EB) (HTR.out.ext EB (by simp)) (HUR.out.ext EB (by simp)) (HKR.out.ext EB (by simp))
      rw [← hg] at hdo
      refine ax_only (i:=16) (by kernel_rfl) (op_call F rfl rfl (by decide) rfl (R_callV rfl rfl Try.call21 (mpS (F.at rfl) (mpS (F.at rfl) (mpS (F.at rfl) (mpS (F.at rfl) mp0))))) (hdo) fun e w44 hR=>?_)
      obtain ⟨ha,hc,rfl,hh,e9⟩:=hR
      refine ⟨_,rfl,?_⟩;clear F fa;intro fa F
      replace q20:=(e9).keep0 q20
      replace E:=ext_same E (e9)
      replace EB:=ext_same EB (e9)
      replace EL1:=ext_same EL1 (e9)
      replace EC:=ext_same EC (e9)
      replace EG:=ext_same EG (e9)
      replace eT:=ext_same eT (e9)
      clear e9
      refine ⟨fun _=>eT,?_⟩
      have HH:=Lib.hid hh
      obtain ⟨wH,hwH⟩ : ∃ wH,wH = w44:=⟨_,rfl⟩
      have EH : Ext [] wH w44:=by rw [hwH];exact Ext.refl _ _
      rw [← hwH] at HH
      clear hh hdo
      refine F.x (i:=17) rfl (fun w'=>R_move rfl (F.at rfl)) (fun _=>eT) ?_;clear F fa;intro fa F
      refine F.x (i:=18) rfl (fun w'=>R_extract rfl (F.at rfl) (get0)) (fun _=>eT) ?_;clear F fa;intro fa F
      refine F.x (i:=19) rfl (fun w'=>R_extract rfl (F.at rfl) (getS (get0))) (fun _=>eT) ?_;clear F fa;intro fa F
      refine F.x (i:=20) rfl (fun w'=>R_assign rfl (F.at rfl)) (fun _=>eT) ?_;clear F fa;intro fa F
      refine F.x (i:=21) rfl (fun w'=>R_assign rfl (F.at rfl)) (fun _=>eT) ?_;clear F fa;intro fa F
      refine ax_done (by kernel_rfl) ?_ _
      clear eT q20_ E_ EB_ EL1_ EC_ EG_
      refine hK25 _ _ ?_
      clear hK25
      refine wp_seq_k fun K30 hK30=>?_
      refine region_x (Ext [] w44) none follows fun w45 hh eh=>?_
      have q20_:=q20
      replace q20:=keep_same hh q20
      have E_:=E
      have zEw45:=E.size
      replace E:=ext_same E eh
      have EB_:=EB
      have zEBw45:=EB.size
      replace EB:=ext_same EB eh
      have EL1_:=EL1
      have zEL1w45:=EL1.size
      replace EL1:=ext_same EL1 eh
      have EC_:=EC
      have zECw45:=EC.size
      replace EC:=ext_same EC eh
      have EG_:=EG
      have zEGw45:=EG.size
      replace EG:=ext_same EG eh
      have EH_:=EH
      have zEHw45:=EH.size
      replace EH:=ext_same EH eh
      have eT:=eh
      clear hh eh
      refine F.x (i:=0) rfl (fun w'=>R_move rfl (F.at rfl)) (fun _=>eT) ?_;clear F fa;intro fa F
      refine F.x (i:=1) rfl (fun w'=>R_move rfl (F.at rfl)) (fun _=>eT) ?_;clear F fa;intro fa F
      refine F.x (i:=2) rfl (fun w'=>R_neqB (b:=false) rfl (F.at rfl) (F.at rfl) (decide_eq_true ((by omega)))) (fun _=>eT) ?_;clear F fa;intro fa F
      refine F.x (i:=3) rfl (fun w'=>R_move rfl (F.at rfl)) (fun _=>eT) ?_;clear F fa;intro fa F
      refine F.x (i:=4) rfl (fun w'=>R_move rfl (F.at rfl)) (fun _=>eT) ?_ (hw:=(wantT F rfl rfl (by decide) rfl));clear F fa;intro fa F
      refine F.x (i:=5) rfl (fun w'=>R_move rfl (F.at rfl)) (fun _=>eT) ?_ (hw:=(wantT F rfl rfl (by decide) rfl));clear F fa;intro fa F
      refine ax_only (i:=6) (by kernel_rfl) (op_call F rfl rfl (by decide) (wantT F rfl rfl (by decide) rfl) (R_callV rfl rfl Try.call22 (mpS (F.at rfl) (mpS (F.at rfl) mp0))) (sameInts_any g.1 g.1 ga ha gc hc _ (HG.out.ext EG (by simp)) (HH.out.ext EH (by simp)) (by omega) (by omega)) fun e w46 hR=>?_)
      obtain ⟨rfl,e9⟩:=hR
      refine ⟨_,rfl,?_⟩;clear F fa;intro fa F
      replace q20:=(e9).keep0 q20
      replace E:=ext_same E (e9)
      replace EB:=ext_same EB (e9)
      replace EL1:=ext_same EL1 (e9)
      replace EC:=ext_same EC (e9)
      replace EG:=ext_same EG (e9)
      replace EH:=ext_same EH (e9)
      replace eT:=ext_same eT (e9)
      clear e9
      refine ⟨fun _=>eT,?_⟩
      rw [eqb_self] at F
      refine F.x (i:=7) rfl (fun w'=>R_not rfl (F.at rfl)) (fun _=>eT) ?_ (hw:=(wantT F rfl rfl (by decide) rfl));clear F fa;intro fa F
      refine F.x (i:=8) rfl (fun w'=>R_pickF rfl (F.at rfl) (F.at rfl)) (fun _=>eT) ?_;clear F fa;intro fa F
      refine F.x (i:=9) rfl (fun w'=>R_move rfl (F.at rfl)) (fun _=>eT) ?_;clear F fa;intro fa F
      refine F.xr (i:=10) rfl (fun w' hS=>R_loadBlk rfl (F.at rfl) Try.underlying24 rfl (by kernel_rfl) (hS.keep q20_ (by simp))) (fun _=>eT) ?_ (hw:=(wantT F rfl rfl (by decide) rfl));clear F fa;intro fa F
      refine F.x (i:=11) rfl (fun w'=>R_move rfl (F.at rfl)) (fun _=>eT) ?_ (hw:=(wantT F rfl rfl (by decide) rfl));clear F fa;intro fa F
      refine F.x (i:=12) rfl (fun w'=>R_move rfl (F.at rfl)) (fun _=>eT) ?_ (hw:=(wantT F rfl rfl (by decide) rfl));clear F fa;intro fa F
      obtain ⟨xb31,xo31,xa31,xr31⟩:=HVS2.out i (by omega)
      refine F.x (i:=13) rfl (fun w'=>R_ixSlice (sz:=4) rfl ((F.at rfl).trans (xa31 _ _)) (F.at rfl) Try.underlying30 (by kernel_rfl) (by omega) (by omega)) (fun _=>eT) ?_ (hw:=(wantT F rfl rfl (by decide) rfl));clear F fa;intro fa F
      refine F.xr (i:=14) rfl (fun w' hS=>R_loadRow rfl (F.at rfl) Try.underlying24 rfl (by kernel_rfl) (xr31 _ (EB_.nil hS))) (fun _=>eT) ?_ (hw:=(wantT F rfl rfl (by decide) rfl));clear F fa;intro fa F
      refine ax_only (i:=15) (by kernel_rfl) (op_call F rfl rfl (by decide) (wantT F rfl rfl (by decide) rfl) (R_callV rfl rfl Try.call23 (mpS (F.at rfl) (mpS (F.at rfl) mp0))) (sameVats_yes u (vsI X i) _ (HU.out.ext EC) ((HVA2.out i (by omega)).ext EB) m1 m2 HSV.out.B HSV.out.tol HSV.out.D HSV.out.L) fun e w47 hR=>?_)
      obtain ⟨rfl,e9⟩:=hR
      refine ⟨_,rfl,?_⟩;clear F fa;intro fa F
      replace q20:=(e9).keep0 q20
      replace E:=ext_same E (e9)
      replace EB:=ext_same EB (e9)
      replace EL1:=ext_same EL1 (e9)
      replace EC:=ext_same EC (e9)
      replace EG:=ext_same EG (e9)
      replace EH:=ext_same EH (e9)
      replace eT:=ext_same eT (e9)
      clear e9
      refine ⟨fun _=>eT,?_⟩
      refine F.x (i:=16) rfl (fun w'=>R_not rfl (F.at rfl)) (fun _=>eT) ?_ (hw:=(wantT F rfl rfl (by decide) rfl));clear F fa;intro fa F
      refine F.x (i:=17) rfl (fun w'=>R_pickF rfl (F.at rfl) (F.at rfl)) (fun _=>eT) ?_;clear F fa;intro fa F
      refine F.x (i:=18) rfl (fun w'=>R_move rfl (F.at rfl)) (fun _=>eT) ?_;clear F fa;intro fa F
      refine F.x (i:=19) rfl (fun w'=>R_move rfl (F.at rfl)) (fun _=>eT) ?_ (hw:=(wantT F rfl rfl (by decide) rfl));clear F fa;intro fa F
      refine F.x (i:=20) rfl (fun w'=>R_move rfl (F.at rfl)) (fun _=>eT) ?_ (hw:=(wantT F rfl rfl (by decide) rfl));clear F fa;intro fa F
      refine F.x (i:=21) rfl (fun w'=>R_move rfl (F.at rfl)) (fun _=>eT) ?_ (hw:=(wantT F rfl rfl (by decide) rfl));clear F fa;intro fa F
      obtain ⟨xb32,xo32,xa32,xr32⟩:=hR1.out i (by omega)
      refine F.x (i:=22) rfl (fun w'=>R_ixSlice (sz:=1) rfl ((F.at rfl).trans (xa32 _ _)) (F.at rfl) Try.underlying22 (by kernel_rfl) (by omega) (by omega)) (fun _=>eT) ?_ (hw:=(wantT F rfl rfl (by decide) rfl));clear F fa;intro fa F
      refine F.xr (i:=23) rfl (fun w' hS=>R_load rfl (F.at rfl) Try.underlying25 rfl (xr32 _ (EB_.nil hS) 0 _ rfl)) (fun _=>eT) ?_ (hw:=(wantT F rfl rfl (by decide) rfl));clear F fa;intro fa F
      rw [hta] at F
      refine ax_only (i:=24) (by kernel_rfl) (op_call F rfl rfl (by decide) (wantT F rfl rfl (by decide) rfl) (R_callV rfl rfl Try.call22 (mpS (F.at rfl) (mpS (F.at rfl) mp0))) (sameInts_any t t ta2 ta tc2 tc _ (HT2.out.ext EC (by simp)) (HTR.out.ext EB (by simp)) (by omega) (by omega)) fun e w48 hR=>?_)
      obtain ⟨rfl,e9⟩:=hR
      refine ⟨_,rfl,?_⟩;clear F fa;intro fa F
      replace q20:=(e9).keep0 q20
      replace E:=ext_same E (e9)
      replace EB:=ext_same EB (e9)
      replace EL1:=ext_same EL1 (e9)
      replace EC:=ext_same EC (e9)
      replace EG:=ext_same EG (e9)
      replace EH:=ext_same EH (e9)
      replace eT:=ext_same eT (e9)
      clear e9
      refine ⟨fun _=>eT,?_⟩
      rw [eqb_self] at F
      refine F.x (i:=25) rfl (fun w'=>R_not rfl (F.at rfl)) (fun _=>eT) ?_ (hw:=(wantT F rfl rfl (by decide) rfl));clear F fa;intro fa F
      refine F.x (i:=26) rfl (fun w'=>R_pickF rfl (F.at rfl) (F.at rfl)) (fun _=>eT) ?_;clear F fa;intro fa F
      refine F.x (i:=27) rfl (fun w'=>R_move rfl (F.at rfl)) (fun _=>eT) ?_;clear F fa;intro fa F
      refine F.x (i:=28) rfl (fun w'=>R_move rfl (F.at rfl)) (fun _=>eT) ?_ (hw:=(wantT F rfl rfl (by decide) rfl));clear F fa;intro fa F
      refine F.x (i:=29) rfl (fun w'=>R_move rfl (F.at rfl)) (fun _=>eT) ?_ (hw:=(wantT F rfl rfl (by decide) rfl));clear F fa;intro fa F
      refine F.x (i:=30) rfl (fun w'=>R_move rfl (F.at rfl)) (fun _=>eT) ?_ (hw:=(wantT F rfl rfl (by decide) rfl));clear F fa;intro fa F
      obtain ⟨xb33,xo33,xa33,xr33⟩:=hU1.out i (by omega)
      refine F.x (i:=31) rfl (fun w'=>R_ixSlice (sz:=1) rfl ((F.at rfl).trans (xa33 _ _)) (F.at rfl) Try.underlying22 (by kernel_rfl) (by omega) (by omega)) (fun _=>eT) ?_ (hw:=(wantT F rfl rfl (by decide) rfl));clear F fa;intro fa F
      refine F.xr (i:=32) rfl (fun w' hS=>R_load rfl (F.at rfl) Try.underlying25 rfl (xr33 _ (EB_.nil hS) 0 _ rfl)) (fun _=>eT) ?_ (hw:=(wantT F rfl rfl (by decide) rfl));clear F fa;intro fa F
      rw [hua] at F
      refine ax_only (i:=33) (by kernel_rfl) (op_call F rfl rfl (by decide) (wantT F rfl rfl (by decide) rfl) (R_callV rfl rfl Try.call22 (mpS (F.at rfl) (mpS (F.at rfl) mp0))) (sameInts_any n n ua2 ua uc2 uc _ (HU2.out.ext EC (by simp)) (HUR.out.ext EB (by simp)) (by omega) (by omega)) fun e w49 hR=>?_)
      obtain ⟨rfl,e9⟩:=hR
      refine ⟨_,rfl,?_⟩;clear F fa;intro fa F
      replace q20:=(e9).keep0 q20
      replace E:=ext_same E (e9)
      replace EB:=ext_same EB (e9)
      replace EL1:=ext_same EL1 (e9)
      replace EC:=ext_same EC (e9)
      replace EG:=ext_same EG (e9)
      replace EH:=ext_same EH (e9)
      replace eT:=ext_same eT (e9)
      clear e9
      refine ⟨fun _=>eT,?_⟩
      rw [eqb_self] at F
      refine F.x (i:=34) rfl (fun w'=>R_not rfl (F.at rfl)) (fun _=>eT) ?_ (hw:=(wantT F rfl rfl (by decide) rfl));clear F fa;intro fa F
      refine F.x (i:=35) rfl (fun w'=>R_pickF rfl (F.at rfl) (F.at rfl)) (fun _=>eT) ?_;clear F fa;intro fa F
      refine F.x (i:=36) rfl (fun w'=>R_move rfl (F.at rfl)) (fun _=>eT) ?_;clear F fa;intro fa F
      refine F.x (i:=37) rfl (fun w'=>R_move rfl (F.at rfl)) (fun _=>eT) ?_ (hw:=(wantT F rfl rfl (by decide) rfl));clear F fa;intro fa F
      refine F.x (i:=38) rfl (fun w'=>R_move rfl (F.at rfl)) (fun _=>eT) ?_ (hw:=(wantT F rfl rfl (by decide) rfl));clear F fa;intro fa F
      refine F.x (i:=39) rfl (fun w'=>R_move rfl (F.at rfl)) (fun _=>eT) ?_ (hw:=(wantT F rfl rfl (by decide) rfl));clear F fa;intro fa F
      obtain ⟨xb34,xo34,xa34,xr34⟩:=hQ1.out i (by omega)
      refine F.x (i:=40) rfl (fun w'=>R_ixSlice (sz:=1) rfl ((F.at rfl).trans (xa34 _ _)) (F.at rfl) Try.underlying22 (by kernel_rfl) (by omega) (by omega)) (fun _=>eT) ?_ (hw:=(wantT F rfl rfl (by decide) rfl));clear F fa;intro fa F
      refine F.xr (i:=41) rfl (fun w' hS=>R_load rfl (F.at rfl) Try.underlying25 rfl (xr34 _ (EB_.nil hS) 0 _ rfl)) (fun _=>eT) ?_ (hw:=(wantT F rfl rfl (by decide) rfl));clear F fa;intro fa F
      rw [hka] at F
      refine ax_only (i:=42) (by kernel_rfl) (op_call F rfl rfl (by decide) (wantT F rfl rfl (by decide) rfl) (R_callV rfl rfl Try.call22 (mpS (F.at rfl) (mpS (F.at rfl) mp0))) (sameInts_any k k ka2 ka kc2 kc _ (HK2.out.ext EC (by simp)) (HKR.out.ext EB (by simp)) (by omega) (by omega)) fun e w50 hR=>?_)
      obtain ⟨rfl,e9⟩:=hR
      refine ⟨_,rfl,?_⟩;clear F fa;intro fa F
      replace q20:=(e9).keep0 q20
      replace E:=ext_same E (e9)
      replace EB:=ext_same EB (e9)
      replace EL1:=ext_same EL1 (e9)
      replace EC:=ext_same EC (e9)
      replace EG:=ext_same EG (e9)
      replace EH:=ext_same EH (e9)
      replace eT:=ext_same eT (e9)
      clear e9
      refine ⟨fun _=>eT,?_⟩
      rw [eqb_self] at F
      refine F.x (i:=43) rfl (fun w'=>R_not rfl (F.at rfl)) (fun _=>eT) ?_ (hw:=(wantT F rfl rfl (by decide) rfl));clear F fa;intro fa F
      refine F.x (i:=44) rfl (fun w'=>R_pickF rfl (F.at rfl) (F.at rfl)) (fun _=>eT) ?_;clear F fa;intro fa F
      refine ax_done (by kernel_rfl) ?_ _
      clear eT q20_ E_ EB_ EL1_ EC_ EG_ EH_
      refine hK30 _ _ ?_
      clear hK30
      refine cd_F F rfl ?_
      refine wp_skip ?_
      refine hK18 _ _ ?_
      clear hK18
      replace F:=F.sub (.c 12 rfl (.c 16 rfl (.c 17 rfl (.c 18 rfl (.c 19 rfl .n)))))
      clear q20
      refine wp_region_lit ?_
      refine F.mv ?_;clear F fa;intro fa F
      refine F.vl (R_add rfl (F.at rfl) (ev_c fa _) (by omega) (by omega)) ?_;clear F fa;intro fa F
      refine F.as ?_;clear F fa;intro fa F
      refine wpList_nil ?_
      show _ ∧ _
      exact ⟨by omega,_,⟨rfl,EL1⟩,F.sub (.c 19 rfl (.c 12 rfl (.c 16 rfl (.c 17 rfl (.c 18 rfl .n)))))⟩
     ·skip
      refine wp_exit ?_
      refine hK14 _ _ ?_
      clear hK14
      refine wp_seq_k fun K35 hK35=>?_
      refine wp_region_lit ?_
      refine sq_call F rfl (by decide) rfl (R_callV rfl rfl Try.call12 mp0) (dyed_any _) fun e w51 hR=>?_
      obtain ⟨rfl,e9⟩:=hR
      refine ⟨_,rfl,?_⟩;clear F fa;intro fa F
      replace E:=ext_same E (e9)
      replace EB:=ext_same EB (e9)
      clear e9
      refine F.as ?_;clear F fa;intro fa F
      refine wpList_nil ?_
      refine hK35 _ _ ?_
      clear hK35
      refine wp_ret ?_
      (try simp only [Exit.inBlock,Exit.then,reduceIte])
      refine rt_v F (rs_1 F rfl rfl) ?_
      exact ⟨rfl,E⟩
 ·skip
  replace F:=F.re (k:=30) rfl (congrArg Value.bool hg1)
  refine sq_no F rfl (by decide) (wantF F rfl rfl (by decide) rfl (by decide)) ?_;clear F fa;intro fa F
  refine sq_no F rfl (by decide) (wantF F rfl rfl (by decide) rfl (by decide)) ?_;clear F fa;intro fa F
  refine sq_no F rfl (by decide) (wantF F rfl rfl (by decide) rfl (by decide)) ?_;clear F fa;intro fa F
  refine F.vl (R_pickT rfl (F.at rfl) (ev_c fa _)) ?_;clear F fa;intro fa F
  refine F.mv ?_;clear F fa;intro fa F
  refine sq_no F rfl (by decide) (wantF F rfl rfl (by decide) rfl (by decide)) ?_;clear F fa;intro fa F
  refine sq_no F rfl (by decide) (wantF F rfl rfl (by decide) rfl (by decide)) ?_;clear F fa;intro fa F
  refine sq_no F rfl (by decide) (wantF F rfl rfl (by decide) rfl (by decide)) ?_;clear F fa;intro fa F
  refine F.vl (R_pickT rfl (F.at rfl) (ev_c fa _)) ?_;clear F fa;intro fa F
  refine F.mv ?_;clear F fa;intro fa F
  refine sq_no F rfl (by decide) (wantF F rfl rfl (by decide) rfl (by decide)) ?_;clear F fa;intro fa F
  refine sq_no F rfl (by decide) (wantF F rfl rfl (by decide) rfl (by decide)) ?_;clear F fa;intro fa F
  refine sq_no F rfl (by decide) (wantF F rfl rfl (by decide) rfl (by decide)) ?_;clear F fa;intro fa F
  refine F.vl (R_pickT rfl (F.at rfl) (ev_c fa _)) ?_;clear F fa;intro fa F
  refine wpList_nil ?_
  refine hK3 _ _ ?_
  clear hK3
  refine cd_T F rfl ?_
  refine wp_seq_k fun K36 hK36=>?_
  refine wp_region_lit ?_
  refine sq_call F rfl (by decide) rfl (R_callV rfl rfl Try.call12 mp0) (dyed_any _) fun e w52 hR=>?_
  obtain ⟨rfl,e9⟩:=hR
  refine ⟨_,rfl,?_⟩;clear F fa;intro fa F
  replace q5:=(e9).keep0 q5
  replace E:=ext_same E (e9)
  clear e9
  refine F.as ?_;clear F fa;intro fa F
  refine wpList_nil ?_
  refine hK36 _ _ ?_
  clear hK36
  refine wp_ret ?_
  (try simp only [Exit.inBlock,Exit.then,reduceIte])
  refine rt_v F (rs_1 F rfl rfl) ?_
  exact ⟨rfl,E⟩
end Go.Proofs.Ytdjeecgddbjbeaa
namespace Go.Proofs.Ytdjeecgddbjbeaa
open Go.ChangeShapes Go.WideShapes Go.RowKit
section
variable {H : Type} {enc : TypeId × Value → H} {P : Program} {w : World}
theorem open_vals {Q : Value → Prop} {t e : TypeId} {fuel : Nat} {cs : List Value} {x : DataW H × List MemPlace} (ht : P.underlying t = some (.slice e)) (hsz : P.cellsOf e = 1)
  (hE : ∀ n v y,DataW.trod enc P w 0 (fun _=>true) true n e [v] = some y → Q v)
  (h : DataW.trod enc P w 0 (fun _=>true) true fuel t cs = some x) :
  ∃ (a : Option Addr) (c : Nat) (vs : List Value),cs = [.slice a vs.length c] ∧ (∀ v ∈ vs,Q v) ∧ IsRows w (.slice a vs.length c) 1 (vs.map fun v=>[v]):=by
 rcases DataW.trod_slice ht h with ⟨rfl,-⟩ | ⟨a,len,cap,elems,rest,n,-,rfl,-,-,-,-,hlen,hel,-,-⟩
 ·exact ⟨none,0,[],rfl,by simp,⟨none,0,rfl,by simp,fun h=>absurd rfl h⟩⟩
 have each : ∀ i,∃ v : Value,i < len → Q v ∧ w.cell? (a.add i) = some v:=by
  intro i
  by_cases hi : i < len
  ·have hq:=hel i hi
   rw [List.getElem?_eq_getElem (by omega),Option.bind_eq_some_iff] at hq
   obtain ⟨ci,h1,h2⟩:=hq
   rw [hsz] at h1
   obtain ⟨-,hl,hc⟩:=World.cells?_some h1
   match ci,hl with
   | [v],_ =>
    refine ⟨v,fun _=>⟨hE _ _ _ h2,?_⟩⟩
    have:=hc 0 (by omega)
    rw [Nat.mul_one] at this
    have h00 : (a.add i).add 0 = a.add i:=rfl
    rw [h00] at this
    simpa using this
  ·exact ⟨.bool true,fun h=>absurd h hi⟩
 obtain ⟨f,hf⟩ : ∃ f : Nat → Value,∀ i,i < len → Q (f i) ∧ w.cell? (a.add i) = some (f i):=⟨fun i=>Classical.choose (each i),fun i=>Classical.choose_spec (each i)⟩
 have hL : ((List.range len).map f).length = len:=by simp
 refine ⟨some a,cap,(List.range len).map f,by rw [hL],?_,?_⟩
 ·intro r hr
  obtain ⟨i,hi,rfl⟩:=List.mem_map.1 hr
  exact (hf i (List.mem_range.1 hi)).1
 ·refine ⟨some a,cap,by simp,?_,fun hne=>?_⟩
  ·intro r hr
   obtain ⟨r',hr',rfl⟩:=List.mem_map.1 hr
   rfl
  ·have hp : 0 < len:=by
    rcases Nat.eq_zero_or_pos len with rfl | h
    ·exact absurd rfl hne
    ·exact h
   have c0:=(hf 0 hp).2
   have ha0 : a.add 0 = a:=rfl
   rw [ha0] at c0
   obtain ⟨b,off,spot⟩:=a
   have hs : spot = none:=by
    cases spot with
    | none=>rfl
    | some k =>
     unfold World.cell? at c0
     split at c0 <;> simp at c0
   subst hs
   have hb : b < w.heap.size:=by
    unfold World.cell? at c0
    cases hq : w.heap[b]? with
    | none=>simp [hq] at c0
    | some o=>exact (Array.getElem?_eq_some_iff.1 hq).1
   refine ⟨b,off,rfl,hb,fun i j r hi hj=>?_⟩
   have hil : i < len:=by have:=(List.getElem?_eq_some_iff.1 hi).1;simpa using this
   have hr : r = [f i]:=by simpa [hil] using hi.symm
   subst hr
   have hj0 : j = 0:=by simpa using hj
   subst hj0
   have:=(hf i hil).2
   rw [add_plain] at this
   simpa using this
end
theorem vals_ints : ∀ (vs : List Value),(∀ v ∈ vs,∃ k : Int,v = .int .i64 k) → ∃ xs : List Int,xs.length = vs.length ∧ (vs.map fun v=>[v]) = xs.map intRow
 | [],_=>⟨[],rfl,rfl⟩
 | v :: vs,h=>by
  obtain ⟨xs,h1,h2⟩:=vals_ints vs fun x hx=>h x (List.mem_cons_of_mem _ hx)
  obtain ⟨k,rfl⟩:=h v (List.mem_cons_self ..)
  exact ⟨k :: xs,by simp [h1],by simp [h2,intRow]⟩
theorem vals_rows {w : World} : ∀ (vs : List Value),(∀ v ∈ vs,∃ xs : List Int,RowOf w v xs) → ∃ L : List (Value × List Int),L.length = vs.length ∧ (vs.map fun v=>[v]) = L.map (fun p=>[p.1]) ∧ ∀ p ∈ L,RowOf w p.1 p.2
 | [],_=>⟨[],rfl,rfl,by simp⟩
 | v :: vs,h=>by
  obtain ⟨L,h1,h2,h3⟩:=vals_rows vs fun x hx=>h x (List.mem_cons_of_mem _ hx)
  obtain ⟨xs,hx⟩:=h v (List.mem_cons_self ..)
  exact ⟨(v,xs) :: L,by simp [h1],by simp [h2],fun p hp=>by rcases List.mem_cons.1 hp with rfl | hp;(· exact hx);(· exact h3 p hp)⟩
theorem fk_int1 : Try.prog.cellsOf 3 = 1:=by kernel_rfl
theorem fk_sl1 : Try.prog.cellsOf 25 = 1:=by kernel_rfl
theorem fk_ll1 : Try.prog.cellsOf 22 = 1:=by kernel_rfl
section
variable {H : Type} {enc : TypeId × Value → H} {w : World}
theorem open_one (n : Nat) (c : Value) (y : DataW H × List MemPlace) (h : DataW.trod enc Try.prog w 0 (fun _=>true) true n 3 [c] = some y) : ∃ k : Int,c = .int .i64 k:=by
 obtain ⟨k,hk,-,-⟩:=DataW.trod_int Try.underlying3 h
 simp at hk
 exact ⟨k,hk⟩
theorem open_row (n : Nat) (v : Value) (y : DataW H × List MemPlace) (h : DataW.trod enc Try.prog w 0 (fun _=>true) true n 25 [v] = some y) : ∃ xs : List Int,RowOf w v xs:=by
 obtain ⟨a,c,vs,h1,h2,h3⟩:=open_vals (Q:=fun v=>∃ k : Int,v = .int .i64 k) Try.underlying25 fk_int1 open_one h
 obtain ⟨xs,hx1,hx2⟩:=vals_ints vs h2
 simp only [List.cons.injEq,and_true] at h1
 subst h1
 rw [hx2,← hx1] at h3
 exact ⟨xs,a,c,by rw [hx1],h3⟩
theorem open_lists {n : Nat} {cs : List Value} {y : DataW H × List MemPlace} (h : DataW.trod enc Try.prog w 0 (fun _=>true) true n 22 cs = some y) : ∃ (a : Option Addr) (c : Nat) (L : List (Value × List Int)),cs = [.slice a L.length c] ∧ LolAt w a L:=by
 obtain ⟨a,c,vs,h1,h2,h3⟩:=open_vals (Q:=fun v=>∃ xs : List Int,RowOf w v xs) Try.underlying22 fk_sl1 open_row h
 obtain ⟨L,hl1,hl2,hl3⟩:=vals_rows vs h2
 subst h1
 rw [hl2,← hl1] at h3
 exact ⟨a,c,L,by rw [hl1],slAt_of_rows (row:=fun p : Value × List Int=>[p.1]) h3 (.bool true,[]),hl3⟩
theorem list4 {l : List Value} (h : l.length = 4) : ∃ c0 c1 c2 c3,l = [c0,c1,c2,c3]:=by
 match l,h with
 | [c0,c1,c2,c3],_=>exact ⟨_,_,_,_,rfl⟩
theorem open_vat {n : Nat} {cs : List Value} {y : DataW H × List MemPlace} (h : DataW.trod enc Try.prog w 0 (fun _=>true) true n 24 cs = some y) :
  ∃ x : Vm,cs = [.int .i64 x.B,.slice x.da x.D.length x.dc,.slice x.la x.L.length x.lc,.int .i64 x.tol] ∧ x.At w:=by
 obtain ⟨xs,m,-,-,hl,hxl,hx⟩:=DataW.trod_struct Try.underlying24 h
 obtain ⟨c0,c1,c2,c3,rfl⟩:=list4 (hl.trans (by kernel_rfl))
 have get : ∀ i : Nat,i < 4 → ∃ y,xs[i]? = some y:=fun i hi=>⟨_,List.getElem?_eq_getElem (by rw [hxl];exact hi)⟩
 obtain ⟨y0,e0⟩:=get 0 (by omega)
 obtain ⟨y1,e1⟩:=get 1 (by omega)
 obtain ⟨y2,e2⟩:=get 2 (by omega)
 obtain ⟨y3,e3⟩:=get 3 (by omega)
 have u0 : DataW.trod enc Try.prog w 0 (fun _=>true) true m 3 (([c0,c1,c2,c3].drop 0).take (Try.prog.cellsOf 3)) = some y0:=(hx 0 _ rfl).trans e0
 have u1 : DataW.trod enc Try.prog w 0 (fun _=>true) true m 22 (([c0,c1,c2,c3].drop 1).take (Try.prog.cellsOf 22)) = some y1:=(hx 1 _ rfl).trans e1
 have u2 : DataW.trod enc Try.prog w 0 (fun _=>true) true m 22 (([c0,c1,c2,c3].drop 2).take (Try.prog.cellsOf 22)) = some y2:=(hx 2 _ rfl).trans e2
 have u3 : DataW.trod enc Try.prog w 0 (fun _=>true) true m 3 (([c0,c1,c2,c3].drop 3).take (Try.prog.cellsOf 3)) = some y3:=(hx 3 _ rfl).trans e3
 simp only [fk_int1,fk_ll1,List.drop_succ_cons,List.drop_zero,List.take_succ_cons,List.take_zero] at u0 u1 u2 u3
 obtain ⟨B,rfl⟩:=open_one _ _ _ u0
 obtain ⟨T,rfl⟩:=open_one _ _ _ u3
 obtain ⟨a,c,D,hD,hA⟩:=open_lists u1
 obtain ⟨a',c',L,hL,hB⟩:=open_lists u2
 simp only [List.cons.injEq,and_true] at hD hL
 subst hD hL
 exact ⟨⟨B,D,a,c,L,a',c',T⟩,rfl,⟨hA,hB⟩⟩
end
end Go.Proofs.Ytdjeecgddbjbeaa
