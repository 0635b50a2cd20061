/- Parts of a proof: Dzu, Dfk. No conditions. -/
import Derived.ChangeSlices
import Derived.WalkKit
import Derived.WideShapes
import Derived.Test.YtdjeecgddbjbeaaGreatKr1
import Derived.Test.YtdjeecgddbjbeaaGreatKr3
import Derived.Test.YtdjeecgddbjbeaaGreatKr8
import Derived.Test.YtdjeecgddbjbeaaGreatKr16
set_option linter.unusedVariables false
set_option linter.unusedSimpArgs false
namespace Go.Proofs.YtdjeecgddbjbeaaGreat
open Go.RowKit MI
theorem SameV.err {y x : Vm} (h : SameV y x) : y.err = x.err:=by rw [Vm.err,Vm.err,h.B,h.D,h.L,h.tol]
theorem SameV.lmpe {y x : Vm} (h : SameV y x) (l : List Int) : lmpE y l = lmpE x l:=by rw [lmpE,lmpE,h.ll]
theorem eqb_self (l : List Int) : decide (l = l) = true:=decide_eq_true rfl
theorem vsI_mem {X : List Vm} {i : Nat} (h : i < X.length) : vsI X i ∈ X:=getD_mem vm0 h
theorem slAt_all {b : Nat} {w : World} {a : Option Addr} {sz n : Nat} {row : Nat → List Value} (h : ∀ W,Ext [b] w W → SlAt [] W a sz n row) : SlAt [b] w a sz n row:=fun i hi=>by
 obtain ⟨c,off,h1,-⟩:=h w (Ext.refl _ _) i hi
 refine ⟨c,off,h1,fun W hW=>?_⟩
 obtain ⟨c2,off2,h3,h4⟩:=h W hW i hi
 have:=(h1 0 0).symm.trans (h3 0 0)
 simp only [Value.slice.injEq,Option.some.injEq,Addr.mk.injEq] at this
 obtain ⟨⟨rfl,rfl,-⟩,-⟩:=this
 exact h4 W (Ext.refl _ _)
theorem row_extD {w W : World} {a : Option Addr} {n c : Nat} {zs : List Int} (h : IsRow .i64 w a n c zs) (e : Ext [] w W) : IsRow .i64 W a n c zs:=by
 rcases h with h | ⟨x,rfl,hl,hm,hz,hc,hw⟩
 ·exact .inl h
 ·refine .inr ⟨x,rfl,hl,hm,hz,fun i hi=>?_,hw⟩
  have:=hc i hi
  have hb : (x.add i).block < w.heap.size:=by
   unfold World.cell? at this
   cases hq : w.heap[(x.add i).block]? with
   | none=>simp [hq] at this
   | some o=>exact (Array.getElem?_eq_some_iff.1 hq).1
  rw [e.cell hb (by simp)]
  exact this
theorem four_ex {w : World} {b : Nat} {T : TypeId} {fz : Nat × Nat} {v1 v2 v3 v4 : Value} {l1 l2 l3 l4 : List Int} (h : w.heap[b]? = some (.cells #[v1,v2,v3,v4] T fz)) (r1 : RowOf w v1 l1) (r2 : RowOf w v2 l2) (r3 : RowOf w v3 l3) (r4 : RowOf w v4 l4)
  (b1 : l1.length ≤ 20) (b2 : l2.length ≤ 20) (b3 : l3.length ≤ 20) (b4 : l4.length ≤ 20) : ∃ R : List (Value × List Int),R.length = 4 ∧ (∀ p ∈ R,p.2.length ≤ 20) ∧ LolAt w (some ⟨b,0,none⟩) R:=
 ⟨[(v1,l1),(v2,l2),(v3,l3),(v4,l4)],rfl,fun p hp=>by
  simp only [List.mem_cons,List.not_mem_nil,or_false] at hp
  rcases hp with rfl | rfl | rfl | rfl <;> assumption,lol_lit [(v1,l1),(v2,l2),(v3,l3),(v4,l4)] h fun p hp=>by
  simp only [List.mem_cons,List.not_mem_nil,or_false] at hp
  rcases hp with rfl | rfl | rfl | rfl <;> assumption⟩
theorem SameV.ask {y x : Vm} (h : SameV y x) (s l : List Int) : askE y s l = askE x s l:=by
 unfold askE
 rw [h.err,h.B,h.lmpe]
theorem SameV.rcsV {y x : Vm} (h : SameV y x) (s l : List Int) : Go.Proofs.YtdjeecgddbjbeaaGreat.rcsV y s l = Go.Proofs.YtdjeecgddbjbeaaGreat.rcsV x s l:=by
 unfold Go.Proofs.YtdjeecgddbjbeaaGreat.rcsV
 rw [h.ask,h.mat]
theorem SameV.fewV {y x : Vm} (h : SameV y x) (s l : List Int) : Go.Proofs.YtdjeecgddbjbeaaGreat.fewV y s l = Go.Proofs.YtdjeecgddbjbeaaGreat.fewV x s l:=by
 unfold Go.Proofs.YtdjeecgddbjbeaaGreat.fewV fewR
 rw [h.ask,h.mat,h.dl]
theorem SameV.spaV {y x : Vm} (h : SameV y x) (s l : List Int) : Go.Proofs.YtdjeecgddbjbeaaGreat.spaV y s l = Go.Proofs.YtdjeecgddbjbeaaGreat.spaV x s l:=by
 unfold Go.Proofs.YtdjeecgddbjbeaaGreat.spaV spaR
 rw [h.ask,h.mat,h.dl]
theorem SameV.nedV {y x : Vm} (h : SameV y x) (s l : List Int) : Go.Proofs.YtdjeecgddbjbeaaGreat.nedV y s l = Go.Proofs.YtdjeecgddbjbeaaGreat.nedV x s l:=by
 have : (fun k : Nat=>decide (matL (y.tolN ((k : Nat) : Int)) (val s) l ≠ [])) = fun k : Nat=>decide (matL (x.tolN ((k : Nat) : Int)) (val s) l ≠ []):=funext fun k=>by rw [(h.tolN _).mat]
 unfold Go.Proofs.YtdjeecgddbjbeaaGreat.nedV nedR
 rw [h.ask,this]
theorem rcs_small (x : Vm) (s l : List Int) : (rcsV x s l).1.length ≤ 1000 ∧ ∀ t ∈ (rcsV x s l).1,t.length ≤ 1000:=by
 unfold rcsV
 split
 ·exact ⟨by simp,fun t ht=>absurd ht (by simp)⟩
 ·rename_i h
  obtain ⟨hv,-,-⟩:=ask_okk (Classical.not_not.1 h)
  exact ⟨by have:=mat_len (x:=x) hv (s:=val s) (ls:=l);simp only;omega,fun t ht=>by have:=(mat_bd hv ht).1;have:=hv.d4;omega⟩
theorem few_len (x : Vm) (s l : List Int) : (fewV x s l).1.length ≤ x.D.length:=by
 unfold fewV
 split
 ·simp
 ·unfold fewR
  split
  ·simp
  ·rw [cutL_len];exact Nat.le_refl _
theorem spa_len (x : Vm) (s l : List Int) : (spaV x s l).1.length ≤ x.D.length:=by
 unfold spaV
 split
 ·simp
 ·unfold spaR
  split
  ·simp
  ·exact spaT_len _ _
theorem small_of {M : List (Value × List Int)} {g : List (List Int)} (e : M.map (·.2) = g) (h : g.length ≤ 1000) (k : ∀ t ∈ g,t.length ≤ 1000) : SmallL M:=by
 subst e
 exact ⟨by rw [List.length_map] at h;exact h,fun p hp=>k _ (List.mem_map.2 ⟨p,hp,rfl⟩)⟩
theorem xRecipes_any (x : Vm) (sd : SmallL x.D) (sl : SmallL x.L) (s : List Int) (hs : s.length ≤ 1000) (ls : List Int) (hl : ls.length ≤ 1000) (a b : Option Addr) (c d : Nat) (w : World) (h : x.At w) (hr : IsRows w (.slice a s.length c) 1 (s.map intRow)) (hq : IsRows w (.slice b ls.length d) 1 (ls.map intRow)) :
  Calls Tryz.prog 12 #[.agg #[.int .i64 x.B,.slice x.da x.D.length x.dc,.slice x.la x.L.length x.lc,.int .i64 x.tol],.slice a s.length c,.slice b ls.length d] w (LisEPost (rcsV x s ls).1 (rcsV x s ls).2 w):=by
 by_cases he : askE x s ls = 0
 ·obtain ⟨hv,hsm,hlm⟩:=ask_okk he
  rw [rcsV,if_neg (by simpa using he)]
  exact xRecipes_ok x hv s hsm ls hlm hl a b c d w h hr hq
 ·rw [rcsV,if_pos he]
  exact xRecipes_bad x sd sl s hs ls hl he a b c d w h hr hq
theorem xFewest_any (x : Vm) (sd : SmallL x.D) (sl : SmallL x.L) (s : List Int) (hs : s.length ≤ 1000) (ls : List Int) (hl : ls.length ≤ 1000) (a b : Option Addr) (c d : Nat) (w : World) (h : x.At w) (hr : IsRows w (.slice a s.length c) 1 (s.map intRow)) (hq : IsRows w (.slice b ls.length d) 1 (ls.map intRow)) :
  Calls Tryz.prog 14 #[.agg #[.int .i64 x.B,.slice x.da x.D.length x.dc,.slice x.la x.L.length x.lc,.int .i64 x.tol],.slice a s.length c,.slice b ls.length d] w (IntsPost (fewV x s ls) w):=by
 by_cases he : askE x s ls = 0
 ·obtain ⟨hv,hsm,hlm⟩:=ask_okk he
  rw [fewV,if_neg (by simpa using he)]
  exact xFewest_ok x hv s hsm ls hlm hl a b c d w h hr hq
 ·rw [fewV,if_pos he]
  exact xFewest_bad x sd sl s hs ls hl he a b c d w h hr hq
theorem xSpare_any (x : Vm) (sd : SmallL x.D) (sl : SmallL x.L) (s : List Int) (hs : s.length ≤ 1000) (ls : List Int) (hl : ls.length ≤ 1000) (a b : Option Addr) (c d : Nat) (w : World) (h : x.At w) (hr : IsRows w (.slice a s.length c) 1 (s.map intRow)) (hq : IsRows w (.slice b ls.length d) 1 (ls.map intRow)) :
  Calls Tryz.prog 20 #[.agg #[.int .i64 x.B,.slice x.da x.D.length x.dc,.slice x.la x.L.length x.lc,.int .i64 x.tol],.slice a s.length c,.slice b ls.length d] w (IntsPost (spaV x s ls) w):=by
 by_cases he : askE x s ls = 0
 ·obtain ⟨hv,hsm,hlm⟩:=ask_okk he
  rw [spaV,if_neg (by simpa using he)]
  exact xSpare_ok x hv s hsm ls hlm hl a b c d w h hr hq
 ·rw [spaV,if_pos he]
  exact xSpare_bad x sd sl s hs ls hl he a b c d w h hr hq
theorem xNeed_any (x : Vm) (sd : SmallL x.D) (sl : SmallL x.L) (s : List Int) (hs : s.length ≤ 1000) (ls : List Int) (hl : ls.length ≤ 1000) (a b : Option Addr) (c d : Nat) (w : World) (h : x.At w) (hr : IsRows w (.slice a s.length c) 1 (s.map intRow)) (hq : IsRows w (.slice b ls.length d) 1 (ls.map intRow)) :
  Calls Tryz.prog 18 #[.agg #[.int .i64 x.B,.slice x.da x.D.length x.dc,.slice x.la x.L.length x.lc,.int .i64 x.tol],.slice a s.length c,.slice b ls.length d] w (NedPost (nedV x s ls) w):=by
 by_cases he : askE x s ls = 0
 ·obtain ⟨hv,hsm,hlm⟩:=ask_okk he
  rw [nedV,if_neg (by simpa using he)]
  refine (xNeed_ok x hv s hsm ls hlm hl a b c d w h hr hq).mono fun e w' ⟨n,er,h1,h2,h3⟩=>?_
  rcases h2 with ⟨rfl,hn,h4,h5⟩ | ⟨rfl,rfl,h4⟩
  ·exact ⟨by rw [h1,ned_some hn h4 h5],h3⟩
  ·exact ⟨by rw [h1,ned_none h4];rfl,h3⟩
 ·rw [nedV,if_pos he]
  exact xNeed_bad x sd sl s hs ls hl he a b c d w h hr hq
set_option maxRecDepth 100000 in
set_option maxHeartbeats 8000000 in
theorem dyeRecipes_walk (x : Vm) (s l : List Int) (sa la na : Option Addr) (sc lc nn nc : Nat) (z : List Int) (w : World) (hx : x.At w) (hs : IsRows w (.slice sa s.length sc) 1 (s.map intRow)) (hl : IsRows w (.slice la l.length lc) 1 (l.map intRow)) (hn : IsRow .i64 w na nn nc z) :
  Calls Tryz.prog 3 #[.agg #[.int .i64 x.B,.slice x.da x.D.length x.dc,.slice x.la x.L.length x.lc,.int .i64 x.tol],.slice sa s.length sc,.slice la l.length lc,.slice na nn nc] w fun e w'=>e = .returned (.bool true) ∧ Ext [] w w':=by
 have E : Ext [] w w:=Ext.refl _ _
 have HX:=Lib.hid hx
 have HS:=Lib.hid hs
 have HL0:=Lib.hid hl
 have HN:=Lib.hid hn
 clear hx hs hl hn
 refine calls_has 247 Tryz.func3 rfl Tryz.ntmps3 (Nat.le_of_ble_eq_true rfl) ?_
 intro fa F
 refine wp_seq_k fun K1 hK1=>?_
 refine wp_region_lit ?_
 refine sq_new F rfl (by decide) rfl (R_box rfl (F.at rfl)) ?_;clear F fa;intro fa w1 F hw
 obtain ⟨n4,hn⟩ : ∃ n,n = w.heap.size:=⟨_,rfl⟩
 rw [← hn] at F
 have s4 : w.heap.size ≤ n4:=Nat.le_of_eq hn.symm
 have l4_E : w.heap.size ≤ n4:=by rw [hn];exact E.size
 replace E:=ext_alloc E hw
 have q4:=new_row hw hn
 clear hw hn
 refine F.vl (R_assign rfl (ev_c fa _)) ?_;clear F fa;intro fa F
 refine wpList_nil ?_
 refine hK1 _ _ ?_
 clear hK1
 refine wp_seq_k fun K2 hK2=>?_
 refine wp_seq_k fun K3 hK3=>?_
 refine wp_region_lit ?_
 refine F.vl (R_loadBlk rfl (F.at rfl) Tryz.underlying24 rfl (by kernel_rfl) q4) ?_;clear F fa;intro fa F
 refine sq_call F rfl (by decide) rfl (R_callV rfl rfl Tryz.call4 (mpS (F.at rfl) mp0)) (long_any x _ (HX.out.ext E)) fun e w2 hR=>?_
 obtain ⟨rfl,e9⟩:=hR
 refine ⟨_,rfl,?_⟩;clear F fa;intro fa F
 replace q4:=(e9).keep0 q4
 replace E:=ext_same E (e9)
 clear e9
 refine F.mv ?_;clear F fa;intro fa F
 cases hg1 : (longV x)
 ·skip
  replace F:=F.re (k:=31) rfl (congrArg Value.bool hg1)
  refine F.mv ?_ (hw:=(wantT F rfl rfl (by decide) rfl));clear F fa;intro fa F
  refine F.vl (R_len rfl rfl (F.at rfl) Tryz.underlying25) ?_ (hw:=(wantT F rfl rfl (by decide) rfl));clear F fa;intro fa F
  refine F.vl (R_gtr rfl (F.at rfl) (ev_c fa _)) ?_ (hw:=(wantT F rfl rfl (by decide) rfl));clear F fa;intro fa F
  refine F.vl (R_pickF rfl (F.at rfl) (F.at rfl)) ?_;clear F fa;intro fa F
  refine F.mv ?_;clear F fa;intro fa F
  by_cases hg2 : (20 < ((l.length : Nat) : Int))
  ·skip
   replace F:=F.re (k:=36) rfl (congrArg Value.bool (decide_eq_true hg2))
   refine sq_no F rfl (by decide) (wantF F rfl rfl (by decide) rfl (by decide)) ?_;clear F fa;intro fa F
   refine sq_no F rfl (by decide) (wantF F rfl rfl (by decide) rfl (by decide)) ?_;clear F fa;intro fa F
   refine sq_no F rfl (by decide) (wantF F rfl rfl (by decide) rfl (by decide)) ?_;clear F fa;intro fa F
   refine F.vl (R_pickT rfl (F.at rfl) (ev_c fa _)) ?_;clear F fa;intro fa F
   refine wpList_nil ?_
   refine hK3 _ _ ?_
   clear hK3
   refine cd_T F rfl ?_
   refine wp_seq_k fun K4 hK4=>?_
   refine wp_region_lit ?_
   refine sq_call F rfl (by decide) rfl (R_callV rfl rfl Tryz.call5 mp0) (dyed_any _) fun e w3 hR=>?_
   obtain ⟨rfl,e9⟩:=hR
   refine ⟨_,rfl,?_⟩;clear F fa;intro fa F
   replace q4:=(e9).keep0 q4
   replace E:=ext_same E (e9)
   clear e9
   refine F.as ?_;clear F fa;intro fa F
   refine wpList_nil ?_
   refine hK4 _ _ ?_
   clear hK4
   refine wp_ret ?_
   (try simp only [Exit.inBlock,Exit.then,reduceIte])
   refine rt_v F (rs_1 F rfl rfl) ?_
   exact ⟨rfl,E⟩
  ·skip
   replace F:=F.re (k:=36) rfl (congrArg Value.bool (decide_eq_false hg2))
   refine F.mv ?_ (hw:=(wantT F rfl rfl (by decide) rfl));clear F fa;intro fa F
   refine F.vl (R_len rfl rfl (F.at rfl) Tryz.underlying25) ?_ (hw:=(wantT F rfl rfl (by decide) rfl));clear F fa;intro fa F
   refine F.vl (R_gtr rfl (F.at rfl) (ev_c fa _)) ?_ (hw:=(wantT F rfl rfl (by decide) rfl));clear F fa;intro fa F
   refine F.vl (R_pickF rfl (F.at rfl) (F.at rfl)) ?_;clear F fa;intro fa F
   refine wpList_nil ?_
   refine hK3 _ _ ?_
   clear hK3
   refine cd_if F rfl (fun hc40=>?_) (fun hc40=>?_)
   ·skip
    refine wp_seq_k fun K5 hK5=>?_
    refine wp_region_lit ?_
    refine sq_call F rfl (by decide) rfl (R_callV rfl rfl Tryz.call5 mp0) (dyed_any _) fun e w4 hR=>?_
    obtain ⟨rfl,e9⟩:=hR
    refine ⟨_,rfl,?_⟩;clear F fa;intro fa F
    replace q4:=(e9).keep0 q4
    replace E:=ext_same E (e9)
    clear e9
    refine F.as ?_;clear F fa;intro fa F
    refine wpList_nil ?_
    refine hK5 _ _ ?_
    clear hK5
    refine wp_ret ?_
    (try simp only [Exit.inBlock,Exit.then,reduceIte])
    refine rt_v F (rs_1 F rfl rfl) ?_
    exact ⟨rfl,E⟩
   ·skip
    obtain ⟨⟨hD1,hD2⟩,⟨hL1,hL2⟩⟩:=longV_no (by simpa using hg1)
    have hsl : s.length ≤ 20:=by omega
    have hll : l.length ≤ 20:=by omega
    have SD : SmallL x.D:=⟨by omega,fun p hp=>by have:=hD2 p hp;omega⟩
    have SL : SmallL x.L:=⟨by omega,fun p hp=>by have:=hL2 p hp;omega⟩
    refine wp_skip ?_
    refine hK2 _ _ ?_
    clear hK2
    refine wp_seq_k fun K6 hK6=>?_
    refine wp_region_lit ?_
    refine F.mv ?_;clear F fa;intro fa F
    have HXN:=Lib.hid (HX.out.ext E)
    have hzE:=E.size
    have hz5:=blk_lt q4
    refine sq_call F rfl (by decide) rfl (R_callV rfl rfl Tryz.call6 (mpS (F.at rfl) mp0)) (newLots_any _ na nn nc z (row_extD HN.out E)) fun e w5 hR=>?_
    obtain ⟨b,rfl,hbw0,hbw1,HL,e9⟩:=hR
    refine ⟨_,rfl,?_⟩;clear F fa;intro fa F
    replace q4:=(e9).keep0 q4
    replace E:=ext_same E (e9)
    clear e9
    refine F.as ?_;clear F fa;intro fa F
    refine wpList_nil ?_
    refine hK6 _ _ ?_
    clear hK6
    refine wp_seq_k fun K7 hK7=>?_
    refine wp_region_lit ?_
    refine F.vl (R_loadBlk rfl (F.at rfl) Tryz.underlying24 rfl (by kernel_rfl) q4) ?_;clear F fa;intro fa F
    refine F.mv ?_;clear F fa;intro fa F
    refine sq_call F rfl (by decide) rfl (R_callV rfl rfl Tryz.call7 (mpS (F.at rfl) (mpS (F.at rfl) mp0))) (sets_any x SD SL _ _ b _ _ HL (by omega) HXN.out) fun e w6 hR=>?_
    obtain ⟨va,y,z2,rfl,hv,hzd,hzl,hvs,HL,e9⟩:=hR
    refine ⟨_,rfl,?_⟩;clear F fa;intro fa F
    replace q4:=(e9).keep q4 (by simp;omega)
    replace E:=E.trans' e9 (fun i hi hl=>by simp only [List.mem_cons,List.not_mem_nil,or_false] at hi ⊢;omega)
    obtain ⟨X,hXe⟩ : ∃ X,X = [x,y,z2,y]:=⟨_,rfl⟩
    rw [← hXe] at hvs
    have hX4 : X.length = 4:=(by rw [hXe];rfl)
    have hX1 : vsI X 1 = y:=(by rw [hXe];rfl)
    have HV:=Lib.hid hv
    have hSm : RowKit.Hid (∀ u ∈ X,SmallL u.D ∧ SmallL u.L):=Lib.hid (fun u hu=>(by rw [hXe] at hu;simp only [List.mem_cons,List.not_mem_nil,or_false] at hu;rcases hu with rfl | rfl | rfl | rfl;(· exact ⟨SD,SL⟩);(· exact ⟨hv.sd,hv.sl⟩);(· exact ⟨hzd,hzl⟩);(· exact ⟨hv.sd,hv.sl⟩)))
    have hym : y ∈ X:=(by rw [hXe];simp)
    have HVB:=Lib.hid hvs
    have HVS:=Lib.hid (slAt_all (fun W hW=>(by have:=slAt_of_rows (hvs W hW).rows vm0;exact this)))
    obtain ⟨wV,hwV⟩ : ∃ wV,wV = w6:=⟨_,rfl⟩
    have EV : Ext [b] wV w6:=by rw [hwV];exact Ext.refl _ _
    rw [← hwV] at HVB HVS
    rw [hX4] at HVS
    clear hv hvs hXe hzd hzl
    refine F.as ?_;clear F fa;intro fa F
    refine wpList_nil ?_
    refine hK7 _ _ ?_
    clear hK7
    refine wp_seq_k fun K8 hK8=>?_
    refine region_x (Ext [b] w6) none follows fun w7 hh eh=>?_
    have q4_:=q4
    replace q4:=keep_same hh q4
    have E_:=E
    have zEw7:=E.size
    replace E:=ext_same E eh
    have EV_:=EV
    have zEVw7:=EV.size
    replace EV:=ext_same EV eh
    have zbw7:=lots_lt HL
    replace HL:=lots_ext eh HL
    have eT:=eh.mono (Y:=[b]) (by simp)
    clear hh eh
    refine F.x (i:=0) rfl (fun w'=>R_move rfl (F.at rfl)) (fun _=>eT) ?_;clear F fa;intro fa F
    refine F.x (i:=1) rfl (fun w'=>R_move rfl (F.at rfl)) (fun _=>eT) ?_;clear F fa;intro fa F
    obtain ⟨xb9,xo9,xa9,xr9⟩:=HVS.out 1 (by omega)
    refine F.x (i:=2) rfl (fun w'=>R_ixSlice (sz:=4) rfl ((F.at rfl).trans (xa9 _ _)) (ev_c fa _) Tryz.underlying30 (by kernel_rfl) (by omega) (by omega)) (fun _=>eT) ?_;clear F fa;intro fa F
    refine F.xr (i:=3) rfl (fun w' hS=>R_loadRow rfl (F.at rfl) Tryz.underlying24 rfl (by kernel_rfl) (xr9 _ (EV_.trans hS))) (fun _=>eT) ?_;clear F fa;intro fa F
    replace F:=F.re (k:=50) rfl (show Value.agg #[.int .i64 (vsI X 1).B,.slice (vsI X 1).da (vsI X 1).D.length (vsI X 1).dc,.slice (vsI X 1).la (vsI X 1).L.length (vsI X 1).lc,.int .i64 (vsI X 1).tol] = .agg #[.int .i64 y.B,.slice y.da y.D.length y.dc,.slice y.la y.L.length y.lc,.int .i64 y.tol] by rw [hX1])
    refine F.x (i:=5) rfl (fun w'=>R_move rfl (F.at rfl)) (fun _=>eT) ?_;clear F fa;intro fa F
    refine F.x (i:=6) rfl (fun w'=>R_move rfl (F.at rfl)) (fun _=>eT) ?_;clear F fa;intro fa F
    obtain ⟨xb10,xo10,xa10,xr10⟩:=HVS.out 1 (by omega)
    refine F.x (i:=7) rfl (fun w'=>R_ixSlice (sz:=4) rfl ((F.at rfl).trans (xa10 _ _)) (ev_c fa _) Tryz.underlying30 (by kernel_rfl) (by omega) (by omega)) (fun _=>eT) ?_;clear F fa;intro fa F
    refine F.xr (i:=8) rfl (fun w' hS=>R_loadRow rfl (F.at rfl) Tryz.underlying24 rfl (by kernel_rfl) (xr10 _ (EV_.trans hS))) (fun _=>eT) ?_;clear F fa;intro fa F
    replace F:=F.re (k:=55) rfl (show Value.agg #[.int .i64 (vsI X 1).B,.slice (vsI X 1).da (vsI X 1).D.length (vsI X 1).dc,.slice (vsI X 1).la (vsI X 1).L.length (vsI X 1).lc,.int .i64 (vsI X 1).tol] = .agg #[.int .i64 y.B,.slice y.da y.D.length y.dc,.slice y.la y.L.length y.lc,.int .i64 y.tol] by rw [hX1])
    obtain ⟨B2,hB2⟩ : ∃ B2,B2 = w7.heap.size:=⟨_,rfl⟩
    have hb2 : b < B2:=by rw [hB2];exact lots_lt HL
    refine ax_only (i:=4) (by kernel_rfl) (op_call F rfl rfl (by decide) rfl (R_callV rfl rfl Tryz.call8 (mpS (F.at rfl) (mpS (F.at rfl) mp0))) (sampleOf_any y HV.out _ _ b _ _ HL (by omega) (fun W hW=>(HVB.out W (EV.trans hW)).at_ y hym)) fun e w8 hR=>?_)
    obtain ⟨pa,pc,p,rfl,hp,po,HL,e9⟩:=hR
    refine ⟨_,rfl,?_⟩;clear F fa;intro fa F
    replace q4:=(e9).keep q4 (by simp;omega)
    replace E:=E.trans' e9 (fun i hi hl=>by simp only [List.mem_cons,List.not_mem_nil,or_false] at hi ⊢;omega)
    replace EV:=EV.trans' e9 (fun i hi hl=>by simp only [List.mem_cons,List.not_mem_nil,or_false] at hi ⊢;omega)
    replace eT:=eT.trans' e9 (fun i hi hl=>by simp only [List.mem_cons,List.not_mem_nil,or_false] at hi ⊢;omega)
    refine ⟨fun _=>eT,?_⟩
    rw [← hB2] at po
    obtain ⟨B3,hB3⟩ : ∃ B3,B3 = w8.heap.size:=⟨_,rfl⟩
    have hb3 : b < B3:=by rw [hB3];exact lots_lt HL
    refine ax_only (i:=9) (by kernel_rfl) (op_call F rfl rfl (by decide) rfl (R_callV rfl rfl Tryz.call9 (mpS (F.at rfl) (mpS (F.at rfl) mp0))) (lampsOf_any y HV.out _ _ b _ _ HL (by omega)) fun e w9 hR=>?_)
    obtain ⟨qa,qc,q,rfl,hq,hq3,qo,HL,e9⟩:=hR
    refine ⟨_,rfl,?_⟩;clear F fa;intro fa F
    replace po:=owns_ext po (e9) (by simp;omega)
    replace q4:=(e9).keep q4 (by simp;omega)
    replace E:=E.trans' e9 (fun i hi hl=>by simp only [List.mem_cons,List.not_mem_nil,or_false] at hi ⊢;omega)
    replace EV:=EV.trans' e9 (fun i hi hl=>by simp only [List.mem_cons,List.not_mem_nil,or_false] at hi ⊢;omega)
    replace eT:=eT.trans' e9 (fun i hi hl=>by simp only [List.mem_cons,List.not_mem_nil,or_false] at hi ⊢;omega)
    refine ⟨fun _=>eT,?_⟩
    rw [← hB3] at qo
    refine F.x (i:=10) rfl (fun w'=>R_assign rfl (F.at rfl)) (fun _=>eT) ?_;clear F fa;intro fa F
    refine F.x (i:=11) rfl (fun w'=>R_assign rfl (F.at rfl)) (fun _=>eT) ?_;clear F fa;intro fa F
    refine ax_done (by kernel_rfl) ?_ _
    clear eT q4_ E_ EV_
    have hy4:=HV.out.d4
    have hpl:=hp.1
    have hyb:=HV.out.b3
    have HP:=Lib.hid (rows_of_ivs po rfl)
    have HQ:=Lib.hid (rows_of_ivs qo rfl)
    have HVA:=Lib.hid (HVB.out _ EV)
    obtain ⟨wD,hwD⟩ : ∃ wD,wD = w9:=⟨_,rfl⟩
    have ED : Ext [] wD w9:=by rw [hwD];exact Ext.refl _ _
    rw [← hwD] at HP HQ HVA
    clear po qo HL EV hp hq HVB HVS
    have HVS:=Lib.hid (show SlAt [] wD va 4 4 (fun i=>vmC (vsI X i)) from (by have:=slAt_of_rows HVA.out.rows vm0;rw [hX4] at this;exact this))
    refine hK8 _ _ ?_
    clear hK8
    refine wp_seq_k fun K11 hK11=>?_
    refine wp_region_lit ?_
    refine F.mv ?_;clear F fa;intro fa F
    refine F.mv ?_;clear F fa;intro fa F
    refine F.mv ?_;clear F fa;intro fa F
    refine F.mv ?_;clear F fa;intro fa F
    refine sq_new F rfl (by decide) rfl (R_buildSliceV rfl (prS (F.at rfl) (prS (F.at rfl) (prS (F.at rfl) (prS (F.at rfl) pr0)))) Tryz.underlying22 (size:=1) (by kernel_rfl) (by decide) (by decide) Tryz.zeroValue25 (cells:=#[.slice sa s.length sc,.slice pa p.length pc,.slice pa p.length pc,.slice pa p.length pc]) (by kernel_rfl)) ?_;clear F fa;intro fa w10 F hw
    obtain ⟨n61,hn⟩ : ∃ n,n = w9.heap.size:=⟨_,rfl⟩
    rw [← hn] at F
    have s61 : w9.heap.size ≤ n61:=Nat.le_of_eq hn.symm
    have l61_E : w.heap.size ≤ n61:=by rw [hn];exact E.size
    have l61_ED : wD.heap.size ≤ n61:=by rw [hn];exact ED.size
    have m61_4 : n4 < n61:=by rw [hn];exact blk_lt q4
    replace q4:=keep_alloc hw q4
    replace E:=ext_alloc E hw
    replace ED:=ext_alloc ED hw
    have q61:=new_block hw hn
    clear hw hn
    refine F.mv ?_;clear F fa;intro fa F
    refine F.mv ?_;clear F fa;intro fa F
    refine F.mv ?_;clear F fa;intro fa F
    refine F.mv ?_;clear F fa;intro fa F
    refine sq_new F rfl (by decide) rfl (R_buildSliceV rfl (prS (F.at rfl) (prS (F.at rfl) (prS (F.at rfl) (prS (F.at rfl) pr0)))) Tryz.underlying22 (size:=1) (by kernel_rfl) (by decide) (by decide) Tryz.zeroValue25 (cells:=#[.slice la l.length lc,.slice qa q.length qc,.slice qa q.length qc,.slice la l.length lc]) (by kernel_rfl)) ?_;clear F fa;intro fa w11 F hw
    obtain ⟨n66,hn⟩ : ∃ n,n = w10.heap.size:=⟨_,rfl⟩
    rw [← hn] at F
    have s66 : w10.heap.size ≤ n66:=Nat.le_of_eq hn.symm
    have l66_E : w.heap.size ≤ n66:=by rw [hn];exact E.size
    have l66_ED : wD.heap.size ≤ n66:=by rw [hn];exact ED.size
    have m66_4 : n4 < n66:=by rw [hn];exact blk_lt q4
    have m66_61 : n61 < n66:=by rw [hn];exact blk_lt q61
    replace q4:=keep_alloc hw q4
    replace q61:=keep_alloc hw q61
    replace E:=ext_alloc E hw
    replace ED:=ext_alloc ED hw
    have q66:=new_block hw hn
    clear hw hn
    refine F.as ?_;clear F fa;intro fa F
    refine F.as ?_;clear F fa;intro fa F
    refine wpList_nil ?_
    have rp : RowOf w11 (.slice pa p.length pc) p:=⟨pa,pc,rfl,HP.out.ext ED (by simp)⟩
    have rq : RowOf w11 (.slice qa q.length qc) q:=⟨qa,qc,rfl,HQ.out.ext ED (by simp)⟩
    have rs : RowOf w11 (.slice sa s.length sc) s:=⟨sa,sc,rfl,HS.out.ext E (by simp)⟩
    have rl : RowOf w11 (.slice la l.length lc) l:=⟨la,lc,rfl,HL0.out.ext E (by simp)⟩
    obtain ⟨U,hU4,hUs,hUA⟩:=four_ex q61 rs rp rp rp (by omega) (by omega) (by omega) (by omega)
    obtain ⟨Q,hQ4,hQs,hQA⟩:=four_ex q66 rl rq rq rl (by omega) (by omega) (by omega) (by omega)
    have hU1:=Lib.hid (show SlAt [] w11 (some ⟨n61,0,none⟩) 1 4 (fun i=>[(U.getD i (.bool true,[])).1]) from (by have:=hUA.1;rwa [hU4] at this))
    have hQ1:=Lib.hid (show SlAt [] w11 (some ⟨n66,0,none⟩) 1 4 (fun i=>[(Q.getD i (.bool true,[])).1]) from (by have:=hQA.1;rwa [hQ4] at this))
    have HUA:=Lib.hid hUA
    have HQA:=Lib.hid hQA
    have HVA2:=Lib.hid (show ∀ k,k < 4 → (vsI X k).At w11 from fun k hk=>(vs_at HVA.out (by omega)).ext ED)
    have HVS2:=Lib.hid (slAt_ext HVS.out ED)
    obtain ⟨wB,hwB⟩ : ∃ wB,wB = w11:=⟨_,rfl⟩
    have EB : Ext [] wB w11:=by rw [hwB];exact Ext.refl _ _
    rw [← hwB] at hU1 hQ1 HUA HQA HVA2 HVS2
    clear rp rq rs rl hUA hQA HP HQ HVA HVS
    refine hK11 _ _ ?_
    clear hK11
    refine wp_seq_k fun K12 hK12=>?_
    refine wp_seq_k fun K13 hK13=>?_
    refine wp_region_lit ?_
    refine F.vl (R_assign rfl (ev_c fa _)) ?_;clear F fa;intro fa F
    refine wpList_nil ?_
    refine hK13 _ _ ?_
    clear hK13
    refine wp_block ?_
    have F0:=F.sub (.c 10 rfl (.c 13 rfl (.c 14 rfl .n)))
    refine lp_for F0 (4) (fun i Lv W=>Lv = [(15,.int .i64 ((i : Nat) : Int))] ∧ Ext [] w11 W) ⟨_,⟨rfl,Ext.refl _ _⟩,F.sub (.c 15 rfl (.c 10 rfl (.c 13 rfl (.c 14 rfl .n))))⟩ ?_
    clear F F0
    rintro i _ fa w12 hi1 ⟨rfl,EL1⟩ F
    have q4:=EL1.keep0 q4
    have E:=E.nil EL1
    have EB:=EB.nil EL1
    refine wp_seq_k fun K14 hK14=>?_
    refine wp_seq_k fun K15 hK15=>?_
    refine wp_region_lit ?_
    refine F.mv ?_;clear F fa;intro fa F
    refine F.mv ?_;clear F fa;intro fa F
    refine F.vl (R_len rfl rfl (F.at rfl) Tryz.underlying30) ?_;clear F fa;intro fa F
    refine F.vl (R_lss rfl (F.at rfl) (F.at rfl)) ?_;clear F fa;intro fa F
    refine wpList_nil ?_
    refine hK15 _ _ ?_
    clear hK15
    refine cd_if F rfl (fun hc70=>?_) (fun hc70=>?_)
    ·skip
     refine wp_skip ?_
     refine hK14 _ _ ?_
     clear hK14
     refine wp_seq_k fun K16 hK16=>?_
     refine wp_block ?_
     refine wp_seq_k fun K17 hK17=>?_
     obtain ⟨m1,m2⟩:=hSm.out _ (vsI_mem (show i < X.length by omega))
     obtain ⟨ua,uc,hua,hur⟩:=HUA.out.2 _ (getD_mem (.bool true,[]) (show i < U.length by omega))
     obtain ⟨ka,kc,hka,hkr⟩:=HQA.out.2 _ (getD_mem (.bool true,[]) (show i < Q.length by omega))
     have hu20:=hUs _ (getD_mem (.bool true,[]) (show i < U.length by omega))
     have hk20:=hQs _ (getD_mem (.bool true,[]) (show i < Q.length by omega))
     obtain ⟨n,hn⟩ : ∃ n,n = (U.getD i (.bool true,[])).2:=⟨_,rfl⟩
     rw [← hn] at hua hur hu20
     obtain ⟨k,hk⟩ : ∃ k,k = (Q.getD i (.bool true,[])).2:=⟨_,rfl⟩
     rw [← hk] at hka hkr hk20
     have HUR:=Lib.hid hur
     have HKR:=Lib.hid hkr
     clear hur hkr
     suffices hcut : ∀ (n16 : Nat) (u : Vm) (ua2 ka2 : Option Addr) (uc2 kc2 : Nat) (fa : Act) (w31 : World),Has 247 [] fa [(10,.slice va 4 4),(13,.slice (some ⟨n61,0,none⟩) 4 4),(14,.slice (some ⟨n66,0,none⟩) 4 4),(15,.int .i64 ((i : Nat) : Int)),(16,.pointer (some ⟨n16,0,none⟩)),(17,.slice ua2 n.length uc2),(18,.slice ka2 k.length kc2)] → w31.heap[n16]? = some (.cells #[.int .i64 u.B,.slice u.da u.D.length u.dc,.slice u.la u.L.length u.lc,.int .i64 u.tol] 24 (0,0)) → Ext [] w w31 → Ext [] wB w31 → Ext [] w11 w31 → w.heap.size ≤ n16 → wB.heap.size ≤ n16 → w11.heap.size ≤ n16 → w31.ownsRow w.heap.size 25 1 (.slice u.da u.D.length u.dc) u.D.length (u.D.map (·.1)) → FamT w31 w.heap.size u.D → w31.ownsRow w.heap.size 25 1 (.slice u.la u.L.length u.lc) u.L.length (u.L.map (·.1)) → FamT w31 w.heap.size u.L → w31.ownsRow w.heap.size 3 1 (.slice ua2 n.length uc2) n.length (ivs n) → w31.ownsRow w.heap.size 3 1 (.slice ka2 k.length kc2) k.length (ivs k) → RowKit.Hid (SameV u (vsI X i)) → K17 fa w31 by
      refine region_x (Ext [] w12) none follows fun w13 hh eh=>?_
      have q4_:=q4
      replace q4:=keep_same hh q4
      have E_:=E
      have zEw13:=E.size
      replace E:=ext_same E eh
      have EB_:=EB
      have zEBw13:=EB.size
      replace EB:=ext_same EB eh
      have EL1_:=EL1
      have zEL1w13:=EL1.size
      replace EL1:=ext_same EL1 eh
      have eT:=eh
      clear hh eh
      refine F.x (i:=0) rfl (fun w'=>R_move rfl (F.at rfl)) (fun _=>eT) ?_;clear F fa;intro fa F
      refine F.x (i:=1) rfl (fun w'=>R_move rfl (F.at rfl)) (fun _=>eT) ?_;clear F fa;intro fa F
      obtain ⟨xb18,xo18,xa18,xr18⟩:=HVS2.out i (by omega)
      refine F.x (i:=2) rfl (fun w'=>R_ixSlice (sz:=4) rfl ((F.at rfl).trans (xa18 _ _)) (F.at rfl) Tryz.underlying30 (by kernel_rfl) (by omega) (by omega)) (fun _=>eT) ?_;clear F fa;intro fa F
      refine F.xr (i:=3) rfl (fun w' hS=>R_loadRow rfl (F.at rfl) Tryz.underlying24 rfl (by kernel_rfl) (xr18 _ (EB_.nil hS))) (fun _=>eT) ?_;clear F fa;intro fa F
      refine F.x (i:=5) rfl (fun w'=>R_move rfl (F.at rfl)) (fun _=>eT) ?_;clear F fa;intro fa F
      refine F.x (i:=6) rfl (fun w'=>R_move rfl (F.at rfl)) (fun _=>eT) ?_;clear F fa;intro fa F
      obtain ⟨xb19,xo19,xa19,xr19⟩:=hU1.out i (by omega)
      refine F.x (i:=7) rfl (fun w'=>R_ixSlice (sz:=1) rfl ((F.at rfl).trans (xa19 _ _)) (F.at rfl) Tryz.underlying22 (by kernel_rfl) (by omega) (by omega)) (fun _=>eT) ?_;clear F fa;intro fa F
      refine F.xr (i:=8) rfl (fun w' hS=>R_load rfl (F.at rfl) Tryz.underlying25 rfl (xr19 _ (EB_.nil hS) 0 _ rfl)) (fun _=>eT) ?_;clear F fa;intro fa F
      rw [hua] at F
      refine F.x (i:=10) rfl (fun w'=>R_move rfl (F.at rfl)) (fun _=>eT) ?_;clear F fa;intro fa F
      refine F.x (i:=11) rfl (fun w'=>R_move rfl (F.at rfl)) (fun _=>eT) ?_;clear F fa;intro fa F
      obtain ⟨xb20,xo20,xa20,xr20⟩:=hQ1.out i (by omega)
      refine F.x (i:=12) rfl (fun w'=>R_ixSlice (sz:=1) rfl ((F.at rfl).trans (xa20 _ _)) (F.at rfl) Tryz.underlying22 (by kernel_rfl) (by omega) (by omega)) (fun _=>eT) ?_;clear F fa;intro fa F
      refine F.xr (i:=13) rfl (fun w' hS=>R_load rfl (F.at rfl) Tryz.underlying25 rfl (xr20 _ (EB_.nil hS) 0 _ rfl)) (fun _=>eT) ?_;clear F fa;intro fa F
      rw [hka] at F
      refine ax_pair (i:=4) (j:=15) (by kernel_rfl) ?_ ?_
      ·skip
       have hle4:=E.size
       refine (op_call F rfl rfl (by decide) rfl (R_callV rfl rfl Tryz.call10 (mpS (F.at rfl) mp0)) (copyVat_own (vsI X i) _ ((HVA2.out i (by omega)).ext EB) m1 m2) fun e w14 hR=>?_)
       obtain ⟨u,rfl,huB,hut,huD,huL,oo1,fam1,oo2,fam2,-,e9⟩:=hR
       refine ⟨_,rfl,?_⟩;clear F fa;intro fa F
       replace q4:=(e9).keep0 q4
       replace E:=ext_same E (e9)
       replace EB:=ext_same EB (e9)
       replace EL1:=ext_same EL1 (e9)
       replace eT:=ext_same eT (e9)
       clear e9
       refine ⟨fun _=>eT,?_⟩
       have HSV:=Lib.hid (SameV.mk huB hut huD huL)
       replace oo1:=owns_lower (base':=w.heap.size) oo1 hle4
       replace fam1:=fam_lower fam1 hle4
       replace oo2:=owns_lower (base':=w.heap.size) oo2 hle4
       replace fam2:=fam_lower fam2 hle4
       refine ax_pair (i:=9) (j:=15) (by kernel_rfl) ?_ ?_
       ·skip
        have hle9:=E.size
        refine (op_call F rfl rfl (by decide) rfl (R_callV rfl rfl Tryz.call11 (mpS (F.at rfl) mp0)) (copyInts_any (w:=_) ⟨ua,uc,rfl,HUR.out.ext EB (by simp)⟩ (by omega)) fun e w15 hR=>?_)
        obtain ⟨ua2,uc2,rfl,uo,e9⟩:=hR
        refine ⟨_,rfl,?_⟩;clear F fa;intro fa F
        replace oo1:=owns_ext oo1 (e9) (by simp)
        replace fam1:=fam_lift fam1 fun _ _ _ h=>owns_ext h (e9) (by simp)
        replace oo2:=owns_ext oo2 (e9) (by simp)
        replace fam2:=fam_lift fam2 fun _ _ _ h=>owns_ext h (e9) (by simp)
        replace q4:=(e9).keep0 q4
        replace E:=ext_same E (e9)
        replace EB:=ext_same EB (e9)
        replace EL1:=ext_same EL1 (e9)
        replace eT:=ext_same eT (e9)
        clear e9
        refine ⟨fun _=>eT,?_⟩
        replace uo:=owns_lower (base':=w.heap.size) uo hle9
        refine ax_pair (i:=14) (j:=15) (by kernel_rfl) ?_ ?_
        ·skip
         have hle14:=E.size
         refine (op_call F rfl rfl (by decide) rfl (R_callV rfl rfl Tryz.call11 (mpS (F.at rfl) mp0)) (copyInts_any (w:=_) ⟨ka,kc,rfl,HKR.out.ext EB (by simp)⟩ (by omega)) fun e w16 hR=>?_)
         obtain ⟨ka2,kc2,rfl,ko,e9⟩:=hR
         refine ⟨_,rfl,?_⟩;clear F fa;intro fa F
         replace oo1:=owns_ext oo1 (e9) (by simp)
         replace fam1:=fam_lift fam1 fun _ _ _ h=>owns_ext h (e9) (by simp)
         replace oo2:=owns_ext oo2 (e9) (by simp)
         replace fam2:=fam_lift fam2 fun _ _ _ h=>owns_ext h (e9) (by simp)
         replace uo:=owns_ext uo (e9) (by simp)
         replace q4:=(e9).keep0 q4
         replace E:=ext_same E (e9)
         replace EB:=ext_same EB (e9)
         replace EL1:=ext_same EL1 (e9)
         replace eT:=ext_same eT (e9)
         clear e9
         refine ⟨fun _=>eT,?_⟩
         replace ko:=owns_lower (base':=w.heap.size) ko hle14
         refine ax_only (i:=15) (by kernel_rfl) (op_new F rfl rfl (by decide) rfl (R_alloc rfl Tryz.zeroValue24) ?_);clear F fa;intro fa w17 F hw
         obtain ⟨n16,hn⟩ : ∃ n,n = w16.heap.size:=⟨_,rfl⟩
         rw [← hn] at F
         have s16 : w16.heap.size ≤ n16:=Nat.le_of_eq hn.symm
         have l16_E : w.heap.size ≤ n16:=by rw [hn];exact E.size
         have l16_EB : wB.heap.size ≤ n16:=by rw [hn];exact EB.size
         have l16_EL1 : w11.heap.size ≤ n16:=by rw [hn];exact EL1.size
         have lT16 : w12.heap.size ≤ n16:=by rw [hn];exact eT.size
         have m16_4 : n4 < n16:=by rw [hn];exact blk_lt q4
         have o16_oo1:=Lib.hid (own_ne_new oo1 hn)
         have o16_oo2:=Lib.hid (own_ne_new oo2 hn)
         have o16_uo:=Lib.hid (own_ne_new uo hn)
         have o16_ko:=Lib.hid (own_ne_new ko hn)
         replace oo1:=owns_alloc hw oo1
         replace fam1:=fam_lift fam1 fun _ _ _ h=>owns_alloc hw h
         replace oo2:=owns_alloc hw oo2
         replace fam2:=fam_lift fam2 fun _ _ _ h=>owns_alloc hw h
         replace uo:=owns_alloc hw uo
         replace ko:=owns_alloc hw ko
         replace q4:=keep_alloc hw q4
         replace E:=ext_alloc E hw
         replace EB:=ext_alloc EB hw
         replace EL1:=ext_alloc EL1 hw
         replace eT:=ext_alloc eT hw
         have q16:=new_row hw hn
         clear hw hn
         refine ⟨fun _=>eT,?_⟩
         refine ax_only (i:=16) (by kernel_rfl) (op_to rfl rfl rfl (R_storeRow rfl (F.at rfl) (F.at rfl) (by kernel_rfl) (by first | (simp [Value.oneCell'];done) | (simp [Value.oneCell',id];done)) q16 rfl) ?_);intro w18 hw
         replace oo1:=owns_cellsX hw oo1 (own_ne_type oo1 q16 (by decide))
         replace fam1:=fam_lift fam1 fun _ _ _ h=>owns_cellsX hw h (own_ne_type h q16 (by decide))
         replace oo2:=owns_cellsX hw oo2 (own_ne_type oo2 q16 (by decide))
         replace fam2:=fam_lift fam2 fun _ _ _ h=>owns_cellsX hw h (own_ne_type h q16 (by decide))
         replace uo:=owns_cellsX hw uo (own_ne_type uo q16 (by decide))
         replace ko:=owns_cellsX hw ko (own_ne_type ko q16 (by decide))
         replace q4:=keep_cells hw q4 (by omega)
         replace q16:=put_row hw q16 rfl
         replace E:=ext_cells E hw (fun h=>by first | exact absurd h (by omega) | simp)
         replace EB:=ext_cells EB hw (fun h=>by first | exact absurd h (by omega) | simp)
         replace EL1:=ext_cells EL1 hw (fun h=>by first | exact absurd h (by omega) | simp)
         replace eT:=ext_cells eT hw (fun h=>by first | exact absurd h (by omega) | simp)
         clear hw
         refine ⟨fun _=>eT,?_⟩
         refine F.x (i:=17) rfl (fun w'=>R_assign rfl (F.at rfl)) (fun _=>eT) ?_;clear F fa;intro fa F
         refine F.x (i:=18) rfl (fun w'=>R_assign rfl (F.at rfl)) (fun _=>eT) ?_;clear F fa;intro fa F
         refine ax_done (by kernel_rfl) ?_ _
         exact hcut _ _ _ _ _ _ _ _ (F.sub (.c 10 rfl (.c 13 rfl (.c 14 rfl (.c 15 rfl (.c 16 rfl (.c 17 rfl (.c 18 rfl .n)))))))) q16 E EB EL1 (by omega) (by omega) (by omega) oo1 fam1 oo2 fam2 uo ko HSV
        ·skip
         refine (op_new F rfl rfl (by decide) rfl (R_alloc rfl Tryz.zeroValue24) ?_);clear F fa;intro fa w19 F hw
         obtain ⟨n16,hn⟩ : ∃ n,n = w15.heap.size:=⟨_,rfl⟩
         rw [← hn] at F
         have s16 : w15.heap.size ≤ n16:=Nat.le_of_eq hn.symm
         have l16_E : w.heap.size ≤ n16:=by rw [hn];exact E.size
         have l16_EB : wB.heap.size ≤ n16:=by rw [hn];exact EB.size
         have l16_EL1 : w11.heap.size ≤ n16:=by rw [hn];exact EL1.size
         have lT16 : w12.heap.size ≤ n16:=by rw [hn];exact eT.size
         have m16_4 : n4 < n16:=by rw [hn];exact blk_lt q4
         have o16_oo1:=Lib.hid (own_ne_new oo1 hn)
         have o16_oo2:=Lib.hid (own_ne_new oo2 hn)
         have o16_uo:=Lib.hid (own_ne_new uo hn)
         replace oo1:=owns_alloc hw oo1
         replace fam1:=fam_lift fam1 fun _ _ _ h=>owns_alloc hw h
         replace oo2:=owns_alloc hw oo2
         replace fam2:=fam_lift fam2 fun _ _ _ h=>owns_alloc hw h
         replace uo:=owns_alloc hw uo
         replace q4:=keep_alloc hw q4
         replace E:=ext_alloc E hw
         replace EB:=ext_alloc EB hw
         replace EL1:=ext_alloc EL1 hw
         replace eT:=ext_alloc eT hw
         have q16:=new_row hw hn
         clear hw hn
         refine ⟨fun _=>eT,?_⟩
         have hle14:=E.size
         refine ax_only (i:=14) (by kernel_rfl) (op_call F rfl rfl (by decide) rfl (R_callV rfl rfl Tryz.call11 (mpS (F.at rfl) mp0)) (copyInts_any (w:=_) ⟨ka,kc,rfl,HKR.out.ext EB (by simp)⟩ (by omega)) fun e w20 hR=>?_)
         obtain ⟨ka2,kc2,rfl,ko,e9⟩:=hR
         refine ⟨_,rfl,?_⟩;clear F fa;intro fa F
         replace oo1:=owns_ext oo1 (e9) (by simp)
         replace fam1:=fam_lift fam1 fun _ _ _ h=>owns_ext h (e9) (by simp)
         replace oo2:=owns_ext oo2 (e9) (by simp)
         replace fam2:=fam_lift fam2 fun _ _ _ h=>owns_ext h (e9) (by simp)
         replace uo:=owns_ext uo (e9) (by simp)
         replace q4:=(e9).keep0 q4
         replace q16:=(e9).keep0 q16
         replace E:=ext_same E (e9)
         replace EB:=ext_same EB (e9)
         replace EL1:=ext_same EL1 (e9)
         replace eT:=ext_same eT (e9)
         clear e9
         refine ⟨fun _=>eT,?_⟩
         replace ko:=owns_lower (base':=w.heap.size) ko hle14
         refine ax_only (i:=16) (by kernel_rfl) (op_to rfl rfl rfl (R_storeRow rfl (F.at rfl) (F.at rfl) (by kernel_rfl) (by first | (simp [Value.oneCell'];done) | (simp [Value.oneCell',id];done)) q16 rfl) ?_);intro w21 hw
         replace oo1:=owns_cellsX hw oo1 (own_ne_type oo1 q16 (by decide))
         replace fam1:=fam_lift fam1 fun _ _ _ h=>owns_cellsX hw h (own_ne_type h q16 (by decide))
         replace oo2:=owns_cellsX hw oo2 (own_ne_type oo2 q16 (by decide))
         replace fam2:=fam_lift fam2 fun _ _ _ h=>owns_cellsX hw h (own_ne_type h q16 (by decide))
         replace uo:=owns_cellsX hw uo (own_ne_type uo q16 (by decide))
         replace ko:=owns_cellsX hw ko (own_ne_type ko q16 (by decide))
         replace q4:=keep_cells hw q4 (by omega)
         replace q16:=put_row hw q16 rfl
         replace E:=ext_cells E hw (fun h=>by first | exact absurd h (by omega) | simp)
         replace EB:=ext_cells EB hw (fun h=>by first | exact absurd h (by omega) | simp)
         replace EL1:=ext_cells EL1 hw (fun h=>by first | exact absurd h (by omega) | simp)
         replace eT:=ext_cells eT hw (fun h=>by first | exact absurd h (by omega) | simp)
         clear hw
         refine ⟨fun _=>eT,?_⟩
         refine F.x (i:=17) rfl (fun w'=>R_assign rfl (F.at rfl)) (fun _=>eT) ?_;clear F fa;intro fa F
         refine F.x (i:=18) rfl (fun w'=>R_assign rfl (F.at rfl)) (fun _=>eT) ?_;clear F fa;intro fa F
         refine ax_done (by kernel_rfl) ?_ _
         exact hcut _ _ _ _ _ _ _ _ (F.sub (.c 10 rfl (.c 13 rfl (.c 14 rfl (.c 15 rfl (.c 16 rfl (.c 17 rfl (.c 18 rfl .n)))))))) q16 E EB EL1 (by omega) (by omega) (by omega) oo1 fam1 oo2 fam2 uo ko HSV
       ·skip
        refine (op_new F rfl rfl (by decide) rfl (R_alloc rfl Tryz.zeroValue24) ?_);clear F fa;intro fa w22 F hw
        obtain ⟨n16,hn⟩ : ∃ n,n = w14.heap.size:=⟨_,rfl⟩
        rw [← hn] at F
        have s16 : w14.heap.size ≤ n16:=Nat.le_of_eq hn.symm
        have l16_E : w.heap.size ≤ n16:=by rw [hn];exact E.size
        have l16_EB : wB.heap.size ≤ n16:=by rw [hn];exact EB.size
        have l16_EL1 : w11.heap.size ≤ n16:=by rw [hn];exact EL1.size
        have lT16 : w12.heap.size ≤ n16:=by rw [hn];exact eT.size
        have m16_4 : n4 < n16:=by rw [hn];exact blk_lt q4
        have o16_oo1:=Lib.hid (own_ne_new oo1 hn)
        have o16_oo2:=Lib.hid (own_ne_new oo2 hn)
        replace oo1:=owns_alloc hw oo1
        replace fam1:=fam_lift fam1 fun _ _ _ h=>owns_alloc hw h
        replace oo2:=owns_alloc hw oo2
        replace fam2:=fam_lift fam2 fun _ _ _ h=>owns_alloc hw h
        replace q4:=keep_alloc hw q4
        replace E:=ext_alloc E hw
        replace EB:=ext_alloc EB hw
        replace EL1:=ext_alloc EL1 hw
        replace eT:=ext_alloc eT hw
        have q16:=new_row hw hn
        clear hw hn
        refine ⟨fun _=>eT,?_⟩
        have hle9:=E.size
        refine ax_only (i:=9) (by kernel_rfl) (op_call F rfl rfl (by decide) rfl (R_callV rfl rfl Tryz.call11 (mpS (F.at rfl) mp0)) (copyInts_any (w:=_) ⟨ua,uc,rfl,HUR.out.ext EB (by simp)⟩ (by omega)) fun e w23 hR=>?_)
        obtain ⟨ua2,uc2,rfl,uo,e9⟩:=hR
        refine ⟨_,rfl,?_⟩;clear F fa;intro fa F
        replace oo1:=owns_ext oo1 (e9) (by simp)
        replace fam1:=fam_lift fam1 fun _ _ _ h=>owns_ext h (e9) (by simp)
        replace oo2:=owns_ext oo2 (e9) (by simp)
        replace fam2:=fam_lift fam2 fun _ _ _ h=>owns_ext h (e9) (by simp)
        replace q4:=(e9).keep0 q4
        replace q16:=(e9).keep0 q16
        replace E:=ext_same E (e9)
        replace EB:=ext_same EB (e9)
        replace EL1:=ext_same EL1 (e9)
        replace eT:=ext_same eT (e9)
        clear e9
        refine ⟨fun _=>eT,?_⟩
        replace uo:=owns_lower (base':=w.heap.size) uo hle9
        have hle14:=E.size
        refine ax_only (i:=14) (by kernel_rfl) (op_call F rfl rfl (by decide) rfl (R_callV rfl rfl Tryz.call11 (mpS (F.at rfl) mp0)) (copyInts_any (w:=_) ⟨ka,kc,rfl,HKR.out.ext EB (by simp)⟩ (by omega)) fun e w24 hR=>?_)
        obtain ⟨ka2,kc2,rfl,ko,e9⟩:=hR
        refine ⟨_,rfl,?_⟩;clear F fa;intro fa F
        replace oo1:=owns_ext oo1 (e9) (by simp)
        replace fam1:=fam_lift fam1 fun _ _ _ h=>owns_ext h (e9) (by simp)
        replace oo2:=owns_ext oo2 (e9) (by simp)
        replace fam2:=fam_lift fam2 fun _ _ _ h=>owns_ext h (e9) (by simp)
        replace uo:=owns_ext uo (e9) (by simp)
        replace q4:=(e9).keep0 q4
        replace q16:=(e9).keep0 q16
        replace E:=ext_same E (e9)
        replace EB:=ext_same EB (e9)
        replace EL1:=ext_same EL1 (e9)
        replace eT:=ext_same eT (e9)
        clear e9
        refine ⟨fun _=>eT,?_⟩
        replace ko:=owns_lower (base':=w.heap.size) ko hle14
        refine ax_only (i:=16) (by kernel_rfl) (op_to rfl rfl rfl (R_storeRow rfl (F.at rfl) (F.at rfl) (by kernel_rfl) (by first | (simp [Value.oneCell'];done) | (simp [Value.oneCell',id];done)) q16 rfl) ?_);intro w25 hw
        replace oo1:=owns_cellsX hw oo1 (own_ne_type oo1 q16 (by decide))
        replace fam1:=fam_lift fam1 fun _ _ _ h=>owns_cellsX hw h (own_ne_type h q16 (by decide))
        replace oo2:=owns_cellsX hw oo2 (own_ne_type oo2 q16 (by decide))
        replace fam2:=fam_lift fam2 fun _ _ _ h=>owns_cellsX hw h (own_ne_type h q16 (by decide))
        replace uo:=owns_cellsX hw uo (own_ne_type uo q16 (by decide))
        replace ko:=owns_cellsX hw ko (own_ne_type ko q16 (by decide))
        replace q4:=keep_cells hw q4 (by omega)
        replace q16:=put_row hw q16 rfl
        replace E:=ext_cells E hw (fun h=>by first | exact absurd h (by omega) | simp)
        replace EB:=ext_cells EB hw (fun h=>by first | exact absurd h (by omega) | simp)
        replace EL1:=ext_cells EL1 hw (fun h=>by first | exact absurd h (by omega) | simp)
        replace eT:=ext_cells eT hw (fun h=>by first | exact absurd h (by omega) | simp)
        clear hw
        refine ⟨fun _=>eT,?_⟩
        refine F.x (i:=17) rfl (fun w'=>R_assign rfl (F.at rfl)) (fun _=>eT) ?_;clear F fa;intro fa F
        refine F.x (i:=18) rfl (fun w'=>R_assign rfl (F.at rfl)) (fun _=>eT) ?_;clear F fa;intro fa F
        refine ax_done (by kernel_rfl) ?_ _
        exact hcut _ _ _ _ _ _ _ _ (F.sub (.c 10 rfl (.c 13 rfl (.c 14 rfl (.c 15 rfl (.c 16 rfl (.c 17 rfl (.c 18 rfl .n)))))))) q16 E EB EL1 (by omega) (by omega) (by omega) oo1 fam1 oo2 fam2 uo ko HSV
      ·skip
       refine (op_new F rfl rfl (by decide) rfl (R_alloc rfl Tryz.zeroValue24) ?_);clear F fa;intro fa w26 F hw
       obtain ⟨n16,hn⟩ : ∃ n,n = w13.heap.size:=⟨_,rfl⟩
       rw [← hn] at F
       have s16 : w13.heap.size ≤ n16:=Nat.le_of_eq hn.symm
       have l16_E : w.heap.size ≤ n16:=by rw [hn];exact E.size
       have l16_EB : wB.heap.size ≤ n16:=by rw [hn];exact EB.size
       have l16_EL1 : w11.heap.size ≤ n16:=by rw [hn];exact EL1.size
       have lT16 : w12.heap.size ≤ n16:=by rw [hn];exact eT.size
       have m16_4 : n4 < n16:=by rw [hn];exact blk_lt q4
       replace q4:=keep_alloc hw q4
       replace E:=ext_alloc E hw
       replace EB:=ext_alloc EB hw
       replace EL1:=ext_alloc EL1 hw
       replace eT:=ext_alloc eT hw
       have q16:=new_row hw hn
       clear hw hn
       refine ⟨fun _=>eT,?_⟩
       have hle4:=E.size
       refine ax_only (i:=4) (by kernel_rfl) (op_call F rfl rfl (by decide) rfl (R_callV rfl rfl Tryz.call10 (mpS (F.at rfl) mp0)) (copyVat_own (vsI X i) _ ((HVA2.out i (by omega)).ext EB) m1 m2) fun e w27 hR=>?_)
       obtain ⟨u,rfl,huB,hut,huD,huL,oo1,fam1,oo2,fam2,-,e9⟩:=hR
       refine ⟨_,rfl,?_⟩;clear F fa;intro fa F
       replace q4:=(e9).keep0 q4
       replace q16:=(e9).keep0 q16
       replace E:=ext_same E (e9)
       replace EB:=ext_same EB (e9)
       replace EL1:=ext_same EL1 (e9)
       replace eT:=ext_same eT (e9)
       clear e9
       refine ⟨fun _=>eT,?_⟩
       have HSV:=Lib.hid (SameV.mk huB hut huD huL)
       replace oo1:=owns_lower (base':=w.heap.size) oo1 hle4
       replace fam1:=fam_lower fam1 hle4
       replace oo2:=owns_lower (base':=w.heap.size) oo2 hle4
       replace fam2:=fam_lower fam2 hle4
       have hle9:=E.size
       refine ax_only (i:=9) (by kernel_rfl) (op_call F rfl rfl (by decide) rfl (R_callV rfl rfl Tryz.call11 (mpS (F.at rfl) mp0)) (copyInts_any (w:=_) ⟨ua,uc,rfl,HUR.out.ext EB (by simp)⟩ (by omega)) fun e w28 hR=>?_)
       obtain ⟨ua2,uc2,rfl,uo,e9⟩:=hR
       refine ⟨_,rfl,?_⟩;clear F fa;intro fa F
       replace oo1:=owns_ext oo1 (e9) (by simp)
       replace fam1:=fam_lift fam1 fun _ _ _ h=>owns_ext h (e9) (by simp)
       replace oo2:=owns_ext oo2 (e9) (by simp)
       replace fam2:=fam_lift fam2 fun _ _ _ h=>owns_ext h (e9) (by simp)
       replace q4:=(e9).keep0 q4
       replace q16:=(e9).keep0 q16
       replace E:=ext_same E (e9)
       replace EB:=ext_same EB (e9)
       replace EL1:=ext_same EL1 (e9)
       replace eT:=ext_same eT (e9)
       clear e9
       refine ⟨fun _=>eT,?_⟩
       replace uo:=owns_lower (base':=w.heap.size) uo hle9
       have hle14:=E.size
       refine ax_only (i:=14) (by kernel_rfl) (op_call F rfl rfl (by decide) rfl (R_callV rfl rfl Tryz.call11 (mpS (F.at rfl) mp0)) (copyInts_any (w:=_) ⟨ka,kc,rfl,HKR.out.ext EB (by simp)⟩ (by omega)) fun e w29 hR=>?_)
       obtain ⟨ka2,kc2,rfl,ko,e9⟩:=hR
       refine ⟨_,rfl,?_⟩;clear F fa;intro fa F
       replace oo1:=owns_ext oo1 (e9) (by simp)
       replace fam1:=fam_lift fam1 fun _ _ _ h=>owns_ext h (e9) (by simp)
       replace oo2:=owns_ext oo2 (e9) (by simp)
       replace fam2:=fam_lift fam2 fun _ _ _ h=>owns_ext h (e9) (by simp)
       replace uo:=owns_ext uo (e9) (by simp)
       replace q4:=(e9).keep0 q4
       replace q16:=(e9).keep0 q16
       replace E:=ext_same E (e9)
       replace EB:=ext_same EB (e9)
       replace EL1:=ext_same EL1 (e9)
       replace eT:=ext_same eT (e9)
       clear e9
       refine ⟨fun _=>eT,?_⟩
       replace ko:=owns_lower (base':=w.heap.size) ko hle14
       refine ax_only (i:=16) (by kernel_rfl) (op_to rfl rfl rfl (R_storeRow rfl (F.at rfl) (F.at rfl) (by kernel_rfl) (by first | (simp [Value.oneCell'];done) | (simp [Value.oneCell',id];done)) q16 rfl) ?_);intro w30 hw
       replace oo1:=owns_cellsX hw oo1 (own_ne_type oo1 q16 (by decide))
       replace fam1:=fam_lift fam1 fun _ _ _ h=>owns_cellsX hw h (own_ne_type h q16 (by decide))
       replace oo2:=owns_cellsX hw oo2 (own_ne_type oo2 q16 (by decide))
       replace fam2:=fam_lift fam2 fun _ _ _ h=>owns_cellsX hw h (own_ne_type h q16 (by decide))
       replace uo:=owns_cellsX hw uo (own_ne_type uo q16 (by decide))
       replace ko:=owns_cellsX hw ko (own_ne_type ko q16 (by decide))
       replace q4:=keep_cells hw q4 (by omega)
       replace q16:=put_row hw q16 rfl
       replace E:=ext_cells E hw (fun h=>by first | exact absurd h (by omega) | simp)
       replace EB:=ext_cells EB hw (fun h=>by first | exact absurd h (by omega) | simp)
       replace EL1:=ext_cells EL1 hw (fun h=>by first | exact absurd h (by omega) | simp)
       replace eT:=ext_cells eT hw (fun h=>by first | exact absurd h (by omega) | simp)
       clear hw
       refine ⟨fun _=>eT,?_⟩
       refine F.x (i:=17) rfl (fun w'=>R_assign rfl (F.at rfl)) (fun _=>eT) ?_;clear F fa;intro fa F
       refine F.x (i:=18) rfl (fun w'=>R_assign rfl (F.at rfl)) (fun _=>eT) ?_;clear F fa;intro fa F
       refine ax_done (by kernel_rfl) ?_ _
       exact hcut _ _ _ _ _ _ _ _ (F.sub (.c 10 rfl (.c 13 rfl (.c 14 rfl (.c 15 rfl (.c 16 rfl (.c 17 rfl (.c 18 rfl .n)))))))) q16 E EB EL1 (by omega) (by omega) (by omega) oo1 fam1 oo2 fam2 uo ko HSV
     clear F q4 E EB EL1 fa
     intro n16 u ua2 ka2 uc2 kc2 fa w31 F q16 E EB EL1 l16_E l16_EB l16_EL1 oo1 fam1 oo2 fam2 uo ko HSV
     refine hK17 _ _ ?_
     clear hK17
     refine wp_seq_k fun K21 hK21=>?_
     have HU:=Lib.hid (show u.At w31 from ⟨lol_of_own oo1 fam1,lol_of_own oo2 fam2⟩)
     have HU2:=Lib.hid (rows_of_ivs uo rfl)
     have HK2:=Lib.hid (rows_of_ivs ko rfl)
     obtain ⟨wC,hwC⟩ : ∃ wC,wC = w31:=⟨_,rfl⟩
     have EC : Ext [] wC w31:=by rw [hwC];exact Ext.refl _ _
     rw [← hwC] at HU HU2 HK2
     clear oo1 fam1 oo2 fam2 uo ko
     refine wp_region_lit ?_
     refine F.vl (R_loadBlk rfl (F.at rfl) Tryz.underlying24 rfl (by kernel_rfl) q16) ?_;clear F fa;intro fa F
     refine F.mv ?_;clear F fa;intro fa F
     refine F.mv ?_;clear F fa;intro fa F
     obtain ⟨g,hge⟩ : ∃ g,g = rcsV (vsI X i) n k:=⟨_,rfl⟩
     have hco:=xRecipes_any u (small_key m1 HSV.out.D) (small_key m2 HSV.out.L) n (by omega) k (by omega) ua2 ka2 uc2 kc2 w31 (HU.out.ext EC) (HU2.out.ext EC (by simp)) (HK2.out.ext EC (by simp))
     rw [HSV.out.rcsV,← hge] at hco
     refine sq_call F rfl (by decide) rfl (R_callV rfl rfl Tryz.call12 (mpS (F.at rfl) (mpS (F.at rfl) (mpS (F.at rfl) mp0)))) (hco) fun e w32 hR=>?_
     obtain ⟨G,ga,gc,rfl,hGe,og,gfam,e9⟩:=hR
     refine ⟨_,rfl,?_⟩;clear F fa;intro fa F
     replace q16:=(e9).keep0 q16
     replace E:=ext_same E (e9)
     replace EB:=ext_same EB (e9)
     replace EL1:=ext_same EL1 (e9)
     replace EC:=ext_same EC (e9)
     clear e9
     have hgs:=rcs_small (vsI X i) n k
     rw [← hge] at hgs
     have HG:=Lib.hid (lol_of_own og gfam)
     obtain ⟨wG,hwG⟩ : ∃ wG,wG = w32:=⟨_,rfl⟩
     have EG : Ext [] wG w32:=by rw [hwG];exact Ext.refl _ _
     rw [← hwG] at HG
     clear og gfam hco
     refine F.mv ?_;clear F fa;intro fa F
     refine F.vl (R_extract rfl (F.at rfl) (get0)) ?_;clear F fa;intro fa F
     refine F.vl (R_extract rfl (F.at rfl) (getS (get0))) ?_;clear F fa;intro fa F
     refine F.as ?_;clear F fa;intro fa F
     refine F.as ?_;clear F fa;intro fa F
     refine wpList_nil ?_
     refine hK21 _ _ ?_
     clear hK21
     refine wp_seq_k fun K22 hK22=>?_
     refine region_x (Ext [] w32) none follows fun w33 hh eh=>?_
     have q16_:=q16
     replace q16:=keep_same hh q16
     have E_:=E
     have zEw33:=E.size
     replace E:=ext_same E eh
     have EB_:=EB
     have zEBw33:=EB.size
     replace EB:=ext_same EB eh
     have EL1_:=EL1
     have zEL1w33:=EL1.size
     replace EL1:=ext_same EL1 eh
     have EC_:=EC
     have zECw33:=EC.size
     replace EC:=ext_same EC eh
     have EG_:=EG
     have zEGw33:=EG.size
     replace EG:=ext_same EG eh
     have eT:=eh
     clear hh eh
     refine F.x (i:=0) rfl (fun w'=>R_move rfl (F.at rfl)) (fun _=>eT) ?_;clear F fa;intro fa F
     refine F.x (i:=1) rfl (fun w'=>R_move rfl (F.at rfl)) (fun _=>eT) ?_;clear F fa;intro fa F
     obtain ⟨xb23,xo23,xa23,xr23⟩:=HVS2.out i (by omega)
     refine F.x (i:=2) rfl (fun w'=>R_ixSlice (sz:=4) rfl ((F.at rfl).trans (xa23 _ _)) (F.at rfl) Tryz.underlying30 (by kernel_rfl) (by omega) (by omega)) (fun _=>eT) ?_;clear F fa;intro fa F
     refine F.xr (i:=3) rfl (fun w' hS=>R_loadRow rfl (F.at rfl) Tryz.underlying24 rfl (by kernel_rfl) (xr23 _ (EB_.nil hS))) (fun _=>eT) ?_;clear F fa;intro fa F
     refine F.x (i:=4) rfl (fun w'=>R_move rfl (F.at rfl)) (fun _=>eT) ?_;clear F fa;intro fa F
     refine F.x (i:=5) rfl (fun w'=>R_move rfl (F.at rfl)) (fun _=>eT) ?_;clear F fa;intro fa F
     obtain ⟨xb24,xo24,xa24,xr24⟩:=hU1.out i (by omega)
     refine F.x (i:=6) rfl (fun w'=>R_ixSlice (sz:=1) rfl ((F.at rfl).trans (xa24 _ _)) (F.at rfl) Tryz.underlying22 (by kernel_rfl) (by omega) (by omega)) (fun _=>eT) ?_;clear F fa;intro fa F
     refine F.xr (i:=7) rfl (fun w' hS=>R_load rfl (F.at rfl) Tryz.underlying25 rfl (xr24 _ (EB_.nil hS) 0 _ rfl)) (fun _=>eT) ?_;clear F fa;intro fa F
     rw [hua] at F
     refine F.x (i:=8) rfl (fun w'=>R_move rfl (F.at rfl)) (fun _=>eT) ?_;clear F fa;intro fa F
     refine F.x (i:=9) rfl (fun w'=>R_move rfl (F.at rfl)) (fun _=>eT) ?_;clear F fa;intro fa F
     obtain ⟨xb25,xo25,xa25,xr25⟩:=hQ1.out i (by omega)
     refine F.x (i:=10) rfl (fun w'=>R_ixSlice (sz:=1) rfl ((F.at rfl).trans (xa25 _ _)) (F.at rfl) Tryz.underlying22 (by kernel_rfl) (by omega) (by omega)) (fun _=>eT) ?_;clear F fa;intro fa F
     refine F.xr (i:=11) rfl (fun w' hS=>R_load rfl (F.at rfl) Tryz.underlying25 rfl (xr25 _ (EB_.nil hS) 0 _ rfl)) (fun _=>eT) ?_;clear F fa;intro fa F
     rw [hka] at F
     have hdo:=dRecipesV_any (vsI X i) m1 m2 n (by omega) k (by omega) ua ka uc kc w33 ((HVA2.out i (by omega)).ext EB) (HUR.out.ext EB (by simp)) (HKR.out.ext EB (by simp))
     rw [← hge] at hdo
     refine ax_only (i:=12) (by kernel_rfl) (op_call F rfl rfl (by decide) rfl (R_callV rfl rfl Tryz.call13 (mpS (F.at rfl) (mpS (F.at rfl) (mpS (F.at rfl) mp0)))) (hdo) fun e w34 hR=>?_)
     obtain ⟨H,ha,hc,rfl,hHe,hh,e9⟩:=hR
     refine ⟨_,rfl,?_⟩;clear F fa;intro fa F
     replace q16:=(e9).keep0 q16
     replace E:=ext_same E (e9)
     replace EB:=ext_same EB (e9)
     replace EL1:=ext_same EL1 (e9)
     replace EC:=ext_same EC (e9)
     replace EG:=ext_same EG (e9)
     replace eT:=ext_same eT (e9)
     clear e9
     refine ⟨fun _=>eT,?_⟩
     have SH:=small_of hHe hgs.1 hgs.2
     have HH:=Lib.hid hh
     obtain ⟨wH,hwH⟩ : ∃ wH,wH = w34:=⟨_,rfl⟩
     have EH : Ext [] wH w34:=by rw [hwH];exact Ext.refl _ _
     rw [← hwH] at HH
     clear hh hdo
     refine F.x (i:=13) rfl (fun w'=>R_move rfl (F.at rfl)) (fun _=>eT) ?_;clear F fa;intro fa F
     refine F.x (i:=14) rfl (fun w'=>R_extract rfl (F.at rfl) (get0)) (fun _=>eT) ?_;clear F fa;intro fa F
     refine F.x (i:=15) rfl (fun w'=>R_extract rfl (F.at rfl) (getS (get0))) (fun _=>eT) ?_;clear F fa;intro fa F
     refine F.x (i:=16) rfl (fun w'=>R_assign rfl (F.at rfl)) (fun _=>eT) ?_;clear F fa;intro fa F
     refine F.x (i:=17) rfl (fun w'=>R_assign rfl (F.at rfl)) (fun _=>eT) ?_;clear F fa;intro fa F
     refine ax_done (by kernel_rfl) ?_ _
     clear eT q16_ E_ EB_ EL1_ EC_ EG_
     refine hK22 _ _ ?_
     clear hK22
     refine wp_seq_k fun K26 hK26=>?_
     refine wp_region_lit ?_
     refine F.vl (R_loadBlk rfl (F.at rfl) Tryz.underlying24 rfl (by kernel_rfl) q16) ?_;clear F fa;intro fa F
     refine F.mv ?_;clear F fa;intro fa F
     refine F.mv ?_;clear F fa;intro fa F
     obtain ⟨f,hfe⟩ : ∃ f,f = fewV (vsI X i) n k:=⟨_,rfl⟩
     have hco:=xFewest_any u (small_key m1 HSV.out.D) (small_key m2 HSV.out.L) n (by omega) k (by omega) ua2 ka2 uc2 kc2 w34 (HU.out.ext EC) (HU2.out.ext EC (by simp)) (HK2.out.ext EC (by simp))
     rw [HSV.out.fewV,← hfe] at hco
     refine sq_call F rfl (by decide) rfl (R_callV rfl rfl Tryz.call14 (mpS (F.at rfl) (mpS (F.at rfl) (mpS (F.at rfl) mp0)))) (hco) fun e w35 hR=>?_
     obtain ⟨ea,fc,rfl,oef,e9⟩:=hR
     refine ⟨_,rfl,?_⟩;clear F fa;intro fa F
     replace q16:=(e9).keep0 q16
     replace E:=ext_same E (e9)
     replace EB:=ext_same EB (e9)
     replace EL1:=ext_same EL1 (e9)
     replace EC:=ext_same EC (e9)
     replace EG:=ext_same EG (e9)
     replace EH:=ext_same EH (e9)
     clear e9
     have hfl : f.1.length ≤ 1000:=(by have h1:=few_len (vsI X i) n k;have h2:=m1.1;rw [← hfe] at h1;omega)
     have HF:=Lib.hid (rows_of_ivs oef rfl)
     obtain ⟨wF,hwF⟩ : ∃ wF,wF = w35:=⟨_,rfl⟩
     have EF : Ext [] wF w35:=by rw [hwF];exact Ext.refl _ _
     rw [← hwF] at HF
     clear oef hco
     refine F.mv ?_;clear F fa;intro fa F
     refine F.vl (R_extract rfl (F.at rfl) (get0)) ?_;clear F fa;intro fa F
     refine F.vl (R_extract rfl (F.at rfl) (getS (get0))) ?_;clear F fa;intro fa F
     refine F.as ?_;clear F fa;intro fa F
     refine F.as ?_;clear F fa;intro fa F
     refine wpList_nil ?_
     refine hK26 _ _ ?_
     clear hK26
     refine wp_seq_k fun K27 hK27=>?_
     refine region_x (Ext [] w35) none follows fun w36 hh eh=>?_
     have q16_:=q16
     replace q16:=keep_same hh q16
     have E_:=E
     have zEw36:=E.size
     replace E:=ext_same E eh
     have EB_:=EB
     have zEBw36:=EB.size
     replace EB:=ext_same EB eh
     have EL1_:=EL1
     have zEL1w36:=EL1.size
     replace EL1:=ext_same EL1 eh
     have EC_:=EC
     have zECw36:=EC.size
     replace EC:=ext_same EC eh
     have EG_:=EG
     have zEGw36:=EG.size
     replace EG:=ext_same EG eh
     have EH_:=EH
     have zEHw36:=EH.size
     replace EH:=ext_same EH eh
     have EF_:=EF
     have zEFw36:=EF.size
     replace EF:=ext_same EF eh
     have eT:=eh
     clear hh eh
     refine F.x (i:=0) rfl (fun w'=>R_move rfl (F.at rfl)) (fun _=>eT) ?_;clear F fa;intro fa F
     refine F.x (i:=1) rfl (fun w'=>R_move rfl (F.at rfl)) (fun _=>eT) ?_;clear F fa;intro fa F
     obtain ⟨xb28,xo28,xa28,xr28⟩:=HVS2.out i (by omega)
     refine F.x (i:=2) rfl (fun w'=>R_ixSlice (sz:=4) rfl ((F.at rfl).trans (xa28 _ _)) (F.at rfl) Tryz.underlying30 (by kernel_rfl) (by omega) (by omega)) (fun _=>eT) ?_;clear F fa;intro fa F
     refine F.xr (i:=3) rfl (fun w' hS=>R_loadRow rfl (F.at rfl) Tryz.underlying24 rfl (by kernel_rfl) (xr28 _ (EB_.nil hS))) (fun _=>eT) ?_;clear F fa;intro fa F
     refine F.x (i:=4) rfl (fun w'=>R_move rfl (F.at rfl)) (fun _=>eT) ?_;clear F fa;intro fa F
     refine F.x (i:=5) rfl (fun w'=>R_move rfl (F.at rfl)) (fun _=>eT) ?_;clear F fa;intro fa F
     obtain ⟨xb29,xo29,xa29,xr29⟩:=hU1.out i (by omega)
     refine F.x (i:=6) rfl (fun w'=>R_ixSlice (sz:=1) rfl ((F.at rfl).trans (xa29 _ _)) (F.at rfl) Tryz.underlying22 (by kernel_rfl) (by omega) (by omega)) (fun _=>eT) ?_;clear F fa;intro fa F
     refine F.xr (i:=7) rfl (fun w' hS=>R_load rfl (F.at rfl) Tryz.underlying25 rfl (xr29 _ (EB_.nil hS) 0 _ rfl)) (fun _=>eT) ?_;clear F fa;intro fa F
     rw [hua] at F
     refine F.x (i:=8) rfl (fun w'=>R_move rfl (F.at rfl)) (fun _=>eT) ?_;clear F fa;intro fa F
     refine F.x (i:=9) rfl (fun w'=>R_move rfl (F.at rfl)) (fun _=>eT) ?_;clear F fa;intro fa F
     obtain ⟨xb30,xo30,xa30,xr30⟩:=hQ1.out i (by omega)
     refine F.x (i:=10) rfl (fun w'=>R_ixSlice (sz:=1) rfl ((F.at rfl).trans (xa30 _ _)) (F.at rfl) Tryz.underlying22 (by kernel_rfl) (by omega) (by omega)) (fun _=>eT) ?_;clear F fa;intro fa F
     refine F.xr (i:=11) rfl (fun w' hS=>R_load rfl (F.at rfl) Tryz.underlying25 rfl (xr30 _ (EB_.nil hS) 0 _ rfl)) (fun _=>eT) ?_;clear F fa;intro fa F
     rw [hka] at F
     have hdo:=dFewest_any (vsI X i) m1 m2 n (by omega) k (by omega) ua ka uc kc w36 ((HVA2.out i (by omega)).ext EB) (HUR.out.ext EB (by simp)) (HKR.out.ext EB (by simp))
     rw [← hfe] at hdo
     refine ax_only (i:=12) (by kernel_rfl) (op_call F rfl rfl (by decide) rfl (R_callV rfl rfl Tryz.call15 (mpS (F.at rfl) (mpS (F.at rfl) (mpS (F.at rfl) mp0)))) (hdo) fun e w37 hR=>?_)
     obtain ⟨ea2,fc2,rfl,hh,e9⟩:=hR
     refine ⟨_,rfl,?_⟩;clear F fa;intro fa F
     replace q16:=(e9).keep0 q16
     replace E:=ext_same E (e9)
     replace EB:=ext_same EB (e9)
     replace EL1:=ext_same EL1 (e9)
     replace EC:=ext_same EC (e9)
     replace EG:=ext_same EG (e9)
     replace EH:=ext_same EH (e9)
     replace EF:=ext_same EF (e9)
     replace eT:=ext_same eT (e9)
     clear e9
     refine ⟨fun _=>eT,?_⟩
     have HF2:=Lib.hid hh
     obtain ⟨wF2,hwF2⟩ : ∃ wF2,wF2 = w37:=⟨_,rfl⟩
     have EF2 : Ext [] wF2 w37:=by rw [hwF2];exact Ext.refl _ _
     rw [← hwF2] at HF2
     clear hh hdo
     refine F.x (i:=13) rfl (fun w'=>R_move rfl (F.at rfl)) (fun _=>eT) ?_;clear F fa;intro fa F
     refine F.x (i:=14) rfl (fun w'=>R_extract rfl (F.at rfl) (get0)) (fun _=>eT) ?_;clear F fa;intro fa F
     refine F.x (i:=15) rfl (fun w'=>R_extract rfl (F.at rfl) (getS (get0))) (fun _=>eT) ?_;clear F fa;intro fa F
     refine F.x (i:=16) rfl (fun w'=>R_assign rfl (F.at rfl)) (fun _=>eT) ?_;clear F fa;intro fa F
     refine F.x (i:=17) rfl (fun w'=>R_assign rfl (F.at rfl)) (fun _=>eT) ?_;clear F fa;intro fa F
     refine ax_done (by kernel_rfl) ?_ _
     clear eT q16_ E_ EB_ EL1_ EC_ EG_ EH_ EF_
     refine hK27 _ _ ?_
     clear hK27
     refine wp_seq_k fun K31 hK31=>?_
     refine wp_seq_k fun K32 hK32=>?_
     refine wp_region_lit ?_
     refine F.mv ?_;clear F fa;intro fa F
     refine F.mv ?_;clear F fa;intro fa F
     refine F.vl (R_neqB (b:=false) rfl (F.at rfl) (F.at rfl) (decide_eq_true ((by omega)))) ?_;clear F fa;intro fa F
     refine F.mv ?_;clear F fa;intro fa F
     refine F.mv ?_ (hw:=(wantT F rfl rfl (by decide) rfl));clear F fa;intro fa F
     refine F.mv ?_ (hw:=(wantT F rfl rfl (by decide) rfl));clear F fa;intro fa F
     refine F.vl (R_neqB (b:=false) rfl (F.at rfl) (F.at rfl) (decide_eq_true ((by omega)))) ?_ (hw:=(wantT F rfl rfl (by decide) rfl));clear F fa;intro fa F
     refine F.vl (R_pickF rfl (F.at rfl) (F.at rfl)) ?_;clear F fa;intro fa F
     refine F.mv ?_;clear F fa;intro fa F
     refine F.mv ?_ (hw:=(wantT F rfl rfl (by decide) rfl));clear F fa;intro fa F
     refine F.mv ?_ (hw:=(wantT F rfl rfl (by decide) rfl));clear F fa;intro fa F
     refine sq_call F rfl (by decide) (wantT F rfl rfl (by decide) rfl) (R_callV rfl rfl Tryz.call16 (mpS (F.at rfl) (mpS (F.at rfl) mp0))) (sameLists_yes G H (hGe.trans hHe.symm) SH.2 SH.1 ga ha gc hc _ (HG.out.ext EG) (HH.out.ext EH)) fun e w38 hR=>?_
     obtain ⟨rfl,e9⟩:=hR
     refine ⟨_,rfl,?_⟩;clear F fa;intro fa F
     replace q16:=(e9).keep0 q16
     replace E:=ext_same E (e9)
     replace EB:=ext_same EB (e9)
     replace EL1:=ext_same EL1 (e9)
     replace EC:=ext_same EC (e9)
     replace EG:=ext_same EG (e9)
     replace EH:=ext_same EH (e9)
     replace EF:=ext_same EF (e9)
     replace EF2:=ext_same EF2 (e9)
     clear e9
     refine F.vl (R_not rfl (F.at rfl)) ?_ (hw:=(wantT F rfl rfl (by decide) rfl));clear F fa;intro fa F
     refine F.vl (R_pickF rfl (F.at rfl) (F.at rfl)) ?_;clear F fa;intro fa F
     refine F.mv ?_;clear F fa;intro fa F
     refine F.mv ?_ (hw:=(wantT F rfl rfl (by decide) rfl));clear F fa;intro fa F
     refine F.mv ?_ (hw:=(wantT F rfl rfl (by decide) rfl));clear F fa;intro fa F
     refine sq_call F rfl (by decide) (wantT F rfl rfl (by decide) rfl) (R_callV rfl rfl Tryz.call17 (mpS (F.at rfl) (mpS (F.at rfl) mp0))) (sameInts_any f.1 f.1 ea ea2 fc fc2 _ (HF.out.ext EF (by simp)) (HF2.out.ext EF2 (by simp)) (by omega) (by omega)) fun e w39 hR=>?_
     obtain ⟨rfl,e9⟩:=hR
     refine ⟨_,rfl,?_⟩;clear F fa;intro fa F
     replace q16:=(e9).keep0 q16
     replace E:=ext_same E (e9)
     replace EB:=ext_same EB (e9)
     replace EL1:=ext_same EL1 (e9)
     replace EC:=ext_same EC (e9)
     replace EG:=ext_same EG (e9)
     replace EH:=ext_same EH (e9)
     replace EF:=ext_same EF (e9)
     replace EF2:=ext_same EF2 (e9)
     clear e9
     rw [eqb_self] at F
     refine F.vl (R_not rfl (F.at rfl)) ?_ (hw:=(wantT F rfl rfl (by decide) rfl));clear F fa;intro fa F
     refine F.vl (R_pickF rfl (F.at rfl) (F.at rfl)) ?_;clear F fa;intro fa F
     refine wpList_nil ?_
     refine hK32 _ _ ?_
     clear hK32
     refine cd_F F rfl ?_
     refine wp_skip ?_
     refine hK31 _ _ ?_
     clear hK31
     refine wp_seq_k fun K33 hK33=>?_
     replace F:=F.sub (.c 10 rfl (.c 13 rfl (.c 14 rfl (.c 15 rfl (.c 16 rfl (.c 17 rfl (.c 18 rfl .n)))))))
     refine wp_region_lit ?_
     refine F.vl (R_loadBlk rfl (F.at rfl) Tryz.underlying24 rfl (by kernel_rfl) q16) ?_;clear F fa;intro fa F
     refine F.mv ?_;clear F fa;intro fa F
     refine F.mv ?_;clear F fa;intro fa F
     obtain ⟨d,hde⟩ : ∃ d,d = nedV (vsI X i) n k:=⟨_,rfl⟩
     have hco:=xNeed_any u (small_key m1 HSV.out.D) (small_key m2 HSV.out.L) n (by omega) k (by omega) ua2 ka2 uc2 kc2 w39 (HU.out.ext EC) (HU2.out.ext EC (by simp)) (HK2.out.ext EC (by simp))
     rw [HSV.out.nedV,← hde] at hco
     refine sq_call F rfl (by decide) rfl (R_callV rfl rfl Tryz.call18 (mpS (F.at rfl) (mpS (F.at rfl) (mpS (F.at rfl) mp0)))) (hco) fun e w40 hR=>?_
     obtain ⟨rfl,e9⟩:=hR
     refine ⟨_,rfl,?_⟩;clear F fa;intro fa F
     replace q16:=(e9).keep0 q16
     replace E:=ext_same E (e9)
     replace EB:=ext_same EB (e9)
     replace EL1:=ext_same EL1 (e9)
     replace EC:=ext_same EC (e9)
     replace EG:=ext_same EG (e9)
     replace EH:=ext_same EH (e9)
     replace EF:=ext_same EF (e9)
     replace EF2:=ext_same EF2 (e9)
     clear e9
     clear hco
     refine F.mv ?_;clear F fa;intro fa F
     refine F.vl (R_extract rfl (F.at rfl) (get0)) ?_;clear F fa;intro fa F
     refine F.vl (R_extract rfl (F.at rfl) (getS (get0))) ?_;clear F fa;intro fa F
     refine F.as ?_;clear F fa;intro fa F
     refine F.as ?_;clear F fa;intro fa F
     refine wpList_nil ?_
     refine hK33 _ _ ?_
     clear hK33
     refine wp_seq_k fun K34 hK34=>?_
     refine region_x (Ext [] w40) none follows fun w41 hh eh=>?_
     have q16_:=q16
     replace q16:=keep_same hh q16
     have E_:=E
     have zEw41:=E.size
     replace E:=ext_same E eh
     have EB_:=EB
     have zEBw41:=EB.size
     replace EB:=ext_same EB eh
     have EL1_:=EL1
     have zEL1w41:=EL1.size
     replace EL1:=ext_same EL1 eh
     have EC_:=EC
     have zECw41:=EC.size
     replace EC:=ext_same EC eh
     have EG_:=EG
     have zEGw41:=EG.size
     replace EG:=ext_same EG eh
     have EH_:=EH
     have zEHw41:=EH.size
     replace EH:=ext_same EH eh
     have EF_:=EF
     have zEFw41:=EF.size
     replace EF:=ext_same EF eh
     have EF2_:=EF2
     have zEF2w41:=EF2.size
     replace EF2:=ext_same EF2 eh
     have eT:=eh
     clear hh eh
     refine F.x (i:=0) rfl (fun w'=>R_move rfl (F.at rfl)) (fun _=>eT) ?_;clear F fa;intro fa F
     refine F.x (i:=1) rfl (fun w'=>R_move rfl (F.at rfl)) (fun _=>eT) ?_;clear F fa;intro fa F
     obtain ⟨xb35,xo35,xa35,xr35⟩:=HVS2.out i (by omega)
     refine F.x (i:=2) rfl (fun w'=>R_ixSlice (sz:=4) rfl ((F.at rfl).trans (xa35 _ _)) (F.at rfl) Tryz.underlying30 (by kernel_rfl) (by omega) (by omega)) (fun _=>eT) ?_;clear F fa;intro fa F
     refine F.xr (i:=3) rfl (fun w' hS=>R_loadRow rfl (F.at rfl) Tryz.underlying24 rfl (by kernel_rfl) (xr35 _ (EB_.nil hS))) (fun _=>eT) ?_;clear F fa;intro fa F
     refine F.x (i:=4) rfl (fun w'=>R_move rfl (F.at rfl)) (fun _=>eT) ?_;clear F fa;intro fa F
     refine F.x (i:=5) rfl (fun w'=>R_move rfl (F.at rfl)) (fun _=>eT) ?_;clear F fa;intro fa F
     obtain ⟨xb36,xo36,xa36,xr36⟩:=hU1.out i (by omega)
     refine F.x (i:=6) rfl (fun w'=>R_ixSlice (sz:=1) rfl ((F.at rfl).trans (xa36 _ _)) (F.at rfl) Tryz.underlying22 (by kernel_rfl) (by omega) (by omega)) (fun _=>eT) ?_;clear F fa;intro fa F
     refine F.xr (i:=7) rfl (fun w' hS=>R_load rfl (F.at rfl) Tryz.underlying25 rfl (xr36 _ (EB_.nil hS) 0 _ rfl)) (fun _=>eT) ?_;clear F fa;intro fa F
     rw [hua] at F
     refine F.x (i:=8) rfl (fun w'=>R_move rfl (F.at rfl)) (fun _=>eT) ?_;clear F fa;intro fa F
     refine F.x (i:=9) rfl (fun w'=>R_move rfl (F.at rfl)) (fun _=>eT) ?_;clear F fa;intro fa F
     obtain ⟨xb37,xo37,xa37,xr37⟩:=hQ1.out i (by omega)
     refine F.x (i:=10) rfl (fun w'=>R_ixSlice (sz:=1) rfl ((F.at rfl).trans (xa37 _ _)) (F.at rfl) Tryz.underlying22 (by kernel_rfl) (by omega) (by omega)) (fun _=>eT) ?_;clear F fa;intro fa F
     refine F.xr (i:=11) rfl (fun w' hS=>R_load rfl (F.at rfl) Tryz.underlying25 rfl (xr37 _ (EB_.nil hS) 0 _ rfl)) (fun _=>eT) ?_;clear F fa;intro fa F
     rw [hka] at F
     have hdo:=dNeed_any (vsI X i) m1 m2 n (by omega) k (by omega) ua ka uc kc w41 ((HVA2.out i (by omega)).ext EB) (HUR.out.ext EB (by simp)) (HKR.out.ext EB (by simp))
     rw [← hde] at hdo
     refine ax_only (i:=12) (by kernel_rfl) (op_call F rfl rfl (by decide) rfl (R_callV rfl rfl Tryz.call19 (mpS (F.at rfl) (mpS (F.at rfl) (mpS (F.at rfl) mp0)))) (hdo) fun e w42 hR=>?_)
     obtain ⟨rfl,e9⟩:=hR
     refine ⟨_,rfl,?_⟩;clear F fa;intro fa F
     replace q16:=(e9).keep0 q16
     replace E:=ext_same E (e9)
     replace EB:=ext_same EB (e9)
     replace EL1:=ext_same EL1 (e9)
     replace EC:=ext_same EC (e9)
     replace EG:=ext_same EG (e9)
     replace EH:=ext_same EH (e9)
     replace EF:=ext_same EF (e9)
     replace EF2:=ext_same EF2 (e9)
     replace eT:=ext_same eT (e9)
     clear e9
     refine ⟨fun _=>eT,?_⟩
     clear hdo
     refine F.x (i:=13) rfl (fun w'=>R_move rfl (F.at rfl)) (fun _=>eT) ?_;clear F fa;intro fa F
     refine F.x (i:=14) rfl (fun w'=>R_extract rfl (F.at rfl) (get0)) (fun _=>eT) ?_;clear F fa;intro fa F
     refine F.x (i:=15) rfl (fun w'=>R_extract rfl (F.at rfl) (getS (get0))) (fun _=>eT) ?_;clear F fa;intro fa F
     refine F.x (i:=16) rfl (fun w'=>R_assign rfl (F.at rfl)) (fun _=>eT) ?_;clear F fa;intro fa F
     refine F.x (i:=17) rfl (fun w'=>R_assign rfl (F.at rfl)) (fun _=>eT) ?_;clear F fa;intro fa F
     refine ax_done (by kernel_rfl) ?_ _
     clear eT q16_ E_ EB_ EL1_ EC_ EG_ EH_ EF_ EF2_
     refine hK34 _ _ ?_
     clear hK34
     refine wp_seq_k fun K38 hK38=>?_
     refine wp_region_lit ?_
     refine F.vl (R_loadBlk rfl (F.at rfl) Tryz.underlying24 rfl (by kernel_rfl) q16) ?_;clear F fa;intro fa F
     refine F.mv ?_;clear F fa;intro fa F
     refine F.mv ?_;clear F fa;intro fa F
     obtain ⟨r,hre⟩ : ∃ r,r = spaV (vsI X i) n k:=⟨_,rfl⟩
     have hco:=xSpare_any u (small_key m1 HSV.out.D) (small_key m2 HSV.out.L) n (by omega) k (by omega) ua2 ka2 uc2 kc2 w42 (HU.out.ext EC) (HU2.out.ext EC (by simp)) (HK2.out.ext EC (by simp))
     rw [HSV.out.spaV,← hre] at hco
     refine sq_call F rfl (by decide) rfl (R_callV rfl rfl Tryz.call20 (mpS (F.at rfl) (mpS (F.at rfl) (mpS (F.at rfl) mp0)))) (hco) fun e w43 hR=>?_
     obtain ⟨ra,rc,rfl,orr,e9⟩:=hR
     refine ⟨_,rfl,?_⟩;clear F fa;intro fa F
     replace q16:=(e9).keep0 q16
     replace E:=ext_same E (e9)
     replace EB:=ext_same EB (e9)
     replace EL1:=ext_same EL1 (e9)
     replace EC:=ext_same EC (e9)
     replace EG:=ext_same EG (e9)
     replace EH:=ext_same EH (e9)
     replace EF:=ext_same EF (e9)
     replace EF2:=ext_same EF2 (e9)
     clear e9
     have hrl : r.1.length ≤ 1000:=(by have h1:=spa_len (vsI X i) n k;have h2:=m1.1;rw [← hre] at h1;omega)
     have HRR:=Lib.hid (rows_of_ivs orr rfl)
     obtain ⟨wR,hwR⟩ : ∃ wR,wR = w43:=⟨_,rfl⟩
     have ER : Ext [] wR w43:=by rw [hwR];exact Ext.refl _ _
     rw [← hwR] at HRR
     clear orr hco
     refine F.mv ?_;clear F fa;intro fa F
     refine F.vl (R_extract rfl (F.at rfl) (get0)) ?_;clear F fa;intro fa F
     refine F.vl (R_extract rfl (F.at rfl) (getS (get0))) ?_;clear F fa;intro fa F
     refine F.as ?_;clear F fa;intro fa F
     refine F.as ?_;clear F fa;intro fa F
     refine wpList_nil ?_
     refine hK38 _ _ ?_
     clear hK38
     refine wp_seq_k fun K39 hK39=>?_
     refine region_x (Ext [] w43) none follows fun w44 hh eh=>?_
     have q16_:=q16
     replace q16:=keep_same hh q16
     have E_:=E
     have zEw44:=E.size
     replace E:=ext_same E eh
     have EB_:=EB
     have zEBw44:=EB.size
     replace EB:=ext_same EB eh
     have EL1_:=EL1
     have zEL1w44:=EL1.size
     replace EL1:=ext_same EL1 eh
     have EC_:=EC
     have zECw44:=EC.size
     replace EC:=ext_same EC eh
     have EG_:=EG
     have zEGw44:=EG.size
     replace EG:=ext_same EG eh
     have EH_:=EH
     have zEHw44:=EH.size
     replace EH:=ext_same EH eh
     have EF_:=EF
     have zEFw44:=EF.size
     replace EF:=ext_same EF eh
     have EF2_:=EF2
     have zEF2w44:=EF2.size
     replace EF2:=ext_same EF2 eh
     have ER_:=ER
     have zERw44:=ER.size
     replace ER:=ext_same ER eh
     have eT:=eh
     clear hh eh
     refine F.x (i:=0) rfl (fun w'=>R_move rfl (F.at rfl)) (fun _=>eT) ?_;clear F fa;intro fa F
     refine F.x (i:=1) rfl (fun w'=>R_move rfl (F.at rfl)) (fun _=>eT) ?_;clear F fa;intro fa F
     obtain ⟨xb40,xo40,xa40,xr40⟩:=HVS2.out i (by omega)
     refine F.x (i:=2) rfl (fun w'=>R_ixSlice (sz:=4) rfl ((F.at rfl).trans (xa40 _ _)) (F.at rfl) Tryz.underlying30 (by kernel_rfl) (by omega) (by omega)) (fun _=>eT) ?_;clear F fa;intro fa F
     refine F.xr (i:=3) rfl (fun w' hS=>R_loadRow rfl (F.at rfl) Tryz.underlying24 rfl (by kernel_rfl) (xr40 _ (EB_.nil hS))) (fun _=>eT) ?_;clear F fa;intro fa F
     refine F.x (i:=4) rfl (fun w'=>R_move rfl (F.at rfl)) (fun _=>eT) ?_;clear F fa;intro fa F
     refine F.x (i:=5) rfl (fun w'=>R_move rfl (F.at rfl)) (fun _=>eT) ?_;clear F fa;intro fa F
     obtain ⟨xb41,xo41,xa41,xr41⟩:=hU1.out i (by omega)
     refine F.x (i:=6) rfl (fun w'=>R_ixSlice (sz:=1) rfl ((F.at rfl).trans (xa41 _ _)) (F.at rfl) Tryz.underlying22 (by kernel_rfl) (by omega) (by omega)) (fun _=>eT) ?_;clear F fa;intro fa F
     refine F.xr (i:=7) rfl (fun w' hS=>R_load rfl (F.at rfl) Tryz.underlying25 rfl (xr41 _ (EB_.nil hS) 0 _ rfl)) (fun _=>eT) ?_;clear F fa;intro fa F
     rw [hua] at F
     refine F.x (i:=8) rfl (fun w'=>R_move rfl (F.at rfl)) (fun _=>eT) ?_;clear F fa;intro fa F
     refine F.x (i:=9) rfl (fun w'=>R_move rfl (F.at rfl)) (fun _=>eT) ?_;clear F fa;intro fa F
     obtain ⟨xb42,xo42,xa42,xr42⟩:=hQ1.out i (by omega)
     refine F.x (i:=10) rfl (fun w'=>R_ixSlice (sz:=1) rfl ((F.at rfl).trans (xa42 _ _)) (F.at rfl) Tryz.underlying22 (by kernel_rfl) (by omega) (by omega)) (fun _=>eT) ?_;clear F fa;intro fa F
     refine F.xr (i:=11) rfl (fun w' hS=>R_load rfl (F.at rfl) Tryz.underlying25 rfl (xr42 _ (EB_.nil hS) 0 _ rfl)) (fun _=>eT) ?_;clear F fa;intro fa F
     rw [hka] at F
     have hdo:=dSpare_any (vsI X i) m1 m2 n (by omega) k (by omega) ua ka uc kc w44 ((HVA2.out i (by omega)).ext EB) (HUR.out.ext EB (by simp)) (HKR.out.ext EB (by simp))
     rw [← hre] at hdo
     refine ax_only (i:=12) (by kernel_rfl) (op_call F rfl rfl (by decide) rfl (R_callV rfl rfl Tryz.call21 (mpS (F.at rfl) (mpS (F.at rfl) (mpS (F.at rfl) mp0)))) (hdo) fun e w45 hR=>?_)
     obtain ⟨ra2,rc2,rfl,hh,e9⟩:=hR
     refine ⟨_,rfl,?_⟩;clear F fa;intro fa F
     replace q16:=(e9).keep0 q16
     replace E:=ext_same E (e9)
     replace EB:=ext_same EB (e9)
     replace EL1:=ext_same EL1 (e9)
     replace EC:=ext_same EC (e9)
     replace EG:=ext_same EG (e9)
     replace EH:=ext_same EH (e9)
     replace EF:=ext_same EF (e9)
     replace EF2:=ext_same EF2 (e9)
     replace ER:=ext_same ER (e9)
     replace eT:=ext_same eT (e9)
     clear e9
     refine ⟨fun _=>eT,?_⟩
     have HR2:=Lib.hid hh
     obtain ⟨wR2,hwR2⟩ : ∃ wR2,wR2 = w45:=⟨_,rfl⟩
     have ER2 : Ext [] wR2 w45:=by rw [hwR2];exact Ext.refl _ _
     rw [← hwR2] at HR2
     clear hh hdo
     refine F.x (i:=13) rfl (fun w'=>R_move rfl (F.at rfl)) (fun _=>eT) ?_;clear F fa;intro fa F
     refine F.x (i:=14) rfl (fun w'=>R_extract rfl (F.at rfl) (get0)) (fun _=>eT) ?_;clear F fa;intro fa F
     refine F.x (i:=15) rfl (fun w'=>R_extract rfl (F.at rfl) (getS (get0))) (fun _=>eT) ?_;clear F fa;intro fa F
     refine F.x (i:=16) rfl (fun w'=>R_assign rfl (F.at rfl)) (fun _=>eT) ?_;clear F fa;intro fa F
     refine F.x (i:=17) rfl (fun w'=>R_assign rfl (F.at rfl)) (fun _=>eT) ?_;clear F fa;intro fa F
     refine ax_done (by kernel_rfl) ?_ _
     clear eT q16_ E_ EB_ EL1_ EC_ EG_ EH_ EF_ EF2_ ER_
     refine hK39 _ _ ?_
     clear hK39
     refine wp_seq_k fun K43 hK43=>?_
     refine region_x (Ext [] w45) none follows fun w46 hh eh=>?_
     have q16_:=q16
     replace q16:=keep_same hh q16
     have E_:=E
     have zEw46:=E.size
     replace E:=ext_same E eh
     have EB_:=EB
     have zEBw46:=EB.size
     replace EB:=ext_same EB eh
     have EL1_:=EL1
     have zEL1w46:=EL1.size
     replace EL1:=ext_same EL1 eh
     have EC_:=EC
     have zECw46:=EC.size
     replace EC:=ext_same EC eh
     have EG_:=EG
     have zEGw46:=EG.size
     replace EG:=ext_same EG eh
     have EH_:=EH
     have zEHw46:=EH.size
     replace EH:=ext_same EH eh
     have EF_:=EF
     have zEFw46:=EF.size
     replace EF:=ext_same EF eh
     have EF2_:=EF2
     have zEF2w46:=EF2.size
     replace EF2:=ext_same EF2 eh
     have ER_:=ER
     have zERw46:=ER.size
     replace ER:=ext_same ER eh
     have ER2_:=ER2
     have zER2w46:=ER2.size
     replace ER2:=ext_same ER2 eh
     have eT:=eh
     clear hh eh
     refine F.x (i:=0) rfl (fun w'=>R_move rfl (F.at rfl)) (fun _=>eT) ?_;clear F fa;intro fa F
     refine F.x (i:=1) rfl (fun w'=>R_move rfl (F.at rfl)) (fun _=>eT) ?_;clear F fa;intro fa F
     refine F.x (i:=2) rfl (fun w'=>R_neqB (b:=false) rfl (F.at rfl) (F.at rfl) (decide_eq_true ((by omega)))) (fun _=>eT) ?_;clear F fa;intro fa F
     refine F.x (i:=3) rfl (fun w'=>R_move rfl (F.at rfl)) (fun _=>eT) ?_;clear F fa;intro fa F
     refine F.x (i:=4) rfl (fun w'=>R_move rfl (F.at rfl)) (fun _=>eT) ?_ (hw:=(wantT F rfl rfl (by decide) rfl));clear F fa;intro fa F
     refine F.x (i:=5) rfl (fun w'=>R_move rfl (F.at rfl)) (fun _=>eT) ?_ (hw:=(wantT F rfl rfl (by decide) rfl));clear F fa;intro fa F
     refine F.x (i:=6) rfl (fun w'=>R_neqB (b:=false) rfl (F.at rfl) (F.at rfl) (decide_eq_true ((by omega)))) (fun _=>eT) ?_ (hw:=(wantT F rfl rfl (by decide) rfl));clear F fa;intro fa F
     refine F.x (i:=7) rfl (fun w'=>R_pickF rfl (F.at rfl) (F.at rfl)) (fun _=>eT) ?_;clear F fa;intro fa F
     refine F.x (i:=8) rfl (fun w'=>R_move rfl (F.at rfl)) (fun _=>eT) ?_;clear F fa;intro fa F
     refine F.x (i:=9) rfl (fun w'=>R_move rfl (F.at rfl)) (fun _=>eT) ?_ (hw:=(wantT F rfl rfl (by decide) rfl));clear F fa;intro fa F
     refine F.x (i:=10) rfl (fun w'=>R_move rfl (F.at rfl)) (fun _=>eT) ?_ (hw:=(wantT F rfl rfl (by decide) rfl));clear F fa;intro fa F
     refine F.x (i:=11) rfl (fun w'=>R_neqB (b:=false) rfl (F.at rfl) (F.at rfl) (decide_eq_true ((by omega)))) (fun _=>eT) ?_ (hw:=(wantT F rfl rfl (by decide) rfl));clear F fa;intro fa F
     refine F.x (i:=12) rfl (fun w'=>R_pickF rfl (F.at rfl) (F.at rfl)) (fun _=>eT) ?_;clear F fa;intro fa F
     refine F.x (i:=13) rfl (fun w'=>R_move rfl (F.at rfl)) (fun _=>eT) ?_;clear F fa;intro fa F
     refine F.x (i:=14) rfl (fun w'=>R_move rfl (F.at rfl)) (fun _=>eT) ?_ (hw:=(wantT F rfl rfl (by decide) rfl));clear F fa;intro fa F
     refine F.x (i:=15) rfl (fun w'=>R_move rfl (F.at rfl)) (fun _=>eT) ?_ (hw:=(wantT F rfl rfl (by decide) rfl));clear F fa;intro fa F
     refine ax_only (i:=16) (by kernel_rfl) (op_call F rfl rfl (by decide) (wantT F rfl rfl (by decide) rfl) (R_callV rfl rfl Tryz.call17 (mpS (F.at rfl) (mpS (F.at rfl) mp0))) (sameInts_any r.1 r.1 ra ra2 rc rc2 _ (HRR.out.ext ER (by simp)) (HR2.out.ext ER2 (by simp)) (by omega) (by omega)) fun e w47 hR=>?_)
     obtain ⟨rfl,e9⟩:=hR
     refine ⟨_,rfl,?_⟩;clear F fa;intro fa F
     replace q16:=(e9).keep0 q16
     replace E:=ext_same E (e9)
     replace EB:=ext_same EB (e9)
     replace EL1:=ext_same EL1 (e9)
     replace EC:=ext_same EC (e9)
     replace EG:=ext_same EG (e9)
     replace EH:=ext_same EH (e9)
     replace EF:=ext_same EF (e9)
     replace EF2:=ext_same EF2 (e9)
     replace ER:=ext_same ER (e9)
     replace ER2:=ext_same ER2 (e9)
     replace eT:=ext_same eT (e9)
     clear e9
     refine ⟨fun _=>eT,?_⟩
     rw [eqb_self] at F
     refine F.x (i:=17) rfl (fun w'=>R_not rfl (F.at rfl)) (fun _=>eT) ?_ (hw:=(wantT F rfl rfl (by decide) rfl));clear F fa;intro fa F
     refine F.x (i:=18) rfl (fun w'=>R_pickF rfl (F.at rfl) (F.at rfl)) (fun _=>eT) ?_;clear F fa;intro fa F
     refine F.x (i:=19) rfl (fun w'=>R_move rfl (F.at rfl)) (fun _=>eT) ?_;clear F fa;intro fa F
     refine F.xr (i:=20) rfl (fun w' hS=>R_loadBlk rfl (F.at rfl) Tryz.underlying24 rfl (by kernel_rfl) (hS.keep q16_ (by simp))) (fun _=>eT) ?_ (hw:=(wantT F rfl rfl (by decide) rfl));clear F fa;intro fa F
     refine F.x (i:=21) rfl (fun w'=>R_move rfl (F.at rfl)) (fun _=>eT) ?_ (hw:=(wantT F rfl rfl (by decide) rfl));clear F fa;intro fa F
     refine F.x (i:=22) rfl (fun w'=>R_move rfl (F.at rfl)) (fun _=>eT) ?_ (hw:=(wantT F rfl rfl (by decide) rfl));clear F fa;intro fa F
     obtain ⟨xb44,xo44,xa44,xr44⟩:=HVS2.out i (by omega)
     refine F.x (i:=23) rfl (fun w'=>R_ixSlice (sz:=4) rfl ((F.at rfl).trans (xa44 _ _)) (F.at rfl) Tryz.underlying30 (by kernel_rfl) (by omega) (by omega)) (fun _=>eT) ?_ (hw:=(wantT F rfl rfl (by decide) rfl));clear F fa;intro fa F
     refine F.xr (i:=24) rfl (fun w' hS=>R_loadRow rfl (F.at rfl) Tryz.underlying24 rfl (by kernel_rfl) (xr44 _ (EB_.nil hS))) (fun _=>eT) ?_ (hw:=(wantT F rfl rfl (by decide) rfl));clear F fa;intro fa F
     refine ax_only (i:=25) (by kernel_rfl) (op_call F rfl rfl (by decide) (wantT F rfl rfl (by decide) rfl) (R_callV rfl rfl Tryz.call22 (mpS (F.at rfl) (mpS (F.at rfl) mp0))) (sameVats_yes u (vsI X i) _ (HU.out.ext EC) ((HVA2.out i (by omega)).ext EB) m1 m2 HSV.out.B HSV.out.tol HSV.out.D HSV.out.L) fun e w48 hR=>?_)
     obtain ⟨rfl,e9⟩:=hR
     refine ⟨_,rfl,?_⟩;clear F fa;intro fa F
     replace q16:=(e9).keep0 q16
     replace E:=ext_same E (e9)
     replace EB:=ext_same EB (e9)
     replace EL1:=ext_same EL1 (e9)
     replace EC:=ext_same EC (e9)
     replace EG:=ext_same EG (e9)
     replace EH:=ext_same EH (e9)
     replace EF:=ext_same EF (e9)
     replace EF2:=ext_same EF2 (e9)
     replace ER:=ext_same ER (e9)
     replace ER2:=ext_same ER2 (e9)
     replace eT:=ext_same eT (e9)
     clear e9
     refine ⟨fun _=>eT,?_⟩
     refine F.x (i:=26) rfl (fun w'=>R_not rfl (F.at rfl)) (fun _=>eT) ?_ (hw:=(wantT F rfl rfl (by decide) rfl));clear F fa;intro fa F
     refine F.x (i:=27) rfl (fun w'=>R_pickF rfl (F.at rfl) (F.at rfl)) (fun _=>eT) ?_;clear F fa;intro fa F
     refine F.x (i:=28) rfl (fun w'=>R_move rfl (F.at rfl)) (fun _=>eT) ?_;clear F fa;intro fa F
     refine F.x (i:=29) rfl (fun w'=>R_move rfl (F.at rfl)) (fun _=>eT) ?_ (hw:=(wantT F rfl rfl (by decide) rfl));clear F fa;intro fa F
     refine F.x (i:=30) rfl (fun w'=>R_move rfl (F.at rfl)) (fun _=>eT) ?_ (hw:=(wantT F rfl rfl (by decide) rfl));clear F fa;intro fa F
     refine F.x (i:=31) rfl (fun w'=>R_move rfl (F.at rfl)) (fun _=>eT) ?_ (hw:=(wantT F rfl rfl (by decide) rfl));clear F fa;intro fa F
     obtain ⟨xb45,xo45,xa45,xr45⟩:=hU1.out i (by omega)
     refine F.x (i:=32) rfl (fun w'=>R_ixSlice (sz:=1) rfl ((F.at rfl).trans (xa45 _ _)) (F.at rfl) Tryz.underlying22 (by kernel_rfl) (by omega) (by omega)) (fun _=>eT) ?_ (hw:=(wantT F rfl rfl (by decide) rfl));clear F fa;intro fa F
     refine F.xr (i:=33) rfl (fun w' hS=>R_load rfl (F.at rfl) Tryz.underlying25 rfl (xr45 _ (EB_.nil hS) 0 _ rfl)) (fun _=>eT) ?_ (hw:=(wantT F rfl rfl (by decide) rfl));clear F fa;intro fa F
     rw [hua] at F
     refine ax_only (i:=34) (by kernel_rfl) (op_call F rfl rfl (by decide) (wantT F rfl rfl (by decide) rfl) (R_callV rfl rfl Tryz.call17 (mpS (F.at rfl) (mpS (F.at rfl) mp0))) (sameInts_any n n ua2 ua uc2 uc _ (HU2.out.ext EC (by simp)) (HUR.out.ext EB (by simp)) (by omega) (by omega)) fun e w49 hR=>?_)
     obtain ⟨rfl,e9⟩:=hR
     refine ⟨_,rfl,?_⟩;clear F fa;intro fa F
     replace q16:=(e9).keep0 q16
     replace E:=ext_same E (e9)
     replace EB:=ext_same EB (e9)
     replace EL1:=ext_same EL1 (e9)
     replace EC:=ext_same EC (e9)
     replace EG:=ext_same EG (e9)
     replace EH:=ext_same EH (e9)
     replace EF:=ext_same EF (e9)
     replace EF2:=ext_same EF2 (e9)
     replace ER:=ext_same ER (e9)
     replace ER2:=ext_same ER2 (e9)
     replace eT:=ext_same eT (e9)
     clear e9
     refine ⟨fun _=>eT,?_⟩
     rw [eqb_self] at F
     refine F.x (i:=35) rfl (fun w'=>R_not rfl (F.at rfl)) (fun _=>eT) ?_ (hw:=(wantT F rfl rfl (by decide) rfl));clear F fa;intro fa F
     refine F.x (i:=36) rfl (fun w'=>R_pickF rfl (F.at rfl) (F.at rfl)) (fun _=>eT) ?_;clear F fa;intro fa F
     refine F.x (i:=37) rfl (fun w'=>R_move rfl (F.at rfl)) (fun _=>eT) ?_;clear F fa;intro fa F
     refine F.x (i:=38) rfl (fun w'=>R_move rfl (F.at rfl)) (fun _=>eT) ?_ (hw:=(wantT F rfl rfl (by decide) rfl));clear F fa;intro fa F
     refine F.x (i:=39) rfl (fun w'=>R_move rfl (F.at rfl)) (fun _=>eT) ?_ (hw:=(wantT F rfl rfl (by decide) rfl));clear F fa;intro fa F
     refine F.x (i:=40) rfl (fun w'=>R_move rfl (F.at rfl)) (fun _=>eT) ?_ (hw:=(wantT F rfl rfl (by decide) rfl));clear F fa;intro fa F
     obtain ⟨xb46,xo46,xa46,xr46⟩:=hQ1.out i (by omega)
     refine F.x (i:=41) rfl (fun w'=>R_ixSlice (sz:=1) rfl ((F.at rfl).trans (xa46 _ _)) (F.at rfl) Tryz.underlying22 (by kernel_rfl) (by omega) (by omega)) (fun _=>eT) ?_ (hw:=(wantT F rfl rfl (by decide) rfl));clear F fa;intro fa F
     refine F.xr (i:=42) rfl (fun w' hS=>R_load rfl (F.at rfl) Tryz.underlying25 rfl (xr46 _ (EB_.nil hS) 0 _ rfl)) (fun _=>eT) ?_ (hw:=(wantT F rfl rfl (by decide) rfl));clear F fa;intro fa F
     rw [hka] at F
     refine ax_only (i:=43) (by kernel_rfl) (op_call F rfl rfl (by decide) (wantT F rfl rfl (by decide) rfl) (R_callV rfl rfl Tryz.call17 (mpS (F.at rfl) (mpS (F.at rfl) mp0))) (sameInts_any k k ka2 ka kc2 kc _ (HK2.out.ext EC (by simp)) (HKR.out.ext EB (by simp)) (by omega) (by omega)) fun e w50 hR=>?_)
     obtain ⟨rfl,e9⟩:=hR
     refine ⟨_,rfl,?_⟩;clear F fa;intro fa F
     replace q16:=(e9).keep0 q16
     replace E:=ext_same E (e9)
     replace EB:=ext_same EB (e9)
     replace EL1:=ext_same EL1 (e9)
     replace EC:=ext_same EC (e9)
     replace EG:=ext_same EG (e9)
     replace EH:=ext_same EH (e9)
     replace EF:=ext_same EF (e9)
     replace EF2:=ext_same EF2 (e9)
     replace ER:=ext_same ER (e9)
     replace ER2:=ext_same ER2 (e9)
     replace eT:=ext_same eT (e9)
     clear e9
     refine ⟨fun _=>eT,?_⟩
     rw [eqb_self] at F
     refine F.x (i:=44) rfl (fun w'=>R_not rfl (F.at rfl)) (fun _=>eT) ?_ (hw:=(wantT F rfl rfl (by decide) rfl));clear F fa;intro fa F
     refine F.x (i:=45) rfl (fun w'=>R_pickF rfl (F.at rfl) (F.at rfl)) (fun _=>eT) ?_;clear F fa;intro fa F
     refine ax_done (by kernel_rfl) ?_ _
     clear eT q16_ E_ EB_ EL1_ EC_ EG_ EH_ EF_ EF2_ ER_ ER2_
     refine hK43 _ _ ?_
     clear hK43
     refine cd_F F rfl ?_
     refine wp_skip ?_
     refine hK16 _ _ ?_
     clear hK16
     replace F:=F.sub (.c 10 rfl (.c 13 rfl (.c 14 rfl (.c 15 rfl .n))))
     clear q16
     refine wp_region_lit ?_
     refine F.mv ?_;clear F fa;intro fa F
     refine F.vl (R_add rfl (F.at rfl) (ev_c fa _) (by omega) (by omega)) ?_;clear F fa;intro fa F
     refine F.as ?_;clear F fa;intro fa F
     refine wpList_nil ?_
     show _ ∧ _
     exact ⟨by omega,_,⟨rfl,EL1⟩,F.sub (.c 15 rfl (.c 10 rfl (.c 13 rfl (.c 14 rfl .n))))⟩
    ·skip
     refine wp_exit ?_
     refine hK12 _ _ ?_
     clear hK12
     refine wp_seq_k fun K47 hK47=>?_
     refine wp_region_lit ?_
     refine sq_call F rfl (by decide) rfl (R_callV rfl rfl Tryz.call5 mp0) (dyed_any _) fun e w51 hR=>?_
     obtain ⟨rfl,e9⟩:=hR
     refine ⟨_,rfl,?_⟩;clear F fa;intro fa F
     replace q4:=(e9).keep0 q4
     replace E:=ext_same E (e9)
     replace EB:=ext_same EB (e9)
     clear e9
     refine F.as ?_;clear F fa;intro fa F
     refine wpList_nil ?_
     refine hK47 _ _ ?_
     clear hK47
     refine wp_ret ?_
     (try simp only [Exit.inBlock,Exit.then,reduceIte])
     refine rt_v F (rs_1 F rfl rfl) ?_
     exact ⟨rfl,E⟩
 ·skip
  replace F:=F.re (k:=31) rfl (congrArg Value.bool hg1)
  refine sq_no F rfl (by decide) (wantF F rfl rfl (by decide) rfl (by decide)) ?_;clear F fa;intro fa F
  refine sq_no F rfl (by decide) (wantF F rfl rfl (by decide) rfl (by decide)) ?_;clear F fa;intro fa F
  refine sq_no F rfl (by decide) (wantF F rfl rfl (by decide) rfl (by decide)) ?_;clear F fa;intro fa F
  refine F.vl (R_pickT rfl (F.at rfl) (ev_c fa _)) ?_;clear F fa;intro fa F
  refine F.mv ?_;clear F fa;intro fa F
  refine sq_no F rfl (by decide) (wantF F rfl rfl (by decide) rfl (by decide)) ?_;clear F fa;intro fa F
  refine sq_no F rfl (by decide) (wantF F rfl rfl (by decide) rfl (by decide)) ?_;clear F fa;intro fa F
  refine sq_no F rfl (by decide) (wantF F rfl rfl (by decide) rfl (by decide)) ?_;clear F fa;intro fa F
  refine F.vl (R_pickT rfl (F.at rfl) (ev_c fa _)) ?_;clear F fa;intro fa F
  refine wpList_nil ?_
  refine hK3 _ _ ?_
  clear hK3
  refine cd_T F rfl ?_
  refine wp_seq_k fun K48 hK48=>?_
  refine wp_region_lit ?_
  refine sq_call F rfl (by decide) rfl (R_callV rfl rfl Tryz.call5 mp0) (dyed_any _) fun e w52 hR=>?_
  obtain ⟨rfl,e9⟩:=hR
  refine ⟨_,rfl,?_⟩;clear F fa;intro fa F
  replace q4:=(e9).keep0 q4
  replace E:=ext_same E (e9)
  clear e9
  refine F.as ?_;clear F fa;intro fa F
  refine wpList_nil ?_
  refine hK48 _ _ ?_
  clear hK48
  refine wp_ret ?_
  (try simp only [Exit.inBlock,Exit.then,reduceIte])
  refine rt_v F (rs_1 F rfl rfl) ?_
  exact ⟨rfl,E⟩
end Go.Proofs.YtdjeecgddbjbeaaGreat
namespace Go.Proofs.YtdjeecgddbjbeaaGreat
open Go.ChangeShapes Go.WideShapes Go.RowKit
section
variable {H : Type} {enc : TypeId × Value → H} {P : Program} {w : World}
theorem open_vals {Q : Value → Prop} {t e : TypeId} {fuel : Nat} {cs : List Value} {x : DataW H × List MemPlace} (ht : P.underlying t = some (.slice e)) (hsz : P.cellsOf e = 1)
  (hE : ∀ n v y,DataW.trod enc P w 0 (fun _=>true) true n e [v] = some y → Q v)
  (h : DataW.trod enc P w 0 (fun _=>true) true fuel t cs = some x) :
  ∃ (a : Option Addr) (c : Nat) (vs : List Value),cs = [.slice a vs.length c] ∧ (∀ v ∈ vs,Q v) ∧ IsRows w (.slice a vs.length c) 1 (vs.map fun v=>[v]):=by
 rcases DataW.trod_slice ht h with ⟨rfl,-⟩ | ⟨a,len,cap,elems,rest,n,-,rfl,-,-,-,-,hlen,hel,-,-⟩
 ·exact ⟨none,0,[],rfl,by simp,⟨none,0,rfl,by simp,fun h=>absurd rfl h⟩⟩
 have each : ∀ i,∃ v : Value,i < len → Q v ∧ w.cell? (a.add i) = some v:=by
  intro i
  by_cases hi : i < len
  ·have hq:=hel i hi
   rw [List.getElem?_eq_getElem (by omega),Option.bind_eq_some_iff] at hq
   obtain ⟨ci,h1,h2⟩:=hq
   rw [hsz] at h1
   obtain ⟨-,hl,hc⟩:=World.cells?_some h1
   match ci,hl with
   | [v],_ =>
    refine ⟨v,fun _=>⟨hE _ _ _ h2,?_⟩⟩
    have:=hc 0 (by omega)
    rw [Nat.mul_one] at this
    have h00 : (a.add i).add 0 = a.add i:=rfl
    rw [h00] at this
    simpa using this
  ·exact ⟨.bool true,fun h=>absurd h hi⟩
 obtain ⟨f,hf⟩ : ∃ f : Nat → Value,∀ i,i < len → Q (f i) ∧ w.cell? (a.add i) = some (f i):=⟨fun i=>Classical.choose (each i),fun i=>Classical.choose_spec (each i)⟩
 have hL : ((List.range len).map f).length = len:=by simp
 refine ⟨some a,cap,(List.range len).map f,by rw [hL],?_,?_⟩
 ·intro r hr
  obtain ⟨i,hi,rfl⟩:=List.mem_map.1 hr
  exact (hf i (List.mem_range.1 hi)).1
 ·refine ⟨some a,cap,by simp,?_,fun hne=>?_⟩
  ·intro r hr
   obtain ⟨r',hr',rfl⟩:=List.mem_map.1 hr
   rfl
  ·have hp : 0 < len:=by
    rcases Nat.eq_zero_or_pos len with rfl | h
    ·exact absurd rfl hne
    ·exact h
   have c0:=(hf 0 hp).2
   have ha0 : a.add 0 = a:=rfl
   rw [ha0] at c0
   obtain ⟨b,off,spot⟩:=a
   have hs : spot = none:=by
    cases spot with
    | none=>rfl
    | some k =>
     unfold World.cell? at c0
     split at c0 <;> simp at c0
   subst hs
   have hb : b < w.heap.size:=by
    unfold World.cell? at c0
    cases hq : w.heap[b]? with
    | none=>simp [hq] at c0
    | some o=>exact (Array.getElem?_eq_some_iff.1 hq).1
   refine ⟨b,off,rfl,hb,fun i j r hi hj=>?_⟩
   have hil : i < len:=by have:=(List.getElem?_eq_some_iff.1 hi).1;simpa using this
   have hr : r = [f i]:=by simpa [hil] using hi.symm
   subst hr
   have hj0 : j = 0:=by simpa using hj
   subst hj0
   have:=(hf i hil).2
   rw [add_plain] at this
   simpa using this
end
theorem vals_ints : ∀ (vs : List Value),(∀ v ∈ vs,∃ k : Int,v = .int .i64 k) → ∃ xs : List Int,xs.length = vs.length ∧ (vs.map fun v=>[v]) = xs.map intRow
 | [],_=>⟨[],rfl,rfl⟩
 | v :: vs,h=>by
  obtain ⟨xs,h1,h2⟩:=vals_ints vs fun x hx=>h x (List.mem_cons_of_mem _ hx)
  obtain ⟨k,rfl⟩:=h v (List.mem_cons_self ..)
  exact ⟨k :: xs,by simp [h1],by simp [h2,intRow]⟩
theorem vals_rows {w : World} : ∀ (vs : List Value),(∀ v ∈ vs,∃ xs : List Int,RowOf w v xs) → ∃ L : List (Value × List Int),L.length = vs.length ∧ (vs.map fun v=>[v]) = L.map (fun p=>[p.1]) ∧ ∀ p ∈ L,RowOf w p.1 p.2
 | [],_=>⟨[],rfl,rfl,by simp⟩
 | v :: vs,h=>by
  obtain ⟨L,h1,h2,h3⟩:=vals_rows vs fun x hx=>h x (List.mem_cons_of_mem _ hx)
  obtain ⟨xs,hx⟩:=h v (List.mem_cons_self ..)
  exact ⟨(v,xs) :: L,by simp [h1],by simp [h2],fun p hp=>by rcases List.mem_cons.1 hp with rfl | hp;(· exact hx);(· exact h3 p hp)⟩
theorem fk_int1 : Tryz.prog.cellsOf 3 = 1:=by kernel_rfl
theorem fk_sl1 : Tryz.prog.cellsOf 25 = 1:=by kernel_rfl
theorem fk_ll1 : Tryz.prog.cellsOf 22 = 1:=by kernel_rfl
section
variable {H : Type} {enc : TypeId × Value → H} {w : World}
theorem open_one (n : Nat) (c : Value) (y : DataW H × List MemPlace) (h : DataW.trod enc Tryz.prog w 0 (fun _=>true) true n 3 [c] = some y) : ∃ k : Int,c = .int .i64 k:=by
 obtain ⟨k,hk,-,-⟩:=DataW.trod_int Tryz.underlying3 h
 simp at hk
 exact ⟨k,hk⟩
theorem open_row (n : Nat) (v : Value) (y : DataW H × List MemPlace) (h : DataW.trod enc Tryz.prog w 0 (fun _=>true) true n 25 [v] = some y) : ∃ xs : List Int,RowOf w v xs:=by
 obtain ⟨a,c,vs,h1,h2,h3⟩:=open_vals (Q:=fun v=>∃ k : Int,v = .int .i64 k) Tryz.underlying25 fk_int1 open_one h
 obtain ⟨xs,hx1,hx2⟩:=vals_ints vs h2
 simp only [List.cons.injEq,and_true] at h1
 subst h1
 rw [hx2,← hx1] at h3
 exact ⟨xs,a,c,by rw [hx1],h3⟩
theorem open_lists {n : Nat} {cs : List Value} {y : DataW H × List MemPlace} (h : DataW.trod enc Tryz.prog w 0 (fun _=>true) true n 22 cs = some y) : ∃ (a : Option Addr) (c : Nat) (L : List (Value × List Int)),cs = [.slice a L.length c] ∧ LolAt w a L:=by
 obtain ⟨a,c,vs,h1,h2,h3⟩:=open_vals (Q:=fun v=>∃ xs : List Int,RowOf w v xs) Tryz.underlying22 fk_sl1 open_row h
 obtain ⟨L,hl1,hl2,hl3⟩:=vals_rows vs h2
 subst h1
 rw [hl2,← hl1] at h3
 exact ⟨a,c,L,by rw [hl1],slAt_of_rows (row:=fun p : Value × List Int=>[p.1]) h3 (.bool true,[]),hl3⟩
theorem list4 {l : List Value} (h : l.length = 4) : ∃ c0 c1 c2 c3,l = [c0,c1,c2,c3]:=by
 match l,h with
 | [c0,c1,c2,c3],_=>exact ⟨_,_,_,_,rfl⟩
theorem open_vat {n : Nat} {cs : List Value} {y : DataW H × List MemPlace} (h : DataW.trod enc Tryz.prog w 0 (fun _=>true) true n 24 cs = some y) :
  ∃ x : Vm,cs = [.int .i64 x.B,.slice x.da x.D.length x.dc,.slice x.la x.L.length x.lc,.int .i64 x.tol] ∧ x.At w:=by
 obtain ⟨xs,m,-,-,hl,hxl,hx⟩:=DataW.trod_struct Tryz.underlying24 h
 obtain ⟨c0,c1,c2,c3,rfl⟩:=list4 (hl.trans (by kernel_rfl))
 have get : ∀ i : Nat,i < 4 → ∃ y,xs[i]? = some y:=fun i hi=>⟨_,List.getElem?_eq_getElem (by rw [hxl];exact hi)⟩
 obtain ⟨y0,e0⟩:=get 0 (by omega)
 obtain ⟨y1,e1⟩:=get 1 (by omega)
 obtain ⟨y2,e2⟩:=get 2 (by omega)
 obtain ⟨y3,e3⟩:=get 3 (by omega)
 have u0 : DataW.trod enc Tryz.prog w 0 (fun _=>true) true m 3 (([c0,c1,c2,c3].drop 0).take (Tryz.prog.cellsOf 3)) = some y0:=(hx 0 _ rfl).trans e0
 have u1 : DataW.trod enc Tryz.prog w 0 (fun _=>true) true m 22 (([c0,c1,c2,c3].drop 1).take (Tryz.prog.cellsOf 22)) = some y1:=(hx 1 _ rfl).trans e1
 have u2 : DataW.trod enc Tryz.prog w 0 (fun _=>true) true m 22 (([c0,c1,c2,c3].drop 2).take (Tryz.prog.cellsOf 22)) = some y2:=(hx 2 _ rfl).trans e2
 have u3 : DataW.trod enc Tryz.prog w 0 (fun _=>true) true m 3 (([c0,c1,c2,c3].drop 3).take (Tryz.prog.cellsOf 3)) = some y3:=(hx 3 _ rfl).trans e3
 simp only [fk_int1,fk_ll1,List.drop_succ_cons,List.drop_zero,List.take_succ_cons,List.take_zero] at u0 u1 u2 u3
 obtain ⟨B,rfl⟩:=open_one _ _ _ u0
 obtain ⟨T,rfl⟩:=open_one _ _ _ u3
 obtain ⟨a,c,D,hD,hA⟩:=open_lists u1
 obtain ⟨a',c',L,hL,hB⟩:=open_lists u2
 simp only [List.cons.injEq,and_true] at hD hL
 subst hD hL
 exact ⟨⟨B,D,a,c,L,a',c',T⟩,rfl,⟨hA,hB⟩⟩
end
end Go.Proofs.YtdjeecgddbjbeaaGreat
