/- Parts of a proof: Dsu, Dzr. No conditions. -/
import Derived.Test.YtdjeecgddbjbeaaGreatKr10
import Derived.Test.YtdjeecgddbjbeaaGreatKr11
import Derived.Test.YtdjeecgddbjbeaaGreatKr13
import Derived.Test.YtdjeecgddbjbeaaGreatKr14
set_option linter.unusedVariables false
set_option linter.unusedSimpArgs false
namespace Go.Proofs.YtdjeecgddbjbeaaGreat
open Go.RowKit
def vmC (x : Vm) : List Value:=[.int .i64 x.B,.slice x.da x.D.length x.dc,.slice x.la x.L.length x.lc,.int .i64 x.tol]
def vm0 : Vm:=⟨0,[],none,0,[],none,0,0⟩
def vsI (X : List Vm) (i : Nat) : Vm:=X.getD i vm0
structure VsAt (w : World) (a : Option Addr) (X : List Vm) : Prop where
 rows : IsRows w (.slice a X.length X.length) 4 (X.map vmC)
 at_ : ∀ x ∈ X,x.At w
theorem vs_at {w : World} {a : Option Addr} {X : List Vm} (h : VsAt w a X) {i : Nat} (hi : i < X.length) : (vsI X i).At w:=h.at_ _ (getD_mem vm0 hi)
theorem rows_newV {α : Type} {w : World} {b sz : Nat} {xs : List α} {row : α → List Value} {T : TypeId} {fz : Nat × Nat} (h : w.heap[b]? = some (.cells ((xs.map row).flatten).toArray T fz)) (hr : ∀ x,(row x).length = sz) : IsRows w (.slice (some ⟨b,0,none⟩) xs.length xs.length) sz (xs.map row):=by
 refine ⟨some ⟨b,0,none⟩,xs.length,by simp,fun x hx=>?_,fun _=>⟨b,0,rfl,blk_lt h,fun i j x hi hj=>?_⟩⟩
 ·obtain ⟨y,-,rfl⟩:=List.mem_map.1 hx;exact hr y
 ·rw [cells_of_block h,Nat.zero_add,List.getElem?_toArray]
  exact flat_get hr xs i j x hi hj
theorem vs_new {w : World} {bs b : Nat} {X : List Vm} {T : TypeId} {fz : Nat × Nat} (h : w.heap[bs]? = some (.cells ((X.map vmC).flatten).toArray T fz)) (hne : bs ≠ b) (hx : ∀ x ∈ X,∀ W,Ext [b] w W → x.At W) : ∀ W,Ext [b] w W → VsAt W (some ⟨bs,0,none⟩) X:=
 fun W e=>⟨rows_newV (e.keep h (by simp [hne])) (fun _=>rfl),fun u hu=>hx u hu W e⟩
theorem slAt_up {b : Nat} {w0 w : World} {a : Option Addr} {sz n : Nat} {row : Nat → List Value} (h : SlAt [] w0 a sz n row) (e : Ext [b] w0 w) (hb : w0.heap.size ≤ b) : SlAt [b] w a sz n row:=fun i hi=>by
 obtain ⟨c,off,h1,-⟩:=h i hi
 refine ⟨c,off,h1,fun W hW=>?_⟩
 obtain ⟨c2,off2,h3,h4⟩:=slAt_extX h (e.trans hW) (by simpa using hb) i hi
 have:=(h1 0 0).symm.trans (h3 0 0)
 simp only [Value.slice.injEq,Option.some.injEq,Addr.mk.injEq] at this
 obtain ⟨⟨rfl,rfl,-⟩,-⟩:=this
 exact h4 W (Ext.refl _ _)
theorem slAt_outB {w : World} {base n c b : Nat} {a : Option Addr} {O : List (Value × List Int)} (h : w.ownsRow base 25 1 (.slice a n c) n (O.map (·.1))) (hn : n = O.length) (hb : b < base) : SlAt [b] w a 1 O.length (fun i=>[(O.getD i (.bool true,[])).1]):=by
 rw [pRow_flat] at h
 exact slAt_of_owns h hn (fun _=>rfl) [b] (by simpa using hb) (.bool true,[])
def SetsPost (x : Vm) (w0 w : World) (b k : Nat) (nv : Value) (e : Ending) (w' : World) : Prop:=
 ∃ (a : Option Addr) (y z : Vm),e = .returned (.slice a 4 4) ∧ VOk y ∧ SmallL z.D ∧ SmallL z.L ∧ (∀ W,Ext [b] w' W → VsAt W a [x,y,z,y]) ∧ LotsOk w0 w' b (k + 200) nv ∧ Ext [b] w w'
theorem lol_setB {q : Nat} {w : World} {b b2 i : Nat} {a : Option Addr} {c : Nat} {M : List (Value × List Int)} {p : Value × List Int} (oo : w.ownsRow b 25 1 (.slice a M.length c) M.length ((M.map (·.1)).set i p.1)) (fam : FamT w b2 M) (h1 : q < b) (h2 : q < b2)
  (hp : ∀ W,Ext [q] w W → RowOf W p.1 p.2) : ∀ W,Ext [q] w W → LolAt W a (M.set i p):=fun W e=>by
 have oo2:=owns_ext oo e (by simpa using h1)
 have fam2:=fam_lift fam fun _ _ _ h=>owns_ext h e (by simpa using h2)
 refine ⟨slAt_of_outer (base:=b) (c:=c) (n:=M.length) (by rw [List.map_set];exact oo2) (by rw [List.length_set]),fun r hr=>?_⟩
 rcases List.mem_or_eq_of_mem_set hr with hr | rfl
 ·exact fam_row fam2 hr
 ·exact hp W e
theorem small_set {M : List (Value × List Int)} {i : Nat} {p : Value × List Int} (h : SmallL M) (hp : p.2.length ≤ 1000) : SmallL (M.set i p):=by
 refine ⟨by rw [List.length_set];exact h.1,fun r hr=>?_⟩
 rcases List.mem_or_eq_of_mem_set hr with hr | rfl
 ·exact h.2 r hr
 ·exact hp
theorem small_key {M L : List (Value × List Int)} (h : SmallL L) (e : M.map (·.2) = L.map (·.2)) : SmallL M:=by
 have hl : M.length = L.length:=by rw [← List.length_map (f:=fun p : Value × List Int=>p.2),e,List.length_map]
 refine ⟨by rw [hl];exact h.1,fun r hr=>?_⟩
 have : r.2 ∈ L.map (·.2):=by rw [← e];exact List.mem_map.2 ⟨r,hr,rfl⟩
 obtain ⟨s,hs,he⟩:=List.mem_map.1 this
 rw [← he];exact h.2 s hs
set_option maxRecDepth 100000 in
set_option maxHeartbeats 4000000 in
theorem sets_any (x : Vm) (sd : SmallL x.D) (sl : SmallL x.L) (w0 w : World) (b k : Nat) (nv : Value) (HL : LotsOk w0 w b k nv) (hk : k ≤ 1000) (h0 : x.At w0) :
  Calls Tryz.prog 7 #[.agg #[.int .i64 x.B,.slice x.da x.D.length x.dc,.slice x.la x.L.length x.lc,.int .i64 x.tol],.pointer (some ⟨b,0,none⟩)] w (SetsPost x w0 w b k nv):=by
 have hb:=HL.1
 have hws : w0.heap.size ≤ w.heap.size:=HL.2.2.1.size
 have E : Ext [b] w w:=Ext.refl _ _
 have hbw : b < w.heap.size:=lots_lt HL
 have H0:=Lib.hid (show ∀ W,Ext [b] w W → x.At W from fun W hW=>h0.extX (HL.2.2.1.trans hW) (by simp;omega))
 have SD:=Lib.hid sd
 have SL:=Lib.hid sl
 have HXD:=Lib.hid (slAt_up h0.d.1 HL.2.2.1 hb)
 have HXL:=Lib.hid (slAt_up h0.l.1 HL.2.2.1 hb)
 clear h0 sd sl
 refine calls_has 63 Tryz.func7 rfl Tryz.ntmps7 (Nat.le_of_ble_eq_true rfl) ?_
 intro fa F
 refine wp_seq_k fun K1 hK1=>?_
 refine wp_region_lit ?_
 refine sq_new F rfl (by decide) rfl (R_box rfl (F.at rfl)) ?_;clear F fa;intro fa w1 F hw
 obtain ⟨n2,hn⟩ : ∃ n,n = w.heap.size:=⟨_,rfl⟩
 rw [← hn] at F
 have s2 : w.heap.size ≤ n2:=Nat.le_of_eq hn.symm
 have l2_E : w.heap.size ≤ n2:=by rw [hn];exact E.size
 have b2_HL:=Nat.lt_of_lt_of_eq (lots_lt HL) hn.symm
 replace E:=ext_alloc E hw
 replace HL:=lots_alloc hw HL
 have q2:=new_row hw hn
 clear hw hn
 refine F.vl (R_assign rfl (ev_c fa _)) ?_;clear F fa;intro fa F
 refine wpList_nil ?_
 refine hK1 _ _ ?_
 clear hK1
 refine wp_seq_k fun K2 hK2=>?_
 refine wp_region_lit ?_
 refine F.mv ?_;clear F fa;intro fa F
 refine sq_call F rfl (by decide) rfl (R_callV rfl rfl Tryz.call32 (mpS (F.at rfl) (mpS (ev_c fa _) mp0))) (vatOf_any 4 (by decide) (by decide) w0 _ b _ _ HL (by omega)) fun e w2 hR=>?_
 obtain ⟨y,rfl,hv,hd3,hyb,HL,e9⟩:=hR
 refine ⟨_,rfl,?_⟩;clear F fa;intro fa F
 replace q2:=(e9).keep q2 (by simp;omega)
 replace E:=E.trans' e9 (fun i hi hl=>by simp only [List.mem_cons,List.not_mem_nil,or_false] at hi ⊢;omega)
 have HV:=Lib.hid hv
 have HYB:=Lib.hid hyb
 obtain ⟨wV,hwV⟩ : ∃ wV,wV = w2:=⟨_,rfl⟩
 have EV : Ext [b] wV w2:=by rw [hwV];exact Ext.refl _ _
 rw [← hwV] at HYB
 clear hv hyb
 refine sq_new F rfl (by decide) rfl (R_alloc rfl Tryz.zeroValue24) ?_;clear F fa;intro fa w3 F hw
 obtain ⟨n5,hn⟩ : ∃ n,n = w2.heap.size:=⟨_,rfl⟩
 rw [← hn] at F
 have s5 : w2.heap.size ≤ n5:=Nat.le_of_eq hn.symm
 have l5_E : w.heap.size ≤ n5:=by rw [hn];exact E.size
 have l5_EV : wV.heap.size ≤ n5:=by rw [hn];exact EV.size
 have b5_HL:=Nat.lt_of_lt_of_eq (lots_lt HL) hn.symm
 have m5_2 : n2 < n5:=by rw [hn];exact blk_lt q2
 replace q2:=keep_alloc hw q2
 replace E:=ext_alloc E hw
 replace EV:=ext_alloc EV hw
 replace HL:=lots_alloc hw HL
 have q5:=new_row hw hn
 clear hw hn
 refine sq_to rfl rfl (R_storeRow rfl (F.at rfl) (F.at rfl) (by kernel_rfl) (by first | (simp [Value.oneCell'];done) | (simp [Value.oneCell',id];done)) q5 rfl) ?_;intro w4 hw
 replace q2:=keep_cells hw q2 (by omega)
 replace q5:=put_row hw q5 rfl
 replace E:=ext_cells E hw (fun h=>by first | exact absurd h (by omega) | simp)
 replace EV:=ext_cells EV hw (fun h=>by first | exact absurd h (by omega) | simp)
 replace HL:=lots_cells hw HL (by omega) (by omega)
 clear hw
 refine wpList_nil ?_
 refine hK2 _ _ ?_
 clear hK2
 refine wp_seq_k fun K3 hK3=>?_
 refine wp_region_lit ?_
 refine F.vl (R_loadBlk rfl (F.at rfl) Tryz.underlying24 rfl (by kernel_rfl) q5) ?_;clear F fa;intro fa F
 have hbB:=lots_lt HL
 have hB0w:=E.size
 have hB0V:=EV.size
 obtain ⟨B0,hB0⟩ : ∃ B0,B0 = w4.heap.size:=⟨_,rfl⟩
 obtain ⟨wZ,hwZ⟩ : ∃ wZ,wZ = w4:=⟨_,rfl⟩
 have EB0 : Ext [b] wZ w4:=(by rw [hwZ];exact Ext.refl _ _)
 have hBZ : B0 = wZ.heap.size:=(by rw [hB0,hwZ])
 have hbB0 : b < B0:=(by rw [hB0];exact hbB)
 refine sq_call F rfl (by decide) rfl (R_callV rfl rfl Tryz.call10 (mpS (F.at rfl) mp0)) (copyVat_own y _ (HYB.out _ EV) HV.out.sd HV.out.sl) fun e w5 hR=>?_
 obtain ⟨o,rfl,hoB,hot,hoD,hoL,oo1,fam1,oo2,fam2,hap,e9⟩:=hR
 refine ⟨_,rfl,?_⟩;clear F fa;intro fa F
 replace q2:=(e9).keep0 q2
 replace q5:=(e9).keep0 q5
 replace E:=ext_same E (e9)
 replace EV:=ext_same EV (e9)
 replace EB0:=ext_same EB0 (e9)
 replace HL:=lots_ext (e9) HL
 clear e9
 rw [← hB0] at oo1 fam1 oo2 fam2 hB0w hB0V
 have hap2:=Lib.hid hap
 have hap3 : RowKit.Hid ((Value.slice o.da o.D.length o.dc).ownBlock = none ∨ (Value.slice o.da o.D.length o.dc).ownBlock ≠ (Value.slice o.la o.L.length o.lc).ownBlock):=Lib.hid (by rcases hap with h | h;(· by_cases e : (Value.slice o.da o.D.length o.dc).ownBlock = none;(· exact .inl e);(· exact .inr (by rw [h];exact e)));(· exact .inr (Ne.symm h)))
 clear hap
 have hoDl : o.D.length = y.D.length:=by rw [← List.length_map (f:=fun p : Value × List Int=>p.2),hoD,List.length_map]
 have hoLl : o.L.length = y.L.length:=by rw [← List.length_map (f:=fun p : Value × List Int=>p.2),hoL,List.length_map]
 have SOD:=Lib.hid (small_key HV.out.sd hoD)
 have SOL:=Lib.hid (small_key HV.out.sl hoL)
 have hd1:=HV.out.d1
 have hd4:=HV.out.d4
 have hl1:=HV.out.l1
 have hl3:=HV.out.l3
 refine sq_new F rfl (by decide) rfl (R_alloc rfl Tryz.zeroValue24) ?_;clear F fa;intro fa w6 F hw
 obtain ⟨n6,hn⟩ : ∃ n,n = w5.heap.size:=⟨_,rfl⟩
 rw [← hn] at F
 have s6 : w5.heap.size ≤ n6:=Nat.le_of_eq hn.symm
 have l6_E : w.heap.size ≤ n6:=by rw [hn];exact E.size
 have l6_EV : wV.heap.size ≤ n6:=by rw [hn];exact EV.size
 have l6_EB0 : wZ.heap.size ≤ n6:=by rw [hn];exact EB0.size
 have b6_HL:=Nat.lt_of_lt_of_eq (lots_lt HL) hn.symm
 have m6_2 : n2 < n6:=by rw [hn];exact blk_lt q2
 have m6_5 : n5 < n6:=by rw [hn];exact blk_lt q5
 have o6_oo1:=Lib.hid (own_ne_new oo1 hn)
 have o6_oo2:=Lib.hid (own_ne_new oo2 hn)
 replace oo1:=owns_alloc hw oo1
 replace fam1:=fam_lift fam1 fun _ _ _ h=>owns_alloc hw h
 replace oo2:=owns_alloc hw oo2
 replace fam2:=fam_lift fam2 fun _ _ _ h=>owns_alloc hw h
 replace q2:=keep_alloc hw q2
 replace q5:=keep_alloc hw q5
 replace E:=ext_alloc E hw
 replace EV:=ext_alloc EV hw
 replace EB0:=ext_alloc EB0 hw
 replace HL:=lots_alloc hw HL
 have q6:=new_row hw hn
 clear hw hn
 refine sq_to rfl rfl (R_storeRow rfl (F.at rfl) (F.at rfl) (by kernel_rfl) (by first | (simp [Value.oneCell'];done) | (simp [Value.oneCell',id];done)) q6 rfl) ?_;intro w7 hw
 replace oo1:=owns_cellsX hw oo1 (own_ne_type oo1 q6 (by decide))
 replace fam1:=fam_lift fam1 fun _ _ _ h=>owns_cellsX hw h (own_ne_type h q6 (by decide))
 replace oo2:=owns_cellsX hw oo2 (own_ne_type oo2 q6 (by decide))
 replace fam2:=fam_lift fam2 fun _ _ _ h=>owns_cellsX hw h (own_ne_type h q6 (by decide))
 replace q2:=keep_cells hw q2 (by omega)
 replace q5:=keep_cells hw q5 (by omega)
 replace q6:=put_row hw q6 rfl
 replace E:=ext_cells E hw (fun h=>by first | exact absurd h (by omega) | simp)
 replace EV:=ext_cells EV hw (fun h=>by first | exact absurd h (by omega) | simp)
 replace EB0:=ext_cells EB0 hw (fun h=>by first | exact absurd h (by omega) | simp)
 replace HL:=lots_cells hw HL (by omega) (by omega)
 clear hw
 refine wpList_nil ?_
 refine hK3 _ _ ?_
 clear hK3
 refine wp_seq_k fun K4 hK4=>?_
 suffices hcut : ∀ (z : Vm) (fa : Act) (w18 : World),Has 63 [] fa [(2,.pointer (some ⟨n2,0,none⟩)),(5,.pointer (some ⟨n5,0,none⟩)),(6,.pointer (some ⟨n6,0,none⟩))] → w18.heap[n2]? = some (.cells #[.int .i64 x.B,.slice x.da x.D.length x.dc,.slice x.la x.L.length x.lc,.int .i64 x.tol] 24 (0,0)) → w18.heap[n5]? = some (.cells #[.int .i64 y.B,.slice y.da y.D.length y.dc,.slice y.la y.L.length y.lc,.int .i64 y.tol] 24 (0,0)) → w18.heap[n6]? = some (.cells #[.int .i64 z.B,.slice z.da z.D.length z.dc,.slice z.la z.L.length z.lc,.int .i64 z.tol] 24 (0,0)) → Ext [b] w w18 → Ext [b] wV w18 → Ext [b] wZ w18 → LotsOk w0 w18 b (k + 200) nv → (∀ W,Ext [b] w18 W → z.At W) → SmallL z.D → SmallL z.L → K4 fa w18 by
  refine wp_seq_k fun K5 hK52=>?_
  refine wp_region_lit ?_
  refine F.mv ?_;clear F fa;intro fa F
  refine sq_call F rfl (by decide) rfl (R_callV rfl rfl Tryz.call33 (mpS (F.at rfl) (mpS (ev_c fa _) mp0))) (upto_any w0 _ b _ nv 2 HL (by omega) (by omega) (by omega)) fun e w8 hR=>?_
  obtain ⟨u,rfl,hu0,hu1,HL,e3⟩:=hR
  refine ⟨_,rfl,?_⟩;clear F fa;intro fa F
  replace oo1:=owns_ext oo1 (e3) (by simp;omega)
  replace fam1:=fam_lift fam1 fun _ _ _ h=>owns_ext h (e3) (by simp;omega)
  replace oo2:=owns_ext oo2 (e3) (by simp;omega)
  replace fam2:=fam_lift fam2 fun _ _ _ h=>owns_ext h (e3) (by simp;omega)
  replace q2:=(e3).keep q2 (by simp;omega)
  replace q5:=(e3).keep q5 (by simp;omega)
  replace q6:=(e3).keep q6 (by simp;omega)
  replace E:=E.trans' e3 (fun i hi hl=>by simp only [List.mem_cons,List.not_mem_nil,or_false] at hi ⊢;omega)
  replace EV:=EV.trans' e3 (fun i hi hl=>by simp only [List.mem_cons,List.not_mem_nil,or_false] at hi ⊢;omega)
  replace EB0:=EB0.trans' e3 (fun i hi hl=>by simp only [List.mem_cons,List.not_mem_nil,or_false] at hi ⊢;omega)
  refine wpList_nil ?_
  refine hK52 _ _ ?_
  refine wp_block ?_
  refine wp_seq_k fun K6 hK6=>?_
  refine wp_region_lit ?_
  refine F.vl (R_eqlD rfl (F.at rfl) (ev_c fa _)) ?_;clear F fa;intro fa F
  refine F.as ?_;clear F fa;intro fa F
  refine wpList_nil ?_
  refine hK6 _ _ ?_
  clear hK6
  refine cd_if F rfl (fun hc13=>?_) (fun hc13=>?_)
  ·skip
   refine wp_region_lit ?_
   refine F.vl (R_field rfl (F.at rfl) Tryz.underlying24 rfl (n:=3) (sz:=1) rfl (by kernel_rfl) (by decide)) ?_;clear F fa;intro fa F
   refine F.vl (R_load rfl (F.at rfl) Tryz.underlying3 rfl ((cells_of_block q2 3).trans (getS (getS (getS (get0)))))) ?_;clear F fa;intro fa F
   refine F.vl (R_field rfl (F.at rfl) Tryz.underlying24 rfl (n:=3) (sz:=1) rfl (by kernel_rfl) (by decide)) ?_;clear F fa;intro fa F
   refine sq_to rfl rfl (R_store rfl (F.at rfl) (F.at rfl) rfl (by kernel_rfl) ((cells_of_block q6 3).trans (getS (getS (getS (get0))))) (free_of_block q6 3)) ?_;intro w9 hw
   replace oo1:=owns_cellX hw oo1 (own_ne_type oo1 q6 (by decide))
   replace fam1:=fam_lift fam1 fun _ _ _ h=>owns_cellX hw h (own_ne_type h q6 (by decide))
   replace oo2:=owns_cellX hw oo2 (own_ne_type oo2 q6 (by decide))
   replace fam2:=fam_lift fam2 fun _ _ _ h=>owns_cellX hw h (own_ne_type h q6 (by decide))
   replace q2:=keep_cell hw q2 (by omega)
   replace q5:=keep_cell hw q5 (by omega)
   replace q6:=put_cell hw q6 (by simp only [List.setIfInBounds_toArray,lsQ,lzQ];exact rfl)
   replace E:=ext_cell E hw (fun h=>by first | exact absurd h (by omega) | simp)
   replace EV:=ext_cell EV hw (fun h=>by first | exact absurd h (by omega) | simp)
   replace EB0:=ext_cell EB0 hw (fun h=>by first | exact absurd h (by omega) | simp)
   replace HL:=lots_cell hw HL (by omega) (by omega)
   clear hw
   refine wpList_nil ?_
   replace HL:=lots_mono HL (show _ ≤ k + 200 by omega)
   exact hcut { o with tol:=x.tol } _ _ (F.sub (.c 2 rfl (.c 5 rfl (.c 6 rfl .n)))) q2 q5 q6 E EV EB0 HL (fun W hW=>⟨lol_ownB oo1 fam1 hbB0 hbB0 W hW,lol_ownB oo2 fam2 hbB0 hbB0 W hW⟩) SOD.out SOL.out
  ·skip
   refine wp_seq_k fun K7 hK7=>?_
   refine wp_region_lit ?_
   refine F.vl (R_eqlD rfl (F.at rfl) (ev_c fa _)) ?_;clear F fa;intro fa F
   refine F.as ?_;clear F fa;intro fa F
   refine wpList_nil ?_
   refine hK7 _ _ ?_
   clear hK7
   refine cd_if F rfl (fun hc18=>?_) (fun hc18=>?_)
   ·skip
    refine wp_seq_k fun K8 hK8=>?_
    refine wp_region_lit ?_
    refine F.vl (R_field rfl (F.at rfl) Tryz.underlying24 rfl (n:=1) (sz:=1) rfl (by kernel_rfl) (by decide)) ?_;clear F fa;intro fa F
    refine F.vl (R_load rfl (F.at rfl) Tryz.underlying22 rfl ((cells_of_block q2 1).trans (getS (get0)))) ?_;clear F fa;intro fa F
    refine F.vl (R_len rfl rfl (F.at rfl) Tryz.underlying22) ?_;clear F fa;intro fa F
    refine F.vl (R_gtr rfl (F.at rfl) (ev_c fa _)) ?_;clear F fa;intro fa F
    refine wpList_nil ?_
    refine hK8 _ _ ?_
    clear hK8
    refine cd_if F rfl (fun hc23=>?_) (fun hc23=>?_)
    ·skip
     have HS:=Lib.hid (slAt_outB oo1 rfl hbB0)
     have EX : Ext [b] w8 w8:=Ext.refl _ _
     refine region_x (Ext [b] w8) (some 14) follows fun w10 hh eh=>?_
     have q2_:=q2
     replace q2:=keep_same hh q2
     have q5_:=q5
     replace q5:=keep_same hh q5
     have q6_:=q6
     replace q6:=keep_same hh q6
     have E_:=E
     have zEw10:=E.size
     replace E:=ext_same E eh
     have EV_:=EV
     have zEVw10:=EV.size
     replace EV:=ext_same EV eh
     have EB0_:=EB0
     have zEB0w10:=EB0.size
     replace EB0:=ext_same EB0 eh
     have EX_:=EX
     have zEXw10:=EX.size
     replace EX:=ext_same EX eh
     have zbw10:=lots_lt HL
     replace HL:=lots_ext eh HL
     replace oo1:=owns_same hh oo1
     replace fam1:=fam_lift fam1 fun _ _ _ h=>owns_same hh h
     replace oo2:=owns_same hh oo2
     replace fam2:=fam_lift fam2 fun _ _ _ h=>owns_same hh h
     have eT:=eh.mono (Y:=[b]) (by simp)
     clear hh eh
     refine F.x (i:=0) rfl (fun w'=>R_field rfl (F.at rfl) Tryz.underlying24 rfl (n:=1) (sz:=1) rfl (by kernel_rfl) (by decide)) (fun _=>eT) ?_;clear F fa;intro fa F
     refine F.xr (i:=1) rfl (fun w' hS=>R_load rfl (F.at rfl) Tryz.underlying22 rfl ((cells_of_block (hS.keep q6_ (by simp;omega)) 1).trans (getS (get0)))) (fun _=>eT) ?_;clear F fa;intro fa F
     refine F.x (i:=2) rfl (fun w'=>R_move rfl (F.at rfl)) (fun _=>eT) ?_;clear F fa;intro fa F
     refine F.x (i:=3) rfl (fun w'=>R_field rfl (F.at rfl) Tryz.underlying24 rfl (n:=1) (sz:=1) rfl (by kernel_rfl) (by decide)) (fun _=>eT) ?_;clear F fa;intro fa F
     refine F.xr (i:=4) rfl (fun w' hS=>R_load rfl (F.at rfl) Tryz.underlying22 rfl ((cells_of_block (hS.keep q6_ (by simp;omega)) 1).trans (getS (get0)))) (fun _=>eT) ?_;clear F fa;intro fa F
     refine F.x (i:=5) rfl (fun w'=>R_len rfl rfl (F.at rfl) Tryz.underlying22) (fun _=>eT) ?_;clear F fa;intro fa F
     refine F.x (i:=6) rfl (fun w'=>R_sub rfl (F.at rfl) (ev_c fa _) (by omega) (by omega)) (fun _=>eT) ?_;clear F fa;intro fa F
     refine F.x (i:=8) rfl (fun w'=>R_field rfl (F.at rfl) Tryz.underlying24 rfl (n:=1) (sz:=1) rfl (by kernel_rfl) (by decide)) (fun _=>eT) ?_;clear F fa;intro fa F
     refine F.xr (i:=9) rfl (fun w' hS=>R_load rfl (F.at rfl) Tryz.underlying22 rfl ((cells_of_block (hS.keep q2_ (by simp;omega)) 1).trans (getS (get0)))) (fun _=>eT) ?_;clear F fa;intro fa F
     obtain ⟨xb9,xo9,xa9,xr9⟩:=HXD.out 0 (by omega)
     refine F.x (i:=10) rfl (fun w'=>R_ixSlice (sz:=1) rfl ((F.at rfl).trans (xa9 _ _)) (ev_c fa _) Tryz.underlying22 (by kernel_rfl) (by omega) (by omega)) (fun _=>eT) ?_;clear F fa;intro fa F
     refine F.xr (i:=11) rfl (fun w' hS=>R_load rfl (F.at rfl) Tryz.underlying25 rfl (xr9 _ (E_.trans hS) 0 _ rfl)) (fun _=>eT) ?_;clear F fa;intro fa F
     obtain ⟨ra,rca,hra,-⟩:=(H0.out _ E).d.2 _ (getD_mem (.bool true,[]) (show 0 < x.D.length by omega))
     rw [hra] at F
     refine ax_only (i:=7) (by kernel_rfl) (op_call F rfl rfl (by decide) rfl (R_callV rfl rfl Tryz.call33 (mpS (F.at rfl) (mpS (F.at rfl) mp0))) (upto_any w0 _ b _ nv (((o.D.length : Nat) : Int) - 1) HL (by omega) (by omega) (by omega)) fun e w11 hR=>?_)
     obtain ⟨g,rfl,hg0,hg1,HL,e3⟩:=hR
     refine ⟨_,rfl,?_⟩;clear F fa;intro fa F
     replace oo1:=owns_ext oo1 (e3) (by simp;omega)
     replace fam1:=fam_lift fam1 fun _ _ _ h=>owns_ext h (e3) (by simp;omega)
     replace oo2:=owns_ext oo2 (e3) (by simp;omega)
     replace fam2:=fam_lift fam2 fun _ _ _ h=>owns_ext h (e3) (by simp;omega)
     replace q2:=(e3).keep q2 (by simp;omega)
     replace q5:=(e3).keep q5 (by simp;omega)
     replace q6:=(e3).keep q6 (by simp;omega)
     replace E:=E.trans' e3 (fun i hi hl=>by simp only [List.mem_cons,List.not_mem_nil,or_false] at hi ⊢;omega)
     replace EV:=EV.trans' e3 (fun i hi hl=>by simp only [List.mem_cons,List.not_mem_nil,or_false] at hi ⊢;omega)
     replace EB0:=EB0.trans' e3 (fun i hi hl=>by simp only [List.mem_cons,List.not_mem_nil,or_false] at hi ⊢;omega)
     replace EX:=EX.trans' e3 (fun i hi hl=>by simp only [List.mem_cons,List.not_mem_nil,or_false] at hi ⊢;omega)
     replace eT:=eT.trans' e3 (fun i hi hl=>by simp only [List.mem_cons,List.not_mem_nil,or_false] at hi ⊢;omega)
     refine ⟨fun _=>eT,?_⟩
     obtain ⟨g,rfl⟩:=Int.eq_ofNat_of_zero_le hg0
     have hgl : g < o.D.length:=by omega
     have hcp:=copyInts_any (w:=w11) ((H0.out _ E).d.2 _ (getD_mem (.bool true,[]) (show 0 < x.D.length by omega))) (SD.out.2 _ (getD_mem (.bool true,[]) (show 0 < x.D.length by omega)))
     rw [hra] at hcp
     have hbZ:=lots_lt HL
     have hEB0:=EB0.size
     rw [← hBZ] at hEB0
     refine ax_only (i:=12) (by kernel_rfl) (op_call F rfl rfl (by decide) rfl (R_callV rfl rfl Tryz.call11 (mpS (F.at rfl) mp0)) (hcp) fun e w12 hR=>?_)
     obtain ⟨pa,pc,rfl,po,e9⟩:=hR
     refine ⟨_,rfl,?_⟩;clear F fa;intro fa F
     replace oo1:=owns_ext oo1 (e9) (by simp)
     replace fam1:=fam_lift fam1 fun _ _ _ h=>owns_ext h (e9) (by simp)
     replace oo2:=owns_ext oo2 (e9) (by simp)
     replace fam2:=fam_lift fam2 fun _ _ _ h=>owns_ext h (e9) (by simp)
     replace q2:=(e9).keep0 q2
     replace q5:=(e9).keep0 q5
     replace q6:=(e9).keep0 q6
     replace E:=ext_same E (e9)
     replace EV:=ext_same EV (e9)
     replace EB0:=ext_same EB0 (e9)
     replace EX:=ext_same EX (e9)
     replace HL:=lots_ext (e9) HL
     replace eT:=ext_same eT (e9)
     clear e9
     refine ⟨fun _=>eT,?_⟩
     clear hcp
     replace po:=owns_lower (base':=B0) po hEB0
     obtain ⟨xb10,xo10,xa10,xr10⟩:=HS.out g (by omega)
     refine F.x (i:=13) rfl (fun w'=>R_ixSlice (sz:=1) rfl ((F.at rfl).trans (xa10 _ _)) (F.at rfl) Tryz.underlying22 (by kernel_rfl) (by omega) (by omega)) (fun _=>eT) ?_;clear F fa;intro fa F
     obtain ⟨⟨u0,hcu⟩,hfu,hst⟩:=owns_at oo1 xa10 (j:=g) (p:=xo10 + ((g : Nat) : Int).toNat * 1) (by first | omega | (simp;omega)) (by omega)
     refine ax_only (i:=14) (by kernel_rfl) (op_to rfl rfl rfl (R_store rfl (F.at rfl) (F.at rfl) rfl (by kernel_rfl) hcu hfu) ?_);intro w13 hw
     obtain ⟨hown',hg⟩:=hst _ _ hw
     clear hst hcu hfu hw
     replace q2:=keep_type oo1 hg q2 (by decide)
     replace q5:=keep_type oo1 hg q5 (by decide)
     replace q6:=(hg.block n6 (blk_lt q6) o6_oo1.out).trans q6
     replace HL:=lots_append HL oo1 hg (by omega) (by decide)
     replace fam1:=fam_lift fam1 fun _ _ _ h=>owns_other h oo1 hg (by decide)
     replace oo2:=oo2.kept hg hap2.out
     replace fam2:=fam_lift fam2 fun _ _ _ h=>owns_other h oo1 hg (by decide)
     replace po:=owns_other po oo1 hg (by decide)
     replace E:=ext_appendX E oo1 hg (by omega)
     replace EV:=ext_appendX EV oo1 hg (by omega)
     replace EB0:=ext_appendX EB0 oo1 hg (by omega)
     replace oo1:=hown'
     clear hg
     refine ⟨gone (by kernel_rfl),?_⟩
     obtain ⟨D2,hD2e⟩ : ∃ D2,D2 = o.D.set g (.slice pa (x.D.getD 0 (.bool true,[])).2.length pc,(x.D.getD 0 (.bool true,[])).2):=⟨_,rfl⟩
     have hD2 : ∀ W,Ext [b] w13 W → LolAt W o.da D2:=by rw [hD2e];exact lol_setB oo1 fam1 hbB0 hbB0 (fun W hW=>⟨pa,pc,rfl,rows_of_ivs (owns_ext po hW (by simpa using hbB0)) rfl⟩)
     have hS2 : SmallL D2:=by rw [hD2e];exact small_set SOD.out (show (x.D.getD 0 (.bool true,[])).2.length ≤ 1000 from SD.out.2 _ (getD_mem (.bool true,[]) (show 0 < x.D.length by omega)))
     have hDl : o.D.length = D2.length:=by rw [hD2e,List.length_set]
     rw [hDl] at q6
     refine ax_done (by kernel_rfl) ?_ _
     clear eT q2_ q5_ q6_ E_ EV_ EB0_ EX_
     replace HL:=lots_mono HL (show _ ≤ k + 200 by omega)
     exact hcut { o with D:=D2 } _ _ (F.sub (.c 2 rfl (.c 5 rfl (.c 6 rfl .n)))) q2 q5 q6 E EV EB0 HL (fun W hW=>⟨hD2 W hW,lol_ownB oo2 fam2 hbB0 hbB0 W hW⟩) hS2 SOL.out
    ·skip
     replace HL:=lots_mono HL (show _ ≤ k + 200 by omega)
     refine wp_skip ?_
     exact hcut o _ _ (F.sub (.c 2 rfl (.c 5 rfl (.c 6 rfl .n)))) q2 q5 q6 E EV EB0 HL (fun W hW=>⟨lol_ownB oo1 fam1 hbB0 hbB0 W hW,lol_ownB oo2 fam2 hbB0 hbB0 W hW⟩) SOD.out SOL.out
   ·skip
    refine wp_seq_k fun K11 hK11=>?_
    refine wp_region_lit ?_
    refine F.vl (R_eqlD rfl (F.at rfl) (ev_c fa _)) ?_;clear F fa;intro fa F
    refine F.as ?_;clear F fa;intro fa F
    refine wpList_nil ?_
    refine hK11 _ _ ?_
    clear hK11
    refine cd_if F rfl (fun hc38=>?_) (fun hc38=>?_)
    ·skip
     refine wp_seq_k fun K12 hK12=>?_
     refine wp_region_lit ?_
     refine F.vl (R_field rfl (F.at rfl) Tryz.underlying24 rfl (n:=2) (sz:=1) rfl (by kernel_rfl) (by decide)) ?_;clear F fa;intro fa F
     refine F.vl (R_load rfl (F.at rfl) Tryz.underlying22 rfl ((cells_of_block q2 2).trans (getS (getS (get0))))) ?_;clear F fa;intro fa F
     refine F.vl (R_len rfl rfl (F.at rfl) Tryz.underlying22) ?_;clear F fa;intro fa F
     refine F.vl (R_gtr rfl (F.at rfl) (ev_c fa _)) ?_;clear F fa;intro fa F
     refine wpList_nil ?_
     refine hK12 _ _ ?_
     clear hK12
     refine cd_if F rfl (fun hc43=>?_) (fun hc43=>?_)
     ·skip
      have HS:=Lib.hid (slAt_outB oo2 rfl hbB0)
      have EX : Ext [b] w8 w8:=Ext.refl _ _
      refine region_x (Ext [b] w8) (some 14) follows fun w14 hh eh=>?_
      have q2_:=q2
      replace q2:=keep_same hh q2
      have q5_:=q5
      replace q5:=keep_same hh q5
      have q6_:=q6
      replace q6:=keep_same hh q6
      have E_:=E
      have zEw14:=E.size
      replace E:=ext_same E eh
      have EV_:=EV
      have zEVw14:=EV.size
      replace EV:=ext_same EV eh
      have EB0_:=EB0
      have zEB0w14:=EB0.size
      replace EB0:=ext_same EB0 eh
      have EX_:=EX
      have zEXw14:=EX.size
      replace EX:=ext_same EX eh
      have zbw14:=lots_lt HL
      replace HL:=lots_ext eh HL
      replace oo1:=owns_same hh oo1
      replace fam1:=fam_lift fam1 fun _ _ _ h=>owns_same hh h
      replace oo2:=owns_same hh oo2
      replace fam2:=fam_lift fam2 fun _ _ _ h=>owns_same hh h
      have eT:=eh.mono (Y:=[b]) (by simp)
      clear hh eh
      refine F.x (i:=0) rfl (fun w'=>R_field rfl (F.at rfl) Tryz.underlying24 rfl (n:=2) (sz:=1) rfl (by kernel_rfl) (by decide)) (fun _=>eT) ?_;clear F fa;intro fa F
      refine F.xr (i:=1) rfl (fun w' hS=>R_load rfl (F.at rfl) Tryz.underlying22 rfl ((cells_of_block (hS.keep q6_ (by simp;omega)) 2).trans (getS (getS (get0))))) (fun _=>eT) ?_;clear F fa;intro fa F
      refine F.x (i:=2) rfl (fun w'=>R_move rfl (F.at rfl)) (fun _=>eT) ?_;clear F fa;intro fa F
      refine F.x (i:=3) rfl (fun w'=>R_field rfl (F.at rfl) Tryz.underlying24 rfl (n:=2) (sz:=1) rfl (by kernel_rfl) (by decide)) (fun _=>eT) ?_;clear F fa;intro fa F
      refine F.xr (i:=4) rfl (fun w' hS=>R_load rfl (F.at rfl) Tryz.underlying22 rfl ((cells_of_block (hS.keep q6_ (by simp;omega)) 2).trans (getS (getS (get0))))) (fun _=>eT) ?_;clear F fa;intro fa F
      refine F.x (i:=5) rfl (fun w'=>R_len rfl rfl (F.at rfl) Tryz.underlying22) (fun _=>eT) ?_;clear F fa;intro fa F
      refine F.x (i:=6) rfl (fun w'=>R_sub rfl (F.at rfl) (ev_c fa _) (by omega) (by omega)) (fun _=>eT) ?_;clear F fa;intro fa F
      refine F.x (i:=8) rfl (fun w'=>R_field rfl (F.at rfl) Tryz.underlying24 rfl (n:=2) (sz:=1) rfl (by kernel_rfl) (by decide)) (fun _=>eT) ?_;clear F fa;intro fa F
      refine F.xr (i:=9) rfl (fun w' hS=>R_load rfl (F.at rfl) Tryz.underlying22 rfl ((cells_of_block (hS.keep q2_ (by simp;omega)) 2).trans (getS (getS (get0))))) (fun _=>eT) ?_;clear F fa;intro fa F
      obtain ⟨xb13,xo13,xa13,xr13⟩:=HXL.out 0 (by omega)
      refine F.x (i:=10) rfl (fun w'=>R_ixSlice (sz:=1) rfl ((F.at rfl).trans (xa13 _ _)) (ev_c fa _) Tryz.underlying22 (by kernel_rfl) (by omega) (by omega)) (fun _=>eT) ?_;clear F fa;intro fa F
      refine F.xr (i:=11) rfl (fun w' hS=>R_load rfl (F.at rfl) Tryz.underlying25 rfl (xr13 _ (E_.trans hS) 0 _ rfl)) (fun _=>eT) ?_;clear F fa;intro fa F
      obtain ⟨ra,rca,hra,-⟩:=(H0.out _ E).l.2 _ (getD_mem (.bool true,[]) (show 0 < x.L.length by omega))
      rw [hra] at F
      refine ax_only (i:=7) (by kernel_rfl) (op_call F rfl rfl (by decide) rfl (R_callV rfl rfl Tryz.call33 (mpS (F.at rfl) (mpS (F.at rfl) mp0))) (upto_any w0 _ b _ nv (((o.L.length : Nat) : Int) - 1) HL (by omega) (by omega) (by omega)) fun e w15 hR=>?_)
      obtain ⟨g,rfl,hg0,hg1,HL,e3⟩:=hR
      refine ⟨_,rfl,?_⟩;clear F fa;intro fa F
      replace oo1:=owns_ext oo1 (e3) (by simp;omega)
      replace fam1:=fam_lift fam1 fun _ _ _ h=>owns_ext h (e3) (by simp;omega)
      replace oo2:=owns_ext oo2 (e3) (by simp;omega)
      replace fam2:=fam_lift fam2 fun _ _ _ h=>owns_ext h (e3) (by simp;omega)
      replace q2:=(e3).keep q2 (by simp;omega)
      replace q5:=(e3).keep q5 (by simp;omega)
      replace q6:=(e3).keep q6 (by simp;omega)
      replace E:=E.trans' e3 (fun i hi hl=>by simp only [List.mem_cons,List.not_mem_nil,or_false] at hi ⊢;omega)
      replace EV:=EV.trans' e3 (fun i hi hl=>by simp only [List.mem_cons,List.not_mem_nil,or_false] at hi ⊢;omega)
      replace EB0:=EB0.trans' e3 (fun i hi hl=>by simp only [List.mem_cons,List.not_mem_nil,or_false] at hi ⊢;omega)
      replace EX:=EX.trans' e3 (fun i hi hl=>by simp only [List.mem_cons,List.not_mem_nil,or_false] at hi ⊢;omega)
      replace eT:=eT.trans' e3 (fun i hi hl=>by simp only [List.mem_cons,List.not_mem_nil,or_false] at hi ⊢;omega)
      refine ⟨fun _=>eT,?_⟩
      obtain ⟨g,rfl⟩:=Int.eq_ofNat_of_zero_le hg0
      have hgl : g < o.L.length:=by omega
      have hcp:=copyInts_any (w:=w15) ((H0.out _ E).l.2 _ (getD_mem (.bool true,[]) (show 0 < x.L.length by omega))) (SL.out.2 _ (getD_mem (.bool true,[]) (show 0 < x.L.length by omega)))
      rw [hra] at hcp
      have hbZ:=lots_lt HL
      have hEB0:=EB0.size
      rw [← hBZ] at hEB0
      refine ax_only (i:=12) (by kernel_rfl) (op_call F rfl rfl (by decide) rfl (R_callV rfl rfl Tryz.call11 (mpS (F.at rfl) mp0)) (hcp) fun e w16 hR=>?_)
      obtain ⟨pa,pc,rfl,po,e9⟩:=hR
      refine ⟨_,rfl,?_⟩;clear F fa;intro fa F
      replace oo1:=owns_ext oo1 (e9) (by simp)
      replace fam1:=fam_lift fam1 fun _ _ _ h=>owns_ext h (e9) (by simp)
      replace oo2:=owns_ext oo2 (e9) (by simp)
      replace fam2:=fam_lift fam2 fun _ _ _ h=>owns_ext h (e9) (by simp)
      replace q2:=(e9).keep0 q2
      replace q5:=(e9).keep0 q5
      replace q6:=(e9).keep0 q6
      replace E:=ext_same E (e9)
      replace EV:=ext_same EV (e9)
      replace EB0:=ext_same EB0 (e9)
      replace EX:=ext_same EX (e9)
      replace HL:=lots_ext (e9) HL
      replace eT:=ext_same eT (e9)
      clear e9
      refine ⟨fun _=>eT,?_⟩
      clear hcp
      replace po:=owns_lower (base':=B0) po hEB0
      obtain ⟨xb14,xo14,xa14,xr14⟩:=HS.out g (by omega)
      refine F.x (i:=13) rfl (fun w'=>R_ixSlice (sz:=1) rfl ((F.at rfl).trans (xa14 _ _)) (F.at rfl) Tryz.underlying22 (by kernel_rfl) (by omega) (by omega)) (fun _=>eT) ?_;clear F fa;intro fa F
      obtain ⟨⟨u0,hcu⟩,hfu,hst⟩:=owns_at oo2 xa14 (j:=g) (p:=xo14 + ((g : Nat) : Int).toNat * 1) (by first | omega | (simp;omega)) (by omega)
      refine ax_only (i:=14) (by kernel_rfl) (op_to rfl rfl rfl (R_store rfl (F.at rfl) (F.at rfl) rfl (by kernel_rfl) hcu hfu) ?_);intro w17 hw
      obtain ⟨hown',hg⟩:=hst _ _ hw
      clear hst hcu hfu hw
      replace q2:=keep_type oo2 hg q2 (by decide)
      replace q5:=keep_type oo2 hg q5 (by decide)
      replace q6:=(hg.block n6 (blk_lt q6) o6_oo2.out).trans q6
      replace HL:=lots_append HL oo2 hg (by omega) (by decide)
      replace oo1:=oo1.kept hg hap3.out
      replace fam1:=fam_lift fam1 fun _ _ _ h=>owns_other h oo2 hg (by decide)
      replace fam2:=fam_lift fam2 fun _ _ _ h=>owns_other h oo2 hg (by decide)
      replace po:=owns_other po oo2 hg (by decide)
      replace E:=ext_appendX E oo2 hg (by omega)
      replace EV:=ext_appendX EV oo2 hg (by omega)
      replace EB0:=ext_appendX EB0 oo2 hg (by omega)
      replace oo2:=hown'
      clear hg
      refine ⟨gone (by kernel_rfl),?_⟩
      obtain ⟨D2,hD2e⟩ : ∃ D2,D2 = o.L.set g (.slice pa (x.L.getD 0 (.bool true,[])).2.length pc,(x.L.getD 0 (.bool true,[])).2):=⟨_,rfl⟩
      have hD2 : ∀ W,Ext [b] w17 W → LolAt W o.la D2:=by rw [hD2e];exact lol_setB oo2 fam2 hbB0 hbB0 (fun W hW=>⟨pa,pc,rfl,rows_of_ivs (owns_ext po hW (by simpa using hbB0)) rfl⟩)
      have hS2 : SmallL D2:=by rw [hD2e];exact small_set SOL.out (show (x.L.getD 0 (.bool true,[])).2.length ≤ 1000 from SL.out.2 _ (getD_mem (.bool true,[]) (show 0 < x.L.length by omega)))
      have hDl : o.L.length = D2.length:=by rw [hD2e,List.length_set]
      rw [hDl] at q6
      refine ax_done (by kernel_rfl) ?_ _
      clear eT q2_ q5_ q6_ E_ EV_ EB0_ EX_
      replace HL:=lots_mono HL (show _ ≤ k + 200 by omega)
      exact hcut { o with L:=D2 } _ _ (F.sub (.c 2 rfl (.c 5 rfl (.c 6 rfl .n)))) q2 q5 q6 E EV EB0 HL (fun W hW=>⟨lol_ownB oo1 fam1 hbB0 hbB0 W hW,hD2 W hW⟩) SOD.out hS2
     ·skip
      replace HL:=lots_mono HL (show _ ≤ k + 200 by omega)
      refine wp_skip ?_
      exact hcut o _ _ (F.sub (.c 2 rfl (.c 5 rfl (.c 6 rfl .n)))) q2 q5 q6 E EV EB0 HL (fun W hW=>⟨lol_ownB oo1 fam1 hbB0 hbB0 W hW,lol_ownB oo2 fam2 hbB0 hbB0 W hW⟩) SOD.out SOL.out
    ·skip
     replace HL:=lots_mono HL (show _ ≤ k + 200 by omega)
     refine wp_skip ?_
     exact hcut o _ _ (F.sub (.c 2 rfl (.c 5 rfl (.c 6 rfl .n)))) q2 q5 q6 E EV EB0 HL (fun W hW=>⟨lol_ownB oo1 fam1 hbB0 hbB0 W hW,lol_ownB oo2 fam2 hbB0 hbB0 W hW⟩) SOD.out SOL.out
 clear F q2 q5 q6 E EV EB0 HL oo1 fam1 oo2 fam2 fa
 intro z fa w18 F q2 q5 q6 E EV EB0 HL hz hzd hzl
 have EZ : Ext [b] w18 w18:=Ext.refl _ _
 refine hK4 _ _ ?_
 clear hK4
 refine wp_seq_k fun K15 hK15=>?_
 refine wp_region_lit ?_
 refine F.vl (R_loadBlk rfl (F.at rfl) Tryz.underlying24 rfl (by kernel_rfl) q2) ?_;clear F fa;intro fa F
 refine F.vl (R_loadBlk rfl (F.at rfl) Tryz.underlying24 rfl (by kernel_rfl) q5) ?_;clear F fa;intro fa F
 refine F.vl (R_loadBlk rfl (F.at rfl) Tryz.underlying24 rfl (by kernel_rfl) q6) ?_;clear F fa;intro fa F
 refine F.vl (R_loadBlk rfl (F.at rfl) Tryz.underlying24 rfl (by kernel_rfl) q5) ?_;clear F fa;intro fa F
 refine sq_new F rfl (by decide) rfl (R_buildSliceV rfl (prS (F.at rfl) (prS (F.at rfl) (prS (F.at rfl) (prS (F.at rfl) pr0)))) Tryz.underlying30 (size:=4) (by kernel_rfl) (by decide) (by decide) Tryz.zeroValue24 (cells:=#[.int .i64 x.B,.slice x.da x.D.length x.dc,.slice x.la x.L.length x.lc,.int .i64 x.tol,.int .i64 y.B,.slice y.da y.D.length y.dc,.slice y.la y.L.length y.lc,.int .i64 y.tol,.int .i64 z.B,.slice z.da z.D.length z.dc,.slice z.la z.L.length z.lc,.int .i64 z.tol,.int .i64 y.B,.slice y.da y.D.length y.dc,.slice y.la y.L.length y.lc,.int .i64 y.tol]) (by kernel_rfl)) ?_;clear F fa;intro fa w19 F hw
 obtain ⟨n62,hn⟩ : ∃ n,n = w18.heap.size:=⟨_,rfl⟩
 rw [← hn] at F
 have s62 : w18.heap.size ≤ n62:=Nat.le_of_eq hn.symm
 have l62_E : w.heap.size ≤ n62:=by rw [hn];exact E.size
 have l62_EV : wV.heap.size ≤ n62:=by rw [hn];exact EV.size
 have l62_EB0 : wZ.heap.size ≤ n62:=by rw [hn];exact EB0.size
 have l62_EZ : w18.heap.size ≤ n62:=by rw [hn];exact EZ.size
 have b62_HL:=Nat.lt_of_lt_of_eq (lots_lt HL) hn.symm
 have m62_2 : n2 < n62:=by rw [hn];exact blk_lt q2
 have m62_5 : n5 < n62:=by rw [hn];exact blk_lt q5
 have m62_6 : n6 < n62:=by rw [hn];exact blk_lt q6
 replace q2:=keep_alloc hw q2
 replace q5:=keep_alloc hw q5
 replace q6:=keep_alloc hw q6
 replace E:=ext_alloc E hw
 replace EV:=ext_alloc EV hw
 replace EB0:=ext_alloc EB0 hw
 replace EZ:=ext_alloc EZ hw
 replace HL:=lots_alloc hw HL
 have q62:=new_block hw hn
 clear hw hn
 refine F.as ?_;clear F fa;intro fa F
 refine wpList_nil ?_
 refine hK15 _ _ ?_
 clear hK15
 refine wp_ret ?_
 (try simp only [Exit.inBlock,Exit.then,reduceIte])
 refine rt_v F (rs_1 F rfl rfl) ?_
 exact ⟨some ⟨n62,0,none⟩,y,z,rfl,HV.out,hzd,hzl,vs_new q62 (by omega) (fun r hr W hW=>by simp only [List.mem_cons,List.not_mem_nil,or_false] at hr;rcases hr with rfl | rfl | rfl | rfl;(· exact H0.out _ (E.trans hW));(· exact HYB.out _ (EV.trans hW));(· exact hz _ (EZ.trans hW));(· exact HYB.out _ (EV.trans hW))),lots_mono HL (by omega),E⟩
end Go.Proofs.YtdjeecgddbjbeaaGreat
namespace Go.Proofs.YtdjeecgddbjbeaaGreat
open Go.RowKit MI
def divB (l : List Int) (n : Int) (i : Nat) : Bool:=(l.take i).all fun q=>decide (q % n = 0)
theorem divB_succ {l : List Int} {n : Int} {i : Nat} (h : i < l.length) : divB l n (i + 1) = (divB l n i && decide (l.getD i 0 % n = 0)):=by
 rw [divB,take_getD l 0 h,List.all_append];simp [divB]
def lowB (l : List Int) : Bool:=(List.range 5).all fun k=>!divB l ((k + 2 : Nat) : Int) l.length
theorem low_bad {l : List Int} {k : Nat} (hk : k < 5) (h : divB l ((k + 2 : Nat) : Int) l.length = true) : lowB l = false:=by
 rw [lowB,List.all_eq_false]
 exact ⟨k,List.mem_range.2 hk,by rw [h];simp⟩
theorem low_all {l : List Int} (h : ∀ k,k < 5 → divB l ((k + 2 : Nat) : Int) l.length = false) : lowB l = true:=by
 rw [lowB,List.all_eq_true]
 intro k hk
 rw [h k (List.mem_range.1 hk)];rfl
set_option maxRecDepth 100000 in
theorem dLowest_any (l : List Int) (a : Option Addr) (c : Nat) (w : World) (hl : l.length ≤ 1000) (hb : ∀ q ∈ l,0 ≤ q ∧ q ≤ 6) (h : IsRows w (.slice a l.length c) 1 (l.map intRow)) :
  Calls Tryz.prog 81 #[.slice a l.length c] w fun e w'=>e = .returned (.bool (lowB l)) ∧ Ext [] w w':=by
 have E : Ext [] w w:=Ext.refl _ _
 have HS:=Lib.hid (slAt_of_rows h 0)
 have HB:=Lib.hid hb
 clear h hb
 refine calls_has 27 Tryz.func81 rfl Tryz.ntmps81 (Nat.le_of_ble_eq_true rfl) ?_
 intro fa F
 refine wp_seq_k fun K1 hK1=>?_
 refine wp_region_lit ?_
 refine F.vl (R_assign rfl (ev_c fa _)) ?_;clear F fa;intro fa F
 refine wpList_nil ?_
 refine hK1 _ _ ?_
 clear hK1
 refine wp_seq_k fun K2 hK2=>?_
 refine wp_seq_k fun K3 hK3=>?_
 refine wp_region_lit ?_
 refine F.vl (R_assign rfl (ev_c fa _)) ?_;clear F fa;intro fa F
 refine wpList_nil ?_
 refine hK3 _ _ ?_
 clear hK3
 refine wp_block ?_
 have F0:=F.sub (.c 0 rfl .n)
 refine lp_for F0 (5) (fun k Lv W=>Lv = [(3,.int .i64 ((k + 2 : Nat) : Int))] ∧ Ext [] w W ∧ RowKit.Hid (∀ j,j < k → divB l ((j + 2 : Nat) : Int) l.length = false)) ⟨_,⟨rfl,E,(Lib.hid fun j h=>by omega)⟩,F.sub (.c 3 rfl (.c 0 rfl .n))⟩ ?_
 clear F F0
 clear E
 rintro k _ fa w1 hi1 ⟨rfl,E,h1⟩ F
 refine wp_seq_k fun K4 hK4=>?_
 refine wp_seq_k fun K5 hK5=>?_
 refine wp_region_lit ?_
 refine F.mv ?_;clear F fa;intro fa F
 refine F.vl (R_leq rfl (F.at rfl) (ev_c fa _)) ?_;clear F fa;intro fa F
 refine wpList_nil ?_
 refine hK5 _ _ ?_
 clear hK5
 refine cd_if F rfl (fun hc7=>?_) (fun hc7=>?_)
 ·skip
  refine wp_skip ?_
  refine hK4 _ _ ?_
  clear hK4
  refine wp_seq_k fun K6 hK6=>?_
  refine wp_block ?_
  refine wp_seq_k fun K7 hK7=>?_
  refine wp_region_lit ?_
  refine F.vl (R_assign rfl (ev_c fa _)) ?_;clear F fa;intro fa F
  refine wpList_nil ?_
  refine hK7 _ _ ?_
  clear hK7
  refine wp_seq_k fun K8 hK8=>?_
  refine wp_seq_k fun K9 hK9=>?_
  refine wp_region_lit ?_
  refine F.vl (R_assign rfl (ev_c fa _)) ?_;clear F fa;intro fa F
  refine wpList_nil ?_
  rw [show (Value.bool true) = .bool (divB l ((k + 2 : Nat) : Int) 0) from rfl] at F
  refine hK9 _ _ ?_
  clear hK9
  refine wp_block ?_
  have F0:=F.sub (.c 0 rfl (.c 3 rfl .n))
  refine lp_for F0 (l.length) (fun i Lv W=>Lv = [(4,.bool (divB l ((k + 2 : Nat) : Int) i)),(5,.int .i64 ((i : Nat) : Int))] ∧ Ext [] w W) ⟨_,⟨rfl,E⟩,F.sub (.c 4 rfl (.c 5 rfl (.c 0 rfl (.c 3 rfl .n))))⟩ ?_
  clear F F0
  clear E
  rintro i _ fa w2 hi2 ⟨rfl,E⟩ F
  refine wp_seq_k fun K10 hK10=>?_
  refine wp_seq_k fun K11 hK11=>?_
  refine wp_region_lit ?_
  refine F.mv ?_;clear F fa;intro fa F
  refine F.mv ?_;clear F fa;intro fa F
  refine F.vl (R_len rfl rfl (F.at rfl) Tryz.underlying25) ?_;clear F fa;intro fa F
  refine F.vl (R_lss rfl (F.at rfl) (F.at rfl)) ?_;clear F fa;intro fa F
  refine wpList_nil ?_
  refine hK11 _ _ ?_
  clear hK11
  refine cd_if F rfl (fun hc13=>?_) (fun hc13=>?_)
  ·skip
   refine wp_skip ?_
   refine hK10 _ _ ?_
   clear hK10
   refine wp_seq_k fun K12 hK12=>?_
   refine wp_block ?_
   by_cases hb : divB l ((k + 2 : Nat) : Int) i = true
   ·skip
    obtain ⟨hq0,hq1⟩:=HB.out _ (getD_mem 0 (show i < l.length by omega))
    have hds:=divB_succ (n:=((k + 2 : Nat) : Int)) (show i < l.length by omega)
    rw [hb,Bool.true_and] at hds
    rw [hb] at F
    refine wp_region_lit ?_
    refine F.mv ?_;clear F fa;intro fa F
    refine F.mv ?_;clear F fa;intro fa F
    refine F.mv ?_ (hw:=(wantT F rfl rfl (by decide) rfl));clear F fa;intro fa F
    refine F.mv ?_ (hw:=(wantT F rfl rfl (by decide) rfl));clear F fa;intro fa F
    obtain ⟨xb13,xo13,xa13,xr13⟩:=HS.out i (by omega)
    refine F.vl (R_ixSlice (sz:=1) rfl ((F.at rfl).trans (xa13 _ _)) (F.at rfl) Tryz.underlying25 (by kernel_rfl) (by omega) (by omega)) ?_ (hw:=(wantT F rfl rfl (by decide) rfl));clear F fa;intro fa F
    refine F.vl (R_load rfl (F.at rfl) Tryz.underlying3 rfl (xr13 _ E 0 _ rfl)) ?_ (hw:=(wantT F rfl rfl (by decide) rfl));clear F fa;intro fa F
    refine F.mv ?_ (hw:=(wantT F rfl rfl (by decide) rfl));clear F fa;intro fa F
    refine F.vl (R_remP rfl (F.at rfl) (F.at rfl) (by omega) (by omega)) ?_ (hw:=(wantT F rfl rfl (by decide) rfl));clear F fa;intro fa F
    refine F.vl (R_eqlD rfl (F.at rfl) (ev_c fa _)) ?_ (hw:=(wantT F rfl rfl (by decide) rfl));clear F fa;intro fa F
    refine F.vl (R_pickT rfl (F.at rfl) (F.at rfl)) ?_;clear F fa;intro fa F
    refine F.as ?_;clear F fa;intro fa F
    refine wpList_nil ?_
    replace F:=F.re (k:=4) rfl (congrArg Value.bool hds.symm)
    refine hK12 _ _ ?_
    clear hK12
    refine wp_region_lit ?_
    refine F.mv ?_;clear F fa;intro fa F
    refine F.vl (R_add rfl (F.at rfl) (ev_c fa _) (by omega) (by omega)) ?_;clear F fa;intro fa F
    refine F.as ?_;clear F fa;intro fa F
    refine wpList_nil ?_
    show _ ∧ _
    exact ⟨by omega,_,⟨rfl,E⟩,F.sub (.c 4 rfl (.c 5 rfl (.c 0 rfl (.c 3 rfl .n))))⟩
   ·skip
    have hds:=divB_succ (n:=((k + 2 : Nat) : Int)) (show i < l.length by omega)
    rw [Bool.eq_false_iff.2 hb,Bool.false_and] at hds
    rw [Bool.eq_false_iff.2 hb] at F
    refine wp_region_lit ?_
    refine F.mv ?_;clear F fa;intro fa F
    refine F.mv ?_;clear F fa;intro fa F
    refine sq_no F rfl (by decide) (wantF F rfl rfl (by decide) rfl (by decide)) ?_;clear F fa;intro fa F
    refine sq_no F rfl (by decide) (wantF F rfl rfl (by decide) rfl (by decide)) ?_;clear F fa;intro fa F
    refine sq_no F rfl (by decide) (wantF F rfl rfl (by decide) rfl (by decide)) ?_;clear F fa;intro fa F
    refine sq_no F rfl (by decide) (wantF F rfl rfl (by decide) rfl (by decide)) ?_;clear F fa;intro fa F
    refine sq_no F rfl (by decide) (wantF F rfl rfl (by decide) rfl (by decide)) ?_;clear F fa;intro fa F
    refine sq_no F rfl (by decide) (wantF F rfl rfl (by decide) rfl (by decide)) ?_;clear F fa;intro fa F
    refine sq_no F rfl (by decide) (wantF F rfl rfl (by decide) rfl (by decide)) ?_;clear F fa;intro fa F
    refine F.vl (R_pickF rfl (F.at rfl) (ev_c fa _)) ?_;clear F fa;intro fa F
    refine F.as ?_;clear F fa;intro fa F
    refine wpList_nil ?_
    replace F:=F.re (k:=4) rfl (congrArg Value.bool hds.symm)
    refine hK12 _ _ ?_
    clear hK12
    refine wp_region_lit ?_
    refine F.mv ?_;clear F fa;intro fa F
    refine F.vl (R_add rfl (F.at rfl) (ev_c fa _) (by omega) (by omega)) ?_;clear F fa;intro fa F
    refine F.as ?_;clear F fa;intro fa F
    refine wpList_nil ?_
    show _ ∧ _
    exact ⟨by omega,_,⟨rfl,E⟩,F.sub (.c 4 rfl (.c 5 rfl (.c 0 rfl (.c 3 rfl .n))))⟩
  ·skip
   refine wp_exit ?_
   rw [show i = l.length by omega] at F
   refine hK8 _ _ ?_
   clear hK8
   refine wp_seq_k fun K14 hK14=>?_
   refine wp_region_lit ?_
   refine F.mv ?_;clear F fa;intro fa F
   refine wpList_nil ?_
   refine hK14 _ _ ?_
   clear hK14
   refine cd_b F rfl (fun hc26=>?_) (fun hc26=>?_)
   ·skip
    refine wp_seq_k fun K15 hK15=>?_
    refine wp_region_lit ?_
    refine F.vl (R_assign rfl (ev_c fa _)) ?_;clear F fa;intro fa F
    refine wpList_nil ?_
    refine hK15 _ _ ?_
    clear hK15
    refine wp_ret ?_
    (try simp only [Exit.inBlock,Exit.then,reduceIte])
    refine rt_v F (rs_1 F rfl rfl) ?_
    exact ⟨ret_bool (low_bad (k:=k) (by omega) hc26).symm,E⟩
   ·skip
    have hno : divB l ((k + 2 : Nat) : Int) l.length = false:=by simpa using hc26
    refine wp_skip ?_
    refine hK6 _ _ ?_
    clear hK6
    refine wp_region_lit ?_
    refine F.mv ?_;clear F fa;intro fa F
    refine F.vl (R_add rfl (F.at rfl) (ev_c fa _) (by omega) (by omega)) ?_;clear F fa;intro fa F
    rw [show (((k + 2 : Nat) : Int) + 1) = ((k + 1 + 2 : Nat) : Int) by omega] at F
    refine F.as ?_;clear F fa;intro fa F
    refine wpList_nil ?_
    show _ ∧ _
    exact ⟨by omega,_,⟨rfl,E,(Lib.hid fun j h=>by rcases Nat.lt_succ_iff_lt_or_eq.1 h with h | rfl;(· exact h1.out j h);(· exact hno))⟩,F.sub (.c 3 rfl (.c 0 rfl .n))⟩
 ·skip
  refine wp_exit ?_
  refine hK2 _ _ ?_
  clear hK2
  refine wp_seq_k fun K16 hK16=>?_
  refine wp_region_lit ?_
  refine F.vl (R_assign rfl (ev_c fa _)) ?_;clear F fa;intro fa F
  refine wpList_nil ?_
  refine hK16 _ _ ?_
  clear hK16
  refine wp_ret ?_
  (try simp only [Exit.inBlock,Exit.then,reduceIte])
  refine rt_v F (rs_1 F rfl rfl) ?_
  exact ⟨ret_bool (low_all fun j hj=>h1.out j (by omega)).symm,E⟩
theorem dyeN_succ (f : Nat → Int) (n : Nat) : dyeN f (n + 1) = dyeN f n + min (f n) 1:=rfl
theorem dyeN_bd {l : List Int} (hb : ∀ q ∈ l,0 ≤ q ∧ q ≤ 6) : ∀ i,i ≤ l.length → 0 ≤ dyeN (val l) i ∧ dyeN (val l) i ≤ i
 | 0,_=>by simp [dyeN,sumTo]
 | i + 1,h=>by
  have h1:=dyeN_bd hb i (by omega)
  have h2:=hb _ (getD_mem 0 (show i < l.length by omega))
  rw [dyeN_succ,show val l i = l.getD i 0 from rfl]
  omega
theorem val_zeroZ {l : List Int} {k : Nat} (h : l.length ≤ k) : val l k = 0:=by rw [val,List.getD_eq_getElem?_getD,List.getElem?_eq_none h];rfl
theorem dyeN_end (l : List Int) : ∀ d,dyeN (val l) (l.length + d) = dyeN (val l) l.length
 | 0=>rfl
 | d + 1=>by
  rw [← Nat.add_assoc,dyeN_succ,dyeN_end l d,val_zeroZ (by omega)];omega
set_option maxRecDepth 100000 in
theorem dDyes_any (l : List Int) (a : Option Addr) (c : Nat) (w : World) (hl : l.length ≤ 1000) (hb : ∀ q ∈ l,0 ≤ q ∧ q ≤ 6) (h : IsRows w (.slice a l.length c) 1 (l.map intRow)) :
  Calls Tryz.prog 49 #[.slice a l.length c] w fun e w'=>e = .returned (.int .i64 (dyeN (val l) l.length)) ∧ Ext [] w w':=by
 have E : Ext [] w w:=Ext.refl _ _
 have HS:=Lib.hid (slAt_of_rows h 0)
 have HB:=Lib.hid hb
 clear h hb
 refine calls_has 19 Tryz.func49 rfl Tryz.ntmps49 (Nat.le_of_ble_eq_true rfl) ?_
 intro fa F
 refine wp_seq_k fun K1 hK1=>?_
 refine wp_region_lit ?_
 refine F.vl (R_assign rfl (ev_c fa _)) ?_;clear F fa;intro fa F
 refine wpList_nil ?_
 refine hK1 _ _ ?_
 clear hK1
 refine wp_seq_k fun K2 hK2=>?_
 refine wp_region_lit ?_
 refine F.vl (R_assign rfl (ev_c fa _)) ?_;clear F fa;intro fa F
 refine wpList_nil ?_
 rw [show (Value.int .i64 0) = .int .i64 (dyeN (val l) 0) from rfl] at F
 refine hK2 _ _ ?_
 clear hK2
 refine wp_seq_k fun K3 hK3=>?_
 refine wp_seq_k fun K4 hK4=>?_
 refine wp_region_lit ?_
 refine F.vl (R_assign rfl (ev_c fa _)) ?_;clear F fa;intro fa F
 refine wpList_nil ?_
 refine hK4 _ _ ?_
 clear hK4
 refine wp_block ?_
 have F0:=F.sub (.c 0 rfl .n)
 refine lp_for F0 (l.length) (fun i Lv W=>Lv = [(3,.int .i64 (dyeN (val l) i)),(4,.int .i64 ((i : Nat) : Int))] ∧ Ext [] w W) ⟨_,⟨rfl,E⟩,F.sub (.c 3 rfl (.c 4 rfl (.c 0 rfl .n)))⟩ ?_
 clear F F0
 clear E
 rintro i _ fa w1 hi1 ⟨rfl,E⟩ F
 refine wp_seq_k fun K5 hK5=>?_
 refine wp_seq_k fun K6 hK6=>?_
 refine wp_region_lit ?_
 refine F.mv ?_;clear F fa;intro fa F
 refine F.mv ?_;clear F fa;intro fa F
 refine F.vl (R_len rfl rfl (F.at rfl) Tryz.underlying25) ?_;clear F fa;intro fa F
 refine F.vl (R_lss rfl (F.at rfl) (F.at rfl)) ?_;clear F fa;intro fa F
 refine wpList_nil ?_
 refine hK6 _ _ ?_
 clear hK6
 refine cd_if F rfl (fun hc8=>?_) (fun hc8=>?_)
 ·skip
  refine wp_skip ?_
  refine hK5 _ _ ?_
  clear hK5
  refine wp_seq_k fun K7 hK7=>?_
  refine wp_block ?_
  refine wp_seq_k fun K8 hK8=>?_
  refine wp_region_lit ?_
  refine F.mv ?_;clear F fa;intro fa F
  refine F.mv ?_;clear F fa;intro fa F
  obtain ⟨xb9,xo9,xa9,xr9⟩:=HS.out i (by omega)
  refine F.vl (R_ixSlice (sz:=1) rfl ((F.at rfl).trans (xa9 _ _)) (F.at rfl) Tryz.underlying25 (by kernel_rfl) (by omega) (by omega)) ?_;clear F fa;intro fa F
  refine F.vl (R_load rfl (F.at rfl) Tryz.underlying3 rfl (xr9 _ E 0 _ rfl)) ?_;clear F fa;intro fa F
  refine F.vl (R_gtr rfl (F.at rfl) (ev_c fa _)) ?_;clear F fa;intro fa F
  refine wpList_nil ?_
  refine hK8 _ _ ?_
  clear hK8
  refine cd_if F rfl (fun hc15=>?_) (fun hc15=>?_)
  ·skip
   have hs : dyeN (val l) i + 1 = dyeN (val l) (i + 1):=by rw [dyeN_succ,show val l i = l.getD i 0 from rfl];omega
   have hbd:=dyeN_bd HB.out i (by omega)
   refine wp_region_lit ?_
   refine F.mv ?_;clear F fa;intro fa F
   refine F.vl (R_add rfl (F.at rfl) (ev_c fa _) (by omega) (by omega)) ?_;clear F fa;intro fa F
   rw [hs] at F
   refine F.as ?_;clear F fa;intro fa F
   refine wpList_nil ?_
   refine hK7 _ _ ?_
   clear hK7
   refine wp_region_lit ?_
   refine F.mv ?_;clear F fa;intro fa F
   refine F.vl (R_add rfl (F.at rfl) (ev_c fa _) (by omega) (by omega)) ?_;clear F fa;intro fa F
   refine F.as ?_;clear F fa;intro fa F
   refine wpList_nil ?_
   show _ ∧ _
   exact ⟨by omega,_,⟨rfl,E⟩,F.sub (.c 3 rfl (.c 4 rfl (.c 0 rfl .n)))⟩
  ·skip
   have hs : dyeN (val l) i = dyeN (val l) (i + 1):=by have:=(HB.out _ (getD_mem 0 (show i < l.length by omega))).1;rw [dyeN_succ,show val l i = l.getD i 0 from rfl];omega
   rw [hs] at F
   refine wp_skip ?_
   refine hK7 _ _ ?_
   clear hK7
   refine wp_region_lit ?_
   refine F.mv ?_;clear F fa;intro fa F
   refine F.vl (R_add rfl (F.at rfl) (ev_c fa _) (by omega) (by omega)) ?_;clear F fa;intro fa F
   refine F.as ?_;clear F fa;intro fa F
   refine wpList_nil ?_
   show _ ∧ _
   exact ⟨by omega,_,⟨rfl,E⟩,F.sub (.c 3 rfl (.c 4 rfl (.c 0 rfl .n)))⟩
 ·skip
  refine wp_exit ?_
  rw [show i = l.length by omega] at F
  refine hK3 _ _ ?_
  clear hK3
  refine wp_seq_k fun K10 hK10=>?_
  refine wp_region_lit ?_
  refine F.mv ?_;clear F fa;intro fa F
  refine F.as ?_;clear F fa;intro fa F
  refine wpList_nil ?_
  refine hK10 _ _ ?_
  clear hK10
  refine wp_ret ?_
  (try simp only [Exit.inBlock,Exit.then,reduceIte])
  refine rt_v F (rs_1 F rfl rfl) ?_
  exact ⟨rfl,E⟩
def LstPost (LL : List (List Int)) (w : World) (e : Ending) (w' : World) : Prop:=∃ (M : List (Value × List Int)) (b : Option Addr) (d : Nat),e = .returned (.slice b M.length d) ∧ M.map (·.2) = LL ∧ LolAt w' b M ∧ Ext [] w w'
def recB (l : List Int) : Bool:=decide (0 < l.sum) && lowB l
theorem rec_all : ∀ nd,nd < 5 → (allL nd 6).filter recB = (recL nd).filter fun t=>decide (gcE (val t) = 1):=by decide +kernel
theorem all_nn : ∀ nd,nd < 5 → ∀ l ∈ allL nd 6,(l.all fun q=>decide (0 ≤ q) && decide (q ≤ 6)) = true:=by decide +kernel
theorem mat_all6 {x : Vm} (hd : x.D.length ≤ 4) (s : Nat → Int) (ls : List Int) : (allL x.D.length 6).filter (fun l=>recB l && matE x (val l) s ls) = matL x s ls:=by
 have h1 : (allL x.D.length 6).filter (fun l=>recB l && matE x (val l) s ls) = ((allL x.D.length 6).filter recB).filter fun l=>matE x (val l) s ls:=by
  rw [List.filter_filter]
  congr 1
  funext l
  rw [Bool.and_comm]
 rw [h1,rec_all _ (by omega),List.filter_filter,matL]
 congr 1
 funext t
 rw [cndE,Bool.and_comm]
theorem filt_snoc {α : Type} (p : α → Bool) (L : List α) (d : α) {i : Nat} (h : i < L.length) : (L.take (i + 1)).filter p = (L.take i).filter p ++ if p (L.getD i d) then [L.getD i d] else []:=by
 rw [take_getD L d h,List.filter_append,List.filter_cons,List.filter_nil]
set_option maxRecDepth 100000 in
set_option maxHeartbeats 4000000 in
theorem dRecipes_ok (x : Vm) (hv : VOk x) (s : List Int) (hs : SmpOk x s) (ls : List Int) (hl : LmpOk x ls) (hll : ls.length ≤ 1000) (a b : Option Addr) (c d : Nat) (w : World) (h : x.At w) (hr : IsRows w (.slice a s.length c) 1 (s.map intRow)) (hq : IsRows w (.slice b ls.length d) 1 (ls.map intRow)) :
  Calls Tryz.prog 46 #[.agg #[.int .i64 x.B,.slice x.da x.D.length x.dc,.slice x.la x.L.length x.lc,.int .i64 x.tol],.slice a s.length c,.slice b ls.length d] w (LstPost (matL x (val s) ls) w):=by
 have E : Ext [] w w:=Ext.refl _ _
 have HX:=Lib.hid h
 have HV:=Lib.hid hv
 have HR:=Lib.hid hr
 have HQ:=Lib.hid hq
 have HL:=Lib.hid hl
 have HS:=Lib.hid hs
 have hd4:=hv.d4
 clear h hv hr hq hl hs
 refine calls_has 51 Tryz.func46 rfl Tryz.ntmps46 (Nat.le_of_ble_eq_true rfl) ?_
 intro fa F
 refine wp_seq_k fun K1 hK1=>?_
 refine wp_region_lit ?_
 refine sq_new F rfl (by decide) rfl (R_box rfl (F.at rfl)) ?_;clear F fa;intro fa w1 F hw
 obtain ⟨n3,hn⟩ : ∃ n,n = w.heap.size:=⟨_,rfl⟩
 rw [← hn] at F
 have s3 : w.heap.size ≤ n3:=Nat.le_of_eq hn.symm
 have l3_E : w.heap.size ≤ n3:=by rw [hn];exact E.size
 replace E:=ext_alloc E hw
 have q3:=new_row hw hn
 clear hw hn
 refine F.vl (R_assign rfl (ev_c fa _)) ?_;clear F fa;intro fa F
 refine wpList_nil ?_
 refine hK1 _ _ ?_
 clear hK1
 refine wp_seq_k fun K2 hK2=>?_
 refine wp_region_lit ?_
 refine F.vl (R_assign rfl (ev_c fa _)) ?_;clear F fa;intro fa F
 refine wpList_nil ?_
 refine hK2 _ _ ?_
 clear hK2
 refine wp_seq_k fun K3 hK3=>?_
 refine wp_region_lit ?_
 refine F.vl (R_field rfl (F.at rfl) Tryz.underlying24 rfl (n:=1) (sz:=1) rfl (by kernel_rfl) (by decide)) ?_;clear F fa;intro fa F
 refine F.vl (R_load rfl (F.at rfl) Tryz.underlying22 rfl ((cells_of_block q3 1).trans (getS (get0)))) ?_;clear F fa;intro fa F
 refine F.vl (R_len rfl rfl (F.at rfl) Tryz.underlying22) ?_;clear F fa;intro fa F
 refine sq_call F rfl (by decide) rfl (R_callV rfl rfl Tryz.call80 (mpS (F.at rfl) (mpS (ev_c fa _) mp0))) (dAll_any x.D.length hd4 6 (by decide) _) fun e w2 hR=>?_
 obtain ⟨R,rb,rc,rfl,hR,ro,rf,e9⟩:=hR
 refine ⟨_,rfl,?_⟩;clear F fa;intro fa F
 replace q3:=(e9).keep0 q3
 replace E:=ext_same E (e9)
 clear e9
 have hrl:=lol_of_own ro rf
 clear ro rf
 have HRL:=Lib.hid hrl
 have HRS:=Lib.hid hrl.1
 obtain ⟨wM,hwM⟩ : ∃ wM,wM = w2:=⟨_,rfl⟩
 have EM : Ext [] wM w2:=by rw [hwM];exact Ext.refl _ _
 rw [← hwM] at HRL HRS
 clear hrl
 have hRl : R.length ≤ 300:=by rw [← List.length_map (f:=fun p : Value × List Int=>p.2),hR];exact (all_bd x.D.length (by omega) 6 (by omega)).1
 have hRB : RowKit.Hid (∀ p ∈ R,p.2.length = x.D.length ∧ ∀ q ∈ p.2,0 ≤ q ∧ q ≤ 6):=Lib.hid (fun p hp=>by have hm : p.2 ∈ allL x.D.length 6:=(by rw [← hR];exact List.mem_map.2 ⟨p,hp,rfl⟩);refine ⟨(all_bd x.D.length (by omega) 6 (by omega)).2 _ hm,fun q hq=>?_⟩;have:=List.all_eq_true.1 (all_nn x.D.length (by omega) _ hm) q hq;simpa using this)
 obtain ⟨pf,hpf⟩ : ∃ pf : List Int → Bool,pf = fun l=>recB l && matE x (val l) (val s) ls:=⟨_,rfl⟩
 refine F.as ?_;clear F fa;intro fa F
 refine wpList_nil ?_
 refine hK3 _ _ ?_
 clear hK3
 refine wp_seq_k fun K4 hK4=>?_
 refine wp_seq_k fun K5 hK5=>?_
 refine wp_region_lit ?_
 refine F.vl (R_assign rfl (ev_c fa _)) ?_;clear F fa;intro fa F
 refine wpList_nil ?_
 have oo : w2.ownsRow wM.heap.size 25 1 (.slice none 0 0) 0 (([] : List (Value × List Int)).map (·.1)):=World.ownsRow_nil _ _ _ _
 have hzM : w.heap.size ≤ wM.heap.size:=by rw [hwM];exact E.size
 refine hK5 _ _ ?_
 clear hK5
 refine wp_block ?_
 have F0:=F.sub (.c 1 rfl (.c 2 rfl (.c 3 rfl (.c 8 rfl .n))))
 refine lp_for F0 (R.length) (fun i Lv W=>∃ va : Option Addr,∃ vc : Nat,∃ O : List (Value × List Int),Lv = [(7,.slice va O.length vc),(9,.int .i64 ((i : Nat) : Int))] ∧ Ext [] w W ∧ Ext [] wM W ∧ W.heap[n3]? = some (.cells #[.int .i64 x.B,.slice x.da x.D.length x.dc,.slice x.la x.L.length x.lc,.int .i64 x.tol] 24 (0,0)) ∧ W.ownsRow wM.heap.size 25 1 (.slice va O.length vc) O.length (O.map (·.1)) ∧ O = (R.take i).filter fun p=>pf p.2) ⟨_,⟨none,0,[],rfl,E,EM,q3,oo,rfl⟩,F.sub (.c 7 rfl (.c 9 rfl (.c 1 rfl (.c 2 rfl (.c 3 rfl (.c 8 rfl .n))))))⟩ ?_
 clear F F0
 clear E EM q3
 clear oo
 rintro i _ fa w3 hi1 ⟨va,vc,O,rfl,E,EM,q3,oo,hO⟩ F
 have hOl : O.length ≤ 300:=by rw [hO];exact Nat.le_trans (List.length_filter_le _ _) (by rw [List.length_take];omega)
 refine wp_seq_k fun K6 hK6=>?_
 refine wp_seq_k fun K7 hK7=>?_
 refine wp_region_lit ?_
 refine F.mv ?_;clear F fa;intro fa F
 refine F.mv ?_;clear F fa;intro fa F
 refine F.vl (R_len rfl rfl (F.at rfl) Tryz.underlying22) ?_;clear F fa;intro fa F
 refine F.vl (R_lss rfl (F.at rfl) (F.at rfl)) ?_;clear F fa;intro fa F
 refine wpList_nil ?_
 refine hK7 _ _ ?_
 clear hK7
 refine cd_if F rfl (fun hc17=>?_) (fun hc17=>?_)
 ·skip
  refine wp_skip ?_
  refine hK6 _ _ ?_
  clear hK6
  refine wp_seq_k fun K8 hK8=>?_
  refine wp_block ?_
  refine wp_seq_k fun K9 hK9=>?_
  obtain ⟨ma,mca,hma,hmr⟩:=HRL.out.2 _ (getD_mem (.bool true,[]) (show i < R.length by omega))
  obtain ⟨hm1,hm2⟩:=hRB.out _ (getD_mem (.bool true,[]) (show i < R.length by omega))
  have hfs:=filt_snoc (fun p : Value × List Int=>pf p.2) R (.bool true,[]) (show i < R.length by omega)
  obtain ⟨m,hm⟩ : ∃ m,m = (R.getD i (.bool true,[])).2:=⟨_,rfl⟩
  rw [← hm] at hma hmr hm1 hm2 hfs
  have HMR:=Lib.hid hmr
  have HM2:=Lib.hid hm2
  clear hmr hm2
  by_cases hu : 0 < m.sum
  ·skip
   by_cases hw2 : lowB m = true
   ·skip
    refine region_x (Ext [] w3) none follows fun w4 hh eh=>?_
    have q3_:=q3
    replace q3:=keep_same hh q3
    have E_:=E
    have zEw4:=E.size
    replace E:=ext_same E eh
    have EM_:=EM
    have zEMw4:=EM.size
    replace EM:=ext_same EM eh
    replace oo:=owns_same hh oo
    have eT:=eh
    clear hh eh
    refine F.x (i:=0) rfl (fun w'=>R_move rfl (F.at rfl)) (fun _=>eT) ?_;clear F fa;intro fa F
    refine F.x (i:=1) rfl (fun w'=>R_move rfl (F.at rfl)) (fun _=>eT) ?_;clear F fa;intro fa F
    obtain ⟨xb10,xo10,xa10,xr10⟩:=HRS.out i (by omega)
    refine F.x (i:=2) rfl (fun w'=>R_ixSlice (sz:=1) rfl ((F.at rfl).trans (xa10 _ _)) (F.at rfl) Tryz.underlying22 (by kernel_rfl) (by omega) (by omega)) (fun _=>eT) ?_;clear F fa;intro fa F
    refine F.xr (i:=3) rfl (fun w' hS=>R_load rfl (F.at rfl) Tryz.underlying25 rfl (xr10 _ (EM_.nil hS) 0 _ rfl)) (fun _=>eT) ?_;clear F fa;intro fa F
    rw [hma] at F
    refine ax_only (i:=4) (by kernel_rfl) (op_call F rfl rfl (by decide) rfl (R_callV rfl rfl Tryz.call50 (mpS (F.at rfl) mp0)) (dTotal_any m ma mca _ (HMR.out.ext EM (by simp)) (by omega) (fun q hq=>by have:=HM2.out q hq;omega)) fun e w5 hR=>?_)
    obtain ⟨rfl,e9⟩:=hR
    refine ⟨_,rfl,?_⟩;clear F fa;intro fa F
    replace oo:=owns_ext oo (e9) (by simp)
    replace q3:=(e9).keep0 q3
    replace E:=ext_same E (e9)
    replace EM:=ext_same EM (e9)
    replace eT:=ext_same eT (e9)
    clear e9
    refine ⟨fun _=>eT,?_⟩
    refine F.x (i:=5) rfl (fun w'=>R_gtrB (b:=true) rfl (F.at rfl) (ev_c fa _) (decide_eq_true ((by omega)))) (fun _=>eT) ?_;clear F fa;intro fa F
    refine F.x (i:=6) rfl (fun w'=>R_move rfl (F.at rfl)) (fun _=>eT) ?_;clear F fa;intro fa F
    refine F.x (i:=7) rfl (fun w'=>R_move rfl (F.at rfl)) (fun _=>eT) ?_ (hw:=(wantT F rfl rfl (by decide) rfl));clear F fa;intro fa F
    refine F.x (i:=8) rfl (fun w'=>R_move rfl (F.at rfl)) (fun _=>eT) ?_ (hw:=(wantT F rfl rfl (by decide) rfl));clear F fa;intro fa F
    obtain ⟨xb11,xo11,xa11,xr11⟩:=HRS.out i (by omega)
    refine F.x (i:=9) rfl (fun w'=>R_ixSlice (sz:=1) rfl ((F.at rfl).trans (xa11 _ _)) (F.at rfl) Tryz.underlying22 (by kernel_rfl) (by omega) (by omega)) (fun _=>eT) ?_ (hw:=(wantT F rfl rfl (by decide) rfl));clear F fa;intro fa F
    refine F.xr (i:=10) rfl (fun w' hS=>R_load rfl (F.at rfl) Tryz.underlying25 rfl (xr11 _ (EM_.nil hS) 0 _ rfl)) (fun _=>eT) ?_ (hw:=(wantT F rfl rfl (by decide) rfl));clear F fa;intro fa F
    rw [hma] at F
    refine ax_only (i:=11) (by kernel_rfl) (op_call F rfl rfl (by decide) (wantT F rfl rfl (by decide) rfl) (R_callV rfl rfl Tryz.call81 (mpS (F.at rfl) mp0)) (dLowest_any m ma mca _ (by omega) HM2.out (HMR.out.ext EM (by simp))) fun e w6 hR=>?_)
    obtain ⟨rfl,e9⟩:=hR
    refine ⟨_,rfl,?_⟩;clear F fa;intro fa F
    replace oo:=owns_ext oo (e9) (by simp)
    replace q3:=(e9).keep0 q3
    replace E:=ext_same E (e9)
    replace EM:=ext_same EM (e9)
    replace eT:=ext_same eT (e9)
    clear e9
    refine ⟨fun _=>eT,?_⟩
    rw [hw2] at F
    refine F.x (i:=12) rfl (fun w'=>R_pickT rfl (F.at rfl) (F.at rfl)) (fun _=>eT) ?_;clear F fa;intro fa F
    refine F.x (i:=13) rfl (fun w'=>R_move rfl (F.at rfl)) (fun _=>eT) ?_;clear F fa;intro fa F
    refine F.xr (i:=14) rfl (fun w' hS=>R_loadBlk rfl (F.at rfl) Tryz.underlying24 rfl (by kernel_rfl) (hS.keep q3_ (by simp))) (fun _=>eT) ?_ (hw:=(wantT F rfl rfl (by decide) rfl));clear F fa;intro fa F
    refine F.x (i:=15) rfl (fun w'=>R_move rfl (F.at rfl)) (fun _=>eT) ?_ (hw:=(wantT F rfl rfl (by decide) rfl));clear F fa;intro fa F
    refine F.x (i:=16) rfl (fun w'=>R_move rfl (F.at rfl)) (fun _=>eT) ?_ (hw:=(wantT F rfl rfl (by decide) rfl));clear F fa;intro fa F
    refine F.x (i:=17) rfl (fun w'=>R_move rfl (F.at rfl)) (fun _=>eT) ?_ (hw:=(wantT F rfl rfl (by decide) rfl));clear F fa;intro fa F
    obtain ⟨xb12,xo12,xa12,xr12⟩:=HRS.out i (by omega)
    refine F.x (i:=18) rfl (fun w'=>R_ixSlice (sz:=1) rfl ((F.at rfl).trans (xa12 _ _)) (F.at rfl) Tryz.underlying22 (by kernel_rfl) (by omega) (by omega)) (fun _=>eT) ?_ (hw:=(wantT F rfl rfl (by decide) rfl));clear F fa;intro fa F
    refine F.xr (i:=19) rfl (fun w' hS=>R_load rfl (F.at rfl) Tryz.underlying25 rfl (xr12 _ (EM_.nil hS) 0 _ rfl)) (fun _=>eT) ?_ (hw:=(wantT F rfl rfl (by decide) rfl));clear F fa;intro fa F
    rw [hma] at F
    refine F.x (i:=20) rfl (fun w'=>R_move rfl (F.at rfl)) (fun _=>eT) ?_ (hw:=(wantT F rfl rfl (by decide) rfl));clear F fa;intro fa F
    have hun:=dUnder_ok x HV.out ls HL.out hll m hm1 HM2.out s HS.out b ma a d mca c w6 (HX.out.ext E) (HQ.out.ext E (by simp)) (HMR.out.ext EM (by simp)) (HR.out.ext E (by simp))
    refine ax_only (i:=21) (by kernel_rfl) (op_call F rfl rfl (by decide) (wantT F rfl rfl (by decide) rfl) (R_callV rfl rfl Tryz.call82 (mpS (F.at rfl) (mpS (F.at rfl) (mpS (F.at rfl) (mpS (F.at rfl) mp0))))) (hun) fun e w7 hR=>?_)
    obtain ⟨rfl,e9⟩:=hR
    refine ⟨_,rfl,?_⟩;clear F fa;intro fa F
    replace oo:=owns_ext oo (e9) (by simp)
    replace q3:=(e9).keep0 q3
    replace E:=ext_same E (e9)
    replace EM:=ext_same EM (e9)
    replace eT:=ext_same eT (e9)
    clear e9
    refine ⟨fun _=>eT,?_⟩
    clear hun
    refine F.x (i:=22) rfl (fun w'=>R_pickT rfl (F.at rfl) (F.at rfl)) (fun _=>eT) ?_;clear F fa;intro fa F
    refine ax_done (by kernel_rfl) ?_ _
    clear eT q3_ E_ EM_
    have hpm : pf m = matE x (val m) (val s) ls:=(by rw [hpf];show (recB m && _) = _;rw [recB,decide_eq_true hu,hw2];rfl)
    refine hK9 _ _ ?_
    clear hK9
    refine cd_b F rfl (fun hc42=>?_) (fun hc42=>?_)
    ·skip
     refine wp_region_lit ?_
     refine F.mv ?_;clear F fa;intro fa F
     refine F.mv ?_;clear F fa;intro fa F
     refine F.mv ?_;clear F fa;intro fa F
     obtain ⟨xb13,xo13,xa13,xr13⟩:=HRS.out i (by omega)
     refine F.vl (R_ixSlice (sz:=1) rfl ((F.at rfl).trans (xa13 _ _)) (F.at rfl) Tryz.underlying22 (by kernel_rfl) (by omega) (by omega)) ?_;clear F fa;intro fa F
     refine F.vl (R_load rfl (F.at rfl) Tryz.underlying25 rfl (xr13 _ EM 0 _ rfl)) ?_;clear F fa;intro fa F
     rw [hma] at F
     refine sq_new F rfl (by decide) rfl (R_buildSliceV rfl (prS (F.at rfl) pr0) Tryz.underlying22 (size:=1) (by kernel_rfl) (by decide) (by decide) Tryz.zeroValue25 (cells:=#[.slice ma m.length mca]) (by kernel_rfl)) ?_;clear F fa;intro fa w8 F hw
     obtain ⟨n48,hn⟩ : ∃ n,n = w7.heap.size:=⟨_,rfl⟩
     rw [← hn] at F
     have s48 : w7.heap.size ≤ n48:=Nat.le_of_eq hn.symm
     have l48_E : w.heap.size ≤ n48:=by rw [hn];exact E.size
     have l48_EM : wM.heap.size ≤ n48:=by rw [hn];exact EM.size
     have m48_3 : n3 < n48:=by rw [hn];exact blk_lt q3
     have o48_oo:=Lib.hid (own_ne_new oo hn)
     replace oo:=owns_alloc hw oo
     replace q3:=keep_alloc hw q3
     replace E:=ext_alloc E hw
     replace EM:=ext_alloc EM hw
     have q48:=new_block hw hn
     clear hw hn
     have hzE:=EM.size
     refine sq_some F rfl (by decide) rfl (append_run rfl (wM.heap.size) (e:=25) (size:=1) (bytes:=24) Tryz.underlying22 (by kernel_rfl) (by decide) (F.at rfl) oo (F.at rfl) q48 rfl (by simp [Value.oneCell']) (by omega) (by omega) (by omega)) ?_;clear F fa;rintro fa v' w9 F ⟨hown',hg⟩
     obtain ⟨va49,vc49,rfl⟩:=owns_slice hown'
     replace q3:=keep_type oo hg q3 (by decide)
     replace E:=ext_appendX E oo hg (by omega)
     replace EM:=ext_appendX EM oo hg (by omega)
     replace oo:=hown'
     clear hg
     obtain ⟨P,hP⟩ : ∃ P,P = O ++ [R.getD i (.bool true,[])]:=⟨_,rfl⟩
     have hPl : O.length + 1 = P.length:=by rw [hP,List.length_append];rfl
     have hO2 : P = (R.take (i + 1)).filter fun p=>pf p.2:=(by rw [hfs,hpm,hc42,if_pos rfl,← hO,hP])
     rw [show O.map (·.1) ++ [Value.slice ma m.length mca] = P.map (·.1) by rw [hP,List.map_append,← hma];rfl,hPl] at oo
     rw [hPl] at F
     refine F.as ?_;clear F fa;intro fa F
     refine wpList_nil ?_
     refine hK8 _ _ ?_
     clear hK8
     refine wp_region_lit ?_
     refine F.mv ?_;clear F fa;intro fa F
     refine F.vl (R_add rfl (F.at rfl) (ev_c fa _) (by omega) (by omega)) ?_;clear F fa;intro fa F
     refine F.as ?_;clear F fa;intro fa F
     refine wpList_nil ?_
     show _ ∧ _
     exact ⟨by omega,_,⟨_,_,_,rfl,E,EM,q3,oo,hO2⟩,F.sub (.c 7 rfl (.c 9 rfl (.c 1 rfl (.c 2 rfl (.c 3 rfl (.c 8 rfl .n))))))⟩
    ·skip
     have hO2 : O = (R.take (i + 1)).filter fun p=>pf p.2:=(by rw [hfs,hpm,hc42,hO];simp)
     refine wp_skip ?_
     refine hK8 _ _ ?_
     clear hK8
     refine wp_region_lit ?_
     refine F.mv ?_;clear F fa;intro fa F
     refine F.vl (R_add rfl (F.at rfl) (ev_c fa _) (by omega) (by omega)) ?_;clear F fa;intro fa F
     refine F.as ?_;clear F fa;intro fa F
     refine wpList_nil ?_
     show _ ∧ _
     exact ⟨by omega,_,⟨_,_,_,rfl,E,EM,q3,oo,hO2⟩,F.sub (.c 7 rfl (.c 9 rfl (.c 1 rfl (.c 2 rfl (.c 3 rfl (.c 8 rfl .n))))))⟩
   ·skip
    refine region_x (Ext [] w3) none follows fun w10 hh eh=>?_
    have q3_:=q3
    replace q3:=keep_same hh q3
    have E_:=E
    have zEw10:=E.size
    replace E:=ext_same E eh
    have EM_:=EM
    have zEMw10:=EM.size
    replace EM:=ext_same EM eh
    replace oo:=owns_same hh oo
    have eT:=eh
    clear hh eh
    refine F.x (i:=0) rfl (fun w'=>R_move rfl (F.at rfl)) (fun _=>eT) ?_;clear F fa;intro fa F
    refine F.x (i:=1) rfl (fun w'=>R_move rfl (F.at rfl)) (fun _=>eT) ?_;clear F fa;intro fa F
    obtain ⟨xb14,xo14,xa14,xr14⟩:=HRS.out i (by omega)
    refine F.x (i:=2) rfl (fun w'=>R_ixSlice (sz:=1) rfl ((F.at rfl).trans (xa14 _ _)) (F.at rfl) Tryz.underlying22 (by kernel_rfl) (by omega) (by omega)) (fun _=>eT) ?_;clear F fa;intro fa F
    refine F.xr (i:=3) rfl (fun w' hS=>R_load rfl (F.at rfl) Tryz.underlying25 rfl (xr14 _ (EM_.nil hS) 0 _ rfl)) (fun _=>eT) ?_;clear F fa;intro fa F
    rw [hma] at F
    refine ax_only (i:=4) (by kernel_rfl) (op_call F rfl rfl (by decide) rfl (R_callV rfl rfl Tryz.call50 (mpS (F.at rfl) mp0)) (dTotal_any m ma mca _ (HMR.out.ext EM (by simp)) (by omega) (fun q hq=>by have:=HM2.out q hq;omega)) fun e w11 hR=>?_)
    obtain ⟨rfl,e9⟩:=hR
    refine ⟨_,rfl,?_⟩;clear F fa;intro fa F
    replace oo:=owns_ext oo (e9) (by simp)
    replace q3:=(e9).keep0 q3
    replace E:=ext_same E (e9)
    replace EM:=ext_same EM (e9)
    replace eT:=ext_same eT (e9)
    clear e9
    refine ⟨fun _=>eT,?_⟩
    refine F.x (i:=5) rfl (fun w'=>R_gtrB (b:=true) rfl (F.at rfl) (ev_c fa _) (decide_eq_true ((by omega)))) (fun _=>eT) ?_;clear F fa;intro fa F
    refine F.x (i:=6) rfl (fun w'=>R_move rfl (F.at rfl)) (fun _=>eT) ?_;clear F fa;intro fa F
    refine F.x (i:=7) rfl (fun w'=>R_move rfl (F.at rfl)) (fun _=>eT) ?_ (hw:=(wantT F rfl rfl (by decide) rfl));clear F fa;intro fa F
    refine F.x (i:=8) rfl (fun w'=>R_move rfl (F.at rfl)) (fun _=>eT) ?_ (hw:=(wantT F rfl rfl (by decide) rfl));clear F fa;intro fa F
    obtain ⟨xb15,xo15,xa15,xr15⟩:=HRS.out i (by omega)
    refine F.x (i:=9) rfl (fun w'=>R_ixSlice (sz:=1) rfl ((F.at rfl).trans (xa15 _ _)) (F.at rfl) Tryz.underlying22 (by kernel_rfl) (by omega) (by omega)) (fun _=>eT) ?_ (hw:=(wantT F rfl rfl (by decide) rfl));clear F fa;intro fa F
    refine F.xr (i:=10) rfl (fun w' hS=>R_load rfl (F.at rfl) Tryz.underlying25 rfl (xr15 _ (EM_.nil hS) 0 _ rfl)) (fun _=>eT) ?_ (hw:=(wantT F rfl rfl (by decide) rfl));clear F fa;intro fa F
    rw [hma] at F
    refine ax_only (i:=11) (by kernel_rfl) (op_call F rfl rfl (by decide) (wantT F rfl rfl (by decide) rfl) (R_callV rfl rfl Tryz.call81 (mpS (F.at rfl) mp0)) (dLowest_any m ma mca _ (by omega) HM2.out (HMR.out.ext EM (by simp))) fun e w12 hR=>?_)
    obtain ⟨rfl,e9⟩:=hR
    refine ⟨_,rfl,?_⟩;clear F fa;intro fa F
    replace oo:=owns_ext oo (e9) (by simp)
    replace q3:=(e9).keep0 q3
    replace E:=ext_same E (e9)
    replace EM:=ext_same EM (e9)
    replace eT:=ext_same eT (e9)
    clear e9
    refine ⟨fun _=>eT,?_⟩
    rw [Bool.eq_false_iff.2 hw2] at F
    refine F.x (i:=12) rfl (fun w'=>R_pickT rfl (F.at rfl) (F.at rfl)) (fun _=>eT) ?_;clear F fa;intro fa F
    refine F.x (i:=13) rfl (fun w'=>R_move rfl (F.at rfl)) (fun _=>eT) ?_;clear F fa;intro fa F
    refine ax_no (i:=14) F rfl rfl (by decide) (by kernel_rfl) (fun _ _ _ h=>h) (wantF F rfl rfl (by decide) rfl (by decide)) (fun _=>eT) ?_;clear F fa;intro fa F
    refine ax_no (i:=15) F rfl rfl (by decide) (by kernel_rfl) (fun _ _ _ h=>h) (wantF F rfl rfl (by decide) rfl (by decide)) (fun _=>eT) ?_;clear F fa;intro fa F
    refine ax_no (i:=16) F rfl rfl (by decide) (by kernel_rfl) (fun _ _ _ h=>h) (wantF F rfl rfl (by decide) rfl (by decide)) (fun _=>eT) ?_;clear F fa;intro fa F
    refine ax_no (i:=17) F rfl rfl (by decide) (by kernel_rfl) (fun _ _ _ h=>h) (wantF F rfl rfl (by decide) rfl (by decide)) (fun _=>eT) ?_;clear F fa;intro fa F
    refine ax_no (i:=18) F rfl rfl (by decide) (by kernel_rfl) (fun _ _ _ h=>h) (wantF F rfl rfl (by decide) rfl (by decide)) (fun _=>eT) ?_;clear F fa;intro fa F
    refine ax_no (i:=19) F rfl rfl (by decide) (by kernel_rfl) (fun _ _ _ h=>h) (wantF F rfl rfl (by decide) rfl (by decide)) (fun _=>eT) ?_;clear F fa;intro fa F
    refine ax_no (i:=20) F rfl rfl (by decide) (by kernel_rfl) (fun _ _ _ h=>h) (wantF F rfl rfl (by decide) rfl (by decide)) (fun _=>eT) ?_;clear F fa;intro fa F
    refine ax_no (i:=21) F rfl rfl (by decide) (by kernel_rfl) (fun _ _ _ h=>h) (wantF F rfl rfl (by decide) rfl (by decide)) (fun _=>eT) ?_;clear F fa;intro fa F
    refine F.x (i:=22) rfl (fun w'=>R_pickF rfl (F.at rfl) (ev_c fa _)) (fun _=>eT) ?_;clear F fa;intro fa F
    refine ax_done (by kernel_rfl) ?_ _
    clear eT q3_ E_ EM_
    have hpm : pf m = false:=(by rw [hpf];show (recB m && _) = false;rw [recB,Bool.eq_false_iff.2 hw2,Bool.and_false];rfl)
    have hO2 : O = (R.take (i + 1)).filter fun p=>pf p.2:=(by rw [hfs,hpm,hO];simp)
    refine hK9 _ _ ?_
    clear hK9
    refine cd_F F rfl ?_
    refine wp_skip ?_
    refine hK8 _ _ ?_
    clear hK8
    refine wp_region_lit ?_
    refine F.mv ?_;clear F fa;intro fa F
    refine F.vl (R_add rfl (F.at rfl) (ev_c fa _) (by omega) (by omega)) ?_;clear F fa;intro fa F
    refine F.as ?_;clear F fa;intro fa F
    refine wpList_nil ?_
    show _ ∧ _
    exact ⟨by omega,_,⟨_,_,_,rfl,E,EM,q3,oo,hO2⟩,F.sub (.c 7 rfl (.c 9 rfl (.c 1 rfl (.c 2 rfl (.c 3 rfl (.c 8 rfl .n))))))⟩
  ·skip
   refine region_x (Ext [] w3) none follows fun w13 hh eh=>?_
   have q3_:=q3
   replace q3:=keep_same hh q3
   have E_:=E
   have zEw13:=E.size
   replace E:=ext_same E eh
   have EM_:=EM
   have zEMw13:=EM.size
   replace EM:=ext_same EM eh
   replace oo:=owns_same hh oo
   have eT:=eh
   clear hh eh
   refine F.x (i:=0) rfl (fun w'=>R_move rfl (F.at rfl)) (fun _=>eT) ?_;clear F fa;intro fa F
   refine F.x (i:=1) rfl (fun w'=>R_move rfl (F.at rfl)) (fun _=>eT) ?_;clear F fa;intro fa F
   obtain ⟨xb16,xo16,xa16,xr16⟩:=HRS.out i (by omega)
   refine F.x (i:=2) rfl (fun w'=>R_ixSlice (sz:=1) rfl ((F.at rfl).trans (xa16 _ _)) (F.at rfl) Tryz.underlying22 (by kernel_rfl) (by omega) (by omega)) (fun _=>eT) ?_;clear F fa;intro fa F
   refine F.xr (i:=3) rfl (fun w' hS=>R_load rfl (F.at rfl) Tryz.underlying25 rfl (xr16 _ (EM_.nil hS) 0 _ rfl)) (fun _=>eT) ?_;clear F fa;intro fa F
   rw [hma] at F
   refine ax_only (i:=4) (by kernel_rfl) (op_call F rfl rfl (by decide) rfl (R_callV rfl rfl Tryz.call50 (mpS (F.at rfl) mp0)) (dTotal_any m ma mca _ (HMR.out.ext EM (by simp)) (by omega) (fun q hq=>by have:=HM2.out q hq;omega)) fun e w14 hR=>?_)
   obtain ⟨rfl,e9⟩:=hR
   refine ⟨_,rfl,?_⟩;clear F fa;intro fa F
   replace oo:=owns_ext oo (e9) (by simp)
   replace q3:=(e9).keep0 q3
   replace E:=ext_same E (e9)
   replace EM:=ext_same EM (e9)
   replace eT:=ext_same eT (e9)
   clear e9
   refine ⟨fun _=>eT,?_⟩
   refine F.x (i:=5) rfl (fun w'=>R_gtrB (b:=false) rfl (F.at rfl) (ev_c fa _) (decide_eq_false ((by omega)))) (fun _=>eT) ?_;clear F fa;intro fa F
   refine F.x (i:=6) rfl (fun w'=>R_move rfl (F.at rfl)) (fun _=>eT) ?_;clear F fa;intro fa F
   refine ax_no (i:=7) F rfl rfl (by decide) (by kernel_rfl) (fun _ _ _ h=>h) (wantF F rfl rfl (by decide) rfl (by decide)) (fun _=>eT) ?_;clear F fa;intro fa F
   refine ax_no (i:=8) F rfl rfl (by decide) (by kernel_rfl) (fun _ _ _ h=>h) (wantF F rfl rfl (by decide) rfl (by decide)) (fun _=>eT) ?_;clear F fa;intro fa F
   refine ax_no (i:=9) F rfl rfl (by decide) (by kernel_rfl) (fun _ _ _ h=>h) (wantF F rfl rfl (by decide) rfl (by decide)) (fun _=>eT) ?_;clear F fa;intro fa F
   refine ax_no (i:=10) F rfl rfl (by decide) (by kernel_rfl) (fun _ _ _ h=>h) (wantF F rfl rfl (by decide) rfl (by decide)) (fun _=>eT) ?_;clear F fa;intro fa F
   refine ax_no (i:=11) F rfl rfl (by decide) (by kernel_rfl) (fun _ _ _ h=>h) (wantF F rfl rfl (by decide) rfl (by decide)) (fun _=>eT) ?_;clear F fa;intro fa F
   refine F.x (i:=12) rfl (fun w'=>R_pickF rfl (F.at rfl) (ev_c fa _)) (fun _=>eT) ?_;clear F fa;intro fa F
   refine F.x (i:=13) rfl (fun w'=>R_move rfl (F.at rfl)) (fun _=>eT) ?_;clear F fa;intro fa F
   refine ax_no (i:=14) F rfl rfl (by decide) (by kernel_rfl) (fun _ _ _ h=>h) (wantF F rfl rfl (by decide) rfl (by decide)) (fun _=>eT) ?_;clear F fa;intro fa F
   refine ax_no (i:=15) F rfl rfl (by decide) (by kernel_rfl) (fun _ _ _ h=>h) (wantF F rfl rfl (by decide) rfl (by decide)) (fun _=>eT) ?_;clear F fa;intro fa F
   refine ax_no (i:=16) F rfl rfl (by decide) (by kernel_rfl) (fun _ _ _ h=>h) (wantF F rfl rfl (by decide) rfl (by decide)) (fun _=>eT) ?_;clear F fa;intro fa F
   refine ax_no (i:=17) F rfl rfl (by decide) (by kernel_rfl) (fun _ _ _ h=>h) (wantF F rfl rfl (by decide) rfl (by decide)) (fun _=>eT) ?_;clear F fa;intro fa F
   refine ax_no (i:=18) F rfl rfl (by decide) (by kernel_rfl) (fun _ _ _ h=>h) (wantF F rfl rfl (by decide) rfl (by decide)) (fun _=>eT) ?_;clear F fa;intro fa F
   refine ax_no (i:=19) F rfl rfl (by decide) (by kernel_rfl) (fun _ _ _ h=>h) (wantF F rfl rfl (by decide) rfl (by decide)) (fun _=>eT) ?_;clear F fa;intro fa F
   refine ax_no (i:=20) F rfl rfl (by decide) (by kernel_rfl) (fun _ _ _ h=>h) (wantF F rfl rfl (by decide) rfl (by decide)) (fun _=>eT) ?_;clear F fa;intro fa F
   refine ax_no (i:=21) F rfl rfl (by decide) (by kernel_rfl) (fun _ _ _ h=>h) (wantF F rfl rfl (by decide) rfl (by decide)) (fun _=>eT) ?_;clear F fa;intro fa F
   refine F.x (i:=22) rfl (fun w'=>R_pickF rfl (F.at rfl) (ev_c fa _)) (fun _=>eT) ?_;clear F fa;intro fa F
   refine ax_done (by kernel_rfl) ?_ _
   clear eT q3_ E_ EM_
   have hpm : pf m = false:=(by rw [hpf];show (recB m && _) = false;rw [recB,decide_eq_false hu];rfl)
   have hO2 : O = (R.take (i + 1)).filter fun p=>pf p.2:=(by rw [hfs,hpm,hO];simp)
   refine hK9 _ _ ?_
   clear hK9
   refine cd_F F rfl ?_
   refine wp_skip ?_
   refine hK8 _ _ ?_
   clear hK8
   refine wp_region_lit ?_
   refine F.mv ?_;clear F fa;intro fa F
   refine F.vl (R_add rfl (F.at rfl) (ev_c fa _) (by omega) (by omega)) ?_;clear F fa;intro fa F
   refine F.as ?_;clear F fa;intro fa F
   refine wpList_nil ?_
   show _ ∧ _
   exact ⟨by omega,_,⟨_,_,_,rfl,E,EM,q3,oo,hO2⟩,F.sub (.c 7 rfl (.c 9 rfl (.c 1 rfl (.c 2 rfl (.c 3 rfl (.c 8 rfl .n))))))⟩
 ·skip
  refine wp_exit ?_
  rw [List.take_of_length_le (show R.length ≤ i by omega)] at hO
  refine hK4 _ _ ?_
  clear hK4
  refine wp_seq_k fun K17 hK17=>?_
  refine wp_region_lit ?_
  refine F.mv ?_;clear F fa;intro fa F
  refine F.as ?_;clear F fa;intro fa F
  refine wpList_nil ?_
  refine hK17 _ _ ?_
  clear hK17
  refine wp_ret ?_
  (try simp only [Exit.inBlock,Exit.then,reduceIte])
  refine rt_v F (rs_1 F rfl rfl) ?_
  exact ⟨O,va,vc,rfl,by rw [← mat_all6 hd4,← hR,hO,← hpf,List.filter_map];rfl,⟨slAt_of_outer oo rfl,fun p hp=>(HRL.out.2 p (by rw [hO] at hp;exact (List.mem_filter.1 hp).1)).ext EM⟩,E⟩
end Go.Proofs.YtdjeecgddbjbeaaGreat
