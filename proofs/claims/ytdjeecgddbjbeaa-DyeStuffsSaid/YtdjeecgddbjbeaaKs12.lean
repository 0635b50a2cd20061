/- Parts of a proof: Dsu, Dfl, Dfm, Dfn, Dmi, Dfo. No conditions. -/
import Derived.Maps.OwnSet
import Derived.Test.YtdjeecgddbjbeaaKs4
import Derived.Test.YtdjeecgddbjbeaaKs5
import Derived.Test.YtdjeecgddbjbeaaKs6
import Derived.Test.YtdjeecgddbjbeaaKs7
import Derived.Test.YtdjeecgddbjbeaaKs9
import Derived.Test.YtdjeecgddbjbeaaKs11
set_option linter.unusedVariables false
set_option linter.unusedSimpArgs false
namespace Go.Proofs.Ytdjeecgddbjbeaa
open Go.RowKit
def vmC (x : Vm) : List Value:=[.int .i64 x.B,.slice x.da x.D.length x.dc,.slice x.la x.L.length x.lc,.int .i64 x.tol]
def vm0 : Vm:=⟨0,[],none,0,[],none,0,0⟩
def vsI (X : List Vm) (i : Nat) : Vm:=X.getD i vm0
structure VsAt (w : World) (a : Option Addr) (X : List Vm) : Prop where
 rows : IsRows w (.slice a X.length X.length) 4 (X.map vmC)
 at_ : ∀ x ∈ X,x.At w
theorem vs_at {w : World} {a : Option Addr} {X : List Vm} (h : VsAt w a X) {i : Nat} (hi : i < X.length) : (vsI X i).At w:=h.at_ _ (getD_mem vm0 hi)
theorem rows_newV {α : Type} {w : World} {b sz : Nat} {xs : List α} {row : α → List Value} {T : TypeId} {fz : Nat × Nat} (h : w.heap[b]? = some (.cells ((xs.map row).flatten).toArray T fz)) (hr : ∀ x,(row x).length = sz) : IsRows w (.slice (some ⟨b,0,none⟩) xs.length xs.length) sz (xs.map row):=by
 refine ⟨some ⟨b,0,none⟩,xs.length,by simp,fun x hx=>?_,fun _=>⟨b,0,rfl,blk_lt h,fun i j x hi hj=>?_⟩⟩
 ·obtain ⟨y,-,rfl⟩:=List.mem_map.1 hx;exact hr y
 ·rw [cells_of_block h,Nat.zero_add,List.getElem?_toArray]
  exact flat_get hr xs i j x hi hj
theorem vs_new {w : World} {bs b : Nat} {X : List Vm} {T : TypeId} {fz : Nat × Nat} (h : w.heap[bs]? = some (.cells ((X.map vmC).flatten).toArray T fz)) (hne : bs ≠ b) (hx : ∀ x ∈ X,∀ W,Ext [b] w W → x.At W) : ∀ W,Ext [b] w W → VsAt W (some ⟨bs,0,none⟩) X:=
 fun W e=>⟨rows_newV (e.keep h (by simp [hne])) (fun _=>rfl),fun u hu=>hx u hu W e⟩
theorem slAt_up {b : Nat} {w0 w : World} {a : Option Addr} {sz n : Nat} {row : Nat → List Value} (h : SlAt [] w0 a sz n row) (e : Ext [b] w0 w) (hb : w0.heap.size ≤ b) : SlAt [b] w a sz n row:=fun i hi=>by
 obtain ⟨c,off,h1,-⟩:=h i hi
 refine ⟨c,off,h1,fun W hW=>?_⟩
 obtain ⟨c2,off2,h3,h4⟩:=slAt_extX h (e.trans hW) (by simpa using hb) i hi
 have:=(h1 0 0).symm.trans (h3 0 0)
 simp only [Value.slice.injEq,Option.some.injEq,Addr.mk.injEq] at this
 obtain ⟨⟨rfl,rfl,-⟩,-⟩:=this
 exact h4 W (Ext.refl _ _)
theorem slAt_outB {w : World} {base n c b : Nat} {a : Option Addr} {O : List (Value × List Int)} (h : w.ownsRow base 25 1 (.slice a n c) n (O.map (·.1))) (hn : n = O.length) (hb : b < base) : SlAt [b] w a 1 O.length (fun i=>[(O.getD i (.bool true,[])).1]):=by
 rw [pRow_flat] at h
 exact slAt_of_owns h hn (fun _=>rfl) [b] (by simpa using hb) (.bool true,[])
def SetsPost (x : Vm) (w0 w : World) (b k : Nat) (nv : Value) (e : Ending) (w' : World) : Prop:=
 ∃ (a : Option Addr) (y z : Vm),e = .returned (.slice a 4 4) ∧ VOk y ∧ SmallL z.D ∧ SmallL z.L ∧ (∀ W,Ext [b] w' W → VsAt W a [x,y,z,y]) ∧ LotsOk w0 w' b (k + 200) nv ∧ Ext [b] w w'
theorem lol_setB {q : Nat} {w : World} {b b2 i : Nat} {a : Option Addr} {c : Nat} {M : List (Value × List Int)} {p : Value × List Int} (oo : w.ownsRow b 25 1 (.slice a M.length c) M.length ((M.map (·.1)).set i p.1)) (fam : FamT w b2 M) (h1 : q < b) (h2 : q < b2)
  (hp : ∀ W,Ext [q] w W → RowOf W p.1 p.2) : ∀ W,Ext [q] w W → LolAt W a (M.set i p):=fun W e=>by
 have oo2:=owns_ext oo e (by simpa using h1)
 have fam2:=fam_lift fam fun _ _ _ h=>owns_ext h e (by simpa using h2)
 refine ⟨slAt_of_outer (base:=b) (c:=c) (n:=M.length) (by rw [List.map_set];exact oo2) (by rw [List.length_set]),fun r hr=>?_⟩
 rcases List.mem_or_eq_of_mem_set hr with hr | rfl
 ·exact fam_row fam2 hr
 ·exact hp W e
theorem small_set {M : List (Value × List Int)} {i : Nat} {p : Value × List Int} (h : SmallL M) (hp : p.2.length ≤ 1000) : SmallL (M.set i p):=by
 refine ⟨by rw [List.length_set];exact h.1,fun r hr=>?_⟩
 rcases List.mem_or_eq_of_mem_set hr with hr | rfl
 ·exact h.2 r hr
 ·exact hp
theorem small_key {M L : List (Value × List Int)} (h : SmallL L) (e : M.map (·.2) = L.map (·.2)) : SmallL M:=by
 have hl : M.length = L.length:=by rw [← List.length_map (f:=fun p : Value × List Int=>p.2),e,List.length_map]
 refine ⟨by rw [hl];exact h.1,fun r hr=>?_⟩
 have : r.2 ∈ L.map (·.2):=by rw [← e];exact List.mem_map.2 ⟨r,hr,rfl⟩
 obtain ⟨s,hs,he⟩:=List.mem_map.1 this
 rw [← he];exact h.2 s hs
set_option maxRecDepth 100000 in
set_option maxHeartbeats 4000000 in
theorem sets_any (x : Vm) (sd : SmallL x.D) (sl : SmallL x.L) (w0 w : World) (b k : Nat) (nv : Value) (HL : LotsOk w0 w b k nv) (hk : k ≤ 1000) (h0 : x.At w0) :
  Calls Try.prog 14 #[.agg #[.int .i64 x.B,.slice x.da x.D.length x.dc,.slice x.la x.L.length x.lc,.int .i64 x.tol],.pointer (some ⟨b,0,none⟩)] w (SetsPost x w0 w b k nv):=by
 have hb:=HL.1
 have hws : w0.heap.size ≤ w.heap.size:=HL.2.2.1.size
 have E : Ext [b] w w:=Ext.refl _ _
 have hbw : b < w.heap.size:=lots_lt HL
 have H0:=Lib.hid (show ∀ W,Ext [b] w W → x.At W from fun W hW=>h0.extX (HL.2.2.1.trans hW) (by simp;omega))
 have SD:=Lib.hid sd
 have SL:=Lib.hid sl
 have HXD:=Lib.hid (slAt_up h0.d.1 HL.2.2.1 hb)
 have HXL:=Lib.hid (slAt_up h0.l.1 HL.2.2.1 hb)
 clear h0 sd sl
 refine calls_has 63 Try.func14 rfl Try.ntmps14 (Nat.le_of_ble_eq_true rfl) ?_
 intro fa F
 refine wp_seq_k fun K1 hK1=>?_
 refine wp_region_lit ?_
 refine sq_new F rfl (by decide) rfl (R_box rfl (F.at rfl)) ?_;clear F fa;intro fa w1 F hw
 obtain ⟨n2,hn⟩ : ∃ n,n = w.heap.size:=⟨_,rfl⟩
 rw [← hn] at F
 have s2 : w.heap.size ≤ n2:=Nat.le_of_eq hn.symm
 have l2_E : w.heap.size ≤ n2:=by rw [hn];exact E.size
 have b2_HL:=Nat.lt_of_lt_of_eq (lots_lt HL) hn.symm
 replace E:=ext_alloc E hw
 replace HL:=lots_alloc hw HL
 have q2:=new_row hw hn
 clear hw hn
 refine F.vl (R_assign rfl (ev_c fa _)) ?_;clear F fa;intro fa F
 refine wpList_nil ?_
 refine hK1 _ _ ?_
 clear hK1
 refine wp_seq_k fun K2 hK2=>?_
 refine wp_region_lit ?_
 refine F.mv ?_;clear F fa;intro fa F
 refine sq_call F rfl (by decide) rfl (R_callV rfl rfl Try.call33 (mpS (F.at rfl) (mpS (ev_c fa _) mp0))) (vatOf_any 4 (by decide) (by decide) w0 _ b _ _ HL (by omega)) fun e w2 hR=>?_
 obtain ⟨y,rfl,hv,hd3,hyb,HL,e9⟩:=hR
 refine ⟨_,rfl,?_⟩;clear F fa;intro fa F
 replace q2:=(e9).keep q2 (by simp;omega)
 replace E:=E.trans' e9 (fun i hi hl=>by simp only [List.mem_cons,List.not_mem_nil,or_false] at hi ⊢;omega)
 have HV:=Lib.hid hv
 have HYB:=Lib.hid hyb
 obtain ⟨wV,hwV⟩ : ∃ wV,wV = w2:=⟨_,rfl⟩
 have EV : Ext [b] wV w2:=by rw [hwV];exact Ext.refl _ _
 rw [← hwV] at HYB
 clear hv hyb
 refine sq_new F rfl (by decide) rfl (R_alloc rfl Try.zeroValue24) ?_;clear F fa;intro fa w3 F hw
 obtain ⟨n5,hn⟩ : ∃ n,n = w2.heap.size:=⟨_,rfl⟩
 rw [← hn] at F
 have s5 : w2.heap.size ≤ n5:=Nat.le_of_eq hn.symm
 have l5_E : w.heap.size ≤ n5:=by rw [hn];exact E.size
 have l5_EV : wV.heap.size ≤ n5:=by rw [hn];exact EV.size
 have b5_HL:=Nat.lt_of_lt_of_eq (lots_lt HL) hn.symm
 have m5_2 : n2 < n5:=by rw [hn];exact blk_lt q2
 replace q2:=keep_alloc hw q2
 replace E:=ext_alloc E hw
 replace EV:=ext_alloc EV hw
 replace HL:=lots_alloc hw HL
 have q5:=new_row hw hn
 clear hw hn
 refine sq_to rfl rfl (R_storeRow rfl (F.at rfl) (F.at rfl) (by kernel_rfl) (by first | (simp [Value.oneCell'];done) | (simp [Value.oneCell',id];done)) q5 rfl) ?_;intro w4 hw
 replace q2:=keep_cells hw q2 (by omega)
 replace q5:=put_row hw q5 rfl
 replace E:=ext_cells E hw (fun h=>by first | exact absurd h (by omega) | simp)
 replace EV:=ext_cells EV hw (fun h=>by first | exact absurd h (by omega) | simp)
 replace HL:=lots_cells hw HL (by omega) (by omega)
 clear hw
 refine wpList_nil ?_
 refine hK2 _ _ ?_
 clear hK2
 refine wp_seq_k fun K3 hK3=>?_
 refine wp_region_lit ?_
 refine F.vl (R_loadBlk rfl (F.at rfl) Try.underlying24 rfl (by kernel_rfl) q5) ?_;clear F fa;intro fa F
 have hbB:=lots_lt HL
 have hB0w:=E.size
 have hB0V:=EV.size
 obtain ⟨B0,hB0⟩ : ∃ B0,B0 = w4.heap.size:=⟨_,rfl⟩
 obtain ⟨wZ,hwZ⟩ : ∃ wZ,wZ = w4:=⟨_,rfl⟩
 have EB0 : Ext [b] wZ w4:=(by rw [hwZ];exact Ext.refl _ _)
 have hBZ : B0 = wZ.heap.size:=(by rw [hB0,hwZ])
 have hbB0 : b < B0:=(by rw [hB0];exact hbB)
 refine sq_call F rfl (by decide) rfl (R_callV rfl rfl Try.call18 (mpS (F.at rfl) mp0)) (copyVat_own y _ (HYB.out _ EV) HV.out.sd HV.out.sl) fun e w5 hR=>?_
 obtain ⟨o,rfl,hoB,hot,hoD,hoL,oo1,fam1,oo2,fam2,hap,e9⟩:=hR
 refine ⟨_,rfl,?_⟩;clear F fa;intro fa F
 replace q2:=(e9).keep0 q2
 replace q5:=(e9).keep0 q5
 replace E:=ext_same E (e9)
 replace EV:=ext_same EV (e9)
 replace EB0:=ext_same EB0 (e9)
 replace HL:=lots_ext (e9) HL
 clear e9
 rw [← hB0] at oo1 fam1 oo2 fam2 hB0w hB0V
 have hap2:=Lib.hid hap
 have hap3 : RowKit.Hid ((Value.slice o.da o.D.length o.dc).ownBlock = none ∨ (Value.slice o.da o.D.length o.dc).ownBlock ≠ (Value.slice o.la o.L.length o.lc).ownBlock):=Lib.hid (by rcases hap with h | h;(· by_cases e : (Value.slice o.da o.D.length o.dc).ownBlock = none;(· exact .inl e);(· exact .inr (by rw [h];exact e)));(· exact .inr (Ne.symm h)))
 clear hap
 have hoDl : o.D.length = y.D.length:=by rw [← List.length_map (f:=fun p : Value × List Int=>p.2),hoD,List.length_map]
 have hoLl : o.L.length = y.L.length:=by rw [← List.length_map (f:=fun p : Value × List Int=>p.2),hoL,List.length_map]
 have SOD:=Lib.hid (small_key HV.out.sd hoD)
 have SOL:=Lib.hid (small_key HV.out.sl hoL)
 have hd1:=HV.out.d1
 have hd4:=HV.out.d4
 have hl1:=HV.out.l1
 have hl3:=HV.out.l3
 refine sq_new F rfl (by decide) rfl (R_alloc rfl Try.zeroValue24) ?_;clear F fa;intro fa w6 F hw
 obtain ⟨n6,hn⟩ : ∃ n,n = w5.heap.size:=⟨_,rfl⟩
 rw [← hn] at F
 have s6 : w5.heap.size ≤ n6:=Nat.le_of_eq hn.symm
 have l6_E : w.heap.size ≤ n6:=by rw [hn];exact E.size
 have l6_EV : wV.heap.size ≤ n6:=by rw [hn];exact EV.size
 have l6_EB0 : wZ.heap.size ≤ n6:=by rw [hn];exact EB0.size
 have b6_HL:=Nat.lt_of_lt_of_eq (lots_lt HL) hn.symm
 have m6_2 : n2 < n6:=by rw [hn];exact blk_lt q2
 have m6_5 : n5 < n6:=by rw [hn];exact blk_lt q5
 have o6_oo1:=Lib.hid (own_ne_new oo1 hn)
 have o6_oo2:=Lib.hid (own_ne_new oo2 hn)
 replace oo1:=owns_alloc hw oo1
 replace fam1:=fam_lift fam1 fun _ _ _ h=>owns_alloc hw h
 replace oo2:=owns_alloc hw oo2
 replace fam2:=fam_lift fam2 fun _ _ _ h=>owns_alloc hw h
 replace q2:=keep_alloc hw q2
 replace q5:=keep_alloc hw q5
 replace E:=ext_alloc E hw
 replace EV:=ext_alloc EV hw
 replace EB0:=ext_alloc EB0 hw
 replace HL:=lots_alloc hw HL
 have q6:=new_row hw hn
 clear hw hn
 refine sq_to rfl rfl (R_storeRow rfl (F.at rfl) (F.at rfl) (by kernel_rfl) (by first | (simp [Value.oneCell'];done) | (simp [Value.oneCell',id];done)) q6 rfl) ?_;intro w7 hw
 replace oo1:=owns_cellsX hw oo1 (own_ne_type oo1 q6 (by decide))
 replace fam1:=fam_lift fam1 fun _ _ _ h=>owns_cellsX hw h (own_ne_type h q6 (by decide))
 replace oo2:=owns_cellsX hw oo2 (own_ne_type oo2 q6 (by decide))
 replace fam2:=fam_lift fam2 fun _ _ _ h=>owns_cellsX hw h (own_ne_type h q6 (by decide))
 replace q2:=keep_cells hw q2 (by omega)
 replace q5:=keep_cells hw q5 (by omega)
 replace q6:=put_row hw q6 rfl
 replace E:=ext_cells E hw (fun h=>by first | exact absurd h (by omega) | simp)
 replace EV:=ext_cells EV hw (fun h=>by first | exact absurd h (by omega) | simp)
 replace EB0:=ext_cells EB0 hw (fun h=>by first | exact absurd h (by omega) | simp)
 replace HL:=lots_cells hw HL (by omega) (by omega)
 clear hw
 refine wpList_nil ?_
 refine hK3 _ _ ?_
 clear hK3
 refine wp_seq_k fun K4 hK4=>?_
 suffices hcut : ∀ (z : Vm) (fa : Act) (w18 : World),Has 63 [] fa [(2,.pointer (some ⟨n2,0,none⟩)),(5,.pointer (some ⟨n5,0,none⟩)),(6,.pointer (some ⟨n6,0,none⟩))] → w18.heap[n2]? = some (.cells #[.int .i64 x.B,.slice x.da x.D.length x.dc,.slice x.la x.L.length x.lc,.int .i64 x.tol] 24 (0,0)) → w18.heap[n5]? = some (.cells #[.int .i64 y.B,.slice y.da y.D.length y.dc,.slice y.la y.L.length y.lc,.int .i64 y.tol] 24 (0,0)) → w18.heap[n6]? = some (.cells #[.int .i64 z.B,.slice z.da z.D.length z.dc,.slice z.la z.L.length z.lc,.int .i64 z.tol] 24 (0,0)) → Ext [b] w w18 → Ext [b] wV w18 → Ext [b] wZ w18 → LotsOk w0 w18 b (k + 200) nv → (∀ W,Ext [b] w18 W → z.At W) → SmallL z.D → SmallL z.L → K4 fa w18 by
  refine wp_seq_k fun K5 hK52=>?_
  refine wp_region_lit ?_
  refine F.mv ?_;clear F fa;intro fa F
  refine sq_call F rfl (by decide) rfl (R_callV rfl rfl Try.call26 (mpS (F.at rfl) (mpS (ev_c fa _) mp0))) (upto_any w0 _ b _ nv 2 HL (by omega) (by omega) (by omega)) fun e w8 hR=>?_
  obtain ⟨u,rfl,hu0,hu1,HL,e3⟩:=hR
  refine ⟨_,rfl,?_⟩;clear F fa;intro fa F
  replace oo1:=owns_ext oo1 (e3) (by simp;omega)
  replace fam1:=fam_lift fam1 fun _ _ _ h=>owns_ext h (e3) (by simp;omega)
  replace oo2:=owns_ext oo2 (e3) (by simp;omega)
  replace fam2:=fam_lift fam2 fun _ _ _ h=>owns_ext h (e3) (by simp;omega)
  replace q2:=(e3).keep q2 (by simp;omega)
  replace q5:=(e3).keep q5 (by simp;omega)
  replace q6:=(e3).keep q6 (by simp;omega)
  replace E:=E.trans' e3 (fun i hi hl=>by simp only [List.mem_cons,List.not_mem_nil,or_false] at hi ⊢;omega)
  replace EV:=EV.trans' e3 (fun i hi hl=>by simp only [List.mem_cons,List.not_mem_nil,or_false] at hi ⊢;omega)
  replace EB0:=EB0.trans' e3 (fun i hi hl=>by simp only [List.mem_cons,List.not_mem_nil,or_false] at hi ⊢;omega)
  refine wpList_nil ?_
  refine hK52 _ _ ?_
  refine wp_block ?_
  refine wp_seq_k fun K6 hK6=>?_
  refine wp_region_lit ?_
  refine F.vl (R_eqlD rfl (F.at rfl) (ev_c fa _)) ?_;clear F fa;intro fa F
  refine F.as ?_;clear F fa;intro fa F
  refine wpList_nil ?_
  refine hK6 _ _ ?_
  clear hK6
  refine cd_if F rfl (fun hc13=>?_) (fun hc13=>?_)
  ·skip
   refine wp_region_lit ?_
   refine F.vl (R_field rfl (F.at rfl) Try.underlying24 rfl (n:=3) (sz:=1) rfl (by kernel_rfl) (by decide)) ?_;clear F fa;intro fa F
   refine F.vl (R_load rfl (F.at rfl) Try.underlying3 rfl ((cells_of_block q2 3).trans (getS (getS (getS (get0)))))) ?_;clear F fa;intro fa F
   refine F.vl (R_field rfl (F.at rfl) Try.underlying24 rfl (n:=3) (sz:=1) rfl (by kernel_rfl) (by decide)) ?_;clear F fa;intro fa F
   refine sq_to rfl rfl (R_store rfl (F.at rfl) (F.at rfl) rfl (by kernel_rfl) ((cells_of_block q6 3).trans (getS (getS (getS (get0))))) (free_of_block q6 3)) ?_;intro w9 hw
   replace oo1:=owns_cellX hw oo1 (own_ne_type oo1 q6 (by decide))
   replace fam1:=fam_lift fam1 fun _ _ _ h=>owns_cellX hw h (own_ne_type h q6 (by decide))
   replace oo2:=owns_cellX hw oo2 (own_ne_type oo2 q6 (by decide))
   replace fam2:=fam_lift fam2 fun _ _ _ h=>owns_cellX hw h (own_ne_type h q6 (by decide))
   replace q2:=keep_cell hw q2 (by omega)
   replace q5:=keep_cell hw q5 (by omega)
   replace q6:=put_cell hw q6 (by simp only [List.setIfInBounds_toArray,lsQ,lzQ];exact rfl)
   replace E:=ext_cell E hw (fun h=>by first | exact absurd h (by omega) | simp)
   replace EV:=ext_cell EV hw (fun h=>by first | exact absurd h (by omega) | simp)
   replace EB0:=ext_cell EB0 hw (fun h=>by first | exact absurd h (by omega) | simp)
   replace HL:=lots_cell hw HL (by omega) (by omega)
   clear hw
   refine wpList_nil ?_
   replace HL:=lots_mono HL (show _ ≤ k + 200 by omega)
   exact hcut { o with tol:=x.tol } _ _ (F.sub (.c 2 rfl (.c 5 rfl (.c 6 rfl .n)))) q2 q5 q6 E EV EB0 HL (fun W hW=>⟨lol_ownB oo1 fam1 hbB0 hbB0 W hW,lol_ownB oo2 fam2 hbB0 hbB0 W hW⟩) SOD.out SOL.out
  ·skip
   refine wp_seq_k fun K7 hK7=>?_
   refine wp_region_lit ?_
   refine F.vl (R_eqlD rfl (F.at rfl) (ev_c fa _)) ?_;clear F fa;intro fa F
   refine F.as ?_;clear F fa;intro fa F
   refine wpList_nil ?_
   refine hK7 _ _ ?_
   clear hK7
   refine cd_if F rfl (fun hc18=>?_) (fun hc18=>?_)
   ·skip
    refine wp_seq_k fun K8 hK8=>?_
    refine wp_region_lit ?_
    refine F.vl (R_field rfl (F.at rfl) Try.underlying24 rfl (n:=1) (sz:=1) rfl (by kernel_rfl) (by decide)) ?_;clear F fa;intro fa F
    refine F.vl (R_load rfl (F.at rfl) Try.underlying22 rfl ((cells_of_block q2 1).trans (getS (get0)))) ?_;clear F fa;intro fa F
    refine F.vl (R_len rfl rfl (F.at rfl) Try.underlying22) ?_;clear F fa;intro fa F
    refine F.vl (R_gtr rfl (F.at rfl) (ev_c fa _)) ?_;clear F fa;intro fa F
    refine wpList_nil ?_
    refine hK8 _ _ ?_
    clear hK8
    refine cd_if F rfl (fun hc23=>?_) (fun hc23=>?_)
    ·skip
     have HS:=Lib.hid (slAt_outB oo1 rfl hbB0)
     have EX : Ext [b] w8 w8:=Ext.refl _ _
     refine region_x (Ext [b] w8) (some 14) follows fun w10 hh eh=>?_
     have q2_:=q2
     replace q2:=keep_same hh q2
     have q5_:=q5
     replace q5:=keep_same hh q5
     have q6_:=q6
     replace q6:=keep_same hh q6
     have E_:=E
     have zEw10:=E.size
     replace E:=ext_same E eh
     have EV_:=EV
     have zEVw10:=EV.size
     replace EV:=ext_same EV eh
     have EB0_:=EB0
     have zEB0w10:=EB0.size
     replace EB0:=ext_same EB0 eh
     have EX_:=EX
     have zEXw10:=EX.size
     replace EX:=ext_same EX eh
     have zbw10:=lots_lt HL
     replace HL:=lots_ext eh HL
     replace oo1:=owns_same hh oo1
     replace fam1:=fam_lift fam1 fun _ _ _ h=>owns_same hh h
     replace oo2:=owns_same hh oo2
     replace fam2:=fam_lift fam2 fun _ _ _ h=>owns_same hh h
     have eT:=eh.mono (Y:=[b]) (by simp)
     clear hh eh
     refine F.x (i:=0) rfl (fun w'=>R_field rfl (F.at rfl) Try.underlying24 rfl (n:=1) (sz:=1) rfl (by kernel_rfl) (by decide)) (fun _=>eT) ?_;clear F fa;intro fa F
     refine F.xr (i:=1) rfl (fun w' hS=>R_load rfl (F.at rfl) Try.underlying22 rfl ((cells_of_block (hS.keep q6_ (by simp;omega)) 1).trans (getS (get0)))) (fun _=>eT) ?_;clear F fa;intro fa F
     refine F.x (i:=2) rfl (fun w'=>R_move rfl (F.at rfl)) (fun _=>eT) ?_;clear F fa;intro fa F
     refine F.x (i:=3) rfl (fun w'=>R_field rfl (F.at rfl) Try.underlying24 rfl (n:=1) (sz:=1) rfl (by kernel_rfl) (by decide)) (fun _=>eT) ?_;clear F fa;intro fa F
     refine F.xr (i:=4) rfl (fun w' hS=>R_load rfl (F.at rfl) Try.underlying22 rfl ((cells_of_block (hS.keep q6_ (by simp;omega)) 1).trans (getS (get0)))) (fun _=>eT) ?_;clear F fa;intro fa F
     refine F.x (i:=5) rfl (fun w'=>R_len rfl rfl (F.at rfl) Try.underlying22) (fun _=>eT) ?_;clear F fa;intro fa F
     refine F.x (i:=6) rfl (fun w'=>R_sub rfl (F.at rfl) (ev_c fa _) (by omega) (by omega)) (fun _=>eT) ?_;clear F fa;intro fa F
     refine F.x (i:=8) rfl (fun w'=>R_field rfl (F.at rfl) Try.underlying24 rfl (n:=1) (sz:=1) rfl (by kernel_rfl) (by decide)) (fun _=>eT) ?_;clear F fa;intro fa F
     refine F.xr (i:=9) rfl (fun w' hS=>R_load rfl (F.at rfl) Try.underlying22 rfl ((cells_of_block (hS.keep q2_ (by simp;omega)) 1).trans (getS (get0)))) (fun _=>eT) ?_;clear F fa;intro fa F
     obtain ⟨xb9,xo9,xa9,xr9⟩:=HXD.out 0 (by omega)
     refine F.x (i:=10) rfl (fun w'=>R_ixSlice (sz:=1) rfl ((F.at rfl).trans (xa9 _ _)) (ev_c fa _) Try.underlying22 (by kernel_rfl) (by omega) (by omega)) (fun _=>eT) ?_;clear F fa;intro fa F
     refine F.xr (i:=11) rfl (fun w' hS=>R_load rfl (F.at rfl) Try.underlying25 rfl (xr9 _ (E_.trans hS) 0 _ rfl)) (fun _=>eT) ?_;clear F fa;intro fa F
     obtain ⟨ra,rca,hra,-⟩:=(H0.out _ E).d.2 _ (getD_mem (.bool true,[]) (show 0 < x.D.length by omega))
     rw [hra] at F
     refine ax_only (i:=7) (by kernel_rfl) (op_call F rfl rfl (by decide) rfl (R_callV rfl rfl Try.call26 (mpS (F.at rfl) (mpS (F.at rfl) mp0))) (upto_any w0 _ b _ nv (((o.D.length : Nat) : Int) - 1) HL (by omega) (by omega) (by omega)) fun e w11 hR=>?_)
     obtain ⟨g,rfl,hg0,hg1,HL,e3⟩:=hR
     refine ⟨_,rfl,?_⟩;clear F fa;intro fa F
     replace oo1:=owns_ext oo1 (e3) (by simp;omega)
     replace fam1:=fam_lift fam1 fun _ _ _ h=>owns_ext h (e3) (by simp;omega)
     replace oo2:=owns_ext oo2 (e3) (by simp;omega)
     replace fam2:=fam_lift fam2 fun _ _ _ h=>owns_ext h (e3) (by simp;omega)
     replace q2:=(e3).keep q2 (by simp;omega)
     replace q5:=(e3).keep q5 (by simp;omega)
     replace q6:=(e3).keep q6 (by simp;omega)
     replace E:=E.trans' e3 (fun i hi hl=>by simp only [List.mem_cons,List.not_mem_nil,or_false] at hi ⊢;omega)
     replace EV:=EV.trans' e3 (fun i hi hl=>by simp only [List.mem_cons,List.not_mem_nil,or_false] at hi ⊢;omega)
     replace EB0:=EB0.trans' e3 (fun i hi hl=>by simp only [List.mem_cons,List.not_mem_nil,or_false] at hi ⊢;omega)
     replace EX:=EX.trans' e3 (fun i hi hl=>by simp only [List.mem_cons,List.not_mem_nil,or_false] at hi ⊢;omega)
     replace eT:=eT.trans' e3 (fun i hi hl=>by simp only [List.mem_cons,List.not_mem_nil,or_false] at hi ⊢;omega)
     refine ⟨fun _=>eT,?_⟩
     obtain ⟨g,rfl⟩:=Int.eq_ofNat_of_zero_le hg0
     have hgl : g < o.D.length:=by omega
     have hcp:=copyInts_any (w:=w11) ((H0.out _ E).d.2 _ (getD_mem (.bool true,[]) (show 0 < x.D.length by omega))) (SD.out.2 _ (getD_mem (.bool true,[]) (show 0 < x.D.length by omega)))
     rw [hra] at hcp
     have hbZ:=lots_lt HL
     have hEB0:=EB0.size
     rw [← hBZ] at hEB0
     refine ax_only (i:=12) (by kernel_rfl) (op_call F rfl rfl (by decide) rfl (R_callV rfl rfl Try.call19 (mpS (F.at rfl) mp0)) (hcp) fun e w12 hR=>?_)
     obtain ⟨pa,pc,rfl,po,e9⟩:=hR
     refine ⟨_,rfl,?_⟩;clear F fa;intro fa F
     replace oo1:=owns_ext oo1 (e9) (by simp)
     replace fam1:=fam_lift fam1 fun _ _ _ h=>owns_ext h (e9) (by simp)
     replace oo2:=owns_ext oo2 (e9) (by simp)
     replace fam2:=fam_lift fam2 fun _ _ _ h=>owns_ext h (e9) (by simp)
     replace q2:=(e9).keep0 q2
     replace q5:=(e9).keep0 q5
     replace q6:=(e9).keep0 q6
     replace E:=ext_same E (e9)
     replace EV:=ext_same EV (e9)
     replace EB0:=ext_same EB0 (e9)
     replace EX:=ext_same EX (e9)
     replace HL:=lots_ext (e9) HL
     replace eT:=ext_same eT (e9)
     clear e9
     refine ⟨fun _=>eT,?_⟩
     clear hcp
     replace po:=owns_lower (base':=B0) po hEB0
     obtain ⟨xb10,xo10,xa10,xr10⟩:=HS.out g (by omega)
     refine F.x (i:=13) rfl (fun w'=>R_ixSlice (sz:=1) rfl ((F.at rfl).trans (xa10 _ _)) (F.at rfl) Try.underlying22 (by kernel_rfl) (by omega) (by omega)) (fun _=>eT) ?_;clear F fa;intro fa F
     obtain ⟨⟨u0,hcu⟩,hfu,hst⟩:=owns_at oo1 xa10 (j:=g) (p:=xo10 + ((g : Nat) : Int).toNat * 1) (by first | omega | (simp;omega)) (by omega)
     refine ax_only (i:=14) (by kernel_rfl) (op_to rfl rfl rfl (R_store rfl (F.at rfl) (F.at rfl) rfl (by kernel_rfl) hcu hfu) ?_);intro w13 hw
     obtain ⟨hown',hg⟩:=hst _ _ hw
     clear hst hcu hfu hw
     replace q2:=keep_type oo1 hg q2 (by decide)
     replace q5:=keep_type oo1 hg q5 (by decide)
     replace q6:=(hg.block n6 (blk_lt q6) o6_oo1.out).trans q6
     replace HL:=lots_append HL oo1 hg (by omega) (by decide)
     replace fam1:=fam_lift fam1 fun _ _ _ h=>owns_other h oo1 hg (by decide)
     replace oo2:=oo2.kept hg hap2.out
     replace fam2:=fam_lift fam2 fun _ _ _ h=>owns_other h oo1 hg (by decide)
     replace po:=owns_other po oo1 hg (by decide)
     replace E:=ext_appendX E oo1 hg (by omega)
     replace EV:=ext_appendX EV oo1 hg (by omega)
     replace EB0:=ext_appendX EB0 oo1 hg (by omega)
     replace oo1:=hown'
     clear hg
     refine ⟨gone (by kernel_rfl),?_⟩
     obtain ⟨D2,hD2e⟩ : ∃ D2,D2 = o.D.set g (.slice pa (x.D.getD 0 (.bool true,[])).2.length pc,(x.D.getD 0 (.bool true,[])).2):=⟨_,rfl⟩
     have hD2 : ∀ W,Ext [b] w13 W → LolAt W o.da D2:=by rw [hD2e];exact lol_setB oo1 fam1 hbB0 hbB0 (fun W hW=>⟨pa,pc,rfl,rows_of_ivs (owns_ext po hW (by simpa using hbB0)) rfl⟩)
     have hS2 : SmallL D2:=by rw [hD2e];exact small_set SOD.out (show (x.D.getD 0 (.bool true,[])).2.length ≤ 1000 from SD.out.2 _ (getD_mem (.bool true,[]) (show 0 < x.D.length by omega)))
     have hDl : o.D.length = D2.length:=by rw [hD2e,List.length_set]
     rw [hDl] at q6
     refine ax_done (by kernel_rfl) ?_ _
     clear eT q2_ q5_ q6_ E_ EV_ EB0_ EX_
     replace HL:=lots_mono HL (show _ ≤ k + 200 by omega)
     exact hcut { o with D:=D2 } _ _ (F.sub (.c 2 rfl (.c 5 rfl (.c 6 rfl .n)))) q2 q5 q6 E EV EB0 HL (fun W hW=>⟨hD2 W hW,lol_ownB oo2 fam2 hbB0 hbB0 W hW⟩) hS2 SOL.out
    ·skip
     replace HL:=lots_mono HL (show _ ≤ k + 200 by omega)
     refine wp_skip ?_
     exact hcut o _ _ (F.sub (.c 2 rfl (.c 5 rfl (.c 6 rfl .n)))) q2 q5 q6 E EV EB0 HL (fun W hW=>⟨lol_ownB oo1 fam1 hbB0 hbB0 W hW,lol_ownB oo2 fam2 hbB0 hbB0 W hW⟩) SOD.out SOL.out
   ·skip
    refine wp_seq_k fun K11 hK11=>?_
    refine wp_region_lit ?_
    refine F.vl (R_eqlD rfl (F.at rfl) (ev_c fa _)) ?_;clear F fa;intro fa F
    refine F.as ?_;clear F fa;intro fa F
    refine wpList_nil ?_
    refine hK11 _ _ ?_
    clear hK11
    refine cd_if F rfl (fun hc38=>?_) (fun hc38=>?_)
    ·skip
     refine wp_seq_k fun K12 hK12=>?_
     refine wp_region_lit ?_
     refine F.vl (R_field rfl (F.at rfl) Try.underlying24 rfl (n:=2) (sz:=1) rfl (by kernel_rfl) (by decide)) ?_;clear F fa;intro fa F
     refine F.vl (R_load rfl (F.at rfl) Try.underlying22 rfl ((cells_of_block q2 2).trans (getS (getS (get0))))) ?_;clear F fa;intro fa F
     refine F.vl (R_len rfl rfl (F.at rfl) Try.underlying22) ?_;clear F fa;intro fa F
     refine F.vl (R_gtr rfl (F.at rfl) (ev_c fa _)) ?_;clear F fa;intro fa F
     refine wpList_nil ?_
     refine hK12 _ _ ?_
     clear hK12
     refine cd_if F rfl (fun hc43=>?_) (fun hc43=>?_)
     ·skip
      have HS:=Lib.hid (slAt_outB oo2 rfl hbB0)
      have EX : Ext [b] w8 w8:=Ext.refl _ _
      refine region_x (Ext [b] w8) (some 14) follows fun w14 hh eh=>?_
      have q2_:=q2
      replace q2:=keep_same hh q2
      have q5_:=q5
      replace q5:=keep_same hh q5
      have q6_:=q6
      replace q6:=keep_same hh q6
      have E_:=E
      have zEw14:=E.size
      replace E:=ext_same E eh
      have EV_:=EV
      have zEVw14:=EV.size
      replace EV:=ext_same EV eh
      have EB0_:=EB0
      have zEB0w14:=EB0.size
      replace EB0:=ext_same EB0 eh
      have EX_:=EX
      have zEXw14:=EX.size
      replace EX:=ext_same EX eh
      have zbw14:=lots_lt HL
      replace HL:=lots_ext eh HL
      replace oo1:=owns_same hh oo1
      replace fam1:=fam_lift fam1 fun _ _ _ h=>owns_same hh h
      replace oo2:=owns_same hh oo2
      replace fam2:=fam_lift fam2 fun _ _ _ h=>owns_same hh h
      have eT:=eh.mono (Y:=[b]) (by simp)
      clear hh eh
      refine F.x (i:=0) rfl (fun w'=>R_field rfl (F.at rfl) Try.underlying24 rfl (n:=2) (sz:=1) rfl (by kernel_rfl) (by decide)) (fun _=>eT) ?_;clear F fa;intro fa F
      refine F.xr (i:=1) rfl (fun w' hS=>R_load rfl (F.at rfl) Try.underlying22 rfl ((cells_of_block (hS.keep q6_ (by simp;omega)) 2).trans (getS (getS (get0))))) (fun _=>eT) ?_;clear F fa;intro fa F
      refine F.x (i:=2) rfl (fun w'=>R_move rfl (F.at rfl)) (fun _=>eT) ?_;clear F fa;intro fa F
      refine F.x (i:=3) rfl (fun w'=>R_field rfl (F.at rfl) Try.underlying24 rfl (n:=2) (sz:=1) rfl (by kernel_rfl) (by decide)) (fun _=>eT) ?_;clear F fa;intro fa F
      refine F.xr (i:=4) rfl (fun w' hS=>R_load rfl (F.at rfl) Try.underlying22 rfl ((cells_of_block (hS.keep q6_ (by simp;omega)) 2).trans (getS (getS (get0))))) (fun _=>eT) ?_;clear F fa;intro fa F
      refine F.x (i:=5) rfl (fun w'=>R_len rfl rfl (F.at rfl) Try.underlying22) (fun _=>eT) ?_;clear F fa;intro fa F
      refine F.x (i:=6) rfl (fun w'=>R_sub rfl (F.at rfl) (ev_c fa _) (by omega) (by omega)) (fun _=>eT) ?_;clear F fa;intro fa F
      refine F.x (i:=8) rfl (fun w'=>R_field rfl (F.at rfl) Try.underlying24 rfl (n:=2) (sz:=1) rfl (by kernel_rfl) (by decide)) (fun _=>eT) ?_;clear F fa;intro fa F
      refine F.xr (i:=9) rfl (fun w' hS=>R_load rfl (F.at rfl) Try.underlying22 rfl ((cells_of_block (hS.keep q2_ (by simp;omega)) 2).trans (getS (getS (get0))))) (fun _=>eT) ?_;clear F fa;intro fa F
      obtain ⟨xb13,xo13,xa13,xr13⟩:=HXL.out 0 (by omega)
      refine F.x (i:=10) rfl (fun w'=>R_ixSlice (sz:=1) rfl ((F.at rfl).trans (xa13 _ _)) (ev_c fa _) Try.underlying22 (by kernel_rfl) (by omega) (by omega)) (fun _=>eT) ?_;clear F fa;intro fa F
      refine F.xr (i:=11) rfl (fun w' hS=>R_load rfl (F.at rfl) Try.underlying25 rfl (xr13 _ (E_.trans hS) 0 _ rfl)) (fun _=>eT) ?_;clear F fa;intro fa F
      obtain ⟨ra,rca,hra,-⟩:=(H0.out _ E).l.2 _ (getD_mem (.bool true,[]) (show 0 < x.L.length by omega))
      rw [hra] at F
      refine ax_only (i:=7) (by kernel_rfl) (op_call F rfl rfl (by decide) rfl (R_callV rfl rfl Try.call26 (mpS (F.at rfl) (mpS (F.at rfl) mp0))) (upto_any w0 _ b _ nv (((o.L.length : Nat) : Int) - 1) HL (by omega) (by omega) (by omega)) fun e w15 hR=>?_)
      obtain ⟨g,rfl,hg0,hg1,HL,e3⟩:=hR
      refine ⟨_,rfl,?_⟩;clear F fa;intro fa F
      replace oo1:=owns_ext oo1 (e3) (by simp;omega)
      replace fam1:=fam_lift fam1 fun _ _ _ h=>owns_ext h (e3) (by simp;omega)
      replace oo2:=owns_ext oo2 (e3) (by simp;omega)
      replace fam2:=fam_lift fam2 fun _ _ _ h=>owns_ext h (e3) (by simp;omega)
      replace q2:=(e3).keep q2 (by simp;omega)
      replace q5:=(e3).keep q5 (by simp;omega)
      replace q6:=(e3).keep q6 (by simp;omega)
      replace E:=E.trans' e3 (fun i hi hl=>by simp only [List.mem_cons,List.not_mem_nil,or_false] at hi ⊢;omega)
      replace EV:=EV.trans' e3 (fun i hi hl=>by simp only [List.mem_cons,List.not_mem_nil,or_false] at hi ⊢;omega)
      replace EB0:=EB0.trans' e3 (fun i hi hl=>by simp only [List.mem_cons,List.not_mem_nil,or_false] at hi ⊢;omega)
      replace EX:=EX.trans' e3 (fun i hi hl=>by simp only [List.mem_cons,List.not_mem_nil,or_false] at hi ⊢;omega)
      replace eT:=eT.trans' e3 (fun i hi hl=>by simp only [List.mem_cons,List.not_mem_nil,or_false] at hi ⊢;omega)
      refine ⟨fun _=>eT,?_⟩
      obtain ⟨g,rfl⟩:=Int.eq_ofNat_of_zero_le hg0
      have hgl : g < o.L.length:=by omega
      have hcp:=copyInts_any (w:=w15) ((H0.out _ E).l.2 _ (getD_mem (.bool true,[]) (show 0 < x.L.length by omega))) (SL.out.2 _ (getD_mem (.bool true,[]) (show 0 < x.L.length by omega)))
      rw [hra] at hcp
      have hbZ:=lots_lt HL
      have hEB0:=EB0.size
      rw [← hBZ] at hEB0
      refine ax_only (i:=12) (by kernel_rfl) (op_call F rfl rfl (by decide) rfl (R_callV rfl rfl Try.call19 (mpS (F.at rfl) mp0)) (hcp) fun e w16 hR=>?_)
      obtain ⟨pa,pc,rfl,po,e9⟩:=hR
      refine ⟨_,rfl,?_⟩;clear F fa;intro fa F
      replace oo1:=owns_ext oo1 (e9) (by simp)
      replace fam1:=fam_lift fam1 fun _ _ _ h=>owns_ext h (e9) (by simp)
      replace oo2:=owns_ext oo2 (e9) (by simp)
      replace fam2:=fam_lift fam2 fun _ _ _ h=>owns_ext h (e9) (by simp)
      replace q2:=(e9).keep0 q2
      replace q5:=(e9).keep0 q5
      replace q6:=(e9).keep0 q6
      replace E:=ext_same E (e9)
      replace EV:=ext_same EV (e9)
      replace EB0:=ext_same EB0 (e9)
      replace EX:=ext_same EX (e9)
      replace HL:=lots_ext (e9) HL
      replace eT:=ext_same eT (e9)
      clear e9
      refine ⟨fun _=>eT,?_⟩
      clear hcp
      replace po:=owns_lower (base':=B0) po hEB0
      obtain ⟨xb14,xo14,xa14,xr14⟩:=HS.out g (by omega)
      refine F.x (i:=13) rfl (fun w'=>R_ixSlice (sz:=1) rfl ((F.at rfl).trans (xa14 _ _)) (F.at rfl) Try.underlying22 (by kernel_rfl) (by omega) (by omega)) (fun _=>eT) ?_;clear F fa;intro fa F
      obtain ⟨⟨u0,hcu⟩,hfu,hst⟩:=owns_at oo2 xa14 (j:=g) (p:=xo14 + ((g : Nat) : Int).toNat * 1) (by first | omega | (simp;omega)) (by omega)
      refine ax_only (i:=14) (by kernel_rfl) (op_to rfl rfl rfl (R_store rfl (F.at rfl) (F.at rfl) rfl (by kernel_rfl) hcu hfu) ?_);intro w17 hw
      obtain ⟨hown',hg⟩:=hst _ _ hw
      clear hst hcu hfu hw
      replace q2:=keep_type oo2 hg q2 (by decide)
      replace q5:=keep_type oo2 hg q5 (by decide)
      replace q6:=(hg.block n6 (blk_lt q6) o6_oo2.out).trans q6
      replace HL:=lots_append HL oo2 hg (by omega) (by decide)
      replace oo1:=oo1.kept hg hap3.out
      replace fam1:=fam_lift fam1 fun _ _ _ h=>owns_other h oo2 hg (by decide)
      replace fam2:=fam_lift fam2 fun _ _ _ h=>owns_other h oo2 hg (by decide)
      replace po:=owns_other po oo2 hg (by decide)
      replace E:=ext_appendX E oo2 hg (by omega)
      replace EV:=ext_appendX EV oo2 hg (by omega)
      replace EB0:=ext_appendX EB0 oo2 hg (by omega)
      replace oo2:=hown'
      clear hg
      refine ⟨gone (by kernel_rfl),?_⟩
      obtain ⟨D2,hD2e⟩ : ∃ D2,D2 = o.L.set g (.slice pa (x.L.getD 0 (.bool true,[])).2.length pc,(x.L.getD 0 (.bool true,[])).2):=⟨_,rfl⟩
      have hD2 : ∀ W,Ext [b] w17 W → LolAt W o.la D2:=by rw [hD2e];exact lol_setB oo2 fam2 hbB0 hbB0 (fun W hW=>⟨pa,pc,rfl,rows_of_ivs (owns_ext po hW (by simpa using hbB0)) rfl⟩)
      have hS2 : SmallL D2:=by rw [hD2e];exact small_set SOL.out (show (x.L.getD 0 (.bool true,[])).2.length ≤ 1000 from SL.out.2 _ (getD_mem (.bool true,[]) (show 0 < x.L.length by omega)))
      have hDl : o.L.length = D2.length:=by rw [hD2e,List.length_set]
      rw [hDl] at q6
      refine ax_done (by kernel_rfl) ?_ _
      clear eT q2_ q5_ q6_ E_ EV_ EB0_ EX_
      replace HL:=lots_mono HL (show _ ≤ k + 200 by omega)
      exact hcut { o with L:=D2 } _ _ (F.sub (.c 2 rfl (.c 5 rfl (.c 6 rfl .n)))) q2 q5 q6 E EV EB0 HL (fun W hW=>⟨lol_ownB oo1 fam1 hbB0 hbB0 W hW,hD2 W hW⟩) SOD.out hS2
     ·skip
      replace HL:=lots_mono HL (show _ ≤ k + 200 by omega)
      refine wp_skip ?_
      exact hcut o _ _ (F.sub (.c 2 rfl (.c 5 rfl (.c 6 rfl .n)))) q2 q5 q6 E EV EB0 HL (fun W hW=>⟨lol_ownB oo1 fam1 hbB0 hbB0 W hW,lol_ownB oo2 fam2 hbB0 hbB0 W hW⟩) SOD.out SOL.out
    ·skip
     replace HL:=lots_mono HL (show _ ≤ k + 200 by omega)
     refine wp_skip ?_
     exact hcut o _ _ (F.sub (.c 2 rfl (.c 5 rfl (.c 6 rfl .n)))) q2 q5 q6 E EV EB0 HL (fun W hW=>⟨lol_ownB oo1 fam1 hbB0 hbB0 W hW,lol_ownB oo2 fam2 hbB0 hbB0 W hW⟩) SOD.out SOL.out
 clear F q2 q5 q6 E EV EB0 HL oo1 fam1 oo2 fam2 fa
 intro z fa w18 F q2 q5 q6 E EV EB0 HL hz hzd hzl
 have EZ : Ext [b] w18 w18:=Ext.refl _ _
 refine hK4 _ _ ?_
 clear hK4
 refine wp_seq_k fun K15 hK15=>?_
 refine wp_region_lit ?_
 refine F.vl (R_loadBlk rfl (F.at rfl) Try.underlying24 rfl (by kernel_rfl) q2) ?_;clear F fa;intro fa F
 refine F.vl (R_loadBlk rfl (F.at rfl) Try.underlying24 rfl (by kernel_rfl) q5) ?_;clear F fa;intro fa F
 refine F.vl (R_loadBlk rfl (F.at rfl) Try.underlying24 rfl (by kernel_rfl) q6) ?_;clear F fa;intro fa F
 refine F.vl (R_loadBlk rfl (F.at rfl) Try.underlying24 rfl (by kernel_rfl) q5) ?_;clear F fa;intro fa F
 refine sq_new F rfl (by decide) rfl (R_buildSliceV rfl (prS (F.at rfl) (prS (F.at rfl) (prS (F.at rfl) (prS (F.at rfl) pr0)))) Try.underlying30 (size:=4) (by kernel_rfl) (by decide) (by decide) Try.zeroValue24 (cells:=#[.int .i64 x.B,.slice x.da x.D.length x.dc,.slice x.la x.L.length x.lc,.int .i64 x.tol,.int .i64 y.B,.slice y.da y.D.length y.dc,.slice y.la y.L.length y.lc,.int .i64 y.tol,.int .i64 z.B,.slice z.da z.D.length z.dc,.slice z.la z.L.length z.lc,.int .i64 z.tol,.int .i64 y.B,.slice y.da y.D.length y.dc,.slice y.la y.L.length y.lc,.int .i64 y.tol]) (by kernel_rfl)) ?_;clear F fa;intro fa w19 F hw
 obtain ⟨n62,hn⟩ : ∃ n,n = w18.heap.size:=⟨_,rfl⟩
 rw [← hn] at F
 have s62 : w18.heap.size ≤ n62:=Nat.le_of_eq hn.symm
 have l62_E : w.heap.size ≤ n62:=by rw [hn];exact E.size
 have l62_EV : wV.heap.size ≤ n62:=by rw [hn];exact EV.size
 have l62_EB0 : wZ.heap.size ≤ n62:=by rw [hn];exact EB0.size
 have l62_EZ : w18.heap.size ≤ n62:=by rw [hn];exact EZ.size
 have b62_HL:=Nat.lt_of_lt_of_eq (lots_lt HL) hn.symm
 have m62_2 : n2 < n62:=by rw [hn];exact blk_lt q2
 have m62_5 : n5 < n62:=by rw [hn];exact blk_lt q5
 have m62_6 : n6 < n62:=by rw [hn];exact blk_lt q6
 replace q2:=keep_alloc hw q2
 replace q5:=keep_alloc hw q5
 replace q6:=keep_alloc hw q6
 replace E:=ext_alloc E hw
 replace EV:=ext_alloc EV hw
 replace EB0:=ext_alloc EB0 hw
 replace EZ:=ext_alloc EZ hw
 replace HL:=lots_alloc hw HL
 have q62:=new_block hw hn
 clear hw hn
 refine F.as ?_;clear F fa;intro fa F
 refine wpList_nil ?_
 refine hK15 _ _ ?_
 clear hK15
 refine wp_ret ?_
 (try simp only [Exit.inBlock,Exit.then,reduceIte])
 refine rt_v F (rs_1 F rfl rfl) ?_
 exact ⟨some ⟨n62,0,none⟩,y,z,rfl,HV.out,hzd,hzl,vs_new q62 (by omega) (fun r hr W hW=>by simp only [List.mem_cons,List.not_mem_nil,or_false] at hr;rcases hr with rfl | rfl | rfl | rfl;(· exact H0.out _ (E.trans hW));(· exact HYB.out _ (EV.trans hW));(· exact hz _ (EZ.trans hW));(· exact HYB.out _ (EV.trans hW))),lots_mono HL (by omega),E⟩
def fltV (er : Int) : PanicEntry:={ v:=.iface 126 (.int .i64 er),recovered:=false }
theorem fault_yes (er : Int) (xT : TypeId) (w : World) : (Instr.typeAssert (.iface 126 (.int .i64 er)) xT 126 true).run Try.prog w = .ok (.tuple #[.int .i64 er,.bool true]) w:=by
 simp [Instr.typeAssert,run_underlying Try.underlying126,go_sem,Result.andThen]
set_option maxRecDepth 20000 in
set_option maxHeartbeats 400000 in
theorem caught_took (n : Nat) (b : Nat) (er x : Int) (T : TypeId) (w : World) (hb : w.heap[b]? = some (.cells #[.int .i64 x] T (0,0))) :
  CallsDIn Fence.wide n Try.prog 53 #[.pointer (some ⟨b,0,none⟩)] (.panicking [fltV er]) w fun e u' w'=>e = .returned (.tuple #[]) ∧ u' = .panicking [{ fltV er with recovered:=true }] ∧ w' = w.setCell ⟨b,0,none⟩ (.int .i64 er):=by
 have hc : w.cell? ⟨b,0,none⟩ = some (.int .i64 x):=(cells_of_block hb 0).trans rfl
 have hz : w.frozen? ⟨b,0,none⟩ = false:=free_of_block hb 0
 refine callsDIn_of_wpSIn Try.func53 rfl trivial fun c₀ cs hu=>?_
 unfold fltV at hu ⊢
 apply wpSIn_seq
 apply wpSIn_region
 simp [wpOpsSIn,Fence.wide,go_sem,recoverD,hu,Try.ntmps53,Exit.thenS,fault_yes,Result.andThen]
 apply wpSIn_seq
 apply wpSIn_region
 simp [wpOpsSIn,Fence.wide,go_sem,Exit.thenS,Array.replicate]
 refine wpSIn_cond (t:=true) (by simp [Act.eval]) ?_
 simp only [if_true]
 apply wpSIn_region
 simp [wpOpsSIn,Fence.wide,go_sem,hc,hz,bodyPostS,results,Try.results53]
theorem lv_took {fn : Func} {R : Ending → World → Prop} {tmps : Array Value} {w : World} {b : Nat} {er x : Int} {T : TypeId} {ds : List Deferred} (hb : w.heap[b]? = some (.cells #[.int .i64 x] T (0,0))) (h : ∀ w',w' = w.setCell ⟨b,0,none⟩ (.int .i64 er) → LeavesInM Fence.wide 9 Try.prog fn tmps R ds .returning w') : LeavesInM Fence.wide 9 Try.prog fn tmps R ({ target:=.fn (.func 53) #[],args:=#[.pointer (some ⟨b,0,none⟩)] } :: ds) (.panicking [fltV er]) w:=by
 refine ⟨by simp,.inr ⟨(fun h=>by cases h),_,_,53,#[.pointer (some ⟨b,0,none⟩)],rfl,(by simp [go_sem]),(fun _ _=>trivial),?_⟩⟩
 refine CallsDIn.mono (caught_took 8 b er x T w hb) ?_
 rintro e u' w' ⟨rfl,rfl,rfl⟩
 exact h _ rfl
section
variable {P : Program} {ops : Array Oper} {Q : Exit → Act → World → Prop} {o : Oper} {rest : List Oper} {N : Nat} {D : List Deferred} {a : Act} {L : List (Nat × Value)} {w w' : World}
theorem sq_panic {f : FuncId} {args : Array Value} {R : Ending → World → Prop} (hw : Region.wanted o (yielded ops a.tmps) = true) (hr : (execOp a.eval o).run P w = .ok (.enter f args) w) (hc : Calls P f args w R)
  (h : ∀ e w',R e w' → ∃ ch,e = .panicked ch ∧ Q (.panic ch) a w') : wpList P ops Q (o :: rest) a w:=by
 unfold wpList
 simp only [hw,if_true,Oper.wp,hr,Oper.upon]
 refine .inl (hc.mono fun e w' hR=>?_)
 obtain ⟨ch,rfl,h1⟩:=h e w' hR
 exact h1
theorem sq_raise {v : Value} (hw : Region.wanted o (yielded ops a.tmps) = true) (hr : (execOp a.eval o).run P w = .halt (.panic v) w) (h : Q (.panic [{ v,recovered:=false }]) a w) : wpList P ops Q (o :: rest) a w:=by
 unfold wpList
 simp only [hw,if_true,Oper.wp,hr,Oper.upon]
 exact .inl h
theorem R_panic {ρ : Operand → Value} {x : Operand} {t : TypeId} {v : Value} (ho : o.op = .panic x) (hx : ρ x = .iface t v) : (execOp ρ o).run P w = .halt (.panic (.iface t v)) w:=by
 unfold execOp
 simp [ho,hx,Instr.panic,goPanic,go_sem]
theorem R_mkIface {ρ : Operand → Value} {x : Operand} {t : TypeId} {v : Value} {q : IntKind} (ho : o.op = .makeInterface t x) (hx : ρ x = v) (hu : P.underlying t = some (.int q)) : (execOp ρ o).run P w = .ok (.value (.iface t v)) w:=by
 unfold execOp
 simp [ho,hx,Instr.makeInterface,run_underlying hu,go_sem,Result.andThen]
theorem cd_Tb (F : Has N D a L) {k : Nat} {x y : Code} {b : Bool} (hc : L.lookup k = some (.bool b)) (hb : b = true) (h : x.wp P Q a w) : (Code.cond (.tmp k) x y).wp P Q a w:=wp_cond_true (by rw [F.at hc,hb]) h
theorem rtM_p {fn : Func} {R : Ending → World → Prop} {ch : List PanicEntry} (F : Has N D a L) (h : LeavesInM Fence.wide 9 P fn a.tmps R D (.panicking ch) w) : bodyPostM Fence.wide 9 P fn R (.panic ch) a w:=by
 show LeavesInM _ _ _ _ _ _ a.defers _ _
 rw [F.ds];exact h
end
theorem must_bad (er : Int) (he : er ≠ 0) (w : World) : Calls Try.prog 97 #[.int .i64 er] w fun e w'=>e = .panicked [fltV er] ∧ Ext [] w w':=by
 have E : Ext [] w w:=Ext.refl _ _
 refine calls_has 6 Try.func97 rfl Try.ntmps97 (Nat.le_of_ble_eq_true rfl) ?_
 intro fa F
 refine wp_seq_k fun K1 hK1=>?_
 refine wp_region_lit ?_
 refine F.mv ?_;clear F fa;intro fa F
 refine F.vl (R_neqD rfl (F.at rfl) (ev_c fa _)) ?_;clear F fa;intro fa F
 refine wpList_nil ?_
 refine hK1 _ _ ?_
 clear hK1
 refine cd_Tb F rfl (decide_eq_true (he)) ?_
 refine wp_region_lit ?_
 refine F.mv ?_;clear F fa;intro fa F
 refine F.vl ((R_mkIface rfl (F.at rfl) Try.underlying126)) ?_;clear F fa;intro fa F
 refine sq_raise rfl (R_panic rfl (F.at rfl)) ?_
 (try simp only [Exit.inBlock,Exit.then,Exit.jump,reduceIte])
 refine ⟨F.ds,?_⟩
 exact ⟨rfl,E⟩
set_option maxRecDepth 100000 in
theorem begin_bad (x : Vm) (sd : SmallL x.D) (sl : SmallL x.L) (hc : chkE x.B (x.D.map (·.2)) (x.L.map (·.2)) x.tol ≠ 0) (w : World) (h : x.At w) : Calls Try.prog 54 #[.agg #[.int .i64 x.B,.slice x.da x.D.length x.dc,.slice x.la x.L.length x.lc,.int .i64 x.tol]] w fun e w'=>e = .panicked [fltV (chkE x.B (x.D.map (·.2)) (x.L.map (·.2)) x.tol)] ∧ Ext [] w w':=by
 have E : Ext [] w w:=Ext.refl _ _
 have HX:=Lib.hid h
 clear h
 refine calls_has 8 Try.func54 rfl Try.ntmps54 (Nat.le_of_ble_eq_true rfl) ?_
 intro fa F
 refine wp_seq_k fun K1 hK1=>?_
 refine wp_region_lit ?_
 refine sq_new F rfl (by decide) rfl (R_box rfl (F.at rfl)) ?_;clear F fa;intro fa w1 F hw
 obtain ⟨n1,hn⟩ : ∃ n,n = w.heap.size:=⟨_,rfl⟩
 rw [← hn] at F
 have s1 : w.heap.size ≤ n1:=Nat.le_of_eq hn.symm
 have l1_E : w.heap.size ≤ n1:=by rw [hn];exact E.size
 replace E:=ext_alloc E hw
 have q1:=new_row hw hn
 clear hw hn
 refine sq_new F rfl (by decide) rfl (R_alloc rfl Try.zeroValue80) ?_;clear F fa;intro fa w2 F hw
 obtain ⟨n2,hn⟩ : ∃ n,n = w1.heap.size:=⟨_,rfl⟩
 rw [← hn] at F
 have s2 : w1.heap.size ≤ n2:=Nat.le_of_eq hn.symm
 have l2_E : w.heap.size ≤ n2:=by rw [hn];exact E.size
 have m2_1 : n1 < n2:=by rw [hn];exact blk_lt q1
 replace q1:=keep_alloc hw q1
 replace E:=ext_alloc E hw
 have q2:=new_row hw hn
 clear hw hn
 refine wpList_nil ?_
 refine hK1 _ _ ?_
 clear hK1
 refine wp_seq_k fun K2 hK2=>?_
 refine wp_region_lit ?_
 refine F.vl (R_loadBlk rfl (F.at rfl) Try.underlying24 rfl (by kernel_rfl) q1) ?_;clear F fa;intro fa F
 refine sq_call F rfl (by decide) rfl (R_callV rfl rfl Try.call98 (mpS (F.at rfl) mp0)) (vcheck_any x _ (HX.out.ext E) sd sl) fun e w3 hR=>?_
 obtain ⟨rfl,e9⟩:=hR
 refine ⟨_,rfl,?_⟩;clear F fa;intro fa F
 replace q1:=(e9).keep0 q1
 replace q2:=(e9).keep0 q2
 replace E:=ext_same E (e9)
 clear e9
 refine sq_panic rfl (R_callV rfl rfl Try.call97 (mpS (F.at rfl) mp0)) (must_bad _ hc _) fun e w4 hR=>?_
 obtain ⟨rfl,e9⟩:=hR
 refine ⟨_,rfl,?_⟩
 replace q1:=(e9).keep0 q1
 replace q2:=(e9).keep0 q2
 replace E:=ext_same E (e9)
 (try simp only [Exit.inBlock,Exit.then,Exit.jump,reduceIte])
 refine ⟨F.ds,?_⟩
 exact ⟨rfl,E⟩
def LookPost (er : Int) (w : World) (e : Ending) (w' : World) : Prop:=((er = 0 ∧ e = .returned (.tuple #[])) ∨ (er ≠ 0 ∧ e = .panicked [fltV er])) ∧ Ext [] w w'
theorem look_ok {er : Int} {w : World} {e : Ending} {w' : World} (h : er = 0) (he : e = .returned (.tuple #[])) (E : Ext [] w w') : LookPost er w e w':=⟨.inl ⟨h,he⟩,E⟩
theorem look_bad {er r : Int} {w : World} {e : Ending} {w' : World} (h : er = r) (hr : r ≠ 0) (he : e = .panicked [fltV r]) (E : Ext [] w w') : LookPost er w e w':=⟨.inr ⟨by rw [h];exact hr,by rw [h];exact he⟩,E⟩
theorem cnt_few {l : List Int} {m h : Int} (hl : (l.length : Int) < m) : cntE l m h = 7:=if_pos hl
theorem cnt_many {l : List Int} {m h : Int} (hl : m < (l.length : Int)) : cntE l m h = 6:=by rw [cntE,if_neg (by omega),if_pos hl]
theorem cnt_num {l : List Int} {m h : Int} (hl : (l.length : Int) = m) : cntE l m h = numE l m h:=by
 rw [cntE,if_neg (by omega),if_neg (by omega)]
 exact (if_neg (show ¬ (l.length : Int) ≠ m from fun h=>h hl)).symm
def lmpF (hi : Int) : Option Int → List Int → Int
 | _,[]=>0
 | p,n :: l=>if outB n 0 hi = true then 3 else if p.any (fun m=>decide (n ≤ m)) = true then 5 else lmpF hi (some n) l
def lmpE (x : Vm) (ls : List Int) : Int:=if ls.length = 0 then 7 else lmpF (((x.L.length : Nat) : Int) - 1) none ls
def prevO (ls : List Int) (i : Nat) : Option Int:=if i = 0 then none else some (ls.getD (i - 1) 0)
theorem prevO_succ (ls : List Int) (i : Nat) : prevO ls (i + 1) = some (ls.getD i 0):=by rw [prevO,if_neg (by omega)];rfl
theorem lmp_out {hi : Int} {ls : List Int} {i : Nat} (h : i < ls.length) (ho : outB (ls.getD i 0) 0 hi = true) : lmpF hi (prevO ls i) (ls.drop i) = 3:=by
 rw [drop_getD ls 0 h,lmpF,if_pos ho]
theorem lmp_ord {hi : Int} {ls : List Int} {i : Nat} (h : i < ls.length) (ho : outB (ls.getD i 0) 0 hi = false) (h0 : 0 < i) (hc : ls.getD i 0 ≤ ls.getD (i - 1) 0) : lmpF hi (prevO ls i) (ls.drop i) = 5:=by
 have hp : prevO ls i = some (ls.getD (i - 1) 0):=if_neg (by omega)
 rw [drop_getD ls 0 h,lmpF,if_neg (by rw [ho];simp),hp]
 exact if_pos (decide_eq_true hc)
theorem lmp_go {hi : Int} {ls : List Int} {i : Nat} (h : i < ls.length) (ho : outB (ls.getD i 0) 0 hi = false) (hc : 0 < i → ls.getD (i - 1) 0 < ls.getD i 0) : lmpF hi (prevO ls i) (ls.drop i) = lmpF hi (prevO ls (i + 1)) (ls.drop (i + 1)):=by
 rw [drop_getD ls 0 h,lmpF,if_neg (by rw [ho];simp),prevO_succ,if_neg]
 rw [prevO]
 by_cases e : i = 0
 ·rw [if_pos e];simp
 ·rw [if_neg e]
  have:=hc (by omega)
  simp only [Option.any_some,decide_eq_true_eq]
  omega
set_option maxRecDepth 100000 in
theorem lamp_any (x : Vm) (hl3 : x.L.length ≤ 1000) (n : Int) (w : World) : Calls Try.prog 82 #[.agg #[.int .i64 x.B,.slice x.da x.D.length x.dc,.slice x.la x.L.length x.lc,.int .i64 x.tol],.int .i64 n] w (LookPost (if outB n 0 (((x.L.length : Nat) : Int) - 1) = true then 3 else 0) w):=by
 have E : Ext [] w w:=Ext.refl _ _
 obtain ⟨bb,hbb⟩ : ∃ bb,bb = outB n 0 (((x.L.length : Nat) : Int) - 1):=⟨_,rfl⟩
 rw [← hbb]
 refine calls_has 12 Try.func82 rfl Try.ntmps82 (Nat.le_of_ble_eq_true rfl) ?_
 intro fa F
 refine wp_seq_k fun K1 hK1=>?_
 refine wp_region_lit ?_
 refine sq_new F rfl (by decide) rfl (R_box rfl (F.at rfl)) ?_;clear F fa;intro fa w1 F hw
 obtain ⟨n2,hn⟩ : ∃ n,n = w.heap.size:=⟨_,rfl⟩
 rw [← hn] at F
 have s2 : w.heap.size ≤ n2:=Nat.le_of_eq hn.symm
 have l2_E : w.heap.size ≤ n2:=by rw [hn];exact E.size
 replace E:=ext_alloc E hw
 have q2:=new_row hw hn
 clear hw hn
 refine wpList_nil ?_
 refine hK1 _ _ ?_
 clear hK1
 refine wp_seq_k fun K2 hK2=>?_
 refine wp_region_lit ?_
 refine F.mv ?_;clear F fa;intro fa F
 refine F.vl (R_field rfl (F.at rfl) Try.underlying80 rfl (n:=0) (sz:=4) rfl (by kernel_rfl) (by decide)) ?_;clear F fa;intro fa F
 refine F.vl (R_field rfl (F.at rfl) Try.underlying24 rfl (n:=2) (sz:=1) rfl (by kernel_rfl) (by decide)) ?_;clear F fa;intro fa F
 refine F.vl (R_load rfl (F.at rfl) Try.underlying22 rfl ((cells_of_block q2 2).trans (getS (getS (get0))))) ?_;clear F fa;intro fa F
 refine F.vl (R_len rfl rfl (F.at rfl) Try.underlying22) ?_;clear F fa;intro fa F
 refine F.vl (R_sub rfl (F.at rfl) (ev_c fa _) (by omega) (by omega)) ?_;clear F fa;intro fa F
 refine sq_call F rfl (by decide) rfl (R_callV rfl rfl Try.call99 (mpS (F.at rfl) (mpS (ev_c fa _) (mpS (F.at rfl) mp0)))) (outside_any n 0 (((x.L.length : Nat) : Int) - 1) _) fun e w2 hR=>?_
 obtain ⟨rfl,e9⟩:=hR
 refine ⟨_,rfl,?_⟩;clear F fa;intro fa F
 replace q2:=(e9).keep0 q2
 replace E:=ext_same E (e9)
 clear e9
 rw [← hbb] at F
 refine wpList_nil ?_
 refine hK2 _ _ ?_
 clear hK2
 refine cd_b F rfl (fun hc10=>?_) (fun hc10=>?_)
 ·skip
  refine wp_region_lit ?_
  refine F.vl ((R_mkIface rfl (ev_c fa _) Try.underlying126)) ?_;clear F fa;intro fa F
  refine sq_raise rfl (R_panic rfl (F.at rfl)) ?_
  (try simp only [Exit.inBlock,Exit.then,Exit.jump,reduceIte])
  refine ⟨F.ds,?_⟩
  exact look_bad (if_pos hc10) (by decide) rfl E
 ·skip
  refine wp_skip ?_
  (try simp only [Exit.inBlock,Exit.then,reduceIte])
  refine rt_vn F (rs_0 rfl) ?_
  exact look_ok (if_neg (by simpa using hc10)) rfl E
theorem look_out {er r : Int} {w : World} {e : Ending} {w' : World} (h : LookPost er w e w') (he : er = r) (hr : r ≠ 0) : e = .panicked [fltV r] ∧ Ext [] w w':=by
 subst he
 rcases h with ⟨⟨h1,-⟩ | ⟨-,h1⟩,E⟩
 ·exact absurd h1 hr
 ·exact ⟨h1,E⟩
theorem look_in {er : Int} {w : World} {e : Ending} {w' : World} (h : LookPost er w e w') (he : er = 0) : e = .returned (.tuple #[]) ∧ Ext [] w w':=by
 subst he
 rcases h with ⟨⟨-,h1⟩ | ⟨h1,-⟩,E⟩
 ·exact ⟨h1,E⟩
 ·exact absurd rfl h1
set_option maxRecDepth 100000 in
theorem lamps_any (x : Vm) (hl3 : x.L.length ≤ 1000) (ls : List Int) (hll : ls.length ≤ 1000) (a : Option Addr) (c : Nat) (w : World) (hr : IsRows w (.slice a ls.length c) 1 (ls.map intRow)) :
  Calls Try.prog 57 #[.agg #[.int .i64 x.B,.slice x.da x.D.length x.dc,.slice x.la x.L.length x.lc,.int .i64 x.tol],.slice a ls.length c] w (LookPost (lmpE x ls) w):=by
 have E : Ext [] w w:=Ext.refl _ _
 have HS:=Lib.hid (slAt_of_rows hr 0)
 clear hr
 obtain ⟨hi,hhi⟩ : ∃ hi,hi = ((x.L.length : Nat) : Int) - 1:=⟨_,rfl⟩
 have hle : lmpE x ls = if ls.length = 0 then 7 else lmpF hi none ls:=by rw [hhi];rfl
 refine calls_has 33 Try.func57 rfl Try.ntmps57 (Nat.le_of_ble_eq_true rfl) ?_
 intro fa F
 refine wp_seq_k fun K1 hK1=>?_
 refine wp_region_lit ?_
 refine sq_new F rfl (by decide) rfl (R_box rfl (F.at rfl)) ?_;clear F fa;intro fa w1 F hw
 obtain ⟨n2,hn⟩ : ∃ n,n = w.heap.size:=⟨_,rfl⟩
 rw [← hn] at F
 have s2 : w.heap.size ≤ n2:=Nat.le_of_eq hn.symm
 have l2_E : w.heap.size ≤ n2:=by rw [hn];exact E.size
 replace E:=ext_alloc E hw
 have q2:=new_row hw hn
 clear hw hn
 refine wpList_nil ?_
 refine hK1 _ _ ?_
 clear hK1
 refine wp_seq_k fun K2 hK2=>?_
 refine wp_seq_k fun K3 hK3=>?_
 refine wp_region_lit ?_
 refine F.mv ?_;clear F fa;intro fa F
 refine F.vl (R_len rfl rfl (F.at rfl) Try.underlying25) ?_;clear F fa;intro fa F
 refine F.vl (R_eqlD rfl (F.at rfl) (ev_c fa _)) ?_;clear F fa;intro fa F
 refine wpList_nil ?_
 refine hK3 _ _ ?_
 clear hK3
 refine cd_if F rfl (fun hc8=>?_) (fun hc8=>?_)
 ·skip
  rw [if_pos (by omega)] at hle
  refine wp_region_lit ?_
  refine F.vl ((R_mkIface rfl (ev_c fa _) Try.underlying126)) ?_;clear F fa;intro fa F
  refine sq_raise rfl (R_panic rfl (F.at rfl)) ?_
  (try simp only [Exit.inBlock,Exit.then,Exit.jump,reduceIte])
  refine ⟨F.ds,?_⟩
  exact look_bad hle (by decide) rfl E
 ·skip
  rw [if_neg (by omega)] at hle
  refine wp_skip ?_
  refine hK2 _ _ ?_
  clear hK2
  refine wp_seq_k fun K4 hK4=>?_
  refine wp_region_lit ?_
  refine F.mv ?_;clear F fa;intro fa F
  refine F.vl (R_len rfl rfl (F.at rfl) Try.underlying25) ?_;clear F fa;intro fa F
  refine F.vl (R_move rfl (ev_c fa _)) ?_;clear F fa;intro fa F
  refine wpList_nil ?_
  refine hK4 _ _ ?_
  clear hK4
  refine wp_block ?_
  have F0:=F.sub (.c 1 rfl (.c 2 rfl (.c 10 rfl (.c 11 rfl .n))))
  refine lp_for F0 (ls.length) (fun i Lv W=>Lv = [(12,.int .i64 ((i : Nat) : Int))] ∧ Ext [] w W ∧ W.heap[n2]? = some (.cells #[.int .i64 x.B,.slice x.da x.D.length x.dc,.slice x.la x.L.length x.lc,.int .i64 x.tol] 80 (0,0)) ∧ lmpE x ls = lmpF hi (prevO ls i) (ls.drop i)) ⟨_,⟨rfl,E,q2,hle⟩,F.sub (.c 12 rfl (.c 1 rfl (.c 2 rfl (.c 10 rfl (.c 11 rfl .n)))))⟩ ?_
  clear F F0
  clear E q2
  rintro i _ fa w2 hi1 ⟨rfl,E,q2,hle⟩ F
  refine wp_seq_k fun K5 hK5=>?_
  refine wp_region_lit ?_
  refine F.vl (R_lss rfl (F.at rfl) (F.at rfl)) ?_;clear F fa;intro fa F
  refine wpList_nil ?_
  refine hK5 _ _ ?_
  clear hK5
  refine wp_seq_k fun K6 hK6=>?_
  refine cd_if F rfl (fun hc13=>?_) (fun hc13=>?_)
  ·skip
   refine wp_skip ?_
   refine hK6 _ _ ?_
   clear hK6
   refine wp_seq_k fun K7 hK7=>?_
   refine wp_block ?_
   refine wp_seq_k fun K8 hK8=>?_
   refine wp_region_lit ?_
   refine F.mv ?_;clear F fa;intro fa F
   obtain ⟨xb9,xo9,xa9,xr9⟩:=HS.out i (by omega)
   refine F.vl (R_ixSlice (sz:=1) rfl ((F.at rfl).trans (xa9 _ _)) (F.at rfl) Try.underlying25 (by kernel_rfl) (by omega) (by omega)) ?_;clear F fa;intro fa F
   refine F.vl (R_load rfl (F.at rfl) Try.underlying3 rfl (xr9 _ E 0 _ rfl)) ?_;clear F fa;intro fa F
   refine F.as ?_;clear F fa;intro fa F
   refine F.as ?_;clear F fa;intro fa F
   refine wpList_nil ?_
   refine hK8 _ _ ?_
   clear hK8
   refine wp_seq_k fun K10 hK10=>?_
   by_cases ho : outB (ls.getD i 0) 0 hi = true
   ·skip
    refine wp_region_lit ?_
    refine F.vl (R_loadBlk rfl (F.at rfl) Try.underlying80 rfl (by kernel_rfl) q2) ?_;clear F fa;intro fa F
    refine F.mv ?_;clear F fa;intro fa F
    refine sq_panic rfl (R_callV rfl rfl Try.call82 (mpS (F.at rfl) (mpS (F.at rfl) mp0))) (((lamp_any x hl3 (ls.getD i 0) _).mono fun _ _ h=>look_out h (if_pos (by rw [← hhi];exact ho)) (show (3 : Int) ≠ 0 by decide))) fun e w3 hR=>?_
    obtain ⟨rfl,e9⟩:=hR
    refine ⟨_,rfl,?_⟩
    replace q2:=(e9).keep0 q2
    replace E:=ext_same E (e9)
    (try simp only [Exit.inBlock,Exit.then,Exit.jump,reduceIte])
    refine ⟨F.ds,?_⟩
    exact look_bad (hle.trans (lmp_out (by omega) ho)) (by decide) rfl E
   ·skip
    refine wp_region_lit ?_
    refine F.vl (R_loadBlk rfl (F.at rfl) Try.underlying80 rfl (by kernel_rfl) q2) ?_;clear F fa;intro fa F
    refine F.mv ?_;clear F fa;intro fa F
    refine sq_call F rfl (by decide) rfl (R_callV rfl rfl Try.call82 (mpS (F.at rfl) (mpS (F.at rfl) mp0))) (((lamp_any x hl3 (ls.getD i 0) _).mono fun _ _ h=>look_in h (if_neg (by rw [← hhi];exact ho)))) fun e w4 hR=>?_
    obtain ⟨rfl,e9⟩:=hR
    refine ⟨_,rfl,?_⟩;clear F fa;intro fa F
    replace q2:=(e9).keep0 q2
    replace E:=ext_same E (e9)
    clear e9
    refine wpList_nil ?_
    refine hK10 _ _ ?_
    clear hK10
    refine wp_seq_k fun K11 hK11=>?_
    by_cases ci : 0 < i
    ·skip
     by_cases cj : ls.getD i 0 ≤ ls.getD (i - 1) 0
     ·skip
      refine wp_region_lit ?_
      refine F.mv ?_;clear F fa;intro fa F
      refine F.vl (R_gtrB (b:=true) rfl (F.at rfl) (ev_c fa _) (decide_eq_true ((by omega)))) ?_;clear F fa;intro fa F
      refine F.mv ?_;clear F fa;intro fa F
      refine F.mv ?_ (hw:=(wantT F rfl rfl (by decide) rfl));clear F fa;intro fa F
      refine F.mv ?_ (hw:=(wantT F rfl rfl (by decide) rfl));clear F fa;intro fa F
      refine F.mv ?_ (hw:=(wantT F rfl rfl (by decide) rfl));clear F fa;intro fa F
      refine F.vl (R_sub rfl (F.at rfl) (ev_c fa _) (by omega) (by omega)) ?_ (hw:=(wantT F rfl rfl (by decide) rfl));clear F fa;intro fa F
      rw [show (((i : Nat) : Int) - 1) = ((i - 1 : Nat) : Int) by omega] at F
      obtain ⟨xb12,xo12,xa12,xr12⟩:=HS.out (i - 1) (by omega)
      refine F.vl (R_ixSlice (sz:=1) rfl ((F.at rfl).trans (xa12 _ _)) (F.at rfl) Try.underlying25 (by kernel_rfl) (by omega) (by omega)) ?_ (hw:=(wantT F rfl rfl (by decide) rfl));clear F fa;intro fa F
      refine F.vl (R_load rfl (F.at rfl) Try.underlying3 rfl (xr12 _ E 0 _ rfl)) ?_ (hw:=(wantT F rfl rfl (by decide) rfl));clear F fa;intro fa F
      refine F.vl (R_leqB (b:=true) rfl (F.at rfl) (F.at rfl) (decide_eq_true ((by omega)))) ?_ (hw:=(wantT F rfl rfl (by decide) rfl));clear F fa;intro fa F
      refine F.vl (R_pickT rfl (F.at rfl) (F.at rfl)) ?_;clear F fa;intro fa F
      refine wpList_nil ?_
      refine hK11 _ _ ?_
      clear hK11
      refine cd_T F rfl ?_
      refine wp_region_lit ?_
      refine F.vl ((R_mkIface rfl (ev_c fa _) Try.underlying126)) ?_;clear F fa;intro fa F
      refine sq_raise rfl (R_panic rfl (F.at rfl)) ?_
      (try simp only [Exit.inBlock,Exit.then,Exit.jump,reduceIte])
      refine ⟨F.ds,?_⟩
      exact look_bad (hle.trans (lmp_ord (by omega) (by simpa using ho) ci cj)) (by decide) rfl E
     ·skip
      refine wp_region_lit ?_
      refine F.mv ?_;clear F fa;intro fa F
      refine F.vl (R_gtrB (b:=true) rfl (F.at rfl) (ev_c fa _) (decide_eq_true ((by omega)))) ?_;clear F fa;intro fa F
      refine F.mv ?_;clear F fa;intro fa F
      refine F.mv ?_ (hw:=(wantT F rfl rfl (by decide) rfl));clear F fa;intro fa F
      refine F.mv ?_ (hw:=(wantT F rfl rfl (by decide) rfl));clear F fa;intro fa F
      refine F.mv ?_ (hw:=(wantT F rfl rfl (by decide) rfl));clear F fa;intro fa F
      refine F.vl (R_sub rfl (F.at rfl) (ev_c fa _) (by omega) (by omega)) ?_ (hw:=(wantT F rfl rfl (by decide) rfl));clear F fa;intro fa F
      rw [show (((i : Nat) : Int) - 1) = ((i - 1 : Nat) : Int) by omega] at F
      obtain ⟨xb13,xo13,xa13,xr13⟩:=HS.out (i - 1) (by omega)
      refine F.vl (R_ixSlice (sz:=1) rfl ((F.at rfl).trans (xa13 _ _)) (F.at rfl) Try.underlying25 (by kernel_rfl) (by omega) (by omega)) ?_ (hw:=(wantT F rfl rfl (by decide) rfl));clear F fa;intro fa F
      refine F.vl (R_load rfl (F.at rfl) Try.underlying3 rfl (xr13 _ E 0 _ rfl)) ?_ (hw:=(wantT F rfl rfl (by decide) rfl));clear F fa;intro fa F
      refine F.vl (R_leqB (b:=false) rfl (F.at rfl) (F.at rfl) (decide_eq_false ((by omega)))) ?_ (hw:=(wantT F rfl rfl (by decide) rfl));clear F fa;intro fa F
      refine F.vl (R_pickT rfl (F.at rfl) (F.at rfl)) ?_;clear F fa;intro fa F
      refine wpList_nil ?_
      have hgo : 0 < i → ls.getD (i - 1) 0 < ls.getD i 0:=fun _=>(by omega)
      refine hK11 _ _ ?_
      clear hK11
      refine cd_F F rfl ?_
      refine wp_skip ?_
      refine hK7 _ _ ?_
      clear hK7
      refine wp_region_lit ?_
      refine F.vl (R_add rfl (F.at rfl) (ev_c fa _) (by omega) (by omega)) ?_;clear F fa;intro fa F
      refine F.mv ?_;clear F fa;intro fa F
      refine wpList_nil ?_
      show _ ∧ _
      exact ⟨by omega,_,⟨rfl,E,q2,(hle.trans (lmp_go (by omega) (by simpa using ho) hgo))⟩,F.sub (.c 12 rfl (.c 1 rfl (.c 2 rfl (.c 10 rfl (.c 11 rfl .n)))))⟩
    ·skip
     refine wp_region_lit ?_
     refine F.mv ?_;clear F fa;intro fa F
     refine F.vl (R_gtrB (b:=false) rfl (F.at rfl) (ev_c fa _) (decide_eq_false ((by omega)))) ?_;clear F fa;intro fa F
     refine F.mv ?_;clear F fa;intro fa F
     refine sq_no F rfl (by decide) (wantF F rfl rfl (by decide) rfl (by decide)) ?_;clear F fa;intro fa F
     refine sq_no F rfl (by decide) (wantF F rfl rfl (by decide) rfl (by decide)) ?_;clear F fa;intro fa F
     refine sq_no F rfl (by decide) (wantF F rfl rfl (by decide) rfl (by decide)) ?_;clear F fa;intro fa F
     refine sq_no F rfl (by decide) (wantF F rfl rfl (by decide) rfl (by decide)) ?_;clear F fa;intro fa F
     refine sq_no F rfl (by decide) (wantF F rfl rfl (by decide) rfl (by decide)) ?_;clear F fa;intro fa F
     refine sq_no F rfl (by decide) (wantF F rfl rfl (by decide) rfl (by decide)) ?_;clear F fa;intro fa F
     refine sq_no F rfl (by decide) (wantF F rfl rfl (by decide) rfl (by decide)) ?_;clear F fa;intro fa F
     refine F.vl (R_pickF rfl (F.at rfl) (ev_c fa _)) ?_;clear F fa;intro fa F
     refine wpList_nil ?_
     have hgo : 0 < i → ls.getD (i - 1) 0 < ls.getD i 0:=fun h=>absurd h ci
     refine hK11 _ _ ?_
     clear hK11
     refine cd_F F rfl ?_
     refine wp_skip ?_
     refine hK7 _ _ ?_
     clear hK7
     refine wp_region_lit ?_
     refine F.vl (R_add rfl (F.at rfl) (ev_c fa _) (by omega) (by omega)) ?_;clear F fa;intro fa F
     refine F.mv ?_;clear F fa;intro fa F
     refine wpList_nil ?_
     show _ ∧ _
     exact ⟨by omega,_,⟨rfl,E,q2,(hle.trans (lmp_go (by omega) (by simpa using ho) hgo))⟩,F.sub (.c 12 rfl (.c 1 rfl (.c 2 rfl (.c 10 rfl (.c 11 rfl .n)))))⟩
  ·skip
   refine wp_exit ?_
   rw [List.drop_of_length_le (show ls.length ≤ i by omega)] at hle
   (try simp only [Exit.inBlock,Exit.then,reduceIte])
   refine rt_vn F (rs_0 rfl) ?_
   exact look_ok hle rfl E
def rcpE (x : Vm) (l : List Int) : Int:=if cntE l x.D.length 6 ≠ 0 then cntE l x.D.length 6 else sizE l.sum 6
theorem cnt_out {l : List Int} {m h : Int} {i : Nat} (hl : (l.length : Int) = m) (hi : i < l.length) (ho : outB (l.getD i 0) 0 h = true) : cntE l m h = 1:=by
 rw [cntE,if_neg (by omega),if_neg (by omega),if_neg]
 intro e
 have:=List.all_eq_true.1 e _ (getD_mem 0 hi)
 rw [ho] at this
 simp at this
theorem cnt_in {l : List Int} {m h : Int} (hl : (l.length : Int) = m) (hb : ∀ n ∈ l,0 ≤ n ∧ n ≤ h) : cntE l m h = 0:=by
 rw [cntE,if_neg (by omega),if_neg (by omega),if_pos]
 exact List.all_eq_true.2 fun n hn=>by rw [outB_no.2 (hb n hn)];rfl
theorem sum_nn : ∀ {l : List Int},(∀ n ∈ l,0 ≤ n) → 0 ≤ l.sum
 | [],_=>by simp
 | n :: l,h=>by
  have h1:=h n (by simp)
  have h2:=sum_nn (l:=l) (fun m hm=>h m (by simp [hm]))
  rw [List.sum_cons];omega
theorem rcp_zero {x : Vm} {l : List Int} : rcpE x l = 0 ↔ RcpOk x l:=by
 constructor
 ·intro h
  unfold rcpE at h
  by_cases hc : cntE l x.D.length 6 = 0
  ·rw [if_neg (by simpa using hc)] at h
   have hlen : l.length = x.D.length:=by
    rcases Nat.lt_trichotomy l.length x.D.length with e | e | e
    ·rw [cnt_few (by omega)] at hc;omega
    ·exact e
    ·rw [cnt_many (by omega)] at hc;omega
   have hbd : ∀ n ∈ l,0 ≤ n ∧ n ≤ 6:=fun n hn=>by
    obtain ⟨k,hk,rfl⟩:=List.getElem_of_mem hn
    have hg : l.getD k 0 = l[k]:=by simp [List.getD_eq_getElem?_getD,List.getElem?_eq_getElem hk]
    rw [← hg]
    apply outB_no.1
    cases e : outB (l.getD k 0) 0 6
    ·rfl
    ·rw [cnt_out (by omega) hk e] at hc;omega
   have hnn:=sum_nn (fun n hn=>(hbd n hn).1)
   refine ⟨hlen,hbd,?_,?_⟩
   ·unfold sizE at h;split at h <;> (try split at h) <;> omega
   ·unfold sizE at h;split at h <;> (try split at h) <;> omega
  ·rw [if_pos hc] at h;exact absurd h hc
 ·intro h
  have hc : cntE l x.D.length 6 = 0:=cnt_in (by rw [h.len]) h.bd
  rw [rcpE,if_neg (by simpa using hc)]
  exact sizE_ok h.s1 h.s6
set_option maxRecDepth 100000 in
set_option maxHeartbeats 1000000 in
theorem recipe_bad (x : Vm) (hv : VOk x) (l : List Int) (hl : l.length ≤ 1000) (he : rcpE x l ≠ 0) (a : Option Addr) (c : Nat) (w : World) (hr : IsRows w (.slice a l.length c) 1 (l.map intRow)) :
  Calls Try.prog 55 #[.agg #[.int .i64 x.B,.slice x.da x.D.length x.dc,.slice x.la x.L.length x.lc,.int .i64 x.tol],.slice a l.length c] w fun e w'=>e = .panicked [fltV (rcpE x l)] ∧ Ext [] w w':=by
 have E : Ext [] w w:=Ext.refl _ _
 have HR:=Lib.hid hr
 have HS:=Lib.hid (slAt_of_rows hr 0)
 have hd1:=hv.d1
 have hd4:=hv.d4
 clear hr hv
 obtain ⟨er,her⟩ : ∃ er,er = rcpE x l:=⟨_,rfl⟩
 rw [← her] at he ⊢
 unfold rcpE at her
 refine calls_has 42 Try.func55 rfl Try.ntmps55 (Nat.le_of_ble_eq_true rfl) ?_
 intro fa F
 refine wp_seq_k fun K1 hK1=>?_
 refine wp_region_lit ?_
 refine sq_new F rfl (by decide) rfl (R_box rfl (F.at rfl)) ?_;clear F fa;intro fa w1 F hw
 obtain ⟨n2,hn⟩ : ∃ n,n = w.heap.size:=⟨_,rfl⟩
 rw [← hn] at F
 have s2 : w.heap.size ≤ n2:=Nat.le_of_eq hn.symm
 have l2_E : w.heap.size ≤ n2:=by rw [hn];exact E.size
 replace E:=ext_alloc E hw
 have q2:=new_row hw hn
 clear hw hn
 refine sq_new F rfl (by decide) rfl (R_alloc rfl Try.zeroValue83) ?_;clear F fa;intro fa w2 F hw
 obtain ⟨n4,hn⟩ : ∃ n,n = w1.heap.size:=⟨_,rfl⟩
 rw [← hn] at F
 have s4 : w1.heap.size ≤ n4:=Nat.le_of_eq hn.symm
 have l4_E : w.heap.size ≤ n4:=by rw [hn];exact E.size
 have m4_2 : n2 < n4:=by rw [hn];exact blk_lt q2
 replace q2:=keep_alloc hw q2
 replace E:=ext_alloc E hw
 have q4:=new_row hw hn
 clear hw hn
 refine wpList_nil ?_
 refine hK1 _ _ ?_
 clear hK1
 refine wp_seq_k fun K2 hK2=>?_
 refine wp_seq_k fun K3 hK3=>?_
 refine wp_region_lit ?_
 refine F.mv ?_;clear F fa;intro fa F
 refine F.vl (R_len rfl rfl (F.at rfl) Try.underlying25) ?_;clear F fa;intro fa F
 refine F.vl (R_field rfl (F.at rfl) Try.underlying80 rfl (n:=0) (sz:=4) rfl (by kernel_rfl) (by decide)) ?_;clear F fa;intro fa F
 refine F.vl (R_field rfl (F.at rfl) Try.underlying24 rfl (n:=1) (sz:=1) rfl (by kernel_rfl) (by decide)) ?_;clear F fa;intro fa F
 refine F.vl (R_load rfl (F.at rfl) Try.underlying22 rfl ((cells_of_block q2 1).trans (getS (get0)))) ?_;clear F fa;intro fa F
 refine F.vl (R_len rfl rfl (F.at rfl) Try.underlying22) ?_;clear F fa;intro fa F
 refine F.vl (R_lss rfl (F.at rfl) (F.at rfl)) ?_;clear F fa;intro fa F
 refine wpList_nil ?_
 refine hK3 _ _ ?_
 clear hK3
 refine cd_if F rfl (fun hc14=>?_) (fun hc14=>?_)
 ·skip
  refine wp_region_lit ?_
  refine F.vl ((R_mkIface rfl (ev_c fa _) Try.underlying126)) ?_;clear F fa;intro fa F
  refine sq_raise rfl (R_panic rfl (F.at rfl)) ?_
  (try simp only [Exit.inBlock,Exit.then,Exit.jump,reduceIte])
  refine ⟨F.ds,?_⟩
  rw [her,cnt_few (by omega)];exact ⟨rfl,E⟩
 ·skip
  refine wp_skip ?_
  refine hK2 _ _ ?_
  clear hK2
  refine wp_seq_k fun K4 hK4=>?_
  refine wp_seq_k fun K5 hK5=>?_
  refine wp_region_lit ?_
  refine F.mv ?_;clear F fa;intro fa F
  refine F.vl (R_len rfl rfl (F.at rfl) Try.underlying25) ?_;clear F fa;intro fa F
  refine F.vl (R_field rfl (F.at rfl) Try.underlying80 rfl (n:=0) (sz:=4) rfl (by kernel_rfl) (by decide)) ?_;clear F fa;intro fa F
  refine F.vl (R_field rfl (F.at rfl) Try.underlying24 rfl (n:=1) (sz:=1) rfl (by kernel_rfl) (by decide)) ?_;clear F fa;intro fa F
  refine F.vl (R_load rfl (F.at rfl) Try.underlying22 rfl ((cells_of_block q2 1).trans (getS (get0)))) ?_;clear F fa;intro fa F
  refine F.vl (R_len rfl rfl (F.at rfl) Try.underlying22) ?_;clear F fa;intro fa F
  refine F.vl (R_gtr rfl (F.at rfl) (F.at rfl)) ?_;clear F fa;intro fa F
  refine wpList_nil ?_
  refine hK5 _ _ ?_
  clear hK5
  refine cd_if F rfl (fun hc22=>?_) (fun hc22=>?_)
  ·skip
   refine wp_region_lit ?_
   refine F.vl ((R_mkIface rfl (ev_c fa _) Try.underlying126)) ?_;clear F fa;intro fa F
   refine sq_raise rfl (R_panic rfl (F.at rfl)) ?_
   (try simp only [Exit.inBlock,Exit.then,Exit.jump,reduceIte])
   refine ⟨F.ds,?_⟩
   rw [her,cnt_many (by omega)];exact ⟨rfl,E⟩
  ·skip
   refine wp_skip ?_
   refine hK4 _ _ ?_
   clear hK4
   refine wp_seq_k fun K6 hK6=>?_
   refine wp_seq_k fun K7 hK7=>?_
   refine wp_region_lit ?_
   refine F.mv ?_;clear F fa;intro fa F
   refine F.vl (R_len rfl rfl (F.at rfl) Try.underlying25) ?_;clear F fa;intro fa F
   refine F.vl (R_move rfl (ev_c fa _)) ?_;clear F fa;intro fa F
   refine wpList_nil ?_
   refine hK7 _ _ ?_
   clear hK7
   refine wp_block ?_
   have F0:=F.sub (.c 1 rfl (.c 4 rfl (.c 24 rfl (.c 25 rfl .n))))
   refine lp_for F0 (l.length) (fun i Lv W=>Lv = [(26,.int .i64 ((i : Nat) : Int))] ∧ Ext [] w W ∧ W.heap[n2]? = some (.cells #[.int .i64 x.B,.slice x.da x.D.length x.dc,.slice x.la x.L.length x.lc,.int .i64 x.tol] 80 (0,0)) ∧ W.heap[n4]? = some (.cells #[.int .i64 0,.int .i64 0,.int .i64 0,.int .i64 0] 83 (0,0)) ∧ RowKit.Hid (∀ j,j < i → outB (l.getD j 0) 0 6 = false)) ⟨_,⟨rfl,E,q2,q4,Lib.hid (fun j hj=>absurd hj (by omega))⟩,F.sub (.c 26 rfl (.c 1 rfl (.c 4 rfl (.c 24 rfl (.c 25 rfl .n)))))⟩ ?_
   clear F F0
   clear E q2 q4
   rintro i _ fa w3 hi1 ⟨rfl,E,q2,q4,hb⟩ F
   refine wp_seq_k fun K8 hK8=>?_
   refine wp_region_lit ?_
   refine F.vl (R_lss rfl (F.at rfl) (F.at rfl)) ?_;clear F fa;intro fa F
   refine wpList_nil ?_
   refine hK8 _ _ ?_
   clear hK8
   refine wp_seq_k fun K9 hK9=>?_
   refine cd_if F rfl (fun hc27=>?_) (fun hc27=>?_)
   ·skip
    refine wp_skip ?_
    refine hK9 _ _ ?_
    clear hK9
    refine wp_seq_k fun K10 hK10=>?_
    refine wp_block ?_
    refine wp_seq_k fun K11 hK11=>?_
    refine wp_region_lit ?_
    obtain ⟨xb12,xo12,xa12,xr12⟩:=HS.out i (by omega)
    refine F.vl (R_ixSlice (sz:=1) rfl ((F.at rfl).trans (xa12 _ _)) (F.at rfl) Try.underlying25 (by kernel_rfl) (by omega) (by omega)) ?_;clear F fa;intro fa F
    refine F.vl (R_load rfl (F.at rfl) Try.underlying3 rfl (xr12 _ E 0 _ rfl)) ?_;clear F fa;intro fa F
    refine F.as ?_;clear F fa;intro fa F
    refine wpList_nil ?_
    refine hK11 _ _ ?_
    clear hK11
    refine wp_seq_k fun K13 hK13=>?_
    by_cases ho : outB (l.getD i 0) 0 6 = true
    ·skip
     refine wp_region_lit ?_
     refine F.mv ?_;clear F fa;intro fa F
     refine sq_call F rfl (by decide) rfl (R_callV rfl rfl Try.call99 (mpS (F.at rfl) (mpS (ev_c fa _) (mpS (ev_c fa _) mp0)))) (outside_any (l.getD i 0) 0 6 _) fun e w4 hR=>?_
     obtain ⟨rfl,e9⟩:=hR
     refine ⟨_,rfl,?_⟩;clear F fa;intro fa F
     replace q2:=(e9).keep0 q2
     replace q4:=(e9).keep0 q4
     replace E:=ext_same E (e9)
     clear e9
     rw [ho] at F
     refine wpList_nil ?_
     refine hK13 _ _ ?_
     clear hK13
     refine cd_T F rfl ?_
     refine wp_region_lit ?_
     refine F.vl ((R_mkIface rfl (ev_c fa _) Try.underlying126)) ?_;clear F fa;intro fa F
     refine sq_raise rfl (R_panic rfl (F.at rfl)) ?_
     (try simp only [Exit.inBlock,Exit.then,Exit.jump,reduceIte])
     refine ⟨F.ds,?_⟩
     rw [her,cnt_out (by omega) (by omega) ho];exact ⟨rfl,E⟩
    ·skip
     refine wp_region_lit ?_
     refine F.mv ?_;clear F fa;intro fa F
     refine sq_call F rfl (by decide) rfl (R_callV rfl rfl Try.call99 (mpS (F.at rfl) (mpS (ev_c fa _) (mpS (ev_c fa _) mp0)))) (outside_any (l.getD i 0) 0 6 _) fun e w5 hR=>?_
     obtain ⟨rfl,e9⟩:=hR
     refine ⟨_,rfl,?_⟩;clear F fa;intro fa F
     replace q2:=(e9).keep0 q2
     replace q4:=(e9).keep0 q4
     replace E:=ext_same E (e9)
     clear e9
     rw [show outB (l.getD i 0) 0 6 = false by simpa using ho] at F
     refine wpList_nil ?_
     refine hK13 _ _ ?_
     clear hK13
     refine cd_F F rfl ?_
     refine wp_skip ?_
     refine hK10 _ _ ?_
     clear hK10
     refine wp_region_lit ?_
     refine F.vl (R_add rfl (F.at rfl) (ev_c fa _) (by omega) (by omega)) ?_;clear F fa;intro fa F
     refine F.mv ?_;clear F fa;intro fa F
     refine wpList_nil ?_
     show _ ∧ _
     exact ⟨by omega,_,⟨rfl,E,q2,q4,Lib.hid (fun j hj=>(by rcases Nat.lt_or_ge j i with h | h;exact hb.out j h;rw [show j = i by omega];simpa using ho))⟩,F.sub (.c 26 rfl (.c 1 rfl (.c 4 rfl (.c 24 rfl (.c 25 rfl .n)))))⟩
   ·skip
    refine wp_exit ?_
    have HB:=Lib.hid (fun n (hn : n ∈ l)=>(by obtain ⟨k,hk,rfl⟩:=List.getElem_of_mem hn;have:=hb.out k (by omega);rw [List.getD_eq_getElem?_getD,List.getElem?_eq_getElem hk] at this;exact outB_no.1 this : 0 ≤ n ∧ n ≤ 6))
    have hpr : prt (val l) = l.sum:=sumTo_list l 4 (by omega)
    have HT:=Lib.hid (fun k (_ : k < 4)=>(by have:=val_bd HB.out (by omega) (by omega) k;omega : 0 ≤ val l k ∧ val l k ≤ 1000))
    have hcz : cntE l x.D.length 6 = 0:=cnt_in (by omega) HB.out
    rw [if_neg (by simpa using hcz)] at her
    refine hK6 _ _ ?_
    clear hK6
    refine wp_seq_k fun K14 hK14=>?_
    refine wp_region_lit ?_
    refine sq_new F rfl (by decide) rfl (R_alloc rfl Try.zeroValue83) ?_;clear F fa;intro fa w6 F hw
    obtain ⟨n7,hn⟩ : ∃ n,n = w3.heap.size:=⟨_,rfl⟩
    rw [← hn] at F
    have s7 : w3.heap.size ≤ n7:=Nat.le_of_eq hn.symm
    have l7_E : w.heap.size ≤ n7:=by rw [hn];exact E.size
    have m7_2 : n2 < n7:=by rw [hn];exact blk_lt q2
    have m7_4 : n4 < n7:=by rw [hn];exact blk_lt q4
    replace q2:=keep_alloc hw q2
    replace q4:=keep_alloc hw q4
    replace E:=ext_alloc E hw
    have q7:=new_row hw hn
    clear hw hn
    refine wpList_nil ?_
    replace q7 : w6.heap[n7]? = some (.cells (tubC zf) 83 (0,0)):=q7
    refine hK14 _ _ ?_
    clear hK14
    refine wp_seq_k fun K15 hK15=>?_
    refine wp_region_lit ?_
    refine F.vl ((R_sliceAll (n:=4) rfl (F.at rfl) (by kernel_rfl) (by kernel_rfl) (by kernel_rfl))) ?_;clear F fa;intro fa F
    refine F.mv ?_;clear F fa;intro fa F
    have hlr2:=HR.out.ext E (by simp)
    obtain ⟨sb,so,hsa,-,-⟩:=hlr2.range rfl (by intro e;have hq:=congrArg List.length e;rw [List.length_map,List.length_nil] at hq;omega)
    rw [hsa] at hlr2
    have hcd : ∀ j,j < l.length → (w6.cell? ⟨n7,0 + j,none⟩).isSome = true:=fun j hj=>(by have:=tub_at q7 (i:=(j : Int)) (k:=j) rfl (by omega);rw [Nat.mul_one,Int.toNat_natCast] at this;rw [this];rfl)
    refine sq_new F rfl (by decide) rfl (R_copy (l.map (Value.int .i64)) rfl (F.at rfl) ((F.at rfl).trans (congrArg (fun z=>Value.slice z _ _) hsa)) Try.underlying25 (by kernel_rfl) (by rw [List.length_map];exact (Nat.min_eq_left (by omega)).symm) (copy_src hlr2) (by rw [List.length_map];exact hcd) (by rw [List.length_map];exact fun j _=>free_of_block q7 _) (ints_one _)) ?_;clear F fa;intro fa w7 F hw
    replace q2:=keep_cells hw q2 (by omega)
    replace q4:=keep_cells hw q4 (by omega)
    replace q7:=put_tub4 hw q7 (by omega)
    replace E:=ext_cells E hw (fun h=>by first | exact absurd h (by omega) | simp)
    clear hw
    refine wpList_nil ?_
    refine hK15 _ _ ?_
    clear hK15
    refine wp_seq_k fun K16 hK16=>?_
    refine wp_region_lit ?_
    refine F.vl (R_loadBlk rfl (F.at rfl) Try.underlying83 rfl (by kernel_rfl) q7) ?_;clear F fa;intro fa F
    refine sq_call F rfl (by decide) rfl (R_callV rfl rfl Try.call61 (mpS (F.at rfl) mp0)) (parts_any (val l) HT.out _) fun e w8 hR=>?_
    obtain ⟨rfl,e9⟩:=hR
    refine ⟨_,rfl,?_⟩;clear F fa;intro fa F
    replace q2:=(e9).keep0 q2
    replace q4:=(e9).keep0 q4
    replace q7:=(e9).keep0 q7
    replace E:=ext_same E (e9)
    clear e9
    rw [hpr] at F
    refine sq_call F rfl (by decide) rfl (R_callV rfl rfl Try.call100 (mpS (F.at rfl) (mpS (ev_c fa _) mp0))) (sized_any l.sum 6 _) fun e w9 hR=>?_
    obtain ⟨rfl,e9⟩:=hR
    refine ⟨_,rfl,?_⟩;clear F fa;intro fa F
    replace q2:=(e9).keep0 q2
    replace q4:=(e9).keep0 q4
    replace q7:=(e9).keep0 q7
    replace E:=ext_same E (e9)
    clear e9
    rw [← her] at F
    refine sq_panic rfl (R_callV rfl rfl Try.call97 (mpS (F.at rfl) mp0)) (must_bad er he _) fun e w10 hR=>?_
    obtain ⟨rfl,e9⟩:=hR
    refine ⟨_,rfl,?_⟩
    replace q2:=(e9).keep0 q2
    replace q4:=(e9).keep0 q4
    replace q7:=(e9).keep0 q7
    replace E:=ext_same E (e9)
    (try simp only [Exit.inBlock,Exit.then,Exit.jump,reduceIte])
    refine ⟨F.ds,?_⟩
    exact ⟨rfl,E⟩
end Go.Proofs.Ytdjeecgddbjbeaa
namespace Go.Proofs.Ytdjeecgddbjbeaa
open Go.RowKit Go.Maps Go.WideMaps Go.ChangeShapes
namespace MI
def MapI (w : World) (b m : Nat) (g : Nat → Bool) : Prop:=∃ D : DataW Unit,w.ownsMap Try.prog 3 (plainElem Try.prog 4) b m D ∧ ∀ k : Nat,D.atKey (.int .i64 k) (.lit (.bool false)) = .lit (.bool (g k))
theorem MapI.kept {w w' : World} {b m : Nat} {g : Nat → Bool} {row : Option Nat} (h : MapI w b m g) (hg : w.grownBy w' row) (hr : some b ≠ row) : MapI w' b m g:=by
 obtain ⟨D,h1,h2⟩:=h
 exact ⟨D,h1.kept hg hr,h2⟩
theorem MapI.obj {w : World} {b m : Nat} {g : Nat → Bool} (h : MapI w b m g) : ∃ es clock,w.heap[b]? = some (.map es clock):=by
 obtain ⟨D,⟨es,clock,hb,-⟩,-⟩:=h
 exact ⟨es,clock,hb⟩
theorem MapI.ne {w : World} {b c m : Nat} {g : Nat → Bool} (h : MapI w b m g) {o : Obj} (H : w.heap[c]? = some o) (ho : ∀ es k,o ≠ .map es k) : b ≠ c:=by
 intro e
 obtain ⟨es,k,hb⟩:=h.obj
 subst e
 rw [H] at hb
 exact ho es k (by simpa using hb)
theorem map_alloc {w w2 : World} {o : Obj} {b m : Nat} {g : Nat → Bool} (e : w2 = w.alloc o) (h : MapI w b m g) : MapI w2 b m g:=by rw [e];exact h.kept (World.grownBy_alloc w o none) (by simp)
theorem map_cells {w w2 : World} {b c off m : Nat} {l : List Value} {g : Nat → Bool} {cs : Array Value} {T : TypeId} {fz : Nat × Nat} (e : w2 = w.setCells c off l) (h : MapI w b m g) (H : w.heap[c]? = some (.cells cs T fz)) : MapI w2 b m g:=by
 have hbc:=h.ne H (fun _ _ h=>by cases h)
 obtain ⟨D,⟨es,clock,hb,h3,h4,h5⟩,h2⟩:=h
 exact ⟨D,⟨es,clock,keep_cells e hb hbc,h3,h4,h5⟩,h2⟩
theorem map_cell {w w2 : World} {b c off m : Nat} {v : Value} {g : Nat → Bool} {cs : Array Value} {T : TypeId} {fz : Nat × Nat} (e : w2 = w.setCell ⟨c,off,none⟩ v) (h : MapI w b m g) (H : w.heap[c]? = some (.cells cs T fz)) : MapI w2 b m g:=by
 have hbc:=h.ne H (fun _ _ h=>by cases h)
 obtain ⟨D,⟨es,clock,hb,h3,h4,h5⟩,h2⟩:=h
 exact ⟨D,⟨es,clock,keep_cell e hb hbc,h3,h4,h5⟩,h2⟩
theorem map_ext {w w2 : World} {b m : Nat} {g : Nat → Bool} (h : MapI w b m g) (e : Ext [] w w2) : MapI w2 b m g:=h.kept (grown_of_ext e) (by simp)
theorem map_own {w w2 : World} {b base n size m : Nat} {e : TypeId} {v : Value} {xs : List Value} {g : Nat → Bool} (h : MapI w b m g) (ho : w.ownsRow base e size v n xs) (hg : w.grownBy w2 v.ownBlock) : MapI w2 b m g:=by
 refine h.kept hg ?_
 rcases ho.2 with ⟨rfl,_⟩ | ⟨g,cap,cur,rfl,_,hgb,_⟩
 ·simp [Value.ownBlock]
 ·intro e
  exact h.ne hgb (fun _ _ h=>by cases h) (by simpa [Value.ownBlock] using e)
theorem map_put {w w2 : World} {b D m : Nat} {g : Nat → Bool} {d : Option (List Deferred)} {o' : Obj} (e : w2 = w.putObj D o') (hD : w.heap[D]? = some (.deferred d)) (h : MapI w b m g) : MapI w2 b m g:=by
 rw [e]
 exact h.kept (grownBy_putObj' w D o') (fun e=>h.ne hD (fun _ _ h=>by cases h) (by simpa using e))
theorem map_made (w : World) : MapI (w.alloc (.map #[] 0)) w.heap.size 0 (fun _=>false):=⟨.map [],World.ownsMap_made w _ _ _,fun k=>rfl⟩
theorem keep_map {w w2 : World} {b c m : Nat} {g : Nat → Bool} {cs : Array Value} {T : TypeId} {fz : Nat × Nat} (h : MapI w b m g) (hg : w.grownBy w2 (some b)) (q : w.heap[c]? = some (.cells cs T fz)) : w2.heap[c]? = some (.cells cs T fz):=
 (hg.block c (blk_lt q) (fun e=>h.ne q (fun _ _ h=>by cases h) (by simpa using e.symm))).trans q
theorem owns_map {w w2 : World} {b base n size m : Nat} {e : TypeId} {v : Value} {xs : List Value} {g : Nat → Bool} (h : MapI w b m g) (hg : w.grownBy w2 (some b)) (ho : w.ownsRow base e size v n xs) : w2.ownsRow base e size v n xs:=by
 refine ho.kept hg ?_
 rcases ho.2 with ⟨rfl,_⟩ | ⟨g,cap,cur,rfl,_,hgb,_⟩
 ·exact .inl rfl
 ·exact .inr fun e=>h.ne hgb (fun _ _ h=>by cases h) (by simpa [Value.ownBlock] using e.symm)
end MI
end Go.Proofs.Ytdjeecgddbjbeaa
namespace Go.Proofs.Ytdjeecgddbjbeaa
open Go.RowKit
theorem siz_zero {n m : Int} (h : sizE n m = 0) : n ≠ 0 ∧ n ≤ m:=by
 unfold sizE at h
 split at h <;> (try split at h) <;> omega
theorem dye_nums {B : Int} : ∀ (ds met : List (List Int)),dyeE B met ds = 0 → ∀ d ∈ ds,numE d B 9 = 0
 | [],_,_,_,hd=>by simp at hd
 | e :: ds,met,h,d,hd=>by
  rw [dyeE] at h
  split at h
  ·rename_i h1;exact absurd h h1
  ·rename_i h1
   split at h
   ·cases h
   ·rcases List.mem_cons.1 hd with rfl | hd
    ·exact Classical.not_not.1 h1
    ·exact dye_nums ds _ h d hd
theorem lamp_nums {B : Int} : ∀ (ls : List (List Int)),lampE B ls = 0 → ∀ d ∈ ls,numE d B 3 = 0
 | [],_,_,hd=>by simp at hd
 | e :: ls,h,d,hd=>by
  rw [lampE] at h
  split at h
  ·rename_i h1;exact absurd h h1
  ·rename_i h1
   split at h
   ·cases h
   ·rcases List.mem_cons.1 hd with rfl | hd
    ·exact Classical.not_not.1 h1
    ·exact lamp_nums ls h d hd
theorem chk_vok {x : Vm} (h : chkE x.B (x.D.map (·.2)) (x.L.map (·.2)) x.tol = 0) : VOk x:=by
 have h0:=h
 unfold chkE at h
 split at h
 ·cases h
 rename_i e1
 split at h
 ·rename_i e;exact absurd h e
 rename_i e2
 split at h
 ·rename_i e;exact absurd h e
 rename_i e3
 split at h
 ·rename_i e;exact absurd h e
 rename_i e4
 split at h
 ·rename_i e;exact absurd h e
 rename_i e5
 split at h
 ·cases h
 rename_i e6
 have b:=outB_no.1 (show outB x.B 1 3 = false by simpa using e1)
 have t:=outB_no.1 (show outB x.tol 0 12 = false by simpa using e6)
 have d:=siz_zero (Classical.not_not.1 e2)
 have l:=siz_zero (Classical.not_not.1 e4)
 rw [List.length_map] at d l
 refine ⟨h0,b.1,b.2,by omega,by omega,fun p hp=>?_,by omega,by omega,fun p hp=>?_,t.1,t.2⟩
 ·exact numE_zero (dye_nums _ _ (Classical.not_not.1 e3) _ (List.mem_map.2 ⟨p,hp,rfl⟩))
 ·exact numE_zero (lamp_nums _ (Classical.not_not.1 e5) _ (List.mem_map.2 ⟨p,hp,rfl⟩))
def Vm.err (x : Vm) : Int:=chkE x.B (x.D.map (·.2)) (x.L.map (·.2)) x.tol
end Go.Proofs.Ytdjeecgddbjbeaa
