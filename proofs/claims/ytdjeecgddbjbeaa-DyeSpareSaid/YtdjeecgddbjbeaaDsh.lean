/- The program's Shades. Conditions: all arguments are valid. -/
import Derived.Test.YtdjeecgddbjbeaaDis
namespace Go.Proofs.Ytdjeecgddbjbeaa
open Go.RowKit
set_option linter.unusedVariables false
set_option linter.unusedSimpArgs false
theorem slAt_extX {X : List Nat} {w W : World} {a : Option Addr} {sz n : Nat} {row : Nat → List Value} (h : SlAt [] w a sz n row) (e : Ext X w W) (hX : ∀ b ∈ X, w.heap.size ≤ b) : SlAt [] W a sz n row := fun i hi => by
  obtain ⟨b, off, h1, h2⟩ := h i hi
  refine ⟨b, off, h1, fun V e2 j v hv => ?_⟩
  have h3 := h2 w (Ext.refl _ _) j v hv
  have hb : b < w.heap.size := by
    apply Classical.byContradiction
    intro hn
    rw [World.cell?] at h3
    simp [Array.getElem?_eq_none (show w.heap.size ≤ b by omega)] at h3
  rw [(e.nil e2).cell (a := ⟨b, off + i * sz + j, none⟩) hb (fun hm => by have := hX b hm; omega)]
  exact h3
theorem RowOf.extX {X : List Nat} {w w' : World} {v : Value} {xs : List Int} (h : RowOf w v xs) (e : Ext X w w') (hX : ∀ b ∈ X, w.heap.size ≤ b) : RowOf w' v xs := by
  obtain ⟨a, c, h1, h2⟩ := h
  exact ⟨a, c, h1, h2.ext e hX⟩
theorem Vm.At.extX {X : List Nat} {x : Vm} {w W : World} (h : x.At w) (e : Ext X w W) (hX : ∀ b ∈ X, w.heap.size ≤ b) : x.At W :=
  ⟨⟨slAt_extX h.d.1 e hX, fun p hp => (h.d.2 p hp).extX e hX⟩, ⟨slAt_extX h.l.1 e hX, fun p hp => (h.l.2 p hp).extX e hX⟩⟩
set_option maxRecDepth 100000 in
theorem stable_any (f : FuncId) (cs : Array Value) (c : Int → Int → Int) (p : Int → Prop) (base r n : Nat) (a : Option Addr) (ca : Nat) (l : List Int) (w : World) (hn : l.length = n) (h1 : n < 20) (hp : ∀ m ∈ l, p m) (ho : w.ownsRow base 3 1 (.slice a n ca) n (ivs l)) (hr : ∀ b, (Value.slice a n ca).ownBlock = some b → b = r)
    (hf : ∀ args w, (callFunc f args).run Try.prog w = .ok (.enter f args) w) (hc : ∀ W, Ext [r] w W → ∀ m k, p m → p k → Calls Try.prog f (#[] ++ [Value.int .i64 m, Value.int .i64 k].toArray ++ cs) W fun e W' => e = .returned (.int .i64 (c m k)) ∧ Ext [] W W') :
    Calls Try.prog 114 #[.slice a n ca, .int .i64 ((n : Nat) : Int), .func (.func f) #[] cs] w fun e w' => e = .returned (.tuple #[]) ∧ w'.ownsRow base 3 1 (.slice a n ca) n (ivs (srtL c l)) ∧ Ext [r] w w' := by
  have E : Ext [r] w w := Ext.refl _ _
  have HC := Lib.hid hc
  have HF := Lib.hid hf
  have HP := Lib.hid hp
  have HR := Lib.hid hr
  clear hc hf hp hr
  refine calls_has 63 Try.func114 rfl Try.ntmps114 (Nat.le_of_ble_eq_true rfl) ?_
  intro fa F
  refine wp_seq_k fun K1 hK1 => ?_
  refine wp_region_lit ?_
  refine F.vl (R_assign rfl (ev_c fa _)) ?_; clear F fa; intro fa F
  refine wpList_nil ?_
  refine hK1 _ _ ?_
  clear hK1
  refine wp_seq_k fun K2 hK2 => ?_
  refine wp_region_lit ?_
  refine F.mv ?_; clear F fa; intro fa F
  refine F.vl (R_assign rfl (ev_c fa _)) ?_; clear F fa; intro fa F
  refine F.as ?_; clear F fa; intro fa F
  refine wpList_nil ?_
  refine hK2 _ _ ?_
  clear hK2
  refine wp_seq_k fun K3 hK3 => ?_
  refine wp_block ?_
  have F0 := F.sub (.c 0 rfl (.c 1 rfl (.c 2 rfl (.c 6 rfl .n))))
  refine lp_for F0 (0) (fun i Lv W => Lv = [(7, .int .i64 0), (8, .int .i64 20)] ∧ Ext [r] w W ∧ W.ownsRow base 3 1 (.slice a n ca) n (ivs l)) ⟨_, ⟨rfl, E, ho⟩, F.sub (.c 7 rfl (.c 8 rfl (.c 0 rfl (.c 1 rfl (.c 2 rfl (.c 6 rfl .n))))))⟩ ?_
  clear F F0
  clear E ho
  rintro i _ fa w1 hi1 ⟨rfl, E, ho⟩ F
  refine wp_seq_k fun K4 hK4 => ?_
  refine wp_seq_k fun K5 hK5 => ?_
  refine wp_region_lit ?_
  refine F.mv ?_; clear F fa; intro fa F
  refine F.mv ?_; clear F fa; intro fa F
  refine F.vl (R_leq rfl (F.at rfl) (F.at rfl)) ?_; clear F fa; intro fa F
  refine wpList_nil ?_
  refine hK5 _ _ ?_
  clear hK5
  refine cd_Fb F rfl (decide_eq_false (by omega)) ?_
  refine wp_exit ?_
  refine hK3 _ _ ?_
  clear hK3
  refine wp_seq_k fun K6 hK6 => ?_
  refine wp_region_lit ?_
  refine F.mv ?_; clear F fa; intro fa F
  refine F.mv ?_; clear F fa; intro fa F
  refine F.mv ?_; clear F fa; intro fa F
  refine F.mv ?_; clear F fa; intro fa F
  refine sq_call F rfl (by decide) rfl (R_callV rfl rfl Try.call120 (mpS (F.at rfl) (mpS (F.at rfl) (mpS (F.at rfl) (mpS (F.at rfl) mp0))))) (isort_any f cs c p base r n a ca l _ hn (by omega) HP.out ho HR.out HF.out (fun W e => HC.out W (E.trans e))) fun e w2 hR => ?_
  obtain ⟨rfl, ho2, e9⟩ := hR
  refine ⟨_, rfl, ?_⟩; clear F fa; intro fa F
  replace E := E.trans' e9 (fun i hi hl => by simp only [List.mem_cons, List.not_mem_nil, or_false] at hi ⊢; omega)
  replace ho := ho2
  clear ho2 e9
  refine wpList_nil ?_
  refine hK6 _ _ ?_
  clear hK6
  refine wp_block ?_
  have F0 := F.sub (.c 0 rfl (.c 1 rfl (.c 2 rfl .n)))
  refine lp_for F0 (0) (fun i Lv W => Lv = [(6, .int .i64 20)] ∧ Ext [r] w W ∧ W.ownsRow base 3 1 (.slice a n ca) n (ivs (srtL c l))) ⟨_, ⟨rfl, E, ho⟩, F.sub (.c 6 rfl (.c 0 rfl (.c 1 rfl (.c 2 rfl .n))))⟩ ?_
  clear F F0
  clear E ho
  rintro i _ fa w3 hi2 ⟨rfl, E, ho⟩ F
  refine wp_seq_k fun K7 hK7 => ?_
  refine wp_seq_k fun K8 hK8 => ?_
  refine wp_region_lit ?_
  refine F.mv ?_; clear F fa; intro fa F
  refine F.mv ?_; clear F fa; intro fa F
  refine F.vl (R_lss rfl (F.at rfl) (F.at rfl)) ?_; clear F fa; intro fa F
  refine wpList_nil ?_
  refine hK8 _ _ ?_
  clear hK8
  refine cd_Fb F rfl (decide_eq_false (by omega)) ?_
  refine wp_exit ?_
  (try simp only [Exit.inBlock, Exit.then, reduceIte])
  refine rt_vn F (rs_0 rfl) ?_
  exact ⟨rfl, ho, E⟩
set_option maxRecDepth 100000 in
theorem sortF_any (f : FuncId) (cs : Array Value) (c : Int → Int → Int) (p : Int → Prop) (base r n : Nat) (a : Option Addr) (ca : Nat) (l : List Int) (w : World) (hn : l.length = n) (h1 : n < 20) (hp : ∀ m ∈ l, p m) (ho : w.ownsRow base 3 1 (.slice a n ca) n (ivs l)) (hr : ∀ b, (Value.slice a n ca).ownBlock = some b → b = r)
    (hf : ∀ args w, (callFunc f args).run Try.prog w = .ok (.enter f args) w) (hc : ∀ W, Ext [r] w W → ∀ m k, p m → p k → Calls Try.prog f (#[] ++ [Value.int .i64 m, Value.int .i64 k].toArray ++ cs) W fun e W' => e = .returned (.int .i64 (c m k)) ∧ Ext [] W W') :
    Calls Try.prog 83 #[.slice a n ca, .func (.func f) #[] cs] w fun e w' => e = .returned (.tuple #[]) ∧ w'.ownsRow base 3 1 (.slice a n ca) n (ivs (srtL c l)) ∧ Ext [r] w w' := by
  have E : Ext [r] w w := Ext.refl _ _
  have HC := Lib.hid hc
  have HF := Lib.hid hf
  have HP := Lib.hid hp
  have HR := Lib.hid hr
  clear hc hf hp hr
  refine calls_has 9 Try.func83 rfl Try.ntmps83 (Nat.le_of_ble_eq_true rfl) ?_
  intro fa F
  refine wp_region_lit ?_
  refine F.mv ?_; clear F fa; intro fa F
  refine F.mv ?_; clear F fa; intro fa F
  refine F.vl (R_len rfl rfl (F.at rfl) Try.underlying25) ?_; clear F fa; intro fa F
  refine F.mv ?_; clear F fa; intro fa F
  refine sq_call F rfl (by decide) rfl (R_callV rfl rfl Try.call114 (mpS (F.at rfl) (mpS (F.at rfl) (mpS (F.at rfl) mp0)))) (stable_any f cs c p base r n a ca l _ hn h1 HP.out ho HR.out HF.out (fun W e => HC.out W (E.trans e))) fun e w1 hR => ?_
  obtain ⟨rfl, ho2, e9⟩ := hR
  refine ⟨_, rfl, ?_⟩; clear F fa; intro fa F
  replace E := E.trans' e9 (fun i hi hl => by simp only [List.mem_cons, List.not_mem_nil, or_false] at hi ⊢; omega)
  replace ho := ho2
  clear ho2 e9
  refine wpList_nil ?_
  (try simp only [Exit.inBlock, Exit.then, reduceIte])
  refine rt_vn F (rs_0 rfl) ?_
  exact ⟨rfl, ho, E⟩
/-- Which of two stuffs is lighter under a lamp. -/
def shdE (x : Vm) (T : List (List Int)) (lp : Nat) (j k : Int) : Int :=
  cmpE (prt (val (T.getD k.toNat [])) * dotE (val (x.lamp lp)) (tnE x (val (T.getD j.toNat []))) x.B.toNat) (prt (val (T.getD j.toNat [])) * dotE (val (x.lamp lp)) (tnE x (val (T.getD k.toNat []))) x.B.toNat)
set_option maxRecDepth 100000 in
set_option maxHeartbeats 2000000 in
theorem shades1_ok (x : Vm) (hv : VOk x) (T : List (List Int)) (hT : ∀ t ∈ T, TubS (val t)) (ma : Option Addr) (mc n9 n8 n4 lp : Nat) (j k : Int) (hj0 : 0 ≤ j) (hj : j < T.length) (hk0 : 0 ≤ k) (hk : k < T.length) (hl : lp < x.L.length) (w : World) (h : x.At w)
    (q8 : w.heap[n8]? = some (.cells #[.int .i64 x.B, .slice x.da x.D.length x.dc, .slice x.la x.L.length x.lc, .int .i64 x.tol] 80 (0, 0))) (q9 : w.heap[n9]? = some (.cells #[.slice ma T.length mc] 102 (0, 0))) (q4 : w.heap[n4]? = some (.cells #[.int .i64 ((lp : Nat) : Int)] 3 (0, 0)))
    (hs : SlAt [] w ma 4 T.length (fun i => tubR (val (T.getD i [])))) (h6 : T.length ≤ 6) :
    Calls Try.prog 84 #[.int .i64 j, .int .i64 k, .pointer (some ⟨n9, 0, none⟩), .pointer (some ⟨n8, 0, none⟩), .pointer (some ⟨n4, 0, none⟩)] w fun e w' => e = .returned (.int .i64 (shdE x T lp j k)) ∧ Ext [] w w' := by
  have E : Ext [] w w := Ext.refl _ _
  obtain ⟨j, rfl⟩ := Int.eq_ofNat_of_zero_le hj0
  obtain ⟨k, rfl⟩ := Int.eq_ofNat_of_zero_le hk0
  have HX := Lib.hid h
  have HV := Lib.hid hv
  have HT := Lib.hid hT
  have HS := Lib.hid hs
  have hb1 := hv.b1
  have hb3 := hv.b3
  obtain ⟨bn, hbn⟩ : ∃ bn : Nat, x.B = bn := ⟨x.B.toNat, by omega⟩
  have hbn2 : x.B.toNat = bn := by omega
  have HF : RowKit.Hid (TubS (val (T.getD j []))) := Lib.hid (hT _ (getD_memL [] (by omega)))
  have HG : RowKit.Hid (TubS (val (T.getD k []))) := Lib.hid (hT _ (getD_memL [] (by omega)))
  obtain ⟨f, hf⟩ : ∃ f, f = val (T.getD j []) := ⟨_, rfl⟩
  obtain ⟨g, hg⟩ : ∃ g, g = val (T.getD k []) := ⟨_, rfl⟩
  have h1 := dot_bd hv hl (fun j => tn_bd hv HF.out j) (n := bn) (by omega)
  have h2 := dot_bd hv hl (fun j => tn_bd hv HG.out j) (n := bn) (by omega)
  have h3 := prt_bd HF.out
  have h4 := prt_bd HG.out
  have h5 := mul_bd2 h4.1 h4.2 h1.1 h1.2 (C := 51840) (by omega)
  have h7 := mul_bd2 h3.1 h3.2 h2.1 h2.2 (C := 51840) (by omega)
  have hal : shdE x T lp ((j : Nat) : Int) ((k : Nat) : Int) = cmpE (prt (val (T.getD k [])) * dotE (val (x.lamp lp)) (tnE x (val (T.getD j []))) bn) (prt (val (T.getD j [])) * dotE (val (x.lamp lp)) (tnE x (val (T.getD k []))) bn) := by rw [shdE, hbn2]; rfl
  show Calls _ _ #[.int .i64 ((j : Nat) : Int), .int .i64 ((k : Nat) : Int), _, _, _] _ _
  rw [hal]
  replace hj : j < T.length := by omega
  replace hk : k < T.length := by omega
  clear h hv hT hs hal hj0 hk0 hf hg f g
  refine calls_has 39 Try.func84 rfl Try.ntmps84 (Nat.le_of_ble_eq_true rfl) ?_
  intro fa F
  refine wp_seq_k fun K1 hK1 => ?_
  refine wp_region_lit ?_
  refine F.vl (R_assign rfl (ev_c fa _)) ?_; clear F fa; intro fa F
  refine wpList_nil ?_
  refine hK1 _ _ ?_
  clear hK1
  refine wp_seq_k fun K2 hK2 => ?_
  refine region_x (Ext [] w) none follows fun w1 hh eh => ?_
  have q8_ := q8
  replace q8 := keep_same hh q8
  have q9_ := q9
  replace q9 := keep_same hh q9
  have q4_ := q4
  replace q4 := keep_same hh q4
  have E_ := E
  have zEw1 := E.size
  replace E := ext_same E eh
  have eT := eh
  clear hh eh
  refine F.xr (i := 0) rfl (fun w' hS => R_load rfl (F.at rfl) Try.underlying102 rfl ((cells_of_block (hS.keep q9_ (by simp)) 0).trans (get0))) (fun _ => eT) ?_; clear F fa; intro fa F
  refine F.x (i := 1) rfl (fun w' => R_move rfl (F.at rfl)) (fun _ => eT) ?_; clear F fa; intro fa F
  obtain ⟨xb3, xo3, xa3, xr3⟩ := HS.out k (by omega)
  refine F.x (i := 2) rfl (fun w' => R_ixSlice (sz := 4) rfl ((F.at rfl).trans (xa3 _ _)) (F.at rfl) Try.underlying102 (by kernel_rfl) (by omega) (by omega)) (fun _ => eT) ?_; clear F fa; intro fa F
  refine F.xr (i := 3) rfl (fun w' hS => R_loadRow rfl (F.at rfl) Try.underlying83 rfl (by kernel_rfl) (xr3 _ (E_.nil hS))) (fun _ => eT) ?_; clear F fa; intro fa F
  refine F.xr (i := 5) rfl (fun w' hS => R_loadBlk rfl (F.at rfl) Try.underlying80 rfl (by kernel_rfl) (hS.keep q8_ (by simp))) (fun _ => eT) ?_; clear F fa; intro fa F
  refine F.xr (i := 6) rfl (fun w' hS => R_load rfl (F.at rfl) Try.underlying3 rfl ((cells_of_block (hS.keep q4_ (by simp)) 0).trans (get0))) (fun _ => eT) ?_; clear F fa; intro fa F
  refine F.xr (i := 7) rfl (fun w' hS => R_loadBlk rfl (F.at rfl) Try.underlying80 rfl (by kernel_rfl) (hS.keep q8_ (by simp))) (fun _ => eT) ?_; clear F fa; intro fa F
  refine F.xr (i := 8) rfl (fun w' hS => R_load rfl (F.at rfl) Try.underlying102 rfl ((cells_of_block (hS.keep q9_ (by simp)) 0).trans (get0))) (fun _ => eT) ?_; clear F fa; intro fa F
  refine F.x (i := 9) rfl (fun w' => R_move rfl (F.at rfl)) (fun _ => eT) ?_; clear F fa; intro fa F
  obtain ⟨xb4, xo4, xa4, xr4⟩ := HS.out j (by omega)
  refine F.x (i := 10) rfl (fun w' => R_ixSlice (sz := 4) rfl ((F.at rfl).trans (xa4 _ _)) (F.at rfl) Try.underlying102 (by kernel_rfl) (by omega) (by omega)) (fun _ => eT) ?_; clear F fa; intro fa F
  refine F.xr (i := 11) rfl (fun w' hS => R_loadRow rfl (F.at rfl) Try.underlying83 rfl (by kernel_rfl) (xr4 _ (E_.nil hS))) (fun _ => eT) ?_; clear F fa; intro fa F
  refine F.xr (i := 15) rfl (fun w' hS => R_load rfl (F.at rfl) Try.underlying102 rfl ((cells_of_block (hS.keep q9_ (by simp)) 0).trans (get0))) (fun _ => eT) ?_; clear F fa; intro fa F
  refine F.x (i := 16) rfl (fun w' => R_move rfl (F.at rfl)) (fun _ => eT) ?_; clear F fa; intro fa F
  obtain ⟨xb5, xo5, xa5, xr5⟩ := HS.out j (by omega)
  refine F.x (i := 17) rfl (fun w' => R_ixSlice (sz := 4) rfl ((F.at rfl).trans (xa5 _ _)) (F.at rfl) Try.underlying102 (by kernel_rfl) (by omega) (by omega)) (fun _ => eT) ?_; clear F fa; intro fa F
  refine F.xr (i := 18) rfl (fun w' hS => R_loadRow rfl (F.at rfl) Try.underlying83 rfl (by kernel_rfl) (xr5 _ (E_.nil hS))) (fun _ => eT) ?_; clear F fa; intro fa F
  refine F.xr (i := 20) rfl (fun w' hS => R_loadBlk rfl (F.at rfl) Try.underlying80 rfl (by kernel_rfl) (hS.keep q8_ (by simp))) (fun _ => eT) ?_; clear F fa; intro fa F
  refine F.xr (i := 21) rfl (fun w' hS => R_load rfl (F.at rfl) Try.underlying3 rfl ((cells_of_block (hS.keep q4_ (by simp)) 0).trans (get0))) (fun _ => eT) ?_; clear F fa; intro fa F
  refine F.xr (i := 22) rfl (fun w' hS => R_loadBlk rfl (F.at rfl) Try.underlying80 rfl (by kernel_rfl) (hS.keep q8_ (by simp))) (fun _ => eT) ?_; clear F fa; intro fa F
  refine F.xr (i := 23) rfl (fun w' hS => R_load rfl (F.at rfl) Try.underlying102 rfl ((cells_of_block (hS.keep q9_ (by simp)) 0).trans (get0))) (fun _ => eT) ?_; clear F fa; intro fa F
  refine F.x (i := 24) rfl (fun w' => R_move rfl (F.at rfl)) (fun _ => eT) ?_; clear F fa; intro fa F
  obtain ⟨xb6, xo6, xa6, xr6⟩ := HS.out k (by omega)
  refine F.x (i := 25) rfl (fun w' => R_ixSlice (sz := 4) rfl ((F.at rfl).trans (xa6 _ _)) (F.at rfl) Try.underlying102 (by kernel_rfl) (by omega) (by omega)) (fun _ => eT) ?_; clear F fa; intro fa F
  refine F.xr (i := 26) rfl (fun w' hS => R_loadRow rfl (F.at rfl) Try.underlying83 rfl (by kernel_rfl) (xr6 _ (E_.nil hS))) (fun _ => eT) ?_; clear F fa; intro fa F
  refine ax_only (i := 4) (by kernel_rfl) (op_call F rfl rfl (by decide) rfl (R_callV rfl rfl Try.call61 (mpS (F.at rfl) mp0)) (parts_any (val (T.getD k [])) HG.out.ok _) fun e w2 hR => ?_)
  obtain ⟨rfl, e9⟩ := hR
  refine ⟨_, rfl, ?_⟩; clear F fa; intro fa F
  replace q8 := (e9).keep0 q8
  replace q9 := (e9).keep0 q9
  replace q4 := (e9).keep0 q4
  replace E := ext_same E (e9)
  replace eT := ext_same eT (e9)
  clear e9
  refine ⟨fun _ => eT, ?_⟩
  refine ax_only (i := 12) (by kernel_rfl) (op_call F rfl rfl (by decide) rfl (R_callV rfl rfl Try.call87 (mpS (F.at rfl) (mpS (F.at rfl) mp0))) (sums_ok x HV.out bn hbn (val (T.getD j [])) HF.out _ (HX.out.ext E)) fun e w3 hR => ?_)
  obtain ⟨a20, rfl, oo, e9⟩ := hR
  refine ⟨_, rfl, ?_⟩; clear F fa; intro fa F
  replace q8 := (e9).keep0 q8
  replace q9 := (e9).keep0 q9
  replace q4 := (e9).keep0 q4
  replace E := ext_same E (e9)
  replace eT := ext_same eT (e9)
  clear e9
  refine ⟨fun _ => eT, ?_⟩
  have hrw := rows_of_owns (xs := sumL x (val (T.getD j [])) bn) (row := intRow) (by rw [← ivs_flat, show (sumL x (val (T.getD j [])) bn).length = bn by simp [sumL]]; exact oo) (fun _ => rfl)
  have hll : (sumL x (val (T.getD j [])) bn).length = bn := by simp [sumL]
  have hwe := weigh_ok x HV.out lp hl (sumL x (val (T.getD j [])) bn) (by rw [hll]; omega) (fun n hn => by have := sumL_bd HV.out HF.out bn n hn; omega) a20 bn w3 (HX.out.ext E) (by rw [hll]; exact hrw)
  rw [dot_sumL, hll] at hwe
  refine ax_only (i := 13) (by kernel_rfl) (op_call F rfl rfl (by decide) rfl (R_callV rfl rfl Try.call86 (mpS (F.at rfl) (mpS (F.at rfl) (mpS (F.at rfl) mp0)))) (hwe) fun e w4 hR => ?_)
  obtain ⟨rfl, e9⟩ := hR
  refine ⟨_, rfl, ?_⟩; clear F fa; intro fa F
  replace q8 := (e9).keep0 q8
  replace q9 := (e9).keep0 q9
  replace q4 := (e9).keep0 q4
  replace E := ext_same E (e9)
  replace eT := ext_same eT (e9)
  clear e9
  refine ⟨fun _ => eT, ?_⟩
  clear oo hrw hwe hll
  refine F.x (i := 14) rfl (fun w' => R_mul rfl (F.at rfl) (F.at rfl) (by omega) (by omega)) (fun _ => eT) ?_; clear F fa; intro fa F
  refine ax_only (i := 19) (by kernel_rfl) (op_call F rfl rfl (by decide) rfl (R_callV rfl rfl Try.call61 (mpS (F.at rfl) mp0)) (parts_any (val (T.getD j [])) HF.out.ok _) fun e w5 hR => ?_)
  obtain ⟨rfl, e9⟩ := hR
  refine ⟨_, rfl, ?_⟩; clear F fa; intro fa F
  replace q8 := (e9).keep0 q8
  replace q9 := (e9).keep0 q9
  replace q4 := (e9).keep0 q4
  replace E := ext_same E (e9)
  replace eT := ext_same eT (e9)
  clear e9
  refine ⟨fun _ => eT, ?_⟩
  refine ax_only (i := 27) (by kernel_rfl) (op_call F rfl rfl (by decide) rfl (R_callV rfl rfl Try.call87 (mpS (F.at rfl) (mpS (F.at rfl) mp0))) (sums_ok x HV.out bn hbn (val (T.getD k [])) HG.out _ (HX.out.ext E)) fun e w6 hR => ?_)
  obtain ⟨a28, rfl, oo, e9⟩ := hR
  refine ⟨_, rfl, ?_⟩; clear F fa; intro fa F
  replace q8 := (e9).keep0 q8
  replace q9 := (e9).keep0 q9
  replace q4 := (e9).keep0 q4
  replace E := ext_same E (e9)
  replace eT := ext_same eT (e9)
  clear e9
  refine ⟨fun _ => eT, ?_⟩
  have hrw := rows_of_owns (xs := sumL x (val (T.getD k [])) bn) (row := intRow) (by rw [← ivs_flat, show (sumL x (val (T.getD k [])) bn).length = bn by simp [sumL]]; exact oo) (fun _ => rfl)
  have hll : (sumL x (val (T.getD k [])) bn).length = bn := by simp [sumL]
  have hwe := weigh_ok x HV.out lp hl (sumL x (val (T.getD k [])) bn) (by rw [hll]; omega) (fun n hn => by have := sumL_bd HV.out HG.out bn n hn; omega) a28 bn w6 (HX.out.ext E) (by rw [hll]; exact hrw)
  rw [dot_sumL, hll] at hwe
  refine ax_only (i := 28) (by kernel_rfl) (op_call F rfl rfl (by decide) rfl (R_callV rfl rfl Try.call86 (mpS (F.at rfl) (mpS (F.at rfl) (mpS (F.at rfl) mp0)))) (hwe) fun e w7 hR => ?_)
  obtain ⟨rfl, e9⟩ := hR
  refine ⟨_, rfl, ?_⟩; clear F fa; intro fa F
  replace q8 := (e9).keep0 q8
  replace q9 := (e9).keep0 q9
  replace q4 := (e9).keep0 q4
  replace E := ext_same E (e9)
  replace eT := ext_same eT (e9)
  clear e9
  refine ⟨fun _ => eT, ?_⟩
  clear oo hrw hwe hll
  refine F.x (i := 29) rfl (fun w' => R_mul rfl (F.at rfl) (F.at rfl) (by omega) (by omega)) (fun _ => eT) ?_; clear F fa; intro fa F
  refine ax_only (i := 30) (by kernel_rfl) (op_call F rfl rfl (by decide) rfl (R_callV rfl rfl Try.call85 (mpS (F.at rfl) (mpS (F.at rfl) mp0))) (cmp_any _ _ _) fun e w8 hR => ?_)
  obtain ⟨rfl, e9⟩ := hR
  refine ⟨_, rfl, ?_⟩; clear F fa; intro fa F
  replace q8 := (e9).keep0 q8
  replace q9 := (e9).keep0 q9
  replace q4 := (e9).keep0 q4
  replace E := ext_same E (e9)
  replace eT := ext_same eT (e9)
  clear e9
  refine ⟨fun _ => eT, ?_⟩
  refine F.x (i := 31) rfl (fun w' => R_assign rfl (F.at rfl)) (fun _ => eT) ?_; clear F fa; intro fa F
  refine ax_done (by kernel_rfl) ?_ _
  clear eT q8_ q9_ q4_ E_
  refine hK2 _ _ ?_
  clear hK2
  refine wp_ret ?_
  (try simp only [Exit.inBlock, Exit.then, reduceIte])
  refine rt_v F (rs_1 F rfl rfl) ?_
  exact ⟨rfl, E⟩
end Go.Proofs.Ytdjeecgddbjbeaa
