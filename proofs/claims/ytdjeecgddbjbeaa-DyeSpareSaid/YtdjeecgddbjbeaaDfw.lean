/- The program's Fewest. Conditions: all arguments are valid. -/
import Derived.Test.YtdjeecgddbjbeaaDof
namespace Go.Proofs.Ytdjeecgddbjbeaa
open Go.RowKit
set_option linter.unusedVariables false
set_option linter.unusedSimpArgs false
section
variable {α : Type} (g : α → Nat → Int) (c : α → Int × Int)
/-- One thing more. -/
def offO : Option α → α → Option α
  | none, t => some t
  | some u, t => if cmpL [(c t).1, (c t).2] [(c u).1, (c u).2] < 0 then some t else some u
/-- The first one of those that cost least. -/
def pickO (l : List α) : Option α := l.foldl (offO c) none
def nearO : Option α → Array Value
  | none => nearC zf 0 0 false
  | some t => nearC (g t) (c t).1 (c t).2 true
theorem pick_snoc (l : List α) (t : α) : pickO c (l ++ [t]) = offO c (pickO c l) t := by simp [pickO]
end
theorem offer_any {α : Type} (g : α → Nat → Int) (c : α → Int × Int) (nb : Nat) (o : Option α) (t : α) (w : World) (hq : w.heap[nb]? = some (.cells (nearO g c o) 88 (0, 0))) :
    Calls Try.prog 60 #[.pointer (some ⟨nb, 0, none⟩), .agg #[.int .i64 (g t 0), .int .i64 (g t 1), .int .i64 (g t 2), .int .i64 (g t 3)], .agg #[.int .i64 (c t).1, .int .i64 (c t).2]] w fun e w' => e = .returned (.tuple #[]) ∧ w'.heap[nb]? = some (.cells (nearO g c (offO c o t)) 88 (0, 0)) ∧ Ext [nb] w w' := by
  cases o with
  | none => exact offer_new nb zf (g t) 0 0 (c t).1 (c t).2 w hq
  | some u =>
    refine Calls.mono (offer_old nb (g u) (g t) (c u).1 (c u).2 (c t).1 (c t).2 w hq) ?_
    rintro e w' ⟨h1, h2, h3⟩
    refine ⟨h1, ?_, h3⟩
    rw [h2, offO]
    split <;> rfl
/-- The dyes of a recipe. -/
def dyeN (f : Nat → Int) (n : Nat) : Int := sumTo (fun k => min (f k) 1) n
def cF (t : List Int) : Int × Int := (dyeN (val t) 4, prt (val t))
/-- The fewest dyes, or an error. -/
def fewR (x : Vm) (s : Nat → Int) (ls : List Int) : List Int × Int := match pickO cF (matL x s ls) with
  | none => ([], 11)
  | some t => (cutL (val t) x.D.length, 0)
/-- A call that returns numbers of its own, and an error. -/
def IntsPost (r : List Int × Int) (w : World) (e : Ending) (w' : World) : Prop := ∃ a c, e = .returned (.tuple #[.slice a r.1.length c, .int .i64 r.2]) ∧ w'.ownsRow w.heap.size 3 1 (.slice a r.1.length c) r.1.length (ivs r.1) ∧ Ext [] w w'
theorem pick_mem {α : Type} {c : α → Int × Int} {l : List α} {t : α} (h : pickO c l = some t) : t ∈ l := by
  have key : ∀ (l : List α) (o : Option α), l.foldl (offO c) o = some t → t ∈ l ∨ o = some t := by
    intro l
    induction l with
    | nil => intro o h; exact .inr h
    | cons x l ih =>
      intro o h
      rcases ih _ h with h | h
      · exact .inl (List.mem_cons_of_mem _ h)
      · cases o with
        | none => cases h; exact .inl (List.mem_cons_self ..)
        | some u =>
          rw [offO] at h
          split at h
          · cases h; exact .inl (List.mem_cons_self ..)
          · exact .inr h
  rcases key l none h with h | h
  · exact h
  · cases h
theorem cutL_len (f : Nat → Int) (n : Nat) : (cutL f n).length = n := by simp [cutL]
theorem mat_mem {x : Vm} (hv : VOk x) {s : Nat → Int} {ls : List Int} {t : List Int} (h : t ∈ matL x s ls) : t.length = x.D.length ∧ TubS (val t) := by
  have hm := (List.mem_filter.1 h).1
  have h2 := (recL_all x.D.length (by have := hv.d4; omega)).2 t hm
  exact ⟨h2.1, h2.2.1⟩
theorem mat_len {x : Vm} (hv : VOk x) {s : Nat → Int} {ls : List Int} : (matL x s ls).length ≤ 500 := Nat.le_trans (List.length_filter_le _ _) (recL_len x.D.length (by have := hv.d4; omega))
theorem getD_memL {α : Type} (d : α) {l : List α} {i : Nat} (h : i < l.length) : l.getD i d ∈ l := by rw [List.getD_eq_getElem?_getD, List.getElem?_eq_getElem h]; exact List.getElem_mem h
theorem slAt_of_tubs {w : World} {base n c : Nat} {a : Option Addr} {T : List (List Int)} (h : w.ownsRow base 83 4 (.slice a n c) n (tubsV T)) (hn : n = T.length) (X : List Nat) (hX : ∀ b ∈ X, b < base) : SlAt X w a 4 T.length (fun i => tubR (val (T.getD i []))) := slAt_of_owns (row := fun t : List Int => tubR (val t)) h hn (fun _ => rfl) X hX []
set_option maxRecDepth 100000 in
set_option maxHeartbeats 1000000 in
theorem xFewest_ok (x : Vm) (hv : VOk x) (s : List Int) (hs : SmpOk x s) (ls : List Int) (hl : LmpsOk x ls) (hll : ls.length ≤ 1000) (a b : Option Addr) (c d : Nat) (w : World) (h : x.At w) (hr : IsRows w (.slice a s.length c) 1 (s.map intRow)) (hq : IsRows w (.slice b ls.length d) 1 (ls.map intRow)) :
    Calls Try.prog 39 #[.agg #[.int .i64 x.B, .slice x.da x.D.length x.dc, .slice x.la x.L.length x.lc, .int .i64 x.tol], .slice a s.length c, .slice b ls.length d] w (IntsPost (fewR x (val s) ls) w) := by
  have E : Ext [] w w := Ext.refl _ _
  have HX := Lib.hid h
  have HV := Lib.hid hv
  have HR := Lib.hid hr
  have HQ := Lib.hid hq
  have HL := Lib.hid hl
  have HS := Lib.hid hs
  have hd4 := hv.d4
  obtain ⟨T, hT⟩ : ∃ T, T = matL x (val s) ls := ⟨_, rfl⟩
  have HM : RowKit.Hid (∀ t ∈ T, t.length = x.D.length ∧ TubS (val t)) := Lib.hid (fun t ht => mat_mem hv (by rw [← hT]; exact ht))
  have htl : T.length ≤ 500 := by rw [hT]; exact mat_len hv
  clear h hv hr hq hl hs
  refine calls_hasM 55 Try.func39 rfl Try.ntmps39 (Nat.le_of_ble_eq_true rfl) ?_
  intro fa F
  refine wp_seq_k fun K1 hK1 => ?_
  refine wp_region_lit ?_
  refine sq_new F rfl (by decide) rfl (R_box rfl (F.at rfl)) ?_; clear F fa; intro fa w1 F hw
  obtain ⟨n3, hn⟩ : ∃ n, n = w.heap.size := ⟨_, rfl⟩
  rw [← hn] at F
  have s3 : w.heap.size ≤ n3 := Nat.le_of_eq hn.symm
  have l3_E : w.heap.size ≤ n3 := by rw [hn]; exact E.size
  replace E := ext_alloc E hw
  have q3 := new_row hw hn
  clear hw hn
  refine F.vl (R_assign rfl (ev_c fa _)) ?_; clear F fa; intro fa F
  refine sq_new F rfl (by decide) rfl (R_alloc rfl Try.zeroValue35) ?_; clear F fa; intro fa w2 F hw
  obtain ⟨n7, hn⟩ : ∃ n, n = w1.heap.size := ⟨_, rfl⟩
  rw [← hn] at F
  have s7 : w1.heap.size ≤ n7 := Nat.le_of_eq hn.symm
  have l7_E : w.heap.size ≤ n7 := by rw [hn]; exact E.size
  have m7_3 : n3 < n7 := by rw [hn]; exact blk_lt q3
  replace q3 := keep_alloc hw q3
  replace E := ext_alloc E hw
  have q7 := new_one hw rfl hn
  clear hw hn
  refine wpList_nil ?_
  refine hK1 _ _ ?_
  clear hK1
  refine wp_seq_k fun K2 hK2 => ?_
  refine wp_region_lit ?_
  refine sq_defer F rfl rfl (R_defer rfl rfl (mpS (F.at rfl) mp0)) ?_; clear F fa; intro fa F
  refine wpList_nil ?_
  refine hK2 _ _ ?_
  clear hK2
  refine wp_seq_k fun K3 hK3 => ?_
  refine wp_region_lit ?_
  refine F.vl (R_loadBlk rfl (F.at rfl) Try.underlying24 rfl (by kernel_rfl) q3) ?_; clear F fa; intro fa F
  refine sq_call F rfl (by decide) rfl (R_callV rfl rfl Try.call54 (mpS (F.at rfl) mp0)) (begin_ok x HV.out _ (HX.out.ext E)) fun e w3 hR => ?_
  obtain ⟨rfl, e9⟩ := hR
  refine ⟨_, rfl, ?_⟩; clear F fa; intro fa F
  replace q3 := (e9).keep0 q3
  replace q7 := (e9).keep0 q7
  replace E := ext_same E (e9)
  clear e9
  refine sq_new F rfl (by decide) rfl (R_alloc rfl Try.zeroValue80) ?_; clear F fa; intro fa w4 F hw
  obtain ⟨n8, hn⟩ : ∃ n, n = w3.heap.size := ⟨_, rfl⟩
  rw [← hn] at F
  have s8 : w3.heap.size ≤ n8 := Nat.le_of_eq hn.symm
  have l8_E : w.heap.size ≤ n8 := by rw [hn]; exact E.size
  have m8_3 : n3 < n8 := by rw [hn]; exact blk_lt q3
  have m8_7 : n7 < n8 := by rw [hn]; exact blk_lt q7
  replace q3 := keep_alloc hw q3
  replace q7 := keep_alloc hw q7
  replace E := ext_alloc E hw
  have q8 := new_row hw hn
  clear hw hn
  refine sq_to rfl rfl (R_storeRow rfl (F.at rfl) (F.at rfl) (by kernel_rfl) (by first | (simp [Value.oneCell']; done) | (simp [Value.oneCell', tubR]; done)) q8 rfl) ?_; intro w5 hw
  replace q3 := keep_cells hw q3 (by omega)
  replace q7 := keep_cells hw q7 (by omega)
  replace q8 := put_row hw q8 rfl
  replace E := ext_cells E hw (fun h => by first | exact absurd h (by omega) | simp)
  clear hw
  refine wpList_nil ?_
  refine hK3 _ _ ?_
  clear hK3
  refine wp_seq_k fun K4 hK4 => ?_
  refine wp_region_lit ?_
  refine F.vl (R_loadBlk rfl (F.at rfl) Try.underlying80 rfl (by kernel_rfl) q8) ?_; clear F fa; intro fa F
  refine F.mv ?_; clear F fa; intro fa F
  refine sq_call F rfl (by decide) rfl (R_callV rfl rfl Try.call56 (mpS (F.at rfl) (mpS (F.at rfl) mp0))) (sample_ok x HV.out s HS.out a c _ (HR.out.ext E (by simp))) fun e w6 hR => ?_
  obtain ⟨rfl, e9⟩ := hR
  refine ⟨_, rfl, ?_⟩; clear F fa; intro fa F
  replace q3 := (e9).keep0 q3
  replace q7 := (e9).keep0 q7
  replace q8 := (e9).keep0 q8
  replace E := ext_same E (e9)
  clear e9
  refine wpList_nil ?_
  refine hK4 _ _ ?_
  clear hK4
  refine wp_seq_k fun K5 hK5 => ?_
  refine wp_region_lit ?_
  refine F.vl (R_loadBlk rfl (F.at rfl) Try.underlying80 rfl (by kernel_rfl) q8) ?_; clear F fa; intro fa F
  refine F.mv ?_; clear F fa; intro fa F
  refine sq_call F rfl (by decide) rfl (R_callV rfl rfl Try.call57 (mpS (F.at rfl) (mpS (F.at rfl) mp0))) (lamps_ok x HV.out ls HL.out hll b d _ (HX.out.ext E) (HQ.out.ext E (by simp))) fun e w7 hR => ?_
  obtain ⟨rfl, e9⟩ := hR
  refine ⟨_, rfl, ?_⟩; clear F fa; intro fa F
  replace q3 := (e9).keep0 q3
  replace q7 := (e9).keep0 q7
  replace q8 := (e9).keep0 q8
  replace E := ext_same E (e9)
  clear e9
  refine wpList_nil ?_
  refine hK5 _ _ ?_
  clear hK5
  refine wp_seq_k fun K6 hK6 => ?_
  refine wp_region_lit ?_
  refine sq_new F rfl (by decide) rfl (R_alloc rfl Try.zeroValue88) ?_; clear F fa; intro fa w8 F hw
  obtain ⟨n9, hn⟩ : ∃ n, n = w7.heap.size := ⟨_, rfl⟩
  rw [← hn] at F
  have s9 : w7.heap.size ≤ n9 := Nat.le_of_eq hn.symm
  have l9_E : w.heap.size ≤ n9 := by rw [hn]; exact E.size
  have m9_3 : n3 < n9 := by rw [hn]; exact blk_lt q3
  have m9_7 : n7 < n9 := by rw [hn]; exact blk_lt q7
  have m9_8 : n8 < n9 := by rw [hn]; exact blk_lt q8
  replace q3 := keep_alloc hw q3
  replace q7 := keep_alloc hw q7
  replace q8 := keep_alloc hw q8
  replace E := ext_alloc E hw
  have q9 := new_row hw hn
  clear hw hn
  refine wpList_nil ?_
  replace q9 : w8.heap[n9]? = some (.cells (nearO val cF (pickO cF (T.take 0))) 88 (0, 0)) := q9
  refine hK6 _ _ ?_
  clear hK6
  refine wp_seq_k fun K7 hK7 => ?_
  refine wp_seq_k fun K8 hK8 => ?_
  refine wp_region_lit ?_
  refine F.vl (R_loadBlk rfl (F.at rfl) Try.underlying80 rfl (by kernel_rfl) q8) ?_; clear F fa; intro fa F
  refine F.mv ?_; clear F fa; intro fa F
  refine F.mv ?_; clear F fa; intro fa F
  have b9 := blk_lt q9
  refine sq_call F rfl (by decide) rfl (R_callV rfl rfl Try.call94 (mpS (F.at rfl) (mpS (F.at rfl) (mpS (F.at rfl) mp0)))) (matching_ok x HV.out s HS.out ls HL.out.2.1 hll a b c d _ (HX.out.ext E) (HR.out.ext E (by simp)) (HQ.out.ext E (by simp))) fun e w9 hR => ?_
  obtain ⟨ma, mc, rfl, om, e9⟩ := hR
  refine ⟨_, rfl, ?_⟩; clear F fa; intro fa F
  replace q3 := (e9).keep0 q3
  replace q7 := (e9).keep0 q7
  replace q8 := (e9).keep0 q8
  replace q9 := (e9).keep0 q9
  replace E := ext_same E (e9)
  clear e9
  rw [← hT] at F om
  have HT := Lib.hid (slAt_of_tubs om rfl [n9] (by simpa using b9))
  clear om
  have E9 : Ext [n9] w9 w9 := Ext.refl _ _
  refine F.vl (R_len rfl rfl (F.at rfl) Try.underlying102) ?_; clear F fa; intro fa F
  refine F.vl (R_move rfl (ev_c fa _)) ?_; clear F fa; intro fa F
  refine wpList_nil ?_
  refine hK8 _ _ ?_
  clear hK8
  refine wp_block ?_
  have F0 := F.sub (.c 7 rfl (.c 8 rfl (.c 9 rfl (.c 26 rfl (.c 27 rfl .n)))))
  refine lp_for F0 (T.length) (fun i Lv W => Lv = [(28, .int .i64 ((i : Nat) : Int))] ∧ Ext [] w W ∧ Ext [n9] w9 W ∧ W.heap[n3]? = some (.cells #[.int .i64 x.B, .slice x.da x.D.length x.dc, .slice x.la x.L.length x.lc, .int .i64 x.tol] 24 (0, 0)) ∧ W.heap[n7]? = some (.cells #[.int .i64 0] 35 (0, 0)) ∧ W.heap[n8]? = some (.cells #[.int .i64 x.B, .slice x.da x.D.length x.dc, .slice x.la x.L.length x.lc, .int .i64 x.tol] 80 (0, 0)) ∧ W.heap[n9]? = some (.cells (nearO val cF (pickO cF (T.take i))) 88 (0, 0))) ⟨_, ⟨rfl, E, E9, q3, q7, q8, q9⟩, F.sub (.c 28 rfl (.c 7 rfl (.c 8 rfl (.c 9 rfl (.c 26 rfl (.c 27 rfl .n))))))⟩ ?_
  clear F F0
  clear E E9 q3 q7 q8 q9
  rintro i _ fa w10 hi1 ⟨rfl, E, E9, q3, q7, q8, q9⟩ F
  refine wp_seq_k fun K9 hK9 => ?_
  refine wp_region_lit ?_
  refine F.vl (R_lss rfl (F.at rfl) (F.at rfl)) ?_; clear F fa; intro fa F
  refine wpList_nil ?_
  refine hK9 _ _ ?_
  clear hK9
  refine wp_seq_k fun K10 hK10 => ?_
  refine cd_if F rfl (fun hc29 => ?_) (fun hc29 => ?_)
  · skip
    refine wp_skip ?_
    refine hK10 _ _ ?_
    clear hK10
    refine wp_seq_k fun K11 hK11 => ?_
    refine wp_block ?_
    refine wp_seq_k fun K12 hK12 => ?_
    refine wp_region_lit ?_
    obtain ⟨xb13, xo13, xa13, xr13⟩ := HT.out i (by omega)
    refine F.vl (R_ixSlice (sz := 4) rfl ((F.at rfl).trans (xa13 _ _)) (F.at rfl) Try.underlying102 (by kernel_rfl) (by omega) (by omega)) ?_; clear F fa; intro fa F
    refine F.vl (R_loadRow rfl (F.at rfl) Try.underlying83 rfl (by kernel_rfl) (xr13 _ E9)) ?_; clear F fa; intro fa F
    refine sq_new F rfl (by decide) rfl (R_alloc rfl Try.zeroValue83) ?_; clear F fa; intro fa w11 F hw
    obtain ⟨n11, hn⟩ : ∃ n, n = w10.heap.size := ⟨_, rfl⟩
    rw [← hn] at F
    have s11 : w10.heap.size ≤ n11 := Nat.le_of_eq hn.symm
    have l11_E : w.heap.size ≤ n11 := by rw [hn]; exact E.size
    have l11_E9 : w9.heap.size ≤ n11 := by rw [hn]; exact E9.size
    have m11_3 : n3 < n11 := by rw [hn]; exact blk_lt q3
    have m11_7 : n7 < n11 := by rw [hn]; exact blk_lt q7
    have m11_8 : n8 < n11 := by rw [hn]; exact blk_lt q8
    have m11_9 : n9 < n11 := by rw [hn]; exact blk_lt q9
    replace q3 := keep_alloc hw q3
    replace q7 := keep_alloc hw q7
    replace q8 := keep_alloc hw q8
    replace q9 := keep_alloc hw q9
    replace E := ext_alloc E hw
    replace E9 := ext_alloc E9 hw
    have q11 := new_row hw hn
    clear hw hn
    refine sq_to rfl rfl (R_storeRow rfl (F.at rfl) (F.at rfl) (by kernel_rfl) (by first | (simp [Value.oneCell']; done) | (simp [Value.oneCell', tubR]; done)) q11 rfl) ?_; intro w12 hw
    replace q3 := keep_cells hw q3 (by omega)
    replace q7 := keep_cells hw q7 (by omega)
    replace q8 := keep_cells hw q8 (by omega)
    replace q9 := keep_cells hw q9 (by omega)
    replace q11 := put_row hw q11 rfl
    replace E := ext_cells E hw (fun h => by first | exact absurd h (by omega) | simp)
    replace E9 := ext_cells E9 hw (fun h => by first | exact absurd h (by omega) | simp)
    clear hw
    refine wpList_nil ?_
    have hts := (HM.out (T.getD i []) (getD_memL [] (by omega))).2
    replace q11 : w12.heap[n11]? = some (.cells (tubC (val (T.getD i []))) 83 (0, 0)) := q11
    refine hK12 _ _ ?_
    clear hK12
    refine wp_seq_k fun K14 hK14 => ?_
    refine wp_region_lit ?_
    refine F.vl (R_assign rfl (ev_c fa _)) ?_; clear F fa; intro fa F
    rw [show (0 : Int) = dyeN (val (T.getD i [])) 0 from rfl] at F
    refine wpList_nil ?_
    refine hK14 _ _ ?_
    clear hK14
    refine wp_seq_k fun K15 hK15 => ?_
    refine wp_seq_k fun K16 hK16 => ?_
    refine wp_region_lit ?_
    refine F.vl (R_loadBlk rfl (F.at rfl) Try.underlying83 rfl (by kernel_rfl) q11) ?_; clear F fa; intro fa F
    refine F.vl (R_move rfl (ev_c fa _)) ?_; clear F fa; intro fa F
    refine wpList_nil ?_
    refine hK16 _ _ ?_
    clear hK16
    refine wp_block ?_
    have F0 := F.sub (.c 7 rfl (.c 8 rfl (.c 9 rfl (.c 11 rfl (.c 26 rfl (.c 27 rfl (.c 28 rfl (.c 32 rfl .n))))))))
    refine lp_for F0 (4) (fun k Lv W => Lv = [(12, .int .i64 (dyeN (val (T.getD i [])) k)), (33, .int .i64 ((k : Nat) : Int))] ∧ Ext [] w W ∧ Ext [n9] w9 W ∧ W.heap[n3]? = some (.cells #[.int .i64 x.B, .slice x.da x.D.length x.dc, .slice x.la x.L.length x.lc, .int .i64 x.tol] 24 (0, 0)) ∧ W.heap[n7]? = some (.cells #[.int .i64 0] 35 (0, 0)) ∧ W.heap[n8]? = some (.cells #[.int .i64 x.B, .slice x.da x.D.length x.dc, .slice x.la x.L.length x.lc, .int .i64 x.tol] 80 (0, 0)) ∧ W.heap[n9]? = some (.cells (nearO val cF (pickO cF (T.take i))) 88 (0, 0)) ∧ W.heap[n11]? = some (.cells (tubC (val (T.getD i []))) 83 (0, 0)) ∧ 0 ≤ dyeN (val (T.getD i [])) k ∧ dyeN (val (T.getD i [])) k ≤ k) ⟨_, ⟨rfl, E, E9, q3, q7, q8, q9, q11, (by simp [dyeN, sumTo])⟩, F.sub (.c 12 rfl (.c 33 rfl (.c 7 rfl (.c 8 rfl (.c 9 rfl (.c 11 rfl (.c 26 rfl (.c 27 rfl (.c 28 rfl (.c 32 rfl .n))))))))))⟩ ?_
    clear F F0
    clear E E9 q3 q7 q8 q9 q11
    rintro k _ fa w13 hi2 ⟨rfl, E, E9, q3, q7, q8, q9, q11, hdn⟩ F
    refine wp_seq_k fun K17 hK17 => ?_
    refine wp_region_lit ?_
    refine F.vl (R_lss rfl (F.at rfl) (ev_c fa _)) ?_; clear F fa; intro fa F
    refine wpList_nil ?_
    refine hK17 _ _ ?_
    clear hK17
    refine wp_seq_k fun K18 hK18 => ?_
    refine cd_if F rfl (fun hc34 => ?_) (fun hc34 => ?_)
    · skip
      refine wp_skip ?_
      refine hK18 _ _ ?_
      clear hK18
      refine wp_seq_k fun K19 hK19 => ?_
      refine wp_block ?_
      refine wp_seq_k fun K20 hK20 => ?_
      refine wp_region_lit ?_
      refine F.vl (R_index rfl (F.at rfl) (F.at rfl) Try.underlying83 (by kernel_rfl) Try.underlying3 rfl (by omega) (by omega) (tub_ix (k := k) rfl (by omega))) ?_; clear F fa; intro fa F
      refine F.as ?_; clear F fa; intro fa F
      refine wpList_nil ?_
      refine hK20 _ _ ?_
      clear hK20
      have hbk := hts k (by omega)
      refine wp_region_lit ?_
      refine F.mv ?_; clear F fa; intro fa F
      refine F.mv ?_; clear F fa; intro fa F
      refine F.vl (R_min rfl rfl (F.at rfl) (ev_c fa _)) ?_; clear F fa; intro fa F
      refine F.vl (R_add rfl (F.at rfl) (F.at rfl) (by omega) (by omega)) ?_; clear F fa; intro fa F
      refine F.as ?_; clear F fa; intro fa F
      rw [show dyeN (val (T.getD i [])) k + min (val (T.getD i []) k) 1 = dyeN (val (T.getD i [])) (k + 1) from rfl] at F
      refine wpList_nil ?_
      refine hK19 _ _ ?_
      clear hK19
      refine wp_region_lit ?_
      refine F.vl (R_add rfl (F.at rfl) (ev_c fa _) (by omega) (by omega)) ?_; clear F fa; intro fa F
      refine F.mv ?_; clear F fa; intro fa F
      refine wpList_nil ?_
      show _ ∧ _
      exact ⟨by omega, _, ⟨rfl, E, E9, q3, q7, q8, q9, q11, (by have := hts k (by omega); have h2 : dyeN (val (T.getD i [])) (k + 1) = dyeN (val (T.getD i [])) k + min (val (T.getD i []) k) 1 := rfl; constructor <;> omega)⟩, F.sub (.c 12 rfl (.c 33 rfl (.c 7 rfl (.c 8 rfl (.c 9 rfl (.c 11 rfl (.c 26 rfl (.c 27 rfl (.c 28 rfl (.c 32 rfl .n))))))))))⟩
    · skip
      refine wp_exit ?_
      rw [show k = 4 by omega] at F
      refine hK15 _ _ ?_
      clear hK15
      refine region_xN (Ext [n9] w13) none follows fun w14 hh eh => ?_
      have q3_ := q3
      replace q3 := keep_same hh q3
      have q7_ := q7
      replace q7 := keep_same hh q7
      have q8_ := q8
      replace q8 := keep_same hh q8
      have q9_ := q9
      replace q9 := keep_same hh q9
      have q11_ := q11
      replace q11 := keep_same hh q11
      have E_ := E
      have zEw14 := E.size
      replace E := ext_same E eh
      have E9_ := E9
      have zE9w14 := E9.size
      replace E9 := ext_same E9 eh
      have eT := eh.mono (Y := [n9]) (by simp)
      clear hh eh
      refine F.xr (i := 0) rfl (fun w' hS => R_loadBlk rfl (F.at rfl) Try.underlying83 rfl (by kernel_rfl) (hS.keep q11_ (by simp; omega))) (fun _ => eT) ?_; clear F fa; intro fa F
      refine F.x (i := 1) rfl (fun w' => R_move rfl (F.at rfl)) (fun _ => eT) ?_; clear F fa; intro fa F
      refine F.xr (i := 2) rfl (fun w' hS => R_loadBlk rfl (F.at rfl) Try.underlying83 rfl (by kernel_rfl) (hS.keep q11_ (by simp; omega))) (fun _ => eT) ?_; clear F fa; intro fa F
      refine ax_only (i := 3) (by kernel_rfl) (op_call F rfl rfl (by decide) rfl (R_callV rfl rfl Try.call61 (mpS (F.at rfl) mp0)) (parts_any (val (T.getD i [])) hts.ok _) fun e w15 hR => ?_)
      obtain ⟨rfl, e9⟩ := hR
      refine ⟨_, rfl, ?_⟩; clear F fa; intro fa F
      replace q3 := (e9).keep0 q3
      replace q7 := (e9).keep0 q7
      replace q8 := (e9).keep0 q8
      replace q9 := (e9).keep0 q9
      replace q11 := (e9).keep0 q11
      replace E := ext_same E (e9)
      replace E9 := ext_same E9 (e9)
      replace eT := ext_same eT (e9)
      clear e9
      refine ⟨fun _ => eT, ?_⟩
      refine F.x (i := 4) rfl (fun w' => R_buildV rfl (prS (F.at rfl) (prS (F.at rfl) pr0)) (cells := #[.int .i64 (dyeN (val (T.getD i [])) 4), .int .i64 (prt (val (T.getD i [])))]) (by kernel_rfl)) (fun _ => eT) ?_; clear F fa; intro fa F
      refine ax_only (i := 5) (by kernel_rfl) (op_call F rfl rfl (by decide) rfl (R_callV rfl rfl Try.call60 (mpS (F.at rfl) (mpS (F.at rfl) (mpS (F.at rfl) mp0)))) (offer_any val cF n9 (pickO cF (T.take i)) (T.getD i []) _ q9) fun e w16 hR => ?_)
      obtain ⟨rfl, q9', e9⟩ := hR
      refine ⟨_, rfl, ?_⟩; clear F fa; intro fa F
      replace q3 := (e9).keep q3 (by simp; omega)
      replace q7 := (e9).keep q7 (by simp; omega)
      replace q8 := (e9).keep q8 (by simp; omega)
      replace q11 := (e9).keep q11 (by simp; omega)
      replace E := E.trans' e9 (fun i hi hl => by simp only [List.mem_cons, List.not_mem_nil, or_false] at hi ⊢; omega)
      replace E9 := E9.trans' e9 (fun i hi hl => by simp only [List.mem_cons, List.not_mem_nil, or_false] at hi ⊢; omega)
      replace eT := eT.trans' e9 (fun i hi hl => by simp only [List.mem_cons, List.not_mem_nil, or_false] at hi ⊢; omega)
      refine ⟨fun _ => eT, ?_⟩
      rw [← pick_snoc, ← take_getD T [] (by omega)] at q9'
      replace q9 := q9'
      clear q9'
      refine ax_doneN (by kernel_rfl) ?_ _
      clear eT q3_ q7_ q8_ q9_ q11_ E_ E9_
      refine hK11 _ _ ?_
      clear hK11
      refine wp_region_lit ?_
      refine F.vl (R_add rfl (F.at rfl) (ev_c fa _) (by omega) (by omega)) ?_; clear F fa; intro fa F
      refine F.mv ?_; clear F fa; intro fa F
      refine wpList_nil ?_
      show _ ∧ _
      exact ⟨by omega, _, ⟨rfl, E, E9, q3, q7, q8, q9⟩, F.sub (.c 28 rfl (.c 7 rfl (.c 8 rfl (.c 9 rfl (.c 26 rfl (.c 27 rfl .n))))))⟩
  · skip
    refine wp_exit ?_
    rw [List.take_of_length_le (show T.length ≤ i by omega)] at q9
    refine hK7 _ _ ?_
    clear hK7
    refine wp_seq_k fun K21 hK21 => ?_
    refine wp_seq_k fun K22 hK22 => ?_
    by_cases hN : pickO cF T = none
    · skip
      replace q9 : w10.heap[n9]? = some (.cells #[.int .i64 (zf 0), .int .i64 (zf 1), .int .i64 (zf 2), .int .i64 (zf 3), .int .i64 0, .int .i64 0, .bool false] 88 (0, 0)) := by rw [hN] at q9; exact q9
      refine wp_region_lit ?_
      refine F.vl (R_field rfl (F.at rfl) Try.underlying88 rfl (n := 6) (sz := 1) rfl (by kernel_rfl) (by decide)) ?_; clear F fa; intro fa F
      refine F.vl (R_load rfl (F.at rfl) Try.underlying4 rfl ((cells_of_block q9 6).trans (getS (getS (getS (getS (getS (getS (get0))))))))) ?_; clear F fa; intro fa F
      refine F.vl (R_not rfl (F.at rfl)) ?_; clear F fa; intro fa F
      refine wpList_nil ?_
      refine hK22 _ _ ?_
      clear hK22
      refine cd_T F rfl ?_
      refine wp_seq_k fun K23 hK23 => ?_
      refine wp_region_lit ?_
      refine F.vl (R_assign rfl (ev_c fa _)) ?_; clear F fa; intro fa F
      refine sq_to rfl rfl (R_store rfl (F.at rfl) (ev_c fa _) rfl (by kernel_rfl) ((cells_of_block q7 0).trans (get0)) (free_of_block q7 0)) ?_; intro w17 hw
      replace q3 := keep_cell hw q3 (by omega)
      replace q7 := put_cell hw q7 (by simp only [List.setIfInBounds_toArray, List.set_cons_succ, List.set_cons_zero]; exact rfl)
      replace q8 := keep_cell hw q8 (by omega)
      replace q9 := keep_cell hw q9 (by omega)
      replace E := ext_cell E hw (fun h => by first | exact absurd h (by omega) | simp)
      clear hw
      refine wpList_nil ?_
      refine hK23 _ _ ?_
      clear hK23
      refine wp_ret ?_
      (try simp only [Exit.inBlock, Exit.then, reduceIte])
      refine rtM_v F ?_
      refine lv_caught ?_
      refine lv_nil (rs_tc F rfl rfl rfl Try.underlying35 rfl q7) ?_
      rw [fewR, ← hT, hN]
      exact ⟨none, 0, rfl, World.ownsRow_nil _ _ _ _, E⟩
    · skip
      obtain ⟨t, ht⟩ := Option.ne_none_iff_exists'.1 hN
      have htm := HM.out t (pick_mem ht)
      replace q9 : w10.heap[n9]? = some (.cells #[.int .i64 (val t 0), .int .i64 (val t 1), .int .i64 (val t 2), .int .i64 (val t 3), .int .i64 (cF t).1, .int .i64 (cF t).2, .bool true] 88 (0, 0)) := by rw [ht] at q9; exact q9
      refine wp_region_lit ?_
      refine F.vl (R_field rfl (F.at rfl) Try.underlying88 rfl (n := 6) (sz := 1) rfl (by kernel_rfl) (by decide)) ?_; clear F fa; intro fa F
      refine F.vl (R_load rfl (F.at rfl) Try.underlying4 rfl ((cells_of_block q9 6).trans (getS (getS (getS (getS (getS (getS (get0))))))))) ?_; clear F fa; intro fa F
      refine F.vl (R_not rfl (F.at rfl)) ?_; clear F fa; intro fa F
      refine wpList_nil ?_
      refine hK22 _ _ ?_
      clear hK22
      refine cd_F F rfl ?_
      refine wp_skip ?_
      refine hK21 _ _ ?_
      clear hK21
      refine wp_seq_k fun K24 hK24 => ?_
      refine wp_region_lit ?_
      refine F.vl (R_loadBlk rfl (F.at rfl) Try.underlying80 rfl (by kernel_rfl) q8) ?_; clear F fa; intro fa F
      refine F.vl (R_field rfl (F.at rfl) Try.underlying88 rfl (n := 0) (sz := 4) rfl (by kernel_rfl) (by decide)) ?_; clear F fa; intro fa F
      refine F.vl (R_loadRow rfl (F.at rfl) Try.underlying83 rfl (by kernel_rfl) (range_mid' (n := 4) q9 rfl (midS (get0) (midS (getS (get0)) (midS (getS (getS (get0))) (midS (getS (getS (getS (get0)))) mid0)))))) ?_; clear F fa; intro fa F
      have hEs := E.size
      refine sq_call F rfl (by decide) rfl (R_callV rfl rfl Try.call62 (mpS (F.at rfl) (mpS (F.at rfl) mp0))) (cut_ok x HV.out (val t) _) fun e w18 hR => ?_
      obtain ⟨ca, cc, rfl, oo, e9⟩ := hR
      refine ⟨_, rfl, ?_⟩; clear F fa; intro fa F
      replace q3 := (e9).keep0 q3
      replace q7 := (e9).keep0 q7
      replace q8 := (e9).keep0 q8
      replace q9 := (e9).keep0 q9
      replace E := ext_same E (e9)
      clear e9
      replace oo := owns_lower oo hEs
      refine F.as ?_; clear F fa; intro fa F
      refine sq_to rfl rfl (R_store rfl (F.at rfl) (ev_c fa _) rfl (by kernel_rfl) ((cells_of_block q7 0).trans (get0)) (free_of_block q7 0)) ?_; intro w19 hw
      replace oo := owns_cellX hw oo (own_ne_type oo q7 (by decide))
      replace q3 := keep_cell hw q3 (by omega)
      replace q7 := put_cell hw q7 (by simp only [List.setIfInBounds_toArray, List.set_cons_succ, List.set_cons_zero]; exact rfl)
      replace q8 := keep_cell hw q8 (by omega)
      replace q9 := keep_cell hw q9 (by omega)
      replace E := ext_cell E hw (fun h => by first | exact absurd h (by omega) | simp)
      clear hw
      refine wpList_nil ?_
      refine hK24 _ _ ?_
      clear hK24
      refine wp_ret ?_
      (try simp only [Exit.inBlock, Exit.then, reduceIte])
      refine rtM_v F ?_
      refine lv_caught ?_
      refine lv_nil (rs_tc F rfl rfl rfl Try.underlying35 rfl q7) ?_
      rw [fewR, ← hT, ht]
      refine ⟨ca, cc, ?_, ?_, E⟩
      · simp only [cutL_len]
      · simp only [cutL_len]; exact oo
end Go.Proofs.Ytdjeecgddbjbeaa
