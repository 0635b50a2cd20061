/- The program's recipes in lowest terms that match. Conditions: the vat is valid. -/
import Derived.Test.YtdjeecgddbjbeaaDrk
namespace Go.Proofs.Ytdjeecgddbjbeaa
open Go.RowKit Go.Maps
set_option linter.unusedVariables false
set_option linter.unusedSimpArgs false
theorem low_one {f : Nat → Int} (h : gcE f = 1) {k : Nat} (hk : k < 4) : lowF f (gcE f) 4 k = f k := by
  rw [lowF, if_pos hk, h]; simp
theorem low_s {f : Nat → Int} (hf : TubS f) (hg : 0 < gcE f) : TubS (lowF f (gcE f) 4) := by
  intro k hk
  obtain ⟨h0, h1⟩ := hf k hk
  rw [lowF, if_pos hk]
  have h2 : (1 : Int) ≤ (gcE f : Int) := by omega
  refine ⟨Int.ediv_nonneg h0 (by omega), Int.le_trans (Int.ediv_le_self _ h0) h1⟩
theorem gcT_zero {f : Nat → Int} : ∀ {n : Nat}, (∀ k, k < n → f k ≤ 0) → gcT f n = 0
  | 0, _ => rfl
  | n + 1, h => by
    rw [gcT, gcT_zero (n := n) fun k hk => h k (by omega), show (f n).toNat = 0 by have := h n (by omega); omega, Nat.gcd_zero_right]
theorem low_eq {f : Nat → Int} (hf : TubS f) (hg : 0 < gcE f) (h : tubE (lowF f (gcE f) 4) f = true) : gcE f = 1 := by
  rw [tubE_iff] at h
  by_cases hz : ∀ k, k < 4 → f k ≤ 0
  · rw [gcE, gcT_zero hz] at hg; omega
  · simp only [Classical.not_forall] at hz
    obtain ⟨k, hk, hp⟩ := hz
    have h1 := h k hk
    rw [lowF, if_pos hk] at h1
    obtain ⟨h0, -⟩ := hf k hk
    by_cases h2 : (gcE f : Int) ≥ 2
    · have h3 : f k / (gcE f : Int) < f k := Int.ediv_lt_of_lt_mul (by omega) (by
        have : f k * 2 ≤ f k * (gcE f : Int) := Int.mul_le_mul_of_nonneg_left h2 h0
        omega)
      omega
    · omega
theorem low_tub {f : Nat → Int} (h : gcE f = 1) : (!tubE (lowF f (gcE f) 4) f) = false := by rw [tubE_iff.2 fun k hk => low_one h hk]; rfl
theorem bnot_t {b : Bool} (h : (!b) = true) : b = false := by cases b; rfl; cases h
theorem bnot_f {b : Bool} (h : (!b) = false) : b = true := by cases b; cases h; rfl
def cndE (x : Vm) (s : Nat → Int) (ls : List Int) (t : List Int) : Bool := decide (gcE (val t) = 1) && matE x (val t) s ls
/-- All recipes in lowest terms that match. -/
def matL (x : Vm) (s : Nat → Int) (ls : List Int) : List (List Int) := (recL x.D.length).filter (cndE x s ls)
theorem cnd_gc {x : Vm} {s : Nat → Int} {ls t : List Int} (h : gcE (val t) ≠ 1) : cndE x s ls t = false := by rw [cndE, decide_eq_false h]; rfl
theorem cnd_mat {x : Vm} {s : Nat → Int} {ls t : List Int} (h : matE x (val t) s ls = false) : cndE x s ls t = false := by rw [cndE, h, Bool.and_false]
theorem cnd_yes {x : Vm} {s : Nat → Int} {ls t : List Int} (h1 : gcE (val t) = 1) (h : matE x (val t) s ls = true) : cndE x s ls t = true := by rw [cndE, h, Bool.and_true]; exact decide_eq_true h1
theorem val_ne {t q : List Int} (hl : t.length = q.length) (h4 : t.length ≤ 4) (h : t ≠ q) : ∃ k, k < 4 ∧ val q k ≠ val t k := by
  apply Classical.byContradiction
  intro hn
  refine h (List.ext_getElem hl fun k h1 h2 => ?_)
  apply Classical.byContradiction
  intro he
  refine hn ⟨k, by omega, fun e => he ?_⟩
  simpa [val, h1, h2] using e.symm
/-- What the rounds of matching keep. -/
structure MatI (x : Vm) (sv lv : Value) (w : World) (B n3 n4 n5 n7 n8 mb : Nat) (out : List (List Int)) (va : Option Addr) (vc : Nat) (W : World) : Prop where
  q3 : W.heap[n3]? = some (.cells #[.int .i64 x.B, .slice x.da x.D.length x.dc, .slice x.la x.L.length x.lc, .int .i64 x.tol] 80 (0, 0))
  q4 : W.heap[n4]? = some (.cells #[sv] 25 (0, 0))
  q5 : W.heap[n5]? = some (.cells #[lv] 25 (0, 0))
  q7 : W.heap[n7]? = some (.cells #[.slice va out.length vc] 102 (0, 0))
  q8 : W.heap[n8]? = some (.cells #[.map (some mb)] 141 (0, 0))
  oo : W.ownsRow w.heap.size 83 4 (.slice va out.length vc) out.length (tubsV out)
  mp : MapT W mb out
  E : Ext [] w W
  sz : B ≤ W.heap.size
theorem MatI.kept {x : Vm} {sv lv : Value} {w : World} {n3 n4 n5 n7 n8 mb B : Nat} {out : List (List Int)} {va : Option Addr} {vc : Nat} {W V : World} {row : Option Nat} (h : MatI x sv lv w B n3 n4 n5 n7 n8 mb out va vc W) (hg : W.grownBy V row) (h1 : ∀ r, row = some r → B ≤ r)
    (h2 : ∀ r, row = some r → (Value.slice va out.length vc).ownBlock ≠ some r) (hB : n3 < B ∧ n4 < B ∧ n5 < B ∧ n7 < B ∧ n8 < B ∧ mb < B ∧ w.heap.size ≤ B) : MatI x sv lv w B n3 n4 n5 n7 n8 mb out va vc V := by
  obtain ⟨b3, b4, b5, b7, b8, bm, bw⟩ := hB
  have hk : ∀ {k : Nat} {cs : Array Value} {T : TypeId} {fz : Nat × Nat}, W.heap[k]? = some (.cells cs T fz) → k < B → V.heap[k]? = some (.cells cs T fz) :=
    fun {k cs T fz} hq hb => (hg.block k (blk_lt hq) (fun e => by have := h1 k e.symm; omega)).trans hq
  refine ⟨hk h.q3 b3, hk h.q4 b4, hk h.q5 b5, hk h.q7 b7, hk h.q8 b8, h.oo.kept hg ?_, h.mp.kept hg (fun e => by have := h1 mb e.symm; omega), ext_grownX h.E hg fun b e hl => (by have := h1 b e; omega), Nat.le_trans h.sz hg.size⟩
  cases hrow : row with
  | none =>
    cases hob : (Value.slice va out.length vc).ownBlock with
    | none => exact .inl rfl
    | some g => exact .inr (by simp)
  | some r => exact .inr (h2 r hrow)
theorem mat_skip {x : Vm} {sv lv : Value} {w : World} {n3 n4 n5 n7 n8 mb B : Nat} {out : List (List Int)} {va : Option Addr} {vc : Nat} {W : World} {p : List Int → Bool} {q : List Int} (hp : p q = false) (h : MatI x sv lv w B n3 n4 n5 n7 n8 mb out va vc W) : ∃ va vc, MatI x sv lv w B n3 n4 n5 n7 n8 mb (if p q then out ++ [q] else out) va vc W := by
  rw [hp]; exact ⟨va, vc, h⟩
theorem mat_take {x : Vm} {sv lv : Value} {w : World} {n3 n4 n5 n7 n8 mb B : Nat} {out : List (List Int)} {va : Option Addr} {vc : Nat} {W : World} {p : List Int → Bool} {q : List Int} (hp : p q = true) (h : MatI x sv lv w B n3 n4 n5 n7 n8 mb (out ++ [q]) va vc W) : ∃ va vc, MatI x sv lv w B n3 n4 n5 n7 n8 mb (if p q then out ++ [q] else out) va vc W := by
  rw [hp]; exact ⟨va, vc, h⟩
theorem rowOf_at {ob : Nat} {W : World} {v : Value} {T : TypeId} {fz : Nat × Nat} (h : W.heap[ob]? = some (.cells #[v] T fz)) : rowOf ob W = v.ownBlock := by rw [rowOf, h]; rfl
theorem one_row (v : Value) (d : Nat) : ∃ r, (∀ b, v.ownBlock = some b → b = r) ∧ (v.ownBlock = some r ∨ r = d) := by
  cases h : v.ownBlock with
  | none => exact ⟨d, fun b e => (by cases e), .inr rfl⟩
  | some r => exact ⟨r, fun b e => (by cases e; rfl), .inl rfl⟩
theorem own_cells {w : World} {base n size : Nat} {e : TypeId} {v : Value} {xs : List Value} (h : w.ownsRow base e size v n xs) {r : Nat} (hr : v.ownBlock = some r) : ∃ cs T fz, w.heap[r]? = some (.cells cs T fz) := by
  rcases h.2 with ⟨rfl, _⟩ | ⟨g, cap, cur, rfl, _, hgb, _⟩
  · cases hr
  · obtain rfl : g = r := by simpa [Value.ownBlock] using hr
    exact ⟨_, _, _, hgb⟩
theorem filter_snoc {α : Type} (p : α → Bool) (l : List α) (x : α) : (l ++ [x]).filter p = if p x then l.filter p ++ [x] else l.filter p := by
  rw [List.filter_append]
  by_cases h : p x = true
  · simp [h]
  · simp [h]
theorem tubsV_snoc (out : List (List Int)) (t : List Int) : tubsV out ++ tubR (val t) = tubsV (out ++ [t]) := by simp [tubsV]
set_option maxRecDepth 100000 in
set_option maxHeartbeats 4000000 in
theorem matching_ok (x : Vm) (hv : VOk x) (s : List Int) (hs : SmpOk x s) (ls : List Int) (hl : LmpOk x ls) (hll : ls.length ≤ 1000) (sa la : Option Addr) (sc lc : Nat) (w : World) (h : x.At w) (hr : IsRows w (.slice sa s.length sc) 1 (s.map intRow)) (hq : IsRows w (.slice la ls.length lc) 1 (ls.map intRow)) :
    Calls Try.prog 94 #[.agg #[.int .i64 x.B, .slice x.da x.D.length x.dc, .slice x.la x.L.length x.lc, .int .i64 x.tol], .slice sa s.length sc, .slice la ls.length lc] w fun e w' => ∃ a c, e = .returned (.slice a (matL x (val s) ls).length c) ∧ w'.ownsRow w.heap.size 83 4 (.slice a (matL x (val s) ls).length c) (matL x (val s) ls).length (tubsV (matL x (val s) ls)) ∧ Ext [] w w' := by
  have E : Ext [] w w := Ext.refl _ _
  have HX := Lib.hid h
  have HV := Lib.hid hv
  have HS := Lib.hid hs
  have HR := Lib.hid hr
  have HQ := Lib.hid hq
  have HL := Lib.hid hl
  have hd4 := hv.d4
  obtain ⟨hnd, hrl⟩ := recL_all x.D.length (by omega)
  have HND := Lib.hid hnd
  have HRL := Lib.hid hrl
  clear h hv hs hr hq hl hnd hrl
  refine calls_hasM 40 Try.func94 rfl Try.ntmps94 (Nat.le_of_ble_eq_true rfl) ?_
  intro fa F
  refine wp_seq_k fun K1 hK1 => ?_
  refine wp_region_lit ?_
  refine sq_new F rfl (by decide) rfl (R_box rfl (F.at rfl)) ?_; clear F fa; intro fa w1 F hw
  obtain ⟨n3, hn⟩ : ∃ n, n = w.heap.size := ⟨_, rfl⟩
  rw [← hn] at F
  have s3 : w.heap.size ≤ n3 := Nat.le_of_eq hn.symm
  have l3_E : w.heap.size ≤ n3 := by rw [hn]; exact E.size
  replace E := ext_alloc E hw
  have q3 := new_row hw hn
  clear hw hn
  refine sq_new F rfl (by decide) rfl (R_box rfl (F.at rfl)) ?_; clear F fa; intro fa w2 F hw
  obtain ⟨n4, hn⟩ : ∃ n, n = w1.heap.size := ⟨_, rfl⟩
  rw [← hn] at F
  have s4 : w1.heap.size ≤ n4 := Nat.le_of_eq hn.symm
  have l4_E : w.heap.size ≤ n4 := by rw [hn]; exact E.size
  have m4_3 : n3 < n4 := by rw [hn]; exact blk_lt q3
  replace q3 := keep_alloc hw q3
  replace E := ext_alloc E hw
  have q4 := new_one hw rfl hn
  clear hw hn
  refine sq_new F rfl (by decide) rfl (R_box rfl (F.at rfl)) ?_; clear F fa; intro fa w3 F hw
  obtain ⟨n5, hn⟩ : ∃ n, n = w2.heap.size := ⟨_, rfl⟩
  rw [← hn] at F
  have s5 : w2.heap.size ≤ n5 := Nat.le_of_eq hn.symm
  have l5_E : w.heap.size ≤ n5 := by rw [hn]; exact E.size
  have m5_3 : n3 < n5 := by rw [hn]; exact blk_lt q3
  have m5_4 : n4 < n5 := by rw [hn]; exact blk_lt q4
  replace q3 := keep_alloc hw q3
  replace q4 := keep_alloc hw q4
  replace E := ext_alloc E hw
  have q5 := new_one hw rfl hn
  clear hw hn
  refine F.vl (R_assign rfl (ev_c fa _)) ?_; clear F fa; intro fa F
  refine wpList_nil ?_
  refine hK1 _ _ ?_
  clear hK1
  refine wp_seq_k fun K2 hK2 => ?_
  refine wp_region_lit ?_
  refine sq_new F rfl (by decide) rfl (R_alloc rfl Try.zeroValue102) ?_; clear F fa; intro fa w4 F hw
  obtain ⟨n7, hn⟩ : ∃ n, n = w3.heap.size := ⟨_, rfl⟩
  rw [← hn] at F
  have s7 : w3.heap.size ≤ n7 := Nat.le_of_eq hn.symm
  have l7_E : w.heap.size ≤ n7 := by rw [hn]; exact E.size
  have m7_3 : n3 < n7 := by rw [hn]; exact blk_lt q3
  have m7_4 : n4 < n7 := by rw [hn]; exact blk_lt q4
  have m7_5 : n5 < n7 := by rw [hn]; exact blk_lt q5
  replace q3 := keep_alloc hw q3
  replace q4 := keep_alloc hw q4
  replace q5 := keep_alloc hw q5
  replace E := ext_alloc E hw
  have q7 := new_one hw rfl hn
  clear hw hn
  refine wpList_nil ?_
  refine hK2 _ _ ?_
  clear hK2
  refine wp_seq_k fun K3 hK3 => ?_
  refine wp_region_lit ?_
  refine sq_new F rfl (by decide) rfl (R_makeMap rfl) ?_; clear F fa; intro fa w5 F hw
  obtain ⟨n11, hn⟩ : ∃ n, n = w4.heap.size := ⟨_, rfl⟩
  rw [← hn] at F
  have s11 : w4.heap.size ≤ n11 := Nat.le_of_eq hn.symm
  have l11_E : w.heap.size ≤ n11 := by rw [hn]; exact E.size
  have m11_3 : n3 < n11 := by rw [hn]; exact blk_lt q3
  have m11_4 : n4 < n11 := by rw [hn]; exact blk_lt q4
  have m11_5 : n5 < n11 := by rw [hn]; exact blk_lt q5
  have m11_7 : n7 < n11 := by rw [hn]; exact blk_lt q7
  replace q3 := keep_alloc hw q3
  replace q4 := keep_alloc hw q4
  replace q5 := keep_alloc hw q5
  replace q7 := keep_alloc hw q7
  replace E := ext_alloc E hw
  have map11 : MapT w5 n11 [] := by rw [hw, hn]; exact map_made _
  clear hw hn
  refine sq_new F rfl (by decide) rfl (R_alloc rfl Try.zeroValue141) ?_; clear F fa; intro fa w6 F hw
  obtain ⟨n8, hn⟩ : ∃ n, n = w5.heap.size := ⟨_, rfl⟩
  rw [← hn] at F
  have s8 : w5.heap.size ≤ n8 := Nat.le_of_eq hn.symm
  have l8_E : w.heap.size ≤ n8 := by rw [hn]; exact E.size
  have m8_3 : n3 < n8 := by rw [hn]; exact blk_lt q3
  have m8_4 : n4 < n8 := by rw [hn]; exact blk_lt q4
  have m8_5 : n5 < n8 := by rw [hn]; exact blk_lt q5
  have m8_7 : n7 < n8 := by rw [hn]; exact blk_lt q7
  replace map11 := map_alloc hw map11
  replace q3 := keep_alloc hw q3
  replace q4 := keep_alloc hw q4
  replace q5 := keep_alloc hw q5
  replace q7 := keep_alloc hw q7
  replace E := ext_alloc E hw
  have q8 := new_one hw rfl hn
  clear hw hn
  refine sq_to rfl rfl (R_store rfl (F.at rfl) (F.at rfl) rfl (by kernel_rfl) ((cells_of_block q8 0).trans (get0)) (free_of_block q8 0)) ?_; intro w7 hw
  replace map11 := map_cell hw map11 q8
  replace q3 := keep_cell hw q3 (by omega)
  replace q4 := keep_cell hw q4 (by omega)
  replace q5 := keep_cell hw q5 (by omega)
  replace q7 := keep_cell hw q7 (by omega)
  replace q8 := put_cell hw q8 (by simp only [List.setIfInBounds_toArray, List.set_cons_succ, List.set_cons_zero]; exact rfl)
  replace E := ext_cell E hw (fun h => by first | exact absurd h (by omega) | simp)
  clear hw
  refine wpList_nil ?_
  refine hK3 _ _ ?_
  clear hK3
  refine wp_seq_k fun K4 hK4 => ?_
  refine wp_seq_k fun K5 hK5 => ?_
  refine wp_region_lit ?_
  refine F.vl (R_loadBlk rfl (F.at rfl) Try.underlying80 rfl (by kernel_rfl) q3) ?_; clear F fa; intro fa F
  have b7' := blk_lt q7
  refine sq_call F rfl (by decide) rfl (R_callV rfl rfl Try.call58 (mpS (F.at rfl) mp0)) (recipes_any x _) fun e w8 hR => ?_
  obtain ⟨nb, rfl, hnb, qb, e9⟩ := hR
  refine ⟨_, rfl, ?_⟩; clear F fa; intro fa F
  replace map11 := map_ext map11 (e9)
  replace q3 := (e9).keep0 q3
  replace q4 := (e9).keep0 q4
  replace q5 := (e9).keep0 q5
  replace q7 := (e9).keep0 q7
  replace q8 := (e9).keep0 q8
  replace E := ext_same E (e9)
  clear e9
  refine wpList_nil ?_
  refine hK5 _ _ ?_
  clear hK5
  refine wp_block ?_
  obtain ⟨w3, hw3⟩ : ∃ w3, w3 = w8 := ⟨_, rfl⟩
  have b3 := blk_lt q3
  have b4 := blk_lt q4
  have b5 := blk_lt q5
  have b7 := blk_lt q7
  have b8 := blk_lt q8
  have bb := blk_lt qb
  have bw := E.size
  have bm : n11 < w8.heap.size := (by obtain ⟨es, ck, hm⟩ := map11.obj; exact blk_lt hm)
  have hr0 : rowOf n7 w8 = none := rowOf_at q7
  have hseq := recipes1_seq x hd4 [] n7 nb w8 b7 (by simp) (fun r e => by rw [hr0] at e; cases e) ⟨by simp, by omega, by rw [hr0]; simp⟩ qb
  have hI0 : ∃ va vc, MatI x (.slice sa s.length sc) (.slice la ls.length lc) w w8.heap.size n3 n4 n5 n7 n8 n11 (([] : List (List Int)).filter (cndE x (val s) ls)) va vc w8 := ⟨none, 0, q3, q4, q5, q7, q8, World.ownsRow_nil _ _ _ _, map11, E, Nat.le_refl _⟩
  replace F := F.sub (.c 3 rfl (.c 4 rfl (.c 5 rfl (.c 7 rfl (.c 8 rfl (.c 13 rfl .n))))))
  refine range_R (F.at rfl) Try.call102 hseq (fun _ => rfl) b7 (fun pre W => ∃ va vc, MatI x (.slice sa s.length sc) (.slice la ls.length lc) w w8.heap.size n3 n4 n5 n7 n8 n11 (pre.filter (cndE x (val s) ls)) va vc W) ?h1 ?ho ?hc hI0 (fun pre q a' W => ∃ nt va vc, Has 40 [] a' [(3, .pointer (some ⟨n3, 0, none⟩)), (4, .pointer (some ⟨n4, 0, none⟩)), (5, .pointer (some ⟨n5, 0, none⟩)), (7, .pointer (some ⟨n7, 0, none⟩)), (8, .pointer (some ⟨n8, 0, none⟩)), (9, .pointer (some ⟨nt, 0, none⟩))] ∧ MatI x (.slice sa s.length sc) (.slice la ls.length lc) w w8.heap.size n3 n4 n5 n7 n8 n11 (pre.filter (cndE x (val s) ls)) va vc W ∧ W.heap[nt]? = some (.cells (tubC (val q)) 83 (0, 0)) ∧ w8.heap.size ≤ nt ∧ some nt ≠ (Value.slice va (pre.filter (cndE x (val s) ls)).length vc).ownBlock) ?hax ?assign ?body ?done
  case h1 => rintro pre U V ⟨va, vc, hI⟩ hg; exact ⟨va, vc, hI.kept hg (fun r e => by cases e) (fun r e => by cases e) ⟨b3, b4, b5, b7, b8, bm, bw⟩⟩
  case ho => rintro pre U V r ⟨va, vc, hI⟩ hr ⟨o, ho, hc⟩ hg; refine ⟨va, vc, hI.kept hg (fun r' e => by cases e; exact hr) (fun r' e e2 => ?_) ⟨b3, b4, b5, b7, b8, bm, bw⟩⟩; cases e; obtain ⟨cs, T, fz, hx⟩ := own_cells hI.oo e2; rw [ho] at hx; cases hx; cases hc
  case hc => rintro pre U V r ⟨va, vc, hI⟩ hr hsf - hg; exact ⟨va, vc, hI.kept hg (fun r' e => by cases e; exact hr) (fun r' e e2 => by cases e; exact hsf.2.2 (by rw [rowOf_at hI.q7]; exact e2)) ⟨b3, b4, b5, b7, b8, bm, bw⟩⟩
  case hax => rintro pre q a' U V r ⟨nt, va, vc, hF, hI, ht, hn, hno⟩ hr ⟨o, ho, hc⟩ hg; refine ⟨nt, va, vc, hF, hI.kept hg (fun r' e => by cases e; exact hr) (fun r' e e2 => ?_) ⟨b3, b4, b5, b7, b8, bm, bw⟩, (hg.block nt (blk_lt ht) (fun e => ?_)).trans ht, hn, hno⟩ <;> cases e; (· obtain ⟨cs, T, fz, hx⟩ := own_cells hI.oo e2; rw [ho] at hx; cases hx; cases hc); (· rw [ho] at ht; cases ht; cases hc)
  case assign =>
    clear map11 q3 q4 q5 q7 q8 qb E hI0
    rintro l pre q W K ⟨va, vc, ⟨q3, q4, q5, q7, q8, oo, mapm, E, hsz⟩⟩ hK
    have hbo := blk_lt q7
    refine wpIn_act (F.param (p := 14) (by decide) (.agg (tubC (val q)))) ?_
    clear F fa
    intro fa F
    have ER : Ext [] W W := Ext.refl _ _
    refine wpI_region_lit rfl (fun h => by obtain ⟨_, _, h⟩ := h; exact h) ?_
    refine sq_new F rfl (by decide) rfl (R_alloc rfl Try.zeroValue83) ?_; clear F fa; intro fa w9 F hw
    obtain ⟨n9, hn⟩ : ∃ n, n = W.heap.size := ⟨_, rfl⟩
    rw [← hn] at F
    have s9 : W.heap.size ≤ n9 := Nat.le_of_eq hn.symm
    have l9_E : w.heap.size ≤ n9 := by rw [hn]; exact E.size
    have l9_ER : W.heap.size ≤ n9 := by rw [hn]; exact ER.size
    have m9_3 : n3 < n9 := by rw [hn]; exact blk_lt q3
    have m9_4 : n4 < n9 := by rw [hn]; exact blk_lt q4
    have m9_5 : n5 < n9 := by rw [hn]; exact blk_lt q5
    have m9_7 : n7 < n9 := by rw [hn]; exact blk_lt q7
    have m9_8 : n8 < n9 := by rw [hn]; exact blk_lt q8
    have o9_oo := Lib.hid (own_ne_new oo hn)
    replace oo := owns_alloc hw oo
    replace mapm := map_alloc hw mapm
    replace q3 := keep_alloc hw q3
    replace q4 := keep_alloc hw q4
    replace q5 := keep_alloc hw q5
    replace q7 := keep_alloc hw q7
    replace q8 := keep_alloc hw q8
    replace E := ext_alloc E hw
    replace ER := ext_alloc ER hw
    have q9 := new_row hw hn
    clear hw hn
    refine sq_to rfl rfl (R_storeRow rfl (F.at rfl) (F.at rfl) (by kernel_rfl) (by simp [tubC, Value.oneCell']) q9 rfl) ?_; intro w10 hw
    replace oo := owns_cellsX hw oo o9_oo.out
    replace mapm := map_cells hw mapm q9
    replace q3 := keep_cells hw q3 (by omega)
    replace q4 := keep_cells hw q4 (by omega)
    replace q5 := keep_cells hw q5 (by omega)
    replace q7 := keep_cells hw q7 (by omega)
    replace q8 := keep_cells hw q8 (by omega)
    replace q9 := put_row hw q9 rfl
    replace E := ext_cells E hw (fun h => by first | exact absurd h (by omega) | simp)
    replace ER := ext_cells ER hw (fun h => by first | exact absurd h (by omega) | simp)
    clear hw
    refine wpList_nil ?_
    exact hK _ _ (keeps_ext ER (by simp)) (keepR_ext0 ER hbo) ⟨n9, va, vc, F.sub (.c 3 rfl (.c 4 rfl (.c 5 rfl (.c 7 rfl (.c 8 rfl (.c 9 rfl .n)))))), ⟨q3, q4, q5, q7, q8, oo, mapm, E, Nat.le_trans hsz ER.size⟩, q9, by omega, o9_oo.out⟩
  case body =>
    clear map11 q3 q4 q5 q7 q8 qb E hI0 F fa
    rintro l pre q fa W ⟨nt, va, vc, F, ⟨q3, q4, q5, q7, q8, oo, mapm, E, hsz⟩, q9, hnt, hno⟩ hpx
    have hqm : q ∈ recL x.D.length := hpx.subset (by simp)
    obtain ⟨hql, hqs, hqg, hq1, hq6, hqb⟩ := HRL.out q hqm
    have hqn : q ∉ pre := fun hm => (by have hn := hpx.sublist.nodup HND.out; rw [List.nodup_append] at hn; exact hn.2.2 q hm q (by simp) rfl)
    have hplen : pre.length ≤ 500 := (by have h1 := hpx.length_le; have h2 := recL_len x.D.length (by omega); rw [List.length_append] at h1; omega)
    have hsn := filter_snoc (cndE x (val s) ls) pre q
    have hfr : gcE (val q) = 1 → ∀ t ∈ pre.filter (cndE x (val s) ls), ∃ k, k < 4 ∧ lowF (val q) (gcE (val q)) 4 k ≠ val t k := fun hg t ht => (by have htp := (List.mem_filter.1 ht).1; have htl := (HRL.out t (hpx.subset (by simp [htp]))).1; obtain ⟨k, hk, hne⟩ := val_ne (t := t) (q := q) (by omega) (by omega) (fun e => hqn (by rw [← e]; exact htp)); exact ⟨k, hk, by rw [low_one hg hk]; exact hne⟩)
    have hol : (pre.filter (cndE x (val s) ls)).length < 1000 := (by have := List.length_filter_le (cndE x (val s) ls) pre; omega)
    obtain ⟨out, hout⟩ : ∃ out, out = pre.filter (cndE x (val s) ls) := ⟨_, rfl⟩
    rw [← hout] at q7 oo mapm hsn hfr hol hno
    have o9_oo := Lib.hid hno
    obtain ⟨r, hrr, hrd⟩ := one_row (.slice va out.length vc) n11
    have hro : rowOf n7 W = (Value.slice va out.length vc).ownBlock := rowOf_at q7
    have hrc : ∀ b ∈ [n11, n7, r], b < w3.heap.size ∨ ∃ cs T fz, W.heap[b]? = some (.cells cs T fz) := (by intro b hb; simp only [List.mem_cons, List.not_mem_nil, or_false] at hb; rcases hb with rfl | rfl | rfl; (· exact .inl (by rw [hw3]; exact bm)); (· exact .inl (by rw [hw3]; exact b7)); (· rcases hrd with h | h; (· exact .inr (own_cells oo h)); (· rw [h]; exact .inl (by rw [hw3]; exact bm))))
    have hkx : ∀ k cs T fz, W.heap[k]? = some (.cells cs T fz) → Safe [] n7 k W → k ∉ [n11, n7, r] := (by intro k cs T fz hk hsf hm; simp only [List.mem_cons, List.not_mem_nil, or_false] at hm; rcases hm with rfl | rfl | rfl; (· exact mapm.ne hk (fun _ _ h => by cases h) rfl); (· exact hsf.2.1 rfl); (· rcases hrd with h | h; (· exact hsf.2.2 (by rw [hro]; exact h)); (· exact mapm.ne hk (fun _ _ h => by cases h) h.symm)))
    have ER : Ext [n11, n7, r] W W := Ext.refl _ _
    refine wpIn_block ?_
    refine wpIn_seq_k fun K6 hK6 => ?_
    refine wpI_region_lit rfl (fun h => by obtain ⟨_, _, h⟩ := h; exact h) ?_
    refine F.vl (R_loadBlk rfl (F.at rfl) Try.underlying83 rfl (by kernel_rfl) q9) ?_; clear F fa; intro fa F
    refine sq_call F rfl (by decide) rfl (R_callV rfl rfl Try.call118 (mpS (F.at rfl) mp0)) (lowest_ok (val q) hqs hqg _) fun e w11 hR => ?_
    obtain ⟨rfl, e9⟩ := hR
    refine ⟨_, rfl, ?_⟩; clear F fa; intro fa F
    replace oo := owns_ext oo (e9) (by simp)
    replace mapm := map_ext mapm (e9)
    replace q3 := (e9).keep0 q3
    replace q4 := (e9).keep0 q4
    replace q5 := (e9).keep0 q5
    replace q7 := (e9).keep0 q7
    replace q8 := (e9).keep0 q8
    replace q9 := (e9).keep0 q9
    replace E := ext_same E (e9)
    replace ER := ext_same ER (e9)
    clear e9
    refine sq_new F rfl (by decide) rfl (R_alloc rfl Try.zeroValue83) ?_; clear F fa; intro fa w12 F hw
    obtain ⟨n10, hn⟩ : ∃ n, n = w11.heap.size := ⟨_, rfl⟩
    rw [← hn] at F
    have s10 : w11.heap.size ≤ n10 := Nat.le_of_eq hn.symm
    have l10_E : w.heap.size ≤ n10 := by rw [hn]; exact E.size
    have l10_ER : W.heap.size ≤ n10 := by rw [hn]; exact ER.size
    have m10_3 : n3 < n10 := by rw [hn]; exact blk_lt q3
    have m10_4 : n4 < n10 := by rw [hn]; exact blk_lt q4
    have m10_5 : n5 < n10 := by rw [hn]; exact blk_lt q5
    have m10_7 : n7 < n10 := by rw [hn]; exact blk_lt q7
    have m10_8 : n8 < n10 := by rw [hn]; exact blk_lt q8
    have m10_9 : nt < n10 := by rw [hn]; exact blk_lt q9
    have o10_oo := Lib.hid (own_ne_new oo hn)
    replace oo := owns_alloc hw oo
    replace mapm := map_alloc hw mapm
    replace q3 := keep_alloc hw q3
    replace q4 := keep_alloc hw q4
    replace q5 := keep_alloc hw q5
    replace q7 := keep_alloc hw q7
    replace q8 := keep_alloc hw q8
    replace q9 := keep_alloc hw q9
    replace E := ext_alloc E hw
    replace ER := ext_alloc ER hw
    have q10 := new_row hw hn
    clear hw hn
    refine sq_to rfl rfl (R_storeRow rfl (F.at rfl) (F.at rfl) (by kernel_rfl) (by simp [tubC, Value.oneCell']) q10 rfl) ?_; intro w13 hw
    replace oo := owns_cellsX hw oo o10_oo.out
    replace mapm := map_cells hw mapm q10
    replace q3 := keep_cells hw q3 (by omega)
    replace q4 := keep_cells hw q4 (by omega)
    replace q5 := keep_cells hw q5 (by omega)
    replace q7 := keep_cells hw q7 (by omega)
    replace q8 := keep_cells hw q8 (by omega)
    replace q9 := keep_cells hw q9 (by omega)
    replace q10 := put_row hw q10 rfl
    replace E := ext_cells E hw (fun h => by first | exact absurd h (by omega) | simp)
    replace ER := ext_cells ER hw (fun h => by first | exact absurd h (by omega) | simp)
    clear hw
    refine wpList_nil ?_
    refine hK6 _ _ ?_
    clear hK6
    refine wpIn_seq_k fun K7 hK7 => ?_
    refine wpIn_seq_k fun K8 hK8 => ?_
    refine wpI_region_lit rfl (fun h => by obtain ⟨_, _, h⟩ := h; exact h) ?_
    refine F.vl (R_load rfl (F.at rfl) Try.underlying141 rfl ((cells_of_block q8 0).trans (get0))) ?_; clear F fa; intro fa F
    refine F.vl (R_loadBlk rfl (F.at rfl) Try.underlying83 rfl (by kernel_rfl) q10) ?_; clear F fa; intro fa F
    refine sq_exv F rfl (by decide) rfl (R_lookupS rfl (F.at rfl) (F.at rfl) (low_s hqs hqg) mapm) ?_; clear F fa; rintro fa v' F ⟨c19, rfl, hc19⟩
    refine F.mv ?_; clear F fa; intro fa F
    cases hg1 : c19
    · skip
      replace F := F.re (k := 20) rfl (congrArg Value.bool hg1)
      refine F.vl (R_loadBlk rfl (F.at rfl) Try.underlying83 rfl (by kernel_rfl) q10) ?_ (hw := (wantT F rfl rfl (by decide) rfl)); clear F fa; intro fa F
      refine F.vl (R_loadBlk rfl (F.at rfl) Try.underlying83 rfl (by kernel_rfl) q9) ?_ (hw := (wantT F rfl rfl (by decide) rfl)); clear F fa; intro fa F
      refine F.vl ((R_neqTub rfl (F.at rfl) (F.at rfl))) ?_ (hw := (wantT F rfl rfl (by decide) rfl)); clear F fa; intro fa F
      refine F.vl (R_pickF rfl (F.at rfl) (F.at rfl)) ?_; clear F fa; intro fa F
      refine F.mv ?_; clear F fa; intro fa F
      cases hg2 : (!tubE (lowF (val q) (gcE (val q)) 4) (val q))
      · skip
        replace F := F.re (k := 25) rfl (congrArg Value.bool hg2)
        refine F.vl (R_loadBlk rfl (F.at rfl) Try.underlying80 rfl (by kernel_rfl) q3) ?_ (hw := (wantT F rfl rfl (by decide) rfl)); clear F fa; intro fa F
        refine F.vl (R_loadBlk rfl (F.at rfl) Try.underlying83 rfl (by kernel_rfl) q9) ?_ (hw := (wantT F rfl rfl (by decide) rfl)); clear F fa; intro fa F
        refine F.vl (R_load rfl (F.at rfl) Try.underlying25 rfl ((cells_of_block q4 0).trans (get0))) ?_ (hw := (wantT F rfl rfl (by decide) rfl)); clear F fa; intro fa F
        refine F.vl (R_load rfl (F.at rfl) Try.underlying25 rfl ((cells_of_block q5 0).trans (get0))) ?_ (hw := (wantT F rfl rfl (by decide) rfl)); clear F fa; intro fa F
        refine sq_call F rfl (by decide) (wantT F rfl rfl (by decide) rfl) (R_callV rfl rfl Try.call59 (mpS (F.at rfl) (mpS (F.at rfl) (mpS (F.at rfl) (mpS (F.at rfl) mp0))))) (match_ok x HV.out (val q) hqs s HS.out ls HL.out hll sa la sc lc _ (HX.out.ext E) (HR.out.ext E (by simp)) (HQ.out.ext E (by simp))) fun e w14 hR => ?_
        obtain ⟨rfl, e9⟩ := hR
        refine ⟨_, rfl, ?_⟩; clear F fa; intro fa F
        replace oo := owns_ext oo (e9) (by simp)
        replace mapm := map_ext mapm (e9)
        replace q3 := (e9).keep0 q3
        replace q4 := (e9).keep0 q4
        replace q5 := (e9).keep0 q5
        replace q7 := (e9).keep0 q7
        replace q8 := (e9).keep0 q8
        replace q9 := (e9).keep0 q9
        replace q10 := (e9).keep0 q10
        replace E := ext_same E (e9)
        replace ER := ext_same ER (e9)
        clear e9
        refine F.vl (R_not rfl (F.at rfl)) ?_ (hw := (wantT F rfl rfl (by decide) rfl)); clear F fa; intro fa F
        refine F.vl (R_pickF rfl (F.at rfl) (F.at rfl)) ?_; clear F fa; intro fa F
        refine wpList_nil ?_
        refine hK8 _ _ ?_
        clear hK8
        refine cdI_b F rfl (fun hc32 => ?_) (fun hc32 => ?_)
        · skip
          refine wpIn_exit ?_
          (try simp only [Exit.inBlock, reduceIte])
          show KeepsFrom _ _ _ ∧ KeepR _ _ _ _ ∧ _
          rw [← hw3]
          refine ⟨keeps_ext ER hrc, keepR_ext ER hkx ?_, ?_⟩
          · first | exact .inl ((rowOf_at q7).trans hro.symm) | (rcases hblk with hbk | hbk; (· exact .inl ((rowOf_at q7).trans (hbk.trans hro.symm))); (· exact .inr fun r' e => by rw [rowOf_at q7, hbk] at e; cases e; exact hERs))
          · have hsw : w3.heap.size ≤ w14.heap.size := (by rw [hw3]; exact Nat.le_trans hsz ER.size)
            show ∃ va vc, MatI _ _ _ _ _ _ _ _ _ _ _ (List.filter (cndE x (val s) ls) (pre ++ [q])) va vc _
            rw [hsn]
            first | exact mat_skip (cnd_gc (fun hg => Bool.noConfusion ((hc19 (hfr hg)).symm.trans hg1))) ⟨q3, q4, q5, q7, q8, oo, mapm, E, hsw⟩ | exact mat_skip (cnd_gc (fun hg => Bool.noConfusion ((low_tub hg).symm.trans hg2))) ⟨q3, q4, q5, q7, q8, oo, mapm, E, hsw⟩ | exact mat_skip (cnd_mat (bnot_t hc32)) ⟨q3, q4, q5, q7, q8, oo, mapm, E, hsw⟩ | exact mat_take (cnd_yes hgc (bnot_f hc32)) ⟨q3, q4, q5, q7, q8, oo, mapm, E, hsw⟩
        · skip
          refine wpIn_skip ?_
          refine hK7 _ _ ?_
          clear hK7
          refine wpIn_seq_k fun K9 hK9 => ?_
          refine wpI_region_lit rfl (fun h => by obtain ⟨_, _, h⟩ := h; exact h) ?_
          refine F.vl (R_load rfl (F.at rfl) Try.underlying141 rfl ((cells_of_block q8 0).trans (get0))) ?_; clear F fa; intro fa F
          refine F.vl (R_loadBlk rfl (F.at rfl) Try.underlying83 rfl (by kernel_rfl) q10) ?_; clear F fa; intro fa F
          have hgc := low_eq hqs hqg (by simpa using hg2)
          have htc : tubC (lowF (val q) (gcE (val q)) 4) = tubC (val q) := tub_congr fun k hk => low_one hgc hk
          refine sq_exw rfl rfl (R_mapPutT (t := q) rfl (F.at rfl) ((F.at rfl).trans (congrArg Value.agg htc)) (ev_c fa _) hqs hol mapm) ?_; rintro w15 ⟨hM', hg⟩
          replace oo := owns_map mapm hg oo
          replace q3 := keep_map mapm hg q3
          replace q4 := keep_map mapm hg q4
          replace q5 := keep_map mapm hg q5
          replace q7 := keep_map mapm hg q7
          replace q8 := keep_map mapm hg q8
          replace q9 := keep_map mapm hg q9
          replace q10 := keep_map mapm hg q10
          replace E := ext_mapX E hg (fun h => by first | exact absurd h (by omega) | simp)
          replace ER := ext_mapX ER hg (fun h => by first | exact absurd h (by omega) | simp)
          replace mapm := hM'
          clear hg
          refine wpList_nil ?_
          refine hK9 _ _ ?_
          clear hK9
          refine wpI_region_lit rfl (fun h => by obtain ⟨_, _, h⟩ := h; exact h) ?_
          refine F.vl (R_load rfl (F.at rfl) Try.underlying102 rfl ((cells_of_block q7 0).trans (get0))) ?_; clear F fa; intro fa F
          refine F.vl (R_loadBlk rfl (F.at rfl) Try.underlying83 rfl (by kernel_rfl) q9) ?_; clear F fa; intro fa F
          refine sq_new F rfl (by decide) rfl (R_buildSliceV rfl (prS (F.at rfl) pr0) Try.underlying102 (size := 4) (by kernel_rfl) (by decide) (by decide) Try.zeroValue83 (cells := #[.int .i64 (val q 0), .int .i64 (val q 1), .int .i64 (val q 2), .int .i64 (val q 3)]) (by kernel_rfl)) ?_; clear F fa; intro fa w16 F hw
          obtain ⟨n37, hn⟩ : ∃ n, n = w15.heap.size := ⟨_, rfl⟩
          rw [← hn] at F
          have s37 : w15.heap.size ≤ n37 := Nat.le_of_eq hn.symm
          have l37_E : w.heap.size ≤ n37 := by rw [hn]; exact E.size
          have l37_ER : W.heap.size ≤ n37 := by rw [hn]; exact ER.size
          have m37_3 : n3 < n37 := by rw [hn]; exact blk_lt q3
          have m37_4 : n4 < n37 := by rw [hn]; exact blk_lt q4
          have m37_5 : n5 < n37 := by rw [hn]; exact blk_lt q5
          have m37_7 : n7 < n37 := by rw [hn]; exact blk_lt q7
          have m37_8 : n8 < n37 := by rw [hn]; exact blk_lt q8
          have m37_9 : nt < n37 := by rw [hn]; exact blk_lt q9
          have m37_10 : n10 < n37 := by rw [hn]; exact blk_lt q10
          have o37_oo := Lib.hid (own_ne_new oo hn)
          replace oo := owns_alloc hw oo
          replace mapm := map_alloc hw mapm
          replace q3 := keep_alloc hw q3
          replace q4 := keep_alloc hw q4
          replace q5 := keep_alloc hw q5
          replace q7 := keep_alloc hw q7
          replace q8 := keep_alloc hw q8
          replace q9 := keep_alloc hw q9
          replace q10 := keep_alloc hw q10
          replace E := ext_alloc E hw
          replace ER := ext_alloc ER hw
          have q37 := new_block hw hn
          clear hw hn
          have hEs := E.size
          have hERs := ER.size
          refine sq_some F rfl (by decide) rfl (append_runB rfl (w.heap.size) (e := 83) (size := 4) (bytes := 32) Try.underlying102 (by kernel_rfl) (by decide) (F.at rfl) oo (F.at rfl) q37 rfl (by simp [Value.oneCell']) (by omega) (by omega) (by omega)) ?_; clear F fa; rintro fa v' w17 F ⟨hown', ⟨hg, hblk⟩⟩
          obtain ⟨va38, vc38, rfl⟩ := owns_slice hown'
          replace q3 := keep_type oo hg q3 (by decide)
          replace q4 := keep_type oo hg q4 (by decide)
          replace q5 := keep_type oo hg q5 (by decide)
          replace q7 := keep_type oo hg q7 (by decide)
          replace q8 := keep_type oo hg q8 (by decide)
          replace q9 := (hg.block nt (blk_lt q9) o9_oo.out).trans q9
          replace q10 := (hg.block n10 (blk_lt q10) o10_oo.out).trans q10
          replace mapm := map_own mapm oo hg
          replace E := ext_appendX E oo hg (by omega)
          replace ER := ext_grownX ER hg (fun b hb hl => by rw [hrr b hb]; simp)
          replace oo := hown'
          clear hg
          rw [show tubsV out ++ [.int .i64 (val q 0), .int .i64 (val q 1), .int .i64 (val q 2), .int .i64 (val q 3)] = tubsV (out ++ [q]) from tubsV_snoc out q, show out.length + 1 = (out ++ [q]).length by simp] at oo
          rw [show out.length + 1 = (out ++ [q]).length by simp] at F hblk
          refine sq_to rfl rfl (R_store rfl (F.at rfl) (F.at rfl) rfl (by kernel_rfl) ((cells_of_block q7 0).trans (get0)) (free_of_block q7 0)) ?_; intro w18 hw
          replace oo := owns_cellX hw oo (own_ne_type oo q7 (by decide))
          replace mapm := map_cell hw mapm q7
          replace q3 := keep_cell hw q3 (by omega)
          replace q4 := keep_cell hw q4 (by omega)
          replace q5 := keep_cell hw q5 (by omega)
          replace q7 := put_cell hw q7 (by simp only [List.setIfInBounds_toArray, List.set_cons_succ, List.set_cons_zero]; exact rfl)
          replace q8 := keep_cell hw q8 (by omega)
          replace q9 := keep_cell hw q9 (by omega)
          replace q10 := keep_cell hw q10 (by omega)
          replace E := ext_cell E hw (fun h => by first | exact absurd h (by omega) | simp)
          replace ER := ext_cell ER hw (fun h => by first | exact absurd h (by omega) | simp)
          clear hw
          refine wpList_nil ?_
          (try simp only [Exit.inBlock, reduceIte])
          show KeepsFrom _ _ _ ∧ KeepR _ _ _ _ ∧ _
          rw [← hw3]
          refine ⟨keeps_ext ER hrc, keepR_ext ER hkx ?_, ?_⟩
          · first | exact .inl ((rowOf_at q7).trans hro.symm) | (rcases hblk with hbk | hbk; (· exact .inl ((rowOf_at q7).trans (hbk.trans hro.symm))); (· exact .inr fun r' e => by rw [rowOf_at q7, hbk] at e; cases e; exact hERs))
          · have hsw : w3.heap.size ≤ w18.heap.size := (by rw [hw3]; exact Nat.le_trans hsz ER.size)
            show ∃ va vc, MatI _ _ _ _ _ _ _ _ _ _ _ (List.filter (cndE x (val s) ls) (pre ++ [q])) va vc _
            rw [hsn]
            first | exact mat_skip (cnd_gc (fun hg => Bool.noConfusion ((hc19 (hfr hg)).symm.trans hg1))) ⟨q3, q4, q5, q7, q8, oo, mapm, E, hsw⟩ | exact mat_skip (cnd_gc (fun hg => Bool.noConfusion ((low_tub hg).symm.trans hg2))) ⟨q3, q4, q5, q7, q8, oo, mapm, E, hsw⟩ | exact mat_skip (cnd_mat (bnot_t hc32)) ⟨q3, q4, q5, q7, q8, oo, mapm, E, hsw⟩ | exact mat_take (cnd_yes hgc (bnot_f hc32)) ⟨q3, q4, q5, q7, q8, oo, mapm, E, hsw⟩
      · skip
        replace F := F.re (k := 25) rfl (congrArg Value.bool hg2)
        refine sq_no F rfl (by decide) (wantF F rfl rfl (by decide) rfl (by decide)) ?_; clear F fa; intro fa F
        refine sq_no F rfl (by decide) (wantF F rfl rfl (by decide) rfl (by decide)) ?_; clear F fa; intro fa F
        refine sq_no F rfl (by decide) (wantF F rfl rfl (by decide) rfl (by decide)) ?_; clear F fa; intro fa F
        refine sq_no F rfl (by decide) (wantF F rfl rfl (by decide) rfl (by decide)) ?_; clear F fa; intro fa F
        refine sq_no F rfl (by decide) (wantF F rfl rfl (by decide) rfl (by decide)) ?_; clear F fa; intro fa F
        refine sq_no F rfl (by decide) (wantF F rfl rfl (by decide) rfl (by decide)) ?_; clear F fa; intro fa F
        refine F.vl (R_pickT rfl (F.at rfl) (ev_c fa _)) ?_; clear F fa; intro fa F
        refine wpList_nil ?_
        refine hK8 _ _ ?_
        clear hK8
        refine cdI_T F rfl ?_
        refine wpIn_exit ?_
        (try simp only [Exit.inBlock, reduceIte])
        show KeepsFrom _ _ _ ∧ KeepR _ _ _ _ ∧ _
        rw [← hw3]
        refine ⟨keeps_ext ER hrc, keepR_ext ER hkx ?_, ?_⟩
        · first | exact .inl ((rowOf_at q7).trans hro.symm) | (rcases hblk with hbk | hbk; (· exact .inl ((rowOf_at q7).trans (hbk.trans hro.symm))); (· exact .inr fun r' e => by rw [rowOf_at q7, hbk] at e; cases e; exact hERs))
        · have hsw : w3.heap.size ≤ w13.heap.size := (by rw [hw3]; exact Nat.le_trans hsz ER.size)
          show ∃ va vc, MatI _ _ _ _ _ _ _ _ _ _ _ (List.filter (cndE x (val s) ls) (pre ++ [q])) va vc _
          rw [hsn]
          first | exact mat_skip (cnd_gc (fun hg => Bool.noConfusion ((hc19 (hfr hg)).symm.trans hg1))) ⟨q3, q4, q5, q7, q8, oo, mapm, E, hsw⟩ | exact mat_skip (cnd_gc (fun hg => Bool.noConfusion ((low_tub hg).symm.trans hg2))) ⟨q3, q4, q5, q7, q8, oo, mapm, E, hsw⟩ | exact mat_skip (cnd_mat (bnot_t hc32)) ⟨q3, q4, q5, q7, q8, oo, mapm, E, hsw⟩ | exact mat_take (cnd_yes hgc (bnot_f hc32)) ⟨q3, q4, q5, q7, q8, oo, mapm, E, hsw⟩
    · skip
      replace F := F.re (k := 20) rfl (congrArg Value.bool hg1)
      refine sq_no F rfl (by decide) (wantF F rfl rfl (by decide) rfl (by decide)) ?_; clear F fa; intro fa F
      refine sq_no F rfl (by decide) (wantF F rfl rfl (by decide) rfl (by decide)) ?_; clear F fa; intro fa F
      refine sq_no F rfl (by decide) (wantF F rfl rfl (by decide) rfl (by decide)) ?_; clear F fa; intro fa F
      refine F.vl (R_pickT rfl (F.at rfl) (ev_c fa _)) ?_; clear F fa; intro fa F
      refine F.mv ?_; clear F fa; intro fa F
      refine sq_no F rfl (by decide) (wantF F rfl rfl (by decide) rfl (by decide)) ?_; clear F fa; intro fa F
      refine sq_no F rfl (by decide) (wantF F rfl rfl (by decide) rfl (by decide)) ?_; clear F fa; intro fa F
      refine sq_no F rfl (by decide) (wantF F rfl rfl (by decide) rfl (by decide)) ?_; clear F fa; intro fa F
      refine sq_no F rfl (by decide) (wantF F rfl rfl (by decide) rfl (by decide)) ?_; clear F fa; intro fa F
      refine sq_no F rfl (by decide) (wantF F rfl rfl (by decide) rfl (by decide)) ?_; clear F fa; intro fa F
      refine sq_no F rfl (by decide) (wantF F rfl rfl (by decide) rfl (by decide)) ?_; clear F fa; intro fa F
      refine F.vl (R_pickT rfl (F.at rfl) (ev_c fa _)) ?_; clear F fa; intro fa F
      refine wpList_nil ?_
      refine hK8 _ _ ?_
      clear hK8
      refine cdI_T F rfl ?_
      refine wpIn_exit ?_
      (try simp only [Exit.inBlock, reduceIte])
      show KeepsFrom _ _ _ ∧ KeepR _ _ _ _ ∧ _
      rw [← hw3]
      refine ⟨keeps_ext ER hrc, keepR_ext ER hkx ?_, ?_⟩
      · first | exact .inl ((rowOf_at q7).trans hro.symm) | (rcases hblk with hbk | hbk; (· exact .inl ((rowOf_at q7).trans (hbk.trans hro.symm))); (· exact .inr fun r' e => by rw [rowOf_at q7, hbk] at e; cases e; exact hERs))
      · have hsw : w3.heap.size ≤ w13.heap.size := (by rw [hw3]; exact Nat.le_trans hsz ER.size)
        show ∃ va vc, MatI _ _ _ _ _ _ _ _ _ _ _ (List.filter (cndE x (val s) ls) (pre ++ [q])) va vc _
        rw [hsn]
        first | exact mat_skip (cnd_gc (fun hg => Bool.noConfusion ((hc19 (hfr hg)).symm.trans hg1))) ⟨q3, q4, q5, q7, q8, oo, mapm, E, hsw⟩ | exact mat_skip (cnd_gc (fun hg => Bool.noConfusion ((low_tub hg).symm.trans hg2))) ⟨q3, q4, q5, q7, q8, oo, mapm, E, hsw⟩ | exact mat_skip (cnd_mat (bnot_t hc32)) ⟨q3, q4, q5, q7, q8, oo, mapm, E, hsw⟩ | exact mat_take (cnd_yes hgc (bnot_f hc32)) ⟨q3, q4, q5, q7, q8, oo, mapm, E, hsw⟩
  case done =>
    clear map11 q3 q4 q5 q7 q8 qb E hI0
    rintro D W hD ⟨va, vc, ⟨q3, q4, q5, q7, q8, oo, mapm, E, hsz⟩⟩ qD
    obtain ⟨out, hout⟩ : ∃ out, out = matL x (val s) ls := ⟨_, rfl⟩
    rw [show (recL x.D.length).filter (cndE x (val s) ls) = out from hout.symm] at q7 oo mapm
    replace F := F.mark (d := { target := .collected D, args := #[] })
    refine hK4 _ _ ?_
    clear hK4
    refine wp_seq_k fun K10 hK10 => ?_
    refine wp_region_lit ?_
    refine F.vl (R_load rfl (F.at rfl) Try.underlying102 rfl ((cells_of_block q7 0).trans (get0))) ?_; clear F fa; intro fa F
    refine F.as ?_; clear F fa; intro fa F
    refine wpList_nil ?_
    refine hK10 _ _ ?_
    clear hK10
    refine wp_ret ?_
    (try simp only [Exit.inBlock, Exit.then, reduceIte])
    refine rtM_v F ?_
    refine lv_mark qD fun w19 hw => ?_
    replace oo := owns_put hw qD rfl oo
    replace mapm := map_put hw qD mapm
    replace q3 := keep_putW hw qD rfl q3
    replace q4 := keep_putW hw qD rfl q4
    replace q5 := keep_putW hw qD rfl q5
    replace q7 := keep_putW hw qD rfl q7
    replace q8 := keep_putW hw qD rfl q8
    replace E := ext_putW E hw (by omega)
    clear hw qD
    refine lv_nil (rs_1 F rfl rfl) ?_
    subst hout
    exact ⟨va, vc, rfl, oo, E⟩
end Go.Proofs.Ytdjeecgddbjbeaa
