/- The walk of find, over the sets of readings, for Wrong; the walk of Wrong. Conditions: lists of at most 1000. -/
import Derived.Test.YtholfdgebdlgjaaVt
import Derived.Test.YtholfdgebdlgjaaRng
import Derived.Test.YtholfdgebdlgjaaWid
import Derived.RangeFuncFrom
namespace Go.Proofs.Ytholfdgebdlgjaa
open Go.RowKit Go.Shelf
set_option linter.unusedVariables false
set_option linter.unusedSimpArgs false
attribute [local go_sem] Oper.semAt_some
set_option maxRecDepth 100000 in
set_option maxHeartbeats 4000000 in
theorem find_wrong (many mb : Nat) (hm : many ≤ 15) (tv : Value) (p : Nat → Bool) (w : World) (hmb : w.heap[mb]? = some (.cells #[.int .i64 many] 3 (0, 0)))
    (hso : ∀ (x : Nat) (W : World), x < 65536 → Ext [] w W → Calls Try.prog 116 #[tv, .int .u16 x] W fun e W' => e = .returned (.bool (p x)) ∧ Ext [] W W') :
    Calls Try.prog 110 #[.func (.func 138) #[] #[.pointer (some ⟨mb, 0, none⟩)], .func (.func 116) #[tv] #[]] w fun e w' =>
      e = .returned (.tuple #[.int .u16 (((setsL many).find? p).getD 0 : Nat), .bool ((setsL many).find? p).isSome]) ∧ Ext [] w w' := by
  have Hso := Lib.hid hso; clear hso
  refine (callsIn_wide (n := 3)).1 ?_
  refine callsIn_of_wp_marks Try.func110 rfl trivial ?_ rfl
  simp only [Try.ntmps110, List.size_toArray, List.length_cons, List.length_nil, Nat.reduceAdd, Nat.reduceSub, Array.replicate_succ, Array.replicate_zero, List.push_toArray, List.append_toArray, List.nil_append, List.cons_append]
  gi_wp2
  have q3 : (((w.alloc (.cells #[.func (.func 116) #[tv] #[]] 140)).alloc (.cells #[.int .u16 0] 109)).alloc (.cells #[.bool false] 4)).heap[w.heap.size]? = _ := blk_old (blk_old (blk_new rfl))
  have q4 : (((w.alloc (.cells #[.func (.func 116) #[tv] #[]] 140)).alloc (.cells #[.int .u16 0] 109)).alloc (.cells #[.bool false] 4)).heap[w.heap.size + 1]? = _ := blk_old (blk_new (size_alloc _ _).symm)
  have q5 : (((w.alloc (.cells #[.func (.func 116) #[tv] #[]] 140)).alloc (.cells #[.int .u16 0] 109)).alloc (.cells #[.bool false] 4)).heap[w.heap.size + 1 + 1]? = _ := blk_new (by rw [size_alloc, size_alloc])
  have E : Ext [] w (((w.alloc (.cells #[.func (.func 116) #[tv] #[]] 140)).alloc (.cells #[.int .u16 0] 109)).alloc (.cells #[.bool false] 4)) := (((Ext.refl _ _).alloc _).alloc _).alloc _
  generalize (((w.alloc (.cells #[.func (.func 116) #[tv] #[]] 140)).alloc (.cells #[.int .u16 0] 109)).alloc (.cells #[.bool false] 4)) = W0 at q3 q4 q5 E ⊢
  generalize hN0 : w.heap.size = N0 at q3 q4 q5 ⊢
  have hq5 := blk_lt q5
  have E0 := E
  refine wpIn_rangeFunc_ownF (α := SetN) rfl (by omega) (gf := 138) (lb := #[.pointer (some ⟨mb, 0, none⟩)]) rfl trivial (enters_of Try.func138 (by kernel_rfl) rfl)
    (sets1_stops _ many mb hm [N0 + 1, N0 + 1 + 1] W0 (by have := blk_lt hmb; simp; omega) (by simp; omega) (E.keep0 hmb)) KeepC.trans (fun W l o o' _ hl hc _ => KeepC.put W l o o' hl hc) (Below.refl _ _) (fun _ => rfl)
    (fun pre W => (∀ x ∈ pre, p x.1 = false) ∧ W.heap[N0]? = some (.cells #[.func (.func 116) #[tv] #[]] 140 (0, 0)) ∧ W.heap[N0 + 1]? = some (.cells #[.int .u16 0] 109 (0, 0)) ∧ W.heap[N0 + 1 + 1]? = some (.cells #[.bool false] 4 (0, 0)) ∧ Ext [] w W)
    (fun c pre W => c = .ret ∧ ∃ (q : List SetN) (x : SetN), pre = q ++ [x] ∧ (∀ y ∈ q, p y.1 = false) ∧ p x.1 = true ∧ W.heap[N0 + 1]? = some (.cells #[.int .u16 x.1] 109 (0, 0)) ∧ W.heap[N0 + 1 + 1]? = some (.cells #[.bool true] 4 (0, 0)) ∧ Ext [] w W)
    (fun s A B row hs hg hr => ⟨hs.1, blk_grown hg hr hs.2.1, blk_grown hg hr hs.2.2.1, blk_grown hg hr hs.2.2.2.1, ext_grown E.size hs.2.2.2.2 hg hr⟩)
    (fun c s A B row hs hg hr => by
      obtain ⟨hc, q, x, h1, h2, h3, h4, h5, h6⟩ := hs
      exact ⟨hc, q, x, h1, h2, h3, blk_grown hg hr h4, blk_grown hg hr h5, ext_grown E.size h6 hg hr⟩)
    ⟨by simp, q3, q4, q5, E⟩
    (fun x => { tmps := #[.func (.func 138) #[] #[.pointer (some ⟨mb, 0, none⟩)], .func (.func 116) #[tv] #[], undef, .pointer (some ⟨N0, 0, none⟩), .pointer (some ⟨N0 + 1, 0, none⟩), .pointer (some ⟨N0 + 1 + 1, 0, none⟩), .int .u16 x.1, undef, .func (.func 138) #[] #[.pointer (some ⟨mb, 0, none⟩)], .int .u16 x.1, undef, undef, undef, undef, undef], defers := [] }) ?assign ?body ?done ?stop
  case assign =>
    intro l x W K hK
    gi_wp2
    exact hK
  case body =>
    rintro l pre x W ⟨hp, q3, q4, q5, E⟩ _
    have c0 := (cells_of_block q3 0).trans get0
    have hc := Hso.out x.1 W x.2 E
    cases hpx : p x.1
    · rw [hpx] at hc
      gi_wp2_with ((try refine ⟨trivial, ?_⟩); gi_at_call 116; refine (CallsIn.inRound l (callsIn_wide.2 hc)).mono ?_; clear hc; rintro e W2 ⟨rfl, e2⟩)
      refine ⟨KeepsOthers.of_grownBy (grown_of_ext e2) (by simp), KeepC.of_ext (e2.mono (by simp)), fun y hy => ?_, e2.keep0 q3, e2.keep0 q4, e2.keep0 q5, E.nil e2⟩
      rcases List.mem_append.1 hy with h | h
      · exact hp y h
      · obtain rfl : y = x := by simpa using h
        exact hpx
    · rw [hpx] at hc
      gi_wp2_with ((try refine ⟨trivial, ?_⟩); gi_at_call 116; refine (CallsIn.inRound l (callsIn_wide.2 hc)).mono ?_; clear hc; rintro e W2 ⟨rfl, e2⟩; have r4 := e2.keep0 q4; have r5 := e2.keep0 q5; have d4 := (cells_of_block r4 0).trans get0; have d5 := (cells_of_block r5 0).trans get0; have f4 := free_of_block r4 0; have f5 := free_of_block r5 0)
      exact ⟨((KeepsOthers.of_grownBy (grown_of_ext e2) (by simp)).trans (KeepsOthers.setCell _ _ _)).trans (KeepsOthers.setCell _ _ _), rfl, pre, x, rfl, hp, hpx,
        keep_cell rfl (put_cell rfl r4 (by simp)) (by omega), put_cell rfl (keep_cell rfl r5 (by omega)) (by simp), ext_cell (ext_cell (E.nil e2) rfl (fun h => absurd h (by omega))) rfl (fun h => absurd h (by omega))⟩
  case done =>
    rintro D ys W hD hS ⟨hp, q3, q4, q5, E⟩ hK
    have hN : (setsL many).find? p = none := by
      rw [List.find?_eq_none]
      intro y hy
      rw [← hS] at hy
      obtain ⟨z, hz, rfl⟩ := List.mem_map.1 hy
      simp [hp z hz]
    have d4 := (cells_of_block q4 0).trans get0
    have d5 := (cells_of_block q5 0).trans get0
    have f4 := free_of_block q4 0
    have f5 := free_of_block q5 0
    gi_wp2
    have hK2 := ((KeepsOthers.setCell W ⟨N0 + 1, 0, none⟩ (.int .u16 0)).trans (KeepsOthers.setCell _ ⟨N0 + 1 + 1, 0, none⟩ (.bool false))).same D _ hK rfl
    have r4 := keep_cell (w2 := (W.setCell ⟨N0 + 1, 0, none⟩ (.int .u16 0)).setCell ⟨N0 + 1 + 1, 0, none⟩ (.bool false)) rfl (put_cell (cs' := #[.int .u16 0]) rfl q4 (by simp)) (by omega)
    have r5 := put_cell (w2 := (W.setCell ⟨N0 + 1, 0, none⟩ (.int .u16 0)).setCell ⟨N0 + 1 + 1, 0, none⟩ (.bool false)) (cs' := #[.bool false]) rfl (keep_cell rfl q5 (by omega)) (by simp)
    have E2 := ext_cell (w2 := (W.setCell ⟨N0 + 1, 0, none⟩ (.int .u16 0)).setCell ⟨N0 + 1 + 1, 0, none⟩ (.bool false)) (ext_cell E rfl (fun h => absurd h (by omega))) rfl (fun h => absurd h (by omega))
    refine ⟨by simp, .inl ⟨_, _, rfl, run_takeDeferred hK2, ?_⟩⟩
    exact ⟨_, res_ss rfl rfl Try.underlying109 rfl (keep_put hK2 rfl r4) rfl Try.underlying4 rfl (keep_put hK2 rfl r5), by rw [hN]; rfl, ext_put E2 (by have := E0.size; omega)⟩
  case stop =>
    rintro D c pre W hD hS ⟨rfl, q, x, rfl, h2, h3, h4, h5, h6⟩ hK
    have hF : (setsL many).find? p = some x.1 := by
      obtain ⟨rest, hr⟩ := hS
      rw [← hr, List.find?_append, List.map_append, List.find?_append]
      have : (q.map (·.1)).find? p = none := by
        rw [List.find?_eq_none]
        intro y hy
        obtain ⟨z, hz, rfl⟩ := List.mem_map.1 hy
        simp [h2 z hz]
      rw [this]
      simp [h3]
    gi_wp2
    refine ⟨by simp, .inl ⟨_, _, rfl, run_takeDeferred hK, ?_⟩⟩
    exact ⟨_, res_ss rfl rfl Try.underlying109 rfl (keep_put hK rfl h4) rfl Try.underlying4 rfl (keep_put hK rfl h5), by rw [hF]; rfl, ext_put h6 (by have := E0.size; omega)⟩
/-- The first set of readings without which there is a truth. -/
def wrongR (t : Tp) : Option Nat := (setsL t.rd.length).find? fun s => bdB t (s : Nat)
def wrongE (t : Tp) : Int := if (wrongR t).isSome then 0 else 11
def wrongL (t : Tp) : List Int := if (wrongR t).isSome then listTo ((wrongR t).getD 0 : Nat) 8 else []
/-- What open returns of valid tapes. -/
theorem open_ok {t : Tp} {gv rv lv : Value} {w : World} (ht : IsTp w gv rv lv t) (ok : t.Ok) (h8 : t.rd.length ≤ 8) :
    Calls Try.prog 79 #[tpV t gv rv lv, .slice none 0 0, .slice none 0 0, .slice none 0 0] w fun e w' => e = .returned (.tuple #[tpV t gv rv lv, .int .i64 0]) ∧ Ext [] w w' := by
  have h := open_any t gv rv lv noX (fun _ => none) (fun _ => 0) w ht (by have := ok.grl; have := ok.S3; omega) (by omega) (by have := ok.lkl; omega) (fun i hi => rows_nil _ _ _) (fun i hi => by simp [noX])
  have hc := checkE_zero.2 ⟨ok, h8⟩
  rw [open_noX, openV_ok ((open_noX t).trans hc), hc] at h
  exact h
set_option maxRecDepth 100000 in
theorem wrong_ok (t : Tp) (ga ra la : Option Addr) (gc rc lc : Nat) (w : World) (ht : IsTp w (.slice ga t.gr.length gc) (.slice ra t.rd.length rc) (.slice la t.lk.length lc) t) (ok : t.Ok) (h8 : t.rd.length ≤ 8) :
    Calls Try.prog 59 #[tpV t (.slice ga t.gr.length gc) (.slice ra t.rd.length rc) (.slice la t.lk.length lc)] w fun e w' => ∃ a cap, e = .returned (.tuple #[.slice a (wrongL t).length cap, .int .i64 (wrongE t)]) ∧ IsRows w' (.slice a (wrongL t).length cap) 1 ((wrongL t).map intRow) ∧ Ext [] w w' := by
  have HK : Hid (∀ W, Ext [] w W → Calls Try.prog 79 #[tpV t (.slice ga t.gr.length gc) (.slice ra t.rd.length rc) (.slice la t.lk.length lc), .slice none 0 0, .slice none 0 0, .slice none 0 0] W fun e w' => e = .returned (.tuple #[tpV t (.slice ga t.gr.length gc) (.slice ra t.rd.length rc) (.slice la t.lk.length lc), .int .i64 0]) ∧ Ext [] W w') :=
    fun W E => open_ok (ht.ext E (by simp)) ok h8
  have HF : Hid (∀ (W : World) (mb : Nat), Ext [] w W → W.heap[mb]? = some (.cells #[.int .i64 t.rd.length] 3 (0, 0)) → Calls Try.prog 110 #[.func (.func 138) #[] #[.pointer (some ⟨mb, 0, none⟩)], .func (.func 116) #[tpV t (.slice ga t.gr.length gc) (.slice ra t.rd.length rc) (.slice la t.lk.length lc)] #[]] W fun e w' => e = .returned (.tuple #[.int .u16 ((wrongR t).getD 0 : Nat), .bool (wrongR t).isSome]) ∧ Ext [] W w') :=
    fun W mb e h1 => find_wrong t.rd.length mb (by omega) _ _ W h1 fun x W2 hx e2 => possible_any t ok _ _ _ (x : Nat) (by omega) (by omega) W2 (ht.ext (e.nil e2) (by simp))
  have hR : ∀ s, wrongR t = some s → s < 65536 := fun s hs => sets_lt (many := t.rd.length) (by omega) (List.mem_of_find?_eq_some hs)
  have E : Ext [] w w := Ext.refl _ _
  clear ht ok
  unfold tpV at HK HF ⊢
  cases hrr : wrongR t with
  | none =>
    rw [show wrongE t = 11 by rw [wrongE, hrr]; rfl, show wrongL t = [] by rw [wrongL, hrr]; rfl]
    rw [hrr] at HF
    simp only [Option.isSome_none, Option.getD_none] at HF
    clear hR hrr
    refine calls_has 30 Try.func59 rfl Try.ntmps59 (Nat.le_of_ble_eq_true rfl) ?_
    intro fa F
    refine wp_seq_k fun K1 hK1 => ?_
    refine wp_region_lit ?_
    refine sq_new F rfl (by decide) rfl (R_box rfl (F.at rfl)) ?_; clear F fa; intro fa w1 F hw
    obtain ⟨n1, hn⟩ : ∃ n, n = w.heap.size := ⟨_, rfl⟩
    rw [← hn] at F
    have s1 : w.heap.size ≤ n1 := Nat.le_of_eq hn.symm
    have l1_E : w.heap.size ≤ n1 := by rw [hn]; exact E.size
    replace E := ext_alloc E hw
    have q1 := new_row hw hn
    clear hw hn
    refine F.vl (R_assign rfl (ev_c fa _)) ?_; clear F fa; intro fa F
    refine F.vl (R_assign rfl (ev_c fa _)) ?_; clear F fa; intro fa F
    refine wpList_nil ?_
    refine hK1 _ _ ?_
    clear hK1
    refine wp_seq_k fun K2 hK2 => ?_
    refine wp_region_lit ?_
    refine F.vl (R_loadBlk rfl (F.at rfl) Try.underlying28 rfl (by kernel_rfl) q1) ?_; clear F fa; intro fa F
    refine sq_call F rfl (by decide) rfl (R_callV rfl rfl Try.call79 (mpS (F.at rfl) (mpS (ev_c fa _) (mpS (ev_c fa _) (mpS (ev_c fa _) mp0))))) (HK.out _ E) fun e w2 hR => ?_
    obtain ⟨rfl, e1⟩ := hR
    refine ⟨_, rfl, ?_⟩; clear F fa; intro fa F
    replace q1 := (e1).keep0 q1
    replace E := ext_same E (e1)
    clear e1
    refine F.mv ?_; clear F fa; intro fa F
    refine F.vl (R_extract rfl (F.at rfl) (get0)) ?_; clear F fa; intro fa F
    refine F.vl (R_extract rfl (F.at rfl) (getS (get0))) ?_; clear F fa; intro fa F
    refine sq_new F rfl (by decide) rfl (R_alloc rfl Try.zeroValue100) ?_; clear F fa; intro fa w3 F hw
    obtain ⟨n4, hn⟩ : ∃ n, n = w2.heap.size := ⟨_, rfl⟩
    rw [← hn] at F
    have s4 : w2.heap.size ≤ n4 := Nat.le_of_eq hn.symm
    have l4_E : w.heap.size ≤ n4 := by rw [hn]; exact E.size
    have m4_1 : n1 < n4 := by rw [hn]; exact blk_lt q1
    replace q1 := keep_alloc hw q1
    replace E := ext_alloc E hw
    have q4 := new_row hw hn
    clear hw hn
    refine sq_to rfl rfl (R_storeRow rfl (F.at rfl) (F.at rfl) (by kernel_rfl) (by simp [Value.oneCell']) q4 rfl) ?_; intro w4 hw
    replace q1 := keep_cells hw q1 (by omega)
    replace q4 := put_row hw q4 rfl
    replace E := ext_cells E hw (fun h => by first | exact absurd h (by omega) | simp)
    clear hw
    refine F.as ?_; clear F fa; intro fa F
    refine wpList_nil ?_
    refine hK2 _ _ ?_
    clear hK2
    refine wp_seq_k fun K3 hK3 => ?_
    refine wp_seq_k fun K4 hK4 => ?_
    refine wp_region_lit ?_
    refine F.mv ?_; clear F fa; intro fa F
    refine F.vl (R_neqB (b := false) rfl (F.at rfl) (ev_c fa _) (by decide)) ?_; clear F fa; intro fa F
    refine wpList_nil ?_
    refine hK4 _ _ ?_
    clear hK4
    refine cd_F F rfl ?_
    refine wp_skip ?_
    refine hK3 _ _ ?_
    clear hK3
    refine wp_seq_k fun K5 hK5 => ?_
    refine region_x (Ext [] w4) none follows fun w5 hh eh => ?_
    have q1_ := q1
    replace q1 := keep_same hh q1
    have q4_ := q4
    replace q4 := keep_same hh q4
    have E_ := E
    have zEw5 := E.size
    replace E := ext_same E eh
    have eT := eh
    clear hh eh
    refine F.x (i := 0) rfl (fun w' => R_field rfl (F.at rfl) Try.underlying28 rfl (n := 9) (sz := 1) rfl (by kernel_rfl) (by decide)) (fun _ => eT) ?_; clear F fa; intro fa F
    refine F.xr (i := 1) rfl (fun w' hS => R_load rfl (F.at rfl) Try.underlying25 rfl ((cells_of_block (hS.keep q1_ (by simp)) 9).trans (getS (getS (getS (getS (getS (getS (getS (getS (getS (get0)))))))))))) (fun _ => eT) ?_; clear F fa; intro fa F
    refine F.x (i := 2) rfl (fun w' => R_len rfl rfl (F.at rfl) Try.underlying25) (fun _ => eT) ?_; clear F fa; intro fa F
    refine F.xr (i := 4) rfl (fun w' hS => R_loadBlk rfl (F.at rfl) Try.underlying100 rfl (by kernel_rfl) (hS.keep q4_ (by simp))) (fun _ => eT) ?_; clear F fa; intro fa F
    refine F.x (i := 5) rfl (fun w' => R_makeFunc rfl (mapsN (mpS (F.at rfl) mp0)) (mapsN mp0)) (fun _ => eT) ?_; clear F fa; intro fa F
    refine ax_only (i := 3) (by kernel_rfl) (op_call F rfl rfl (by decide) rfl (R_callV rfl rfl Try.call111 (mpS (F.at rfl) mp0)) (sets_any t.rd.length _) fun e w6 hR => ?_)
    obtain ⟨mb, rfl, hmb, qm, e1⟩ := hR
    refine ⟨_, rfl, ?_⟩; clear F fa; intro fa F
    replace q1 := (e1).keep0 q1
    replace q4 := (e1).keep0 q4
    replace E := ext_same E (e1)
    replace eT := ext_same eT (e1)
    clear e1
    refine ⟨fun _ => eT, ?_⟩
    refine ax_only (i := 6) (by kernel_rfl) (op_call F rfl rfl (by decide) rfl (R_callV rfl rfl Try.call110 (mpS (F.at rfl) (mpS (F.at rfl) mp0))) (HF.out _ mb E qm) fun e w7 hR => ?_)
    obtain ⟨rfl, e2⟩ := hR
    refine ⟨_, rfl, ?_⟩; clear F fa; intro fa F
    replace q1 := (e2).keep0 q1
    replace q4 := (e2).keep0 q4
    replace qm := (e2).keep0 qm
    replace E := ext_same E (e2)
    replace eT := ext_same eT (e2)
    clear e2
    refine ⟨fun _ => eT, ?_⟩
    refine F.x (i := 7) rfl (fun w' => R_move rfl (F.at rfl)) (fun _ => eT) ?_; clear F fa; intro fa F
    refine F.x (i := 8) rfl (fun w' => R_extract rfl (F.at rfl) (get0)) (fun _ => eT) ?_; clear F fa; intro fa F
    refine F.x (i := 9) rfl (fun w' => R_extract rfl (F.at rfl) (getS (get0))) (fun _ => eT) ?_; clear F fa; intro fa F
    refine F.x (i := 10) rfl (fun w' => R_assign rfl (F.at rfl)) (fun _ => eT) ?_; clear F fa; intro fa F
    refine F.x (i := 11) rfl (fun w' => R_assign rfl (F.at rfl)) (fun _ => eT) ?_; clear F fa; intro fa F
    refine ax_done (by kernel_rfl) ?_ _
    clear eT q1_ q4_ E_
    refine hK5 _ _ ?_
    clear hK5
    refine wp_seq_k fun K6 hK6 => ?_
    refine wp_seq_k fun K7 hK7 => ?_
    refine wp_region_lit ?_
    refine F.mv ?_; clear F fa; intro fa F
    refine F.vl (R_not rfl (F.at rfl)) ?_; clear F fa; intro fa F
    refine wpList_nil ?_
    refine hK7 _ _ ?_
    clear hK7
    refine cd_T F rfl ?_
    refine wp_seq_k fun K8 hK8 => ?_
    refine wp_region_lit ?_
    refine F.vl (R_assign rfl (ev_c fa _)) ?_; clear F fa; intro fa F
    refine F.vl (R_assign rfl (ev_c fa _)) ?_; clear F fa; intro fa F
    refine wpList_nil ?_
    refine hK8 _ _ ?_
    clear hK8
    refine wp_ret ?_
    (try simp only [Exit.inBlock, Exit.then])
    refine rt_v F (rs_2 F rfl rfl rfl) ?_
    exact ⟨none, 0, rfl, rows_nil _ _ _, E⟩
  | some s =>
    rw [show wrongE t = 0 by rw [wrongE, hrr]; rfl, show wrongL t = listTo (s : Nat) 8 by rw [wrongL, hrr]; rfl]
    rw [hrr] at HF
    simp only [Option.isSome_some, Option.getD_some] at HF
    have hs := hR s hrr
    clear hR hrr
    refine calls_has 30 Try.func59 rfl Try.ntmps59 (Nat.le_of_ble_eq_true rfl) ?_
    intro fa F
    refine wp_seq_k fun K1 hK1 => ?_
    refine wp_region_lit ?_
    refine sq_new F rfl (by decide) rfl (R_box rfl (F.at rfl)) ?_; clear F fa; intro fa w1 F hw
    obtain ⟨n1, hn⟩ : ∃ n, n = w.heap.size := ⟨_, rfl⟩
    rw [← hn] at F
    have s1 : w.heap.size ≤ n1 := Nat.le_of_eq hn.symm
    have l1_E : w.heap.size ≤ n1 := by rw [hn]; exact E.size
    replace E := ext_alloc E hw
    have q1 := new_row hw hn
    clear hw hn
    refine F.vl (R_assign rfl (ev_c fa _)) ?_; clear F fa; intro fa F
    refine F.vl (R_assign rfl (ev_c fa _)) ?_; clear F fa; intro fa F
    refine wpList_nil ?_
    refine hK1 _ _ ?_
    clear hK1
    refine wp_seq_k fun K2 hK2 => ?_
    refine wp_region_lit ?_
    refine F.vl (R_loadBlk rfl (F.at rfl) Try.underlying28 rfl (by kernel_rfl) q1) ?_; clear F fa; intro fa F
    refine sq_call F rfl (by decide) rfl (R_callV rfl rfl Try.call79 (mpS (F.at rfl) (mpS (ev_c fa _) (mpS (ev_c fa _) (mpS (ev_c fa _) mp0))))) (HK.out _ E) fun e w2 hR => ?_
    obtain ⟨rfl, e1⟩ := hR
    refine ⟨_, rfl, ?_⟩; clear F fa; intro fa F
    replace q1 := (e1).keep0 q1
    replace E := ext_same E (e1)
    clear e1
    refine F.mv ?_; clear F fa; intro fa F
    refine F.vl (R_extract rfl (F.at rfl) (get0)) ?_; clear F fa; intro fa F
    refine F.vl (R_extract rfl (F.at rfl) (getS (get0))) ?_; clear F fa; intro fa F
    refine sq_new F rfl (by decide) rfl (R_alloc rfl Try.zeroValue100) ?_; clear F fa; intro fa w3 F hw
    obtain ⟨n4, hn⟩ : ∃ n, n = w2.heap.size := ⟨_, rfl⟩
    rw [← hn] at F
    have s4 : w2.heap.size ≤ n4 := Nat.le_of_eq hn.symm
    have l4_E : w.heap.size ≤ n4 := by rw [hn]; exact E.size
    have m4_1 : n1 < n4 := by rw [hn]; exact blk_lt q1
    replace q1 := keep_alloc hw q1
    replace E := ext_alloc E hw
    have q4 := new_row hw hn
    clear hw hn
    refine sq_to rfl rfl (R_storeRow rfl (F.at rfl) (F.at rfl) (by kernel_rfl) (by simp [Value.oneCell']) q4 rfl) ?_; intro w4 hw
    replace q1 := keep_cells hw q1 (by omega)
    replace q4 := put_row hw q4 rfl
    replace E := ext_cells E hw (fun h => by first | exact absurd h (by omega) | simp)
    clear hw
    refine F.as ?_; clear F fa; intro fa F
    refine wpList_nil ?_
    refine hK2 _ _ ?_
    clear hK2
    refine wp_seq_k fun K3 hK3 => ?_
    refine wp_seq_k fun K4 hK4 => ?_
    refine wp_region_lit ?_
    refine F.mv ?_; clear F fa; intro fa F
    refine F.vl (R_neqB (b := false) rfl (F.at rfl) (ev_c fa _) (by decide)) ?_; clear F fa; intro fa F
    refine wpList_nil ?_
    refine hK4 _ _ ?_
    clear hK4
    refine cd_F F rfl ?_
    refine wp_skip ?_
    refine hK3 _ _ ?_
    clear hK3
    refine wp_seq_k fun K5 hK5 => ?_
    refine region_x (Ext [] w4) none follows fun w5 hh eh => ?_
    have q1_ := q1
    replace q1 := keep_same hh q1
    have q4_ := q4
    replace q4 := keep_same hh q4
    have E_ := E
    have zEw5 := E.size
    replace E := ext_same E eh
    have eT := eh
    clear hh eh
    refine F.x (i := 0) rfl (fun w' => R_field rfl (F.at rfl) Try.underlying28 rfl (n := 9) (sz := 1) rfl (by kernel_rfl) (by decide)) (fun _ => eT) ?_; clear F fa; intro fa F
    refine F.xr (i := 1) rfl (fun w' hS => R_load rfl (F.at rfl) Try.underlying25 rfl ((cells_of_block (hS.keep q1_ (by simp)) 9).trans (getS (getS (getS (getS (getS (getS (getS (getS (getS (get0)))))))))))) (fun _ => eT) ?_; clear F fa; intro fa F
    refine F.x (i := 2) rfl (fun w' => R_len rfl rfl (F.at rfl) Try.underlying25) (fun _ => eT) ?_; clear F fa; intro fa F
    refine F.xr (i := 4) rfl (fun w' hS => R_loadBlk rfl (F.at rfl) Try.underlying100 rfl (by kernel_rfl) (hS.keep q4_ (by simp))) (fun _ => eT) ?_; clear F fa; intro fa F
    refine F.x (i := 5) rfl (fun w' => R_makeFunc rfl (mapsN (mpS (F.at rfl) mp0)) (mapsN mp0)) (fun _ => eT) ?_; clear F fa; intro fa F
    refine ax_only (i := 3) (by kernel_rfl) (op_call F rfl rfl (by decide) rfl (R_callV rfl rfl Try.call111 (mpS (F.at rfl) mp0)) (sets_any t.rd.length _) fun e w6 hR => ?_)
    obtain ⟨mb, rfl, hmb, qm, e1⟩ := hR
    refine ⟨_, rfl, ?_⟩; clear F fa; intro fa F
    replace q1 := (e1).keep0 q1
    replace q4 := (e1).keep0 q4
    replace E := ext_same E (e1)
    replace eT := ext_same eT (e1)
    clear e1
    refine ⟨fun _ => eT, ?_⟩
    refine ax_only (i := 6) (by kernel_rfl) (op_call F rfl rfl (by decide) rfl (R_callV rfl rfl Try.call110 (mpS (F.at rfl) (mpS (F.at rfl) mp0))) (HF.out _ mb E qm) fun e w7 hR => ?_)
    obtain ⟨rfl, e2⟩ := hR
    refine ⟨_, rfl, ?_⟩; clear F fa; intro fa F
    replace q1 := (e2).keep0 q1
    replace q4 := (e2).keep0 q4
    replace qm := (e2).keep0 qm
    replace E := ext_same E (e2)
    replace eT := ext_same eT (e2)
    clear e2
    refine ⟨fun _ => eT, ?_⟩
    refine F.x (i := 7) rfl (fun w' => R_move rfl (F.at rfl)) (fun _ => eT) ?_; clear F fa; intro fa F
    refine F.x (i := 8) rfl (fun w' => R_extract rfl (F.at rfl) (get0)) (fun _ => eT) ?_; clear F fa; intro fa F
    refine F.x (i := 9) rfl (fun w' => R_extract rfl (F.at rfl) (getS (get0))) (fun _ => eT) ?_; clear F fa; intro fa F
    refine F.x (i := 10) rfl (fun w' => R_assign rfl (F.at rfl)) (fun _ => eT) ?_; clear F fa; intro fa F
    refine F.x (i := 11) rfl (fun w' => R_assign rfl (F.at rfl)) (fun _ => eT) ?_; clear F fa; intro fa F
    refine ax_done (by kernel_rfl) ?_ _
    clear eT q1_ q4_ E_
    refine hK5 _ _ ?_
    clear hK5
    refine wp_seq_k fun K6 hK6 => ?_
    refine wp_seq_k fun K7 hK7 => ?_
    refine wp_region_lit ?_
    refine F.mv ?_; clear F fa; intro fa F
    refine F.vl (R_not rfl (F.at rfl)) ?_; clear F fa; intro fa F
    refine wpList_nil ?_
    refine hK7 _ _ ?_
    clear hK7
    refine cd_F F rfl ?_
    refine wp_skip ?_
    refine hK6 _ _ ?_
    clear hK6
    refine wp_seq_k fun K8 hK8 => ?_
    refine wp_region_lit ?_
    refine F.mv ?_; clear F fa; intro fa F
    refine sq_call F rfl (by decide) rfl (R_callV rfl rfl Try.call113 (mpS (F.at rfl) mp0)) (list_any s _ (by omega) (by omega)) fun e w8 hR => ?_
    obtain ⟨la2, lc2, rfl, hrows, e3⟩ := hR
    refine ⟨_, rfl, ?_⟩; clear F fa; intro fa F
    replace q1 := (e3).keep0 q1
    replace q4 := (e3).keep0 q4
    replace qm := (e3).keep0 qm
    replace E := ext_same E (e3)
    clear e3
    refine F.as ?_; clear F fa; intro fa F
    refine F.vl (R_assign rfl (ev_c fa _)) ?_; clear F fa; intro fa F
    refine wpList_nil ?_
    refine hK8 _ _ ?_
    clear hK8
    refine wp_ret ?_
    (try simp only [Exit.inBlock, Exit.then])
    refine rt_v F (rs_2 F rfl rfl rfl) ?_
    exact ⟨la2, lc2, rfl, hrows, E⟩
end Go.Proofs.Ytholfdgebdlgjaa
