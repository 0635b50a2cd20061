/- The law MeasureNumbered: singers and tailors get other numbers. No conditions. -/
import Derived.Test.YtholfdgebdlgjaaVe
namespace Go.Proofs.Ytholfdgebdlgjaa
open Go.RowKit
set_option linter.unusedVariables false
set_option linter.unusedSimpArgs false
def renR (f h : Int → Int) (r : Int × Int × Int × Int) : Int × Int × Int × Int := (f r.1, r.2.1, h r.2.2.1, r.2.2.2)
def renK (f : Int → Int) (l : Int × Int × Int × Int × Int × Int) : Int × Int × Int × Int × Int × Int := (f l.1, l.2.1, f l.2.2.1, l.2.2.2.1, l.2.2.2.2.1, l.2.2.2.2.2)
def ren (f h : Int → Int) (x : Nat → Int) : Nat → Int := fun n => if n = 0 then x 0 else if n < 10 then x (nodeC (f (((n - 1) / 3 : Nat) : Int)) (((n - 1) % 3 : Nat) : Int)) else x (nodeT (h ((n - 10 : Nat) : Int)))
theorem ren_C (f h : Int → Int) (x : Nat → Int) {s a : Int} (s0 : 0 ≤ s) (s3 : s < 3) (a0 : 0 ≤ a) (a3 : a < 3) : ren f h x (nodeC s a) = x (nodeC (f s) a) := by
  have e : nodeC s a = (1 + s * 3 + a).toNat := rfl
  rw [ren, if_neg (by omega), if_pos (by omega), show (((nodeC s a - 1) / 3 : Nat) : Int) = s by omega, show (((nodeC s a - 1) % 3 : Nat) : Int) = a by omega]
theorem ren_T (f h : Int → Int) (x : Nat → Int) {i : Int} (i0 : 0 ≤ i) : ren f h x (nodeT i) = x (nodeT (h i)) := by
  have e : nodeT i = (10 + i).toNat := rfl
  rw [ren, if_neg (by omega), if_neg (by omega), show ((nodeT i - 10 : Nat) : Int) = i by omega]
theorem ren_0 (f h : Int → Int) (x : Nat → Int) : ren f h x 0 = x 0 := rfl
/-- u has t's tapes with other numbers. -/
structure Ren (t u : Tp) (f h : Int → Int) : Prop where
  fr : ∀ s : Int, 0 ≤ s → s < t.S → 0 ≤ f s ∧ f s < u.S
  hr : ∀ s : Int, 0 ≤ s → s < t.T → 0 ≤ h s ∧ h s < u.T
  A : u.A = t.A
  bl : u.bl = t.bl
  bm : u.bm = t.bm
  pl : u.pl = t.pl
  pm : u.pm = t.pm
  sl : u.sl = t.sl
  gr : ∀ s : Nat, (s : Int) < t.S → t.gr.getD s (0, 0) = u.gr.getD (f s).toNat (0, 0)
  rd : u.rd = t.rd.map (renR f h)
  lk : u.lk = t.lk.map (renK f)
theorem getD_map2 {α β : Type} (f : α → β) (d : α) (e : β) (l : List α) {i : Nat} (h : i < l.length) : (l.map f).getD i e = f (l.getD i d) := by simp [h]
theorem Ren.tr {t u : Tp} {f h : Int → Int} (R : Ren t u f h) (ok : t.Ok) {y : Nat → Int} (H : Tr u 0 y) : Tr t 0 (ren f h y) := by
  have o1 := ok.S3
  have o2 := ok.A3
  refine ⟨fun s a hs ha => ?_, fun i hi => ?_, fun i hi hb => ?_, fun i hi => ?_⟩
  · obtain ⟨f0, f1⟩ := R.fr s (by omega) hs
    have q := H.cell (f s).toNat a (by omega) (by rw [R.A]; exact ha)
    have e := ren_C f h y (s := s) (a := a) (by omega) (by omega) (by omega) (by omega)
    have q1 := q.lo
    have q2 := q.hi
    rw [show ((((f s).toNat : Nat)) : Int) = f s by omega] at q1 q2
    rw [R.bl] at q1
    rw [R.bm] at q2
    refine ⟨by rw [e, ren_0]; exact q1, by rw [e, ren_0]; exact q2, fun h0 => ?_, fun h0 => ?_⟩
    · have e2 := ren_C f h y (s := s) (a := (a : Int) - 1) (by omega) (by omega) (by omega) (by omega)
      have := q.glo h0
      rw [show ((((f s).toNat : Nat)) : Int) = f s by omega] at this
      rw [e, e2, R.gr s hs]
      exact this
    · have e2 := ren_C f h y (s := s) (a := (a : Int) - 1) (by omega) (by omega) (by omega) (by omega)
      have := q.ghi h0
      rw [show ((((f s).toNat : Nat)) : Int) = f s by omega] at this
      rw [e, e2, R.gr s hs]
      exact this
  · obtain ⟨f0, f1⟩ := R.hr i (by omega) hi
    have q := H.tail (h i).toNat (by omega)
    have q1 := q.lo
    have q2 := q.hi
    rw [show ((((h i).toNat : Nat)) : Int) = h i by omega] at q1 q2
    have e := ren_T f h y (i := i) (by omega)
    rw [R.pm] at q1
    rw [R.pl] at q2
    exact ⟨by rw [e, ren_0]; exact q1, by rw [e, ren_0]; exact q2⟩
  · have q := H.read i (by rw [R.rd, List.length_map]; exact hi) hb
    have hr := ok.rd _ (getD_mem (0, 0, 0, 0) hi)
    rw [R.rd, getD_map2 (renR f h) (0, 0, 0, 0) _ _ hi] at q
    generalize t.rd.getD i (0, 0, 0, 0) = r at q hr
    have q1 := q.lo
    have q2 := q.hi
    simp only [renR] at q1 q2
    rw [R.sl] at q1 q2
    have e := ren_C f h y (s := r.1) (a := r.2.1) (by omega) (by omega) (by omega) (by omega)
    have e2 := ren_T f h y (i := r.2.2.1) (by omega)
    exact ⟨by rw [e, e2]; exact q1, by rw [e, e2]; exact q2⟩
  · have q := H.link i (by rw [R.lk, List.length_map]; exact hi)
    have hr := ok.lk _ (getD_mem (0, 0, 0, 0, 0, 0) hi)
    rw [R.lk, getD_map2 (renK f) (0, 0, 0, 0, 0, 0) _ _ hi] at q
    generalize t.lk.getD i (0, 0, 0, 0, 0, 0) = r at q hr
    have q1 := q.lo
    have q2 := q.hi
    simp only [renK] at q1 q2
    have e := ren_C f h y (s := r.1) (a := r.2.1) (by omega) (by omega) (by omega) (by omega)
    have e2 := ren_C f h y (s := r.2.2.1) (a := r.2.2.2.1) (by omega) (by omega) (by omega) (by omega)
    exact ⟨by rw [e, e2]; exact q1, by rw [e, e2]; exact q2⟩
theorem ren_law {t u : Tp} {f h f' h' : Int → Int} (R : Ren t u f h) (R' : Ren u t f' h') (ok : t.Ok) (uok : u.Ok) (t8 : t.rd.length ≤ 8)
    (fi : ∀ s : Int, 0 ≤ s → s < t.S → f' (f s) = s) (hi : ∀ s : Int, 0 ≤ s → s < t.T → h' (h s) = s) :
    qe u = qe t ∧ (∀ s a : Int, 0 ≤ s → s < t.S → 0 ≤ a → a < t.A → qlo u (f s) a = qlo t s a ∧ qhi u (f s) a = qhi t s a) ∧
      ∀ i : Int, 0 ≤ i → i < t.T → rlo u (h i) = rlo t i ∧ rhi u (h i) = rhi t i := by
  have u8 : u.rd.length ≤ 8 := by rw [R.rd, List.length_map]; exact t8
  have o1 := uok.S3
  have o2 := ok.A3
  have o3 := ok.S3
  have hbb : bdB u 0 = bdB t 0 := by
    have i1 := bdB_iff ok
    have i2 := bdB_iff uok
    rw [Bool.eq_iff_iff, i1, i2]
    exact ⟨fun ⟨y, hy⟩ => ⟨_, R.tr ok hy⟩, fun ⟨x, hx⟩ => ⟨_, R'.tr uok hx⟩⟩
  refine ⟨by rw [qe, qe, hbb], fun s a s0 s1 a0 a1 => ?_, fun i i0 i1 => ?_⟩
  · by_cases hb : bdB t 0 = true
    · have L := live_of ok t8 hb
      have M := live_of uok u8 (hbb.trans hb)
      obtain ⟨f0, f1⟩ := R.fr s s0 s1
      have l := live_cellI (t := t) s0 s1 a0 a1
      have l' := live_cellI (t := u) (s := f s) (a := a) f0 f1 a0 (by rw [R.A]; exact a1)
      have e1 : ∀ x, ren f' h' x (nodeC (f s) a) = x (nodeC s a) := fun x => by rw [ren_C f' h' x f0 (by omega) a0 (by omega), fi s s0 s1]
      have e2 : ∀ y, ren f h y (nodeC s a) = y (nodeC (f s) a) := fun y => ren_C f h y s0 (by omega) a0 (by omega)
      have m1 := bd_map (c := 0) L M l (live_zero t) l' (live_zero _) (fun x hx => ⟨_, R'.tr uok hx, by rw [e1, ren_0]; omega⟩) (fun y hy => ⟨_, R.tr ok hy, by rw [e2, ren_0]; omega⟩)
      have m2 := bd_map (c := 0) L M (live_zero t) l (live_zero _) l' (fun x hx => ⟨_, R'.tr uok hx, by rw [e1, ren_0]; omega⟩) (fun y hy => ⟨_, R.tr ok hy, by rw [e2, ren_0]; omega⟩)
      rw [qlo, qlo, qhi, qhi, hbb, if_pos hb, if_pos hb, if_pos hb, if_pos hb]
      unfold mlo mhi
      omega
    · rw [qlo, qlo, qhi, qhi, hbb, if_neg hb, if_neg hb, if_neg hb, if_neg hb]
      exact ⟨rfl, rfl⟩
  · by_cases hb : bdB t 0 = true
    · have L := live_of ok t8 hb
      have M := live_of uok u8 (hbb.trans hb)
      obtain ⟨f0, f1⟩ := R.hr i i0 i1
      have l := live_tailI (t := t) i0 i1
      have l' := live_tailI (t := u) (i := h i) f0 f1
      have e1 : ∀ x, ren f' h' x (nodeT (h i)) = x (nodeT i) := fun x => by rw [ren_T f' h' x f0, hi i i0 i1]
      have e2 : ∀ y, ren f h y (nodeT i) = y (nodeT (h i)) := fun y => ren_T f h y i0
      have m1 := bd_map (c := 0) L M l (live_zero t) l' (live_zero _) (fun x hx => ⟨_, R'.tr uok hx, by rw [e1, ren_0]; omega⟩) (fun y hy => ⟨_, R.tr ok hy, by rw [e2, ren_0]; omega⟩)
      have m2 := bd_map (c := 0) L M (live_zero t) l (live_zero _) l' (fun x hx => ⟨_, R'.tr uok hx, by rw [e1, ren_0]; omega⟩) (fun y hy => ⟨_, R.tr ok hy, by rw [e2, ren_0]; omega⟩)
      rw [rlo, rlo, rhi, rhi, hbb, if_pos hb, if_pos hb, if_pos hb, if_pos hb]
      unfold plo phi
      omega
    · rw [rlo, rlo, rhi, rhi, hbb, if_neg hb, if_neg hb, if_neg hb, if_neg hb]
      exact ⟨rfl, rfl⟩
/-- The growths so far. -/
def GrowTo (p : List Int) (gr gg : List (Int × Int)) (i : Nat) : Prop := gg.length = gr.length ∧ (∀ k : Nat, k < i → gg.getD (p.getD k 0).toNat (0, 0) = gr.getD k (0, 0)) ∧ ∀ g ∈ gg, g ∈ gr
theorem GrowTo.init (p : List Int) (gr : List (Int × Int)) : GrowTo p gr gr 0 := ⟨rfl, fun k h => by omega, fun g h => h⟩
theorem GrowTo.step {p : List Int} {gr gg : List (Int × Int)} {i n : Nat} (h : GrowTo p gr gg i) (hp : p.Perm (ints n)) (hn : gr.length = n) (hi : i < n) : GrowTo p gr (gg.set (p.getD i 0).toNat (gr.getD i (0, 0))) (i + 1) := by
  obtain ⟨h1, h2, h3⟩ := h
  have r := perm_rng hp hi
  refine ⟨by rw [List.length_set, h1], fun k hk => ?_, fun g hg => ?_⟩
  · have rk := perm_rng hp (i := k) (by omega)
    by_cases e : k = i
    · subst e
      rw [List.getD_eq_getElem?_getD, List.getElem?_set_self (by omega)]
      rfl
    · have : (p.getD i 0).toNat ≠ (p.getD k 0).toNat := fun q => e (perm_inj hp (by omega) hi (by omega))
      rw [List.getD_eq_getElem?_getD, List.getElem?_set_ne this, ← List.getD_eq_getElem?_getD]
      exact h2 k (by omega)
  · rcases List.mem_or_eq_of_mem_set hg with h | rfl
    · exact h3 g h
    · exact getD_mem (0, 0) (by omega)
/-- Tapes with other numbers. -/
def numT (t : Tp) (gg : List (Int × Int)) (ps pt : List Int) : Tp := { t with gr := gg, rd := t.rd.map (renR (pf ps) (pf pt)), lk := t.lk.map (renK (pf ps)) }
/-- What the law says. -/
theorem num_law {t : Tp} (W : Wild t) {ps pt : List Int} {gg : List (Int × Int)} {i : Nat} (hs : ps.Perm (ints t.S.toNat)) (ht : pt.Perm (ints t.T.toNat)) (hg : GrowTo ps t.gr gg i) (hi : t.S ≤ i) (u : Tp)
    (hu : u = { t with gr := gg, rd := t.rd.map (renR (pf ps) (pf pt)), lk := t.lk.map (renK (pf ps)) }) :
    u.Ok ∧ qe u = qe t ∧ (∀ s a : Int, 0 ≤ s → s < t.S → 0 ≤ a → a < t.A → qlo u (pf ps s) a = qlo t s a ∧ qhi u (pf ps s) a = qhi t s a) ∧
      ∀ i : Int, 0 ≤ i → i < t.T → rlo u (pf pt i) = rlo t i ∧ rhi u (pf pt i) = rhi t i := by
  have ok := W.ok
  have o1 := ok.S1
  have o2 := ok.T1
  have f1 : ∀ s : Int, 0 ≤ s → s < t.S → 0 ≤ pf ps s ∧ pf ps s < t.S := fun s a b => by have := pf_rng hs a (by omega); omega
  have f2 : ∀ s : Int, 0 ≤ s → s < t.T → 0 ≤ pf pt s ∧ pf pt s < t.T := fun s a b => by have := pf_rng ht a (by omega); omega
  have b1 : ∀ s : Int, 0 ≤ s → s < t.S → 0 ≤ pb ps s ∧ pb ps s < t.S := fun s a b => by have := pb_rng hs a (by omega); omega
  have b2 : ∀ s : Int, 0 ≤ s → s < t.T → 0 ≤ pb pt s ∧ pb pt s < t.T := fun s a b => by have := pb_rng ht a (by omega); omega
  have i1 : ∀ s : Int, 0 ≤ s → s < t.S → pb ps (pf ps s) = s := fun s a b => pb_pf hs a (by omega)
  have i2 : ∀ s : Int, 0 ≤ s → s < t.T → pb pt (pf pt s) = s := fun s a b => pb_pf ht a (by omega)
  obtain ⟨g1, g2, g3⟩ := hg
  have uok : u.Ok := by
    subst hu
    refine ⟨o1, ok.S3, ok.A1, ok.A3, o2, ok.T3, ok.bl1, ok.bm1, ok.b, ok.pl1, ok.pm1, ok.p, ok.sl0, ok.sl5, by rw [g1]; exact ok.grl, fun g hm => ok.gr g (g3 g hm), by simpa using ok.rdl, fun r hm => ?_, by simpa using ok.lkl, fun r hm => ?_⟩
    · obtain ⟨r, hr, rfl⟩ := List.mem_map.1 hm
      have a := ok.rd r hr
      have c := f1 r.1 (by omega) (by omega)
      have d := f2 r.2.2.1 (by omega) (by omega)
      simp only [renR]
      omega
    · obtain ⟨r, hr, rfl⟩ := List.mem_map.1 hm
      have a := ok.lk r hr
      have c := f1 r.1 (by omega) (by omega)
      have d := f1 r.2.2.1 (by omega) (by omega)
      have x := i1 r.1 (by omega) (by omega)
      have y := i1 r.2.2.1 (by omega) (by omega)
      have e : pf ps r.1 = pf ps r.2.2.1 → r.1 = r.2.2.1 := fun q => by rw [q] at x; omega
      simp only [renK]
      refine ⟨by omega, by omega, by omega, by omega, by omega, by omega, by omega, by omega, fun q => ?_, by omega, by omega, by omega⟩
      have := e q.1
      have := q.2
      omega
  have R : Ren t u (pf ps) (pf pt) := by
    subst hu
    exact ⟨f1, f2, rfl, rfl, rfl, rfl, rfl, rfl, fun s h => (g2 s (by omega)).symm, rfl, rfl⟩
  have R' : Ren u t (pb ps) (pb pt) := by
    subst hu
    refine ⟨b1, b2, rfl, rfl, rfl, rfl, rfl, rfl, fun s h => ?_, ?_, ?_⟩
    · have h : (s : Int) < t.S := h
      obtain ⟨q0, q1, q2⟩ := pb_rng hs (s := s) (by omega) (by omega)
      have := g2 (pb ps s).toNat (by omega)
      rw [show (ps.getD (pb ps s).toNat 0) = pf ps (pb ps s) from rfl, q2] at this
      exact this
    · rw [List.map_map]
      conv => lhs; rw [← List.map_id t.rd]
      refine List.map_congr_left fun r hr => ?_
      have a := ok.rd r hr
      simp only [Function.comp, renR, id, i1 r.1 (by omega) (by omega), i2 r.2.2.1 (by omega) (by omega)]
    · rw [List.map_map]
      conv => lhs; rw [← List.map_id t.lk]
      refine List.map_congr_left fun r hr => ?_
      have a := ok.lk r hr
      simp only [Function.comp, renK, id, i1 r.1 (by omega) (by omega), i1 r.2.2.1 (by omega) (by omega)]
  exact ⟨uok, ren_law R R' ok uok (by have := W.rdl; omega) i1 i2⟩
theorem flatK_set02 (u v : Int) (ls : List (Int × Int × Int × Int × Int × Int)) (i : Nat) (h : i < ls.length) : ((flatK ls).set (i * 6) (.int .i64 u)).set (i * 6 + 2) (.int .i64 v) = flatK (ls.set i (u, (ls.getD i (0, 0, 0, 0, 0, 0)).2.1, v, (ls.getD i (0, 0, 0, 0, 0, 0)).2.2.2.1, (ls.getD i (0, 0, 0, 0, 0, 0)).2.2.2.2.1, (ls.getD i (0, 0, 0, 0, 0, 0)).2.2.2.2.2)) := by
  unfold flatK
  rw [show i * 6 = i * 6 + 0 by omega, flat_set (row := lkRow) (fun _ => rfl) (0, 0, 0, 0, 0, 0) 0 _ ls i (u, (ls.getD i (0, 0, 0, 0, 0, 0)).2.1, (ls.getD i (0, 0, 0, 0, 0, 0)).2.2.1, (ls.getD i (0, 0, 0, 0, 0, 0)).2.2.2.1, (ls.getD i (0, 0, 0, 0, 0, 0)).2.2.2.2.1, (ls.getD i (0, 0, 0, 0, 0, 0)).2.2.2.2.2) h (by omega) rfl, show i * 6 + 0 + 2 = i * 6 + 2 by omega,
    flat_set (row := lkRow) (fun _ => rfl) (0, 0, 0, 0, 0, 0) 2 _ _ i (u, (ls.getD i (0, 0, 0, 0, 0, 0)).2.1, v, (ls.getD i (0, 0, 0, 0, 0, 0)).2.2.2.1, (ls.getD i (0, 0, 0, 0, 0, 0)).2.2.2.2.1, (ls.getD i (0, 0, 0, 0, 0, 0)).2.2.2.2.2) (by simpa using h) (by omega) (by simp [h, lkRow]), List.set_set]
set_option maxRecDepth 100000 in
set_option maxHeartbeats 1000000 in
theorem numbered_walk (a0 : Option Addr) (len0 cap0 : Nat) (z0 : List Int) (w : World) (h0 : IsRow .i64 w a0 len0 cap0 z0) :
    Calls Try.prog 12 #[.slice a0 len0 cap0] w fun e w' => e = .returned (.bool true) ∧ Ext [] w w' := by
  have HN := Lib.hid (newLots_any w a0 len0 cap0 z0 h0)
  clear h0
  have E : Ext [] w w := Ext.refl _ _
  refine calls_has 188 Try.func12 rfl Try.ntmps12 (Nat.le_of_ble_eq_true rfl) ?_
  intro fa F
  refine wp_seq_k fun K1 hK1 => ?_
  refine wp_region_lit ?_
  refine F.vl (R_assign rfl (ev_c fa _)) ?_; clear F fa; intro fa F
  refine wpList_nil ?_
  refine hK1 _ _ ?_
  clear hK1
  refine wp_seq_k fun K2 hK2 => ?_
  refine wp_region_lit ?_
  refine F.mv ?_; clear F fa; intro fa F
  refine sq_call F rfl (by decide) rfl (R_callV rfl rfl Try.call27 (mpS (F.at rfl) mp0)) (HN.out) fun e w1 hR => ?_
  obtain ⟨b, rfl, hb, hb2, HL, e1⟩ := hR
  refine ⟨_, rfl, ?_⟩; clear F fa; intro fa F
  replace E := ext_same E (e1)
  clear e1
  refine F.as ?_; clear F fa; intro fa F
  refine wpList_nil ?_
  refine hK2 _ _ ?_
  clear hK2
  refine wp_seq_k fun K3 hK3 => ?_
  refine wp_region_lit ?_
  refine F.mv ?_; clear F fa; intro fa F
  have hbB := lots_lt HL
  obtain ⟨B0, hB0⟩ : ∃ B0, B0 = w1.heap.size := ⟨_, rfl⟩
  rw [← hB0] at hbB
  have hwB : w.heap.size ≤ B0 := by rw [hB0]; exact E.size
  refine sq_call F rfl (by decide) rfl (R_callV rfl rfl Try.call46 (mpS (F.at rfl) mp0)) (tapesOf_any w _ b _ _ HL (by omega)) fun e w2 hR => ?_
  obtain ⟨t, gv, rv, lv, rfl, hW, ⟨og, orr, olk⟩, HL, e2⟩ := hR
  refine ⟨_, rfl, ?_⟩; clear F fa; intro fa F
  replace E := E.trans' e2 (fun i hi hl => by simp only [List.mem_cons, List.not_mem_nil, or_false] at hi ⊢; omega)
  rw [← hB0] at og orr olk
  have hB1 : B0 ≤ w2.heap.size := by rw [hB0]; exact e2.size
  clear hB0 e2
  obtain ⟨ga, gc, rfl⟩ := owns_slice og
  obtain ⟨ra, rc, rfl⟩ := owns_slice orr
  obtain ⟨la, lc, rfl⟩ := owns_slice olk
  refine sq_new F rfl (by decide) rfl (R_alloc rfl Try.zeroValue28) ?_; clear F fa; intro fa w3 F hw
  obtain ⟨n4, hn⟩ : ∃ n, n = w2.heap.size := ⟨_, rfl⟩
  rw [← hn] at F
  have s4 : w2.heap.size ≤ n4 := Nat.le_of_eq hn.symm
  have l4_E : w.heap.size ≤ n4 := by rw [hn]; exact E.size
  have b4_HL := Nat.lt_of_lt_of_eq (lots_lt HL) hn.symm
  have o4_og := Lib.hid (own_ne_new og hn)
  have o4_orr := Lib.hid (own_ne_new orr hn)
  have o4_olk := Lib.hid (own_ne_new olk hn)
  replace og := owns_alloc hw og
  replace orr := owns_alloc hw orr
  replace olk := owns_alloc hw olk
  replace E := ext_alloc E hw
  replace HL := lots_alloc hw HL
  have q4 := new_row hw hn
  clear hw hn
  refine sq_to rfl rfl (R_storeRow rfl (F.at rfl) (F.at rfl) (by kernel_rfl) (by first | (simp [Value.oneCell']; done) | (simp [Value.oneCell', grRow, rdRow, lkRow]; done)) q4 rfl) ?_; intro w4 hw
  replace og := owns_cellsX hw og o4_og.out
  replace orr := owns_cellsX hw orr o4_orr.out
  replace olk := owns_cellsX hw olk o4_olk.out
  replace q4 := put_row hw q4 rfl
  replace E := ext_cells E hw (fun h => by first | exact absurd h (by omega) | simp)
  replace HL := lots_cells hw HL (by omega) (by omega)
  clear hw
  refine wpList_nil ?_
  refine hK3 _ _ ?_
  clear hK3
  refine wp_seq_k fun K4 hK4 => ?_
  have hS1 := hW.ok.S1
  have hS3 := hW.ok.S3
  have hT1 := hW.ok.T1
  have hT3 := hW.ok.T3
  refine region_x (Ext [b] w4) none follows fun w5 hh eh => ?_
  have q4_ := q4
  replace q4 := keep_same hh q4
  have E_ := E
  have zEw5 := E.size
  replace E := ext_same E eh
  have zbw5 := lots_lt HL
  replace HL := lots_ext eh HL
  replace og := owns_same hh og
  replace orr := owns_same hh orr
  replace olk := owns_same hh olk
  have eT := eh.mono (Y := [b]) (by simp)
  clear hh eh
  refine F.x (i := 0) rfl (fun w' => R_move rfl (F.at rfl)) (fun _ => eT) ?_; clear F fa; intro fa F
  refine F.x (i := 1) rfl (fun w' => R_field rfl (F.at rfl) Try.underlying28 rfl (n := 0) (sz := 1) rfl (by kernel_rfl) (by decide)) (fun _ => eT) ?_; clear F fa; intro fa F
  refine F.xr (i := 2) rfl (fun w' hS => R_load rfl (F.at rfl) Try.underlying3 rfl ((cells_of_block (hS.keep q4_ (by simp; omega)) 0).trans (get0))) (fun _ => eT) ?_; clear F fa; intro fa F
  refine F.x (i := 4) rfl (fun w' => R_move rfl (F.at rfl)) (fun _ => eT) ?_; clear F fa; intro fa F
  refine F.x (i := 5) rfl (fun w' => R_field rfl (F.at rfl) Try.underlying28 rfl (n := 2) (sz := 1) rfl (by kernel_rfl) (by decide)) (fun _ => eT) ?_; clear F fa; intro fa F
  refine F.xr (i := 6) rfl (fun w' hS => R_load rfl (F.at rfl) Try.underlying3 rfl ((cells_of_block (hS.keep q4_ (by simp; omega)) 2).trans (getS (getS (get0))))) (fun _ => eT) ?_; clear F fa; intro fa F
  obtain ⟨B1, hB1'⟩ : ∃ B1, B1 = w5.heap.size := ⟨_, rfl⟩
  have hbB1 := lots_lt HL
  rw [← hB1'] at hbB1
  have hB1w : w.heap.size ≤ B1 := by rw [hB1']; exact E.size
  refine ax_only (i := 3) (by kernel_rfl) (op_call F rfl rfl (by decide) rfl (R_callV rfl rfl Try.call57 (mpS (F.at rfl) (mpS (F.at rfl) mp0))) (mixed_int w _ b _ _ HL (by omega) t.S (by omega) (by omega)) fun e w6 hR => ?_)
  obtain ⟨ps, sa, sc, rfl, hps, osg, HL, e2⟩ := hR
  refine ⟨_, rfl, ?_⟩; clear F fa; intro fa F
  replace og := owns_ext og (e2) (by simp; omega)
  replace orr := owns_ext orr (e2) (by simp; omega)
  replace olk := owns_ext olk (e2) (by simp; omega)
  replace q4 := (e2).keep q4 (by simp; omega)
  replace E := E.trans' e2 (fun i hi hl => by simp only [List.mem_cons, List.not_mem_nil, or_false] at hi ⊢; omega)
  replace eT := eT.trans' e2 (fun i hi hl => by simp only [List.mem_cons, List.not_mem_nil, or_false] at hi ⊢; omega)
  refine ⟨fun _ => eT, ?_⟩
  rw [← hB1'] at osg
  clear hB1'
  obtain ⟨B2, hB2'⟩ : ∃ B2, B2 = w6.heap.size := ⟨_, rfl⟩
  have hbB2 := lots_lt HL
  rw [← hB2'] at hbB2
  have hB2w : w.heap.size ≤ B2 := by rw [hB2']; exact E.size
  refine ax_only (i := 7) (by kernel_rfl) (op_call F rfl rfl (by decide) rfl (R_callV rfl rfl Try.call57 (mpS (F.at rfl) (mpS (F.at rfl) mp0))) (mixed_int w _ b _ _ HL (by omega) t.T (by omega) (by omega)) fun e w7 hR => ?_)
  obtain ⟨pt, ta, tc, rfl, hpt, ota, HL, e2⟩ := hR
  refine ⟨_, rfl, ?_⟩; clear F fa; intro fa F
  replace og := owns_ext og (e2) (by simp; omega)
  replace orr := owns_ext orr (e2) (by simp; omega)
  replace olk := owns_ext olk (e2) (by simp; omega)
  replace osg := owns_ext osg (e2) (by simp; omega)
  replace q4 := (e2).keep q4 (by simp; omega)
  replace E := E.trans' e2 (fun i hi hl => by simp only [List.mem_cons, List.not_mem_nil, or_false] at hi ⊢; omega)
  replace eT := eT.trans' e2 (fun i hi hl => by simp only [List.mem_cons, List.not_mem_nil, or_false] at hi ⊢; omega)
  refine ⟨fun _ => eT, ?_⟩
  rw [← hB2'] at ota
  clear hB2'
  refine F.x (i := 8) rfl (fun w' => R_assign rfl (F.at rfl)) (fun _ => eT) ?_; clear F fa; intro fa F
  refine F.x (i := 9) rfl (fun w' => R_assign rfl (F.at rfl)) (fun _ => eT) ?_; clear F fa; intro fa F
  refine ax_done (by kernel_rfl) ?_ _
  clear eT q4_ E_
  have HT := Lib.hid (tp_of_owns og orr olk)
  clear og orr olk
  have EO : Ext [] w7 w7 := Ext.refl _ _
  have HRd := Lib.hid (slAt_of_rows HT.out.rd (0, 0, 0, 0))
  have HGr := Lib.hid (slAt_of_rows HT.out.gr (0, 0))
  have HLk := Lib.hid (slAt_of_rows HT.out.lk (0, 0, 0, 0, 0, 0))
  have hokT := hW.ok
  have hS1 := hokT.S1
  have hS3 := hokT.S3
  have hA1 := hokT.A1
  have hA3 := hokT.A3
  have hT1 := hokT.T1
  have hT3 := hokT.T3
  have hgl := hokT.grl
  have hrl := hW.rdl
  have hkl := hW.lkl
  obtain ⟨hP1, hP2⟩ := ok_prod hokT
  have hpsl : ps.length = t.S.toNat := by rw [hps.length_eq, ints_len]
  have hptl : pt.length = t.T.toNat := by rw [hpt.length_eq, ints_len]
  have HSg := Lib.hid (slAt_of_ivs osg hpsl.symm [] (by simp))
  have HTa := Lib.hid (slAt_of_ivs ota hptl.symm [] (by simp))
  clear osg ota
  have t8 : t.rd.length ≤ 8 := by omega
  refine hK4 _ _ ?_
  clear hK4
  refine wp_seq_k fun K5 hK5 => ?_
  refine wp_region_lit ?_
  refine F.vl (R_loadBlk rfl (F.at rfl) Try.underlying28 rfl (by kernel_rfl) q4) ?_; clear F fa; intro fa F
  obtain ⟨Bx, hBx⟩ : ∃ Bx, Bx = w7.heap.size := ⟨_, rfl⟩
  have hOx2 := Nat.le_trans EO.size (Nat.le_of_eq hBx.symm)
  have hwx := Nat.le_trans E.size (Nat.le_of_eq hBx.symm)
  have h4B := blk_lt q4
  rw [← hBx] at h4B
  refine sq_call F rfl (by decide) rfl (R_callV rfl rfl Try.call28 (mpS (F.at rfl) mp0)) (copyTapes_any t ga ra la gc rc lc _ (HT.out.ext EO (by simp)) (by omega) (by omega) (by omega)) fun e w8 hR => ?_
  obtain ⟨gx, rx, lx, rfl, ⟨ogx, orx, olx⟩, eX⟩ := hR
  refine ⟨_, rfl, ?_⟩; clear F fa; intro fa F
  replace q4 := (eX).keep0 q4
  replace E := ext_same E (eX)
  replace EO := ext_same EO (eX)
  rw [← hBx] at ogx orx olx
  have hBx1 : Bx ≤ w8.heap.size := by rw [hBx]; exact eX.size
  clear hBx eX
  obtain ⟨gxa, gxc, rfl⟩ := owns_slice ogx
  obtain ⟨rxa, rxc, rfl⟩ := owns_slice orx
  obtain ⟨lxa, lxc, rfl⟩ := owns_slice olx
  refine sq_new F rfl (by decide) rfl (R_alloc rfl Try.zeroValue28) ?_; clear F fa; intro fa w9 F hw
  obtain ⟨n7, hn⟩ : ∃ n, n = w8.heap.size := ⟨_, rfl⟩
  rw [← hn] at F
  have s7 : w8.heap.size ≤ n7 := Nat.le_of_eq hn.symm
  have l7_E : w.heap.size ≤ n7 := by rw [hn]; exact E.size
  have l7_EO : w7.heap.size ≤ n7 := by rw [hn]; exact EO.size
  have m7_4 : n4 < n7 := by rw [hn]; exact blk_lt q4
  have o7_ogx := Lib.hid (own_ne_new ogx hn)
  have o7_olx := Lib.hid (own_ne_new olx hn)
  have o7_orx := Lib.hid (own_ne_new orx hn)
  replace ogx := owns_alloc hw ogx
  replace olx := owns_alloc hw olx
  replace orx := owns_alloc hw orx
  replace q4 := keep_alloc hw q4
  replace E := ext_alloc E hw
  replace EO := ext_alloc EO hw
  have q7 := new_row hw hn
  clear hw hn
  refine sq_to rfl rfl (R_storeRow rfl (F.at rfl) (F.at rfl) (by kernel_rfl) (by first | (simp [Value.oneCell']; done) | (simp [Value.oneCell', grRow, rdRow, lkRow]; done)) q7 rfl) ?_; intro w10 hw
  replace ogx := owns_cellsX hw ogx (own_ne_type ogx q7 (by decide))
  replace olx := owns_cellsX hw olx (own_ne_type olx q7 (by decide))
  replace orx := owns_cellsX hw orx (own_ne_type orx q7 (by decide))
  replace q4 := keep_cells hw q4 (by omega)
  replace q7 := put_row hw q7 rfl
  replace E := ext_cells E hw (fun h => by first | exact absurd h (by omega) | simp)
  replace EO := ext_cells EO hw (fun h => by first | exact absurd h (by omega) | simp)
  clear hw
  refine wpList_nil ?_
  refine hK5 _ _ ?_
  clear hK5
  refine wp_seq_k fun K6 hK6 => ?_
  refine wp_seq_k fun K7 hK7 => ?_
  refine wp_region_lit ?_
  refine F.vl (R_assign rfl (ev_c fa _)) ?_; clear F fa; intro fa F
  refine wpList_nil ?_
  refine hK7 _ _ ?_
  clear hK7
  refine wp_block ?_
  have F0 := F.sub (.c 4 rfl (.c 5 rfl (.c 6 rfl (.c 7 rfl .n))))
  refine lp_for F0 (t.S.toNat) (fun i Lv W => ∃ gg : List (Int × Int), Lv = [(8, .int .i64 ((i : Nat) : Int))] ∧ Ext [] w W ∧ Ext [] w7 W ∧ W.heap[n4]? = some (.cells #[.int .i64 t.S, .int .i64 t.A, .int .i64 t.T, .int .i64 t.bl, .int .i64 t.bm, .int .i64 t.pl, .int .i64 t.pm, .int .i64 t.sl, .slice ga t.gr.length gc, .slice ra t.rd.length rc, .slice la t.lk.length lc] 28 (0, 0)) ∧ W.heap[n7]? = some (.cells #[.int .i64 t.S, .int .i64 t.A, .int .i64 t.T, .int .i64 t.bl, .int .i64 t.bm, .int .i64 t.pl, .int .i64 t.pm, .int .i64 t.sl, .slice gxa t.gr.length gxc, .slice rxa t.rd.length rxc, .slice lxa t.lk.length lxc] 28 (0, 0)) ∧ W.ownsRow Bx 75 6 (.slice lxa t.lk.length lxc) t.lk.length (flatK t.lk) ∧ W.ownsRow Bx 66 4 (.slice rxa t.rd.length rxc) t.rd.length (flatR t.rd) ∧ W.ownsRow Bx 23 2 (.slice gxa t.gr.length gxc) t.gr.length (flatG gg) ∧ Hid (GrowTo ps t.gr gg i)) ⟨_, ⟨t.gr, rfl, E, EO, q4, q7, olx, orx, ogx, Lib.hid (GrowTo.init ps t.gr)⟩, F.sub (.c 8 rfl (.c 4 rfl (.c 5 rfl (.c 6 rfl (.c 7 rfl .n)))))⟩ ?_
  clear F F0
  clear E EO q4 q7 olx orx
  clear ogx
  rintro i _ fa w11 hi1 ⟨gg, rfl, E, EO, q4, q7, olx, orx, ogx, hgg⟩ F
  have hggl := hgg.out.1
  refine wp_seq_k fun K8 hK8 => ?_
  refine wp_seq_k fun K9 hK9 => ?_
  refine wp_region_lit ?_
  refine F.mv ?_; clear F fa; intro fa F
  refine F.vl (R_field rfl (F.at rfl) Try.underlying28 rfl (n := 0) (sz := 1) rfl (by kernel_rfl) (by decide)) ?_; clear F fa; intro fa F
  refine F.vl (R_load rfl (F.at rfl) Try.underlying3 rfl ((cells_of_block q4 0).trans (get0))) ?_; clear F fa; intro fa F
  refine F.vl (R_lss rfl (F.at rfl) (F.at rfl)) ?_; clear F fa; intro fa F
  refine wpList_nil ?_
  refine hK9 _ _ ?_
  clear hK9
  refine cd_if F rfl (fun hc40 => ?_) (fun hc40 => ?_)
  · skip
    refine wp_skip ?_
    refine hK8 _ _ ?_
    clear hK8
    refine wp_seq_k fun K10 hK10 => ?_
    refine wp_block ?_
    have hfl : (flatG gg).length = t.gr.length * 2 := (flat_len (row := grRow) (sz := 2) (fun _ => rfl) _).trans (by rw [hggl])
    have HX := Lib.hid (slAt_of_owns ogx hggl.symm (fun _ => rfl) [] (by simp) (0, 0))
    have hrw := perm_rng hps (show i < t.S.toNat by omega)
    refine wp_region_st 12 follows (by kernel_rfl) fun w12 hh eh => ?_
    replace q4 := keep_same hh q4
    replace q7 := keep_same hh q7
    replace E := ext_same E eh
    replace EO := ext_same EO eh
    replace ogx := owns_same hh ogx
    replace olx := owns_same hh olx
    replace orx := owns_same hh orx
    clear hh eh
    refine F.sv (R_field rfl (F.at rfl) Try.underlying28 rfl (n := 8) (sz := 1) rfl (by kernel_rfl) (by decide)) ?_; clear F fa; intro fa F
    refine F.sv (R_load rfl (F.at rfl) Try.underlying24 rfl ((cells_of_block q7 8).trans (getS (getS (getS (getS (getS (getS (getS (getS (get0))))))))))) ?_; clear F fa; intro fa F
    refine F.smv ?_; clear F fa; intro fa F
    refine F.smv ?_; clear F fa; intro fa F
    obtain ⟨xb11, xo11, xa11, xr11⟩ := HSg.out i (by omega)
    refine F.sv (R_ixSlice (sz := 1) rfl ((F.at rfl).trans (xa11 _ _)) (F.at rfl) Try.underlying29 (by kernel_rfl) (by omega) (by omega)) ?_; clear F fa; intro fa F
    refine F.sv (R_load rfl (F.at rfl) Try.underlying3 rfl (xr11 _ EO 0 _ rfl)) ?_; clear F fa; intro fa F
    refine F.sv (R_field rfl (F.at rfl) Try.underlying28 rfl (n := 8) (sz := 1) rfl (by kernel_rfl) (by decide)) ?_; clear F fa; intro fa F
    refine F.sv (R_load rfl (F.at rfl) Try.underlying24 rfl ((cells_of_block q4 8).trans (getS (getS (getS (getS (getS (getS (getS (getS (get0))))))))))) ?_; clear F fa; intro fa F
    refine F.smv ?_; clear F fa; intro fa F
    obtain ⟨xb12, xo12, xa12, xr12⟩ := HGr.out i (by omega)
    refine F.sv (R_ixSlice (sz := 2) rfl ((F.at rfl).trans (xa12 _ _)) (F.at rfl) Try.underlying24 (by kernel_rfl) (by omega) (by omega)) ?_; clear F fa; intro fa F
    refine F.sv (R_loadRow rfl (F.at rfl) Try.underlying23 rfl (by kernel_rfl) (xr12 _ EO)) ?_; clear F fa; intro fa F
    obtain ⟨xb13, xo13, xa13, xr13⟩ := HX.out ((ps.getD i 0).toNat) (by omega)
    refine F.sv (R_ixSlice (sz := 2) rfl ((F.at rfl).trans (xa13 _ _)) (F.at rfl) Try.underlying24 (by kernel_rfl) (by omega) (by omega)) ?_; clear F fa; intro fa F
    refine wpStill_nil ?_
    obtain ⟨htr, hst⟩ := owns_at2 ogx xa13 (j := (ps.getD i 0).toNat * 2) (p := xo13 + (ps.getD i 0).toNat * 2) (by first | omega | (simp; omega)) (by omega)
    refine sq_to rfl rfl (R_storeThere rfl (F.at rfl) (F.at rfl) (by kernel_rfl) (by simp [Value.oneCell', grRow, rdRow, lkRow]) htr) ?_; intro w13 hw
    obtain ⟨hown', hg⟩ := hst _ _ _ hw
    clear hst htr hw
    replace q4 := keep_type ogx hg q4 (by decide)
    replace q7 := (hg.block n7 (blk_lt q7) o7_ogx.out).trans q7
    replace olx := owns_other olx ogx hg (by decide)
    replace orx := owns_other orx ogx hg (by decide)
    replace E := ext_appendX E ogx hg (by omega)
    replace EO := ext_appendX EO ogx hg (by omega)
    replace ogx := hown'
    clear hg
    rw [flatG_set2 _ _ _ _ (by omega)] at ogx
    refine wpList_nil ?_
    refine hK10 _ _ ?_
    clear hK10
    refine wp_region_lit ?_
    refine F.mv ?_; clear F fa; intro fa F
    refine F.vl (R_add rfl (F.at rfl) (ev_c fa _) (by omega) (by omega)) ?_; clear F fa; intro fa F
    refine F.as ?_; clear F fa; intro fa F
    refine wpList_nil ?_
    show _ ∧ _
    exact ⟨by omega, _, ⟨_, rfl, E, EO, q4, q7, olx, orx, ogx, Lib.hid (hgg.out.step hps (by omega) (by omega))⟩, F.sub (.c 8 rfl (.c 4 rfl (.c 5 rfl (.c 6 rfl (.c 7 rfl .n)))))⟩
  · skip
    refine wp_exit ?_
    have hggl := hgg.out.1
    refine hK6 _ _ ?_
    clear hK6
    refine wp_seq_k fun K14 hK14 => ?_
    refine wp_seq_k fun K15 hK15 => ?_
    refine wp_region_lit ?_
    refine F.vl (R_assign rfl (ev_c fa _)) ?_; clear F fa; intro fa F
    refine wpList_nil ?_
    refine hK15 _ _ ?_
    clear hK15
    refine wp_block ?_
    have F0 := F.sub (.c 4 rfl (.c 5 rfl (.c 6 rfl (.c 7 rfl .n))))
    refine lp_for F0 (t.rd.length) (fun i Lv W => Lv = [(9, .int .i64 ((i : Nat) : Int))] ∧ Ext [] w W ∧ Ext [] w7 W ∧ W.heap[n4]? = some (.cells #[.int .i64 t.S, .int .i64 t.A, .int .i64 t.T, .int .i64 t.bl, .int .i64 t.bm, .int .i64 t.pl, .int .i64 t.pm, .int .i64 t.sl, .slice ga t.gr.length gc, .slice ra t.rd.length rc, .slice la t.lk.length lc] 28 (0, 0)) ∧ W.heap[n7]? = some (.cells #[.int .i64 t.S, .int .i64 t.A, .int .i64 t.T, .int .i64 t.bl, .int .i64 t.bm, .int .i64 t.pl, .int .i64 t.pm, .int .i64 t.sl, .slice gxa t.gr.length gxc, .slice rxa t.rd.length rxc, .slice lxa t.lk.length lxc] 28 (0, 0)) ∧ W.ownsRow Bx 23 2 (.slice gxa t.gr.length gxc) t.gr.length (flatG gg) ∧ W.ownsRow Bx 75 6 (.slice lxa t.lk.length lxc) t.lk.length (flatK t.lk) ∧ W.ownsRow Bx 66 4 (.slice rxa t.rd.length rxc) t.rd.length (flatR (mapTo (renR (pf ps) (pf pt)) i t.rd))) ⟨_, ⟨rfl, E, EO, q4, q7, ogx, olx, (by rw [mapTo_0]; exact orx)⟩, F.sub (.c 9 rfl (.c 4 rfl (.c 5 rfl (.c 6 rfl (.c 7 rfl .n)))))⟩ ?_
    clear F F0
    clear E EO q4 q7 ogx olx
    clear orx
    rintro i _ fa w14 hi2 ⟨rfl, E, EO, q4, q7, ogx, olx, orx⟩ F
    refine wp_seq_k fun K16 hK16 => ?_
    refine wp_seq_k fun K17 hK17 => ?_
    refine wp_region_lit ?_
    refine F.mv ?_; clear F fa; intro fa F
    refine F.vl (R_field rfl (F.at rfl) Try.underlying28 rfl (n := 9) (sz := 1) rfl (by kernel_rfl) (by decide)) ?_; clear F fa; intro fa F
    refine F.vl (R_load rfl (F.at rfl) Try.underlying25 rfl ((cells_of_block q7 9).trans (getS (getS (getS (getS (getS (getS (getS (getS (getS (get0)))))))))))) ?_; clear F fa; intro fa F
    refine F.vl (R_len rfl rfl (F.at rfl) Try.underlying25) ?_; clear F fa; intro fa F
    refine F.vl (R_lss rfl (F.at rfl) (F.at rfl)) ?_; clear F fa; intro fa F
    refine wpList_nil ?_
    refine hK17 _ _ ?_
    clear hK17
    refine cd_if F rfl (fun hc59 => ?_) (fun hc59 => ?_)
    · skip
      refine wp_skip ?_
      refine hK16 _ _ ?_
      clear hK16
      refine wp_seq_k fun K18 hK18 => ?_
      refine wp_block ?_
      refine wp_seq_k fun K19 hK19 => ?_
      refine wp_region_lit ?_
      refine F.vl (R_field rfl (F.at rfl) Try.underlying28 rfl (n := 9) (sz := 1) rfl (by kernel_rfl) (by decide)) ?_; clear F fa; intro fa F
      refine F.vl (R_load rfl (F.at rfl) Try.underlying25 rfl ((cells_of_block q4 9).trans (getS (getS (getS (getS (getS (getS (getS (getS (getS (get0)))))))))))) ?_; clear F fa; intro fa F
      refine F.mv ?_; clear F fa; intro fa F
      obtain ⟨xb20, xo20, xa20, xr20⟩ := HRd.out i (by omega)
      refine F.vl (R_ixSlice (sz := 4) rfl ((F.at rfl).trans (xa20 _ _)) (F.at rfl) Try.underlying25 (by kernel_rfl) (by omega) (by omega)) ?_; clear F fa; intro fa F
      refine F.vl (R_loadRow rfl (F.at rfl) Try.underlying66 rfl (by kernel_rfl) (xr20 _ EO)) ?_; clear F fa; intro fa F
      refine sq_new F rfl (by decide) rfl (R_alloc rfl Try.zeroValue66) ?_; clear F fa; intro fa w15 F hw
      obtain ⟨n10, hn⟩ : ∃ n, n = w14.heap.size := ⟨_, rfl⟩
      rw [← hn] at F
      have s10 : w14.heap.size ≤ n10 := Nat.le_of_eq hn.symm
      have l10_E : w.heap.size ≤ n10 := by rw [hn]; exact E.size
      have l10_EO : w7.heap.size ≤ n10 := by rw [hn]; exact EO.size
      have m10_4 : n4 < n10 := by rw [hn]; exact blk_lt q4
      have m10_7 : n7 < n10 := by rw [hn]; exact blk_lt q7
      have o10_ogx := Lib.hid (own_ne_new ogx hn)
      have o10_olx := Lib.hid (own_ne_new olx hn)
      have o10_orx := Lib.hid (own_ne_new orx hn)
      replace ogx := owns_alloc hw ogx
      replace olx := owns_alloc hw olx
      replace orx := owns_alloc hw orx
      replace q4 := keep_alloc hw q4
      replace q7 := keep_alloc hw q7
      replace E := ext_alloc E hw
      replace EO := ext_alloc EO hw
      have q10 := new_row hw hn
      clear hw hn
      refine sq_to rfl rfl (R_storeRow rfl (F.at rfl) (F.at rfl) (by kernel_rfl) (by first | (simp [Value.oneCell']; done) | (simp [Value.oneCell', grRow, rdRow, lkRow]; done)) q10 rfl) ?_; intro w16 hw
      replace ogx := owns_cellsX hw ogx (own_ne_type ogx q10 (by decide))
      replace olx := owns_cellsX hw olx (own_ne_type olx q10 (by decide))
      replace orx := owns_cellsX hw orx o10_orx.out
      replace q4 := keep_cells hw q4 (by omega)
      replace q7 := keep_cells hw q7 (by omega)
      replace q10 := put_row hw q10 rfl
      replace E := ext_cells E hw (fun h => by first | exact absurd h (by omega) | simp)
      replace EO := ext_cells EO hw (fun h => by first | exact absurd h (by omega) | simp)
      clear hw
      refine wpList_nil ?_
      refine hK19 _ _ ?_
      clear hK19
      have hfl : (flatR (mapTo (renR (pf ps) (pf pt)) i t.rd)).length = t.rd.length * 4 := (flat_len (row := rdRow) (sz := 4) (fun _ => rfl) _).trans (by rw [mapTo_len])
      have HX := Lib.hid (slAt_of_owns orx (mapTo_len _ _ _).symm (fun _ => rfl) [] (by simp) (0, 0, 0, 0))
      have hlx := mapTo_len (renR (pf ps) (pf pt)) i t.rd
      have hrw := hokT.rd _ (getD_mem (0, 0, 0, 0) (show i < t.rd.length by omega))
      refine region_x (Ext [] w16) (some 19) follows fun w17 hh eh => ?_
      have q4_ := q4
      replace q4 := keep_same hh q4
      have q7_ := q7
      replace q7 := keep_same hh q7
      have q10_ := q10
      replace q10 := keep_same hh q10
      have E_ := E
      have zEw17 := E.size
      replace E := ext_same E eh
      have EO_ := EO
      have zEOw17 := EO.size
      replace EO := ext_same EO eh
      replace ogx := owns_same hh ogx
      replace olx := owns_same hh olx
      replace orx := owns_same hh orx
      have eT := eh
      clear hh eh
      refine F.x (i := 0) rfl (fun w' => R_field rfl (F.at rfl) Try.underlying28 rfl (n := 9) (sz := 1) rfl (by kernel_rfl) (by decide)) (fun _ => eT) ?_; clear F fa; intro fa F
      refine F.xr (i := 1) rfl (fun w' hS => R_load rfl (F.at rfl) Try.underlying25 rfl ((cells_of_block (hS.keep q7_ (by simp)) 9).trans (getS (getS (getS (getS (getS (getS (getS (getS (getS (get0)))))))))))) (fun _ => eT) ?_; clear F fa; intro fa F
      refine F.x (i := 2) rfl (fun w' => R_move rfl (F.at rfl)) (fun _ => eT) ?_; clear F fa; intro fa F
      refine F.x (i := 3) rfl (fun w' => R_move rfl (F.at rfl)) (fun _ => eT) ?_; clear F fa; intro fa F
      refine F.x (i := 4) rfl (fun w' => R_field rfl (F.at rfl) Try.underlying66 rfl (n := 0) (sz := 1) rfl (by kernel_rfl) (by decide)) (fun _ => eT) ?_; clear F fa; intro fa F
      refine F.xr (i := 5) rfl (fun w' hS => R_load rfl (F.at rfl) Try.underlying3 rfl ((cells_of_block (hS.keep q10_ (by simp)) 0).trans (get0))) (fun _ => eT) ?_; clear F fa; intro fa F
      obtain ⟨xb21, xo21, xa21, xr21⟩ := HSg.out (((t.rd.getD i (0, 0, 0, 0)).1).toNat) (by omega)
      refine F.x (i := 6) rfl (fun w' => R_ixSlice (sz := 1) rfl ((F.at rfl).trans (xa21 _ _)) (F.at rfl) Try.underlying29 (by kernel_rfl) (by omega) (by omega)) (fun _ => eT) ?_; clear F fa; intro fa F
      refine F.xr (i := 7) rfl (fun w' hS => R_load rfl (F.at rfl) Try.underlying3 rfl (xr21 _ (EO_.nil hS) 0 _ rfl)) (fun _ => eT) ?_; clear F fa; intro fa F
      refine F.x (i := 8) rfl (fun w' => R_field rfl (F.at rfl) Try.underlying66 rfl (n := 1) (sz := 1) rfl (by kernel_rfl) (by decide)) (fun _ => eT) ?_; clear F fa; intro fa F
      refine F.xr (i := 9) rfl (fun w' hS => R_load rfl (F.at rfl) Try.underlying3 rfl ((cells_of_block (hS.keep q10_ (by simp)) 1).trans (getS (get0)))) (fun _ => eT) ?_; clear F fa; intro fa F
      refine F.x (i := 10) rfl (fun w' => R_move rfl (F.at rfl)) (fun _ => eT) ?_; clear F fa; intro fa F
      refine F.x (i := 11) rfl (fun w' => R_field rfl (F.at rfl) Try.underlying66 rfl (n := 2) (sz := 1) rfl (by kernel_rfl) (by decide)) (fun _ => eT) ?_; clear F fa; intro fa F
      refine F.xr (i := 12) rfl (fun w' hS => R_load rfl (F.at rfl) Try.underlying3 rfl ((cells_of_block (hS.keep q10_ (by simp)) 2).trans (getS (getS (get0))))) (fun _ => eT) ?_; clear F fa; intro fa F
      obtain ⟨xb22, xo22, xa22, xr22⟩ := HTa.out (((t.rd.getD i (0, 0, 0, 0)).2.2.1).toNat) (by omega)
      refine F.x (i := 13) rfl (fun w' => R_ixSlice (sz := 1) rfl ((F.at rfl).trans (xa22 _ _)) (F.at rfl) Try.underlying29 (by kernel_rfl) (by omega) (by omega)) (fun _ => eT) ?_; clear F fa; intro fa F
      refine F.xr (i := 14) rfl (fun w' hS => R_load rfl (F.at rfl) Try.underlying3 rfl (xr22 _ (EO_.nil hS) 0 _ rfl)) (fun _ => eT) ?_; clear F fa; intro fa F
      refine F.x (i := 15) rfl (fun w' => R_field rfl (F.at rfl) Try.underlying66 rfl (n := 3) (sz := 1) rfl (by kernel_rfl) (by decide)) (fun _ => eT) ?_; clear F fa; intro fa F
      refine F.xr (i := 16) rfl (fun w' hS => R_load rfl (F.at rfl) Try.underlying3 rfl ((cells_of_block (hS.keep q10_ (by simp)) 3).trans (getS (getS (getS (get0)))))) (fun _ => eT) ?_; clear F fa; intro fa F
      refine ax_only (i := 17) (by kernel_rfl) (op_call F rfl rfl (by decide) rfl (R_callV rfl rfl Try.call58 (mpS (F.at rfl) (mpS (F.at rfl) (mpS (F.at rfl) (mpS (F.at rfl) mp0))))) (reading_any _ _ _ _ _) fun e w18 hR => ?_)
      obtain ⟨rfl, e9⟩ := hR
      refine ⟨_, rfl, ?_⟩; clear F fa; intro fa F
      replace ogx := owns_ext ogx (e9) (by simp)
      replace olx := owns_ext olx (e9) (by simp)
      replace orx := owns_ext orx (e9) (by simp)
      replace q4 := (e9).keep0 q4
      replace q7 := (e9).keep0 q7
      replace q10 := (e9).keep0 q10
      replace E := ext_same E (e9)
      replace EO := ext_same EO (e9)
      replace eT := ext_same eT (e9)
      clear e9
      refine ⟨fun _ => eT, ?_⟩
      obtain ⟨xb23, xo23, xa23, xr23⟩ := HX.out i (by omega)
      refine F.x (i := 18) rfl (fun w' => R_ixSlice (sz := 4) rfl ((F.at rfl).trans (xa23 _ _)) (F.at rfl) Try.underlying25 (by kernel_rfl) (by omega) (by omega)) (fun _ => eT) ?_; clear F fa; intro fa F
      obtain ⟨htr, hst⟩ := owns_atN xa23 4 orx (j := i * 4) (p := xo23 + ((i : Nat) : Int).toNat * 4) (by first | omega | (simp; omega)) (by omega)
      refine ax_only (i := 19) (by kernel_rfl) (op_to rfl rfl rfl (R_storeThere rfl (F.at rfl) (F.at rfl) (by kernel_rfl) (by simp [Value.oneCell', grRow, rdRow, lkRow]) htr) ?_); intro w19 hw
      obtain ⟨hown', hg⟩ := hst [.int .i64 (ps.getD (t.rd.getD i (0, 0, 0, 0)).1.toNat 0), .int .i64 ((t.rd.getD i (0, 0, 0, 0)).2.1), .int .i64 (pt.getD (t.rd.getD i (0, 0, 0, 0)).2.2.1.toNat 0), .int .i64 ((t.rd.getD i (0, 0, 0, 0)).2.2.2)] _ rfl hw
      clear hst htr hw
      replace q4 := keep_type orx hg q4 (by decide)
      replace q7 := (hg.block n7 (blk_lt q7) o7_orx.out).trans q7
      replace q10 := (hg.block n10 (blk_lt q10) o10_orx.out).trans q10
      replace ogx := owns_other ogx orx hg (by decide)
      replace olx := owns_other olx orx hg (by decide)
      replace E := ext_appendX E orx hg (by omega)
      replace EO := ext_appendX EO orx hg (by omega)
      replace orx := hown'
      clear hg
      refine ⟨gone (by kernel_rfl), ?_⟩
      rw [show [Value.int .i64 (ps.getD (t.rd.getD i (0, 0, 0, 0)).1.toNat 0), .int .i64 (t.rd.getD i (0, 0, 0, 0)).2.1, .int .i64 (pt.getD (t.rd.getD i (0, 0, 0, 0)).2.2.1.toNat 0), .int .i64 (t.rd.getD i (0, 0, 0, 0)).2.2.2] = rdRow (renR (pf ps) (pf pt) (t.rd.getD i (0, 0, 0, 0))) from rfl, show setL (flatR (mapTo (renR (pf ps) (pf pt)) i t.rd)) (i * 4) (rdRow (renR (pf ps) (pf pt) (t.rd.getD i (0, 0, 0, 0)))) = flatR ((mapTo (renR (pf ps) (pf pt)) i t.rd).set i (renR (pf ps) (pf pt) (t.rd.getD i (0, 0, 0, 0)))) from setL_flat (row := rdRow) (sz := 4) (fun _ => rfl) _ _ _ (by omega), mapTo_step _ _ _ (by omega)] at orx
      refine ax_done (by kernel_rfl) ?_ _
      clear eT q4_ q7_ q10_ E_ EO_
      refine hK18 _ _ ?_
      clear hK18
      refine wp_region_lit ?_
      refine F.mv ?_; clear F fa; intro fa F
      refine F.vl (R_add rfl (F.at rfl) (ev_c fa _) (by omega) (by omega)) ?_; clear F fa; intro fa F
      refine F.as ?_; clear F fa; intro fa F
      refine wpList_nil ?_
      show _ ∧ _
      exact ⟨by omega, _, ⟨rfl, E, EO, q4, q7, ogx, olx, orx⟩, F.sub (.c 9 rfl (.c 4 rfl (.c 5 rfl (.c 6 rfl (.c 7 rfl .n)))))⟩
    · skip
      refine wp_exit ?_
      rw [mapTo_all _ _ (by omega)] at orx
      refine hK14 _ _ ?_
      clear hK14
      refine wp_seq_k fun K24 hK24 => ?_
      refine wp_seq_k fun K25 hK25 => ?_
      refine wp_region_lit ?_
      refine F.vl (R_assign rfl (ev_c fa _)) ?_; clear F fa; intro fa F
      refine wpList_nil ?_
      refine hK25 _ _ ?_
      clear hK25
      refine wp_block ?_
      have F0 := F.sub (.c 4 rfl (.c 5 rfl (.c 6 rfl (.c 7 rfl .n))))
      refine lp_for F0 (t.lk.length) (fun i Lv W => Lv = [(11, .int .i64 ((i : Nat) : Int))] ∧ Ext [] w W ∧ Ext [] w7 W ∧ W.heap[n4]? = some (.cells #[.int .i64 t.S, .int .i64 t.A, .int .i64 t.T, .int .i64 t.bl, .int .i64 t.bm, .int .i64 t.pl, .int .i64 t.pm, .int .i64 t.sl, .slice ga t.gr.length gc, .slice ra t.rd.length rc, .slice la t.lk.length lc] 28 (0, 0)) ∧ W.heap[n7]? = some (.cells #[.int .i64 t.S, .int .i64 t.A, .int .i64 t.T, .int .i64 t.bl, .int .i64 t.bm, .int .i64 t.pl, .int .i64 t.pm, .int .i64 t.sl, .slice gxa t.gr.length gxc, .slice rxa t.rd.length rxc, .slice lxa t.lk.length lxc] 28 (0, 0)) ∧ W.ownsRow Bx 23 2 (.slice gxa t.gr.length gxc) t.gr.length (flatG gg) ∧ W.ownsRow Bx 66 4 (.slice rxa t.rd.length rxc) t.rd.length (flatR (t.rd.map (renR (pf ps) (pf pt)))) ∧ W.ownsRow Bx 75 6 (.slice lxa t.lk.length lxc) t.lk.length (flatK (mapTo (renK (pf ps)) i t.lk))) ⟨_, ⟨rfl, E, EO, q4, q7, ogx, orx, (by rw [mapTo_0]; exact olx)⟩, F.sub (.c 11 rfl (.c 4 rfl (.c 5 rfl (.c 6 rfl (.c 7 rfl .n)))))⟩ ?_
      clear F F0
      clear E EO q4 q7 ogx orx
      clear olx
      rintro i _ fa w20 hi3 ⟨rfl, E, EO, q4, q7, ogx, orx, olx⟩ F
      refine wp_seq_k fun K26 hK26 => ?_
      refine wp_seq_k fun K27 hK27 => ?_
      refine wp_region_lit ?_
      refine F.mv ?_; clear F fa; intro fa F
      refine F.vl (R_field rfl (F.at rfl) Try.underlying28 rfl (n := 10) (sz := 1) rfl (by kernel_rfl) (by decide)) ?_; clear F fa; intro fa F
      refine F.vl (R_load rfl (F.at rfl) Try.underlying26 rfl ((cells_of_block q7 10).trans (getS (getS (getS (getS (getS (getS (getS (getS (getS (getS (get0))))))))))))) ?_; clear F fa; intro fa F
      refine F.vl (R_len rfl rfl (F.at rfl) Try.underlying26) ?_; clear F fa; intro fa F
      refine F.vl (R_lss rfl (F.at rfl) (F.at rfl)) ?_; clear F fa; intro fa F
      refine wpList_nil ?_
      refine hK27 _ _ ?_
      clear hK27
      refine cd_if F rfl (fun hc90 => ?_) (fun hc90 => ?_)
      · skip
        refine wp_skip ?_
        refine hK26 _ _ ?_
        clear hK26
        refine wp_seq_k fun K28 hK28 => ?_
        refine wp_block ?_
        have hfl : (flatK (mapTo (renK (pf ps)) i t.lk)).length = t.lk.length * 6 := (flat_len (row := lkRow) (sz := 6) (fun _ => rfl) _).trans (by rw [mapTo_len])
        have HX := Lib.hid (slAt_of_owns olx (mapTo_len _ _ _).symm (fun _ => rfl) [] (by simp) (0, 0, 0, 0, 0, 0))
        have hlx := mapTo_len (renK (pf ps)) i t.lk
        have hrw := hokT.lk _ (getD_mem (0, 0, 0, 0, 0, 0) (show i < t.lk.length by omega))
        obtain ⟨ob, hob, hobB⟩ := own_ex olx (by omega)
        have hob7 : n7 ≠ ob := fun e => o7_olx.out (by rw [hob, e])
        refine region_x (Ext [ob] w20) none follows fun w21 hh eh => ?_
        have q4_ := q4
        replace q4 := keep_same hh q4
        have q7_ := q7
        replace q7 := keep_same hh q7
        have E_ := E
        have zEw21 := E.size
        replace E := ext_same E eh
        have EO_ := EO
        have zEOw21 := EO.size
        replace EO := ext_same EO eh
        replace ogx := owns_same hh ogx
        replace olx := owns_same hh olx
        replace orx := owns_same hh orx
        have eT := eh.mono (Y := [ob]) (by simp)
        clear hh eh
        refine F.x (i := 0) rfl (fun w' => R_field rfl (F.at rfl) Try.underlying28 rfl (n := 10) (sz := 1) rfl (by kernel_rfl) (by decide)) (fun _ => eT) ?_; clear F fa; intro fa F
        refine F.xr (i := 1) rfl (fun w' hS => R_load rfl (F.at rfl) Try.underlying26 rfl ((cells_of_block (hS.keep q7_ (by simp; omega)) 10).trans (getS (getS (getS (getS (getS (getS (getS (getS (getS (getS (get0))))))))))))) (fun _ => eT) ?_; clear F fa; intro fa F
        refine F.x (i := 2) rfl (fun w' => R_move rfl (F.at rfl)) (fun _ => eT) ?_; clear F fa; intro fa F
        refine F.x (i := 3) rfl (fun w' => R_field rfl (F.at rfl) Try.underlying28 rfl (n := 10) (sz := 1) rfl (by kernel_rfl) (by decide)) (fun _ => eT) ?_; clear F fa; intro fa F
        refine F.xr (i := 4) rfl (fun w' hS => R_load rfl (F.at rfl) Try.underlying26 rfl ((cells_of_block (hS.keep q7_ (by simp; omega)) 10).trans (getS (getS (getS (getS (getS (getS (getS (getS (getS (getS (get0))))))))))))) (fun _ => eT) ?_; clear F fa; intro fa F
        refine F.x (i := 5) rfl (fun w' => R_move rfl (F.at rfl)) (fun _ => eT) ?_; clear F fa; intro fa F
        refine F.x (i := 6) rfl (fun w' => R_move rfl (F.at rfl)) (fun _ => eT) ?_; clear F fa; intro fa F
        refine F.x (i := 7) rfl (fun w' => R_field rfl (F.at rfl) Try.underlying28 rfl (n := 10) (sz := 1) rfl (by kernel_rfl) (by decide)) (fun _ => eT) ?_; clear F fa; intro fa F
        refine F.xr (i := 8) rfl (fun w' hS => R_load rfl (F.at rfl) Try.underlying26 rfl ((cells_of_block (hS.keep q4_ (by simp; omega)) 10).trans (getS (getS (getS (getS (getS (getS (getS (getS (getS (getS (get0))))))))))))) (fun _ => eT) ?_; clear F fa; intro fa F
        refine F.x (i := 9) rfl (fun w' => R_move rfl (F.at rfl)) (fun _ => eT) ?_; clear F fa; intro fa F
        obtain ⟨xb29, xo29, xa29, xr29⟩ := HLk.out i (by omega)
        refine F.x (i := 10) rfl (fun w' => R_ixSlice (sz := 6) rfl ((F.at rfl).trans (xa29 _ _)) (F.at rfl) Try.underlying26 (by kernel_rfl) (by omega) (by omega)) (fun _ => eT) ?_; clear F fa; intro fa F
        refine F.x (i := 11) rfl (fun w' => R_field rfl (F.at rfl) Try.underlying75 rfl (n := xo29 + ((i : Nat) : Int).toNat * 6 + 0) (sz := 1) rfl (by kernel_rfl) (by decide)) (fun _ => eT) ?_; clear F fa; intro fa F
        refine F.xr (i := 12) rfl (fun w' hS => R_load rfl (F.at rfl) Try.underlying3 rfl (xr29 _ (EO_.trans' hS (fun i hi hl => by simp only [List.mem_cons, List.not_mem_nil, or_false] at hi ⊢; omega)) 0 _ rfl)) (fun _ => eT) ?_; clear F fa; intro fa F
        obtain ⟨xb30, xo30, xa30, xr30⟩ := HSg.out (((t.lk.getD i (0, 0, 0, 0, 0, 0)).1).toNat) (by omega)
        refine F.x (i := 13) rfl (fun w' => R_ixSlice (sz := 1) rfl ((F.at rfl).trans (xa30 _ _)) (F.at rfl) Try.underlying29 (by kernel_rfl) (by omega) (by omega)) (fun _ => eT) ?_; clear F fa; intro fa F
        refine F.xr (i := 14) rfl (fun w' hS => R_load rfl (F.at rfl) Try.underlying3 rfl (xr30 _ (EO_.trans' hS (fun i hi hl => by simp only [List.mem_cons, List.not_mem_nil, or_false] at hi ⊢; omega)) 0 _ rfl)) (fun _ => eT) ?_; clear F fa; intro fa F
        refine F.x (i := 15) rfl (fun w' => R_move rfl (F.at rfl)) (fun _ => eT) ?_; clear F fa; intro fa F
        refine F.x (i := 16) rfl (fun w' => R_field rfl (F.at rfl) Try.underlying28 rfl (n := 10) (sz := 1) rfl (by kernel_rfl) (by decide)) (fun _ => eT) ?_; clear F fa; intro fa F
        refine F.xr (i := 17) rfl (fun w' hS => R_load rfl (F.at rfl) Try.underlying26 rfl ((cells_of_block (hS.keep q4_ (by simp; omega)) 10).trans (getS (getS (getS (getS (getS (getS (getS (getS (getS (getS (get0))))))))))))) (fun _ => eT) ?_; clear F fa; intro fa F
        refine F.x (i := 18) rfl (fun w' => R_move rfl (F.at rfl)) (fun _ => eT) ?_; clear F fa; intro fa F
        obtain ⟨xb31, xo31, xa31, xr31⟩ := HLk.out i (by omega)
        refine F.x (i := 19) rfl (fun w' => R_ixSlice (sz := 6) rfl ((F.at rfl).trans (xa31 _ _)) (F.at rfl) Try.underlying26 (by kernel_rfl) (by omega) (by omega)) (fun _ => eT) ?_; clear F fa; intro fa F
        refine F.x (i := 20) rfl (fun w' => R_field rfl (F.at rfl) Try.underlying75 rfl (n := xo31 + ((i : Nat) : Int).toNat * 6 + 2) (sz := 1) rfl (by kernel_rfl) (by decide)) (fun _ => eT) ?_; clear F fa; intro fa F
        refine F.xr (i := 21) rfl (fun w' hS => R_load rfl (F.at rfl) Try.underlying3 rfl (xr31 _ (EO_.trans' hS (fun i hi hl => by simp only [List.mem_cons, List.not_mem_nil, or_false] at hi ⊢; omega)) 2 _ rfl)) (fun _ => eT) ?_; clear F fa; intro fa F
        obtain ⟨xb32, xo32, xa32, xr32⟩ := HSg.out (((t.lk.getD i (0, 0, 0, 0, 0, 0)).2.2.1).toNat) (by omega)
        refine F.x (i := 22) rfl (fun w' => R_ixSlice (sz := 1) rfl ((F.at rfl).trans (xa32 _ _)) (F.at rfl) Try.underlying29 (by kernel_rfl) (by omega) (by omega)) (fun _ => eT) ?_; clear F fa; intro fa F
        refine F.xr (i := 23) rfl (fun w' hS => R_load rfl (F.at rfl) Try.underlying3 rfl (xr32 _ (EO_.trans' hS (fun i hi hl => by simp only [List.mem_cons, List.not_mem_nil, or_false] at hi ⊢; omega)) 0 _ rfl)) (fun _ => eT) ?_; clear F fa; intro fa F
        obtain ⟨xb33, xo33, xa33, xr33⟩ := HX.out i (by omega)
        refine F.x (i := 24) rfl (fun w' => R_ixSlice (sz := 6) rfl ((F.at rfl).trans (xa33 _ _)) (F.at rfl) Try.underlying26 (by kernel_rfl) (by omega) (by omega)) (fun _ => eT) ?_; clear F fa; intro fa F
        refine F.x (i := 25) rfl (fun w' => R_field rfl (F.at rfl) Try.underlying75 rfl (n := xo33 + ((i : Nat) : Int).toNat * 6 + 0) (sz := 1) rfl (by kernel_rfl) (by decide)) (fun _ => eT) ?_; clear F fa; intro fa F
        obtain ⟨⟨u0, hcu⟩, hfu, hst⟩ := owns_at olx xa33 (j := i * 6) (p := xo33 + ((i : Nat) : Int).toNat * 6 + 0) (by first | omega | (simp; omega)) (by omega)
        refine ax_only (i := 26) (by kernel_rfl) (op_to rfl rfl rfl (R_store rfl (F.at rfl) (F.at rfl) rfl (by kernel_rfl) hcu hfu) ?_); intro w22 hw
        obtain ⟨hown', hg⟩ := hst _ _ hw
        clear hst hcu hfu hw
        replace q4 := keep_type olx hg q4 (by decide)
        replace q7 := (hg.block n7 (blk_lt q7) o7_olx.out).trans q7
        replace ogx := owns_other ogx olx hg (by decide)
        replace orx := owns_other orx olx hg (by decide)
        replace E := ext_appendX E olx hg (by omega)
        replace EO := ext_appendX EO olx hg (by omega)
        replace eT := ext_own eT hg hob (by simp)
        replace olx := hown'
        clear hg
        refine ⟨fun _ => eT, ?_⟩
        obtain ⟨xb34, xo34, xa34, xr34⟩ := HX.out i (by omega)
        refine F.x (i := 27) rfl (fun w' => R_ixSlice (sz := 6) rfl ((F.at rfl).trans (xa34 _ _)) (F.at rfl) Try.underlying26 (by kernel_rfl) (by omega) (by omega)) (fun _ => eT) ?_; clear F fa; intro fa F
        refine F.x (i := 28) rfl (fun w' => R_field rfl (F.at rfl) Try.underlying75 rfl (n := xo34 + ((i : Nat) : Int).toNat * 6 + 2) (sz := 1) rfl (by kernel_rfl) (by decide)) (fun _ => eT) ?_; clear F fa; intro fa F
        obtain ⟨⟨u0, hcu⟩, hfu, hst⟩ := owns_at olx xa34 (j := i * 6 + 2) (p := xo34 + ((i : Nat) : Int).toNat * 6 + 2) (by first | omega | (simp; omega)) (by omega)
        refine ax_only (i := 29) (by kernel_rfl) (op_to rfl rfl rfl (R_store rfl (F.at rfl) (F.at rfl) rfl (by kernel_rfl) hcu hfu) ?_); intro w23 hw
        obtain ⟨hown', hg⟩ := hst _ _ hw
        clear hst hcu hfu hw
        replace q4 := keep_type olx hg q4 (by decide)
        replace q7 := keep_type olx hg q7 (by decide)
        replace ogx := owns_other ogx olx hg (by decide)
        replace orx := owns_other orx olx hg (by decide)
        replace E := ext_appendX E olx hg (by omega)
        replace EO := ext_appendX EO olx hg (by omega)
        replace eT := ext_own eT hg hob (by simp)
        replace olx := hown'
        clear hg
        refine ⟨fun _ => eT, ?_⟩
        rw [flatK_set02 _ _ _ _ (by omega), mapTo_get _ _ _ (by omega)] at olx
        rw [show (mapTo (renK (pf ps)) i t.lk).set i (ps.getD (t.lk.getD i (0, 0, 0, 0, 0, 0)).1.toNat 0, (t.lk.getD i (0, 0, 0, 0, 0, 0)).2.1, ps.getD (t.lk.getD i (0, 0, 0, 0, 0, 0)).2.2.1.toNat 0, (t.lk.getD i (0, 0, 0, 0, 0, 0)).2.2.2.1, (t.lk.getD i (0, 0, 0, 0, 0, 0)).2.2.2.2.1, (t.lk.getD i (0, 0, 0, 0, 0, 0)).2.2.2.2.2) = mapTo (renK (pf ps)) (i + 1) t.lk from mapTo_step (renK (pf ps)) (0, 0, 0, 0, 0, 0) t.lk (by omega)] at olx
        refine ax_done (by kernel_rfl) ?_ _
        clear eT q4_ q7_ E_ EO_
        refine hK28 _ _ ?_
        clear hK28
        refine wp_region_lit ?_
        refine F.mv ?_; clear F fa; intro fa F
        refine F.vl (R_add rfl (F.at rfl) (ev_c fa _) (by omega) (by omega)) ?_; clear F fa; intro fa F
        refine F.as ?_; clear F fa; intro fa F
        refine wpList_nil ?_
        show _ ∧ _
        exact ⟨by omega, _, ⟨rfl, E, EO, q4, q7, ogx, orx, olx⟩, F.sub (.c 11 rfl (.c 4 rfl (.c 5 rfl (.c 6 rfl (.c 7 rfl .n)))))⟩
      · skip
        refine wp_exit ?_
        rw [mapTo_all _ _ (by omega)] at olx
        obtain ⟨uok, hqe, hqm, hqp⟩ := num_law hW hps hpt hgg.out (by omega) (numT t gg ps pt) rfl
        rw [show w20.ownsRow Bx 23 2 (.slice gxa t.gr.length gxc) t.gr.length (flatG gg) = w20.ownsRow Bx 23 2 (.slice gxa t.gr.length gxc) (numT t gg ps pt).gr.length (flatG (numT t gg ps pt).gr) by simp [numT, hggl]] at ogx
        rw [show w20.ownsRow Bx 66 4 (.slice rxa t.rd.length rxc) t.rd.length (flatR (t.rd.map (renR (pf ps) (pf pt)))) = w20.ownsRow Bx 66 4 (.slice rxa t.rd.length rxc) (numT t gg ps pt).rd.length (flatR (numT t gg ps pt).rd) by simp [numT]] at orx
        rw [show w20.ownsRow Bx 75 6 (.slice lxa t.lk.length lxc) t.lk.length (flatK (t.lk.map (renK (pf ps)))) = w20.ownsRow Bx 75 6 (.slice lxa t.lk.length lxc) (numT t gg ps pt).lk.length (flatK (numT t gg ps pt).lk) by simp [numT]] at olx
        have HU := Lib.hid (tp_of_owns (t := numT t gg ps pt) ogx orx olx)
        have u8 : (numT t gg ps pt).rd.length ≤ 8 := by simpa [numT] using t8
        clear ogx orx olx
        have EU : Ext [] w20 w20 := Ext.refl _ _
        refine hK24 _ _ ?_
        clear hK24
        refine wp_seq_k fun K35 hK35 => ?_
        refine wp_seq_k fun K36 hK36 => ?_
        refine wp_region_lit ?_
        refine F.vl (R_assign rfl (ev_c fa _)) ?_; clear F fa; intro fa F
        refine wpList_nil ?_
        refine hK36 _ _ ?_
        clear hK36
        refine wp_block ?_
        have F0 := F.sub (.c 4 rfl (.c 5 rfl (.c 6 rfl (.c 7 rfl .n))))
        refine lp_for F0 (t.S.toNat) (fun i Lv W => Lv = [(12, .int .i64 ((i : Nat) : Int))] ∧ Ext [] w20 W) ⟨_, ⟨rfl, Ext.refl _ _⟩, F.sub (.c 12 rfl (.c 4 rfl (.c 5 rfl (.c 6 rfl (.c 7 rfl .n)))))⟩ ?_
        clear F F0
        rintro i _ fa w24 hi4 ⟨rfl, EL4⟩ F
        have q4 := EL4.keep0 q4
        have q7 := EL4.keep0 q7
        have E := E.nil EL4
        have EO := EO.nil EL4
        have EU := EU.nil EL4
        refine wp_seq_k fun K37 hK37 => ?_
        refine wp_seq_k fun K38 hK38 => ?_
        refine wp_region_lit ?_
        refine F.mv ?_; clear F fa; intro fa F
        refine F.vl (R_field rfl (F.at rfl) Try.underlying28 rfl (n := 0) (sz := 1) rfl (by kernel_rfl) (by decide)) ?_; clear F fa; intro fa F
        refine F.vl (R_load rfl (F.at rfl) Try.underlying3 rfl ((cells_of_block q4 0).trans (get0))) ?_; clear F fa; intro fa F
        refine F.vl (R_lss rfl (F.at rfl) (F.at rfl)) ?_; clear F fa; intro fa F
        refine wpList_nil ?_
        refine hK38 _ _ ?_
        clear hK38
        refine cd_if F rfl (fun hc124 => ?_) (fun hc124 => ?_)
        · skip
          refine wp_skip ?_
          refine hK37 _ _ ?_
          clear hK37
          refine wp_seq_k fun K39 hK39 => ?_
          refine wp_block ?_
          refine wp_seq_k fun K40 hK40 => ?_
          refine wp_region_lit ?_
          refine F.vl (R_assign rfl (ev_c fa _)) ?_; clear F fa; intro fa F
          refine wpList_nil ?_
          refine hK40 _ _ ?_
          clear hK40
          refine wp_block ?_
          have F0 := F.sub (.c 4 rfl (.c 5 rfl (.c 6 rfl (.c 7 rfl (.c 12 rfl .n)))))
          refine lp_for F0 (t.A.toNat) (fun j Lv W => Lv = [(13, .int .i64 ((j : Nat) : Int))] ∧ Ext [] w24 W) ⟨_, ⟨rfl, Ext.refl _ _⟩, F.sub (.c 13 rfl (.c 4 rfl (.c 5 rfl (.c 6 rfl (.c 7 rfl (.c 12 rfl .n))))))⟩ ?_
          clear F F0
          rintro j _ fa w25 hi5 ⟨rfl, EL5⟩ F
          have q4 := EL5.keep0 q4
          have q7 := EL5.keep0 q7
          have E := E.nil EL5
          have EO := EO.nil EL5
          have EU := EU.nil EL5
          have EL4 := EL4.nil EL5
          refine wp_seq_k fun K41 hK41 => ?_
          refine wp_seq_k fun K42 hK42 => ?_
          refine wp_region_lit ?_
          refine F.mv ?_; clear F fa; intro fa F
          refine F.vl (R_field rfl (F.at rfl) Try.underlying28 rfl (n := 1) (sz := 1) rfl (by kernel_rfl) (by decide)) ?_; clear F fa; intro fa F
          refine F.vl (R_load rfl (F.at rfl) Try.underlying3 rfl ((cells_of_block q4 1).trans (getS (get0)))) ?_; clear F fa; intro fa F
          refine F.vl (R_lss rfl (F.at rfl) (F.at rfl)) ?_; clear F fa; intro fa F
          refine wpList_nil ?_
          refine hK42 _ _ ?_
          clear hK42
          refine cd_if F rfl (fun hc130 => ?_) (fun hc130 => ?_)
          · skip
            refine wp_skip ?_
            refine hK41 _ _ ?_
            clear hK41
            refine wp_seq_k fun K43 hK43 => ?_
            refine wp_block ?_
            refine wp_seq_k fun K44 hK44 => ?_
            have y1 : (0 : Int) ≤ (i : Int) := by omega
            have y2 : (i : Int) < t.S := by omega
            have y3 : (0 : Int) ≤ (j : Int) := by omega
            have y4 : (j : Int) < t.A := by omega
            have hpr := pf_rng hps y1 (show (i : Int) < (t.S.toNat : Nat) by omega)
            have hqm1 := hqm _ _ y1 y2 y3 y4
            rw [show pf ps (i : Int) = ps.getD i 0 from rfl] at hpr hqm1
            refine wp_region_lit ?_
            refine F.vl (R_loadBlk rfl (F.at rfl) Try.underlying28 rfl (by kernel_rfl) q4) ?_; clear F fa; intro fa F
            refine F.mv ?_; clear F fa; intro fa F
            refine F.mv ?_; clear F fa; intro fa F
            refine sq_call F rfl (by decide) rfl (R_callV rfl rfl Try.call33 (mpS (F.at rfl) (mpS (F.at rfl) (mpS (F.at rfl) mp0)))) (meas_q hokT t8 ((HT).out.ext EO (by simp)) y1 y2 y3 y4) fun e w26 hR => ?_
            obtain ⟨rfl, e9⟩ := hR
            refine ⟨_, rfl, ?_⟩; clear F fa; intro fa F
            replace q4 := (e9).keep0 q4
            replace q7 := (e9).keep0 q7
            replace E := ext_same E (e9)
            replace EO := ext_same EO (e9)
            replace EU := ext_same EU (e9)
            replace EL4 := ext_same EL4 (e9)
            replace EL5 := ext_same EL5 (e9)
            clear e9
            refine F.mv ?_; clear F fa; intro fa F
            refine F.vl (R_extract rfl (F.at rfl) (get0)) ?_; clear F fa; intro fa F
            refine F.vl (R_extract rfl (F.at rfl) (getS (get0))) ?_; clear F fa; intro fa F
            refine sq_new F rfl (by decide) rfl (R_alloc rfl Try.zeroValue23) ?_; clear F fa; intro fa w27 F hw
            obtain ⟨n14, hn⟩ : ∃ n, n = w26.heap.size := ⟨_, rfl⟩
            rw [← hn] at F
            have s14 : w26.heap.size ≤ n14 := Nat.le_of_eq hn.symm
            have l14_E : w.heap.size ≤ n14 := by rw [hn]; exact E.size
            have l14_EO : w7.heap.size ≤ n14 := by rw [hn]; exact EO.size
            have l14_EU : w20.heap.size ≤ n14 := by rw [hn]; exact EU.size
            have l14_EL4 : w20.heap.size ≤ n14 := by rw [hn]; exact EL4.size
            have l14_EL5 : w24.heap.size ≤ n14 := by rw [hn]; exact EL5.size
            have m14_4 : n4 < n14 := by rw [hn]; exact blk_lt q4
            have m14_7 : n7 < n14 := by rw [hn]; exact blk_lt q7
            replace q4 := keep_alloc hw q4
            replace q7 := keep_alloc hw q7
            replace E := ext_alloc E hw
            replace EO := ext_alloc EO hw
            replace EU := ext_alloc EU hw
            replace EL4 := ext_alloc EL4 hw
            replace EL5 := ext_alloc EL5 hw
            have q14 := new_row hw hn
            clear hw hn
            refine sq_to rfl rfl (R_storeRow rfl (F.at rfl) (F.at rfl) (by kernel_rfl) (by first | (simp [Value.oneCell']; done) | (simp [Value.oneCell', grRow, rdRow, lkRow]; done)) q14 rfl) ?_; intro w28 hw
            replace q4 := keep_cells hw q4 (by omega)
            replace q7 := keep_cells hw q7 (by omega)
            replace q14 := put_row hw q14 rfl
            replace E := ext_cells E hw (fun h => by first | exact absurd h (by omega) | simp)
            replace EO := ext_cells EO hw (fun h => by first | exact absurd h (by omega) | simp)
            replace EU := ext_cells EU hw (fun h => by first | exact absurd h (by omega) | simp)
            replace EL4 := ext_cells EL4 hw (fun h => by first | exact absurd h (by omega) | simp)
            replace EL5 := ext_cells EL5 hw (fun h => by first | exact absurd h (by omega) | simp)
            clear hw
            refine F.as ?_; clear F fa; intro fa F
            refine wpList_nil ?_
            refine hK44 _ _ ?_
            clear hK44
            refine wp_seq_k fun K45 hK45 => ?_
            suffices hcut : ∀ (n16 : Nat) (fa : Act) (w36 : World), Has 188 fa [(4, .pointer (some ⟨n4, 0, none⟩)), (5, .slice sa t.S.toNat sc), (6, .slice ta t.T.toNat tc), (7, .pointer (some ⟨n7, 0, none⟩)), (12, .int .i64 ((i : Nat) : Int)), (13, .int .i64 ((j : Nat) : Int)), (14, .pointer (some ⟨n14, 0, none⟩)), (15, .int .i64 (qe t)), (16, .pointer (some ⟨n16, 0, none⟩)), (17, .int .i64 (qe t))] → w36.heap[n4]? = some (.cells #[.int .i64 t.S, .int .i64 t.A, .int .i64 t.T, .int .i64 t.bl, .int .i64 t.bm, .int .i64 t.pl, .int .i64 t.pm, .int .i64 t.sl, .slice ga t.gr.length gc, .slice ra t.rd.length rc, .slice la t.lk.length lc] 28 (0, 0)) → w36.heap[n7]? = some (.cells #[.int .i64 t.S, .int .i64 t.A, .int .i64 t.T, .int .i64 t.bl, .int .i64 t.bm, .int .i64 t.pl, .int .i64 t.pm, .int .i64 t.sl, .slice gxa t.gr.length gxc, .slice rxa t.rd.length rxc, .slice lxa t.lk.length lxc] 28 (0, 0)) → w36.heap[n14]? = some (.cells #[.int .i64 (qlo t (i : Int) (j : Int)), .int .i64 (qhi t (i : Int) (j : Int))] 23 (0, 0)) → w36.heap[n16]? = some (.cells #[.int .i64 (qlo t i j), .int .i64 (qhi t i j)] 23 (0, 0)) → Ext [] w w36 → Ext [] w7 w36 → Ext [] w20 w36 → Ext [] w20 w36 → Ext [] w24 w36 → w.heap.size ≤ n16 → w7.heap.size ≤ n16 → w20.heap.size ≤ n16 → w20.heap.size ≤ n16 → w24.heap.size ≤ n16 → n4 ≠ n16 → n7 ≠ n16 → n14 ≠ n16 → K45 fa w36 by
              refine region_x (Ext [] w28) none follows fun w29 hh eh => ?_
              have q4_ := q4
              replace q4 := keep_same hh q4
              have q7_ := q7
              replace q7 := keep_same hh q7
              have q14_ := q14
              replace q14 := keep_same hh q14
              have E_ := E
              have zEw29 := E.size
              replace E := ext_same E eh
              have EO_ := EO
              have zEOw29 := EO.size
              replace EO := ext_same EO eh
              have EU_ := EU
              have zEUw29 := EU.size
              replace EU := ext_same EU eh
              have EL4_ := EL4
              have zEL4w29 := EL4.size
              replace EL4 := ext_same EL4 eh
              have EL5_ := EL5
              have zEL5w29 := EL5.size
              replace EL5 := ext_same EL5 eh
              have eT := eh
              clear hh eh
              refine F.xr (i := 0) rfl (fun w' hS => R_loadBlk rfl (F.at rfl) Try.underlying28 rfl (by kernel_rfl) (hS.keep q7_ (by simp))) (fun _ => eT) ?_; clear F fa; intro fa F
              refine F.x (i := 1) rfl (fun w' => R_move rfl (F.at rfl)) (fun _ => eT) ?_; clear F fa; intro fa F
              refine F.x (i := 2) rfl (fun w' => R_move rfl (F.at rfl)) (fun _ => eT) ?_; clear F fa; intro fa F
              obtain ⟨xb46, xo46, xa46, xr46⟩ := HSg.out i (by omega)
              refine F.x (i := 3) rfl (fun w' => R_ixSlice (sz := 1) rfl ((F.at rfl).trans (xa46 _ _)) (F.at rfl) Try.underlying29 (by kernel_rfl) (by omega) (by omega)) (fun _ => eT) ?_; clear F fa; intro fa F
              refine F.xr (i := 4) rfl (fun w' hS => R_load rfl (F.at rfl) Try.underlying3 rfl (xr46 _ (EO_.nil hS) 0 _ rfl)) (fun _ => eT) ?_; clear F fa; intro fa F
              refine F.x (i := 5) rfl (fun w' => R_move rfl (F.at rfl)) (fun _ => eT) ?_; clear F fa; intro fa F
              refine ax_pair (i := 6) (j := 10) (by kernel_rfl) ?_ ?_
              · skip
                refine (op_call F rfl rfl (by decide) rfl (R_callV rfl rfl Try.call33 (mpS (F.at rfl) (mpS (F.at rfl) (mpS (F.at rfl) mp0)))) (meas_q uok u8 ((HU).out.ext EU (by simp)) hpr.1 (show ps.getD i 0 < t.S by omega) y3 y4) fun e w30 hR => ?_)
                obtain ⟨rfl, e9⟩ := hR
                refine ⟨_, rfl, ?_⟩; clear F fa; intro fa F
                replace q4 := (e9).keep0 q4
                replace q7 := (e9).keep0 q7
                replace q14 := (e9).keep0 q14
                replace E := ext_same E (e9)
                replace EO := ext_same EO (e9)
                replace EU := ext_same EU (e9)
                replace EL4 := ext_same EL4 (e9)
                replace EL5 := ext_same EL5 (e9)
                replace eT := ext_same eT (e9)
                clear e9
                refine ⟨fun _ => eT, ?_⟩
                rw [hqe, hqm1.1, hqm1.2] at F
                refine F.x (i := 7) rfl (fun w' => R_move rfl (F.at rfl)) (fun _ => eT) ?_; clear F fa; intro fa F
                refine F.x (i := 8) rfl (fun w' => R_extract rfl (F.at rfl) (get0)) (fun _ => eT) ?_; clear F fa; intro fa F
                refine F.x (i := 9) rfl (fun w' => R_extract rfl (F.at rfl) (getS (get0))) (fun _ => eT) ?_; clear F fa; intro fa F
                refine ax_only (i := 10) (by kernel_rfl) (op_new F rfl rfl (by decide) rfl (R_alloc rfl Try.zeroValue23) ?_); clear F fa; intro fa w31 F hw
                obtain ⟨n16, hn⟩ : ∃ n, n = w30.heap.size := ⟨_, rfl⟩
                rw [← hn] at F
                have s16 : w30.heap.size ≤ n16 := Nat.le_of_eq hn.symm
                have l16_E : w.heap.size ≤ n16 := by rw [hn]; exact E.size
                have l16_EO : w7.heap.size ≤ n16 := by rw [hn]; exact EO.size
                have l16_EU : w20.heap.size ≤ n16 := by rw [hn]; exact EU.size
                have l16_EL4 : w20.heap.size ≤ n16 := by rw [hn]; exact EL4.size
                have l16_EL5 : w24.heap.size ≤ n16 := by rw [hn]; exact EL5.size
                have lT16 : w28.heap.size ≤ n16 := by rw [hn]; exact eT.size
                have m16_4 : n4 < n16 := by rw [hn]; exact blk_lt q4
                have m16_7 : n7 < n16 := by rw [hn]; exact blk_lt q7
                have m16_14 : n14 < n16 := by rw [hn]; exact blk_lt q14
                replace q4 := keep_alloc hw q4
                replace q7 := keep_alloc hw q7
                replace q14 := keep_alloc hw q14
                replace E := ext_alloc E hw
                replace EO := ext_alloc EO hw
                replace EU := ext_alloc EU hw
                replace EL4 := ext_alloc EL4 hw
                replace EL5 := ext_alloc EL5 hw
                replace eT := ext_alloc eT hw
                have q16 := new_row hw hn
                clear hw hn
                refine ⟨fun _ => eT, ?_⟩
                refine ax_only (i := 11) (by kernel_rfl) (op_to rfl rfl rfl (R_storeRow rfl (F.at rfl) (F.at rfl) (by kernel_rfl) (by first | (simp [Value.oneCell']; done) | (simp [Value.oneCell', grRow, rdRow, lkRow]; done)) q16 rfl) ?_); intro w32 hw
                replace q4 := keep_cells hw q4 (by omega)
                replace q7 := keep_cells hw q7 (by omega)
                replace q14 := keep_cells hw q14 (by omega)
                replace q16 := put_row hw q16 rfl
                replace E := ext_cells E hw (fun h => by first | exact absurd h (by omega) | simp)
                replace EO := ext_cells EO hw (fun h => by first | exact absurd h (by omega) | simp)
                replace EU := ext_cells EU hw (fun h => by first | exact absurd h (by omega) | simp)
                replace EL4 := ext_cells EL4 hw (fun h => by first | exact absurd h (by omega) | simp)
                replace EL5 := ext_cells EL5 hw (fun h => by first | exact absurd h (by omega) | simp)
                replace eT := ext_cells eT hw (fun h => by first | exact absurd h (by omega) | simp)
                clear hw
                refine ⟨fun _ => eT, ?_⟩
                refine F.x (i := 12) rfl (fun w' => R_assign rfl (F.at rfl)) (fun _ => eT) ?_; clear F fa; intro fa F
                refine ax_done (by kernel_rfl) ?_ _
                exact hcut _ _ _ (F.sub (.c 4 rfl (.c 5 rfl (.c 6 rfl (.c 7 rfl (.c 12 rfl (.c 13 rfl (.c 14 rfl (.c 15 rfl (.c 16 rfl (.c 17 rfl .n))))))))))) q4 q7 q14 q16 E EO EU EL4 EL5 (by omega) (by omega) (by omega) (by omega) (by omega) (by omega) (by omega) (by omega)
              · skip
                refine (op_new F rfl rfl (by decide) rfl (R_alloc rfl Try.zeroValue23) ?_); clear F fa; intro fa w33 F hw
                obtain ⟨n16, hn⟩ : ∃ n, n = w29.heap.size := ⟨_, rfl⟩
                rw [← hn] at F
                have s16 : w29.heap.size ≤ n16 := Nat.le_of_eq hn.symm
                have l16_E : w.heap.size ≤ n16 := by rw [hn]; exact E.size
                have l16_EO : w7.heap.size ≤ n16 := by rw [hn]; exact EO.size
                have l16_EU : w20.heap.size ≤ n16 := by rw [hn]; exact EU.size
                have l16_EL4 : w20.heap.size ≤ n16 := by rw [hn]; exact EL4.size
                have l16_EL5 : w24.heap.size ≤ n16 := by rw [hn]; exact EL5.size
                have lT16 : w28.heap.size ≤ n16 := by rw [hn]; exact eT.size
                have m16_4 : n4 < n16 := by rw [hn]; exact blk_lt q4
                have m16_7 : n7 < n16 := by rw [hn]; exact blk_lt q7
                have m16_14 : n14 < n16 := by rw [hn]; exact blk_lt q14
                replace q4 := keep_alloc hw q4
                replace q7 := keep_alloc hw q7
                replace q14 := keep_alloc hw q14
                replace E := ext_alloc E hw
                replace EO := ext_alloc EO hw
                replace EU := ext_alloc EU hw
                replace EL4 := ext_alloc EL4 hw
                replace EL5 := ext_alloc EL5 hw
                replace eT := ext_alloc eT hw
                have q16 := new_row hw hn
                clear hw hn
                refine ⟨fun _ => eT, ?_⟩
                refine ax_only (i := 6) (by kernel_rfl) (op_call F rfl rfl (by decide) rfl (R_callV rfl rfl Try.call33 (mpS (F.at rfl) (mpS (F.at rfl) (mpS (F.at rfl) mp0)))) (meas_q uok u8 ((HU).out.ext EU (by simp)) hpr.1 (show ps.getD i 0 < t.S by omega) y3 y4) fun e w34 hR => ?_)
                obtain ⟨rfl, e9⟩ := hR
                refine ⟨_, rfl, ?_⟩; clear F fa; intro fa F
                replace q4 := (e9).keep0 q4
                replace q7 := (e9).keep0 q7
                replace q14 := (e9).keep0 q14
                replace q16 := (e9).keep0 q16
                replace E := ext_same E (e9)
                replace EO := ext_same EO (e9)
                replace EU := ext_same EU (e9)
                replace EL4 := ext_same EL4 (e9)
                replace EL5 := ext_same EL5 (e9)
                replace eT := ext_same eT (e9)
                clear e9
                refine ⟨fun _ => eT, ?_⟩
                rw [hqe, hqm1.1, hqm1.2] at F
                refine F.x (i := 7) rfl (fun w' => R_move rfl (F.at rfl)) (fun _ => eT) ?_; clear F fa; intro fa F
                refine F.x (i := 8) rfl (fun w' => R_extract rfl (F.at rfl) (get0)) (fun _ => eT) ?_; clear F fa; intro fa F
                refine F.x (i := 9) rfl (fun w' => R_extract rfl (F.at rfl) (getS (get0))) (fun _ => eT) ?_; clear F fa; intro fa F
                refine ax_only (i := 11) (by kernel_rfl) (op_to rfl rfl rfl (R_storeRow rfl (F.at rfl) (F.at rfl) (by kernel_rfl) (by first | (simp [Value.oneCell']; done) | (simp [Value.oneCell', grRow, rdRow, lkRow]; done)) q16 rfl) ?_); intro w35 hw
                replace q4 := keep_cells hw q4 (by omega)
                replace q7 := keep_cells hw q7 (by omega)
                replace q14 := keep_cells hw q14 (by omega)
                replace q16 := put_row hw q16 rfl
                replace E := ext_cells E hw (fun h => by first | exact absurd h (by omega) | simp)
                replace EO := ext_cells EO hw (fun h => by first | exact absurd h (by omega) | simp)
                replace EU := ext_cells EU hw (fun h => by first | exact absurd h (by omega) | simp)
                replace EL4 := ext_cells EL4 hw (fun h => by first | exact absurd h (by omega) | simp)
                replace EL5 := ext_cells EL5 hw (fun h => by first | exact absurd h (by omega) | simp)
                replace eT := ext_cells eT hw (fun h => by first | exact absurd h (by omega) | simp)
                clear hw
                refine ⟨fun _ => eT, ?_⟩
                refine F.x (i := 12) rfl (fun w' => R_assign rfl (F.at rfl)) (fun _ => eT) ?_; clear F fa; intro fa F
                refine ax_done (by kernel_rfl) ?_ _
                exact hcut _ _ _ (F.sub (.c 4 rfl (.c 5 rfl (.c 6 rfl (.c 7 rfl (.c 12 rfl (.c 13 rfl (.c 14 rfl (.c 15 rfl (.c 16 rfl (.c 17 rfl .n))))))))))) q4 q7 q14 q16 E EO EU EL4 EL5 (by omega) (by omega) (by omega) (by omega) (by omega) (by omega) (by omega) (by omega)
            clear F q4 q7 q14 E EO EU EL4 EL5 fa
            intro n16  fa w36 F q4 q7 q14 q16 E EO EU EL4 EL5 l16_E l16_EO l16_EU l16_EL4 l16_EL5 m16_4 m16_7 m16_14
            refine hK45 _ _ ?_
            clear hK45
            refine wp_seq_k fun K47 hK47 => ?_
            refine wp_region_lit ?_
            refine F.mv ?_; clear F fa; intro fa F
            refine F.mv ?_; clear F fa; intro fa F
            refine F.vl (R_neqB (b := false) rfl (F.at rfl) (F.at rfl) (decide_eq_true rfl)) ?_; clear F fa; intro fa F
            refine F.mv ?_; clear F fa; intro fa F
            refine F.vl (R_loadBlk rfl (F.at rfl) Try.underlying23 rfl (by kernel_rfl) q14) ?_ (hw := (wantT F rfl rfl (by decide) rfl)); clear F fa; intro fa F
            refine F.vl (R_loadBlk rfl (F.at rfl) Try.underlying23 rfl (by kernel_rfl) q16) ?_ (hw := (wantT F rfl rfl (by decide) rfl)); clear F fa; intro fa F
            refine F.vl (R_neqBt (r := false) rfl (F.at rfl) (F.at rfl) (decide_eq_true (⟨rfl, rfl⟩))) ?_ (hw := (wantT F rfl rfl (by decide) rfl)); clear F fa; intro fa F
            refine F.vl (R_pickF rfl (F.at rfl) (F.at rfl)) ?_; clear F fa; intro fa F
            refine wpList_nil ?_
            refine hK47 _ _ ?_
            clear hK47
            refine cd_F F rfl ?_
            refine wp_skip ?_
            refine hK43 _ _ ?_
            clear hK43
            refine wp_region_lit ?_
            refine F.mv ?_; clear F fa; intro fa F
            refine F.vl (R_add rfl (F.at rfl) (ev_c fa _) (by omega) (by omega)) ?_; clear F fa; intro fa F
            refine F.as ?_; clear F fa; intro fa F
            refine wpList_nil ?_
            show _ ∧ _
            exact ⟨by omega, _, ⟨rfl, EL5⟩, F.sub (.c 13 rfl (.c 4 rfl (.c 5 rfl (.c 6 rfl (.c 7 rfl (.c 12 rfl .n))))))⟩
          · skip
            refine wp_exit ?_
            refine hK39 _ _ ?_
            clear hK39
            refine wp_region_lit ?_
            refine F.mv ?_; clear F fa; intro fa F
            refine F.vl (R_add rfl (F.at rfl) (ev_c fa _) (by omega) (by omega)) ?_; clear F fa; intro fa F
            refine F.as ?_; clear F fa; intro fa F
            refine wpList_nil ?_
            show _ ∧ _
            exact ⟨by omega, _, ⟨rfl, EL4⟩, F.sub (.c 12 rfl (.c 4 rfl (.c 5 rfl (.c 6 rfl (.c 7 rfl .n)))))⟩
        · skip
          refine wp_exit ?_
          refine hK35 _ _ ?_
          clear hK35
          refine wp_seq_k fun K48 hK48 => ?_
          refine wp_seq_k fun K49 hK49 => ?_
          refine wp_region_lit ?_
          refine F.vl (R_assign rfl (ev_c fa _)) ?_; clear F fa; intro fa F
          refine wpList_nil ?_
          refine hK49 _ _ ?_
          clear hK49
          refine wp_block ?_
          have F0 := F.sub (.c 4 rfl (.c 6 rfl (.c 7 rfl .n)))
          refine lp_for F0 (t.T.toNat) (fun i Lv W => Lv = [(18, .int .i64 ((i : Nat) : Int))] ∧ Ext [] w24 W) ⟨_, ⟨rfl, Ext.refl _ _⟩, F.sub (.c 18 rfl (.c 4 rfl (.c 6 rfl (.c 7 rfl .n))))⟩ ?_
          clear F F0
          rintro i _ fa w37 hi6 ⟨rfl, EL6⟩ F
          have q4 := EL6.keep0 q4
          have q7 := EL6.keep0 q7
          have E := E.nil EL6
          have EO := EO.nil EL6
          have EU := EU.nil EL6
          refine wp_seq_k fun K50 hK50 => ?_
          refine wp_seq_k fun K51 hK51 => ?_
          refine wp_region_lit ?_
          refine F.mv ?_; clear F fa; intro fa F
          refine F.vl (R_field rfl (F.at rfl) Try.underlying28 rfl (n := 2) (sz := 1) rfl (by kernel_rfl) (by decide)) ?_; clear F fa; intro fa F
          refine F.vl (R_load rfl (F.at rfl) Try.underlying3 rfl ((cells_of_block q4 2).trans (getS (getS (get0))))) ?_; clear F fa; intro fa F
          refine F.vl (R_lss rfl (F.at rfl) (F.at rfl)) ?_; clear F fa; intro fa F
          refine wpList_nil ?_
          refine hK51 _ _ ?_
          clear hK51
          refine cd_if F rfl (fun hc161 => ?_) (fun hc161 => ?_)
          · skip
            refine wp_skip ?_
            refine hK50 _ _ ?_
            clear hK50
            refine wp_seq_k fun K52 hK52 => ?_
            refine wp_block ?_
            refine wp_seq_k fun K53 hK53 => ?_
            have y1 : (0 : Int) ≤ (i : Int) := by omega
            have y2 : (i : Int) < t.T := by omega
            have hpr := pf_rng hpt y1 (show (i : Int) < (t.T.toNat : Nat) by omega)
            have hqp1 := hqp _ y1 y2
            rw [show pf pt (i : Int) = pt.getD i 0 from rfl] at hpr hqp1
            refine wp_region_lit ?_
            refine F.vl (R_loadBlk rfl (F.at rfl) Try.underlying28 rfl (by kernel_rfl) q4) ?_; clear F fa; intro fa F
            refine F.mv ?_; clear F fa; intro fa F
            refine sq_call F rfl (by decide) rfl (R_callV rfl rfl Try.call35 (mpS (F.at rfl) (mpS (F.at rfl) mp0))) (pull_q hokT t8 ((HT).out.ext EO (by simp)) y1 y2) fun e w38 hR => ?_
            obtain ⟨rfl, e9⟩ := hR
            refine ⟨_, rfl, ?_⟩; clear F fa; intro fa F
            replace q4 := (e9).keep0 q4
            replace q7 := (e9).keep0 q7
            replace E := ext_same E (e9)
            replace EO := ext_same EO (e9)
            replace EU := ext_same EU (e9)
            replace EL6 := ext_same EL6 (e9)
            clear e9
            refine F.mv ?_; clear F fa; intro fa F
            refine F.vl (R_extract rfl (F.at rfl) (get0)) ?_; clear F fa; intro fa F
            refine F.vl (R_extract rfl (F.at rfl) (getS (get0))) ?_; clear F fa; intro fa F
            refine sq_new F rfl (by decide) rfl (R_alloc rfl Try.zeroValue23) ?_; clear F fa; intro fa w39 F hw
            obtain ⟨n19, hn⟩ : ∃ n, n = w38.heap.size := ⟨_, rfl⟩
            rw [← hn] at F
            have s19 : w38.heap.size ≤ n19 := Nat.le_of_eq hn.symm
            have l19_E : w.heap.size ≤ n19 := by rw [hn]; exact E.size
            have l19_EO : w7.heap.size ≤ n19 := by rw [hn]; exact EO.size
            have l19_EU : w20.heap.size ≤ n19 := by rw [hn]; exact EU.size
            have l19_EL6 : w24.heap.size ≤ n19 := by rw [hn]; exact EL6.size
            have m19_4 : n4 < n19 := by rw [hn]; exact blk_lt q4
            have m19_7 : n7 < n19 := by rw [hn]; exact blk_lt q7
            replace q4 := keep_alloc hw q4
            replace q7 := keep_alloc hw q7
            replace E := ext_alloc E hw
            replace EO := ext_alloc EO hw
            replace EU := ext_alloc EU hw
            replace EL6 := ext_alloc EL6 hw
            have q19 := new_row hw hn
            clear hw hn
            refine sq_to rfl rfl (R_storeRow rfl (F.at rfl) (F.at rfl) (by kernel_rfl) (by first | (simp [Value.oneCell']; done) | (simp [Value.oneCell', grRow, rdRow, lkRow]; done)) q19 rfl) ?_; intro w40 hw
            replace q4 := keep_cells hw q4 (by omega)
            replace q7 := keep_cells hw q7 (by omega)
            replace q19 := put_row hw q19 rfl
            replace E := ext_cells E hw (fun h => by first | exact absurd h (by omega) | simp)
            replace EO := ext_cells EO hw (fun h => by first | exact absurd h (by omega) | simp)
            replace EU := ext_cells EU hw (fun h => by first | exact absurd h (by omega) | simp)
            replace EL6 := ext_cells EL6 hw (fun h => by first | exact absurd h (by omega) | simp)
            clear hw
            refine F.as ?_; clear F fa; intro fa F
            refine wpList_nil ?_
            refine hK53 _ _ ?_
            clear hK53
            refine wp_seq_k fun K54 hK54 => ?_
            suffices hcut : ∀ (n21 : Nat) (fa : Act) (w48 : World), Has 188 fa [(4, .pointer (some ⟨n4, 0, none⟩)), (6, .slice ta t.T.toNat tc), (7, .pointer (some ⟨n7, 0, none⟩)), (18, .int .i64 ((i : Nat) : Int)), (19, .pointer (some ⟨n19, 0, none⟩)), (20, .int .i64 (qe t)), (21, .pointer (some ⟨n21, 0, none⟩)), (22, .int .i64 (qe t))] → w48.heap[n4]? = some (.cells #[.int .i64 t.S, .int .i64 t.A, .int .i64 t.T, .int .i64 t.bl, .int .i64 t.bm, .int .i64 t.pl, .int .i64 t.pm, .int .i64 t.sl, .slice ga t.gr.length gc, .slice ra t.rd.length rc, .slice la t.lk.length lc] 28 (0, 0)) → w48.heap[n7]? = some (.cells #[.int .i64 t.S, .int .i64 t.A, .int .i64 t.T, .int .i64 t.bl, .int .i64 t.bm, .int .i64 t.pl, .int .i64 t.pm, .int .i64 t.sl, .slice gxa t.gr.length gxc, .slice rxa t.rd.length rxc, .slice lxa t.lk.length lxc] 28 (0, 0)) → w48.heap[n19]? = some (.cells #[.int .i64 (rlo t (i : Int)), .int .i64 (rhi t (i : Int))] 23 (0, 0)) → w48.heap[n21]? = some (.cells #[.int .i64 (rlo t i), .int .i64 (rhi t i)] 23 (0, 0)) → Ext [] w w48 → Ext [] w7 w48 → Ext [] w20 w48 → Ext [] w24 w48 → w.heap.size ≤ n21 → w7.heap.size ≤ n21 → w20.heap.size ≤ n21 → w24.heap.size ≤ n21 → n4 ≠ n21 → n7 ≠ n21 → n19 ≠ n21 → K54 fa w48 by
              refine region_x (Ext [] w40) none follows fun w41 hh eh => ?_
              have q4_ := q4
              replace q4 := keep_same hh q4
              have q7_ := q7
              replace q7 := keep_same hh q7
              have q19_ := q19
              replace q19 := keep_same hh q19
              have E_ := E
              have zEw41 := E.size
              replace E := ext_same E eh
              have EO_ := EO
              have zEOw41 := EO.size
              replace EO := ext_same EO eh
              have EU_ := EU
              have zEUw41 := EU.size
              replace EU := ext_same EU eh
              have EL6_ := EL6
              have zEL6w41 := EL6.size
              replace EL6 := ext_same EL6 eh
              have eT := eh
              clear hh eh
              refine F.xr (i := 0) rfl (fun w' hS => R_loadBlk rfl (F.at rfl) Try.underlying28 rfl (by kernel_rfl) (hS.keep q7_ (by simp))) (fun _ => eT) ?_; clear F fa; intro fa F
              refine F.x (i := 1) rfl (fun w' => R_move rfl (F.at rfl)) (fun _ => eT) ?_; clear F fa; intro fa F
              refine F.x (i := 2) rfl (fun w' => R_move rfl (F.at rfl)) (fun _ => eT) ?_; clear F fa; intro fa F
              obtain ⟨xb55, xo55, xa55, xr55⟩ := HTa.out i (by omega)
              refine F.x (i := 3) rfl (fun w' => R_ixSlice (sz := 1) rfl ((F.at rfl).trans (xa55 _ _)) (F.at rfl) Try.underlying29 (by kernel_rfl) (by omega) (by omega)) (fun _ => eT) ?_; clear F fa; intro fa F
              refine F.xr (i := 4) rfl (fun w' hS => R_load rfl (F.at rfl) Try.underlying3 rfl (xr55 _ (EO_.nil hS) 0 _ rfl)) (fun _ => eT) ?_; clear F fa; intro fa F
              refine ax_pair (i := 5) (j := 9) (by kernel_rfl) ?_ ?_
              · skip
                refine (op_call F rfl rfl (by decide) rfl (R_callV rfl rfl Try.call35 (mpS (F.at rfl) (mpS (F.at rfl) mp0))) (pull_q uok u8 ((HU).out.ext EU (by simp)) hpr.1 (show pt.getD i 0 < t.T by omega)) fun e w42 hR => ?_)
                obtain ⟨rfl, e9⟩ := hR
                refine ⟨_, rfl, ?_⟩; clear F fa; intro fa F
                replace q4 := (e9).keep0 q4
                replace q7 := (e9).keep0 q7
                replace q19 := (e9).keep0 q19
                replace E := ext_same E (e9)
                replace EO := ext_same EO (e9)
                replace EU := ext_same EU (e9)
                replace EL6 := ext_same EL6 (e9)
                replace eT := ext_same eT (e9)
                clear e9
                refine ⟨fun _ => eT, ?_⟩
                rw [hqe, hqp1.1, hqp1.2] at F
                refine F.x (i := 6) rfl (fun w' => R_move rfl (F.at rfl)) (fun _ => eT) ?_; clear F fa; intro fa F
                refine F.x (i := 7) rfl (fun w' => R_extract rfl (F.at rfl) (get0)) (fun _ => eT) ?_; clear F fa; intro fa F
                refine F.x (i := 8) rfl (fun w' => R_extract rfl (F.at rfl) (getS (get0))) (fun _ => eT) ?_; clear F fa; intro fa F
                refine ax_only (i := 9) (by kernel_rfl) (op_new F rfl rfl (by decide) rfl (R_alloc rfl Try.zeroValue23) ?_); clear F fa; intro fa w43 F hw
                obtain ⟨n21, hn⟩ : ∃ n, n = w42.heap.size := ⟨_, rfl⟩
                rw [← hn] at F
                have s21 : w42.heap.size ≤ n21 := Nat.le_of_eq hn.symm
                have l21_E : w.heap.size ≤ n21 := by rw [hn]; exact E.size
                have l21_EO : w7.heap.size ≤ n21 := by rw [hn]; exact EO.size
                have l21_EU : w20.heap.size ≤ n21 := by rw [hn]; exact EU.size
                have l21_EL6 : w24.heap.size ≤ n21 := by rw [hn]; exact EL6.size
                have lT21 : w40.heap.size ≤ n21 := by rw [hn]; exact eT.size
                have m21_4 : n4 < n21 := by rw [hn]; exact blk_lt q4
                have m21_7 : n7 < n21 := by rw [hn]; exact blk_lt q7
                have m21_19 : n19 < n21 := by rw [hn]; exact blk_lt q19
                replace q4 := keep_alloc hw q4
                replace q7 := keep_alloc hw q7
                replace q19 := keep_alloc hw q19
                replace E := ext_alloc E hw
                replace EO := ext_alloc EO hw
                replace EU := ext_alloc EU hw
                replace EL6 := ext_alloc EL6 hw
                replace eT := ext_alloc eT hw
                have q21 := new_row hw hn
                clear hw hn
                refine ⟨fun _ => eT, ?_⟩
                refine ax_only (i := 10) (by kernel_rfl) (op_to rfl rfl rfl (R_storeRow rfl (F.at rfl) (F.at rfl) (by kernel_rfl) (by first | (simp [Value.oneCell']; done) | (simp [Value.oneCell', grRow, rdRow, lkRow]; done)) q21 rfl) ?_); intro w44 hw
                replace q4 := keep_cells hw q4 (by omega)
                replace q7 := keep_cells hw q7 (by omega)
                replace q19 := keep_cells hw q19 (by omega)
                replace q21 := put_row hw q21 rfl
                replace E := ext_cells E hw (fun h => by first | exact absurd h (by omega) | simp)
                replace EO := ext_cells EO hw (fun h => by first | exact absurd h (by omega) | simp)
                replace EU := ext_cells EU hw (fun h => by first | exact absurd h (by omega) | simp)
                replace EL6 := ext_cells EL6 hw (fun h => by first | exact absurd h (by omega) | simp)
                replace eT := ext_cells eT hw (fun h => by first | exact absurd h (by omega) | simp)
                clear hw
                refine ⟨fun _ => eT, ?_⟩
                refine F.x (i := 11) rfl (fun w' => R_assign rfl (F.at rfl)) (fun _ => eT) ?_; clear F fa; intro fa F
                refine ax_done (by kernel_rfl) ?_ _
                exact hcut _ _ _ (F.sub (.c 4 rfl (.c 6 rfl (.c 7 rfl (.c 18 rfl (.c 19 rfl (.c 20 rfl (.c 21 rfl (.c 22 rfl .n))))))))) q4 q7 q19 q21 E EO EU EL6 (by omega) (by omega) (by omega) (by omega) (by omega) (by omega) (by omega)
              · skip
                refine (op_new F rfl rfl (by decide) rfl (R_alloc rfl Try.zeroValue23) ?_); clear F fa; intro fa w45 F hw
                obtain ⟨n21, hn⟩ : ∃ n, n = w41.heap.size := ⟨_, rfl⟩
                rw [← hn] at F
                have s21 : w41.heap.size ≤ n21 := Nat.le_of_eq hn.symm
                have l21_E : w.heap.size ≤ n21 := by rw [hn]; exact E.size
                have l21_EO : w7.heap.size ≤ n21 := by rw [hn]; exact EO.size
                have l21_EU : w20.heap.size ≤ n21 := by rw [hn]; exact EU.size
                have l21_EL6 : w24.heap.size ≤ n21 := by rw [hn]; exact EL6.size
                have lT21 : w40.heap.size ≤ n21 := by rw [hn]; exact eT.size
                have m21_4 : n4 < n21 := by rw [hn]; exact blk_lt q4
                have m21_7 : n7 < n21 := by rw [hn]; exact blk_lt q7
                have m21_19 : n19 < n21 := by rw [hn]; exact blk_lt q19
                replace q4 := keep_alloc hw q4
                replace q7 := keep_alloc hw q7
                replace q19 := keep_alloc hw q19
                replace E := ext_alloc E hw
                replace EO := ext_alloc EO hw
                replace EU := ext_alloc EU hw
                replace EL6 := ext_alloc EL6 hw
                replace eT := ext_alloc eT hw
                have q21 := new_row hw hn
                clear hw hn
                refine ⟨fun _ => eT, ?_⟩
                refine ax_only (i := 5) (by kernel_rfl) (op_call F rfl rfl (by decide) rfl (R_callV rfl rfl Try.call35 (mpS (F.at rfl) (mpS (F.at rfl) mp0))) (pull_q uok u8 ((HU).out.ext EU (by simp)) hpr.1 (show pt.getD i 0 < t.T by omega)) fun e w46 hR => ?_)
                obtain ⟨rfl, e9⟩ := hR
                refine ⟨_, rfl, ?_⟩; clear F fa; intro fa F
                replace q4 := (e9).keep0 q4
                replace q7 := (e9).keep0 q7
                replace q19 := (e9).keep0 q19
                replace q21 := (e9).keep0 q21
                replace E := ext_same E (e9)
                replace EO := ext_same EO (e9)
                replace EU := ext_same EU (e9)
                replace EL6 := ext_same EL6 (e9)
                replace eT := ext_same eT (e9)
                clear e9
                refine ⟨fun _ => eT, ?_⟩
                rw [hqe, hqp1.1, hqp1.2] at F
                refine F.x (i := 6) rfl (fun w' => R_move rfl (F.at rfl)) (fun _ => eT) ?_; clear F fa; intro fa F
                refine F.x (i := 7) rfl (fun w' => R_extract rfl (F.at rfl) (get0)) (fun _ => eT) ?_; clear F fa; intro fa F
                refine F.x (i := 8) rfl (fun w' => R_extract rfl (F.at rfl) (getS (get0))) (fun _ => eT) ?_; clear F fa; intro fa F
                refine ax_only (i := 10) (by kernel_rfl) (op_to rfl rfl rfl (R_storeRow rfl (F.at rfl) (F.at rfl) (by kernel_rfl) (by first | (simp [Value.oneCell']; done) | (simp [Value.oneCell', grRow, rdRow, lkRow]; done)) q21 rfl) ?_); intro w47 hw
                replace q4 := keep_cells hw q4 (by omega)
                replace q7 := keep_cells hw q7 (by omega)
                replace q19 := keep_cells hw q19 (by omega)
                replace q21 := put_row hw q21 rfl
                replace E := ext_cells E hw (fun h => by first | exact absurd h (by omega) | simp)
                replace EO := ext_cells EO hw (fun h => by first | exact absurd h (by omega) | simp)
                replace EU := ext_cells EU hw (fun h => by first | exact absurd h (by omega) | simp)
                replace EL6 := ext_cells EL6 hw (fun h => by first | exact absurd h (by omega) | simp)
                replace eT := ext_cells eT hw (fun h => by first | exact absurd h (by omega) | simp)
                clear hw
                refine ⟨fun _ => eT, ?_⟩
                refine F.x (i := 11) rfl (fun w' => R_assign rfl (F.at rfl)) (fun _ => eT) ?_; clear F fa; intro fa F
                refine ax_done (by kernel_rfl) ?_ _
                exact hcut _ _ _ (F.sub (.c 4 rfl (.c 6 rfl (.c 7 rfl (.c 18 rfl (.c 19 rfl (.c 20 rfl (.c 21 rfl (.c 22 rfl .n))))))))) q4 q7 q19 q21 E EO EU EL6 (by omega) (by omega) (by omega) (by omega) (by omega) (by omega) (by omega)
            clear F q4 q7 q19 E EO EU EL6 fa
            intro n21  fa w48 F q4 q7 q19 q21 E EO EU EL6 l21_E l21_EO l21_EU l21_EL6 m21_4 m21_7 m21_19
            refine hK54 _ _ ?_
            clear hK54
            refine wp_seq_k fun K56 hK56 => ?_
            refine wp_region_lit ?_
            refine F.mv ?_; clear F fa; intro fa F
            refine F.mv ?_; clear F fa; intro fa F
            refine F.vl (R_neqB (b := false) rfl (F.at rfl) (F.at rfl) (decide_eq_true rfl)) ?_; clear F fa; intro fa F
            refine F.mv ?_; clear F fa; intro fa F
            refine F.vl (R_loadBlk rfl (F.at rfl) Try.underlying23 rfl (by kernel_rfl) q19) ?_ (hw := (wantT F rfl rfl (by decide) rfl)); clear F fa; intro fa F
            refine F.vl (R_loadBlk rfl (F.at rfl) Try.underlying23 rfl (by kernel_rfl) q21) ?_ (hw := (wantT F rfl rfl (by decide) rfl)); clear F fa; intro fa F
            refine F.vl (R_neqBt (r := false) rfl (F.at rfl) (F.at rfl) (decide_eq_true (⟨rfl, rfl⟩))) ?_ (hw := (wantT F rfl rfl (by decide) rfl)); clear F fa; intro fa F
            refine F.vl (R_pickF rfl (F.at rfl) (F.at rfl)) ?_; clear F fa; intro fa F
            refine wpList_nil ?_
            refine hK56 _ _ ?_
            clear hK56
            refine cd_F F rfl ?_
            refine wp_skip ?_
            refine hK52 _ _ ?_
            clear hK52
            refine wp_region_lit ?_
            refine F.mv ?_; clear F fa; intro fa F
            refine F.vl (R_add rfl (F.at rfl) (ev_c fa _) (by omega) (by omega)) ?_; clear F fa; intro fa F
            refine F.as ?_; clear F fa; intro fa F
            refine wpList_nil ?_
            show _ ∧ _
            exact ⟨by omega, _, ⟨rfl, EL6⟩, F.sub (.c 18 rfl (.c 4 rfl (.c 6 rfl (.c 7 rfl .n))))⟩
          · skip
            refine wp_exit ?_
            refine hK48 _ _ ?_
            clear hK48
            refine wp_seq_k fun K57 hK57 => ?_
            refine wp_region_lit ?_
            refine sq_call F rfl (by decide) rfl (R_callV rfl rfl Try.call25 mp0) (taken_any _) fun e w49 hR => ?_
            obtain ⟨rfl, e9⟩ := hR
            refine ⟨_, rfl, ?_⟩; clear F fa; intro fa F
            replace q4 := (e9).keep0 q4
            replace q7 := (e9).keep0 q7
            replace E := ext_same E (e9)
            replace EO := ext_same EO (e9)
            replace EU := ext_same EU (e9)
            clear e9
            refine F.as ?_; clear F fa; intro fa F
            refine wpList_nil ?_
            refine hK57 _ _ ?_
            clear hK57
            refine wp_ret ?_
            (try simp only [Exit.inBlock, Exit.then])
            refine rt_v F (rs_1 F rfl rfl) ?_
            exact ⟨rfl, E⟩
end Go.Proofs.Ytholfdgebdlgjaa
