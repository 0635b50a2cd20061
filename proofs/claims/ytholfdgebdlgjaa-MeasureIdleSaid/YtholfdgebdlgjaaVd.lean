/- What is asked of valid tapes, whether or not they have a truth; how bounds of two tapes go together. The tapes are valid. -/
import Derived.Test.YtholfdgebdlgjaaVc
namespace Go.Proofs.Ytholfdgebdlgjaa
open Go.RowKit
set_option linter.unusedVariables false
set_option linter.unusedSimpArgs false
/-- The error of what is asked of valid tapes: a clash if there is no truth. -/
def qe (t : Tp) : Int := if bdB t 0 = true then 0 else 9
def qlo (t : Tp) (s a : Int) : Int := if bdB t 0 = true then mlo t s a else 0
def qhi (t : Tp) (s a : Int) : Int := if bdB t 0 = true then mhi t s a else 0
def rlo (t : Tp) (i : Int) : Int := if bdB t 0 = true then plo t i else 0
def rhi (t : Tp) (i : Int) : Int := if bdB t 0 = true then phi t i else 0
theorem solved_cl {t : Tp} {xs : Nat → List Int} (h : openE t xs = 0) (hb : bdB t 0 = false) : solvedE t xs = 9 := by
  rw [solvedE, if_neg (by rw [h]; decide), if_neg (by rw [hb]; decide)]
theorem meas_q {t : Tp} (ok : t.Ok) (h8 : t.rd.length ≤ 8) {gv rv lv : Value} {W : World} (ht : IsTp W gv rv lv t) {s a : Int} (s0 : 0 ≤ s) (s1 : s < t.S) (a0 : 0 ≤ a) (a1 : a < t.A) :
    Calls Try.prog 33 #[tpV t gv rv lv, .int .i64 s, .int .i64 a] W fun e w' => e = .returned (.tuple #[.agg #[.int .i64 (qlo t s a), .int .i64 (qhi t s a)], .int .i64 (qe t)]) ∧ Ext [] W w' := by
  by_cases hb : bdB t 0 = true
  · have c := meas_live (live_of ok h8 hb) ht s0 s1 a0 a1
    rw [qlo, qhi, qe, if_pos hb, if_pos hb, if_pos hb]
    exact c
  · have c := measure_any t gv rv lv s a W ht (by have := ok.grl; have := ok.S3; omega) (by omega) (by have := ok.lkl; omega)
    have e : measE t s a = 9 := solved_cl (open_known (check_of ok h8) (known_sel (by simp; omega) (by simp; omega) (by simp))) (by simpa using hb)
    rw [show measV t s a = (0, 0) by rw [measV, if_neg (by rw [e]; decide)], e] at c
    rw [qlo, qhi, qe, if_neg hb, if_neg hb, if_neg hb]
    exact c
theorem pull_q {t : Tp} (ok : t.Ok) (h8 : t.rd.length ≤ 8) {gv rv lv : Value} {W : World} (ht : IsTp W gv rv lv t) {i : Int} (i0 : 0 ≤ i) (i1 : i < t.T) :
    Calls Try.prog 35 #[tpV t gv rv lv, .int .i64 i] W fun e w' => e = .returned (.tuple #[.agg #[.int .i64 (rlo t i), .int .i64 (rhi t i)], .int .i64 (qe t)]) ∧ Ext [] W w' := by
  by_cases hb : bdB t 0 = true
  · have c := pull_live (live_of ok h8 hb) ht i0 i1
    rw [rlo, rhi, qe, if_pos hb, if_pos hb, if_pos hb]
    exact c
  · have c := pull_all t gv rv lv i W ht (by have := ok.grl; have := ok.S3; omega) (by omega) (by have := ok.lkl; omega)
    have e : pullE t i = 9 := solved_cl (open_known (check_of ok h8) (known_sel (by simp) (by simp) (by simp; omega))) (by simpa using hb)
    rw [show pullV t i = (0, 0) by rw [pullV, if_neg (by rw [e]; decide)], e] at c
    rw [rlo, rhi, qe, if_neg hb, if_neg hb, if_neg hb]
    exact c
theorem bdB_iff {t : Tp} (ok : t.Ok) : bdB t 0 = true ↔ ∃ x, Tr t 0 x := by
  constructor
  · intro hb
    by_cases h : ∃ x, Tr t 0 x
    · exact h
    · rw [bdB_none ((bd_none ok (out := 0)).2 h)] at hb
      cases hb
  · rintro ⟨x, hx⟩
    obtain ⟨y, hy⟩ := bd_some ok hx
    exact bdB_some hy
/-- Two tapes whose truths go over into one another: their bounds go together. -/
theorem bd_map {t u : Tp} (ht : t.Live) (hu : u.Live) {i j i' j' : Nat} (hi : live t i) (hj : live t j) (hi' : live u i') (hj' : live u j') {c : Int}
    (hf : ∀ x, Tr t 0 x → ∃ y, Tr u 0 y ∧ y j' - y i' = x j - x i + c) (hg : ∀ y, Tr u 0 y → ∃ x, Tr t 0 x ∧ y j' - y i' = x j - x i + c) : bdV u 0 i' j' = bdV t 0 i j + c := by
  obtain ⟨t1, x, hx, t2⟩ := ht.top hi hj
  obtain ⟨u1, y, hy, u2⟩ := hu.top hi' hj'
  obtain ⟨y', hy', e1⟩ := hf x hx
  obtain ⟨x', hx', e2⟩ := hg y hy
  have a := u1 _ hy'
  have b := t1 _ hx'
  omega
theorem qbd {t : Tp} (ok : t.Ok) (h8 : t.rd.length ≤ 8) {s a : Int} (s0 : 0 ≤ s) (s1 : s < t.S) (a0 : 0 ≤ a) (a1 : a < t.A) : -2000 ≤ qlo t s a ∧ qlo t s a ≤ 2000 ∧ -2000 ≤ qhi t s a ∧ qhi t s a ≤ 2000 := by
  by_cases hb : bdB t 0 = true
  · have := mbd (live_of ok h8 hb) s0 s1 a0 a1
    rw [qlo, qhi, if_pos hb, if_pos hb]
    omega
  · rw [qlo, qhi, if_neg hb, if_neg hb]
    omega
theorem rbd {t : Tp} (ok : t.Ok) (h8 : t.rd.length ≤ 8) {i : Int} (i0 : 0 ≤ i) (i1 : i < t.T) : -2000 ≤ rlo t i ∧ rlo t i ≤ 2000 ∧ -2000 ≤ rhi t i ∧ rhi t i ≤ 2000 := by
  by_cases hb : bdB t 0 = true
  · have := pbd (live_of ok h8 hb) i0 i1
    rw [rlo, rhi, if_pos hb, if_pos hb]
    omega
  · rw [rlo, rhi, if_neg hb, if_neg hb]
    omega
theorem qe_zero {t : Tp} : qe t = 0 ↔ bdB t 0 = true := by
  unfold qe
  split <;> simp_all
/-- The node of the measure number x is one of the tapes' own. -/
theorem nd_in2 {S A : Int} {x : Nat} (hA : 0 < A) (hx : (x : Int) < S * A) : 0 ≤ (x : Int) / A ∧ (x : Int) / A < S ∧ 0 ≤ (x : Int) % A ∧ (x : Int) % A < A :=
  ⟨Int.ediv_nonneg (by omega) (Int.le_of_lt hA), Int.ediv_lt_of_lt_mul hA hx, Int.emod_nonneg _ (by omega), Int.emod_lt_of_pos _ hA⟩
theorem ok_prod {t : Tp} (ok : t.Ok) : 1 ≤ t.S * t.A ∧ t.S * t.A ≤ 9 := by
  have := ok.S1; have := ok.S3; have := ok.A1; have := ok.A3
  exact ⟨Int.mul_pos (by omega) (by omega), Int.le_trans (Int.mul_le_mul ok.S3 ok.A3 (by omega) (by omega)) (by decide)⟩
/-- The first i elements of a list are changed. -/
def mapTo {α : Type} (f : α → α) (i : Nat) (l : List α) : List α := (l.take i).map f ++ l.drop i
theorem mapTo_len {α : Type} (f : α → α) (i : Nat) (l : List α) : (mapTo f i l).length = l.length := by
  simp [mapTo]; omega
theorem mapTo_0 {α : Type} (f : α → α) (l : List α) : mapTo f 0 l = l := by simp [mapTo]
theorem mapTo_all {α : Type} (f : α → α) (l : List α) {i : Nat} (h : l.length ≤ i) : mapTo f i l = l.map f := by simp [mapTo, List.take_of_length_le h, List.drop_of_length_le h]
theorem mapTo_step {α : Type} (f : α → α) (d : α) (l : List α) {i : Nat} (h : i < l.length) : (mapTo f i l).set i (f (l.getD i d)) = mapTo f (i + 1) l := by
  have e : l.getD i d = l[i] := by simp [h]
  unfold mapTo
  rw [e, List.set_append_right _ _ (by simp; omega), List.length_map, List.length_take, Nat.min_eq_left (Nat.le_of_lt h), Nat.sub_self, List.drop_eq_getElem_cons h, List.set_cons_zero, List.take_succ_eq_append_getElem h, List.map_append, List.map_singleton, List.append_assoc, List.singleton_append]
theorem mapTo_get {α : Type} (f : α → α) (d : α) (l : List α) {i : Nat} (h : i < l.length) : (mapTo f i l).getD i d = l.getD i d := by
  unfold mapTo
  rw [List.getD_eq_getElem?_getD, List.getElem?_append_right (by simp; omega)]
  simp [Nat.min_eq_left (Nat.le_of_lt h)]
theorem range_sub {w : World} {b o : Nat} {pre cs post : List Value} (h : w.rangeAt b o (pre ++ (cs ++ post))) : w.rangeAt b (o + pre.length) cs := fun j v hv => by
  rw [Nat.add_assoc]
  refine h (pre.length + j) v ?_
  rw [List.getElem?_append_right (by omega), Nat.add_sub_cancel_left, List.getElem?_append_left (List.getElem?_eq_some_iff.1 hv).1]
  exact hv
/-- Two cells of an element of a slice of one's own may be written. -/
theorem owns_at2 {w : World} {base n c size : Nat} {e : TypeId} {a : Option Addr} {xs : List Value} (h : w.ownsRow base e size (.slice a n c) n xs) {xb xo : Nat} (xa : ∀ m c, Value.slice a m c = .slice (some ⟨xb, xo, none⟩) m c) {j p : Nat} (hj : j + 1 < xs.length) (hp : p = xo + j) :
    w.there xb p 2 ∧ ∀ u v w2, w2 = w.setCells xb p [u, v] → w2.ownsRow base e size (.slice a n c) n ((xs.set j u).set (j + 1) v) ∧ w.grownBy w2 (Value.ownBlock (.slice a n c)) := by
  obtain ⟨⟨u0, c0⟩, f0, s0⟩ := owns_at h xa (j := j) (p := p) (by omega) hp
  obtain ⟨⟨u1, c1⟩, f1, s1⟩ := owns_at h xa (j := j + 1) (p := p + 1) (by omega) (by omega)
  refine ⟨fun k hk => ?_, fun u v w2 e2 => ?_⟩
  · have : k = 0 ∨ k = 1 := by omega
    rcases this with rfl | rfl
    · exact ⟨by rw [Nat.add_zero, c0]; rfl, by rw [Nat.add_zero]; exact f0⟩
    · exact ⟨by rw [c1]; rfl, f1⟩
  · obtain ⟨h2, g2⟩ := s0 u _ rfl
    obtain ⟨-, -, s2⟩ := owns_at h2 xa (j := j + 1) (p := p + 1) (by rw [List.length_set]; omega) (by omega)
    obtain ⟨h3, g3⟩ := s2 v w2 e2
    exact ⟨h3, ⟨g3.os.trans g2.os, g3.tape.trans g2.tape, g3.output.trans g2.output, Nat.le_trans g2.size g3.size, fun k hk hn => (g3.block k (Nat.lt_of_lt_of_le hk g2.size) hn).trans (g2.block k hk hn)⟩⟩
theorem R_storeThere {P : Program} {ρ : Operand → Value} {o : Oper} {w : World} {x y : Operand} {t : TypeId} {b off : Nat} {cs : Array Value} (ho : o.op = .store t x y) (hx : ρ x = .pointer (some ⟨b, off, none⟩)) (hy : ρ y = .agg cs) (hi : (P.info? t).map (·.size) = some cs.size) (h1 : cs.all (·.oneCell') = true) (ht : w.there b off cs.size) :
    (execOp ρ o).run P w = .ok .skip (w.setCells b off cs.toList) := by
  unfold execOp
  simp only [ho, hx, hy, Instr.storeAt, Instr.sureAddr, Sem.run_bind, Sem.run_pure, Result.andThen_ok, run_storeVar_mid w b off t cs ht hi h1]
theorem flat_set {α : Type} {row : α → List Value} {sz : Nat} (hr : ∀ x, (row x).length = sz) (d : α) (f : Nat) (u : Value) : ∀ (xs : List α) (i : Nat) (y : α), i < xs.length → f < sz → row y = (row (xs.getD i d)).set f u → ((xs.map row).flatten).set (i * sz + f) u = ((xs.set i y).map row).flatten
  | [], i, y, h, _, _ => by simp at h
  | x :: xs, 0, y, _, hf, hy => by
    simp only [List.map_cons, List.flatten_cons, List.set_cons_zero, Nat.zero_mul, Nat.zero_add]
    rw [List.set_append_left _ _ (by rw [hr]; exact hf), hy]
    rfl
  | x :: xs, i + 1, y, h, hf, hy => by
    simp only [List.map_cons, List.flatten_cons, List.set_cons_succ]
    rw [List.set_append_right _ _ (by rw [hr, Nat.add_mul]; omega), hr, show (i + 1) * sz + f - sz = i * sz + f by rw [Nat.add_mul]; omega, flat_set hr d f u xs i y (by simpa using h) hf (by simpa using hy)]
theorem flatG_set2 (u v : Int) (gs : List (Int × Int)) (i : Nat) (h : i < gs.length) : ((flatG gs).set (i * 2) (.int .i64 u)).set (i * 2 + 1) (.int .i64 v) = flatG (gs.set i (u, v)) := by
  unfold flatG
  rw [show i * 2 = i * 2 + 0 by omega, flat_set (row := grRow) (fun _ => rfl) (0, 0) 0 _ gs i (u, (gs.getD i (0, 0)).2) h (by omega) rfl, show i * 2 + 0 + 1 = i * 2 + 1 by omega, flat_set (row := grRow) (fun _ => rfl) (0, 0) 1 _ _ i (u, v) (by simpa using h) (by omega) (by simp [h, grRow]), List.set_set]
theorem flatK_set2 (u v : Int) (ls : List (Int × Int × Int × Int × Int × Int)) (i : Nat) (h : i < ls.length) : ((flatK ls).set (i * 6 + 4) (.int .i64 u)).set (i * 6 + 4 + 1) (.int .i64 v) = flatK (ls.set i ((ls.getD i (0, 0, 0, 0, 0, 0)).1, (ls.getD i (0, 0, 0, 0, 0, 0)).2.1, (ls.getD i (0, 0, 0, 0, 0, 0)).2.2.1, (ls.getD i (0, 0, 0, 0, 0, 0)).2.2.2.1, u, v)) := by
  unfold flatK
  rw [flat_set (row := lkRow) (fun _ => rfl) (0, 0, 0, 0, 0, 0) 4 _ ls i ((ls.getD i (0, 0, 0, 0, 0, 0)).1, (ls.getD i (0, 0, 0, 0, 0, 0)).2.1, (ls.getD i (0, 0, 0, 0, 0, 0)).2.2.1, (ls.getD i (0, 0, 0, 0, 0, 0)).2.2.2.1, u, (ls.getD i (0, 0, 0, 0, 0, 0)).2.2.2.2.2) h (by omega) rfl, show i * 6 + 4 + 1 = i * 6 + 5 by omega,
    flat_set (row := lkRow) (fun _ => rfl) (0, 0, 0, 0, 0, 0) 5 _ _ i ((ls.getD i (0, 0, 0, 0, 0, 0)).1, (ls.getD i (0, 0, 0, 0, 0, 0)).2.1, (ls.getD i (0, 0, 0, 0, 0, 0)).2.2.1, (ls.getD i (0, 0, 0, 0, 0, 0)).2.2.2.1, u, v) (by simpa using h) (by omega) (by simp [h, lkRow]), List.set_set]
end Go.Proofs.Ytholfdgebdlgjaa
