/- Stores of whole rows into a slice of one's own; permutations. -/
import Derived.Test.YtholfdgebdlgjaaVm
namespace Go.Proofs.Ytholfdgebdlgjaa
open Go.RowKit
set_option linter.unusedVariables false
set_option linter.unusedSimpArgs false
def setL : List Value → Nat → List Value → List Value
  | xs, _, [] => xs
  | xs, j, v :: vs => setL (xs.set j v) (j + 1) vs
theorem setL_len : ∀ (vs xs : List Value) (j : Nat), (setL xs j vs).length = xs.length
  | [], _, _ => rfl
  | v :: vs, xs, j => by rw [setL, setL_len vs, List.length_set]
theorem setL_mid : ∀ (vs pre old post : List Value), old.length = vs.length → setL (pre ++ (old ++ post)) pre.length vs = pre ++ (vs ++ post)
  | [], pre, [], post, _ => rfl
  | [], pre, o :: old, post, h => by simp at h
  | v :: vs, pre, [], post, h => by simp at h
  | v :: vs, pre, o :: old, post, h => by
    have := setL_mid vs (pre ++ [v]) old post (by simpa using h)
    simp only [List.length_append, List.length_cons, List.length_nil, List.append_assoc, List.singleton_append] at this
    rw [setL, List.set_append_right _ _ (Nat.le_refl _), Nat.sub_self, List.cons_append, List.set_cons_zero, this, List.cons_append]
theorem setL_flat {α : Type} {row : α → List Value} {sz : Nat} (hr : ∀ x, (row x).length = sz) (xs : List α) (i : Nat) (y : α) (h : i < xs.length) : setL ((xs.map row).flatten) (i * sz) (row y) = ((xs.set i y).map row).flatten := by
  have e : xs = xs.take i ++ (xs[i] :: xs.drop (i + 1)) := by rw [List.getElem_cons_drop, List.take_append_drop]
  have hl : (xs.take i).length = i := by rw [List.length_take]; omega
  have e2 : xs.set i y = xs.take i ++ (y :: xs.drop (i + 1)) := by
    conv => lhs; rw [e]
    rw [List.set_append_right _ _ (by omega), hl, Nat.sub_self, List.set_cons_zero]
  have e3 : i * sz = (((xs.take i).map row).flatten).length := by rw [flat_len hr, hl]
  rw [e2]
  conv => lhs; rw [e]
  simp only [List.map_append, List.flatten_append, List.map_cons, List.flatten_cons]
  rw [e3]
  exact setL_mid (row y) _ (row xs[i]) _ (by rw [hr, hr])
/-- Many cells of an element of a slice of one's own may be written. -/
theorem owns_atN {base n c size : Nat} {e : TypeId} {a : Option Addr} {xb xo : Nat} (xa : ∀ m c, Value.slice a m c = .slice (some ⟨xb, xo, none⟩) m c) : ∀ (k : Nat) {w : World} {xs : List Value} (h : w.ownsRow base e size (.slice a n c) n xs) {j p : Nat} (hj : j + k ≤ xs.length) (hp : p = xo + j),
    w.there xb p k ∧ ∀ vs w2, vs.length = k → w2 = w.setCells xb p vs → w2.ownsRow base e size (.slice a n c) n (setL xs j vs) ∧ w.grownBy w2 (Value.ownBlock (.slice a n c))
  | 0, w, xs, h, j, p, hj, hp => by
    refine ⟨fun k hk => by omega, fun vs w2 hl e2 => ?_⟩
    obtain rfl : vs = [] := List.length_eq_zero_iff.1 hl
    rw [World.setCells] at e2
    subst e2
    exact ⟨h, ⟨rfl, rfl, rfl, Nat.le_refl _, fun _ _ _ => rfl⟩⟩
  | k + 1, w, xs, h, j, p, hj, hp => by
    obtain ⟨⟨u0, c0⟩, f0, s0⟩ := owns_at h xa (j := j) (p := p) (by omega) hp
    refine ⟨fun i hi => ?_, fun vs w2 hl e2 => ?_⟩
    · rcases i with _ | i
      · exact ⟨by rw [Nat.add_zero, c0]; rfl, by rw [Nat.add_zero]; exact f0⟩
      · obtain ⟨t1, -⟩ := owns_atN xa k h (j := j + 1) (p := p + 1) (by omega) (by omega)
        have := t1 i (by omega)
        rwa [show p + 1 + i = p + (i + 1) by omega] at this
    · match vs, hl with
      | v :: vs, hl =>
        obtain ⟨h2, g2⟩ := s0 v _ rfl
        obtain ⟨-, t2⟩ := owns_atN xa k h2 (j := j + 1) (p := p + 1) (by rw [List.length_set]; omega) (by omega)
        obtain ⟨h3, g3⟩ := t2 vs w2 (by simpa using hl) e2
        exact ⟨h3, ⟨g3.os.trans g2.os, g3.tape.trans g2.tape, g3.output.trans g2.output, Nat.le_trans g2.size g3.size, fun k hk hn => (g3.block k (Nat.lt_of_lt_of_le hk g2.size) hn).trans (g2.block k hk hn)⟩⟩
theorem own_ex {w : World} {base n c size : Nat} {e : TypeId} {a : Option Addr} {xs : List Value} (h : w.ownsRow base e size (.slice a n c) n xs) (hn : 0 < n) : ∃ ob, (Value.slice a n c).ownBlock = some ob ∧ base ≤ ob := by
  rcases h.2 with ⟨hv, -⟩ | ⟨g, cap, cur, hv, hg, -⟩
  · cases hv
    omega
  · exact ⟨g, by rw [hv]; rfl, hg⟩
theorem ext_own {X : List Nat} {w0 w w' : World} {o : Option Nat} {ob : Nat} (E : Ext X w0 w) (hg : w.grownBy w' o) (ho : o = some ob) (hX : ob ∈ X) : Ext X w0 w' :=
  ⟨hg.os.trans E.os, hg.tape.trans E.tape, hg.output.trans E.output, Nat.le_trans E.size hg.size, fun k hk hx => (hg.block k (Nat.lt_of_lt_of_le hk E.size) (fun e => by rw [ho] at e; cases e; exact hx hX)).trans (E.block k hk hx)⟩
theorem mixed_int (w0 w : World) (b k : Nat) (nv : Value) (HL : LotsOk w0 w b k nv) (hk : k ≤ 10000) (n : Int) (h0 : 0 ≤ n) (hn : n ≤ 1000) :
    Calls Try.prog 57 #[.pointer (some ⟨b, 0, none⟩), .int .i64 n] w (MixPost w0 w b k nv n.toNat) := by
  obtain ⟨m, rfl⟩ := Int.eq_ofNat_of_zero_le h0
  exact mixed_any w0 w b k nv HL hk m (by omega)
theorem perm_rng {p : List Int} {n : Nat} (h : p.Perm (ints n)) {i : Nat} (hi : i < n) : 0 ≤ p.getD i 0 ∧ p.getD i 0 < n := by
  have hl : p.length = n := by rw [h.length_eq, ints_len]
  have hm := h.mem_iff.1 (getD_mem (0 : Int) (l := p) (by rw [hl]; exact hi))
  obtain ⟨k, hk, e⟩ := List.mem_map.1 hm
  rw [← e]
  have := List.mem_range.1 hk
  omega
theorem ints_nodup (n : Nat) : (ints n).Nodup := by
  rw [ints]
  exact List.Pairwise.map _ (fun a b (h : a ≠ b) e => h (by omega)) List.nodup_range
theorem nodup_at {p : List Int} (h : p.Nodup) {i j : Nat} (hi : i < p.length) (hj : j < p.length) (e : p.getD i 0 = p.getD j 0) : i = j := by
  have q := List.pairwise_iff_getElem.1 h
  rw [show p.getD i 0 = p[i] by simp [hi], show p.getD j 0 = p[j] by simp [hj]] at e
  rcases Nat.lt_trichotomy i j with h1 | h1 | h1
  · exact absurd e (q i j hi hj h1)
  · exact h1
  · exact absurd e.symm (q j i hj hi h1)
theorem perm_inj {p : List Int} {n : Nat} (h : p.Perm (ints n)) {i j : Nat} (hi : i < n) (hj : j < n) (e : p.getD i 0 = p.getD j 0) : i = j := by
  have hl : p.length = n := by rw [h.length_eq, ints_len]
  exact nodup_at (h.nodup_iff.2 (ints_nodup n)) (by omega) (by omega) e
/-- A renumbering and the way back. -/
def pf (p : List Int) (s : Int) : Int := p.getD s.toNat 0
def pb (p : List Int) (s : Int) : Int := p.idxOf s
theorem pf_rng {p : List Int} {n : Nat} (h : p.Perm (ints n)) {s : Int} (s0 : 0 ≤ s) (s1 : s < n) : 0 ≤ pf p s ∧ pf p s < n := perm_rng h (by omega)
theorem pb_rng {p : List Int} {n : Nat} (h : p.Perm (ints n)) {s : Int} (s0 : 0 ≤ s) (s1 : s < n) : 0 ≤ pb p s ∧ pb p s < n ∧ pf p (pb p s) = s := by
  have hl : p.length = n := by rw [h.length_eq, ints_len]
  have hm : s ∈ p := h.mem_iff.2 (List.mem_map.2 ⟨s.toNat, List.mem_range.2 (by omega), by omega⟩)
  have := List.idxOf_lt_length_of_mem hm
  refine ⟨by unfold pb; omega, by unfold pb; omega, ?_⟩
  unfold pf pb
  rw [Int.toNat_natCast]
  simp [this]
theorem pb_pf {p : List Int} {n : Nat} (h : p.Perm (ints n)) {s : Int} (s0 : 0 ≤ s) (s1 : s < n) : pb p (pf p s) = s := by
  obtain ⟨r0, r1⟩ := pf_rng h s0 s1
  obtain ⟨q0, q1, q2⟩ := pb_rng h r0 r1
  have := perm_inj h (i := (pb p (pf p s)).toNat) (j := s.toNat) (by omega) (by omega) q2
  omega
end Go.Proofs.Ytholfdgebdlgjaa
