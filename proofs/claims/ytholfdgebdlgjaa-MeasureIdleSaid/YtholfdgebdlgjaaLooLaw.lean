/- The bounds of tapes before they are narrowed are small. Conditions: the tapes are valid. -/
import Derived.Test.YtholfdgebdlgjaaLoo
import Derived.Test.YtholfdgebdlgjaaFwClose
namespace Go.Proofs.Ytholfdgebdlgjaa
open Go.RowKit
/-- Small bounds with nothing on the diagonal. -/
def smallM (m : Nat → Nat → Int) : Prop := (∀ p q, -1048576 ≤ m p q ∧ m p q ≤ 1048576) ∧ ∀ p, m p p = 0
theorem small_limit {m : Nat → Nat → Int} (h : smallM m) {l k : Nat} (hlk : l ≠ k) {lo hi : Int} (h1 : -1000 ≤ hi) (h2 : lo ≤ 1000) : smallM (limitM m l k lo hi) := by
  have hb := h.1
  refine ⟨fun p q => ?_, fun p => ?_⟩
  · have a1 := hb p q
    have a2 := hb l k
    have a3 := hb k l
    unfold limitM upd
    split <;> (try split) <;> omega
  · have a1 := h.2 p
    unfold limitM upd
    rw [if_neg (by omega), if_neg (by omega)]
    exact a1
theorem small_far : smallM farM := ⟨fun p q => by unfold farM; split <;> omega, fun p => by unfold farM; simp⟩
theorem small_cell {t : Tp} (ok : t.Ok) {m : Nat → Nat → Int} (h : smallM m) {s : Nat} (hs : s < t.S.toNat) : ∀ a, smallM (cellTo t m s a)
  | 0 => h
  | a + 1 => by
    have ih := small_cell ok h hs a
    have o1 := ok.bl1
    have o2 := ok.bm1
    have o3 := ok.b
    have g := ok.gr (t.gr.getD s (0, 0)) (getD_mem _ (by have := ok.grl; omega))
    have i1 := small_limit ih (l := 0) (k := nodeC s a) (by unfold nodeC; omega) (lo := t.bl) (hi := t.bm) (by omega) (by omega)
    unfold cellTo
    split
    · exact small_limit i1 (by unfold nodeC; omega) (by omega) (by omega)
    · exact i1
theorem small_sing {t : Tp} (ok : t.Ok) {m : Nat → Nat → Int} (h : smallM m) : ∀ s, s ≤ t.S.toNat → smallM (singTo t m s)
  | 0, _ => h
  | s + 1, hs => small_cell ok (small_sing ok h s (by omega)) (by omega) _
theorem small_tail {t : Tp} (ok : t.Ok) {m : Nat → Nat → Int} (h : smallM m) : ∀ i, smallM (tailTo t m i)
  | 0 => h
  | i + 1 => by
    have o1 := ok.pl1
    have o2 := ok.pm1
    have o3 := ok.p
    exact small_limit (small_tail ok h i) (by unfold nodeT; omega) (by omega) (by omega)
theorem small_read {t : Tp} (ok : t.Ok) (out : Int) {m : Nat → Nat → Int} (h : smallM m) : ∀ i, i ≤ t.rd.length → smallM (readTo t out m i)
  | 0, _ => h
  | i + 1, hi => by
    have ih := small_read ok out h i (by omega)
    have g := ok.rd (t.rd.getD i (0, 0, 0, 0)) (getD_mem _ (by omega))
    have o1 := ok.sl0
    have o2 := ok.sl5
    have o3 := ok.S3
    have o4 := ok.A3
    unfold readTo
    split
    · exact ih
    · exact small_limit ih (by unfold nodeT nodeC; omega) (by omega) (by omega)
theorem small_link {t : Tp} (ok : t.Ok) {m : Nat → Nat → Int} (h : smallM m) : ∀ i, i ≤ t.lk.length → smallM (linkTo t m i)
  | 0, _ => h
  | i + 1, hi => by
    have ih := small_link ok h i (by omega)
    have g := ok.lk (t.lk.getD i (0, 0, 0, 0, 0, 0)) (getD_mem _ (by omega))
    obtain ⟨g1, g2, g3, g4, g5, g6, g7, g8, g9, g10, g11, g12⟩ := g
    have o3 := ok.S3
    have o4 := ok.A3
    exact small_limit ih (by unfold nodeC; omega) (by omega) (by omega)
theorem small_loose {t : Tp} (ok : t.Ok) (out : Int) : smallM (looseM t out) :=
  small_link ok (small_read ok out (small_tail ok (small_sing ok small_far _ (Nat.le_refl _)) _) _ (Nat.le_refl _)) _ (Nat.le_refl _)
theorem safe_loose {t : Tp} (ok : t.Ok) (out : Int) : safeM (looseM t out) := safe_of_small fun p q _ _ => (small_loose ok out).1 p q
theorem again_loose {t : Tp} (ok : t.Ok) (out : Int) : ∀ m', kTo (looseM t out) 13 = some m' → safeM m' ∧ ∃ m'', kTo m' 13 = some m'' ∧ eqM m'' m' = true :=
  second_round (fun p _ => by rw [(small_loose ok out).2 p]; exact Int.le_refl _) fun p q _ _ => (small_loose ok out).1 p q
end Go.Proofs.Ytholfdgebdlgjaa
