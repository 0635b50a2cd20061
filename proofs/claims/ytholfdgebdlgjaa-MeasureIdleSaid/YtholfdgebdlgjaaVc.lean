/- What is asked of tapes that have a truth: the contracts in the form that the laws use. The tapes are valid and have a truth. -/
import Derived.Test.YtholfdgebdlgjaaV1
import Derived.Test.YtholfdgebdlgjaaMLw
import Derived.Test.YtholfdgebdlgjaaNLo
namespace Go.Proofs.Ytholfdgebdlgjaa
open Go.RowKit
set_option linter.unusedVariables false
set_option linter.unusedSimpArgs false
def mlo (t : Tp) (s a : Int) : Int := -(bdV t 0 (nodeC s a) 0)
def mhi (t : Tp) (s a : Int) : Int := bdV t 0 0 (nodeC s a)
def plo (t : Tp) (i : Int) : Int := -(bdV t 0 0 (nodeT i))
def phi (t : Tp) (i : Int) : Int := bdV t 0 (nodeT i) 0
def dlo (t : Tp) (s a o h : Int) : Int := -(bdV t 0 (nodeC s a) (nodeC o h))
def dhi (t : Tp) (s a o h : Int) : Int := bdV t 0 (nodeC o h) (nodeC s a)
theorem Tp.Live.lens {t : Tp} (h : t.Live) : t.gr.length ≤ 1000 ∧ t.rd.length ≤ 1000 ∧ t.lk.length ≤ 1000 := by
  have := h.ok.grl; have := h.ok.S3; have := h.rd8; have := h.ok.lkl
  omega
theorem meas_live {t : Tp} (h : t.Live) {gv rv lv : Value} {W : World} (ht : IsTp W gv rv lv t) {s a : Int} (s0 : 0 ≤ s) (s1 : s < t.S) (a0 : 0 ≤ a) (a1 : a < t.A) :
    Calls Try.prog 33 #[tpV t gv rv lv, .int .i64 s, .int .i64 a] W fun e w' => e = .returned (.tuple #[.agg #[.int .i64 (mlo t s a), .int .i64 (mhi t s a)], .int .i64 0]) ∧ Ext [] W w' := by
  obtain ⟨l1, l2, l3⟩ := h.lens
  have c := measure_any t gv rv lv s a W ht l1 l2 l3
  obtain ⟨h1, h2⟩ := h.meas s0 s1 a0 a1
  rw [h1, h2] at c
  exact c
theorem pull_live {t : Tp} (h : t.Live) {gv rv lv : Value} {W : World} (ht : IsTp W gv rv lv t) {i : Int} (i0 : 0 ≤ i) (i1 : i < t.T) :
    Calls Try.prog 35 #[tpV t gv rv lv, .int .i64 i] W fun e w' => e = .returned (.tuple #[.agg #[.int .i64 (plo t i), .int .i64 (phi t i)], .int .i64 0]) ∧ Ext [] W w' := by
  obtain ⟨l1, l2, l3⟩ := h.lens
  have c := pull_all t gv rv lv i W ht l1 l2 l3
  obtain ⟨h1, h2⟩ := h.pull i0 i1
  rw [h1, h2] at c
  exact c
theorem apart_live {t : Tp} (h : t.Live) {gv rv lv : Value} {W : World} (ht : IsTp W gv rv lv t) {s a o b : Int} (s0 : 0 ≤ s) (s1 : s < t.S) (a0 : 0 ≤ a) (a1 : a < t.A) (o0 : 0 ≤ o) (o1 : o < t.S) (b0 : 0 ≤ b) (b1 : b < t.A) :
    Calls Try.prog 43 #[tpV t gv rv lv, .int .i64 s, .int .i64 a, .int .i64 o, .int .i64 b] W fun e w' => e = .returned (.tuple #[.agg #[.int .i64 (dlo t s a o b), .int .i64 (dhi t s a o b)], .int .i64 0]) ∧ Ext [] W w' := by
  obtain ⟨l1, l2, l3⟩ := h.lens
  have c := apart_all t gv rv lv s a o b W ht l1 l2 l3
  obtain ⟨h1, h2⟩ := h.apart s0 s1 a0 a1 o0 o1 b0 b1
  rw [h1, h2] at c
  exact c
theorem can_ok {t : Tp} (ok : t.Ok) (h8 : t.rd.length ≤ 8) {gv rv lv : Value} {W : World} (ht : IsTp W gv rv lv t) :
    Calls Try.prog 29 #[tpV t gv rv lv] W fun e w' => e = .returned (.tuple #[.bool (bdB t 0), .int .i64 0]) ∧ Ext [] W w' := by
  have c := can_any t gv rv lv W ht (by have := ok.grl; have := ok.S3; omega) (by omega) (by have := ok.lkl; omega)
  have hc := check_of ok h8
  rw [canB, if_pos hc, hc] at c
  exact c
theorem can_live {t : Tp} (h : t.Live) {gv rv lv : Value} {W : World} (ht : IsTp W gv rv lv t) :
    Calls Try.prog 29 #[tpV t gv rv lv] W fun e w' => e = .returned (.tuple #[.bool true, .int .i64 0]) ∧ Ext [] W w' := by
  have c := can_ok h.ok h.rd8 ht
  rw [h.bdB] at c
  exact c
/-- A bound is the greatest difference in a truth. -/
theorem Tp.Live.top {t : Tp} (h : t.Live) {i j : Nat} (hi : Go.Proofs.Ytholfdgebdlgjaa.live t i) (hj : Go.Proofs.Ytholfdgebdlgjaa.live t j) : (∀ x, Tr t 0 x → x j - x i ≤ bdV t 0 i j) ∧ ∃ x, Tr t 0 x ∧ x j - x i = bdV t 0 i j := by
  obtain ⟨y, hy⟩ := h.some
  rw [bdV_some hy]
  refine ⟨fun x hx => bd_le h.ok hy hx hi hj, _, (bd_reach h.ok hy (live_lt h.ok hi)).1, ?_⟩
  rw [(bd_reach h.ok hy (live_lt h.ok hi)).2]
  omega
theorem live_of {t : Tp} (ok : t.Ok) (h8 : t.rd.length ≤ 8) (hb : bdB t 0 = true) : t.Live := by
  refine ⟨ok, h8, ?_⟩
  by_cases h : ∃ x, Tr t 0 x
  · exact h
  · have := (bd_none ok (out := 0)).2 h
    rw [bdB_none this] at hb
    cases hb
theorem mbd {t : Tp} (h : t.Live) {s a : Int} (s0 : 0 ≤ s) (s1 : s < t.S) (a0 : 0 ≤ a) (a1 : a < t.A) : -2000 ≤ mlo t s a ∧ mlo t s a ≤ 2000 ∧ -2000 ≤ mhi t s a ∧ mhi t s a ≤ 2000 ∧ mlo t s a ≤ mhi t s a := by
  have l := live_cellI s0 s1 a0 a1
  have n1 := h.near (live_zero t) l
  have n2 := h.near l (live_zero t)
  have lt := live_lt h.ok l
  have tr := h.tri 0 0 _ (by omega) (by omega) lt
  have d := h.diag 0 (by omega)
  unfold mlo mhi
  omega
theorem pbd {t : Tp} (h : t.Live) {i : Int} (i0 : 0 ≤ i) (i1 : i < t.T) : -2000 ≤ plo t i ∧ plo t i ≤ 2000 ∧ -2000 ≤ phi t i ∧ phi t i ≤ 2000 ∧ plo t i ≤ phi t i := by
  have l := live_tailI i0 i1
  have n1 := h.near (live_zero t) l
  have n2 := h.near l (live_zero t)
  have lt := live_lt h.ok l
  have tr := h.tri 0 0 _ (by omega) (by omega) lt
  have d := h.diag 0 (by omega)
  unfold plo phi
  omega
/-- Lists of integers, where they lie. -/
def LsAt (w : World) (a : Option Addr) (ms : List (List Int)) : Prop := ∀ s, s < ms.length → ∃ b off ya yc, (∀ m c, Value.slice a m c = .slice (some ⟨b, off, none⟩) m c) ∧ (∀ W, Ext [] w W → W.rangeAt b (off + s * 1) [.slice ya (ms.getD s []).length yc]) ∧ SlAt [] w ya 1 (ms.getD s []).length (fun i => [.int .i64 ((ms.getD s []).getD i 0)])
theorem ivs_flat (xs : List Int) : ivs xs = (xs.map intRow).flatten := by
  induction xs with
  | nil => rfl
  | cons x xs ih => simp [ivs, intRow] at ih ⊢; exact ih
theorem slAt_of_ivs {w : World} {base n c : Nat} {a : Option Addr} {xs : List Int} (h : w.ownsRow base 3 1 (.slice a n c) n (ivs xs)) (hn : n = xs.length) (X : List Nat) (hX : ∀ b ∈ X, b < base) : SlAt X w a 1 xs.length (fun i => [.int .i64 (xs.getD i 0)]) := by
  rw [ivs_flat] at h
  exact slAt_of_owns h hn (fun _ => rfl) X hX 0
theorem singles : ∀ vs : List Value, vs = (vs.map fun v => [v]).flatten
  | [] => rfl
  | v :: vs => by simp only [List.map_cons, List.flatten_cons, List.singleton_append]; rw [← singles vs]
theorem lsAt_of {w : World} {base n mc : Nat} {ma : Option Addr} {vs : List Value} {ms : List (List Int)} (om : w.ownsRow base 29 1 (.slice ma n mc) n vs) (hn : n = ms.length) (hl : ListsAt w base vs ms) : LsAt w ma ms := fun s hs => by
  have e : ms[s]? = some (ms.getD s []) := by simp [hs]
  obtain ⟨v, hv, ho⟩ := hl.2 s _ e
  obtain ⟨ya, yc, rfl⟩ := owns_slice ho
  have hvs : vs = (vs.map fun v => [v]).flatten := singles vs
  have om' := om
  rw [hvs] at om'
  obtain ⟨b, off, h1, h2⟩ := slAt_of_owns (row := fun v => [v]) om' (by rw [hn, hl.1]) (fun _ => rfl) [] (by simp) undef s (by rw [hl.1]; exact hs)
  refine ⟨b, off, ya, yc, h1, fun W E => ?_, slAt_of_ivs ho rfl [] (by simp)⟩
  have := h2 W E
  simp only at this
  rwa [show vs.getD s undef = .slice ya (ms.getD s []).length yc by simp [hv]] at this
end Go.Proofs.Ytholfdgebdlgjaa
