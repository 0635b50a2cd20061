/- Contracts of the middle functions of package measure: readings, links, nodes, the bounds' methods. Conditions: nodes are below 13, numbers lie within a million million. -/
import Derived.Test.YtholfdgebdlgjaaMat
namespace Go.Proofs.Ytholfdgebdlgjaa
open Go.RowKit
def rdgE (S A T s a t p : Int) : Int := firstE [knownE s S, knownE a A, knownE t T, numberE p 0 250]
set_option maxHeartbeats 2000000 in
theorem checkReading_any (S A T bl bm pl pm sl : Int) (vg vr vl : Value) (s a t p : Int) (w : World) (h1 : -1000000 ≤ S) (h2 : S ≤ 1000000) (h3 : -1000000 ≤ A) (h4 : A ≤ 1000000) (h5 : -1000000 ≤ T) (h6 : T ≤ 1000000) :
    Calls Try.prog 85 #[.agg #[.int .i64 S, .int .i64 A, .int .i64 T, .int .i64 bl, .int .i64 bm, .int .i64 pl, .int .i64 pm, .int .i64 sl, vg, vr, vl], .agg #[.int .i64 s, .int .i64 a, .int .i64 t, .int .i64 p]] w fun e w' => e = .returned (.int .i64 (rdgE S A T s a t p)) ∧ Below w.heap.size w w' := by
  go_enter Try.func85, Try.ntmps85
  go_wp2
  go_region_held3 (fun w' => w'.cell? ⟨w.heap.size, 0, none⟩ = some (.int .i64 S) ∧ w'.cell? ⟨w.heap.size, 1, none⟩ = some (.int .i64 A) ∧ w'.cell? ⟨w.heap.size, 2, none⟩ = some (.int .i64 T) ∧ w'.cell? ⟨w.heap.size + 1, 0, none⟩ = some (.int .i64 s) ∧ w'.cell? ⟨w.heap.size + 1, 1, none⟩ = some (.int .i64 a) ∧ w'.cell? ⟨w.heap.size + 1, 2, none⟩ = some (.int .i64 t) ∧ w'.cell? ⟨w.heap.size + 1, 3, none⟩ = some (.int .i64 p)) (go_keep) (first | (go_at_call 130; refine (known_any _ _ _ (by omega) (by omega)).mono ?_; rintro e w' ⟨rfl, rfl⟩) | (go_at_call 83; refine (number_any _ _ _ _).mono ?_; rintro e w' ⟨rfl, rfl⟩) | (go_at_call 82; refine (first_lit [knownE s S, knownE a A, knownE t T, numberE p 0 250] _ 37 _ _ rfl (by simp) (by simp) (blk_drew (blk_new (by simp)))).mono ?_; rintro e w' ⟨rfl, rfl⟩))
  go_wp2
  go_ret
  refine ⟨rfl, ?_⟩
  repeat (first | exact Below.refl _ _ | assumption | (refine Below.drew ?_) | (refine Below.alloc ?_ (by first | exact Nat.le_refl _ | (simp; done) | (simp; omega)) _) | (refine Below.setCell ?_ (by first | exact Nat.le_refl _ | (simp; done) | (simp; omega)) _))
theorem cell_any (s a : Int) (w : World) (h1 : 0 ≤ s) (h2 : s ≤ 1000000) (h3 : 0 ≤ a) (h4 : a ≤ 1000000) :
    Calls Try.prog 92 #[.int .i64 s, .int .i64 a] w fun e w' => e = .returned (.int .i64 (1 + s * 3 + a)) ∧ w = w' := by
  go_enter Try.func92, Try.ntmps92
  go_wp2
  go_ret
  exact ⟨rfl, rfl⟩
theorem tug_any (t : Int) (w : World) (h1 : 0 ≤ t) (h2 : t ≤ 1000000) :
    Calls Try.prog 101 #[.int .i64 t] w fun e w' => e = .returned (.int .i64 (10 + t)) ∧ w = w' := by
  go_enter Try.func101, Try.ntmps101
  go_wp2
  go_ret
  exact ⟨rfl, rfl⟩
theorem around_any (n s : Int) (w : World) (h1 : -1000000 ≤ n) (h2 : n ≤ 1000000) (h3 : -1000000 ≤ s) (h4 : s ≤ 1000000) :
    Calls Try.prog 159 #[.int .i64 n, .int .i64 s] w fun e w' => e = .returned (.agg #[.int .i64 (n - s), .int .i64 (n + s)]) ∧ Below w.heap.size w w' := by
  go_enter Try.func159, Try.ntmps159
  go_wp2
  refine bodyPost_ret (v := .agg #[.int .i64 (n - s), .int .i64 (n + s)]) (by simp [results, Try.results159, go_sem]) rfl ⟨rfl, ?_⟩
  repeat (first | exact Below.refl _ _ | assumption | (refine Below.drew ?_) | (refine Below.alloc ?_ (by first | exact Nat.le_refl _ | (simp; done) | (simp; omega)) _) | (refine Below.setCell ?_ (by first | exact Nat.le_refl _ | (simp; done) | (simp; omega)) _))
end Go.Proofs.Ytholfdgebdlgjaa
