/- A range over an iterator that writes cells of its own. No conditions. -/
import Derived.Test.YtdjeecgddbjbeaaDrj
namespace Go.Proofs.Ytdjeecgddbjbeaa
open Go.RowKit
set_option linter.unusedVariables false
set_option linter.unusedSimpArgs false
/-- The block in which the slice of a variable lies. -/
def rowOf (ob : Nat) (W : World) : Option Nat := match W.heap[ob]? with
  | some (.cells cs _ _) => (cs[0]?).bind Value.ownBlock
  | _ => none
/-- A block that a round leaves alone. -/
def Safe (X : List Nat) (ob k : Nat) (W : World) : Prop := k ∉ X ∧ k ≠ ob ∧ rowOf ob W ≠ some k
structure KeepR (X : List Nat) (ob : Nat) (A B : World) : Prop where
  size : A.heap.size ≤ B.heap.size
  cells : ∀ (k : Nat) (cs : Array Value) (T : TypeId) (fz : Nat × Nat), A.heap[k]? = some (.cells cs T fz) → Safe X ob k A → B.heap[k]? = some (.cells cs T fz)
  row : rowOf ob B = rowOf ob A ∨ ∀ r, rowOf ob B = some r → A.heap.size ≤ r
section
variable {X : List Nat} {ob k : Nat} {A B C : World}
theorem Safe.keep (h : Safe X ob k A) (hk : k < A.heap.size) (K : KeepR X ob A B) : Safe X ob k B := by
  refine ⟨h.1, h.2.1, fun e => ?_⟩
  rcases K.row with h1 | h1
  · exact h.2.2 (by rw [← h1]; exact e)
  · have := h1 _ e; omega
theorem Safe.same (h : Safe X ob k A) (e : B.heap[ob]? = A.heap[ob]?) : Safe X ob k B := ⟨h.1, h.2.1, by rw [rowOf, e]; exact h.2.2⟩
theorem KeepR.refl : KeepR X ob A A := ⟨Nat.le_refl _, fun _ _ _ _ h _ => h, .inl rfl⟩
theorem KeepR.trans (h : KeepR X ob A B) (k : KeepR X ob B C) : KeepR X ob A C := by
  refine ⟨Nat.le_trans h.size k.size, fun i cs T fz hi hs => k.cells i cs T fz (h.cells i cs T fz hi hs) (hs.keep (blk_lt hi) h), ?_⟩
  rcases k.row with h1 | h1
  · rw [h1]; exact h.row
  · exact .inr fun r e => Nat.le_trans h.size (h1 r e)
theorem KeepR.put {l : Nat} {o o' : Obj} (hl : A.heap[l]? = some o) (ho : o.isCells = false) (hne : ob ≠ l) : KeepR X ob A (A.putObj l o') := by
  have h0 : (A.putObj l o').heap[ob]? = A.heap[ob]? := World.putObj_heap_other hne
  refine ⟨by simp [World.putObj], fun i cs T fz hi _ => ?_, .inl (by rw [rowOf, h0]; rfl)⟩
  have : i ≠ l := fun e => by subst e; rw [hl] at hi; cases hi; cases ho
  rw [World.putObj_heap_other this]; exact hi
end
/-- An iterator that comes to each element of a list, in order, and goes on as long as yield says so. -/
def SeqR {α : Type} (P : Program) (gf : Nat) (lb : Array Value) (encs : α → Array Value) (X : List Nat) (ob : Nat) (xs : List α) (w : World) : Prop :=
  ∀ (l : Nat) (J : List α → World → Prop) (W : World), w.heap.size ≤ W.heap.size → (∀ k, k < w.heap.size → W.heap[k]? = w.heap[k]?) →
    (∀ s U V, J s U → U.grownBy V none → J s V) →
    (∀ s U V r, J s U → Safe X ob r U → W.heap.size ≤ r → (∃ o : Obj, U.heap[r]? = some o ∧ o.isCells = true) → U.grownBy V (some r) → J s V) →
    (∀ pre x V, J pre V → pre ++ [x] <+: xs → YieldAt Fence.wide 0 P l (encs x) V fun e V' => e = .returned (.bool true) ∧ J (pre ++ [x]) V' ∧ KeepR X ob V V') →
    J [] W → Calls P gf (#[.func (.yield l) #[] #[]] ++ lb) W fun e W' => (∃ v, e = .returned v) ∧ J xs W'
def postR {α : Type} (B : Nat) (X : List Nat) (ob : Nat) (I : List α → World → Prop) (xs : List α) (W : World) : Exit → Act → World → Prop
  | .normal, _, W' => KeepsFrom B W W' ∧ KeepR X ob W W' ∧ I xs W'
  | _, _, _ => False
theorem wide_round {l : Nat} {f : FuncId} {tmps : Array Value} {assign body : Code} {w : World} {R : Ending → World → Prop} {P : Program} {m m' : Nat} (h : RoundIn Fence.wide m P l f tmps assign body w R) : RoundIn Fence.wide m' P l f tmps assign body w R := ⟨h.1, fun c cs _ => h.2 c cs (fun d h => by cases h)⟩
theorem wide_yield {m m' : Nat} {P : Program} {l : Nat} {args : Array Value} {W : World} {R : Ending → World → Prop} (h : YieldAt Fence.wide m P l args W R) : YieldAt Fence.wide m' P l args W R := by
  obtain ⟨fn, tmps, assign, body, hy, hR⟩ := h
  exact ⟨fn, tmps, assign, body, hy, wide_round hR⟩
theorem range_R {α : Type} {P : Program} {g : Operand} {ps : Array Tmp} {assign body : Code} {Q : Exit → Act → World → Prop} {a : Act} {w : World} {gf : Nat} {lb : Array Value} (hg : a.eval g = .func (.func gf) #[] lb) (eg : ∀ args w, (callFunc gf args).run P w = .ok (.enter gf args) w)
    {encs : α → Array Value} {X : List Nat} {ob : Nat} {xs : List α} (hseq : SeqR P gf lb encs X ob xs w) (hps : ∀ x, (encs x).size = ps.size) (hob : ob < w.heap.size)
    (I : List α → World → Prop) (hI1 : ∀ s U V, I s U → U.grownBy V none → I s V)
    (hIo : ∀ s U V r, I s U → w.heap.size ≤ r → (∃ o : Obj, U.heap[r]? = some o ∧ o.isCells = false) → U.grownBy V (some r) → I s V)
    (hIc : ∀ s U V r, I s U → w.heap.size ≤ r → Safe X ob r U → (∃ o : Obj, U.heap[r]? = some o ∧ o.isCells = true) → U.grownBy V (some r) → I s V)
    (h0 : I [] w) (Ax : List α → α → Act → World → Prop) (hAx : ∀ pre x a' U V r, Ax pre x a' U → w.heap.size ≤ r → (∃ o : Obj, U.heap[r]? = some o ∧ o.isCells = false) → U.grownBy V (some r) → Ax pre x a' V)
    (hassign : ∀ (l : Nat) (pre : List α) (x : α) (W : World) (K : Act → World → Prop), I pre W → (∀ a' W', KeepsFrom w.heap.size W W' → KeepR X ob W W' → Ax pre x a' W' → K a' W') →
      assign.wpIn (Fence.wide.inRound l) 0 P (Exit.then K (fun _ _ _ => False)) { tmps := (ps.zip (encs x)).foldl (fun t (p, v) => t.setIfInBounds p v) a.tmps, defers := [] } W)
    (hbody : ∀ (l : Nat) (pre : List α) (x : α) (a' : Act) (W : World), Ax pre x a' W → pre ++ [x] <+: xs → body.wpIn (Fence.wide.inRound l) 0 P (postR w.heap.size X ob I (pre ++ [x]) W) a' W)
    (hdone : ∀ (D : Nat) (W : World), w.heap.size ≤ D → I xs W → W.heap[D]? = some (.deferred (some [])) → Q .normal { a with defers := { target := .collected D, args := #[] } :: a.defers } W) :
    (Code.rangeFunc g ps assign body).wp P Q a w := by
  refine (wpIn_wide (n := 1)).1 (wpIn_rangeFunc fun fn hfn => ?_)
  obtain ⟨rec, hrec⟩ : ∃ rec : LoopState → Option Code → Loop, rec = fun st pe => { state := st, pending := pe, fn, tmps := a.tmps, params := ps, assign, body, defers := w.heap.size } := ⟨_, rfl⟩
  have hput : ∀ {s : List α} {U : World} {l : Nat} {o : Obj} (o' : Obj), I s U → w.heap.size ≤ l → U.heap[l]? = some o → o.isCells = false → I s (U.putObj l o') :=
    fun o' hi hl hu ho => hIo _ _ _ _ hi hl ⟨_, hu, ho⟩ (grownBy_putObj' _ _ _)
  have hn : ∀ {l : Nat}, w.heap.size ≤ l → ob ≠ l := fun h e => by omega
  have sD : ∀ (o : Obj), (w.alloc o).heap.size = w.heap.size + 1 := fun o => by simp
  obtain ⟨W1, hW1⟩ : ∃ W1, W1 = (w.alloc (.deferred (some []))).alloc (.loop (rec .ready none)) := ⟨_, rfl⟩
  have hs1 : W1.heap.size = w.heap.size + 1 + 1 := by rw [hW1]; simp
  have hL1 : W1.heap[w.heap.size + 1]? = some (.loop (rec .ready none)) := by rw [hW1]; exact blk_new (by simp)
  have hD1 : W1.heap[w.heap.size]? = some (.deferred (some [])) := by rw [hW1]; exact (Below.heap_alloc _ _ _ (by simp)).trans (World.alloc_heap_new w _)
  have hb1 : ∀ k, k < w.heap.size → W1.heap[k]? = w.heap[k]? := fun k hk => by
    rw [hW1]; exact (Below.heap_alloc _ _ _ (by simp; omega)).trans (Below.heap_alloc _ _ _ hk)
  have hI0 : I [] W1 := by rw [hW1]; exact hI1 _ _ _ (hI1 _ _ _ h0 (World.grownBy_alloc _ _ _)) (World.grownBy_alloc _ _ _)
  refine ⟨w.heap.size + 1, [{ target := .collected w.heap.size, args := #[] }], W1, { target := .fn (.func gf) lb, args := #[.func (.yield (w.heap.size + 1)) #[] #[]] }, W1, gf,
    #[.func (.yield (w.heap.size + 1)) #[] #[]] ++ lb, W1, ?_, ?_, fun _ _ => trivial, ?_, (fun h => by cases h), ?_⟩
  · rw [hW1, hrec]; exact run_enterLoop_outer _ _ _ _ _
  · simp only [resolve, hg]
    simp [go_sem]
  · simp [invoke, go_sem, eg]
  · refine (callsIn_wide.2 (hseq (w.heap.size + 1) (fun pre W => I pre W ∧ W.heap[w.heap.size + 1]? = some (.loop (rec .ready none)) ∧ W.heap[w.heap.size]? = some (.deferred (some [])))
      W1 (by omega) hb1 (fun s U V h hg' => ⟨hI1 _ _ _ h.1 hg', (hg'.block _ (blk_lt h.2.1) (by simp)).trans h.2.1, (hg'.block _ (blk_lt h.2.2) (by simp)).trans h.2.2⟩)
      (fun s U V r h hsf hr hc hg' => ⟨hIc _ _ _ _ h.1 (by omega) hsf hc hg', (hg'.block _ (blk_lt h.2.1) (fun e => by cases e; omega)).trans h.2.1, (hg'.block _ (blk_lt h.2.2) (fun e => by cases e; omega)).trans h.2.2⟩)
      ?_ ⟨hI0, hL1, hD1⟩)).mono ?_
    · rintro pre x W ⟨hi, hl, hk⟩ hpx
      have hy := run_yield (P := P) (args := encs x) hl (by rw [hrec]; exact hps x)
      rw [hrec] at hy
      refine ⟨fn, _, assign, body, hy, roundIn_of_wpIn hfn (hassign _ pre x W _ hi ?_)⟩
      clear hy
      intro a' Wa hkf hkr hax
      have hla := hkf.same _ _ (by omega) hl rfl
      have hka := hkf.same _ _ (Nat.le_refl _) hk rfl
      refine ⟨_, run_beginRound hla (by rw [hrec]), ?_⟩
      obtain ⟨Wb, hWb⟩ : ∃ Wb, Wb = Wa.putObj (w.heap.size + 1) (.loop { rec .ready none with state := .busy }) := ⟨_, rfl⟩
      have hlb : Wb.heap[w.heap.size + 1]? = some (.loop { rec .ready none with state := .busy }) := by rw [hWb]; exact World.putObj_heap_same (blk_lt hla)
      have hkb : Wb.heap[w.heap.size]? = some (.deferred (some [])) := by rw [hWb]; exact (World.putObj_heap_other (by omega)).trans hka
      have hrb : KeepR X ob Wa Wb := by rw [hWb]; exact KeepR.put hla rfl (hn (by omega))
      have haxb : Ax pre x a' Wb := by rw [hWb]; exact hAx _ _ _ _ _ _ hax (by omega) ⟨_, hla, rfl⟩ (grownBy_putObj' _ _ _)
      rw [← hWb]
      refine wpIn_mono (hbody _ pre x a' Wb haxb hpx) ?_
      rintro e a3 W3 hp
      cases e with
      | normal =>
        obtain ⟨hk3, hr3, hi3⟩ := hp
        have hl3 := hk3.same _ _ (by omega) hlb rfl
        have he := run_endRound (P := P) none hl3
        rw [hrec] at he hl3
        refine ⟨_, _, he, rfl, ⟨hput _ hi3 (by omega) hl3 rfl, ?_, ?_⟩, hkr.trans (hrb.trans (hr3.trans (KeepR.put hl3 rfl (hn (by omega)))))⟩
        · rw [hrec]; exact World.putObj_heap_same (blk_lt hl3)
        · exact (World.putObj_heap_other (by omega)).trans (hk3.same _ _ (Nat.le_refl _) hkb rfl)
      | _ => exact hp.elim
    · rintro e W2 ⟨⟨v, rfl⟩, hi, hl, hk⟩
      refine ⟨none, _, by have := run_endLoop (P := P) hl (by rw [hrec]; simp); rw [hrec] at this; exact this, hdone _ _ (Nat.le_refl _) (hput _ hi (by omega) hl rfl) ((World.putObj_heap_other (by omega)).trans hk)⟩
end Go.Proofs.Ytdjeecgddbjbeaa
