/- Vats that say the same have the same recipes; the plain law of DyeNeed. -/
import Derived.Test.YtdjeecgddbjbeaaDne
namespace Go.Proofs.Ytdjeecgddbjbeaa
open Go.RowKit
set_option linter.unusedVariables false
set_option linter.unusedSimpArgs false
theorem snd_getD {α β : Type} (d : α × β) : ∀ (l : List (α × β)) (k : Nat), (l.getD k d).2 = (l.map (·.2)).getD k d.2
  | [], _ => rfl
  | _ :: _, 0 => rfl
  | _ :: l, k + 1 => snd_getD d l k
/-- Two vats that say the same. -/
structure SameV (y x : Vm) : Prop where
  B : y.B = x.B
  tol : y.tol = x.tol
  D : y.D.map (·.2) = x.D.map (·.2)
  L : y.L.map (·.2) = x.L.map (·.2)
theorem SameV.dl {y x : Vm} (h : SameV y x) : y.D.length = x.D.length := by have := congrArg List.length h.D; simpa using this
theorem SameV.ll {y x : Vm} (h : SameV y x) : y.L.length = x.L.length := by have := congrArg List.length h.L; simpa using this
theorem SameV.lamp {y x : Vm} (h : SameV y x) (k : Nat) : y.lamp k = x.lamp k := by rw [Vm.lamp, Vm.lamp, snd_getD, snd_getD, h.L]
theorem SameV.dye {y x : Vm} (h : SameV y x) (k : Nat) : y.dye k = x.dye k := by rw [Vm.dye, Vm.dye, snd_getD, snd_getD, h.D]
theorem SameV.ok {y x : Vm} (h : SameV y x) (hv : VOk x) : VOk y where
  chk := by rw [h.B, h.tol, h.D, h.L]; exact hv.chk
  b1 := by rw [h.B]; exact hv.b1
  b3 := by rw [h.B]; exact hv.b3
  d1 := by rw [h.dl]; exact hv.d1
  d4 := by rw [h.dl]; exact hv.d4
  dl := fun p hp => by
    have hm : p.2 ∈ y.D.map (·.2) := List.mem_map.2 ⟨p, hp, rfl⟩
    rw [h.D] at hm
    obtain ⟨q, hq, he⟩ := List.mem_map.1 hm
    rw [← he, h.B]; exact hv.dl q hq
  l1 := by rw [h.ll]; exact hv.l1
  l3 := by rw [h.ll]; exact hv.l3
  ll := fun p hp => by
    have hm : p.2 ∈ y.L.map (·.2) := List.mem_map.2 ⟨p, hp, rfl⟩
    rw [h.L] at hm
    obtain ⟨q, hq, he⟩ := List.mem_map.1 hm
    rw [← he, h.B]; exact hv.ll q hq
  t0 := by rw [h.tol]; exact hv.t0
  t12 := by rw [h.tol]; exact hv.t12
theorem SameV.ton {y x : Vm} (h : SameV y x) (f : Nat → Int) (j : Nat) : ∀ n, tonE y f j n = tonE x f j n
  | 0 => rfl
  | n + 1 => by
    show tonE y f j n + f n * val (y.dye n) j = tonE x f j n + f n * val (x.dye n) j
    rw [h.ton f j n, h.dye]
theorem SameV.off {y x : Vm} (h : SameV y x) (k : Nat) (f s : Nat → Int) : offE y k f s = offE x k f s := by
  have ht : tnE y f = tnE x f := funext fun j => by rw [tnE, tnE, h.dl, h.ton]
  rw [offE, offE, h.lamp, h.B, ht]
theorem SameV.mat {y x : Vm} (h : SameV y x) (s : Nat → Int) (ls : List Int) : matL y s ls = matL x s ls := by
  rw [matL, matL, h.dl]
  congr 1
  funext t
  rw [cndE, cndE, matE, matE]
  congr 2
  funext l
  rw [h.off, h.tol]
theorem SameV.tolN {y x : Vm} (h : SameV y x) (n : Int) : SameV (y.tolN n) (x.tolN n) := ⟨h.B, rfl, h.D, h.L⟩
theorem SameV.smp {y x : Vm} (h : SameV y x) {s : List Int} (hs : SmpOk x s) : SmpOk y s := ⟨by rw [h.B]; exact hs.1, hs.2⟩
theorem SameV.lmp {y x : Vm} (h : SameV y x) {s : List Int} (hs : LmpsOk x s) : LmpsOk y s := ⟨hs.1, fun n hn => by rw [h.ll]; exact hs.2.1 n hn, hs.2.2⟩
theorem SmpOk.tolN {x : Vm} {s : List Int} (hs : SmpOk x s) (n : Int) : SmpOk (x.tolN n) s := hs
theorem LmpsOk.tolN {x : Vm} {s : List Int} (hs : LmpsOk x s) (n : Int) : LmpsOk (x.tolN n) s := hs
end Go.Proofs.Ytdjeecgddbjbeaa
