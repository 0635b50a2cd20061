/- The chapter's examples have the results given there. No conditions. -/
import Derived.Test.YtdjeecgddbjbeaaDvv
import Derived.Test.YtdjeecgddbjbeaaDxo
namespace Go.Proofs.Ytdjeecgddbjbeaa
open Go.RowKit
set_option linter.unusedVariables false
set_option linter.unusedSimpArgs false
/-- A vat without its places. -/
def mkV (B : Int) (D L : List (List Int)) (tol : Int) : Vm := { B := B, tol := tol, da := none, dc := 0, la := none, lc := 0, D := D.map fun l => (.bool true, l), L := L.map fun l => (.bool true, l) }
/-- Two vats say the same. -/
structure AlkV' (x y : Vm) : Prop where
  b : x.B = y.B
  t : x.tol = y.tol
  d : x.D.map (·.2) = y.D.map (·.2)
  l : x.L.map (·.2) = y.L.map (·.2)
theorem mk_snd (D : List (List Int)) : (D.map fun l => ((.bool true : Value), l)).map (·.2) = D := by
  rw [List.map_map]; exact List.map_id _
section
variable {x y : Vm} (h : AlkV' x y)
include h
theorem AlkV'.dl : x.D.length = y.D.length := by have := congrArg List.length h.d; simpa using this
theorem AlkV'.ll : x.L.length = y.L.length := by have := congrArg List.length h.l; simpa using this
theorem AlkV'.dye (k : Nat) : x.dye k = y.dye k := by
  have := congrArg (fun l => l.getD k []) h.d
  simp only [Vm.dye]
  by_cases hk : k < x.D.length
  · have h1 := key_getD x.D hk
    have h2 := key_getD y.D (h.dl ▸ hk)
    rw [← h1, ← h2]; exact this
  · rw [List.getD_eq_getElem?_getD, List.getD_eq_getElem?_getD, List.getElem?_eq_none (by omega), List.getElem?_eq_none (by have := h.dl; omega)]
theorem AlkV'.lamp (k : Nat) : x.lamp k = y.lamp k := by
  have := congrArg (fun l => l.getD k []) h.l
  simp only [Vm.lamp]
  by_cases hk : k < x.L.length
  · have h1 := key_getD x.L hk
    have h2 := key_getD y.L (h.ll ▸ hk)
    rw [← h1, ← h2]; exact this
  · rw [List.getD_eq_getElem?_getD, List.getD_eq_getElem?_getD, List.getElem?_eq_none (by omega), List.getElem?_eq_none (by have := h.ll; omega)]
theorem AlkV'.tn (f : Nat → Int) : tnE x f = tnE y f := by funext j; simp only [tnE, tonE, h.dl, h.dye]
theorem AlkV'.off (k : Nat) (f s : Nat → Int) : offE x k f s = offE y k f s := by simp only [offE, h.lamp, h.tn, h.b]
theorem AlkV'.mat (f s : Nat → Int) (ls : List Int) : matE x f s ls = matE y f s ls := by simp only [matE, h.off, h.t]
theorem AlkV'.matL (s : Nat → Int) (ls : List Int) : matL x s ls = matL y s ls := by
  rw [Go.Proofs.Ytdjeecgddbjbeaa.matL, Go.Proofs.Ytdjeecgddbjbeaa.matL, h.dl]
  congr 1
  funext t
  simp only [cndE, h.mat]
theorem AlkV'.few (s : Nat → Int) (ls : List Int) : fewR x s ls = fewR y s ls := by simp only [fewR, h.matL, h.dl]
theorem AlkV'.cor (t : List Int) (s : Nat → Int) (ls : List Int) : corR x t s ls = corR y t s ls := by
  have : corB x t s ls = corB y t s ls := by funext q; simp only [corB, h.mat]
  simp only [corR, corO, this, h.dl]
theorem AlkV'.alk (k : Nat) (f g : Nat → Int) : alkE x k f g = alkE y k f g := by
  have : alkV x k f g = alkV y k f g := by simp only [alkV, h.lamp, h.tn, h.b]
  rw [alkE, alkE, this, h.t]
theorem AlkV'.tel (T : List (List Int)) : telR x T = telR y T := by
  have h1 : unN x T = unN y T := by
    funext n
    have : unP x n T = unP y n T := by funext j k; simp only [unP, h.alk]
    simp only [unN, this]
  have h2 : cT x T = cT y T := by funext n; simp only [cT, h1]
  simp only [telR, h1, h2, h.ll]
theorem AlkV'.sha (lp : Nat) (T : List (List Int)) : shaR x lp T = shaR y lp T := by
  have : shdE x T lp = shdE y T lp := by funext j k; simp only [shdE, h.lamp, h.tn, h.b]
  simp only [shaR, this]
theorem AlkV'.mos (ls : List Int) (T : List (List Int)) : mosR x ls T = mosR y ls T := by
  have : nrB x ls T = nrB y ls T := by funext j k; simp only [nrB, h.alk]
  simp only [mosR, this]
theorem AlkV'.ok (hy : VOk y) : VOk x := by
  have key : ∀ {P : List Int → Prop} {X Y : List (Value × List Int)}, X.map (·.2) = Y.map (·.2) → (∀ p ∈ Y, P p.2) → ∀ p ∈ X, P p.2 := by
    intro P X Y he hP p hp
    have : p.2 ∈ X.map (·.2) := List.mem_map.2 ⟨p, hp, rfl⟩
    rw [he] at this
    obtain ⟨q, hq, e⟩ := List.mem_map.1 this
    rw [← e]; exact hP q hq
  refine ⟨by rw [h.b, h.t, h.d, h.l]; exact hy.chk, by rw [h.b]; exact hy.b1, by rw [h.b]; exact hy.b3, by rw [h.dl]; exact hy.d1, by rw [h.dl]; exact hy.d4, ?_, by rw [h.ll]; exact hy.l1, by rw [h.ll]; exact hy.l3, ?_, by rw [h.t]; exact hy.t0, by rw [h.t]; exact hy.t12⟩
  · rw [h.b]; exact key (P := fun l => (l.length : Int) = y.B ∧ ∀ n ∈ l, 0 ≤ n ∧ n ≤ 9) h.d hy.dl
  · rw [h.b]; exact key (P := fun l => (l.length : Int) = y.B ∧ ∀ n ∈ l, 0 ≤ n ∧ n ≤ 3) h.l hy.ll
end
def vat0 : Vm := mkV 3 vatD vatL 1
theorem vat0_ok : VOk vat0 := by
  refine ⟨?_, ?_, ?_, ?_, ?_, ?_, ?_, ?_, ?_, ?_, ?_⟩ <;> decide +kernel
theorem IsVat.alk {x : Vm} (h : IsVat x) : AlkV' x vat0 := ⟨h.b, h.t, by rw [h.d]; rfl, by rw [h.l]; rfl⟩
theorem val_few : fewR vat0 (val [4, 3, 2]) [0, 1] = ([1, 2, 0, 0], 0) := by decide +kernel
theorem val_off : offE vat0 1 (val [1, 1, 0, 0]) (val [4, 3, 2]) = 6 := by decide +kernel
theorem val_cor : corR vat0 [0, 0, 0, 1] (val [4, 3, 2]) [0, 1] = ([1, 1, 0, 0], 0) := by decide +kernel
theorem val_tel : telR vat0 clothL = (1, 5, 0) := by decide +kernel
theorem val_sha : shaR vat0 1 clothL = [1, 2, 3, 0] := by decide +kernel
theorem val_mos : mosR vat0 [1] clothL = [2, 3] := by decide +kernel
section
variable {x : Vm} (h : IsVat x)
include h
theorem IsVat.ok : VOk x := h.alk.ok vat0_ok
theorem IsVat.smp : SmpOk x [4, 3, 2] := ⟨by rw [h.b]; rfl, by decide⟩
theorem IsVat.dl : x.D.length = 4 := h.alk.dl
theorem IsVat.ll : x.L.length = 2 := h.alk.ll
theorem IsVat.both : LmpsOk x [0, 1] := ⟨by decide, by rw [LmpOk, h.ll]; decide, fun i h0 h1 => by rcases i with _ | _ | i; (· omega); (· decide); (· simp at h1; omega)⟩
theorem IsVat.one : LmpsOk x [1] := ⟨by decide, by rw [LmpOk, h.ll]; decide, fun i h0 h1 => by simp at h1; omega⟩
theorem IsVat.rcp {l : List Int} (h1 : l.length = 4) (h2 : ∀ n ∈ l, 0 ≤ n ∧ n ≤ 6) (h3 : 1 ≤ l.sum) (h4 : l.sum ≤ 6) : RcpOk x l := ⟨by rw [h.dl]; exact h1, h2, h3, h4⟩
theorem IsVat.cloths {S : List (Value × List Int)} (hs : S.map (·.2) = clothL) : ∀ p ∈ S, RcpOk x p.2 := by
  have key : ∀ l ∈ clothL, l.length = 4 ∧ (∀ n ∈ l, 0 ≤ n ∧ n ≤ 6) ∧ 1 ≤ l.sum ∧ l.sum ≤ 6 := by decide
  intro p hp
  have hm : p.2 ∈ clothL := by rw [← hs]; exact List.mem_map.2 ⟨p, hp, rfl⟩
  obtain ⟨h1, h2, h3, h4⟩ := key _ hm
  exact h.rcp h1 h2 h3 h4
theorem IsVat.few : fewR x (val [4, 3, 2]) [0, 1] = ([1, 2, 0, 0], 0) := (h.alk.few _ _).trans val_few
theorem IsVat.off : offE x 1 (val [1, 1, 0, 0]) (val [4, 3, 2]) = 6 := (h.alk.off _ _ _).trans val_off
theorem IsVat.cor : corR x [0, 0, 0, 1] (val [4, 3, 2]) [0, 1] = ([1, 1, 0, 0], 0) := (h.alk.cor _ _ _).trans val_cor
theorem IsVat.tel : telR x clothL = (1, 5, 0) := (h.alk.tel _).trans val_tel
theorem IsVat.sha : shaR x 1 clothL = [1, 2, 3, 0] := (h.alk.sha _ _).trans val_sha
theorem IsVat.mos : mosR x [1] clothL = [2, 3] := (h.alk.mos _ _).trans val_mos
end
theorem four_len {S : List (Value × List Int)} (hs : S.map (·.2) = clothL) : S.length = 4 := by have := congrArg List.length hs; simpa [clothL] using this
section
variable {x : Vm} (h : IsVat x) {w : World} (ha : x.At w)
include h ha
theorem dy_few {a b : Option Addr} {c d : Nat} (hr : IsRows w (.slice a [(4 : Int), 3, 2].length c) 1 ([(4 : Int), 3, 2].map intRow)) (hq : IsRows w (.slice b [(0 : Int), 1].length d) 1 ([(0 : Int), 1].map intRow)) :
    Calls Try.prog 39 #[.agg #[.int .i64 x.B, .slice x.da x.D.length x.dc, .slice x.la x.L.length x.lc, .int .i64 x.tol], .slice a 3 c, .slice b 2 d] w fun e w' => ∃ a c, e = .returned (.tuple #[.slice a 4 c, .int .i64 0]) ∧ IsRows w' (.slice a [(1 : Int), 2, 0, 0].length c) 1 ([(1 : Int), 2, 0, 0].map intRow) ∧ Ext [] w w' := by
  refine Calls.mono (xFewest_ok x h.ok [4, 3, 2] h.smp [0, 1] h.both (by decide) a b c d w ha hr hq) ?_
  rintro e w' ⟨a, c, he, ho, hE⟩
  rw [h.few] at he ho
  exact ⟨a, c, he, rows_of_ivs ho rfl, hE⟩
theorem dy_off {a b : Option Addr} {c d : Nat} (hr : IsRows w (.slice a [(1 : Int), 1, 0, 0].length c) 1 ([(1 : Int), 1, 0, 0].map intRow)) (hq : IsRows w (.slice b [(4 : Int), 3, 2].length d) 1 ([(4 : Int), 3, 2].map intRow)) :
    Calls Try.prog 46 #[.agg #[.int .i64 x.B, .slice x.da x.D.length x.dc, .slice x.la x.L.length x.lc, .int .i64 x.tol], .int .i64 1, .slice a 4 c, .slice b 3 d] w fun e w' => e = .returned (.tuple #[.int .i64 6, .int .i64 0]) ∧ Ext [] w w' := by
  have := xOff_ok x h.ok 1 (by rw [h.ll]; decide) [1, 1, 0, 0] (h.rcp rfl (by decide) (by decide) (by decide)) [4, 3, 2] h.smp a b c d w ha hr hq
  rw [h.off] at this
  exact this
theorem dy_cor {a b k : Option Addr} {c d l : Nat} (hp : IsRows w (.slice a [(0 : Int), 0, 0, 1].length c) 1 ([(0 : Int), 0, 0, 1].map intRow)) (hr : IsRows w (.slice b [(4 : Int), 3, 2].length d) 1 ([(4 : Int), 3, 2].map intRow)) (hq : IsRows w (.slice k [(0 : Int), 1].length l) 1 ([(0 : Int), 1].map intRow)) :
    Calls Try.prog 20 #[.agg #[.int .i64 x.B, .slice x.da x.D.length x.dc, .slice x.la x.L.length x.lc, .int .i64 x.tol], .slice a 4 c, .slice b 3 d, .slice k 2 l] w fun e w' => ∃ a c, e = .returned (.tuple #[.slice a 4 c, .int .i64 0]) ∧ IsRows w' (.slice a [(1 : Int), 1, 0, 0].length c) 1 ([(1 : Int), 1, 0, 0].map intRow) ∧ Ext [] w w' := by
  refine Calls.mono (xCorrect_ok x h.ok [0, 0, 0, 1] (h.rcp rfl (by decide) (by decide) (by decide)) [4, 3, 2] h.smp [0, 1] h.both (by decide) a b k c d l w ha hp hr hq) ?_
  rintro e w' ⟨a, c, he, ho, hE⟩
  rw [h.cor] at he ho
  exact ⟨a, c, he, rows_of_ivs ho rfl, hE⟩
theorem dy_tel {a : Option Addr} {c : Nat} {S : List (Value × List Int)} (hs : S.map (·.2) = clothL) (hl : LolAt w a S) :
    Calls Try.prog 47 #[.agg #[.int .i64 x.B, .slice x.da x.D.length x.dc, .slice x.la x.L.length x.lc, .int .i64 x.tol], .slice a S.length c] w fun e w' => e = .returned (.tuple #[.int .i64 1, .int .i64 5, .int .i64 0]) ∧ Ext [] w w' := by
  have := xTelling_ok x h.ok S (h.cloths hs) (by rw [four_len hs]; decide) a c w ha hl
  rw [hs, h.tel] at this
  exact this
theorem dy_sha {a : Option Addr} {c : Nat} {S : List (Value × List Int)} (hs : S.map (·.2) = clothL) (hl : LolAt w a S) :
    Calls Try.prog 30 #[.agg #[.int .i64 x.B, .slice x.da x.D.length x.dc, .slice x.la x.L.length x.lc, .int .i64 x.tol], .int .i64 1, .slice a S.length c] w fun e w' => ∃ a c, e = .returned (.tuple #[.slice a 4 c, .int .i64 0]) ∧ IsRows w' (.slice a [(1 : Int), 2, 3, 0].length c) 1 ([(1 : Int), 2, 3, 0].map intRow) ∧ Ext [] w w' := by
  refine Calls.mono (xShades_ok x h.ok 1 (by rw [h.ll]; decide) S (h.cloths hs) (by rw [four_len hs]; decide) a c w ha hl) ?_
  rintro e w' ⟨a, c, he, ho, hE⟩
  rw [hs, h.sha] at he ho
  exact ⟨a, c, he, rows_of_ivs ho rfl, hE⟩
theorem dy_mos {a b : Option Addr} {c d : Nat} {S : List (Value × List Int)} (hs : S.map (·.2) = clothL) (hl : LolAt w a S) (hq : IsRows w (.slice b [(1 : Int)].length d) 1 ([(1 : Int)].map intRow)) :
    Calls Try.prog 28 #[.agg #[.int .i64 x.B, .slice x.da x.D.length x.dc, .slice x.la x.L.length x.lc, .int .i64 x.tol], .slice a S.length c, .slice b 1 d] w fun e w' => ∃ a c, e = .returned (.tuple #[.slice a 2 c, .int .i64 0]) ∧ IsRows w' (.slice a [(2 : Int), 3].length c) 1 ([(2 : Int), 3].map intRow) ∧ Ext [] w w' := by
  refine Calls.mono (xMost_ok x h.ok S (h.cloths hs) (by rw [four_len hs]; decide) [1] h.one (by decide) a b c d w ha hl hq) ?_
  rintro e w' ⟨a, c, he, ho, hE⟩
  rw [hs, h.mos] at he ho
  exact ⟨a, c, he, rows_of_ivs ho rfl, hE⟩
end
end Go.Proofs.Ytdjeecgddbjbeaa
