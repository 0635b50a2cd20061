/- Parts of a proof: Enter. No conditions. -/
import Derived.Below
import Derived.Conc.Holds
import Derived.KernelRfl
import Derived.Leaving
import Derived.ProofKit
import Derived.Test.YtdjeecgddbjbeaaGreatRows
import Derived.WalkKit
import GoSem.ClaimOpen
namespace Go.Proofs.YtdjeecgddbjbeaaGreat
theorem lsQ{α:Type}{a b:α}{l:List α}{n:Nat}:(a::l).set (n+1) b=a::l.set n b:=rfl
theorem lzQ{α:Type}{a b:α}{l:List α}:(a::l).set 0 b=b::l:=rfl
end Go.Proofs.YtdjeecgddbjbeaaGreat
set_option linter.unusedVariables false
set_option linter.unusedSimpArgs false
namespace Go.Proofs.YtdjeecgddbjbeaaGreat
open Go Go.RowKit
def IsRow (k : IntKind) (w : World) (a : Option Addr) (len cap : Nat) (zs : List Int) : Prop:=
 (a = none ∧ len = 0 ∧ cap = 0 ∧ zs = []) ∨
 ∃ x,a = some x ∧ len ≤ cap ∧ cap ≤ maxLen ∧ zs.length = cap ∧ (∀ i,i < zs.length → w.cell? (x.add i) = some (.int k (zs.getD i 0))) ∧ ∀ n ∈ zs,(Lit.int k n).wf = true
theorem joinedFacts_of {P : Program} {f : FuncId} {fn : Func} {s : ChangeSpec} {c : OpenClaim} (h1 : (c.wf (OpenSpec.ofChange s) : Bool) = true) (h2 : (laidOutB P : Bool) = true) (h3 : (mapsRowed P : Bool) = true) (h4 : (fn.params.all (P.readableRec ·) : Bool) = true) (h5 : (namedTie P c.named s.vars : Bool) = true) (h6 : ((c.stops == []) : Bool) = true) (h7 : ((P.stops == []) : Bool) = true) (h8 : ((c.knobs == []) : Bool) = true) (h9 : ((P.stopKnobs == []) : Bool) = true) (h10 : ((c.inPlace == P.inPlace f) : Bool) = true) (h11 : ((c.unfollowed == P.unfollowed f) : Bool) = true) (h12 : ((c.recurses == P.recurses f) : Bool) = true) (h13 : ((c.named == P.varsNamed f) : Bool) = true) (h14 : ((c.maps == (fn.params.toList ++ s.plain.varTypes P).any (P.mapsRec ·)) : Bool) = true) (h15 : ((c.ifaces == (fn.params.toList ++ s.plain.varTypes P).any (P.ifacesRec ·)) : Bool) = true) (h16 : ((c.mapsOut == P.mapsAmong fn.resultTypes.toList) : Bool) = true) (h17 : ((c.loops == (fn.params.toList ++ s.plain.varTypes P).any (P.loopsFrom ·)) : Bool) = true) (h18 : ((c.wideKeys == (fn.params.toList ++ s.plain.varTypes P ++ fn.resultTypes.toList).any (P.wideKeysFrom ·)) : Bool) = true) (h19 : (s.vars.all (P.varReadable ·) : Bool) = true) (h20 : (fn.resultTypes.all (fun t=>P.readableRec t && decide (t < P.types.size)) : Bool) = true) (h21 : ((c.ifacesOut == fn.resultTypes.toList.any (P.ifacesRec ·)) : Bool) = true) (h22 : ((c.loopsOut == fn.resultTypes.toList.any (P.loopsFrom ·)) : Bool) = true) (h23 : ((c.plainKeys == P.plainKeys) : Bool) = true) (h24 : (c.shortTexts.isNone : Bool) = true) (h25 : (P.stopsHeard : Bool) = true) (h26 : (P.mayEnter : Bool) = true) (h27 : ((c.lifted == P.liftsFinal) : Bool) = true) (h28 : ((P.make == some c.make) : Bool) = true) (h29 : ((c.domain.isEmpty && c.kinds == []) : Bool) = true) (h30 : ((c.pinned == c.pinnedBy) : Bool) = true) (h31 : ((c.veiled == (fn.params.toList ++ s.plain.varTypes P ++ fn.resultTypes.toList).any (P.veiledRec ·)) : Bool) = true) (h32 : (c.veiledFits P fn.params.toList (fn.params.toList ++ s.plain.varTypes P ++ fn.resultTypes.toList) : Bool) = true) : joinedFacts P f fn s c = true:=by
 unfold joinedFacts
 simp only [Bool.and_eq_true] at h29
 have h29' : (c.kinds == (if c.domain.isEmpty then [] else fn.params.toList.map fun t=>match P.underlying t with | some (.int k)=>some k | _=>none)) = true:=by rw [if_pos h29.1];exact h29.2
 simp only [Bool.and_eq_true]
 exact ⟨⟨⟨⟨⟨⟨⟨⟨⟨⟨⟨⟨⟨⟨⟨⟨⟨⟨⟨⟨⟨⟨⟨⟨⟨⟨⟨⟨⟨⟨⟨h1,h2⟩,h3⟩,h4⟩,h5⟩,h6⟩,h7⟩,h8⟩,h9⟩,h10⟩,h11⟩,h12⟩,h13⟩,h14⟩,h15⟩,h16⟩,h17⟩,h18⟩,h19⟩,h20⟩,h21⟩,h22⟩,h23⟩,h24⟩,h25⟩,h26⟩,h27⟩,h28⟩,h29'⟩,h30⟩,h31⟩,h32⟩
theorem initChars : ∃ r : List Nat,Tryz.prog.initOrder = String.ofList (r.map Char.ofNat) ∧ r = [104,97,114,110,101,115,115,32,55,51,48,50,48,56,99,50,99,55,102,48,54,102,54,55,48,97,97,97,102,53,99,48,100,99,97,99,51,50,48,97,52,98,49,55,102,57,56,101,53,57,98,56,102,57,57,99,100,97,51,57,101,98,48,51,52,51,48,48,100,99,98,52,32,99,117,116,32,97,116,32,103,97,108,108,111,111,110,47,103,97,108,108,111,111,110,108,97,119,48,54,46,68,121,101,82,101,99,105,112,101,115]:=⟨_,by kernel_rfl,rfl⟩
theorem initSigns : wordsSigns Tryz.prog.initOrder.toList = [[104,97,114,110,101,115,115],[55,51,48,50,48,56,99,50,99,55,102,48,54,102,54,55,48,97,97,97,102,53,99,48,100,99,97,99,51,50,48,97,52,98,49,55,102,57,56,101,53,57,98,56,102,57,57,99,100,97,51,57,101,98,48,51,52,51,48,48,100,99,98,52],[99,117,116],[97,116],[103,97,108,108,111,111,110,47,103,97,108,108,111,111,110,108,97,119,48,54,46,68,121,101,82,101,99,105,112,101,115]].map (fun w=>w.map Char.ofNat):=by
 obtain ⟨r,hr,hr2⟩:=initChars
 rw [hr,String.toList_ofList,hr2]
 kernel_rfl
theorem mayEnter_of {P : Program} {c : List Char} {rest ws2 : List (List Char)} (h : behindMainWord (wordsSigns P.initOrder.toList) = c :: rest) (hs : stripLifts liftWords (c :: rest) = ([], ws2)) (hc : (ws2.head? == some "cut".toList) = true) (hl : P.laysLater = false) (hb : P.bearsReflect = false) (hd : P.doorFits [] = true) : P.mayEnter = true := by
 unfold Program.mayEnter
 rw [h]
 simp only [hs,hc,hl,hb,hd]
 simp
theorem behind : behindMainWord (wordsSigns Tryz.prog.initOrder.toList) = [99,117,116].map Char.ofNat :: [[97,116],[103,97,108,108,111,111,110,47,103,97,108,108,111,111,110,108,97,119,48,54,46,68,121,101,82,101,99,105,112,101,115]].map (fun w=>w.map Char.ofNat):=by
 rw [initSigns]
 kernel_rfl
theorem strips : stripLifts liftWords ([99,117,116].map Char.ofNat :: [[97,116],[103,97,108,108,111,111,110,47,103,97,108,108,111,111,110,108,97,119,48,54,46,68,121,101,82,101,99,105,112,101,115]].map (fun w=>w.map Char.ofNat)) = ([],[99,117,116].map Char.ofNat :: [[97,116],[103,97,108,108,111,111,110,47,103,97,108,108,111,111,110,108,97,119,48,54,46,68,121,101,82,101,99,105,112,101,115]].map (fun w=>w.map Char.ofNat)):=by kernel_rfl
theorem headCut : ((([99, 117, 116].map Char.ofNat :: [[97, 116], [103, 97, 108, 108, 111, 111, 110, 47, 103, 97, 108, 108, 111, 111, 110, 108, 97, 119, 48, 54, 46, 68, 121, 101, 82, 101, 99, 105, 112, 101, 115]].map (fun w => w.map Char.ofNat)) : List (List Char)).head? == some "cut".toList) = true := by kernel_rfl
theorem laysLater : Tryz.prog.laysLater = false:=by kernel_rfl
theorem bearsReflect : Tryz.prog.bearsReflect = false:=by kernel_rfl
theorem doorFits : Tryz.prog.doorFits [] = true:=by kernel_rfl
theorem liftsFinal_of {P : Program} {c : List Char} {rest ws2 : List (List Char)} (h : behindMainWord (wordsSigns P.initOrder.toList) = c :: rest) (hs : stripLifts liftWords (c :: rest) = ([], ws2)) (hc : (c == "carried".toList) = false) : P.liftsFinal = false := by
 unfold Program.liftsFinal Program.headLifts
 rw [h]
 simp only [hs,List.head?_cons]
 have e : (some c == some "carried".toList) = false := hc
 rw [e]
 simp
theorem make_of {P : Program} {c : List Char} {rest : List (List Char)} (h : behindMainWord (wordsSigns P.initOrder.toList) = c :: rest) (hg : (c == "gc".toList) = false) (hp : (c == "spec".toList) = false) (hc : (c == "cut".toList) = true) : P.make = some .cut := by
 unfold Program.make
 rw [h]
 simp only [hg,hp,hc]
 simp
theorem notCarried : ([99, 117, 116].map Char.ofNat == "carried".toList) = false := by kernel_rfl
theorem notGc : ([99, 117, 116].map Char.ofNat == "gc".toList) = false := by kernel_rfl
theorem notSpec : ([99, 117, 116].map Char.ofNat == "spec".toList) = false := by kernel_rfl
theorem isCut : ([99, 117, 116].map Char.ofNat == "cut".toList) = true := by kernel_rfl
theorem liftsFinal : Tryz.prog.liftsFinal = false:=liftsFinal_of behind strips notCarried
theorem made : Tryz.prog.make = some .cut:=make_of behind notGc notSpec isCut
theorem laidAll : laidOutB Tryz.pinned.checked.prog = true:=by kernel_rfl
theorem mapsAll : mapsRowed Tryz.pinned.checked.prog = true:=by kernel_rfl
theorem stopsNone : (Tryz.pinned.checked.prog.stops == []) = true:=by kernel_rfl
theorem knobsNone : (Tryz.pinned.checked.prog.stopKnobs == []) = true:=by kernel_rfl
theorem stopsHeard : Tryz.pinned.checked.prog.stopsHeard = true:=by kernel_rfl
theorem own : ownKnob Tryz.prog.godebug = none:=by kernel_rfl
theorem mayEnter : Tryz.prog.mayEnter = true:=mayEnter_of behind strips headCut laysLater bearsReflect doorFits
end Go.Proofs.YtdjeecgddbjbeaaGreat
