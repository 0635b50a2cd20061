/- Parts of a proof: Enter, Mem, M1, Sx, Mat, M2, M3, Sets, Eqs, Fw, Tp, Sy. No conditions. -/
import Derived.Below
import Derived.Conc.Holds
import Derived.Deep.Cut
import Derived.Deep.RegionHeld3
import Derived.IntWalk
import Derived.KernelRfl
import Derived.Leaving
import Derived.Lib.Hide
import Derived.LoopTactic
import Derived.Outline
import Derived.ProofKit
import Derived.StillTailTactics
import Derived.Test.YtholfdgebdlgjaaRows
import Derived.WalkKit
import Derived.WalkLawsBesides
import Derived.WalkSpells
import GoSem.ClaimOpen
namespace Go.Proofs.Ytholfdgebdlgjaa
theorem ls{α:Type}{a b:α}{l:List α}{n:Nat}:(a::l).set (n+1) b=a::l.set n b:=rfl
theorem lz{α:Type}{a b:α}{l:List α}:(a::l).set 0 b=b::l:=rfl
end Go.Proofs.Ytholfdgebdlgjaa
set_option linter.unusedVariables false
set_option linter.unusedSimpArgs false
namespace Go.Proofs.Ytholfdgebdlgjaa
open Go Go.RowKit
def Z62 (k:IntKind) (w:World) (a:Option Addr) (len cap:Nat) (zs:List Int):Prop:=
 (a = none ∧ len = 0 ∧ cap = 0 ∧ zs = []) ∨
 ∃ x,a = some x ∧ len ≤ cap ∧ cap ≤ maxLen ∧ zs.length = cap ∧ (∀ i,i < zs.length → w.cell? (x.add i) = some (.int k (zs.getD i 0))) ∧ ∀ n ∈ zs,(Lit.int k n).wf = true
theorem Z43 {a:Assume} {C:Checked} {os:Os} {f:FuncId} {r:Reach} {Pre:World → Array Value → Prop} {Post:World → Array Value → Value → World → Prop}
  (h:ReturnsInHanded a C os f r Pre Post):ReturnsInLeavingWide a C os f r Pre Post:=
 fun enter=>ReturnsInOpen.mono (fun _ _ _ x=>⟨x.2.1,onlyLeaving_of_quiet x.1,x.2.2⟩) (fun _ x=>x) (h enter)
theorem Z4Y {P:Program} {f:FuncId} {fn:Func} {s:ChangeSpec} {c:OpenClaim} (h1:(c.wf (OpenSpec.ofChange s):Bool) = true) (h2:(laidOutB P:Bool) = true) (h3:(mapsRowed P:Bool) = true) (h4:(fn.params.all (P.readableRec ·):Bool) = true) (h5:(namedTie P c.named s.vars:Bool) = true) (h6:((c.stops == []):Bool) = true) (h7:((P.stops == []):Bool) = true) (h8:((c.knobs == []):Bool) = true) (h9:((P.stopKnobs == []):Bool) = true) (h10:((c.inPlace == P.inPlace f):Bool) = true) (h11:((c.unfollowed == P.unfollowed f):Bool) = true) (h12:((c.recurses == P.recurses f):Bool) = true) (h13:((c.named == P.varsNamed f):Bool) = true) (h14:((c.maps == (fn.params.toList ++ s.plain.varTypes P).any (P.mapsRec ·)):Bool) = true) (h15:((c.ifaces == (fn.params.toList ++ s.plain.varTypes P).any (P.ifacesRec ·)):Bool) = true) (h16:((c.mapsOut == P.mapsAmong fn.resultTypes.toList):Bool) = true) (h17:((c.loops == (fn.params.toList ++ s.plain.varTypes P).any (P.loopsFrom ·)):Bool) = true) (h18:((c.wideKeys == (fn.params.toList ++ s.plain.varTypes P ++ fn.resultTypes.toList).any (P.wideKeysFrom ·)):Bool) = true) (h19:(s.vars.all (P.varReadable ·):Bool) = true) (h20:(fn.resultTypes.all (fun t=>P.readableRec t && decide (t < P.types.size)):Bool) = true) (h21:((c.ifacesOut == fn.resultTypes.toList.any (P.ifacesRec ·)):Bool) = true) (h22:((c.loopsOut == fn.resultTypes.toList.any (P.loopsFrom ·)):Bool) = true) (h23:((c.plainKeys == P.plainKeys):Bool) = true) (h24:(c.shortTexts.isNone:Bool) = true) (h25:(P.stopsHeard:Bool) = true) (h26:(P.mayEnter:Bool) = true) (h27:((c.lifted == P.liftsFinal):Bool) = true) (h28:((P.make == some c.make):Bool) = true) (h29:((c.domain.isEmpty && c.kinds == []):Bool) = true) (h30:((c.pinned == c.pinnedBy):Bool) = true) (h31:((c.veiled == (fn.params.toList ++ s.plain.varTypes P ++ fn.resultTypes.toList).any (P.veiledRec ·)):Bool) = true) (h32:(c.veiledFits P fn.params.toList (fn.params.toList ++ s.plain.varTypes P ++ fn.resultTypes.toList):Bool) = true):joinedFacts P f fn s c = true:=by
 unfold joinedFacts
 simp only [Bool.and_eq_true] at h29
 have h29':(c.kinds == (if c.domain.isEmpty then [] else fn.params.toList.map fun t=>match P.underlying t with | some (.int k)=>some k | _=>none)) = true:=by rw [if_pos h29.1];exact h29.2
 simp only [Bool.and_eq_true]
 exact ⟨⟨⟨⟨⟨⟨⟨⟨⟨⟨⟨⟨⟨⟨⟨⟨⟨⟨⟨⟨⟨⟨⟨⟨⟨⟨⟨⟨⟨⟨⟨h1,h2⟩,h3⟩,h4⟩,h5⟩,h6⟩,h7⟩,h8⟩,h9⟩,h10⟩,h11⟩,h12⟩,h13⟩,h14⟩,h15⟩,h16⟩,h17⟩,h18⟩,h19⟩,h20⟩,h21⟩,h22⟩,h23⟩,h24⟩,h25⟩,h26⟩,h27⟩,h28⟩,h29'⟩,h30⟩,h31⟩,h32⟩
theorem Z9i:∃ r:List Nat,Try.prog.initOrder = String.ofList (r.map Char.ofNat) ∧ r = [104,97,114,110,101,115,115,32,51,101,97,57,98,55,56,50,51,57,100,102,50,51,51,50,100,98,98,97,56,55,57,56,98,54,55,100,55,99,52,102,99,99,99,100,52,48,48,53,54,49,49,97,51,54,98,52,55,57,56,49,54,57,55,99,98,97,54,51,50,100,56,56,32,99,117,116,32,97,116,32,103,97,108,108,111,111,110,47,103,97,108,108,111,111,110,108,97,119,48,49,46,77,101,97,115,117,114,101,66,111,117,110,100,115,32,103,97,108,108,111,111,110,47,103,97,108,108,111,111,110,108,97,119,48,49,46,77,101,97,115,117,114,101,78,101,120,116,115,32,103,97,108,108,111,111,110,47,103,97,108,108,111,111,110,108,97,119,48,49,46,77,101,97,115,117,114,101,65,108,108,32,103,97,108,108,111,111,110,47,103,97,108,108,111,111,110,108,97,119,48,49,46,77,101,97,115,117,114,101,65,112,97,114,116,32,103,97,108,108,111,111,110,47,103,97,108,108,111,111,110,108,97,119,48,49,46,77,101,97,115,117,114,101,82,105,110,103,32,103,97,108,108,111,111,110,47,103,97,108,108,111,111,110,108,97,119,48,49,46,77,101,97,115,117,114,101,77,111,114,101,32,103,97,108,108,111,111,110,47,103,97,108,108,111,111,110,108,97,119,48,49,46,77,101,97,115,117,114,101,78,101,120,116,32,103,97,108,108,111,111,110,47,103,97,108,108,111,111,110,108,97,119,48,49,46,77,101,97,115,117,114,101,76,111,110,103,101,114,32,103,97,108,108,111,111,110,47,103,97,108,108,111,111,110,108,97,119,48,49,46,77,101,97,115,117,114,101,84,117,114,110,101,100,32,103,97,108,108,111,111,110,47,103,97,108,108,111,111,110,108,97,119,48,49,46,77,101,97,115,117,114,101,78,117,109,98,101,114,101,100,32,103,97,108,108,111,111,110,47,103,97,108,108,111,111,110,108,97,119,48,49,46,77,101,97,115,117,114,101,84,114,117,101,32,103,97,108,108,111,111,110,47,103,97,108,108,111,111,110,108,97,119,48,49,46,77,101,97,115,117,114,101,87,114,111,110,103,32,103,97,108,108,111,111,110,47,103,97,108,108,111,111,110,108,97,119,48,49,46,77,101,97,115,117,114,101,70,105,120,101,100,32,103,97,108,108,111,111,110,47,103,97,108,108,111,111,110,108,97,119,48,49,46,77,101,97,115,117,114,101,65,112,97,114,116,115,32,103,97,108,108,111,111,110,47,103,97,108,108,111,111,110,108,97,119,48,49,46,77,101,97,115,117,114,101,87,105,100,101,114,32,103,97,108,108,111,111,110,47,103,97,108,108,111,111,110,108,97,119,48,49,46,77,101,97,115,117,114,101,76,101,97,115,116,32,103,97,108,108,111,111,110,47,103,97,108,108,111,111,110,108,97,119,48,49,46,77,101,97,115,117,114,101,65,100,100,101,100,32,103,97,108,108,111,111,110,47,103,97,108,108,111,111,110,108,97,119,48,49,46,77,101,97,115,117,114,101,73,100,108,101,32,103,97,108,108,111,111,110,47,103,97,108,108,111,111,110,108,97,119,48,49,46,77,101,97,115,117,114,101,69,110,100,115,32,103,97,108,108,111,111,110,47,103,97,108,108,111,111,110,108,97,119,48,49,46,77,101,97,115,117,114,101,68,111,117,98,116,102,117,108,32,103,97,108,108,111,111,110,47,103,97,108,108,111,111,110,108,97,119,48,49,46,77,101,97,115,117,114,101,75,110,111,119,110]:=⟨_,by kernel_rfl,rfl⟩
theorem Z9h:wordsSigns Try.prog.initOrder.toList = [[104,97,114,110,101,115,115],[51,101,97,57,98,55,56,50,51,57,100,102,50,51,51,50,100,98,98,97,56,55,57,56,98,54,55,100,55,99,52,102,99,99,99,100,52,48,48,53,54,49,49,97,51,54,98,52,55,57,56,49,54,57,55,99,98,97,54,51,50,100,56,56],[99,117,116],[97,116],[103,97,108,108,111,111,110,47,103,97,108,108,111,111,110,108,97,119,48,49,46,77,101,97,115,117,114,101,66,111,117,110,100,115],[103,97,108,108,111,111,110,47,103,97,108,108,111,111,110,108,97,119,48,49,46,77,101,97,115,117,114,101,78,101,120,116,115],[103,97,108,108,111,111,110,47,103,97,108,108,111,111,110,108,97,119,48,49,46,77,101,97,115,117,114,101,65,108,108],[103,97,108,108,111,111,110,47,103,97,108,108,111,111,110,108,97,119,48,49,46,77,101,97,115,117,114,101,65,112,97,114,116],[103,97,108,108,111,111,110,47,103,97,108,108,111,111,110,108,97,119,48,49,46,77,101,97,115,117,114,101,82,105,110,103],[103,97,108,108,111,111,110,47,103,97,108,108,111,111,110,108,97,119,48,49,46,77,101,97,115,117,114,101,77,111,114,101],[103,97,108,108,111,111,110,47,103,97,108,108,111,111,110,108,97,119,48,49,46,77,101,97,115,117,114,101,78,101,120,116],[103,97,108,108,111,111,110,47,103,97,108,108,111,111,110,108,97,119,48,49,46,77,101,97,115,117,114,101,76,111,110,103,101,114],[103,97,108,108,111,111,110,47,103,97,108,108,111,111,110,108,97,119,48,49,46,77,101,97,115,117,114,101,84,117,114,110,101,100],[103,97,108,108,111,111,110,47,103,97,108,108,111,111,110,108,97,119,48,49,46,77,101,97,115,117,114,101,78,117,109,98,101,114,101,100],[103,97,108,108,111,111,110,47,103,97,108,108,111,111,110,108,97,119,48,49,46,77,101,97,115,117,114,101,84,114,117,101],[103,97,108,108,111,111,110,47,103,97,108,108,111,111,110,108,97,119,48,49,46,77,101,97,115,117,114,101,87,114,111,110,103],[103,97,108,108,111,111,110,47,103,97,108,108,111,111,110,108,97,119,48,49,46,77,101,97,115,117,114,101,70,105,120,101,100],[103,97,108,108,111,111,110,47,103,97,108,108,111,111,110,108,97,119,48,49,46,77,101,97,115,117,114,101,65,112,97,114,116,115],[103,97,108,108,111,111,110,47,103,97,108,108,111,111,110,108,97,119,48,49,46,77,101,97,115,117,114,101,87,105,100,101,114],[103,97,108,108,111,111,110,47,103,97,108,108,111,111,110,108,97,119,48,49,46,77,101,97,115,117,114,101,76,101,97,115,116],[103,97,108,108,111,111,110,47,103,97,108,108,111,111,110,108,97,119,48,49,46,77,101,97,115,117,114,101,65,100,100,101,100],[103,97,108,108,111,111,110,47,103,97,108,108,111,111,110,108,97,119,48,49,46,77,101,97,115,117,114,101,73,100,108,101],[103,97,108,108,111,111,110,47,103,97,108,108,111,111,110,108,97,119,48,49,46,77,101,97,115,117,114,101,69,110,100,115],[103,97,108,108,111,111,110,47,103,97,108,108,111,111,110,108,97,119,48,49,46,77,101,97,115,117,114,101,68,111,117,98,116,102,117,108],[103,97,108,108,111,111,110,47,103,97,108,108,111,111,110,108,97,119,48,49,46,77,101,97,115,117,114,101,75,110,111,119,110]].map (fun w=>w.map Char.ofNat):=by
 obtain ⟨r,hr,hr2⟩:=Z9i
 rw [hr,String.toList_ofList,hr2]
 kernel_rfl
theorem Z73 {P : Program} {c : List Char} {rest ws2 : List (List Char)} (h : behindMainWord (wordsSigns P.initOrder.toList) = c :: rest) (hs : stripLifts liftWords (c :: rest) = ([], ws2)) (hc : (ws2.head? == some "cut".toList) = true) (hl : P.laysLater = false) (hb : P.bearsReflect = false) (hd : P.doorFits [] = true) : P.mayEnter = true := by
 unfold Program.mayEnter
 rw [h]
 simp only [hs,hc,hl,hb,hd]
 simp
theorem Z8y:behindMainWord (wordsSigns Try.prog.initOrder.toList) = [99,117,116].map Char.ofNat :: [[97,116],[103,97,108,108,111,111,110,47,103,97,108,108,111,111,110,108,97,119,48,49,46,77,101,97,115,117,114,101,66,111,117,110,100,115],[103,97,108,108,111,111,110,47,103,97,108,108,111,111,110,108,97,119,48,49,46,77,101,97,115,117,114,101,78,101,120,116,115],[103,97,108,108,111,111,110,47,103,97,108,108,111,111,110,108,97,119,48,49,46,77,101,97,115,117,114,101,65,108,108],[103,97,108,108,111,111,110,47,103,97,108,108,111,111,110,108,97,119,48,49,46,77,101,97,115,117,114,101,65,112,97,114,116],[103,97,108,108,111,111,110,47,103,97,108,108,111,111,110,108,97,119,48,49,46,77,101,97,115,117,114,101,82,105,110,103],[103,97,108,108,111,111,110,47,103,97,108,108,111,111,110,108,97,119,48,49,46,77,101,97,115,117,114,101,77,111,114,101],[103,97,108,108,111,111,110,47,103,97,108,108,111,111,110,108,97,119,48,49,46,77,101,97,115,117,114,101,78,101,120,116],[103,97,108,108,111,111,110,47,103,97,108,108,111,111,110,108,97,119,48,49,46,77,101,97,115,117,114,101,76,111,110,103,101,114],[103,97,108,108,111,111,110,47,103,97,108,108,111,111,110,108,97,119,48,49,46,77,101,97,115,117,114,101,84,117,114,110,101,100],[103,97,108,108,111,111,110,47,103,97,108,108,111,111,110,108,97,119,48,49,46,77,101,97,115,117,114,101,78,117,109,98,101,114,101,100],[103,97,108,108,111,111,110,47,103,97,108,108,111,111,110,108,97,119,48,49,46,77,101,97,115,117,114,101,84,114,117,101],[103,97,108,108,111,111,110,47,103,97,108,108,111,111,110,108,97,119,48,49,46,77,101,97,115,117,114,101,87,114,111,110,103],[103,97,108,108,111,111,110,47,103,97,108,108,111,111,110,108,97,119,48,49,46,77,101,97,115,117,114,101,70,105,120,101,100],[103,97,108,108,111,111,110,47,103,97,108,108,111,111,110,108,97,119,48,49,46,77,101,97,115,117,114,101,65,112,97,114,116,115],[103,97,108,108,111,111,110,47,103,97,108,108,111,111,110,108,97,119,48,49,46,77,101,97,115,117,114,101,87,105,100,101,114],[103,97,108,108,111,111,110,47,103,97,108,108,111,111,110,108,97,119,48,49,46,77,101,97,115,117,114,101,76,101,97,115,116],[103,97,108,108,111,111,110,47,103,97,108,108,111,111,110,108,97,119,48,49,46,77,101,97,115,117,114,101,65,100,100,101,100],[103,97,108,108,111,111,110,47,103,97,108,108,111,111,110,108,97,119,48,49,46,77,101,97,115,117,114,101,73,100,108,101],[103,97,108,108,111,111,110,47,103,97,108,108,111,111,110,108,97,119,48,49,46,77,101,97,115,117,114,101,69,110,100,115],[103,97,108,108,111,111,110,47,103,97,108,108,111,111,110,108,97,119,48,49,46,77,101,97,115,117,114,101,68,111,117,98,116,102,117,108],[103,97,108,108,111,111,110,47,103,97,108,108,111,111,110,108,97,119,48,49,46,77,101,97,115,117,114,101,75,110,111,119,110]].map (fun w=>w.map Char.ofNat):=by
 rw [Z9h]
 kernel_rfl
theorem Zao:stripLifts liftWords ([99,117,116].map Char.ofNat :: [[97,116],[103,97,108,108,111,111,110,47,103,97,108,108,111,111,110,108,97,119,48,49,46,77,101,97,115,117,114,101,66,111,117,110,100,115],[103,97,108,108,111,111,110,47,103,97,108,108,111,111,110,108,97,119,48,49,46,77,101,97,115,117,114,101,78,101,120,116,115],[103,97,108,108,111,111,110,47,103,97,108,108,111,111,110,108,97,119,48,49,46,77,101,97,115,117,114,101,65,108,108],[103,97,108,108,111,111,110,47,103,97,108,108,111,111,110,108,97,119,48,49,46,77,101,97,115,117,114,101,65,112,97,114,116],[103,97,108,108,111,111,110,47,103,97,108,108,111,111,110,108,97,119,48,49,46,77,101,97,115,117,114,101,82,105,110,103],[103,97,108,108,111,111,110,47,103,97,108,108,111,111,110,108,97,119,48,49,46,77,101,97,115,117,114,101,77,111,114,101],[103,97,108,108,111,111,110,47,103,97,108,108,111,111,110,108,97,119,48,49,46,77,101,97,115,117,114,101,78,101,120,116],[103,97,108,108,111,111,110,47,103,97,108,108,111,111,110,108,97,119,48,49,46,77,101,97,115,117,114,101,76,111,110,103,101,114],[103,97,108,108,111,111,110,47,103,97,108,108,111,111,110,108,97,119,48,49,46,77,101,97,115,117,114,101,84,117,114,110,101,100],[103,97,108,108,111,111,110,47,103,97,108,108,111,111,110,108,97,119,48,49,46,77,101,97,115,117,114,101,78,117,109,98,101,114,101,100],[103,97,108,108,111,111,110,47,103,97,108,108,111,111,110,108,97,119,48,49,46,77,101,97,115,117,114,101,84,114,117,101],[103,97,108,108,111,111,110,47,103,97,108,108,111,111,110,108,97,119,48,49,46,77,101,97,115,117,114,101,87,114,111,110,103],[103,97,108,108,111,111,110,47,103,97,108,108,111,111,110,108,97,119,48,49,46,77,101,97,115,117,114,101,70,105,120,101,100],[103,97,108,108,111,111,110,47,103,97,108,108,111,111,110,108,97,119,48,49,46,77,101,97,115,117,114,101,65,112,97,114,116,115],[103,97,108,108,111,111,110,47,103,97,108,108,111,111,110,108,97,119,48,49,46,77,101,97,115,117,114,101,87,105,100,101,114],[103,97,108,108,111,111,110,47,103,97,108,108,111,111,110,108,97,119,48,49,46,77,101,97,115,117,114,101,76,101,97,115,116],[103,97,108,108,111,111,110,47,103,97,108,108,111,111,110,108,97,119,48,49,46,77,101,97,115,117,114,101,65,100,100,101,100],[103,97,108,108,111,111,110,47,103,97,108,108,111,111,110,108,97,119,48,49,46,77,101,97,115,117,114,101,73,100,108,101],[103,97,108,108,111,111,110,47,103,97,108,108,111,111,110,108,97,119,48,49,46,77,101,97,115,117,114,101,69,110,100,115],[103,97,108,108,111,111,110,47,103,97,108,108,111,111,110,108,97,119,48,49,46,77,101,97,115,117,114,101,68,111,117,98,116,102,117,108],[103,97,108,108,111,111,110,47,103,97,108,108,111,111,110,108,97,119,48,49,46,77,101,97,115,117,114,101,75,110,111,119,110]].map (fun w=>w.map Char.ofNat)) = ([],[99,117,116].map Char.ofNat :: [[97,116],[103,97,108,108,111,111,110,47,103,97,108,108,111,111,110,108,97,119,48,49,46,77,101,97,115,117,114,101,66,111,117,110,100,115],[103,97,108,108,111,111,110,47,103,97,108,108,111,111,110,108,97,119,48,49,46,77,101,97,115,117,114,101,78,101,120,116,115],[103,97,108,108,111,111,110,47,103,97,108,108,111,111,110,108,97,119,48,49,46,77,101,97,115,117,114,101,65,108,108],[103,97,108,108,111,111,110,47,103,97,108,108,111,111,110,108,97,119,48,49,46,77,101,97,115,117,114,101,65,112,97,114,116],[103,97,108,108,111,111,110,47,103,97,108,108,111,111,110,108,97,119,48,49,46,77,101,97,115,117,114,101,82,105,110,103],[103,97,108,108,111,111,110,47,103,97,108,108,111,111,110,108,97,119,48,49,46,77,101,97,115,117,114,101,77,111,114,101],[103,97,108,108,111,111,110,47,103,97,108,108,111,111,110,108,97,119,48,49,46,77,101,97,115,117,114,101,78,101,120,116],[103,97,108,108,111,111,110,47,103,97,108,108,111,111,110,108,97,119,48,49,46,77,101,97,115,117,114,101,76,111,110,103,101,114],[103,97,108,108,111,111,110,47,103,97,108,108,111,111,110,108,97,119,48,49,46,77,101,97,115,117,114,101,84,117,114,110,101,100],[103,97,108,108,111,111,110,47,103,97,108,108,111,111,110,108,97,119,48,49,46,77,101,97,115,117,114,101,78,117,109,98,101,114,101,100],[103,97,108,108,111,111,110,47,103,97,108,108,111,111,110,108,97,119,48,49,46,77,101,97,115,117,114,101,84,114,117,101],[103,97,108,108,111,111,110,47,103,97,108,108,111,111,110,108,97,119,48,49,46,77,101,97,115,117,114,101,87,114,111,110,103],[103,97,108,108,111,111,110,47,103,97,108,108,111,111,110,108,97,119,48,49,46,77,101,97,115,117,114,101,70,105,120,101,100],[103,97,108,108,111,111,110,47,103,97,108,108,111,111,110,108,97,119,48,49,46,77,101,97,115,117,114,101,65,112,97,114,116,115],[103,97,108,108,111,111,110,47,103,97,108,108,111,111,110,108,97,119,48,49,46,77,101,97,115,117,114,101,87,105,100,101,114],[103,97,108,108,111,111,110,47,103,97,108,108,111,111,110,108,97,119,48,49,46,77,101,97,115,117,114,101,76,101,97,115,116],[103,97,108,108,111,111,110,47,103,97,108,108,111,111,110,108,97,119,48,49,46,77,101,97,115,117,114,101,65,100,100,101,100],[103,97,108,108,111,111,110,47,103,97,108,108,111,111,110,108,97,119,48,49,46,77,101,97,115,117,114,101,73,100,108,101],[103,97,108,108,111,111,110,47,103,97,108,108,111,111,110,108,97,119,48,49,46,77,101,97,115,117,114,101,69,110,100,115],[103,97,108,108,111,111,110,47,103,97,108,108,111,111,110,108,97,119,48,49,46,77,101,97,115,117,114,101,68,111,117,98,116,102,117,108],[103,97,108,108,111,111,110,47,103,97,108,108,111,111,110,108,97,119,48,49,46,77,101,97,115,117,114,101,75,110,111,119,110]].map (fun w=>w.map Char.ofNat)):=by kernel_rfl
theorem ZaD : ((([99, 117, 116].map Char.ofNat :: [[97, 116], [103, 97, 108, 108, 111, 111, 110, 47, 103, 97, 108, 108, 111, 111, 110, 108, 97, 119, 48, 49, 46, 77, 101, 97, 115, 117, 114, 101, 66, 111, 117, 110, 100, 115], [103, 97, 108, 108, 111, 111, 110, 47, 103, 97, 108, 108, 111, 111, 110, 108, 97, 119, 48, 49, 46, 77, 101, 97, 115, 117, 114, 101, 78, 101, 120, 116, 115], [103, 97, 108, 108, 111, 111, 110, 47, 103, 97, 108, 108, 111, 111, 110, 108, 97, 119, 48, 49, 46, 77, 101, 97, 115, 117, 114, 101, 65, 108, 108], [103, 97, 108, 108, 111, 111, 110, 47, 103, 97, 108, 108, 111, 111, 110, 108, 97, 119, 48, 49, 46, 77, 101, 97, 115, 117, 114, 101, 65, 112, 97, 114, 116], [103, 97, 108, 108, 111, 111, 110, 47, 103, 97, 108, 108, 111, 111, 110, 108, 97, 119, 48, 49, 46, 77, 101, 97, 115, 117, 114, 101, 82, 105, 110, 103], [103, 97, 108, 108, 111, 111, 110, 47, 103, 97, 108, 108, 111, 111, 110, 108, 97, 119, 48, 49, 46, 77, 101, 97, 115, 117, 114, 101, 77, 111, 114, 101], [103, 97, 108, 108, 111, 111, 110, 47, 103, 97, 108, 108, 111, 111, 110, 108, 97, 119, 48, 49, 46, 77, 101, 97, 115, 117, 114, 101, 78, 101, 120, 116], [103, 97, 108, 108, 111, 111, 110, 47, 103, 97, 108, 108, 111, 111, 110, 108, 97, 119, 48, 49, 46, 77, 101, 97, 115, 117, 114, 101, 76, 111, 110, 103, 101, 114], [103, 97, 108, 108, 111, 111, 110, 47, 103, 97, 108, 108, 111, 111, 110, 108, 97, 119, 48, 49, 46, 77, 101, 97, 115, 117, 114, 101, 84, 117, 114, 110, 101, 100], [103, 97, 108, 108, 111, 111, 110, 47, 103, 97, 108, 108, 111, 111, 110, 108, 97, 119, 48, 49, 46, 77, 101, 97, 115, 117, 114, 101, 78, 117, 109, 98, 101, 114, 101, 100], [103, 97, 108, 108, 111, 111, 110, 47, 103, 97, 108, 108, 111, 111, 110, 108, 97, 119, 48, 49, 46, 77, 101, 97, 115, 117, 114, 101, 84, 114, 117, 101], [103, 97, 108, 108, 111, 111, 110, 47, 103, 97, 108, 108, 111, 111, 110, 108, 97, 119, 48, 49, 46, 77, 101, 97, 115, 117, 114, 101, 87, 114, 111, 110, 103], [103, 97, 108, 108, 111, 111, 110, 47, 103, 97, 108, 108, 111, 111, 110, 108, 97, 119, 48, 49, 46, 77, 101, 97, 115, 117, 114, 101, 70, 105, 120, 101, 100], [103, 97, 108, 108, 111, 111, 110, 47, 103, 97, 108, 108, 111, 111, 110, 108, 97, 119, 48, 49, 46, 77, 101, 97, 115, 117, 114, 101, 65, 112, 97, 114, 116, 115], [103, 97, 108, 108, 111, 111, 110, 47, 103, 97, 108, 108, 111, 111, 110, 108, 97, 119, 48, 49, 46, 77, 101, 97, 115, 117, 114, 101, 87, 105, 100, 101, 114], [103, 97, 108, 108, 111, 111, 110, 47, 103, 97, 108, 108, 111, 111, 110, 108, 97, 119, 48, 49, 46, 77, 101, 97, 115, 117, 114, 101, 76, 101, 97, 115, 116], [103, 97, 108, 108, 111, 111, 110, 47, 103, 97, 108, 108, 111, 111, 110, 108, 97, 119, 48, 49, 46, 77, 101, 97, 115, 117, 114, 101, 65, 100, 100, 101, 100], [103, 97, 108, 108, 111, 111, 110, 47, 103, 97, 108, 108, 111, 111, 110, 108, 97, 119, 48, 49, 46, 77, 101, 97, 115, 117, 114, 101, 73, 100, 108, 101], [103, 97, 108, 108, 111, 111, 110, 47, 103, 97, 108, 108, 111, 111, 110, 108, 97, 119, 48, 49, 46, 77, 101, 97, 115, 117, 114, 101, 69, 110, 100, 115], [103, 97, 108, 108, 111, 111, 110, 47, 103, 97, 108, 108, 111, 111, 110, 108, 97, 119, 48, 49, 46, 77, 101, 97, 115, 117, 114, 101, 68, 111, 117, 98, 116, 102, 117, 108], [103, 97, 108, 108, 111, 111, 110, 47, 103, 97, 108, 108, 111, 111, 110, 108, 97, 119, 48, 49, 46, 77, 101, 97, 115, 117, 114, 101, 75, 110, 111, 119, 110]].map (fun w => w.map Char.ofNat)) : List (List Char)).head? == some "cut".toList) = true := by kernel_rfl
theorem laysLater:Try.prog.laysLater = false:=by kernel_rfl
theorem bearsReflect:Try.prog.bearsReflect = false:=by kernel_rfl
theorem doorFits:Try.prog.doorFits [] = true:=by kernel_rfl
theorem Z5C {P : Program} {c : List Char} {rest ws2 : List (List Char)} (h : behindMainWord (wordsSigns P.initOrder.toList) = c :: rest) (hs : stripLifts liftWords (c :: rest) = ([], ws2)) (hc : (c == "carried".toList) = false) : P.liftsFinal = false := by
 unfold Program.liftsFinal Program.headLifts
 rw [h]
 simp only [hs,List.head?_cons]
 have e : (some c == some "carried".toList) = false := hc
 rw [e]
 simp
theorem Zaw {P : Program} {c : List Char} {rest : List (List Char)} (h : behindMainWord (wordsSigns P.initOrder.toList) = c :: rest) (hg : (c == "gc".toList) = false) (hp : (c == "spec".toList) = false) (hc : (c == "cut".toList) = true) : P.make = some .cut := by
 unfold Program.make
 rw [h]
 simp only [hg,hp,hc]
 simp
theorem Z7I : ([99, 117, 116].map Char.ofNat == "carried".toList) = false := by kernel_rfl
theorem Zbz : ([99, 117, 116].map Char.ofNat == "gc".toList) = false := by kernel_rfl
theorem ZaF : ([99, 117, 116].map Char.ofNat == "spec".toList) = false := by kernel_rfl
theorem ZbA : ([99, 117, 116].map Char.ofNat == "cut".toList) = true := by kernel_rfl
theorem liftsFinal:Try.prog.liftsFinal = false:=Z5C Z8y Zao Z7I
theorem made:Try.prog.make = some .cut:=Zaw Z8y Zbz ZaF ZbA
theorem Z95:laidOutB Try.pinned.checked.prog = true:=by kernel_rfl
theorem ZaB:mapsRowed Try.pinned.checked.prog = true:=by kernel_rfl
theorem Z8W:(Try.pinned.checked.prog.stops == []) = true:=by kernel_rfl
theorem Z8w:(Try.pinned.checked.prog.stopKnobs == []) = true:=by kernel_rfl
theorem stopsHeard:Try.pinned.checked.prog.stopsHeard = true:=by kernel_rfl
theorem own:ownKnob Try.prog.godebug = none:=by kernel_rfl
theorem mayEnter:Try.prog.mayEnter = true:=Z73 Z8y Zao ZaD laysLater bearsReflect doorFits
end Go.Proofs.Ytholfdgebdlgjaa
namespace Go.Proofs.Ytholfdgebdlgjaa
open Go.RowKit
theorem Z3g {a b:Bool} (h:a = b):Ending.returned (.bool a) = .returned (.bool b):=by rw [h]
theorem ZM {k:IntKind} {a b:Int} (h:a = b):Ending.returned (.int k a) = .returned (.int k b):=by rw [h]
theorem Z0 {w:World} {b:Nat} {cs:Array Value} {T:TypeId} {fz:Nat × Nat} (h:w.heap[b]? = some (.cells cs T fz)) (o:Nat):w.cell? ⟨b,o,none⟩ = cs[o]?:=by
 simp [World.cell?,h]
theorem Zl {w:World} {b:Nat} {cs:Array Value} {T:TypeId} (h:w.heap[b]? = some (.cells cs T (0,0))) (o:Nat):w.frozen? ⟨b,o,none⟩ = false:=by
 simp [World.frozen?,h]
theorem Z7 {w:World} {b:Nat} {o:Obj} (h:w.heap[b]? = some o):b < w.heap.size:=by
 rcases Nat.lt_or_ge b w.heap.size with h' | h'
 ·exact h'
 ·rw [Array.getElem?_eq_none h'] at h;cases h
theorem Z0V {w:World} {o:Obj} {b:Nat} (h:b = w.heap.size):(w.alloc o).heap[b]? = some o:=by
 subst h;show (w.heap.push o)[w.heap.size]? = some o;simp
theorem Z3n {w:World} {b:Nat} {o:Obj} (h:w.heap[b]? = some o):w.drew.heap[b]? = some o:=h
theorem Z1k {w:World} {b:Nat} {o o':Obj} (h:w.heap[b]? = some o):(w.alloc o').heap[b]? = some o:=by
 have:=Z7 h
 show (w.heap.push o')[b]? = some o
 rw [Array.getElem?_push,if_neg (by omega),h]
theorem Z5Y {B:Nat} {w w':World} (hb:Below B w w') {b:Nat} {o:Obj} (h:w.heap[b]? = some o) (hB:b < B):w'.heap[b]? = some o:=by
 rw [hb.block b hB,h]
theorem Z0N (w:World) (o:Obj):(w.alloc o).heap.size = w.heap.size + 1:=by show (w.heap.push o).size = _;simp
theorem Z2x (w:World) (p:Addr) (v:Value):(w.setCell p v).heap.size = w.heap.size:=by simp [World.setCell]
theorem follows:Try.prog.follows .mixedOrders = true:=by kernel_rfl
section
variable {P:Program} {ops:Array Oper} {Q:Exit → Act → World → Prop} {md:Region.Mode} {S:World → Prop}
theorem Z7Y {i:Nat} {o:Oper} {v:Value} {fuel:Nat} {listed:Array Bool} {a:Act} {w w':World} (hi:ops[i]? = some o) (hr:Region.ready md ops listed = [i])
  (hw:Region.wanted o (yielded ops a.tmps) = true) (hrun:(execOp a.eval o).run P w = .ok (.value v) w') (hS:S w')
  (h:wpAnyH P md ops Q S fuel (listed.setIfInBounds i true) (a.put o.dst v) w'):wpAnyH P md ops Q S (fuel + 1) listed a w:=by
 refine wpAnyH_all hr (by simp) fun j hj=>?_
 obtain rfl:j = i:=by simpa using hj
 unfold wpOp
 simp only [hi,hw,if_true,Oper.wp,hrun,Oper.upon]
 exact .inl ⟨hS,h⟩
theorem Z4M {i:Nat} {o:Oper} {fuel:Nat} {listed:Array Bool} {a:Act} {w w':World} (hi:ops[i]? = some o) (hr:Region.ready md ops listed = [i])
  (hw:Region.wanted o (yielded ops a.tmps) = true) (hrun:(execOp a.eval o).run P w = .ok .skip w') (hS:S w')
  (h:wpAnyH P md ops Q S fuel (listed.setIfInBounds i true) (a.put o.dst undef) w'):wpAnyH P md ops Q S (fuel + 1) listed a w:=by
 refine wpAnyH_all hr (by simp) fun j hj=>?_
 obtain rfl:j = i:=by simpa using hj
 unfold wpOp
 simp only [hi,hw,if_true,Oper.wp,hrun,Oper.upon]
 exact .inl ⟨hS,h⟩
theorem Z3z {i:Nat} {o:Oper} {f:FuncId} {args:Array Value} {R:Ending → World → Prop} {fuel:Nat} {listed:Array Bool} {a:Act} {w:World} (hi:ops[i]? = some o) (hr:Region.ready md ops listed = [i])
  (hw:Region.wanted o (yielded ops a.tmps) = true) (hrun:(execOp a.eval o).run P w = .ok (.enter f args) w) (hc:Calls P f args w R)
  (h:∀ e w',R e w' → ∃ v,e = .returned v ∧ S w' ∧ wpAnyH P md ops Q S fuel (listed.setIfInBounds i true) (a.put o.dst v) w'):wpAnyH P md ops Q S (fuel + 1) listed a w:=by
 refine wpAnyH_all hr (by simp) fun j hj=>?_
 obtain rfl:j = i:=by simpa using hj
 unfold wpOp
 simp only [hi,hw,if_true,Oper.wp,hrun,Oper.upon]
 refine .inl (hc.mono fun e w' hR=>?_)
 obtain ⟨v,rfl,h1,h2⟩:=h e w' hR
 exact ⟨h1,h2⟩
end
def inB (n lo hi:Int):Bool:=decide (lo ≤ n) && decide (n ≤ hi)
theorem Z3y {n lo hi:Int}:inB n lo hi = true ↔ lo ≤ n ∧ n ≤ hi:=by simp [inB]
theorem Z5b (n lo hi:Int) (w:World) :
  Calls Try.prog 136 #[.int .i64 n,.int .i64 lo,.int .i64 hi] w fun e w'=>e = .returned (.bool (inB n lo hi)) ∧ w = w':=by
 by_cases h1:lo ≤ n
 ·go_enter Try.func136,Try.ntmps136
  go_wp2
  all_goals (go_ret;exact ⟨Z3g (by simp [inB];omega),rfl⟩)
 ·go_enter Try.func136,Try.ntmps136
  go_wp2
  all_goals (go_ret;exact ⟨Z3g (by simp [inB];omega),rfl⟩)
def Z0y (n lo hi:Int):Int:=if inB n lo hi then 0 else 1
theorem Z2c (n lo hi:Int) (w:World) :
  Calls Try.prog 83 #[.int .i64 n,.int .i64 lo,.int .i64 hi] w fun e w'=>e = .returned (.int .i64 (Z0y n lo hi)) ∧ w = w':=by
 cases h:inB n lo hi
 all_goals
  have H:=Lib.hid h;clear h
  go_enter Try.func83,Try.ntmps83
  go_wp2_with (go_at_call 136;refine (Z5b _ _ _ _).mono ?_;rintro e w' ⟨rfl,rfl⟩)
  all_goals (go_ret;exact ⟨ZM (by simp_all [Z0y,H.out]),rfl⟩)
def Z0h (n many:Int):Int:=if inB n 0 (many - 1) then 0 else 3
theorem Z15 (n many:Int) (w:World) (hm:-1000000 ≤ many) (hm2:many ≤ 1000000) :
  Calls Try.prog 130 #[.int .i64 n,.int .i64 many] w fun e w'=>e = .returned (.int .i64 (Z0h n many)) ∧ w = w':=by
 cases h:inB n 0 (many - 1)
 all_goals
  have H:=Lib.hid h;clear h
  go_enter Try.func130,Try.ntmps130
  go_wp2_with (go_at_call 136;refine (Z5b _ _ _ _).mono ?_;rintro e w' ⟨rfl,rfl⟩)
  all_goals (go_ret;exact ⟨ZM (by simp_all [Z0h,H.out]),rfl⟩)
def ZU:List Int → Int
 | []=>0
 | e :: r=>if e ≠ 0 then e else ZU r
theorem Z4Q (es:List Int) (k:Nat) (h:k < es.length) (h0:es.getD k 0 = 0):ZU (es.drop k) = ZU (es.drop (k+1)):=by
 rw [List.drop_eq_getElem_cons h]
 simp [List.getD_eq_getElem?_getD,h] at h0
 simp [ZU,h0]
theorem Z5d (es:List Int) (k:Nat) (h:k < es.length) (h0:es.getD k 0 ≠ 0):ZU (es.drop k) = es.getD k 0:=by
 rw [List.drop_eq_getElem_cons h]
 simp [List.getD_eq_getElem?_getD,h] at h0
 simp [ZU,h0,h]
theorem Z92 (es:List Int) (b:Nat) (w:World) (hl:es.length ≤ 100) (hpos:0 < es.length)
  (hc:∀ k,k < es.length → w.cell? ⟨b,k,none⟩ = some (.int .i64 (es.getD k 0))) :
  Calls Try.prog 82 #[.slice (some ⟨b,0,none⟩) es.length es.length] w fun e w'=>e = .returned (.int .i64 (ZU es)) ∧ w = w':=by
 obtain ⟨n,hn⟩:∃ n,n = es.length:=⟨_,rfl⟩
 rw [← hn] at hl hc hpos ⊢
 have HN:=Lib.hid hn;clear hn
 have HC:=Lib.hid hc;clear hc
 go_enter Try.func82,Try.ntmps82
 go_wp2
 go_loop [7] (fun i=>∃ k:Nat,k ≤ n ∧ i = .int .i64 k ∧ ZU (es.drop k) = ZU es) (fun i=>n - (intOf i).toNat)
 case atStart=>exact ⟨0,Nat.zero_le _,rfl,rfl⟩
 case round =>
  obtain ⟨k,hk,rfl,hf⟩:=hrel
  have HF:=Lib.hid hf;clear hf
  by_cases hlt:k < n
  ·have hc:=HC.out k hlt
   by_cases h0:es.getD k 0 = 0
   ·have H0:=Lib.hid h0
    rw [h0] at hc
    clear h0
    go_wp2
    go_round
    case rel=>exact ⟨k + 1,by omega,by go_num,by rw [← HF.out,Z4Q es k (by have:=HN.out;omega) H0.out]⟩
    case measure=>simp [intOf];omega
   ·have H1:=Z5d es k (by have:=HN.out;omega) h0
    obtain ⟨v,hv⟩:∃ v,v = es.getD k 0:=⟨_,rfl⟩
    rw [← hv] at hc h0 H1
    have HV:=Lib.hid hv;clear hv
    have H2:=Lib.hid H1;clear H1
    have hb:(v != 0) = true:=by simpa using h0
    go_wp2
    go_ret
    exact ⟨ZM (by rw [← HF.out,H2.out]),rfl⟩
  ·go_wp2
   go_ret
   exact ⟨ZM (by rw [← HF.out,List.drop_of_length_le (by have:=HN.out;omega)];simp [ZU]),rfl⟩
theorem Z2N (es:List Int) (n:Nat) (T:TypeId) (b:Nat) (w:World) (hn:n = es.length) (hl:es.length ≤ 100) (hpos:0 < es.length)
  (hb:w.heap[b]? = some (.cells (es.map (Value.int .i64)).toArray T (0,0))) :
  Calls Try.prog 82 #[.slice (some ⟨b,0,none⟩) n n] w fun e w'=>e = .returned (.int .i64 (ZU es)) ∧ w = w':=by
 subst hn
 refine Z92 es b w hl hpos fun k hk=>?_
 rw [Z0 hb]
 simp [hk,List.getD_eq_getElem?_getD]
def Z1n (l m lo hi:Int):Int:=ZU [Z0y l lo hi,Z0y m lo hi,if m < l then 5 else 0]
set_option maxHeartbeats 1000000 in
theorem Z3d (l m lo hi:Int) (w:World) :
  Calls Try.prog 84 #[.agg #[.int .i64 l,.int .i64 m],.int .i64 lo,.int .i64 hi] w fun e w'=>e = .returned (.int .i64 (Z1n l m lo hi)) ∧ Below w.heap.size w w':=by
 obtain ⟨x,hx⟩:∃ x:Int,(if m < l then 5 else 0) = x:=⟨_,rfl⟩
 have HE:Hid (Z1n l m lo hi = ZU [Z0y l lo hi,Z0y m lo hi,x]):=by show _ = _;rw [Z1n,hx]
 by_cases hml:m < l
 all_goals
  simp only [hml,if_true,if_false] at hx
  subst hx
  go_enter Try.func84,Try.ntmps84
  go_wp2
  go_region_held3 (fun w'=>w'.cell? ⟨w.heap.size,0,none⟩ = some (.int .i64 l) ∧ w'.cell? ⟨w.heap.size,1,none⟩ = some (.int .i64 m)) (go_keep) (first | (go_at_call 83;refine (Z2c _ _ _ _).mono ?_;rintro e w' ⟨rfl,rfl⟩) | (go_at_call 82;refine (Z2N [Z0y l lo hi,Z0y m lo hi,_] _ 37 _ _ rfl (by simp) (by simp) (Z3n (Z0V (by simp)))).mono ?_;rintro e w' ⟨rfl,rfl⟩))
  go_wp2
  go_ret
  refine ⟨ZM HE.out.symm,?_⟩
  repeat (first | exact Below.refl _ _ | assumption | (refine Below.drew ?_) | (refine Below.alloc ?_ (by first | exact Nat.le_refl _ | (simp;done) | (simp;omega)) _) | (refine Below.setCell ?_ (by first | exact Nat.le_refl _ | (simp;done) | (simp;omega)) _))
structure Ext (X:List Nat) (w w':World):Prop where
 os:w'.os = w.os
 tape:w'.tape = w.tape
 output:w'.output = w.output
 size:w.heap.size ≤ w'.heap.size
 block:∀ k,k < w.heap.size → k ∉ X → w'.heap[k]? = w.heap[k]?
theorem Ext.refl (X:List Nat) (w:World):Ext X w w:=⟨rfl,rfl,rfl,Nat.le_refl _,fun _ _ _=>rfl⟩
theorem Ext.trans {X:List Nat} {a b c:World} (h:Ext X a b) (k:Ext X b c):Ext X a c:=
 ⟨k.os.trans h.os,k.tape.trans h.tape,k.output.trans h.output,Nat.le_trans h.size k.size,fun i hi hx=>(k.block i (Nat.lt_of_lt_of_le hi h.size) hx).trans (h.block i hi hx)⟩
theorem Ext.trans' {X Y:List Nat} {a b c:World} (h:Ext X a b) (k:Ext Y b c) (hy:∀ i ∈ Y,i < a.heap.size → i ∈ X):Ext X a c:=
 ⟨k.os.trans h.os,k.tape.trans h.tape,k.output.trans h.output,Nat.le_trans h.size k.size,fun i hi hx=>(k.block i (Nat.lt_of_lt_of_le hi h.size) (fun hm=>hx (hy i hm hi))).trans (h.block i hi hx)⟩
theorem Ext.nil {X:List Nat} {a b c:World} (h:Ext X a b) (k:Ext [] b c):Ext X a c:=h.trans' k (fun _ hi=>by cases hi)
theorem Ext.mono {X Y:List Nat} {a b:World} (h:Ext X a b) (hs:∀ i ∈ X,i ∈ Y):Ext Y a b:=⟨h.os,h.tape,h.output,h.size,fun i hi hx=>h.block i hi (fun hm=>hx (hs i hm))⟩
theorem Ext.drew {X:List Nat} {a w:World} (h:Ext X a w):Ext X a w.drew:=⟨h.os,h.tape,h.output,h.size,h.block⟩
theorem Ext.alloc {X:List Nat} {a w:World} (h:Ext X a w) (o:Obj):Ext X a (w.alloc o):=
 h.nil ⟨rfl,rfl,rfl,by rw [Z0N];omega,fun k hk _=>Below.heap_alloc _ _ _ hk⟩
theorem Ext.setCell {X:List Nat} {a w:World} (h:Ext X a w) {p:Addr} (hp:p.block < a.heap.size → p.block ∈ X) (u:Value):Ext X a (w.setCell p u):=
 h.trans' (Y:=[p.block]) ⟨rfl,rfl,rfl,by rw [Z2x];exact Nat.le_refl _,fun k hk hx=>Below.heap_setCell _ _ _ _ (by simpa using hx)⟩ (fun i hi hl=>by simp at hi;subst hi;exact hp hl)
theorem Ext.of_below {w w':World} (h:Below w.heap.size w w'):Ext [] w w':=⟨h.os,h.tape,h.output,h.size,fun k hk _=>h.block k hk⟩
theorem Ext.below {w w':World} (h:Ext [] w w'):Below w.heap.size w w':=⟨h.os,h.tape,h.output,h.size,fun k hk=>h.block k hk (by simp)⟩
theorem Ext.keep {X:List Nat} {w w':World} (h:Ext X w w') {b:Nat} {o:Obj} (H:w.heap[b]? = some o) (hb:b ∉ X):w'.heap[b]? = some o:=by
 rw [h.block b (Z7 H) hb,H]
theorem Ext.keep0 {w w':World} (h:Ext [] w w') {b:Nat} {o:Obj} (H:w.heap[b]? = some o):w'.heap[b]? = some o:=h.keep H (by simp)
theorem Ext.cell {X:List Nat} {w w':World} (h:Ext X w w') {a:Addr} (ha:a.block < w.heap.size) (hb:a.block ∉ X):w'.cell? a = w.cell? a:=World.cell?_of_block (w:=w) (h.block a.block ha hb)
theorem Ext.lt {X:List Nat} {w w':World} (h:Ext X w w') {b:Nat} (hb:b < w.heap.size):b < w'.heap.size:=Nat.lt_of_lt_of_le hb h.size
theorem Ext.set' {X:List Nat} {a w w2:World} (h:Ext X a w) {p:Addr} {u:Value} (e:w2 = w.setCell p u) (hp:p.block < a.heap.size → p.block ∈ X):Ext X a w2:=by rw [e];exact h.setCell hp u
theorem Z5u {w w2:World} {p:Addr} {u:Value} {b:Nat} {o:Obj} (e:w2 = w.setCell p u) (H:w.heap[b]? = some o) (hb:b ≠ p.block):w2.heap[b]? = some o:=by
 rw [e,Below.heap_setCell _ _ _ _ hb,H]
theorem Zn {w w':World} {b:Nat} {o:Obj} (e:w'.heap = w.heap) (H:w.heap[b]? = some o):w'.heap[b]? = some o:=by rw [e];exact H
theorem Z3u (b:Nat) (T:TypeId):∀ (cs pre:List Value) (old:List Value) (w:World),w.heap[b]? = some (.cells (pre ++ old).toArray T (0,0)) → old.length = cs.length →
  (w.setCells b pre.length cs).heap[b]? = some (.cells (pre ++ cs).toArray T (0,0))
 | [],pre,old,w,H,hl=>by
  obtain rfl:old = []:=List.length_eq_zero_iff.1 hl
  exact H
 | v :: cs,pre,[],w,H,hl=>by simp at hl
 | v :: cs,pre,x :: old,w,H,hl=>by
  have:=Z3u b T cs (pre ++ [v]) old (w.setCell ⟨b,pre.length,none⟩ v) (by
   simp [World.setCell,Array.getElem?_modify,H]) (by simpa using hl)
  simpa [World.setCells] using this
theorem Z1b (b:Nat):∀ (cs:List Value) (o:Nat) (w:World) (k:Nat),k ≠ b → (w.setCells b o cs).heap[k]? = w.heap[k]?
 | [],_,_,_,_=>rfl
 | v :: cs,o,w,k,h=>(Z1b b cs (o + 1) _ k h).trans (Below.heap_setCell _ _ _ _ h)
theorem Z3B (b:Nat):∀ (cs:List Value) (o:Nat) (w:World),(w.setCells b o cs).os = w.os ∧ (w.setCells b o cs).tape = w.tape ∧ (w.setCells b o cs).output = w.output ∧ (w.setCells b o cs).heap.size = w.heap.size
 | [],_,_=>⟨rfl,rfl,rfl,rfl⟩
 | v :: cs,o,w=>by
  obtain ⟨h1,h2,h3,h4⟩:=Z3B b cs (o + 1) (w.setCell ⟨b,o,none⟩ v)
  exact ⟨h1,h2,h3,h4.trans (Z2x _ _ _)⟩
theorem Ext.setCells {X:List Nat} {a w:World} (h:Ext X a w) {b:Nat} (hp:b < a.heap.size → b ∈ X) (o:Nat) (cs:List Value):Ext X a (w.setCells b o cs):=by
 obtain ⟨h1,h2,h3,h4⟩:=Z3B b cs o w
 exact h.trans' (Y:=[b]) ⟨h1,h2,h3,by rw [h4];exact Nat.le_refl _,fun k hk hx=>Z1b b cs o w k (by simpa using hx)⟩ (fun i hi hl=>by simp at hi;subst hi;exact hp hl)
theorem Z3t {w:World} {b:Nat} {cs:List Value} {T:TypeId} {fz:Nat × Nat} (H:w.heap[b]? = some (.cells cs.toArray T fz)):w.rangeAt b 0 cs:=fun j v hv=>by
 rw [Nat.zero_add,Z0 H];simpa using hv
theorem Z4S {w:World} {b:Nat} {cs:Array Value} {T:TypeId} (H:w.heap[b]? = some (.cells cs T (0,0))):w.there b 0 cs.size:=fun j hj=>by
 rw [Nat.zero_add,Z0 H,Zl H];simp [hj]
theorem Z66 {w:World} {b off:Nat} {cs:List Value} {C:Array Value} {T:TypeId} {fz:Nat × Nat} (H:w.heap[b]? = some (.cells C T fz)) (h:∀ j v,cs[j]? = some v → C[off + j]? = some v):w.rangeAt b off cs:=fun j v hv=>by
 rw [Z0 H];exact h j v hv
section
variable {P:Program} {ρ:Operand → Value} {o:Oper} {w:World}
theorem Zi {x:Operand} {v:Value} (ho:o.op = .move x) (hx:ρ x = v):(execOp ρ o).run P w = .ok (.value v) w:=by
 simp [execOp,ho,hx,pure,Sem.run]
theorem Z8 {x:Operand} {v:Value} (ho:o.op = .assign x) (hx:ρ x = v):(execOp ρ o).run P w = .ok (.value v) w:=by
 simp [execOp,ho,hx,pure,Sem.run]
theorem Zh {x:Operand} {t:TypeId} {b off:Nat} {v:Value} {d:TypeDesc} (ho:o.op = .load t x) (hx:ρ x = .pointer (some ⟨b,off,none⟩)) (hd:P.underlying t = some d) (ha:d.isRow = false) (hc:w.cell? ⟨b,off,none⟩ = some v) :
  (execOp ρ o).run P w = .ok (.value v) w:=by
 unfold execOp
 cases d <;> first | (simp [TypeDesc.isRow] at ha;done) | simp [ho,hx,Instr.loadAt,Instr.sureAddr,loadVar,isAgg,underlying,hd,load,hc,Sem.run,go_sem]
theorem ZP {x:Operand} {t:TypeId} {b off:Nat} {cs:List Value} {d:TypeDesc} (ho:o.op = .load t x) (hx:ρ x = .pointer (some ⟨b,off,none⟩)) (hd:P.underlying t = some d) (ha:d.isRow = true) (hi:(P.info? t).map (·.size) = some cs.length) (hc:w.rangeAt b off cs) :
  (execOp ρ o).run P w = .ok (.value (.agg cs.toArray)) w:=by
 unfold execOp
 simp only [ho,hx,Instr.loadAt,Instr.sureAddr,Sem.run_bind,Sem.run_pure,Result.andThen_ok,run_loadVar_mid w b off t cs d hc hd ha hi]
theorem Zg {x y:Operand} {t:TypeId} {b:Nat} {cs:Array Value} (ho:o.op = .store t x y) (hx:ρ x = .pointer (some ⟨b,0,none⟩)) (hy:ρ y = .agg cs) (hi:(P.info? t).map (·.size) = some cs.size) (h1:cs.all (·.oneCell') = true) {old:Array Value} {T:TypeId} (H:w.heap[b]? = some (.cells old T (0,0))) (hs:old.size = cs.size) :
  (execOp ρ o).run P w = .ok .skip (w.setCells b 0 cs.toList):=by
 unfold execOp
 have ht:=Z4S H
 rw [hs] at ht
 simp only [ho,hx,hy,Instr.storeAt,Instr.sureAddr,Sem.run_bind,Sem.run_pure,Result.andThen_ok,run_storeVar_mid w b 0 t cs ht hi h1]
theorem Z1e {b:Nat} {T:TypeId} {cs old:Array Value} (H:w.heap[b]? = some (.cells old T (0,0))) (hs:old.size = cs.size):(w.setCells b 0 cs.toList).heap[b]? = some (.cells cs T (0,0)):=by
 have:=Z3u b T cs.toList [] old.toList w (by simpa using H) (by simpa using hs)
 simpa using this
theorem Z5H {n:Int} (h1:-9223372036854775808 ≤ n) (h2:n ≤ 9223372036854775807):IntKind.i64.wrap n = n:=IntWalk.i64_in n (by omega)
theorem Z0F {x y:Operand} {t t':TypeId} {n m:Int} (ho:o.op = .binOp .add t x y t') (hx:ρ x = .int .i64 n) (hy:ρ y = .int .i64 m) (h1:-9223372036854775808 ≤ n + m) (h2:n + m ≤ 9223372036854775807) :
  (execOp ρ o).run P w = .ok (.value (.int .i64 (n + m))) w:=by
 have hw:=Z5H h1 h2
 unfold execOp
 simp [ho,hx,hy,eqGuard,binOp,Op.intArith,hw,go_sem]
theorem Z1I {x y:Operand} {t t':TypeId} {n m:Int} (ho:o.op = .binOp .sub t x y t') (hx:ρ x = .int .i64 n) (hy:ρ y = .int .i64 m) (h1:-9223372036854775808 ≤ n - m) (h2:n - m ≤ 9223372036854775807) :
  (execOp ρ o).run P w = .ok (.value (.int .i64 (n - m))) w:=by
 have hw:=Z5H h1 h2
 unfold execOp
 simp [ho,hx,hy,eqGuard,binOp,Op.intArith,hw,go_sem]
theorem ZaU {x y:Operand} {t t':TypeId} {n m:Int} (ho:o.op = .binOp .mul t x y t') (hx:ρ x = .int .i64 n) (hy:ρ y = .int .i64 m) (h1:-9223372036854775808 ≤ n * m) (h2:n * m ≤ 9223372036854775807) :
  (execOp ρ o).run P w = .ok (.value (.int .i64 (n * m))) w:=by
 have hw:=Z5H h1 h2
 unfold execOp
 simp [ho,hx,hy,eqGuard,binOp,Op.intArith,hw,go_sem]
theorem Z6D {x:Operand} {t:TypeId} {n:Int} (ho:o.op = .unOp .neg t x) (hx:ρ x = .int .i64 n) (h1:-9223372036854775807 ≤ n) (h2:n ≤ 9223372036854775807) :
  (execOp ρ o).run P w = .ok (.value (.int .i64 (-n))) w:=by
 have hw:=Z5H (n:=-n) (by omega) (by omega)
 unfold execOp
 simp [ho,hx,Op.intArith,hw,go_sem]
theorem Z45 {x:Operand} {t:TypeId} {b:Bool} (ho:o.op = .unOp .not t x) (hx:ρ x = .bool b):(execOp ρ o).run P w = .ok (.value (.bool !b)) w:=by
 unfold execOp
 simp [ho,hx,go_sem]
theorem Z1d {x y:Operand} {t t':TypeId} {k:IntKind} {n m:Int} (ho:o.op = .binOp .lss t x y t') (hx:ρ x = .int k n) (hy:ρ y = .int k m) :
  (execOp ρ o).run P w = .ok (.value (.bool (decide (n < m)))) w:=by
 unfold execOp
 simp [ho,hx,hy,eqGuard,binOp,Op.intCmp,go_sem]
theorem Zb2 {x y:Operand} {t t':TypeId} {k:IntKind} {n m:Int} (ho:o.op = .binOp .leq t x y t') (hx:ρ x = .int k n) (hy:ρ y = .int k m) :
  (execOp ρ o).run P w = .ok (.value (.bool (decide (n ≤ m)))) w:=by
 unfold execOp
 simp [ho,hx,hy,eqGuard,binOp,Op.intCmp,go_sem]
theorem Z4J {x y:Operand} {t t':TypeId} {k:IntKind} {n m:Int} (ho:o.op = .binOp .gtr t x y t') (hx:ρ x = .int k n) (hy:ρ y = .int k m) :
  (execOp ρ o).run P w = .ok (.value (.bool (decide (m < n)))) w:=by
 unfold execOp
 simp [ho,hx,hy,eqGuard,binOp,Op.intCmp,go_sem]
theorem Zby {x y:Operand} {t t':TypeId} {k:IntKind} {n m:Int} (ho:o.op = .binOp .geq t x y t') (hx:ρ x = .int k n) (hy:ρ y = .int k m) :
  (execOp ρ o).run P w = .ok (.value (.bool (decide (m ≤ n)))) w:=by
 unfold execOp
 simp [ho,hx,hy,eqGuard,binOp,Op.intCmp,go_sem]
theorem Zar {x y:Operand} {t t':TypeId} {k:IntKind} {n m:Int} (ho:o.op = .binOp .eql t x y t') (hx:ρ x = .int k n) (hy:ρ y = .int k m) :
  (execOp ρ o).run P w = .ok (.value (.bool (n == m))) w:=by
 unfold execOp
 simp [ho,hx,hy,eqGuard,binOp,Op.intCmp,go_sem]
theorem Zbk {x y:Operand} {t t':TypeId} {k:IntKind} {n m:Int} (ho:o.op = .binOp .neq t x y t') (hx:ρ x = .int k n) (hy:ρ y = .int k m) :
  (execOp ρ o).run P w = .ok (.value (.bool (n != m))) w:=by
 unfold execOp
 simp [ho,hx,hy,eqGuard,binOp,Op.intCmp,go_sem]
theorem Z0s {x:Operand} {b:Addr} (ho:o.op = .nilCheck x) (hx:ρ x = .pointer (some b)):(execOp ρ o).run P w = .ok (.value (.pointer (some b))) w:=by
 unfold execOp
 simp [ho,hx,go_sem]
theorem Z06 {x:Operand} {t:TypeId} {f b off sz:Nat} {fs:Array Go.Field} {fd:Go.Field} (ho:o.op = .fieldAddr t x f) (hx:ρ x = .pointer (some ⟨b,off,none⟩)) (hu:P.underlying t = some (.struct fs)) (hf:fs[f]? = some fd) {n:Nat} (hn:fd.offset = n) (hs:(P.info? fd.type).map (·.size) = some sz) (h0:sz ≠ 0) :
  (execOp ρ o).run P w = .ok (.value (.pointer (some ⟨b,off + n,none⟩))) w:=by
 subst hn
 unfold execOp
 cases hq:P.info? fd.type with
 | none=>simp [hq] at hs
 | some i =>
  have hs':i.size = sz:=by simpa [hq] using hs
  simp [ho,hx,Instr.fieldAt,Instr.sureAddr,run_underlying hu,hf,sizeOf,typeInfo,hq,hs',h0,go_sem]
theorem Z1v {x ix:Operand} {t e:TypeId} {k:IntKind} {i:Int} {b off n sz:Nat} (ho:o.op = .indexAddr t x ix) (hx:ρ x = .pointer (some ⟨b,off,none⟩)) (hi:ρ ix = .int k i) (hu:P.underlying t = some (.array n e)) (hs:(P.info? e).map (·.size) = some sz) (h0:0 ≤ i) (h1:i < n) :
  (execOp ρ o).run P w = .ok (.value (.pointer (some ⟨b,off + i.toNat * sz,none⟩))) w:=by
 unfold execOp
 cases hq:P.info? e with
 | none=>simp [hq] at hs
 | some j =>
  have hs':j.size = sz:=by simpa [hq] using hs
  simp [ho,hx,hi,Instr.indexAt,Instr.sureAddr,run_underlying hu,asIntOf,h0,h1,sizeOf,typeInfo,hq,hs',go_sem]
theorem ZJ {x ix:Operand} {t e:TypeId} {k:IntKind} {i:Int} {b off len cap sz:Nat} (ho:o.op = .indexAddr t x ix) (hx:ρ x = .slice (some ⟨b,off,none⟩) len cap) (hi:ρ ix = .int k i) (hu:P.underlying t = some (.slice e)) (hs:(P.info? e).map (·.size) = some sz) (h0:0 ≤ i) (h1:i < len) :
  (execOp ρ o).run P w = .ok (.value (.pointer (some ⟨b,off + i.toNat * sz,none⟩))) w:=by
 unfold execOp
 cases hq:P.info? e with
 | none=>simp [hq] at hs
 | some j =>
  have hs':j.size = sz:=by simpa [hq] using hs
  simp [ho,hx,hi,Instr.indexAt,run_underlying hu,asIntOf,h0,h1,sizeOf,typeInfo,hq,hs',go_sem]
theorem Z1c {c:Call} {x:Operand} {t:TypeId} {a:Option Addr} {n cap:Nat} (ho:o.op = .call c) (hc:c = { callee:=.builtin .len,args:=#[x],argTypes:=#[t] }) (hx:ρ x = .slice a n cap) (hu:P.underlying t = some (.slice (P.elem t))) :
  (execOp ρ o).run P w = .ok (.value (.int .i64 n)) w:=by
 subst hc
 unfold execOp
 simp [ho,hx,resolve,invoke,builtin,run_len_slice w t o.type a n cap hu,goInt,go_sem]
theorem Z7Q {c:Call} {x y:Operand} {t t':TypeId} {n m:Int} (ho:o.op = .call c) (hc:c = { callee:=.builtin .max,args:=#[x,y],argTypes:=#[t,t'] }) (hx:ρ x = .int .i64 n) (hy:ρ y = .int .i64 m) :
  (execOp ρ o).run P w = .ok (.value (.int .i64 (max n m))) w:=by
 subst hc
 unfold execOp
 simp [ho,hx,hy,resolve,invoke,builtin,go_sem]
 split <;> omega
theorem Z60 {v:Value} (h:v.oneCell' = true):v.cells = #[v]:=by
 cases v <;> first | rfl | (simp [Value.oneCell'] at h)
theorem ZR {x y:Operand} {t:TypeId} {b off:Nat} {v u:Value} (ho:o.op = .store t x y) (hx:ρ x = .pointer (some ⟨b,off,none⟩)) (hy:ρ y = v) (h1:v.oneCell' = true) (hs:(P.info? t).map (·.size) = some 1) (hc:w.cell? ⟨b,off,none⟩ = some u) (hf:w.frozen? ⟨b,off,none⟩ = false) :
  (execOp ρ o).run P w = .ok .skip (w.setCell ⟨b,off,none⟩ v):=by
 have:=run_storeCells_cells (P:=P) b off [v] 0 w (fun j hj=>by obtain rfl:j = 0:=(by simp at hj;omega);simp [hc]) (fun j hj=>by obtain rfl:j = 0:=(by simp at hj;omega);simp [hf]) (fun z hz=>by simp at hz;subst hz;exact h1)
 simp only [Nat.add_zero] at this
 have hsv:(storeVar t ⟨b,off,none⟩ v).run P w = .ok () (w.setCell ⟨b,off,none⟩ v):=by
  unfold storeVar
  rw [Z60 h1]
  cases hq:P.info? t with
  | none=>simp [hq] at hs
  | some j =>
   have hs':j.size = 1:=by simpa [hq] using hs
   simp [sizeOf,typeInfo,hq,hs',this]
   rfl
 unfold execOp
 simp only [ho,hx,hy,Instr.storeAt,Instr.sureAddr,Sem.run_bind,Sem.run_pure,Result.andThen_ok,hsv]
theorem Z4O {c:Call} {x y:Operand} {t t':TypeId} {n m:Int} (ho:o.op = .call c) (hc:c = { callee:=.builtin .min,args:=#[x,y],argTypes:=#[t,t'] }) (hx:ρ x = .int .i64 n) (hy:ρ y = .int .i64 m) :
  (execOp ρ o).run P w = .ok (.value (.int .i64 (min n m))) w:=by
 subst hc
 unfold execOp
 simp [ho,hx,hy,resolve,invoke,builtin,go_sem]
 split <;> omega
theorem ZB {T:TypeId} {z:Value} (ho:o.op = .alloc T) (hz:∀ w,(zeroValue T).run P w = .ok z w):(execOp ρ o).run P w = .ok (.value (.pointer (some ⟨w.heap.size,0,none⟩))) (w.alloc (.cells z.cells T)):=by
 unfold execOp
 simp only [ho,Instr.alloc,Sem.run_bind,hz,Result.andThen_ok]
 simp only [newVar,newRow,newObj,Sem.run_bind,Sem.run_pure]
 rfl
theorem Z0z {T:TypeId} {x:Operand} {v:Value} (ho:o.op = .box T x) (hx:ρ x = v):(execOp ρ o).run P w = .ok (.value (.pointer (some ⟨w.heap.size,0,none⟩))) (w.alloc (.cells v.cells T)):=by
 unfold execOp
 simp only [ho,hx,Instr.box,Sem.run_bind,Result.andThen_ok]
 simp only [newVar,newRow,newObj,Sem.run_bind,Sem.run_pure]
 rfl
theorem Y_of {ops:Array Oper} {S:World → Prop} {a:Act} {v:Value} (hw:Region.wanted o (yielded ops a.tmps) = true) (h:∀ w,S w → (execOp a.eval o).run P w = .ok (.value v) w):YieldsIf P ops S o v a:=.inl ⟨hw,h⟩
end
section
variable {P:Program} {ops:Array Oper} {Q:Exit → Act → World → Prop} {o:Oper} {rest:List Oper} {a:Act} {w w':World} {v:Value}
theorem Z1T {l:List Value} {ds:List Deferred} {d:Tmp} {v:Value} (o:Option Tmp) (hd:o = some d):(Act.mk l.toArray ds).put o v = Act.mk (l.set d v).toArray ds:=by
 subst hd;simp [Act.put]
theorem Zp {K:Act → Prop} {l l':List Value} {ds:List Deferred} {d:Tmp} (hd:o.dst = some d) (hw:Region.wanted o (yielded ops l.toArray) = true) (hr:(execOp (Act.eval ⟨l.toArray,ds⟩) o).run P w = .ok (.value v) w) (hl:l.set d v = l') (h:wpStill P ops w K rest ⟨l'.toArray,ds⟩):wpStill P ops w K (o :: rest) ⟨l.toArray,ds⟩:=by
 unfold wpStill
 simp only [hw,if_true,Oper.still,hr,Oper.stillUpon_value]
 rw [Z1T _ hd,hl]
 exact h
theorem Z0Z {K:Act → Prop} {l l':List Value} {ds:List Deferred} {d:Tmp} {f:FuncId} {args:Array Value} (hd:o.dst = some d) (hw:Region.wanted o (yielded ops l.toArray) = true) (hr:(execOp (Act.eval ⟨l.toArray,ds⟩) o).run P w = .ok (.enter f args) w) (hc:Calls P f args w fun e w'=>e = .returned v ∧ w = w') (hl:l.set d v = l') (h:wpStill P ops w K rest ⟨l'.toArray,ds⟩):wpStill P ops w K (o :: rest) ⟨l.toArray,ds⟩:=by
 unfold wpStill
 simp only [hw,if_true,Oper.still,hr,Oper.stillUpon]
 refine ⟨trivial,v,hc.mono fun e w' h=>⟨h.1,h.2.symm⟩,?_⟩
 rw [Z1T _ hd,hl]
 exact h
theorem Z3 {l l':List Value} {ds:List Deferred} {d:Tmp} (hd:o.dst = some d) (hw:Region.wanted o (yielded ops l.toArray) = true) (hr:(execOp (Act.eval ⟨l.toArray,ds⟩) o).run P w = .ok (.value v) w') (hl:l.set d v = l') (h:wpList P ops Q rest ⟨l'.toArray,ds⟩ w'):wpList P ops Q (o :: rest) ⟨l.toArray,ds⟩ w:=by
 unfold wpList
 simp only [hw,if_true,Oper.wp,hr,Oper.upon]
 rw [Z1T _ hd,hl]
 exact .inl h
theorem Zae {l:List Value} {ds:List Deferred} (hd:o.dst = none) (hw:Region.wanted o (yielded ops l.toArray) = true) (hr:(execOp (Act.eval ⟨l.toArray,ds⟩) o).run P w = .ok .skip w') (h:wpList P ops Q rest ⟨l.toArray,ds⟩ w'):wpList P ops Q (o :: rest) ⟨l.toArray,ds⟩ w:=by
 unfold wpList
 simp only [hw,if_true,Oper.wp,hr,Oper.upon,hd,Act.put]
 exact .inl h
theorem ZC {l:List Value} {ds:List Deferred} {d:Tmp} {f:FuncId} {args:Array Value} {R:Ending → World → Prop} (hd:o.dst = some d) (hw:Region.wanted o (yielded ops l.toArray) = true) (hr:(execOp (Act.eval ⟨l.toArray,ds⟩) o).run P w = .ok (.enter f args) w) (hc:Calls P f args w R) (h:∀ e w',R e w' → ∃ v l',e = .returned v ∧ l.set d v = l' ∧ wpList P ops Q rest ⟨l'.toArray,ds⟩ w'):wpList P ops Q (o :: rest) ⟨l.toArray,ds⟩ w:=by
 unfold wpList
 simp only [hw,if_true,Oper.wp,hr,Oper.upon]
 refine .inl (hc.mono fun e w' hR=>?_)
 obtain ⟨v,l',rfl,hl,h1⟩:=h e w' hR
 show wpList _ _ _ _ _ _
 rw [Z1T _ hd,hl]
 exact h1
theorem ZY {l:List Value} {ds:List Deferred} (hd:o.dst = none) (hw:Region.wanted o (yielded ops l.toArray) = true) (hr:(execOp (Act.eval ⟨l.toArray,ds⟩) o).run P w = .ok .skip w') (h:∀ W2,W2 = w' → wpList P ops Q rest ⟨l.toArray,ds⟩ W2):wpList P ops Q (o :: rest) ⟨l.toArray,ds⟩ w:=
 Zae hd hw hr (h _ rfl)
theorem Zy {l l':List Value} {ds:List Deferred} {d:Tmp} (hd:o.dst = some d) (hw:Region.wanted o (yielded ops l.toArray) = true) (hr:(execOp (Act.eval ⟨l.toArray,ds⟩) o).run P w = .ok (.value v) w') (hl:l.set d v = l') (h:∀ W2,W2 = w' → wpList P ops Q rest ⟨l'.toArray,ds⟩ W2):wpList P ops Q (o :: rest) ⟨l.toArray,ds⟩ w:=
 Z3 hd hw hr hl (h _ rfl)
end
theorem Z4b {P:Program} {ops:Array Oper} {Q:Exit → Act → World → Prop} {id:Nat} {a:Act} {w:World} (S:World → Prop) (hm:P.follows .mixedOrders = true)
  (h:∀ W:World,W.heap = w.heap → Ext [] w W → wpAnyH P .any ops Q S ops.size (Array.replicate ops.size false) a W):(Code.region id ops true).wp P Q a w:=
 wp_region_held (S:=S) hm (h _ rfl ⟨rfl,rfl,rfl,Nat.le_refl _,fun _ _ _=>rfl⟩)
theorem Z0g {P:Program} {id:Nat} {Q:Exit → Act → World → Prop} {a:Act} {w:World} {l:List Oper} (n:Nat) (hm:P.follows .mixedOrders = true) (hB:Region.lexTailB .any l.toArray n = true)
  (h:∀ W:World,W.heap = w.heap → Ext [] w W → wpStill P l.toArray W (fun a'=>wpList P l.toArray Q (l.drop n) a' W) (l.take n) a):(Code.region id l.toArray true).wp P Q a w:=
 wp_region_still_tail n hm hB (h _ rfl ⟨rfl,rfl,rfl,Nat.le_refl _,fun _ _ _=>rfl⟩)
theorem Z2a {P:Program} {fn:Func} {t:Tmp} {ty:TypeId} {tmps:Array Value} {w:World} {b:Nat} {cs:Array Value} {T:TypeId} {d:TypeDesc} {fz:Nat × Nat} (hr:fn.results = #[.cell t ty]) (ht:tmps.getD t undef = .pointer (some ⟨b,0,none⟩)) (hd:P.underlying ty = some d) (ha:d.isRow = true) (hi:(P.info? ty).map (·.size) = some cs.size) (H:w.heap[b]? = some (.cells cs T fz)) :
  (results fn tmps).run P w = .ok (.agg cs) w:=by
 have hc:w.rangeAt b 0 cs.toList:=fun j v hv=>by
  rw [Nat.zero_add,Z0 H];simpa using hv
 have hl:=run_loadVar_mid (P:=P) w b 0 ty cs.toList d hc hd ha (by simpa using hi)
 have ht':tmps[t]?.getD undef = .pointer (some ⟨b,0,none⟩):=by simpa using ht
 simp [results,hr,ht',asAddr,hl,Sem.run_bind,Sem.run_pure,Result.andThen]
def ZD (m:Nat → Nat → Int):Array Value:=Array.ofFn (n:=169) fun i=>.int .i64 (m (i.1 / 13) (i.1 % 13))
theorem Zj (m):(ZD m).size = 169:=by simp [ZD]
theorem Z2u (m:Nat → Nat → Int) (i j:Nat) (hi:i < 13) (hj:j < 13):(ZD m)[i * 13 + j]? = some (.int .i64 (m i j)):=by
 have h:i * 13 + j < 169:=by omega
 have e1:(i * 13 + j) / 13 = i:=by omega
 have e2:(i * 13 + j) % 13 = j:=by omega
 simp [ZD,h,e1,e2]
def upd (m:Nat → Nat → Int) (i j:Nat) (v:Int):Nat → Nat → Int:=fun a b=>if a = i ∧ b = j then v else m a b
theorem Z6l (m:Nat → Nat → Int) (i j:Nat) (hi:i < 13) (hj:j < 13) (v:Int) :
  (ZD m).setIfInBounds (i * 13 + j) (.int .i64 v) = ZD (upd m i j v):=by
 apply Array.ext_getElem?
 intro k
 rw [Array.getElem?_setIfInBounds]
 by_cases hk:i * 13 + j = k
 ·subst hk
  have h:i * 13 + j < 169:=by omega
  have e1:(i * 13 + j) / 13 = i:=by omega
  have e2:(i * 13 + j) % 13 = j:=by omega
  simp [ZD,h,upd,e1,e2]
 ·rw [if_neg hk]
  by_cases h:k < 169
  ·have h2:¬ (k / 13 = i ∧ k % 13 = j):=by omega
   simp [ZD,h,upd,h2]
  ·simp [ZD,h]
theorem Z2F {m m':Nat → Nat → Int} (h:∀ i j,i < 13 → j < 13 → m i j = m' i j):ZD m = ZD m':=by
 apply Array.ext_getElem?
 intro k
 by_cases hk:k < 169
 ·simp [ZD,hk,h (k / 13) (k % 13) (by omega) (by omega)]
 ·simp [ZD,hk]
def Z0Y (m:Nat → Nat → Int):List Value:=(ZD m).toList
theorem ZI (m):(Z0Y m).toArray = ZD m:=by simp only [Z0Y,Array.toArray_toList]
theorem Z1a (m):(Z0Y m).length = 169:=by simp only [Z0Y,Array.length_toList,Zj]
theorem Z05 (m):∀ v ∈ Z0Y m,v.oneCell' = true:=by
 intro v hv
 obtain ⟨k,hk,rfl⟩:=List.mem_iff_getElem.1 hv
 simp only [Z0Y,ZD,Array.getElem_toList,Array.getElem_ofFn]
 rfl
structure MatAt (w:World) (b:Nat) (ty:TypeId) (m:Nat → Nat → Int):Prop where
 blk:w.heap[b]? = some (.cells (ZD m) ty (0,0))
theorem MatAt.cell {w:World} {b ty} {m} (h:MatAt w b ty m) (i j:Nat) (hi:i < 13) (hj:j < 13) :
  w.cell? ⟨b,i * 13 + j,none⟩ = some (.int .i64 (m i j)):=by
 simp [World.cell?,h.blk,Z2u m i j hi hj]
theorem MatAt.frozen {w:World} {b ty} {m} (h:MatAt w b ty m) (o:Nat):w.frozen? ⟨b,o,none⟩ = false:=by
 simp [World.frozen?,h.blk]
theorem MatAt.set {w:World} {b ty} {m} (h:MatAt w b ty m) (i j:Nat) (hi:i < 13) (hj:j < 13) (v:Int) :
  MatAt (w.setCell ⟨b,i * 13 + j,none⟩ (.int .i64 v)) b ty (upd m i j v):=by
 constructor
 simp [World.setCell,Array.getElem?_modify,h.blk,Z6l m i j hi hj v]
theorem MatAt.drew {w:World} {b ty} {m} (h:MatAt w b ty m):MatAt w.drew b ty m:=⟨h.blk⟩
theorem MatAt.alloc {w:World} {b ty} {m} (h:MatAt w b ty m) (o:Obj):MatAt (w.alloc o) b ty m:=⟨Z1k h.blk⟩
theorem MatAt.set' {w w2:World} {b ty} {m} (h:MatAt w b ty m) (i j:Nat) {off:Nat} {v:Int} (e:w2 = w.setCell ⟨b,off,none⟩ (.int .i64 v)) (hi:i < 13) (hj:j < 13) (eo:off = i * 13 + j):MatAt w2 b ty (upd m i j v):=by subst e;subst eo;exact h.set i j hi hj v
theorem MatAt.ext {X:List Nat} {w w':World} {b ty} {m} (h:MatAt w b ty m) (e:Ext X w w') (hb:b ∉ X):MatAt w' b ty m:=⟨e.keep h.blk hb⟩
theorem MatAt.same {w w':World} {b ty} {m} (h:MatAt w b ty m) (e:w'.heap = w.heap):MatAt w' b ty m:=⟨by rw [e];exact h.blk⟩
theorem MatAt.lt {w:World} {b ty} {m} (h:MatAt w b ty m):b < w.heap.size:=Z7 h.blk
theorem MatAt.below {B:Nat} {w w':World} {b ty} {m} (h:MatAt w b ty m) (hb:Below B w w') (hB:b < B):MatAt w' b ty m:=⟨Z5Y hb h.blk hB⟩
theorem MatAt.range {w:World} {b ty} {m} (h:MatAt w b ty m):w.rangeAt b 0 (Z0Y m):=by
 intro j v hv
 rw [Nat.zero_add,Z0 h.blk]
 rw [Z0Y,Array.getElem?_toList] at hv
 exact hv
attribute [irreducible] ZD Z0Y
theorem MatAt.cellAt {w:World} {b ty} {m} (h:MatAt w b ty m) (i j off:Nat) (hi:i < 13) (hj:j < 13) (e:off = i * 13 + j) :
  w.cell? ⟨b,off,none⟩ = some (.int .i64 (m i j)):=by subst e;exact h.cell i j hi hj
theorem Z2r (m):(Try.prog.info? 105).map (·.size) = some (Z0Y m).length:=by rw [Z1a];kernel_rfl
def rdgE (S A T s a t p:Int):Int:=ZU [Z0h s S,Z0h a A,Z0h t T,Z0y p 0 250]
set_option maxHeartbeats 2000000 in
theorem Z4j (S A T bl bm pl pm sl:Int) (vg vr vl:Value) (s a t p:Int) (w:World) (h1:-1000000 ≤ S) (h2:S ≤ 1000000) (h3:-1000000 ≤ A) (h4:A ≤ 1000000) (h5:-1000000 ≤ T) (h6:T ≤ 1000000) :
  Calls Try.prog 85 #[.agg #[.int .i64 S,.int .i64 A,.int .i64 T,.int .i64 bl,.int .i64 bm,.int .i64 pl,.int .i64 pm,.int .i64 sl,vg,vr,vl],.agg #[.int .i64 s,.int .i64 a,.int .i64 t,.int .i64 p]] w fun e w'=>e = .returned (.int .i64 (rdgE S A T s a t p)) ∧ Below w.heap.size w w':=by
 go_enter Try.func85,Try.ntmps85
 go_wp2
 go_region_held3 (fun w'=>w'.cell? ⟨w.heap.size,0,none⟩ = some (.int .i64 S) ∧ w'.cell? ⟨w.heap.size,1,none⟩ = some (.int .i64 A) ∧ w'.cell? ⟨w.heap.size,2,none⟩ = some (.int .i64 T) ∧ w'.cell? ⟨w.heap.size + 1,0,none⟩ = some (.int .i64 s) ∧ w'.cell? ⟨w.heap.size + 1,1,none⟩ = some (.int .i64 a) ∧ w'.cell? ⟨w.heap.size + 1,2,none⟩ = some (.int .i64 t) ∧ w'.cell? ⟨w.heap.size + 1,3,none⟩ = some (.int .i64 p)) (go_keep) (first | (go_at_call 130;refine (Z15 _ _ _ (by omega) (by omega)).mono ?_;rintro e w' ⟨rfl,rfl⟩) | (go_at_call 83;refine (Z2c _ _ _ _).mono ?_;rintro e w' ⟨rfl,rfl⟩) | (go_at_call 82;refine (Z2N [Z0h s S,Z0h a A,Z0h t T,Z0y p 0 250] _ 37 _ _ rfl (by simp) (by simp) (Z3n (Z0V (by simp)))).mono ?_;rintro e w' ⟨rfl,rfl⟩))
 go_wp2
 go_ret
 refine ⟨rfl,?_⟩
 repeat (first | exact Below.refl _ _ | assumption | (refine Below.drew ?_) | (refine Below.alloc ?_ (by first | exact Nat.le_refl _ | (simp;done) | (simp;omega)) _) | (refine Below.setCell ?_ (by first | exact Nat.le_refl _ | (simp;done) | (simp;omega)) _))
theorem Z1W (s a:Int) (w:World) (h1:0 ≤ s) (h2:s ≤ 1000000) (h3:0 ≤ a) (h4:a ≤ 1000000) :
  Calls Try.prog 92 #[.int .i64 s,.int .i64 a] w fun e w'=>e = .returned (.int .i64 (1 + s * 3 + a)) ∧ w = w':=by
 go_enter Try.func92,Try.ntmps92
 go_wp2
 go_ret
 exact ⟨rfl,rfl⟩
theorem Z5k (t:Int) (w:World) (h1:0 ≤ t) (h2:t ≤ 1000000) :
  Calls Try.prog 101 #[.int .i64 t] w fun e w'=>e = .returned (.int .i64 (10 + t)) ∧ w = w':=by
 go_enter Try.func101,Try.ntmps101
 go_wp2
 go_ret
 exact ⟨rfl,rfl⟩
theorem Z7K (n s:Int) (w:World) (h1:-1000000 ≤ n) (h2:n ≤ 1000000) (h3:-1000000 ≤ s) (h4:s ≤ 1000000) :
  Calls Try.prog 159 #[.int .i64 n,.int .i64 s] w fun e w'=>e = .returned (.agg #[.int .i64 (n - s),.int .i64 (n + s)]) ∧ Below w.heap.size w w':=by
 go_enter Try.func159,Try.ntmps159
 go_wp2
 refine bodyPost_ret (v:=.agg #[.int .i64 (n - s),.int .i64 (n + s)]) (by simp [results,Try.results159,go_sem]) rfl ⟨rfl,?_⟩
 repeat (first | exact Below.refl _ _ | assumption | (refine Below.drew ?_) | (refine Below.alloc ?_ (by first | exact Nat.le_refl _ | (simp;done) | (simp;omega)) _) | (refine Below.setCell ?_ (by first | exact Nat.le_refl _ | (simp;done) | (simp;omega)) _))
set_option maxHeartbeats 2000000 in
theorem Z3N (m:Nat → Nat → Int) (l h:Int) (w:World) (h1:0 ≤ l) (h2:l < 13) (h3:0 ≤ h) (h4:h < 13) (hb1:-1000000000000000000 ≤ m h.toNat l.toNat) (hb2:m h.toNat l.toNat ≤ 1000000000000000000) :
  Calls Try.prog 91 #[.agg (ZD m),.int .i64 l,.int .i64 h] w fun e w'=>e = .returned (.agg #[.int .i64 (-(m h.toNat l.toNat)),.int .i64 (m l.toNat h.toNat)]) ∧ Below w.heap.size w w':=by
 obtain ⟨l,rfl⟩:=Int.eq_ofNat_of_zero_le h1
 obtain ⟨h,rfl⟩:=Int.eq_ofNat_of_zero_le h3
 rw [Int.toNat_natCast,Int.toNat_natCast] at *
 have c1:=Z2u m h l (by omega) (by omega)
 have c2:=Z2u m l h (by omega) (by omega)
 have w1:IntKind.i64.wrap (-m h l) = -m h l:=IntWalk.i64_in _ (by omega)
 go_enter Try.func91,Try.ntmps91
 go_wp2
 go_region_held3 (fun w'=>w'.cell? ⟨w.heap.size,h * 13 + l,none⟩ = some (.int .i64 (m h l)) ∧ w'.cell? ⟨w.heap.size,l * 13 + h,none⟩ = some (.int .i64 (m l h))) (go_keep) (fail)
 go_wp2
 refine bodyPost_ret (v:=.agg #[.int .i64 (-(m h l)),.int .i64 (m l h)]) (by simp [results,Try.results91,go_sem]) rfl ⟨rfl,?_⟩
 repeat (first | exact Below.refl _ _ | assumption | (refine Below.drew ?_) | (refine Below.alloc ?_ (by first | exact Nat.le_refl _ | (simp;done) | (simp;omega)) _) | (refine Below.setCell ?_ (by first | exact Nat.le_refl _ | (simp;done) | (simp;omega)) _))
theorem Z9T (m:Nat → Nat → Int) (cs:Array Value) (l h:Int) (w:World) (hcs:cs = ZD m) (h1:0 ≤ l) (h2:l < 13) (h3:0 ≤ h) (h4:h < 13) (hb1:-1000000000000000000 ≤ m h.toNat l.toNat) (hb2:m h.toNat l.toNat ≤ 1000000000000000000) :
  Calls Try.prog 91 #[.agg cs,.int .i64 l,.int .i64 h] w fun e w'=>e = .returned (.agg #[.int .i64 (-(m h.toNat l.toNat)),.int .i64 (m l.toNat h.toNat)]) ∧ Below w.heap.size w w':=by
 subst hcs
 exact Z3N m l h w h1 h2 h3 h4 hb1 hb2
theorem Z7p (m:Nat → Nat → Int) (t:Int) (w:World) (h1:0 ≤ t) (h2:t < 3) (hb1:-1000000000000000000 ≤ m 0 (10 + t).toNat) (hb2:m 0 (10 + t).toNat ≤ 1000000000000000000) :
  Calls Try.prog 97 #[.agg (ZD m),.int .i64 t] w fun e w'=>e = .returned (.agg #[.int .i64 (-(m 0 (10 + t).toNat)),.int .i64 (m (10 + t).toNat 0)]) ∧ Below w.heap.size w w':=by
 go_enter Try.func97,Try.ntmps97
 go_wp2
 have q0:((w.alloc (.cells (ZD m) 105)).alloc (.cells #[.int .i64 0,.int .i64 0] 23)).heap[w.heap.size]? = _:=Z1k (Z0V rfl)
 have q1:((w.alloc (.cells (ZD m) 105)).alloc (.cells #[.int .i64 0,.int .i64 0] 23)).heap[w.heap.size + 1]? = _:=Z0V (Z0N _ _).symm
 have E0:Ext [] w ((w.alloc (.cells (ZD m) 105)).alloc (.cells #[.int .i64 0,.int .i64 0] 23)):=((Ext.refl _ _).alloc _).alloc _
 have Z:((w.alloc (.cells (ZD m) 105)).alloc (.cells #[.int .i64 0,.int .i64 0] 23)).heap.size = w.heap.size + 2:=by rw [Z0N,Z0N]
 generalize (w.alloc (.cells (ZD m) 105)).alloc (.cells #[.int .i64 0,.int .i64 0] 23) = W at q0 q1 E0 Z ⊢
 refine Z4b (Ext [w.heap.size + 1] W) follows fun W1 hh E1=>?_
 have eS:=E1.mono (Y:=[w.heap.size + 1]) (by simp)
 have m0:MatAt W w.heap.size 105 m:=⟨q0⟩
 refine wpAnyH_take (i:=0) (v:=.agg (Z0Y m).toArray) rfl (by kernel_rfl) (by kernel_rfl) (by kernel_rfl) (fun _ _ _ h=>h) (Y_of rfl (fun w' hS=>ZP rfl rfl Try.underlying105 rfl (Z2r m) (MatAt.range ⟨hS.keep m0.blk (by simp)⟩))) eS ?_
 refine wpAnyH_take (i:=1) (v:=.int .i64 t) rfl (by kernel_rfl) (by kernel_rfl) (by kernel_rfl) (fun _ _ _ h=>h) (Y_of rfl (fun w' hS=>Zi rfl rfl)) eS ?_
 refine Z3z (i:=2) rfl (by kernel_rfl) (by kernel_rfl) (by kernel_rfl) (Z5k t _ h1 (by omega)) (fun e w' hR=>?_);obtain ⟨rfl,rfl⟩:=hR
 refine ⟨_,rfl,eS,?_⟩
 refine Z3z (i:=3) rfl (by kernel_rfl) (by kernel_rfl) (by kernel_rfl) (Z9T m (Z0Y m).toArray (10 + t) 0 _ (ZI m) (by omega) (by omega) (by omega) (by omega) hb1 hb2) (fun e w' hR=>?_);obtain ⟨rfl,hb'⟩:=hR
 have e2:=Ext.of_below hb'
 replace eS:=eS.nil e2
 refine ⟨_,rfl,eS,?_⟩
 have q1':=(E1.nil e2).keep0 q1
 have q2:=Z1e (cs:=#[.int .i64 (-(m (0:Int).toNat (10 + t).toNat)),.int .i64 (m (10 + t).toNat (0:Int).toNat)]) q1' rfl
 refine Z4M (i:=4) rfl (by kernel_rfl) (by kernel_rfl) (Zg (cs:=#[.int .i64 (-(m (0:Int).toNat (10 + t).toNat)),.int .i64 (m (10 + t).toNat (0:Int).toNat)]) rfl rfl rfl (by kernel_rfl) (by simp [Value.oneCell']) q1' (by rfl)) (eS.setCells (fun _=>by simp) _ _) ?_
 have e3:=((E0.nil E1).nil e2).setCells (b:=w.heap.size + 1) (fun h=>absurd h (by omega)) 0 [.int .i64 (-(m (0:Int).toNat (10 + t).toNat)),.int .i64 (m (10 + t).toNat (0:Int).toNat)]
 refine wpAnyH_done (by kernel_rfl) ?_ _
 go_wp2
 refine bodyPost_ret (Z2a rfl rfl Try.underlying23 rfl (by kernel_rfl) q2) rfl ⟨rfl,e3.below⟩
def Z0A (m:Nat → Nat → Int) (l h:Nat) (lo hi:Int):Nat → Nat → Int:=
 upd (upd m l h (min (m l h) hi)) h l (min (upd m l h (min (m l h) hi) h l) (-lo))
set_option maxRecDepth 100000 in
set_option maxHeartbeats 1000000 in
theorem Z36 (m:Nat → Nat → Int) (B:Nat) (l h:Int) (lo hi:Int) (w:World) (hm:MatAt w B 105 m) (h1:0 ≤ l) (h2:l < 13) (h3:0 ≤ h) (h4:h < 13) (hlo:-1000000000000000000 ≤ lo) (hlo2:lo ≤ 1000000000000000000) :
  Calls Try.prog 158 #[.pointer (some ⟨B,0,none⟩),.int .i64 l,.int .i64 h,.agg #[.int .i64 lo,.int .i64 hi]] w fun e w'=>e = .returned (.tuple #[]) ∧ MatAt w' B 105 (Z0A m l.toNat h.toNat lo hi) ∧ Ext [B] w w':=by
 obtain ⟨l,rfl⟩:=Int.eq_ofNat_of_zero_le h1
 obtain ⟨h,rfl⟩:=Int.eq_ofNat_of_zero_le h3
 rw [Int.toNat_natCast,Int.toNat_natCast] at *
 have hBl:=hm.lt
 go_enter Try.func158,Try.ntmps158
 go_wp2
 have q0:(w.alloc (.cells #[.int .i64 lo,.int .i64 hi] 23)).heap[w.heap.size]? = _:=Z0V rfl
 have m0:=hm.alloc (.cells #[.int .i64 lo,.int .i64 hi] 23)
 have E0:Ext [B] w (w.alloc (.cells #[.int .i64 lo,.int .i64 hi] 23)):=(Ext.refl _ _).alloc _
 generalize w.alloc (.cells #[.int .i64 lo,.int .i64 hi] 23) = W at q0 m0 E0 ⊢
 refine Z0g 16 follows (by kernel_rfl) fun W1 hW1 eW1=>?_
 replace m0:=m0.same hW1
 replace q0:=Zn hW1 q0
 replace E0:=E0.nil eW1
 clear hW1 eW1
 refine Zp rfl rfl (Zi (v:=.pointer (some ⟨_,_,none⟩)) rfl rfl) (by simp only [ls,lz];exact rfl) ?_
 refine Zp rfl rfl (Zi (v:=.int .i64 _) rfl rfl) (by simp only [ls,lz];exact rfl) ?_
 refine Zp rfl rfl (Zi (v:=.int .i64 _) rfl rfl) (by simp only [ls,lz];exact rfl) ?_
 refine Zp rfl rfl (Zi (v:=.pointer (some ⟨_,_,none⟩)) rfl rfl) (by simp only [ls,lz];exact rfl) ?_
 refine Zp rfl rfl (Zi (v:=.int .i64 _) rfl rfl) (by simp only [ls,lz];exact rfl) ?_
 refine Zp rfl rfl (Zi (v:=.int .i64 _) rfl rfl) (by simp only [ls,lz];exact rfl) ?_
 refine Zp rfl rfl (Z0s rfl rfl) (by simp only [ls,lz];exact rfl) ?_
 refine Zp rfl rfl (Z1v rfl rfl rfl Try.underlying105 (sz:=13) (by kernel_rfl) (by omega) (by omega)) (by simp only [ls,lz];exact rfl) ?_
 refine Zp rfl rfl (Z1v rfl rfl rfl Try.underlying103 (sz:=1) (by kernel_rfl) (by omega) (by omega)) (by simp only [ls,lz];exact rfl) ?_
 refine Zp rfl rfl (Zh rfl rfl Try.underlying3 rfl (m0.cellAt l h _ (by omega) (by omega) (by omega))) (by simp only [ls,lz];exact rfl) ?_
 refine Zp rfl rfl (Z06 rfl rfl Try.underlying23 rfl (n:=1) (sz:=1) rfl (by kernel_rfl) (by decide)) (by simp only [ls,lz];exact rfl) ?_
 refine Zp rfl rfl (Zh rfl rfl Try.underlying3 rfl ((Z0 q0 _).trans rfl)) (by simp only [ls,lz];exact rfl) ?_
 refine Zp rfl rfl (Z4O rfl rfl rfl rfl) (by simp only [ls,lz];exact rfl) ?_
 refine Zp rfl rfl (Z0s rfl rfl) (by simp only [ls,lz];exact rfl) ?_
 refine Zp rfl rfl (Z1v rfl rfl rfl Try.underlying105 (sz:=13) (by kernel_rfl) (by omega) (by omega)) (by simp only [ls,lz];exact rfl) ?_
 refine Zp rfl rfl (Z1v rfl rfl rfl Try.underlying103 (sz:=1) (by kernel_rfl) (by omega) (by omega)) (by simp only [ls,lz];exact rfl) ?_
 refine wpStill_nil ?_
 refine ZY rfl rfl (ZR (v:=.int .i64 _) rfl rfl rfl rfl (by kernel_rfl) (m0.cellAt l h _ (by omega) (by omega) (by omega)) (m0.frozen _)) fun W2 hW2=>?_
 refine wpList_nil ?_
 replace m0:=m0.set' l h hW2 (by omega) (by omega) (by omega)
 replace q0:=Z5u hW2 q0 (by show _ ≠ B;omega)
 replace E0:=E0.set' hW2 (by simp)
 clear hW2
 go_wp2_with fail
 refine Z0g 17 follows (by kernel_rfl) fun W3 hW3 eW3=>?_
 replace m0:=m0.same hW3
 replace q0:=Zn hW3 q0
 replace E0:=E0.nil eW3
 clear hW3 eW3
 refine Zp rfl rfl (Zi (v:=.pointer (some ⟨_,_,none⟩)) rfl rfl) (by simp only [ls,lz];exact rfl) ?_
 refine Zp rfl rfl (Zi (v:=.int .i64 _) rfl rfl) (by simp only [ls,lz];exact rfl) ?_
 refine Zp rfl rfl (Zi (v:=.int .i64 _) rfl rfl) (by simp only [ls,lz];exact rfl) ?_
 refine Zp rfl rfl (Zi (v:=.pointer (some ⟨_,_,none⟩)) rfl rfl) (by simp only [ls,lz];exact rfl) ?_
 refine Zp rfl rfl (Zi (v:=.int .i64 _) rfl rfl) (by simp only [ls,lz];exact rfl) ?_
 refine Zp rfl rfl (Zi (v:=.int .i64 _) rfl rfl) (by simp only [ls,lz];exact rfl) ?_
 refine Zp rfl rfl (Z0s rfl rfl) (by simp only [ls,lz];exact rfl) ?_
 refine Zp rfl rfl (Z1v rfl rfl rfl Try.underlying105 (sz:=13) (by kernel_rfl) (by omega) (by omega)) (by simp only [ls,lz];exact rfl) ?_
 refine Zp rfl rfl (Z1v rfl rfl rfl Try.underlying103 (sz:=1) (by kernel_rfl) (by omega) (by omega)) (by simp only [ls,lz];exact rfl) ?_
 refine Zp rfl rfl (Zh rfl rfl Try.underlying3 rfl (m0.cellAt h l _ (by omega) (by omega) (by omega))) (by simp only [ls,lz];exact rfl) ?_
 refine Zp rfl rfl (Z06 rfl rfl Try.underlying23 rfl (n:=0) (sz:=1) rfl (by kernel_rfl) (by decide)) (by simp only [ls,lz];exact rfl) ?_
 refine Zp rfl rfl (Zh rfl rfl Try.underlying3 rfl ((Z0 q0 _).trans rfl)) (by simp only [ls,lz];exact rfl) ?_
 refine Zp rfl rfl (Z6D rfl rfl (by omega) (by omega)) (by simp only [ls,lz];exact rfl) ?_
 refine Zp rfl rfl (Z4O rfl rfl rfl rfl) (by simp only [ls,lz];exact rfl) ?_
 refine Zp rfl rfl (Z0s rfl rfl) (by simp only [ls,lz];exact rfl) ?_
 refine Zp rfl rfl (Z1v rfl rfl rfl Try.underlying105 (sz:=13) (by kernel_rfl) (by omega) (by omega)) (by simp only [ls,lz];exact rfl) ?_
 refine Zp rfl rfl (Z1v rfl rfl rfl Try.underlying103 (sz:=1) (by kernel_rfl) (by omega) (by omega)) (by simp only [ls,lz];exact rfl) ?_
 refine wpStill_nil ?_
 refine ZY rfl rfl (ZR (v:=.int .i64 _) rfl rfl rfl rfl (by kernel_rfl) (m0.cellAt h l _ (by omega) (by omega) (by omega)) (m0.frozen _)) fun W4 hW4=>?_
 refine wpList_nil ?_
 replace m0:=m0.set' h l hW4 (by omega) (by omega) (by omega)
 replace E0:=E0.set' hW4 (by simp)
 clear hW4
 go_wp2
 go_end0
 exact ⟨rfl,m0,E0⟩
theorem Z6o (n:Int) (h₀:0 ≤ n) (h₁:n < 2 ^ 16):IntKind.u16.wrap n = n:=by
 simp only [IntKind.wrap,IntKind.bits,IntKind.signed]
 simp
 omega
theorem Z9L {x:Int} (h₀:0 ≤ x) (h₁:x < 65536):bits .and .u16 x 1 = x % 2:=bits_mask .u16 16 (by decide) Z6o 1 (by decide) x h₀ h₁
theorem Z6b:∀ n:Nat,n < 16 → (2:Int) ^ n ≤ 32768:=by decide
theorem Z5q (n:Nat):(0:Int) < 2 ^ n:=Int.pow_pos (by decide)
theorem Z7M {s:Int} (n:Nat) (h1:0 ≤ s) (h2:s < 65536):0 ≤ s / 2 ^ n ∧ s / 2 ^ n < 65536:=by
 refine ⟨Int.ediv_nonneg h1 (Int.le_of_lt (Z5q n)),?_⟩
 have:=Int.ediv_le_self (b:=2 ^ n) h1
 omega
def hasB (s:Int) (n:Nat):Bool:=s / 2 ^ n % 2 == 1
theorem Z9e (s n:Int) (w:World) (h1:0 ≤ s) (h2:s < 65536) (h3:0 ≤ n) (h4:n < 16) :
  Calls Try.prog 126 #[.int .u16 s,.int .i64 n] w fun e w'=>e = .returned (.bool (hasB s n.toNat)) ∧ w = w':=by
 have hm:min n.toNat 16 = n.toNat:=by omega
 have hd:=Z7M n.toNat h1 h2
 go_enter Try.func126,Try.ntmps126
 go_wp2
 go_ret
 exact ⟨Z3g (by rw [Z9L hd.1 hd.2];rfl),rfl⟩
theorem Za4 (s n:Int) (w:World) (h1:0 ≤ s) (h2:s < 65536) (h3:0 ≤ n) (h4:n < 16) :
  Calls Try.prog 121 #[.int .u16 s,.int .i64 n] w fun e w'=>e = .returned (.int .u16 ((s.toNat ||| 2 ^ n.toNat:Nat):Int)) ∧ w = w':=by
 have hm:min n.toNat 16 = n.toNat:=by omega
 have hp:=Z6b n.toNat (by omega)
 have hq:=Z5q n.toNat
 go_enter Try.func121,Try.ntmps121
 go_wp2
 go_ret
 refine ⟨ZM ?_,rfl⟩
 obtain ⟨s,rfl⟩:=Int.eq_ofNat_of_zero_le h1
 have e:(2:Int) ^ n.toNat = ((2 ^ n.toNat:Nat):Int):=by simp
 rw [e] at hp ⊢
 rw [Int.toNat_natCast]
 exact (bits_nat .u16 16 (by decide) Z6o s (2 ^ n.toNat) (by omega) (by omega)).2
theorem Za6 (n:Int) (w:World) (h3:0 ≤ n) (h4:n < 16) :
  Calls Try.prog 109 #[.int .i64 n] w fun e w'=>e = .returned (.int .u16 (2 ^ n.toNat - 1)) ∧ w = w':=by
 have hm:min n.toNat 16 = n.toNat:=by omega
 have hp:=Z6b n.toNat (by omega)
 have hq:=Z5q n.toNat
 go_enter Try.func109,Try.ntmps109
 go_wp2
 go_ret
 exact ⟨rfl,rfl⟩
theorem Z2J {P:Program} {w:World} {d len n:Nat} {t elem:TypeId} {xs ys:Array Value} (ht:P.underlying t = some (.array len elem)) (hn:(P.info? elem).map (·.size) = some n) (e:Nat → Bool)
  (hx:∀ i,i < len → ∃ x y,(part elem xs (i * n)).run P w = .ok x w ∧ (part elem ys (i * n)).run P w = .ok y w ∧ (Op.equalIn d elem x y).run P w = .ok (e i) w) :
  (Op.equalIn (d + 1) t (.agg xs) (.agg ys)).run P w = .ok ((List.range len).all e) w:=by
 have hz:(sizeOf elem).run P w = .ok n w:=by
  cases hq:P.info? elem with
  | none=>simp [hq] at hn
  | some j =>
   have hs:j.size = n:=by simpa [hq] using hn
   simp [sizeOf,typeInfo,hq,hs]
 have hL:∀ i ∈ List.range' 0 len 1,i < len:=by simp
 have hall:(List.range len).all e = (List.range' 0 len 1).all e:=by rw [List.range_eq_range']
 rw [hall]
 simp only [Op.equalIn,Sem.run_bind,run_underlying ht,Result.andThen_ok,hz,Std.Legacy.Range.forIn_eq_forIn_range',Std.Legacy.Range.size,Nat.sub_zero,Nat.add_sub_cancel,Nat.div_one]
 generalize List.range' 0 len 1 = L at hL ⊢
 induction L with
 | nil=>simp
 | cons i L ih =>
  obtain ⟨x,y,h1,h2,h3⟩:=hx i (hL i (by simp))
  have ih':=ih (fun j hj=>hL j (by simp [hj]))
  simp only [List.forIn_cons,Sem.run_bind,h1,h2,h3,Result.andThen_ok,List.all_cons]
  cases he:e i with
  | false=>simp
  | true =>
   simp only [Bool.true_and]
   simpa using ih'
def eqM (m m':Nat → Nat → Int):Bool:=(List.range 13).all fun i=>(List.range 13).all fun j=>m i j == m' i j
theorem Z91 {m m':Nat → Nat → Int}:eqM m m' = true ↔ ∀ i j,i < 13 → j < 13 → m i j = m' i j:=by
 simp only [eqM,List.all_eq_true,List.mem_range,beq_iff_eq]
 exact ⟨fun h i j hi hj=>h i hi j hj,fun h i hi j hj=>h i j hi hj⟩
theorem Z49 (m:Nat → Nat → Int) (i j:Nat) (hi:i < 13) (hj:j < 13):((ZD m).extract (i * 13) (i * 13 + 13))[j * 1]? = some (.int .i64 (m i j)):=by
 have:=Z2u m i j hi hj
 have hs:=Zj m
 rw [Nat.mul_one,Array.getElem?_extract,if_pos (by rw [hs];omega),this]
theorem Z9y {ρ:Operand → Value} {o:Oper} {w:World} {x y:Operand} {t':TypeId} {m m':Nat → Nat → Int} (ho:o.op = .binOp .neq 105 x y t') (hx:ρ x = .agg (ZD m)) (hy:ρ y = .agg (ZD m')) :
  (execOp ρ o).run Try.prog w = .ok (.value (.bool (!eqM m m'))) w:=by
 have hrow:∀ i,i < 13 → (Op.equalIn 9999 103 (.agg ((ZD m).extract (i * 13) (i * 13 + 13))) (.agg ((ZD m').extract (i * 13) (i * 13 + 13)))).run Try.prog w = .ok ((List.range 13).all fun j=>m i j == m' i j) w:=by
  intro i hi
  refine Z2J (n:=1) Try.underlying103 (by kernel_rfl) _ fun j hj=>?_
  refine ⟨.int .i64 (m i j),.int .i64 (m' i j),?_,?_,run_equalIn_int w _ _ .i64 .i64 _ _ Try.underlying3⟩
  ·simp only [part,isAgg,Sem.run_bind,run_underlying Try.underlying3,Result.andThen_ok,Sem.run_pure,Z49 m i j hi hj]
   rfl
  ·simp only [part,isAgg,Sem.run_bind,run_underlying Try.underlying3,Result.andThen_ok,Sem.run_pure,Z49 m' i j hi hj]
   rfl
 have hz:(sizeOf 103).run Try.prog w = .ok 13 w:=by
  have h:(Try.prog.info? 103).map (·.size) = some 13:=by kernel_rfl
  cases hq:Try.prog.info? 103 with
  | none=>simp [hq] at h
  | some j =>
   have hs:j.size = 13:=by simpa [hq] using h
   simp [sizeOf,typeInfo,hq,hs]
 have hall:(Op.equalIn 10000 105 (.agg (ZD m)) (.agg (ZD m'))).run Try.prog w = .ok (eqM m m') w:=by
  refine Z2J (n:=13) Try.underlying105 (by kernel_rfl) _ fun i hi=>?_
  refine ⟨_,_,?_,?_,hrow i hi⟩
  ·simp only [part,isAgg,Sem.run_bind,run_underlying Try.underlying103,Result.andThen_ok,Sem.run_pure,if_true,hz]
  ·simp only [part,isAgg,Sem.run_bind,run_underlying Try.underlying103,Result.andThen_ok,Sem.run_pure,if_true,hz]
 have hg:Try.prog.eqGuardType Try.prog.depth 105 = false:=by kernel_rfl
 unfold execOp
 simp only [ho,hx,hy,Sem.run_bind,run_eqGuard_agg w .neq 105 x y (ZD m) (ZD m') hg,Result.andThen_ok,run_neq_struct,hall,Sem.run_pure]
theorem Z6g {ρ:Operand → Value} {o:Oper} {w:World} {x y:Operand} {t':TypeId} {m m':Nat → Nat → Int} {b:Bool} (ho:o.op = .binOp .neq 105 x y t') (hx:ρ x = .agg (ZD m)) (hy:ρ y = .agg (ZD m')) (hb:(!eqM m m') = b) :
  (execOp ρ o).run Try.prog w = .ok (.value (.bool b)) w:=by
 rw [← hb];exact Z9y ho hx hy
def Z2f (m:Nat → Nat → Int) (k i j:Nat):Nat → Nat → Int:=upd m i j (min (m i j) (m i k + m k j))
def Z1w (m:Nat → Nat → Int) (k i:Nat):Nat → Nat → Nat → Int
 | 0=>m
 | j + 1=>Z2f (Z1w m k i j) k i j
def iTo (m:Nat → Nat → Int) (k:Nat):Nat → Option (Nat → Nat → Int)
 | 0=>some m
 | i + 1=>match iTo m k i with
  | none=>none
  | some m'=>if Z1w m' k i 13 i i < 0 then none else some (Z1w m' k i 13)
def kTo (m:Nat → Nat → Int):Nat → Option (Nat → Nat → Int)
 | 0=>some m
 | k + 1=>match kTo m k with
  | none=>none
  | some m'=>iTo m' k 13
def Z4W (m:Nat → Nat → Int):Prop:=∀ k i j,k < 13 → i < 13 → j < 13 → ∀ m1,kTo m k = some m1 → ∀ m2,iTo m1 k i = some m2 →
 -9223372036854775808 ≤ Z1w m2 k i j i k + Z1w m2 k i j k j ∧ Z1w m2 k i j i k + Z1w m2 k i j k j ≤ 9223372036854775807
structure Tp where
 S:Int
 A:Int
 T:Int
 bl:Int
 bm:Int
 pl:Int
 pm:Int
 sl:Int
 gr:List (Int × Int)
 rd:List (Int × Int × Int × Int)
 lk:List (Int × Int × Int × Int × Int × Int)
def Z0E (w:World) (v:Value) (sz:Nat) (xs:List (List Value)):Prop:=
 ∃ a cap,v = .slice a xs.length cap ∧ (∀ x ∈ xs,x.length = sz) ∧ (xs ≠ [] → ∃ b off,a = some ⟨b,off,none⟩ ∧ b < w.heap.size ∧ ∀ i j x,xs[i]? = some x → j < sz → w.cell? ⟨b,off + i * sz + j,none⟩ = x[j]?)
theorem Z0E.ext {X:List Nat} {w w':World} {v:Value} {sz:Nat} {xs:List (List Value)} (h:Z0E w v sz xs) (e:Ext X w w') (hx:∀ b ∈ X,w.heap.size ≤ b):Z0E w' v sz xs:=by
 obtain ⟨a,cap,hv,hl,hc⟩:=h
 refine ⟨a,cap,hv,hl,fun hne=>?_⟩
 obtain ⟨b,off,ha,hb,hcell⟩:=hc hne
 refine ⟨b,off,ha,Nat.lt_of_lt_of_le hb e.size,fun i j x hi hj=>?_⟩
 rw [e.cell (a:=⟨b,off + i * sz + j,none⟩) hb (fun hm=>by have:=hx b hm;omega)]
 exact hcell i j x hi hj
theorem Z0E.range {w:World} {v:Value} {sz:Nat} {xs:List (List Value)} (h:Z0E w v sz xs) {a:Option Addr} {n cap:Nat} (hv:v = .slice a n cap) (hne:xs ≠ []) :
  ∃ b off,a = some ⟨b,off,none⟩ ∧ b < w.heap.size ∧ ∀ i x,xs[i]? = some x → w.rangeAt b (off + i * sz) x:=by
 obtain ⟨a',cap',hv',hl,hc⟩:=h
 rw [hv'] at hv
 cases hv
 obtain ⟨b,off,ha,hb,hcell⟩:=hc hne
 refine ⟨b,off,ha,hb,fun i x hi j u hu=>?_⟩
 have hj:j < sz:=by
  have hx:=hl x (List.mem_of_getElem? hi)
  rw [← hx]
  exact (List.getElem?_eq_some_iff.1 hu).1
 rw [hcell i j x hi hj];exact hu
def Z0K (g:Int × Int):List Value:=[.int .i64 g.1,.int .i64 g.2]
def Z0B (r:Int × Int × Int × Int):List Value:=[.int .i64 r.1,.int .i64 r.2.1,.int .i64 r.2.2.1,.int .i64 r.2.2.2]
def Z0L (l:Int × Int × Int × Int × Int × Int):List Value:=[.int .i64 l.1,.int .i64 l.2.1,.int .i64 l.2.2.1,.int .i64 l.2.2.2.1,.int .i64 l.2.2.2.2.1,.int .i64 l.2.2.2.2.2]
def tpV (t:Tp) (gv rv lv:Value):Value:=.agg #[.int .i64 t.S,.int .i64 t.A,.int .i64 t.T,.int .i64 t.bl,.int .i64 t.bm,.int .i64 t.pl,.int .i64 t.pm,.int .i64 t.sl,gv,rv,lv]
structure IsTp (w:World) (gv rv lv:Value) (t:Tp):Prop where
 gr:Z0E w gv 2 (t.gr.map Z0K)
 rd:Z0E w rv 4 (t.rd.map Z0B)
 lk:Z0E w lv 6 (t.lk.map Z0L)
theorem IsTp.ext {X:List Nat} {w w':World} {gv rv lv:Value} {t:Tp} (h:IsTp w gv rv lv t) (e:Ext X w w') (hx:∀ b ∈ X,w.heap.size ≤ b):IsTp w' gv rv lv t:=
 ⟨h.gr.ext e hx,h.rd.ext e hx,h.lk.ext e hx⟩
structure Tp.Ok (t:Tp):Prop where
 S1:1 ≤ t.S
 S3:t.S ≤ 3
 A1:1 ≤ t.A
 A3:t.A ≤ 3
 T1:1 ≤ t.T
 T3:t.T ≤ 3
 bl1:20 ≤ t.bl
 bm1:t.bm ≤ 200
 b:t.bl ≤ t.bm
 pl1:-9 ≤ t.pl
 pm1:t.pm ≤ 9
 p:t.pl ≤ t.pm
 sl0:0 ≤ t.sl
 sl5:t.sl ≤ 5
 grl:(t.gr.length:Int) = t.S
 gr:∀ g ∈ t.gr,-20 ≤ g.1 ∧ g.2 ≤ 20 ∧ g.1 ≤ g.2
 rdl:t.rd.length ≤ 9
 rd:∀ r ∈ t.rd,0 ≤ r.1 ∧ r.1 < t.S ∧ 0 ≤ r.2.1 ∧ r.2.1 < t.A ∧ 0 ≤ r.2.2.1 ∧ r.2.2.1 < t.T ∧ 0 ≤ r.2.2.2 ∧ r.2.2.2 ≤ 250
 lkl:t.lk.length ≤ 3
 lk:∀ l ∈ t.lk,0 ≤ l.1 ∧ l.1 < t.S ∧ 0 ≤ l.2.1 ∧ l.2.1 < t.A ∧ 0 ≤ l.2.2.1 ∧ l.2.2.1 < t.S ∧ 0 ≤ l.2.2.2.1 ∧ l.2.2.2.1 < t.A ∧ ¬ (l.1 = l.2.2.1 ∧ l.2.1 = l.2.2.2.1) ∧ -200 ≤ l.2.2.2.2.1 ∧ l.2.2.2.2.2 ≤ 200 ∧ l.2.2.2.2.1 ≤ l.2.2.2.2.2
def ZO (s a:Int):Nat:=(1 + s * 3 + a).toNat
def Z0q (t:Int):Nat:=(10 + t).toNat
def farM:Nat → Nat → Int:=fun i k=>if i = k then 0 else 1048576
def Z29 (t:Tp) (m:Nat → Nat → Int) (s:Nat):Nat → Nat → Nat → Int
 | 0=>m
 | a + 1 =>
  if (0:Int) < (a:Int) then Z0A (Z0A (Z29 t m s a) 0 (ZO s a) t.bl t.bm) (ZO s (a - 1)) (ZO s a) ((t.gr.getD s (0,0)).1) ((t.gr.getD s (0,0)).2)
  else Z0A (Z29 t m s a) 0 (ZO s a) t.bl t.bm
def Z1F (t:Tp) (m:Nat → Nat → Int):Nat → Nat → Nat → Int
 | 0=>m
 | s + 1=>Z29 t (Z1F t m s) s t.A.toNat
def Z28 (t:Tp) (m:Nat → Nat → Int):Nat → Nat → Nat → Int
 | 0=>m
 | i + 1=>Z0A (Z28 t m i) 0 (Z0q i) (-t.pm) (-t.pl)
def Z1P (t:Tp) (out:Int) (m:Nat → Nat → Int):Nat → Nat → Nat → Int
 | 0=>m
 | i + 1 =>
  if hasB out i then Z1P t out m i
  else Z0A (Z1P t out m i) (Z0q (t.rd.getD i (0,0,0,0)).2.2.1) (ZO (t.rd.getD i (0,0,0,0)).1 (t.rd.getD i (0,0,0,0)).2.1) ((t.rd.getD i (0,0,0,0)).2.2.2 - t.sl) ((t.rd.getD i (0,0,0,0)).2.2.2 + t.sl)
def Z3J (t:Tp) (m:Nat → Nat → Int):Nat → Nat → Nat → Int
 | 0=>m
 | i + 1=>Z0A (Z3J t m i) (ZO (t.lk.getD i (0,0,0,0,0,0)).2.2.1 (t.lk.getD i (0,0,0,0,0,0)).2.2.2.1) (ZO (t.lk.getD i (0,0,0,0,0,0)).1 (t.lk.getD i (0,0,0,0,0,0)).2.1) (t.lk.getD i (0,0,0,0,0,0)).2.2.2.2.1 (t.lk.getD i (0,0,0,0,0,0)).2.2.2.2.2
def Z0D (t:Tp) (out:Int):Nat → Nat → Int:=
 Z3J t (Z1P t out (Z28 t (Z1F t farM t.S.toNat) t.T.toNat) t.rd.length) t.lk.length
theorem Z8Q:Try.zeroCells105 = ZD fun _ _=>0:=by
 unfold ZD
 kernel_rfl
theorem Zw {w w2:World} {o:Obj} {b:Nat} (e:w2 = w.alloc o) (h:b = w.heap.size):w2.heap[b]? = some o:=by rw [e];exact Z0V h
theorem Zr {w w2:World} {cs:Array Value} {T:TypeId} {b:Nat} (e:w2 = w.alloc (.cells (Value.agg cs).cells T)) (h:b = w.heap.size):w2.heap[b]? = some (.cells cs T (0,0)):=by rw [e];exact Z0V h
theorem Z4v {w w2:World} {v:Value} {T:TypeId} {b:Nat} (e:w2 = w.alloc (.cells v.cells T)) (h1:v.oneCell' = true) (h:b = w.heap.size):w2.heap[b]? = some (.cells #[v] T (0,0)):=by rw [e,Z60 h1];exact Z0V h
theorem get0 {a:Value} {l:List Value}:(a :: l).toArray[0]? = some a:=by simp
theorem getS {a v:Value} {l:List Value} {k:Nat} (h:l.toArray[k]? = some v):(a :: l).toArray[k + 1]? = some v:=by simpa using h
theorem mid0 {C:Array Value} {o:Nat}:∀ j,j < 0 → C[o + j]? = ([]:List Value)[j]?:=fun j h=>absurd h (by omega)
theorem midS {C:Array Value} {o n:Nat} {x:Value} {cs:List Value} (h:C[o]? = some x) (k:∀ j,j < n → C[o + 1 + j]? = cs[j]?):∀ j,j < n + 1 → C[o + j]? = (x :: cs)[j]?:=fun j hj=>by
 cases j with
 | zero=>simpa using h
 | succ j=>have:=k j (by omega);rw [show o + (j + 1) = o + 1 + j by omega,this];simp
theorem Z1 {w w2:World} {o o':Obj} {b:Nat} (e:w2 = w.alloc o) (h:w.heap[b]? = some o'):w2.heap[b]? = some o':=by rw [e];exact Z1k h
theorem Z2 {X:List Nat} {a w w2:World} {o:Obj} (h:Ext X a w) (e:w2 = w.alloc o):Ext X a w2:=by rw [e];exact h.alloc o
theorem Z5 {w w2:World} {b c:Nat} {o:Nat} {l:List Value} {x:Obj} (e:w2 = w.setCells c o l) (h:w.heap[b]? = some x) (hb:b ≠ c):w2.heap[b]? = some x:=by
 rw [e,Z1b _ _ _ _ _ hb,h]
theorem Zz {w w2:World} {b:Nat} {T:TypeId} {cs old:Array Value} (e:w2 = w.setCells b 0 cs.toList) (h:w.heap[b]? = some (.cells old T (0,0))) (hs:old.size = cs.size):w2.heap[b]? = some (.cells cs T (0,0)):=by
 rw [e];exact Z1e h hs
theorem Za {X:List Nat} {a w w2:World} {c:Nat} {o:Nat} {l:List Value} (h:Ext X a w) (e:w2 = w.setCells c o l) (hp:c < a.heap.size → c ∈ X):Ext X a w2:=by rw [e];exact h.setCells hp _ _
theorem ZA {w w2:World} {b c o:Nat} {v:Value} {x:Obj} (e:w2 = w.setCell ⟨c,o,none⟩ v) (h:w.heap[b]? = some x) (hb:b ≠ c):w2.heap[b]? = some x:=Z5u e h hb
theorem ZK {w w2:World} {b o:Nat} {T:TypeId} {cs cs':Array Value} {v:Value} (e:w2 = w.setCell ⟨b,o,none⟩ v) (h:w.heap[b]? = some (.cells cs T (0,0))) (hc:cs.setIfInBounds o v = cs'):w2.heap[b]? = some (.cells cs' T (0,0)):=by
 subst hc
 rw [e]
 have:=Z7 h
 simp [World.setCell,Array.getElem?_modify,h]
theorem ZF {X:List Nat} {a w w2:World} {c o:Nat} {v:Value} (h:Ext X a w) (e:w2 = w.setCell ⟨c,o,none⟩ v) (hp:c < a.heap.size → c ∈ X):Ext X a w2:=by rw [e];exact h.setCell hp _
theorem Z4 {X:List Nat} {a w w2:World} (h:Ext X a w) (e:Ext [] w w2):Ext X a w2:=h.nil e
theorem Z0I {w:World} {b off n:Nat} {cs:List Value} {C:Array Value} {T:TypeId} {fz:Nat × Nat} (H:w.heap[b]? = some (.cells C T fz)) (hn:cs.length = n) (h:∀ j,j < n → C[off + j]? = cs[j]?):w.rangeAt b off cs:=fun j v hv=>by
 rw [Z0 H,h j (by have:=(List.getElem?_eq_some_iff.1 hv).1;omega),hv]
section
variable {P:Program} {ρ:Operand → Value} {o:Oper} {w:World}
theorem Zt {x:Operand} {t:TypeId} {b:Nat} {cs:Array Value} {T:TypeId} {fz:Nat × Nat} {d:TypeDesc} (ho:o.op = .load t x) (hx:ρ x = .pointer (some ⟨b,0,none⟩)) (hd:P.underlying t = some d) (ha:d.isRow = true) (hi:(P.info? t).map (·.size) = some cs.size) (H:w.heap[b]? = some (.cells cs T fz)) :
  (execOp ρ o).run P w = .ok (.value (.agg cs)) w:=by
 have:=ZP (w:=w) (cs:=cs.toList) ho hx hd ha (by simpa using hi) (Z3t (T:=T) (fz:=fz) (by simpa using H))
 simpa using this
theorem Z9 {x:Operand} {t:TypeId} {f b off sz n:Nat} {fs:Array Go.Field} {fd:Go.Field} (ho:o.op = .fieldAddr t x f) (hx:ρ x = .pointer (some ⟨b,off,none⟩)) (hu:P.underlying t = some (.struct fs)) (hf:fs[f]? = some fd) (hn:off + fd.offset = n) (hs:(P.info? fd.type).map (·.size) = some sz) (h0:sz ≠ 0) :
  (execOp ρ o).run P w = .ok (.value (.pointer (some ⟨b,n,none⟩))) w:=by
 subst hn
 exact Z06 ho hx hu hf rfl hs h0
theorem Zm {x:Operand} {k:Nat} {vs:Array Value} {v:Value} (ho:o.op = .extract x k) (hx:ρ x = .tuple vs) (hv:vs[k]? = some v):(execOp ρ o).run P w = .ok (.value v) w:=by
 unfold execOp
 simp [ho,hx,Instr.extract,hv,Sem.run,go_sem]
theorem Zak {c x y:Operand} {b:Bool} {v:Value} (ho:o.op = .pick c x y) (hc:ρ c = .bool b) (hv:(if b then ρ x else ρ y) = v):(execOp ρ o).run P w = .ok (.value v) w:=by
 unfold execOp
 cases b <;> simp_all [go_sem,asBool]
theorem ZZ {t:TypeId} {parts:Array (Nat × Operand)} {cells:Array Value} (ho:o.op = .build t parts) (h:P.built t (parts.map fun (i,x)=>(i,ρ x)).toList = some cells):(execOp ρ o).run P w = .ok (.value (.agg cells)) w:=by
 unfold execOp
 simp [ho,run_build w t _ cells h]
theorem Z9V {x y:Operand} {t t':TypeId} {k:IntKind} {n m:Int} (ho:o.op = .binOp .andNot t x y t') (hx:ρ x = .int k n) (hy:ρ y = .int k m):(execOp ρ o).run P w = .ok (.value (.int k (bits .andNot k n m))) w:=by
 unfold execOp
 simp [ho,hx,hy,binOp,Op.intBits,go_sem]
 rfl
theorem Z3k {fn:Fn} {first cap:Array Operand} {us vs:Array Value} (ho:o.op = .makeFunc fn first cap) (h1:first.map ρ = us) (h2:cap.map ρ = vs):(execOp ρ o).run P w = .ok (.value (.func fn us vs)) w:=by
 subst h1 h2
 unfold execOp
 simp [ho,Instr.makeFunc,go_sem]
theorem ZE {t e:TypeId} {n size:Nat} {parts:Array (Nat × Operand)} {z:Value} {cells:Array Value} (ho:o.op = .buildSlice t n parts) (hu:P.underlying t = some (.slice e)) (hs:(P.info? e).map (·.size) = some size) (hn:n * size ≤ 2 ^ 24) (hn0:n * size ≠ 0) (hz:∀ w,(zeroValue e).run P w = .ok z w)
  (hf:Instr.fill (fun i=>some (i * size,size)) ((Array.range (n * size)).map (z.cells[· % z.cells.size]!)) (parts.map fun (i,x)=>(i,ρ x)).toList = some cells) :
  (execOp ρ o).run P w = .ok (.value (.slice (some ⟨w.heap.size,0,none⟩) n n)) (w.alloc (.cells cells e)):=by
 unfold execOp
 cases hq:P.info? e with
 | none=>simp [hq] at hs
 | some i =>
  have hs':i.size = size:=by simpa [hq] using hs
  subst hs'
  have hn':¬ (2 ^ 24 < n * i.size):=by omega
  simp [Value.cells] at hf
  simp [ho,Instr.buildSlice,run_underlying hu,sizeOf,typeInfo,hq,hn',hn0,hz,newRow,newObj,go_sem,hf]
  rfl
theorem ZaX {x ix:Operand} {t e:TypeId} {k:IntKind} {i:Int} {n:Nat} {cs:Array Value} {v:Value} (ho:o.op = .index t x ix) (hx:ρ x = .agg cs) (hi:ρ ix = .int k i) (hu:P.underlying t = some (.array n e)) (hs:(P.info? e).map (·.size) = some 1) {d:TypeDesc} (hd:P.underlying e = some d) (ha:d.isRow = false) (h0:0 ≤ i) (h1:i < n) (hv:cs[i.toNat]? = some v) :
  (execOp ρ o).run P w = .ok (.value v) w:=by
 unfold execOp
 cases hq:P.info? e with
 | none=>simp [hq] at hs
 | some j =>
  have hs':j.size = 1:=by simpa [hq] using hs
  cases d <;> first | (simp [TypeDesc.isRow] at ha;done) | simp [ho,hx,hi,Instr.index,asIntOf,run_underlying hu,sizeOf,typeInfo,hq,hs',h0,h1,part,isAgg,run_underlying hd,hv,go_sem]
end
section
variable {P:Program} {ops:Array Oper} {Q:Exit → Act → World → Prop} {md:Region.Mode} {S:World → Prop}
theorem Zf {i d:Nat} {oi:Oper} {v:Value} {fuel:Nat} {listed:Array Bool} {l l':List Value} {ds:List Deferred} {w:World} (hi:ops[i]? = some oi)
  (hs:Region.noSelect ops = true) (hf:Region.free md ops listed i = true) (hr:(Region.ready md ops listed).contains i = true)
  (hQ:∀ c a w,Q (.panic c) (a.put oi.dst v) w → Q (.panic c) a w) (hd:oi.dst = some d) (hw:Region.wanted oi (yielded ops l.toArray) = true) (hrun:∀ w,S w → (execOp (Act.eval ⟨l.toArray,ds⟩) oi).run P w = .ok (.value v) w) (hS:S w) (hl:l.set d v = l')
  (h:wpAnyH P md ops Q S fuel (listed.setIfInBounds i true) ⟨l'.toArray,ds⟩ w):wpAnyH P md ops Q S (fuel + 1) listed ⟨l.toArray,ds⟩ w:=
 wpAnyH_take hi hs hf hr hQ (.inl ⟨hw,hrun⟩) hS (by rw [Z1T _ hd,hl];exact h)
theorem Z4k {i d:Nat} {o:Oper} {v:Value} {fuel:Nat} {listed:Array Bool} {l l':List Value} {ds:List Deferred} {w w':World} (hi:ops[i]? = some o) (hr:Region.ready md ops listed = [i])
  (hd:o.dst = some d) (hw:Region.wanted o (yielded ops l.toArray) = true) (hrun:(execOp (Act.eval ⟨l.toArray,ds⟩) o).run P w = .ok (.value v) w') (hl:l.set d v = l')
  (h:∀ W2,W2 = w' → S W2 ∧ wpAnyH P md ops Q S fuel (listed.setIfInBounds i true) ⟨l'.toArray,ds⟩ W2):wpAnyH P md ops Q S (fuel + 1) listed ⟨l.toArray,ds⟩ w:=
 Z7Y hi hr hw hrun (h _ rfl).1 (by rw [Z1T _ hd,hl];exact (h _ rfl).2)
theorem Z5s {i:Nat} {o:Oper} {fuel:Nat} {listed:Array Bool} {l:List Value} {ds:List Deferred} {w w':World} (hi:ops[i]? = some o) (hr:Region.ready md ops listed = [i])
  (hd:o.dst = none) (hw:Region.wanted o (yielded ops l.toArray) = true) (hrun:(execOp (Act.eval ⟨l.toArray,ds⟩) o).run P w = .ok .skip w')
  (h:∀ W2,W2 = w' → S W2 ∧ wpAnyH P md ops Q S fuel (listed.setIfInBounds i true) ⟨l.toArray,ds⟩ W2):wpAnyH P md ops Q S (fuel + 1) listed ⟨l.toArray,ds⟩ w:=by
 refine Z4M hi hr hw hrun (h _ rfl).1 ?_
 rw [hd]
 exact (h _ rfl).2
theorem Z0k {i d:Nat} {o:Oper} {f:FuncId} {args:Array Value} {R:Ending → World → Prop} {fuel:Nat} {listed:Array Bool} {l:List Value} {ds:List Deferred} {w:World} (hi:ops[i]? = some o) (hr:Region.ready md ops listed = [i])
  (hd:o.dst = some d) (hw:Region.wanted o (yielded ops l.toArray) = true) (hrun:(execOp (Act.eval ⟨l.toArray,ds⟩) o).run P w = .ok (.enter f args) w) (hc:Calls P f args w R)
  (h:∀ e w',R e w' → ∃ v l',e = .returned v ∧ l.set d v = l' ∧ S w' ∧ wpAnyH P md ops Q S fuel (listed.setIfInBounds i true) ⟨l'.toArray,ds⟩ w'):wpAnyH P md ops Q S (fuel + 1) listed ⟨l.toArray,ds⟩ w:=by
 refine Z3z hi hr hw hrun hc fun e w' hR=>?_
 obtain ⟨v,l',h1,h2,h3,h4⟩:=h e w' hR
 exact ⟨v,h1,h3,by rw [Z1T _ hd,h2];exact h4⟩
theorem Z11 {l:List Oper} {L:List Value} {ds:List Deferred} {id:Nat} {w:World} (S:World → Prop) (hm:P.follows .mixedOrders = true)
  (h:∀ W:World,W.heap = w.heap → Ext [] w W → wpAnyH P .any l.toArray Q S l.toArray.size (Array.replicate l.toArray.size false) ⟨L.toArray,ds⟩ W):(Code.region id l.toArray true).wp P Q ⟨L.toArray,ds⟩ w:=
 Z4b S hm h
end
end Go.Proofs.Ytholfdgebdlgjaa
