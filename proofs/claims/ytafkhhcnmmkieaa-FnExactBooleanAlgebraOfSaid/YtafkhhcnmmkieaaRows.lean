/-
  No cell of these rows narrows 'for every input' (looked for: loops, veiled, ifaces, maps, wideKeys, modest, calm, conditions, laid).
  DERIVED. THE GIVEN ROWS OF THIS SEAT. 12 by the template 'for every input the law returns true; each argument reads behind the call as it read before'; 0 by the template 'total and deterministic' (their statements: YtafkhhcnmmkieaaTotals.lean).
  GIVEN WITH THE SEED: the statements are not yours to turn. If you find one false, say at which input.
  Laid BY PROGRAM, IN A SANDBOX (cutbox-rows.mjs): the forced cells as the released guide's own fill.sh prints them over the translation 4e328e3bd4332627… (all of the seat's roots in one cut). By AI agents, Wed Nov 11 2026. No macro, syntax, notation, axiom, sorry.
-/
import Derived.Test.YtafkhhcnmmkieaaChecked
import GoSem.Claim
import GoSem.ClaimJoined
import GoSem.ClaimMapViews
import Derived.JoinedTies
import Derived.KernelRfl
namespace Go.Proofs.Ytafkhhcnmmkieaa
/- THE CELL 'sum', in the pinned program and in every row, IS THE sha256 OF THE DUMP (.gsa) THAT YtafkhhcnmmkieaaProg.lean LOADS. Nothing in Lean hashes anything: it is a label: what it is worth is what the hold of that sum in a sandbox is worth. -/
noncomputable def Try.pinned : Pinned := { name := "ytafkhhcnmmkieaa", sum := "4e328e3bd4332627ff219a236f5bef0e03b9b6fcfc5523cf8a1dfb86143e5677", checked := Try.checked }
namespace Rows
def none {H : Type} : Left H := { results := [], args := [] }

/-- 'laws.FnExactCentralElements': WHATEVER THE INPUT: true; the input reads as it did. -/
def fnExactCentralElementsSpec : ChangeSpec := { name := "fnExactCentralElements", fn := fun _ => fun
  | [d] => { results := [.lit (.bool true)], args := [d] }
  | _ => none }
def fnExactCentralElementsRow : OpenClaim := { program := "ytafkhhcnmmkieaa", sum := "4e328e3bd4332627ff219a236f5bef0e03b9b6fcfc5523cf8a1dfb86143e5677", func := "loop.example/g01078/laws.FnExactCentralElements", spec := "fnExactCentralElements", unfollowed := true, recurses := true, apart := false }
def FnExactCentralElementsSaid : Prop := fnExactCentralElementsRow.holds Try.pinned (OpenSpec.ofChange fnExactCentralElementsSpec)

/-- ITS FALSE NEIGHBOUR: 'it returns false'. Refute it at one input. -/
def fnExactCentralElementsWrong : ChangeSpec := { name := "fnExactCentralElements", fn := fun _ => fun
  | [d] => { results := [.lit (.bool false)], args := [d] }
  | _ => none }
def FnExactCentralElementsWrongFalsely : Prop := fnExactCentralElementsRow.holds Try.pinned (OpenSpec.ofChange fnExactCentralElementsWrong)

/-- 'laws.FnExactMaximalChains': WHATEVER THE INPUT: true; the input reads as it did. -/
def fnExactMaximalChainsSpec : ChangeSpec := { name := "fnExactMaximalChains", fn := fun _ => fun
  | [d] => { results := [.lit (.bool true)], args := [d] }
  | _ => none }
def fnExactMaximalChainsRow : OpenClaim := { program := "ytafkhhcnmmkieaa", sum := "4e328e3bd4332627ff219a236f5bef0e03b9b6fcfc5523cf8a1dfb86143e5677", func := "loop.example/g01078/laws.FnExactMaximalChains", spec := "fnExactMaximalChains", unfollowed := true, recurses := true, apart := false }
def FnExactMaximalChainsSaid : Prop := fnExactMaximalChainsRow.holds Try.pinned (OpenSpec.ofChange fnExactMaximalChainsSpec)

/-- ITS FALSE NEIGHBOUR: 'it returns false'. Refute it at one input. -/
def fnExactMaximalChainsWrong : ChangeSpec := { name := "fnExactMaximalChains", fn := fun _ => fun
  | [d] => { results := [.lit (.bool false)], args := [d] }
  | _ => none }
def FnExactMaximalChainsWrongFalsely : Prop := fnExactMaximalChainsRow.holds Try.pinned (OpenSpec.ofChange fnExactMaximalChainsWrong)

/-- 'laws.FnExactEdgesOf': WHATEVER THE INPUT: true; the input reads as it did. -/
def fnExactEdgesOfSpec : ChangeSpec := { name := "fnExactEdgesOf", fn := fun _ => fun
  | [d] => { results := [.lit (.bool true)], args := [d] }
  | _ => none }
def fnExactEdgesOfRow : OpenClaim := { program := "ytafkhhcnmmkieaa", sum := "4e328e3bd4332627ff219a236f5bef0e03b9b6fcfc5523cf8a1dfb86143e5677", func := "loop.example/g01078/laws.FnExactEdgesOf", spec := "fnExactEdgesOf", unfollowed := true, recurses := true, apart := false }
def FnExactEdgesOfSaid : Prop := fnExactEdgesOfRow.holds Try.pinned (OpenSpec.ofChange fnExactEdgesOfSpec)

/-- ITS FALSE NEIGHBOUR: 'it returns false'. Refute it at one input. -/
def fnExactEdgesOfWrong : ChangeSpec := { name := "fnExactEdgesOf", fn := fun _ => fun
  | [d] => { results := [.lit (.bool false)], args := [d] }
  | _ => none }
def FnExactEdgesOfWrongFalsely : Prop := fnExactEdgesOfRow.holds Try.pinned (OpenSpec.ofChange fnExactEdgesOfWrong)

/-- 'laws.FnExactFindDiamond': WHATEVER THE INPUT: true; the input reads as it did. -/
def fnExactFindDiamondSpec : ChangeSpec := { name := "fnExactFindDiamond", fn := fun _ => fun
  | [d] => { results := [.lit (.bool true)], args := [d] }
  | _ => none }
def fnExactFindDiamondRow : OpenClaim := { program := "ytafkhhcnmmkieaa", sum := "4e328e3bd4332627ff219a236f5bef0e03b9b6fcfc5523cf8a1dfb86143e5677", func := "loop.example/g01078/laws.FnExactFindDiamond", spec := "fnExactFindDiamond", unfollowed := true, recurses := true, apart := false }
def FnExactFindDiamondSaid : Prop := fnExactFindDiamondRow.holds Try.pinned (OpenSpec.ofChange fnExactFindDiamondSpec)

/-- ITS FALSE NEIGHBOUR: 'it returns false'. Refute it at one input. -/
def fnExactFindDiamondWrong : ChangeSpec := { name := "fnExactFindDiamond", fn := fun _ => fun
  | [d] => { results := [.lit (.bool false)], args := [d] }
  | _ => none }
def FnExactFindDiamondWrongFalsely : Prop := fnExactFindDiamondRow.holds Try.pinned (OpenSpec.ofChange fnExactFindDiamondWrong)

/-- 'laws.FnExactFindPentagon': WHATEVER THE INPUT: true; the input reads as it did. -/
def fnExactFindPentagonSpec : ChangeSpec := { name := "fnExactFindPentagon", fn := fun _ => fun
  | [d] => { results := [.lit (.bool true)], args := [d] }
  | _ => none }
def fnExactFindPentagonRow : OpenClaim := { program := "ytafkhhcnmmkieaa", sum := "4e328e3bd4332627ff219a236f5bef0e03b9b6fcfc5523cf8a1dfb86143e5677", func := "loop.example/g01078/laws.FnExactFindPentagon", spec := "fnExactFindPentagon", unfollowed := true, recurses := true, apart := false }
def FnExactFindPentagonSaid : Prop := fnExactFindPentagonRow.holds Try.pinned (OpenSpec.ofChange fnExactFindPentagonSpec)

/-- ITS FALSE NEIGHBOUR: 'it returns false'. Refute it at one input. -/
def fnExactFindPentagonWrong : ChangeSpec := { name := "fnExactFindPentagon", fn := fun _ => fun
  | [d] => { results := [.lit (.bool false)], args := [d] }
  | _ => none }
def FnExactFindPentagonWrongFalsely : Prop := fnExactFindPentagonRow.holds Try.pinned (OpenSpec.ofChange fnExactFindPentagonWrong)

/-- 'laws.FnExactComplementList': WHATEVER THE INPUT: true; the input reads as it did. -/
def fnExactComplementListSpec : ChangeSpec := { name := "fnExactComplementList", fn := fun _ => fun
  | [d] => { results := [.lit (.bool true)], args := [d] }
  | _ => none }
def fnExactComplementListRow : OpenClaim := { program := "ytafkhhcnmmkieaa", sum := "4e328e3bd4332627ff219a236f5bef0e03b9b6fcfc5523cf8a1dfb86143e5677", func := "loop.example/g01078/laws.FnExactComplementList", spec := "fnExactComplementList", unfollowed := true, recurses := true, apart := false }
def FnExactComplementListSaid : Prop := fnExactComplementListRow.holds Try.pinned (OpenSpec.ofChange fnExactComplementListSpec)

/-- ITS FALSE NEIGHBOUR: 'it returns false'. Refute it at one input. -/
def fnExactComplementListWrong : ChangeSpec := { name := "fnExactComplementList", fn := fun _ => fun
  | [d] => { results := [.lit (.bool false)], args := [d] }
  | _ => none }
def FnExactComplementListWrongFalsely : Prop := fnExactComplementListRow.holds Try.pinned (OpenSpec.ofChange fnExactComplementListWrong)

/-- 'laws.FnExactCongruenceBelow': WHATEVER THE INPUT: true; the input reads as it did. -/
def fnExactCongruenceBelowSpec : ChangeSpec := { name := "fnExactCongruenceBelow", fn := fun _ => fun
  | [d1, d2] => { results := [.lit (.bool true)], args := [d1, d2] }
  | _ => none }
def fnExactCongruenceBelowRow : OpenClaim := { program := "ytafkhhcnmmkieaa", sum := "4e328e3bd4332627ff219a236f5bef0e03b9b6fcfc5523cf8a1dfb86143e5677", func := "loop.example/g01078/laws.FnExactCongruenceBelow", spec := "fnExactCongruenceBelow", unfollowed := true, recurses := true, apart := false }
def FnExactCongruenceBelowSaid : Prop := fnExactCongruenceBelowRow.holds Try.pinned (OpenSpec.ofChange fnExactCongruenceBelowSpec)

/-- ITS FALSE NEIGHBOUR: 'it returns false'. Refute it at one input. -/
def fnExactCongruenceBelowWrong : ChangeSpec := { name := "fnExactCongruenceBelow", fn := fun _ => fun
  | [d1, d2] => { results := [.lit (.bool false)], args := [d1, d2] }
  | _ => none }
def FnExactCongruenceBelowWrongFalsely : Prop := fnExactCongruenceBelowRow.holds Try.pinned (OpenSpec.ofChange fnExactCongruenceBelowWrong)

/-- 'laws.FnExactIdealOfCongruence': WHATEVER THE INPUT: true; the input reads as it did. -/
def fnExactIdealOfCongruenceSpec : ChangeSpec := { name := "fnExactIdealOfCongruence", fn := fun _ => fun
  | [d1, d2] => { results := [.lit (.bool true)], args := [d1, d2] }
  | _ => none }
def fnExactIdealOfCongruenceRow : OpenClaim := { program := "ytafkhhcnmmkieaa", sum := "4e328e3bd4332627ff219a236f5bef0e03b9b6fcfc5523cf8a1dfb86143e5677", func := "loop.example/g01078/laws.FnExactIdealOfCongruence", spec := "fnExactIdealOfCongruence", unfollowed := true, recurses := true, apart := false }
def FnExactIdealOfCongruenceSaid : Prop := fnExactIdealOfCongruenceRow.holds Try.pinned (OpenSpec.ofChange fnExactIdealOfCongruenceSpec)

/-- ITS FALSE NEIGHBOUR: 'it returns false'. Refute it at one input. -/
def fnExactIdealOfCongruenceWrong : ChangeSpec := { name := "fnExactIdealOfCongruence", fn := fun _ => fun
  | [d1, d2] => { results := [.lit (.bool false)], args := [d1, d2] }
  | _ => none }
def FnExactIdealOfCongruenceWrongFalsely : Prop := fnExactIdealOfCongruenceRow.holds Try.pinned (OpenSpec.ofChange fnExactIdealOfCongruenceWrong)

/-- 'laws.FnExactCodesOf': WHATEVER THE INPUT: true; the input reads as it did. -/
def fnExactCodesOfSpec : ChangeSpec := { name := "fnExactCodesOf", fn := fun _ => fun
  | [d] => { results := [.lit (.bool true)], args := [d] }
  | _ => none }
def fnExactCodesOfRow : OpenClaim := { program := "ytafkhhcnmmkieaa", sum := "4e328e3bd4332627ff219a236f5bef0e03b9b6fcfc5523cf8a1dfb86143e5677", func := "loop.example/g01078/laws.FnExactCodesOf", spec := "fnExactCodesOf", unfollowed := true, recurses := true, apart := false }
def FnExactCodesOfSaid : Prop := fnExactCodesOfRow.holds Try.pinned (OpenSpec.ofChange fnExactCodesOfSpec)

/-- ITS FALSE NEIGHBOUR: 'it returns false'. Refute it at one input. -/
def fnExactCodesOfWrong : ChangeSpec := { name := "fnExactCodesOf", fn := fun _ => fun
  | [d] => { results := [.lit (.bool false)], args := [d] }
  | _ => none }
def FnExactCodesOfWrongFalsely : Prop := fnExactCodesOfRow.holds Try.pinned (OpenSpec.ofChange fnExactCodesOfWrong)

/-- 'laws.FnExactBooleanMapOf': WHATEVER THE INPUT: true; the input reads as it did. -/
def fnExactBooleanMapOfSpec : ChangeSpec := { name := "fnExactBooleanMapOf", fn := fun _ => fun
  | [d1, d2, d3] => { results := [.lit (.bool true)], args := [d1, d2, d3] }
  | _ => none }
def fnExactBooleanMapOfRow : OpenClaim := { program := "ytafkhhcnmmkieaa", sum := "4e328e3bd4332627ff219a236f5bef0e03b9b6fcfc5523cf8a1dfb86143e5677", func := "loop.example/g01078/laws.FnExactBooleanMapOf", spec := "fnExactBooleanMapOf", unfollowed := true, recurses := true, apart := false }
def FnExactBooleanMapOfSaid : Prop := fnExactBooleanMapOfRow.holds Try.pinned (OpenSpec.ofChange fnExactBooleanMapOfSpec)

/-- ITS FALSE NEIGHBOUR: 'it returns false'. Refute it at one input. -/
def fnExactBooleanMapOfWrong : ChangeSpec := { name := "fnExactBooleanMapOf", fn := fun _ => fun
  | [d1, d2, d3] => { results := [.lit (.bool false)], args := [d1, d2, d3] }
  | _ => none }
def FnExactBooleanMapOfWrongFalsely : Prop := fnExactBooleanMapOfRow.holds Try.pinned (OpenSpec.ofChange fnExactBooleanMapOfWrong)

/-- 'laws.FnExactAtomMapOf': WHATEVER THE INPUT: true; the input reads as it did. -/
def fnExactAtomMapOfSpec : ChangeSpec := { name := "fnExactAtomMapOf", fn := fun _ => fun
  | [d1, d2, d3] => { results := [.lit (.bool true)], args := [d1, d2, d3] }
  | _ => none }
def fnExactAtomMapOfRow : OpenClaim := { program := "ytafkhhcnmmkieaa", sum := "4e328e3bd4332627ff219a236f5bef0e03b9b6fcfc5523cf8a1dfb86143e5677", func := "loop.example/g01078/laws.FnExactAtomMapOf", spec := "fnExactAtomMapOf", unfollowed := true, recurses := true, apart := false }
def FnExactAtomMapOfSaid : Prop := fnExactAtomMapOfRow.holds Try.pinned (OpenSpec.ofChange fnExactAtomMapOfSpec)

/-- ITS FALSE NEIGHBOUR: 'it returns false'. Refute it at one input. -/
def fnExactAtomMapOfWrong : ChangeSpec := { name := "fnExactAtomMapOf", fn := fun _ => fun
  | [d1, d2, d3] => { results := [.lit (.bool false)], args := [d1, d2, d3] }
  | _ => none }
def FnExactAtomMapOfWrongFalsely : Prop := fnExactAtomMapOfRow.holds Try.pinned (OpenSpec.ofChange fnExactAtomMapOfWrong)

/-- 'laws.FnExactBooleanAlgebraOf': WHATEVER THE INPUT: true; the input reads as it did. -/
def fnExactBooleanAlgebraOfSpec : ChangeSpec := { name := "fnExactBooleanAlgebraOf", fn := fun _ => fun
  | [d] => { results := [.lit (.bool true)], args := [d] }
  | _ => none }
def fnExactBooleanAlgebraOfRow : OpenClaim := { program := "ytafkhhcnmmkieaa", sum := "4e328e3bd4332627ff219a236f5bef0e03b9b6fcfc5523cf8a1dfb86143e5677", func := "loop.example/g01078/laws.FnExactBooleanAlgebraOf", spec := "fnExactBooleanAlgebraOf", unfollowed := true, recurses := true, apart := false }
def FnExactBooleanAlgebraOfSaid : Prop := fnExactBooleanAlgebraOfRow.holds Try.pinned (OpenSpec.ofChange fnExactBooleanAlgebraOfSpec)

/-- ITS FALSE NEIGHBOUR: 'it returns false'. Refute it at one input. -/
def fnExactBooleanAlgebraOfWrong : ChangeSpec := { name := "fnExactBooleanAlgebraOf", fn := fun _ => fun
  | [d] => { results := [.lit (.bool false)], args := [d] }
  | _ => none }
def FnExactBooleanAlgebraOfWrongFalsely : Prop := fnExactBooleanAlgebraOfRow.holds Try.pinned (OpenSpec.ofChange fnExactBooleanAlgebraOfWrong)

/- THE SECOND FORM. 'bulk': how many values and letters a reading holds, each counted each time it is reached (what is shared counts as often as it is met; a slice's spare places count too). A statement '..UptoSaid' is the law's where the arguments, and the package variables that the reading takes, are together of bulk at most 1048576: NARROWER than '..Said'. Prove '..Said' where nothing that the law and all that it calls make is longer than what came in: it says more and counts as full. Else prove '..UptoSaid'. A law counts once. -/
mutual
def uptoBulk {H : Type} : DataW H → Nat
  | .lit (.string bytes) => bytes.length + 1
  | .lit _ => 1
  | .nil => 1
  | .ptr d => uptoBulk d + 1
  | .slice elems spare => uptoBulkAll elems + uptoBulkAll spare + 1
  | .agg parts => uptoBulkAll parts + 1
  | .iface _ d => uptoBulk d + 1
  | .map entries => uptoBulkEntries entries + 1
  | .held _ => 1
def uptoBulkAll {H : Type} : List (DataW H) → Nat
  | [] => 0
  | d :: r => uptoBulk d + uptoBulkAll r
def uptoBulkEntries {H : Type} : List (Lit × DataW H) → Nat
  | [] => 0
  | x :: r => uptoBulkEntry x + uptoBulkEntries r
def uptoBulkEntry {H : Type} : Lit × DataW H → Nat
  | (.string bytes, d) => bytes.length + uptoBulk d + 1
  | (_, d) => uptoBulk d + 1
 end
def uptoSmall : (H : Type) → List (DataW H) → Bool := fun _ ds => decide (uptoBulkAll ds ≤ 1048576)
def OpenSpec.upto (s : _root_.Go.ChangeSpec) : _root_.Go.OpenSpec := { _root_.Go.OpenSpec.ofChange s with cond := some uptoSmall }

/-- 'laws.FnExactCentralElements', WHERE WHAT IT READS IS OF BULK AT MOST 1048576: true; the input reads as it did. -/
def fnExactCentralElementsUptoRow : OpenClaim := { program := "ytafkhhcnmmkieaa", sum := "4e328e3bd4332627ff219a236f5bef0e03b9b6fcfc5523cf8a1dfb86143e5677", func := "loop.example/g01078/laws.FnExactCentralElements", spec := "fnExactCentralElements", unfollowed := true, recurses := true, apart := false, narrowed := true }
def FnExactCentralElementsUptoSaid : Prop := fnExactCentralElementsUptoRow.holds Try.pinned (OpenSpec.upto fnExactCentralElementsSpec)

/-- 'laws.FnExactMaximalChains', WHERE WHAT IT READS IS OF BULK AT MOST 1048576: true; the input reads as it did. -/
def fnExactMaximalChainsUptoRow : OpenClaim := { program := "ytafkhhcnmmkieaa", sum := "4e328e3bd4332627ff219a236f5bef0e03b9b6fcfc5523cf8a1dfb86143e5677", func := "loop.example/g01078/laws.FnExactMaximalChains", spec := "fnExactMaximalChains", unfollowed := true, recurses := true, apart := false, narrowed := true }
def FnExactMaximalChainsUptoSaid : Prop := fnExactMaximalChainsUptoRow.holds Try.pinned (OpenSpec.upto fnExactMaximalChainsSpec)

/-- 'laws.FnExactEdgesOf', WHERE WHAT IT READS IS OF BULK AT MOST 1048576: true; the input reads as it did. -/
def fnExactEdgesOfUptoRow : OpenClaim := { program := "ytafkhhcnmmkieaa", sum := "4e328e3bd4332627ff219a236f5bef0e03b9b6fcfc5523cf8a1dfb86143e5677", func := "loop.example/g01078/laws.FnExactEdgesOf", spec := "fnExactEdgesOf", unfollowed := true, recurses := true, apart := false, narrowed := true }
def FnExactEdgesOfUptoSaid : Prop := fnExactEdgesOfUptoRow.holds Try.pinned (OpenSpec.upto fnExactEdgesOfSpec)

/-- 'laws.FnExactFindDiamond', WHERE WHAT IT READS IS OF BULK AT MOST 1048576: true; the input reads as it did. -/
def fnExactFindDiamondUptoRow : OpenClaim := { program := "ytafkhhcnmmkieaa", sum := "4e328e3bd4332627ff219a236f5bef0e03b9b6fcfc5523cf8a1dfb86143e5677", func := "loop.example/g01078/laws.FnExactFindDiamond", spec := "fnExactFindDiamond", unfollowed := true, recurses := true, apart := false, narrowed := true }
def FnExactFindDiamondUptoSaid : Prop := fnExactFindDiamondUptoRow.holds Try.pinned (OpenSpec.upto fnExactFindDiamondSpec)

/-- 'laws.FnExactFindPentagon', WHERE WHAT IT READS IS OF BULK AT MOST 1048576: true; the input reads as it did. -/
def fnExactFindPentagonUptoRow : OpenClaim := { program := "ytafkhhcnmmkieaa", sum := "4e328e3bd4332627ff219a236f5bef0e03b9b6fcfc5523cf8a1dfb86143e5677", func := "loop.example/g01078/laws.FnExactFindPentagon", spec := "fnExactFindPentagon", unfollowed := true, recurses := true, apart := false, narrowed := true }
def FnExactFindPentagonUptoSaid : Prop := fnExactFindPentagonUptoRow.holds Try.pinned (OpenSpec.upto fnExactFindPentagonSpec)

/-- 'laws.FnExactComplementList', WHERE WHAT IT READS IS OF BULK AT MOST 1048576: true; the input reads as it did. -/
def fnExactComplementListUptoRow : OpenClaim := { program := "ytafkhhcnmmkieaa", sum := "4e328e3bd4332627ff219a236f5bef0e03b9b6fcfc5523cf8a1dfb86143e5677", func := "loop.example/g01078/laws.FnExactComplementList", spec := "fnExactComplementList", unfollowed := true, recurses := true, apart := false, narrowed := true }
def FnExactComplementListUptoSaid : Prop := fnExactComplementListUptoRow.holds Try.pinned (OpenSpec.upto fnExactComplementListSpec)

/-- 'laws.FnExactCongruenceBelow', WHERE WHAT IT READS IS OF BULK AT MOST 1048576: true; the input reads as it did. -/
def fnExactCongruenceBelowUptoRow : OpenClaim := { program := "ytafkhhcnmmkieaa", sum := "4e328e3bd4332627ff219a236f5bef0e03b9b6fcfc5523cf8a1dfb86143e5677", func := "loop.example/g01078/laws.FnExactCongruenceBelow", spec := "fnExactCongruenceBelow", unfollowed := true, recurses := true, apart := false, narrowed := true }
def FnExactCongruenceBelowUptoSaid : Prop := fnExactCongruenceBelowUptoRow.holds Try.pinned (OpenSpec.upto fnExactCongruenceBelowSpec)

/-- 'laws.FnExactIdealOfCongruence', WHERE WHAT IT READS IS OF BULK AT MOST 1048576: true; the input reads as it did. -/
def fnExactIdealOfCongruenceUptoRow : OpenClaim := { program := "ytafkhhcnmmkieaa", sum := "4e328e3bd4332627ff219a236f5bef0e03b9b6fcfc5523cf8a1dfb86143e5677", func := "loop.example/g01078/laws.FnExactIdealOfCongruence", spec := "fnExactIdealOfCongruence", unfollowed := true, recurses := true, apart := false, narrowed := true }
def FnExactIdealOfCongruenceUptoSaid : Prop := fnExactIdealOfCongruenceUptoRow.holds Try.pinned (OpenSpec.upto fnExactIdealOfCongruenceSpec)

/-- 'laws.FnExactCodesOf', WHERE WHAT IT READS IS OF BULK AT MOST 1048576: true; the input reads as it did. -/
def fnExactCodesOfUptoRow : OpenClaim := { program := "ytafkhhcnmmkieaa", sum := "4e328e3bd4332627ff219a236f5bef0e03b9b6fcfc5523cf8a1dfb86143e5677", func := "loop.example/g01078/laws.FnExactCodesOf", spec := "fnExactCodesOf", unfollowed := true, recurses := true, apart := false, narrowed := true }
def FnExactCodesOfUptoSaid : Prop := fnExactCodesOfUptoRow.holds Try.pinned (OpenSpec.upto fnExactCodesOfSpec)

/-- 'laws.FnExactBooleanMapOf', WHERE WHAT IT READS IS OF BULK AT MOST 1048576: true; the input reads as it did. -/
def fnExactBooleanMapOfUptoRow : OpenClaim := { program := "ytafkhhcnmmkieaa", sum := "4e328e3bd4332627ff219a236f5bef0e03b9b6fcfc5523cf8a1dfb86143e5677", func := "loop.example/g01078/laws.FnExactBooleanMapOf", spec := "fnExactBooleanMapOf", unfollowed := true, recurses := true, apart := false, narrowed := true }
def FnExactBooleanMapOfUptoSaid : Prop := fnExactBooleanMapOfUptoRow.holds Try.pinned (OpenSpec.upto fnExactBooleanMapOfSpec)

/-- 'laws.FnExactAtomMapOf', WHERE WHAT IT READS IS OF BULK AT MOST 1048576: true; the input reads as it did. -/
def fnExactAtomMapOfUptoRow : OpenClaim := { program := "ytafkhhcnmmkieaa", sum := "4e328e3bd4332627ff219a236f5bef0e03b9b6fcfc5523cf8a1dfb86143e5677", func := "loop.example/g01078/laws.FnExactAtomMapOf", spec := "fnExactAtomMapOf", unfollowed := true, recurses := true, apart := false, narrowed := true }
def FnExactAtomMapOfUptoSaid : Prop := fnExactAtomMapOfUptoRow.holds Try.pinned (OpenSpec.upto fnExactAtomMapOfSpec)

/-- 'laws.FnExactBooleanAlgebraOf', WHERE WHAT IT READS IS OF BULK AT MOST 1048576: true; the input reads as it did. -/
def fnExactBooleanAlgebraOfUptoRow : OpenClaim := { program := "ytafkhhcnmmkieaa", sum := "4e328e3bd4332627ff219a236f5bef0e03b9b6fcfc5523cf8a1dfb86143e5677", func := "loop.example/g01078/laws.FnExactBooleanAlgebraOf", spec := "fnExactBooleanAlgebraOf", unfollowed := true, recurses := true, apart := false, narrowed := true }
def FnExactBooleanAlgebraOfUptoSaid : Prop := fnExactBooleanAlgebraOfUptoRow.holds Try.pinned (OpenSpec.upto fnExactBooleanAlgebraOfSpec)

end Rows
end Go.Proofs.Ytafkhhcnmmkieaa
