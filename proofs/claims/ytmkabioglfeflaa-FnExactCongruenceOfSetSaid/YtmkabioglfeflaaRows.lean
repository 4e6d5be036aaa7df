/-
  No cell of these rows narrows 'for every input' (looked for: loops, veiled, ifaces, maps, wideKeys, modest, calm, conditions, laid).
  DERIVED. THE GIVEN ROWS OF THIS SEAT. 6 by the template 'for every input the law returns true; each argument reads behind the call as it read before'; 0 by the template 'total and deterministic' (their statements: YtmkabioglfeflaaTotals.lean).
  GIVEN WITH THE SEED: the statements are not yours to turn. If you find one false, say at which input.
  Laid BY PROGRAM, IN A SANDBOX (cutbox-rows.mjs): the forced cells as the released guide's own fill.sh prints them over the translation 45711be41a8ef034… (all of the seat's roots in one cut). By AI agents, Wed Nov 11 2026. No macro, syntax, notation, axiom, sorry.
-/
import Derived.Test.YtmkabioglfeflaaChecked
import GoSem.Claim
import GoSem.ClaimJoined
import GoSem.ClaimMapViews
import Derived.JoinedTies
import Derived.KernelRfl
namespace Go.Proofs.Ytmkabioglfeflaa
/- THE CELL 'sum', in the pinned program and in every row, IS THE sha256 OF THE DUMP (.gsa) THAT YtmkabioglfeflaaProg.lean LOADS. Nothing in Lean hashes anything: it is a label: what it is worth is what the hold of that sum in a sandbox is worth. -/
noncomputable def Try.pinned : Pinned := { name := "ytmkabioglfeflaa", sum := "45711be41a8ef034c556377870cdea17cf84a011cc3d18626664f7e4b1ef5fc5", checked := Try.checked }
namespace Rows
def none {H : Type} : Left H := { results := [], args := [] }

/-- 'laws.FnExactRingOf': WHATEVER THE INPUT: true; the input reads as it did. -/
def fnExactRingOfSpec : ChangeSpec := { name := "fnExactRingOf", fn := fun _ => fun
  | [d] => { results := [.lit (.bool true)], args := [d] }
  | _ => none }
def fnExactRingOfRow : OpenClaim := { program := "ytmkabioglfeflaa", sum := "45711be41a8ef034c556377870cdea17cf84a011cc3d18626664f7e4b1ef5fc5", func := "loop.example/g01078/laws.FnExactRingOf", spec := "fnExactRingOf", unfollowed := true, recurses := true, apart := false }
def FnExactRingOfSaid : Prop := fnExactRingOfRow.holds Try.pinned (OpenSpec.ofChange fnExactRingOfSpec)

/-- ITS FALSE NEIGHBOUR: 'it returns false'. Refute it at one input. -/
def fnExactRingOfWrong : ChangeSpec := { name := "fnExactRingOf", fn := fun _ => fun
  | [d] => { results := [.lit (.bool false)], args := [d] }
  | _ => none }
def FnExactRingOfWrongFalsely : Prop := fnExactRingOfRow.holds Try.pinned (OpenSpec.ofChange fnExactRingOfWrong)

/-- 'laws.FnExactForces': WHATEVER THE INPUT: true; the input reads as it did. -/
def fnExactForcesSpec : ChangeSpec := { name := "fnExactForces", fn := fun _ => fun
  | [d1, d2, d3] => { results := [.lit (.bool true)], args := [d1, d2, d3] }
  | _ => none }
def fnExactForcesRow : OpenClaim := { program := "ytmkabioglfeflaa", sum := "45711be41a8ef034c556377870cdea17cf84a011cc3d18626664f7e4b1ef5fc5", func := "loop.example/g01078/laws.FnExactForces", spec := "fnExactForces", unfollowed := true, recurses := true, apart := false }
def FnExactForcesSaid : Prop := fnExactForcesRow.holds Try.pinned (OpenSpec.ofChange fnExactForcesSpec)

/-- ITS FALSE NEIGHBOUR: 'it returns false'. Refute it at one input. -/
def fnExactForcesWrong : ChangeSpec := { name := "fnExactForces", fn := fun _ => fun
  | [d1, d2, d3] => { results := [.lit (.bool false)], args := [d1, d2, d3] }
  | _ => none }
def FnExactForcesWrongFalsely : Prop := fnExactForcesRow.holds Try.pinned (OpenSpec.ofChange fnExactForcesWrong)

/-- 'laws.FnExactContractedBy': WHATEVER THE INPUT: true; the input reads as it did. -/
def fnExactContractedBySpec : ChangeSpec := { name := "fnExactContractedBy", fn := fun _ => fun
  | [d1, d2] => { results := [.lit (.bool true)], args := [d1, d2] }
  | _ => none }
def fnExactContractedByRow : OpenClaim := { program := "ytmkabioglfeflaa", sum := "45711be41a8ef034c556377870cdea17cf84a011cc3d18626664f7e4b1ef5fc5", func := "loop.example/g01078/laws.FnExactContractedBy", spec := "fnExactContractedBy", unfollowed := true, recurses := true, apart := false }
def FnExactContractedBySaid : Prop := fnExactContractedByRow.holds Try.pinned (OpenSpec.ofChange fnExactContractedBySpec)

/-- ITS FALSE NEIGHBOUR: 'it returns false'. Refute it at one input. -/
def fnExactContractedByWrong : ChangeSpec := { name := "fnExactContractedBy", fn := fun _ => fun
  | [d1, d2] => { results := [.lit (.bool false)], args := [d1, d2] }
  | _ => none }
def FnExactContractedByWrongFalsely : Prop := fnExactContractedByRow.holds Try.pinned (OpenSpec.ofChange fnExactContractedByWrong)

/-- 'laws.FnExactForcingPairs': WHATEVER THE INPUT: true; the input reads as it did. -/
def fnExactForcingPairsSpec : ChangeSpec := { name := "fnExactForcingPairs", fn := fun _ => fun
  | [d] => { results := [.lit (.bool true)], args := [d] }
  | _ => none }
def fnExactForcingPairsRow : OpenClaim := { program := "ytmkabioglfeflaa", sum := "45711be41a8ef034c556377870cdea17cf84a011cc3d18626664f7e4b1ef5fc5", func := "loop.example/g01078/laws.FnExactForcingPairs", spec := "fnExactForcingPairs", unfollowed := true, recurses := true, apart := false }
def FnExactForcingPairsSaid : Prop := fnExactForcingPairsRow.holds Try.pinned (OpenSpec.ofChange fnExactForcingPairsSpec)

/-- ITS FALSE NEIGHBOUR: 'it returns false'. Refute it at one input. -/
def fnExactForcingPairsWrong : ChangeSpec := { name := "fnExactForcingPairs", fn := fun _ => fun
  | [d] => { results := [.lit (.bool false)], args := [d] }
  | _ => none }
def FnExactForcingPairsWrongFalsely : Prop := fnExactForcingPairsRow.holds Try.pinned (OpenSpec.ofChange fnExactForcingPairsWrong)

/-- 'laws.FnExactQuotientLattice': WHATEVER THE INPUT: true; the input reads as it did. -/
def fnExactQuotientLatticeSpec : ChangeSpec := { name := "fnExactQuotientLattice", fn := fun _ => fun
  | [d1, d2] => { results := [.lit (.bool true)], args := [d1, d2] }
  | _ => none }
def fnExactQuotientLatticeRow : OpenClaim := { program := "ytmkabioglfeflaa", sum := "45711be41a8ef034c556377870cdea17cf84a011cc3d18626664f7e4b1ef5fc5", func := "loop.example/g01078/laws.FnExactQuotientLattice", spec := "fnExactQuotientLattice", unfollowed := true, recurses := true, apart := false }
def FnExactQuotientLatticeSaid : Prop := fnExactQuotientLatticeRow.holds Try.pinned (OpenSpec.ofChange fnExactQuotientLatticeSpec)

/-- ITS FALSE NEIGHBOUR: 'it returns false'. Refute it at one input. -/
def fnExactQuotientLatticeWrong : ChangeSpec := { name := "fnExactQuotientLattice", fn := fun _ => fun
  | [d1, d2] => { results := [.lit (.bool false)], args := [d1, d2] }
  | _ => none }
def FnExactQuotientLatticeWrongFalsely : Prop := fnExactQuotientLatticeRow.holds Try.pinned (OpenSpec.ofChange fnExactQuotientLatticeWrong)

/-- 'laws.FnExactCongruenceOfSet': WHATEVER THE INPUT: true; the input reads as it did. -/
def fnExactCongruenceOfSetSpec : ChangeSpec := { name := "fnExactCongruenceOfSet", fn := fun _ => fun
  | [d1, d2] => { results := [.lit (.bool true)], args := [d1, d2] }
  | _ => none }
def fnExactCongruenceOfSetRow : OpenClaim := { program := "ytmkabioglfeflaa", sum := "45711be41a8ef034c556377870cdea17cf84a011cc3d18626664f7e4b1ef5fc5", func := "loop.example/g01078/laws.FnExactCongruenceOfSet", spec := "fnExactCongruenceOfSet", unfollowed := true, recurses := true, apart := false }
def FnExactCongruenceOfSetSaid : Prop := fnExactCongruenceOfSetRow.holds Try.pinned (OpenSpec.ofChange fnExactCongruenceOfSetSpec)

/-- ITS FALSE NEIGHBOUR: 'it returns false'. Refute it at one input. -/
def fnExactCongruenceOfSetWrong : ChangeSpec := { name := "fnExactCongruenceOfSet", fn := fun _ => fun
  | [d1, d2] => { results := [.lit (.bool false)], args := [d1, d2] }
  | _ => none }
def FnExactCongruenceOfSetWrongFalsely : Prop := fnExactCongruenceOfSetRow.holds Try.pinned (OpenSpec.ofChange fnExactCongruenceOfSetWrong)

/- THE SECOND FORM. 'bulk': how many values and letters a reading holds, each counted each time it is reached (what is shared counts as often as it is met; a slice's spare places count too). A statement '..UptoSaid' is the law's where the arguments, and the package variables that the reading takes, are together of bulk at most 1048576: NARROWER than '..Said'. Prove '..Said' where nothing that the law and all that it calls make is longer than what came in: it says more and counts as full. Else prove '..UptoSaid'. A law counts once. -/
mutual
def uptoBulk {H : Type} : DataW H → Nat
  | .lit (.string bytes) => bytes.length + 1
  | .lit _ => 1
  | .nil => 1
  | .ptr d => uptoBulk d + 1
  | .slice elems spare => uptoBulkAll elems + uptoBulkAll spare + 1
  | .agg parts => uptoBulkAll parts + 1
  | .iface _ d => uptoBulk d + 1
  | .map entries => uptoBulkEntries entries + 1
  | .held _ => 1
def uptoBulkAll {H : Type} : List (DataW H) → Nat
  | [] => 0
  | d :: r => uptoBulk d + uptoBulkAll r
def uptoBulkEntries {H : Type} : List (Lit × DataW H) → Nat
  | [] => 0
  | x :: r => uptoBulkEntry x + uptoBulkEntries r
def uptoBulkEntry {H : Type} : Lit × DataW H → Nat
  | (.string bytes, d) => bytes.length + uptoBulk d + 1
  | (_, d) => uptoBulk d + 1
 end
def uptoSmall : (H : Type) → List (DataW H) → Bool := fun _ ds => decide (uptoBulkAll ds ≤ 1048576)
def OpenSpec.upto (s : _root_.Go.ChangeSpec) : _root_.Go.OpenSpec := { _root_.Go.OpenSpec.ofChange s with cond := some uptoSmall }

/-- 'laws.FnExactRingOf', WHERE WHAT IT READS IS OF BULK AT MOST 1048576: true; the input reads as it did. -/
def fnExactRingOfUptoRow : OpenClaim := { program := "ytmkabioglfeflaa", sum := "45711be41a8ef034c556377870cdea17cf84a011cc3d18626664f7e4b1ef5fc5", func := "loop.example/g01078/laws.FnExactRingOf", spec := "fnExactRingOf", unfollowed := true, recurses := true, apart := false, narrowed := true }
def FnExactRingOfUptoSaid : Prop := fnExactRingOfUptoRow.holds Try.pinned (OpenSpec.upto fnExactRingOfSpec)

/-- 'laws.FnExactForces', WHERE WHAT IT READS IS OF BULK AT MOST 1048576: true; the input reads as it did. -/
def fnExactForcesUptoRow : OpenClaim := { program := "ytmkabioglfeflaa", sum := "45711be41a8ef034c556377870cdea17cf84a011cc3d18626664f7e4b1ef5fc5", func := "loop.example/g01078/laws.FnExactForces", spec := "fnExactForces", unfollowed := true, recurses := true, apart := false, narrowed := true }
def FnExactForcesUptoSaid : Prop := fnExactForcesUptoRow.holds Try.pinned (OpenSpec.upto fnExactForcesSpec)

/-- 'laws.FnExactContractedBy', WHERE WHAT IT READS IS OF BULK AT MOST 1048576: true; the input reads as it did. -/
def fnExactContractedByUptoRow : OpenClaim := { program := "ytmkabioglfeflaa", sum := "45711be41a8ef034c556377870cdea17cf84a011cc3d18626664f7e4b1ef5fc5", func := "loop.example/g01078/laws.FnExactContractedBy", spec := "fnExactContractedBy", unfollowed := true, recurses := true, apart := false, narrowed := true }
def FnExactContractedByUptoSaid : Prop := fnExactContractedByUptoRow.holds Try.pinned (OpenSpec.upto fnExactContractedBySpec)

/-- 'laws.FnExactForcingPairs', WHERE WHAT IT READS IS OF BULK AT MOST 1048576: true; the input reads as it did. -/
def fnExactForcingPairsUptoRow : OpenClaim := { program := "ytmkabioglfeflaa", sum := "45711be41a8ef034c556377870cdea17cf84a011cc3d18626664f7e4b1ef5fc5", func := "loop.example/g01078/laws.FnExactForcingPairs", spec := "fnExactForcingPairs", unfollowed := true, recurses := true, apart := false, narrowed := true }
def FnExactForcingPairsUptoSaid : Prop := fnExactForcingPairsUptoRow.holds Try.pinned (OpenSpec.upto fnExactForcingPairsSpec)

/-- 'laws.FnExactQuotientLattice', WHERE WHAT IT READS IS OF BULK AT MOST 1048576: true; the input reads as it did. -/
def fnExactQuotientLatticeUptoRow : OpenClaim := { program := "ytmkabioglfeflaa", sum := "45711be41a8ef034c556377870cdea17cf84a011cc3d18626664f7e4b1ef5fc5", func := "loop.example/g01078/laws.FnExactQuotientLattice", spec := "fnExactQuotientLattice", unfollowed := true, recurses := true, apart := false, narrowed := true }
def FnExactQuotientLatticeUptoSaid : Prop := fnExactQuotientLatticeUptoRow.holds Try.pinned (OpenSpec.upto fnExactQuotientLatticeSpec)

/-- 'laws.FnExactCongruenceOfSet', WHERE WHAT IT READS IS OF BULK AT MOST 1048576: true; the input reads as it did. -/
def fnExactCongruenceOfSetUptoRow : OpenClaim := { program := "ytmkabioglfeflaa", sum := "45711be41a8ef034c556377870cdea17cf84a011cc3d18626664f7e4b1ef5fc5", func := "loop.example/g01078/laws.FnExactCongruenceOfSet", spec := "fnExactCongruenceOfSet", unfollowed := true, recurses := true, apart := false, narrowed := true }
def FnExactCongruenceOfSetUptoSaid : Prop := fnExactCongruenceOfSetUptoRow.holds Try.pinned (OpenSpec.upto fnExactCongruenceOfSetSpec)

end Rows
end Go.Proofs.Ytmkabioglfeflaa
