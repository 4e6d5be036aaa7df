/-
  No cell of these rows narrows 'for every input' (looked for: loops, veiled, ifaces, maps, wideKeys, modest, calm, conditions, laid).
  DERIVED. THE GIVEN ROWS OF THIS SEAT. 12 by the template 'for every input the law returns true; each argument reads behind the call as it read before'; 0 by the template 'total and deterministic' (their statements: YthmjdallklcbkaaTotals.lean).
  GIVEN WITH THE SEED: the statements are not yours to turn. If you find one false, say at which input.
  Laid BY PROGRAM, IN A SANDBOX (cutbox-rows.mjs): the forced cells as the released guide's own fill.sh prints them over the translation 65e903eec00da600… (all of the seat's roots in one cut). By AI agents, Wed Nov 11 2026. No macro, syntax, notation, axiom, sorry.
-/
import Derived.Test.YthmjdallklcbkaaChecked
import GoSem.Claim
import GoSem.ClaimJoined
import GoSem.ClaimMapViews
import Derived.JoinedTies
import Derived.KernelRfl
namespace Go.Proofs.Ythmjdallklcbkaa
/- THE CELL 'sum', in the pinned program and in every row, IS THE sha256 OF THE DUMP (.gsa) THAT YthmjdallklcbkaaProg.lean LOADS. Nothing in Lean hashes anything: it is a label: what it is worth is what the hold of that sum in a sandbox is worth. -/
noncomputable def Try.pinned : Pinned := { name := "ythmjdallklcbkaa", sum := "65e903eec00da6005dd69023bd9206d27e85a02ea37c687a4ed1ee73242474c1", checked := Try.checked }
namespace Rows
def none {H : Type} : Left H := { results := [], args := [] }

/-- 'laws.FnExactRingOf': WHATEVER THE INPUT: true; the input reads as it did. -/
def fnExactRingOfSpec : ChangeSpec := { name := "fnExactRingOf", fn := fun _ => fun
  | [d] => { results := [.lit (.bool true)], args := [d] }
  | _ => none }
def fnExactRingOfRow : OpenClaim := { program := "ythmjdallklcbkaa", sum := "65e903eec00da6005dd69023bd9206d27e85a02ea37c687a4ed1ee73242474c1", func := "loop.example/g01078/laws.FnExactRingOf", spec := "fnExactRingOf", unfollowed := true, recurses := true, plainKeys := false, apart := false }
def FnExactRingOfSaid : Prop := fnExactRingOfRow.holds Try.pinned (OpenSpec.ofChange fnExactRingOfSpec)

/-- ITS FALSE NEIGHBOUR: 'it returns false'. Refute it at one input. -/
def fnExactRingOfWrong : ChangeSpec := { name := "fnExactRingOf", fn := fun _ => fun
  | [d] => { results := [.lit (.bool false)], args := [d] }
  | _ => none }
def FnExactRingOfWrongFalsely : Prop := fnExactRingOfRow.holds Try.pinned (OpenSpec.ofChange fnExactRingOfWrong)

/-- 'laws.FnExactCollapsedEdges': WHATEVER THE INPUT: true; the input reads as it did. -/
def fnExactCollapsedEdgesSpec : ChangeSpec := { name := "fnExactCollapsedEdges", fn := fun _ => fun
  | [d1, d2] => { results := [.lit (.bool true)], args := [d1, d2] }
  | _ => none }
def fnExactCollapsedEdgesRow : OpenClaim := { program := "ythmjdallklcbkaa", sum := "65e903eec00da6005dd69023bd9206d27e85a02ea37c687a4ed1ee73242474c1", func := "loop.example/g01078/laws.FnExactCollapsedEdges", spec := "fnExactCollapsedEdges", unfollowed := true, recurses := true, plainKeys := false, apart := false }
def FnExactCollapsedEdgesSaid : Prop := fnExactCollapsedEdgesRow.holds Try.pinned (OpenSpec.ofChange fnExactCollapsedEdgesSpec)

/-- ITS FALSE NEIGHBOUR: 'it returns false'. Refute it at one input. -/
def fnExactCollapsedEdgesWrong : ChangeSpec := { name := "fnExactCollapsedEdges", fn := fun _ => fun
  | [d1, d2] => { results := [.lit (.bool false)], args := [d1, d2] }
  | _ => none }
def FnExactCollapsedEdgesWrongFalsely : Prop := fnExactCollapsedEdgesRow.holds Try.pinned (OpenSpec.ofChange fnExactCollapsedEdgesWrong)

/-- 'laws.FnExactContractedBy': WHATEVER THE INPUT: true; the input reads as it did. -/
def fnExactContractedBySpec : ChangeSpec := { name := "fnExactContractedBy", fn := fun _ => fun
  | [d1, d2] => { results := [.lit (.bool true)], args := [d1, d2] }
  | _ => none }
def fnExactContractedByRow : OpenClaim := { program := "ythmjdallklcbkaa", sum := "65e903eec00da6005dd69023bd9206d27e85a02ea37c687a4ed1ee73242474c1", func := "loop.example/g01078/laws.FnExactContractedBy", spec := "fnExactContractedBy", unfollowed := true, recurses := true, plainKeys := false, apart := false }
def FnExactContractedBySaid : Prop := fnExactContractedByRow.holds Try.pinned (OpenSpec.ofChange fnExactContractedBySpec)

/-- ITS FALSE NEIGHBOUR: 'it returns false'. Refute it at one input. -/
def fnExactContractedByWrong : ChangeSpec := { name := "fnExactContractedBy", fn := fun _ => fun
  | [d1, d2] => { results := [.lit (.bool false)], args := [d1, d2] }
  | _ => none }
def FnExactContractedByWrongFalsely : Prop := fnExactContractedByRow.holds Try.pinned (OpenSpec.ofChange fnExactContractedByWrong)

/-- 'laws.FnExactQuotientLattice': WHATEVER THE INPUT: true; the input reads as it did. -/
def fnExactQuotientLatticeSpec : ChangeSpec := { name := "fnExactQuotientLattice", fn := fun _ => fun
  | [d1, d2] => { results := [.lit (.bool true)], args := [d1, d2] }
  | _ => none }
def fnExactQuotientLatticeRow : OpenClaim := { program := "ythmjdallklcbkaa", sum := "65e903eec00da6005dd69023bd9206d27e85a02ea37c687a4ed1ee73242474c1", func := "loop.example/g01078/laws.FnExactQuotientLattice", spec := "fnExactQuotientLattice", unfollowed := true, recurses := true, plainKeys := false, apart := false }
def FnExactQuotientLatticeSaid : Prop := fnExactQuotientLatticeRow.holds Try.pinned (OpenSpec.ofChange fnExactQuotientLatticeSpec)

/-- ITS FALSE NEIGHBOUR: 'it returns false'. Refute it at one input. -/
def fnExactQuotientLatticeWrong : ChangeSpec := { name := "fnExactQuotientLattice", fn := fun _ => fun
  | [d1, d2] => { results := [.lit (.bool false)], args := [d1, d2] }
  | _ => none }
def FnExactQuotientLatticeWrongFalsely : Prop := fnExactQuotientLatticeRow.holds Try.pinned (OpenSpec.ofChange fnExactQuotientLatticeWrong)

/-- 'laws.FnExactFindSublattice': WHATEVER THE INPUT: true; the input reads as it did. -/
def fnExactFindSublatticeSpec : ChangeSpec := { name := "fnExactFindSublattice", fn := fun _ => fun
  | [d1, d2] => { results := [.lit (.bool true)], args := [d1, d2] }
  | _ => none }
def fnExactFindSublatticeRow : OpenClaim := { program := "ythmjdallklcbkaa", sum := "65e903eec00da6005dd69023bd9206d27e85a02ea37c687a4ed1ee73242474c1", func := "loop.example/g01078/laws.FnExactFindSublattice", spec := "fnExactFindSublattice", unfollowed := true, recurses := true, plainKeys := false, apart := false }
def FnExactFindSublatticeSaid : Prop := fnExactFindSublatticeRow.holds Try.pinned (OpenSpec.ofChange fnExactFindSublatticeSpec)

/-- ITS FALSE NEIGHBOUR: 'it returns false'. Refute it at one input. -/
def fnExactFindSublatticeWrong : ChangeSpec := { name := "fnExactFindSublattice", fn := fun _ => fun
  | [d1, d2] => { results := [.lit (.bool false)], args := [d1, d2] }
  | _ => none }
def FnExactFindSublatticeWrongFalsely : Prop := fnExactFindSublatticeRow.holds Try.pinned (OpenSpec.ofChange fnExactFindSublatticeWrong)

/-- 'laws.FnExactLatticeOfRing': WHATEVER THE INPUT: true; the input reads as it did. -/
def fnExactLatticeOfRingSpec : ChangeSpec := { name := "fnExactLatticeOfRing", fn := fun _ => fun
  | [d] => { results := [.lit (.bool true)], args := [d] }
  | _ => none }
def fnExactLatticeOfRingRow : OpenClaim := { program := "ythmjdallklcbkaa", sum := "65e903eec00da6005dd69023bd9206d27e85a02ea37c687a4ed1ee73242474c1", func := "loop.example/g01078/laws.FnExactLatticeOfRing", spec := "fnExactLatticeOfRing", unfollowed := true, recurses := true, plainKeys := false, apart := false }
def FnExactLatticeOfRingSaid : Prop := fnExactLatticeOfRingRow.holds Try.pinned (OpenSpec.ofChange fnExactLatticeOfRingSpec)

/-- ITS FALSE NEIGHBOUR: 'it returns false'. Refute it at one input. -/
def fnExactLatticeOfRingWrong : ChangeSpec := { name := "fnExactLatticeOfRing", fn := fun _ => fun
  | [d] => { results := [.lit (.bool false)], args := [d] }
  | _ => none }
def FnExactLatticeOfRingWrongFalsely : Prop := fnExactLatticeOfRingRow.holds Try.pinned (OpenSpec.ofChange fnExactLatticeOfRingWrong)

/-- 'laws.FnExactIsSimpleLattice': WHATEVER THE INPUT: true; the input reads as it did. -/
def fnExactIsSimpleLatticeSpec : ChangeSpec := { name := "fnExactIsSimpleLattice", fn := fun _ => fun
  | [d] => { results := [.lit (.bool true)], args := [d] }
  | _ => none }
def fnExactIsSimpleLatticeRow : OpenClaim := { program := "ythmjdallklcbkaa", sum := "65e903eec00da6005dd69023bd9206d27e85a02ea37c687a4ed1ee73242474c1", func := "loop.example/g01078/laws.FnExactIsSimpleLattice", spec := "fnExactIsSimpleLattice", inPlace := ["internal/reflectlite.ValueOf", "internal/reflectlite.Swapper", "(internal/reflectlite.Value).Len"], unfollowed := true, recurses := true, plainKeys := false, apart := false }
def FnExactIsSimpleLatticeSaid : Prop := fnExactIsSimpleLatticeRow.holds Try.pinned (OpenSpec.ofChange fnExactIsSimpleLatticeSpec)

/-- ITS FALSE NEIGHBOUR: 'it returns false'. Refute it at one input. -/
def fnExactIsSimpleLatticeWrong : ChangeSpec := { name := "fnExactIsSimpleLattice", fn := fun _ => fun
  | [d] => { results := [.lit (.bool false)], args := [d] }
  | _ => none }
def FnExactIsSimpleLatticeWrongFalsely : Prop := fnExactIsSimpleLatticeRow.holds Try.pinned (OpenSpec.ofChange fnExactIsSimpleLatticeWrong)

/-- 'laws.FnExactForces': WHATEVER THE INPUT: true; the input reads as it did. -/
def fnExactForcesSpec : ChangeSpec := { name := "fnExactForces", fn := fun _ => fun
  | [d1, d2, d3] => { results := [.lit (.bool true)], args := [d1, d2, d3] }
  | _ => none }
def fnExactForcesRow : OpenClaim := { program := "ythmjdallklcbkaa", sum := "65e903eec00da6005dd69023bd9206d27e85a02ea37c687a4ed1ee73242474c1", func := "loop.example/g01078/laws.FnExactForces", spec := "fnExactForces", unfollowed := true, recurses := true, plainKeys := false, apart := false }
def FnExactForcesSaid : Prop := fnExactForcesRow.holds Try.pinned (OpenSpec.ofChange fnExactForcesSpec)

/-- ITS FALSE NEIGHBOUR: 'it returns false'. Refute it at one input. -/
def fnExactForcesWrong : ChangeSpec := { name := "fnExactForces", fn := fun _ => fun
  | [d1, d2, d3] => { results := [.lit (.bool false)], args := [d1, d2, d3] }
  | _ => none }
def FnExactForcesWrongFalsely : Prop := fnExactForcesRow.holds Try.pinned (OpenSpec.ofChange fnExactForcesWrong)

/-- 'laws.FnExactBlockIntervals': WHATEVER THE INPUT: true; the input reads as it did. -/
def fnExactBlockIntervalsSpec : ChangeSpec := { name := "fnExactBlockIntervals", fn := fun _ => fun
  | [d1, d2] => { results := [.lit (.bool true)], args := [d1, d2] }
  | _ => none }
def fnExactBlockIntervalsRow : OpenClaim := { program := "ythmjdallklcbkaa", sum := "65e903eec00da6005dd69023bd9206d27e85a02ea37c687a4ed1ee73242474c1", func := "loop.example/g01078/laws.FnExactBlockIntervals", spec := "fnExactBlockIntervals", unfollowed := true, recurses := true, plainKeys := false, apart := false }
def FnExactBlockIntervalsSaid : Prop := fnExactBlockIntervalsRow.holds Try.pinned (OpenSpec.ofChange fnExactBlockIntervalsSpec)

/-- ITS FALSE NEIGHBOUR: 'it returns false'. Refute it at one input. -/
def fnExactBlockIntervalsWrong : ChangeSpec := { name := "fnExactBlockIntervals", fn := fun _ => fun
  | [d1, d2] => { results := [.lit (.bool false)], args := [d1, d2] }
  | _ => none }
def FnExactBlockIntervalsWrongFalsely : Prop := fnExactBlockIntervalsRow.holds Try.pinned (OpenSpec.ofChange fnExactBlockIntervalsWrong)

/-- 'laws.FnExactForcingPairs': WHATEVER THE INPUT: true; the input reads as it did. -/
def fnExactForcingPairsSpec : ChangeSpec := { name := "fnExactForcingPairs", fn := fun _ => fun
  | [d] => { results := [.lit (.bool true)], args := [d] }
  | _ => none }
def fnExactForcingPairsRow : OpenClaim := { program := "ythmjdallklcbkaa", sum := "65e903eec00da6005dd69023bd9206d27e85a02ea37c687a4ed1ee73242474c1", func := "loop.example/g01078/laws.FnExactForcingPairs", spec := "fnExactForcingPairs", unfollowed := true, recurses := true, plainKeys := false, apart := false }
def FnExactForcingPairsSaid : Prop := fnExactForcingPairsRow.holds Try.pinned (OpenSpec.ofChange fnExactForcingPairsSpec)

/-- ITS FALSE NEIGHBOUR: 'it returns false'. Refute it at one input. -/
def fnExactForcingPairsWrong : ChangeSpec := { name := "fnExactForcingPairs", fn := fun _ => fun
  | [d] => { results := [.lit (.bool false)], args := [d] }
  | _ => none }
def FnExactForcingPairsWrongFalsely : Prop := fnExactForcingPairsRow.holds Try.pinned (OpenSpec.ofChange fnExactForcingPairsWrong)

/-- 'laws.FnExactCongruenceOfSet': WHATEVER THE INPUT: true; the input reads as it did. -/
def fnExactCongruenceOfSetSpec : ChangeSpec := { name := "fnExactCongruenceOfSet", fn := fun _ => fun
  | [d1, d2] => { results := [.lit (.bool true)], args := [d1, d2] }
  | _ => none }
def fnExactCongruenceOfSetRow : OpenClaim := { program := "ythmjdallklcbkaa", sum := "65e903eec00da6005dd69023bd9206d27e85a02ea37c687a4ed1ee73242474c1", func := "loop.example/g01078/laws.FnExactCongruenceOfSet", spec := "fnExactCongruenceOfSet", unfollowed := true, recurses := true, plainKeys := false, apart := false }
def FnExactCongruenceOfSetSaid : Prop := fnExactCongruenceOfSetRow.holds Try.pinned (OpenSpec.ofChange fnExactCongruenceOfSetSpec)

/-- ITS FALSE NEIGHBOUR: 'it returns false'. Refute it at one input. -/
def fnExactCongruenceOfSetWrong : ChangeSpec := { name := "fnExactCongruenceOfSet", fn := fun _ => fun
  | [d1, d2] => { results := [.lit (.bool false)], args := [d1, d2] }
  | _ => none }
def FnExactCongruenceOfSetWrongFalsely : Prop := fnExactCongruenceOfSetRow.holds Try.pinned (OpenSpec.ofChange fnExactCongruenceOfSetWrong)

/-- 'laws.FnExactProjectiveTo': WHATEVER THE INPUT: true; the input reads as it did. -/
def fnExactProjectiveToSpec : ChangeSpec := { name := "fnExactProjectiveTo", fn := fun _ => fun
  | [d1, d2, d3] => { results := [.lit (.bool true)], args := [d1, d2, d3] }
  | _ => none }
def fnExactProjectiveToRow : OpenClaim := { program := "ythmjdallklcbkaa", sum := "65e903eec00da6005dd69023bd9206d27e85a02ea37c687a4ed1ee73242474c1", func := "loop.example/g01078/laws.FnExactProjectiveTo", spec := "fnExactProjectiveTo", unfollowed := true, recurses := true, plainKeys := false, apart := false }
def FnExactProjectiveToSaid : Prop := fnExactProjectiveToRow.holds Try.pinned (OpenSpec.ofChange fnExactProjectiveToSpec)

/-- ITS FALSE NEIGHBOUR: 'it returns false'. Refute it at one input. -/
def fnExactProjectiveToWrong : ChangeSpec := { name := "fnExactProjectiveTo", fn := fun _ => fun
  | [d1, d2, d3] => { results := [.lit (.bool false)], args := [d1, d2, d3] }
  | _ => none }
def FnExactProjectiveToWrongFalsely : Prop := fnExactProjectiveToRow.holds Try.pinned (OpenSpec.ofChange fnExactProjectiveToWrong)

/- THE SECOND FORM. 'bulk': how many values and letters a reading holds, each counted each time it is reached (what is shared counts as often as it is met; a slice's spare places count too). A statement '..UptoSaid' is the law's where the arguments, and the package variables that the reading takes, are together of bulk at most 1048576: NARROWER than '..Said'. Prove '..Said' where nothing that the law and all that it calls make is longer than what came in: it says more and counts as full. Else prove '..UptoSaid'. A law counts once. -/
mutual
def uptoBulk {H : Type} : DataW H → Nat
  | .lit (.string bytes) => bytes.length + 1
  | .lit _ => 1
  | .nil => 1
  | .ptr d => uptoBulk d + 1
  | .slice elems spare => uptoBulkAll elems + uptoBulkAll spare + 1
  | .agg parts => uptoBulkAll parts + 1
  | .iface _ d => uptoBulk d + 1
  | .map entries => uptoBulkEntries entries + 1
  | .held _ => 1
def uptoBulkAll {H : Type} : List (DataW H) → Nat
  | [] => 0
  | d :: r => uptoBulk d + uptoBulkAll r
def uptoBulkEntries {H : Type} : List (Lit × DataW H) → Nat
  | [] => 0
  | x :: r => uptoBulkEntry x + uptoBulkEntries r
def uptoBulkEntry {H : Type} : Lit × DataW H → Nat
  | (.string bytes, d) => bytes.length + uptoBulk d + 1
  | (_, d) => uptoBulk d + 1
 end
def uptoSmall : (H : Type) → List (DataW H) → Bool := fun _ ds => decide (uptoBulkAll ds ≤ 1048576)
def OpenSpec.upto (s : _root_.Go.ChangeSpec) : _root_.Go.OpenSpec := { _root_.Go.OpenSpec.ofChange s with cond := some uptoSmall }

/-- 'laws.FnExactRingOf', WHERE WHAT IT READS IS OF BULK AT MOST 1048576: true; the input reads as it did. -/
def fnExactRingOfUptoRow : OpenClaim := { program := "ythmjdallklcbkaa", sum := "65e903eec00da6005dd69023bd9206d27e85a02ea37c687a4ed1ee73242474c1", func := "loop.example/g01078/laws.FnExactRingOf", spec := "fnExactRingOf", unfollowed := true, recurses := true, plainKeys := false, apart := false, narrowed := true }
def FnExactRingOfUptoSaid : Prop := fnExactRingOfUptoRow.holds Try.pinned (OpenSpec.upto fnExactRingOfSpec)

/-- 'laws.FnExactCollapsedEdges', WHERE WHAT IT READS IS OF BULK AT MOST 1048576: true; the input reads as it did. -/
def fnExactCollapsedEdgesUptoRow : OpenClaim := { program := "ythmjdallklcbkaa", sum := "65e903eec00da6005dd69023bd9206d27e85a02ea37c687a4ed1ee73242474c1", func := "loop.example/g01078/laws.FnExactCollapsedEdges", spec := "fnExactCollapsedEdges", unfollowed := true, recurses := true, plainKeys := false, apart := false, narrowed := true }
def FnExactCollapsedEdgesUptoSaid : Prop := fnExactCollapsedEdgesUptoRow.holds Try.pinned (OpenSpec.upto fnExactCollapsedEdgesSpec)

/-- 'laws.FnExactContractedBy', WHERE WHAT IT READS IS OF BULK AT MOST 1048576: true; the input reads as it did. -/
def fnExactContractedByUptoRow : OpenClaim := { program := "ythmjdallklcbkaa", sum := "65e903eec00da6005dd69023bd9206d27e85a02ea37c687a4ed1ee73242474c1", func := "loop.example/g01078/laws.FnExactContractedBy", spec := "fnExactContractedBy", unfollowed := true, recurses := true, plainKeys := false, apart := false, narrowed := true }
def FnExactContractedByUptoSaid : Prop := fnExactContractedByUptoRow.holds Try.pinned (OpenSpec.upto fnExactContractedBySpec)

/-- 'laws.FnExactQuotientLattice', WHERE WHAT IT READS IS OF BULK AT MOST 1048576: true; the input reads as it did. -/
def fnExactQuotientLatticeUptoRow : OpenClaim := { program := "ythmjdallklcbkaa", sum := "65e903eec00da6005dd69023bd9206d27e85a02ea37c687a4ed1ee73242474c1", func := "loop.example/g01078/laws.FnExactQuotientLattice", spec := "fnExactQuotientLattice", unfollowed := true, recurses := true, plainKeys := false, apart := false, narrowed := true }
def FnExactQuotientLatticeUptoSaid : Prop := fnExactQuotientLatticeUptoRow.holds Try.pinned (OpenSpec.upto fnExactQuotientLatticeSpec)

/-- 'laws.FnExactFindSublattice', WHERE WHAT IT READS IS OF BULK AT MOST 1048576: true; the input reads as it did. -/
def fnExactFindSublatticeUptoRow : OpenClaim := { program := "ythmjdallklcbkaa", sum := "65e903eec00da6005dd69023bd9206d27e85a02ea37c687a4ed1ee73242474c1", func := "loop.example/g01078/laws.FnExactFindSublattice", spec := "fnExactFindSublattice", unfollowed := true, recurses := true, plainKeys := false, apart := false, narrowed := true }
def FnExactFindSublatticeUptoSaid : Prop := fnExactFindSublatticeUptoRow.holds Try.pinned (OpenSpec.upto fnExactFindSublatticeSpec)

/-- 'laws.FnExactLatticeOfRing', WHERE WHAT IT READS IS OF BULK AT MOST 1048576: true; the input reads as it did. -/
def fnExactLatticeOfRingUptoRow : OpenClaim := { program := "ythmjdallklcbkaa", sum := "65e903eec00da6005dd69023bd9206d27e85a02ea37c687a4ed1ee73242474c1", func := "loop.example/g01078/laws.FnExactLatticeOfRing", spec := "fnExactLatticeOfRing", unfollowed := true, recurses := true, plainKeys := false, apart := false, narrowed := true }
def FnExactLatticeOfRingUptoSaid : Prop := fnExactLatticeOfRingUptoRow.holds Try.pinned (OpenSpec.upto fnExactLatticeOfRingSpec)

/-- 'laws.FnExactIsSimpleLattice', WHERE WHAT IT READS IS OF BULK AT MOST 1048576: true; the input reads as it did. -/
def fnExactIsSimpleLatticeUptoRow : OpenClaim := { program := "ythmjdallklcbkaa", sum := "65e903eec00da6005dd69023bd9206d27e85a02ea37c687a4ed1ee73242474c1", func := "loop.example/g01078/laws.FnExactIsSimpleLattice", spec := "fnExactIsSimpleLattice", inPlace := ["internal/reflectlite.ValueOf", "internal/reflectlite.Swapper", "(internal/reflectlite.Value).Len"], unfollowed := true, recurses := true, plainKeys := false, apart := false, narrowed := true }
def FnExactIsSimpleLatticeUptoSaid : Prop := fnExactIsSimpleLatticeUptoRow.holds Try.pinned (OpenSpec.upto fnExactIsSimpleLatticeSpec)

/-- 'laws.FnExactForces', WHERE WHAT IT READS IS OF BULK AT MOST 1048576: true; the input reads as it did. -/
def fnExactForcesUptoRow : OpenClaim := { program := "ythmjdallklcbkaa", sum := "65e903eec00da6005dd69023bd9206d27e85a02ea37c687a4ed1ee73242474c1", func := "loop.example/g01078/laws.FnExactForces", spec := "fnExactForces", unfollowed := true, recurses := true, plainKeys := false, apart := false, narrowed := true }
def FnExactForcesUptoSaid : Prop := fnExactForcesUptoRow.holds Try.pinned (OpenSpec.upto fnExactForcesSpec)

/-- 'laws.FnExactBlockIntervals', WHERE WHAT IT READS IS OF BULK AT MOST 1048576: true; the input reads as it did. -/
def fnExactBlockIntervalsUptoRow : OpenClaim := { program := "ythmjdallklcbkaa", sum := "65e903eec00da6005dd69023bd9206d27e85a02ea37c687a4ed1ee73242474c1", func := "loop.example/g01078/laws.FnExactBlockIntervals", spec := "fnExactBlockIntervals", unfollowed := true, recurses := true, plainKeys := false, apart := false, narrowed := true }
def FnExactBlockIntervalsUptoSaid : Prop := fnExactBlockIntervalsUptoRow.holds Try.pinned (OpenSpec.upto fnExactBlockIntervalsSpec)

/-- 'laws.FnExactForcingPairs', WHERE WHAT IT READS IS OF BULK AT MOST 1048576: true; the input reads as it did. -/
def fnExactForcingPairsUptoRow : OpenClaim := { program := "ythmjdallklcbkaa", sum := "65e903eec00da6005dd69023bd9206d27e85a02ea37c687a4ed1ee73242474c1", func := "loop.example/g01078/laws.FnExactForcingPairs", spec := "fnExactForcingPairs", unfollowed := true, recurses := true, plainKeys := false, apart := false, narrowed := true }
def FnExactForcingPairsUptoSaid : Prop := fnExactForcingPairsUptoRow.holds Try.pinned (OpenSpec.upto fnExactForcingPairsSpec)

/-- 'laws.FnExactCongruenceOfSet', WHERE WHAT IT READS IS OF BULK AT MOST 1048576: true; the input reads as it did. -/
def fnExactCongruenceOfSetUptoRow : OpenClaim := { program := "ythmjdallklcbkaa", sum := "65e903eec00da6005dd69023bd9206d27e85a02ea37c687a4ed1ee73242474c1", func := "loop.example/g01078/laws.FnExactCongruenceOfSet", spec := "fnExactCongruenceOfSet", unfollowed := true, recurses := true, plainKeys := false, apart := false, narrowed := true }
def FnExactCongruenceOfSetUptoSaid : Prop := fnExactCongruenceOfSetUptoRow.holds Try.pinned (OpenSpec.upto fnExactCongruenceOfSetSpec)

/-- 'laws.FnExactProjectiveTo', WHERE WHAT IT READS IS OF BULK AT MOST 1048576: true; the input reads as it did. -/
def fnExactProjectiveToUptoRow : OpenClaim := { program := "ythmjdallklcbkaa", sum := "65e903eec00da6005dd69023bd9206d27e85a02ea37c687a4ed1ee73242474c1", func := "loop.example/g01078/laws.FnExactProjectiveTo", spec := "fnExactProjectiveTo", unfollowed := true, recurses := true, plainKeys := false, apart := false, narrowed := true }
def FnExactProjectiveToUptoSaid : Prop := fnExactProjectiveToUptoRow.holds Try.pinned (OpenSpec.upto fnExactProjectiveToSpec)

end Rows
end Go.Proofs.Ythmjdallklcbkaa
