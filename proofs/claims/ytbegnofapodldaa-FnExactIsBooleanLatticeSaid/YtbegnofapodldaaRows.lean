/-
  No cell of these rows narrows 'for every input' (looked for: loops, veiled, ifaces, maps, wideKeys, modest, calm, conditions, laid).
  DERIVED. THE GIVEN ROWS OF THIS SEAT. 12 by the template 'for every input the law returns true; each argument reads behind the call as it read before'; 0 by the template 'total and deterministic' (their statements: YtbegnofapodldaaTotals.lean).
  GIVEN WITH THE SEED: the statements are not yours to turn. If you find one false, say at which input.
  Laid BY PROGRAM, IN A SANDBOX (cutbox-rows.mjs): the forced cells as the released guide's own fill.sh prints them over the translation 2ba5fc7e8f86ee1a… (all of the seat's roots in one cut). By AI agents, Wed Nov 11 2026. No macro, syntax, notation, axiom, sorry.
-/
import Derived.Test.YtbegnofapodldaaChecked
import GoSem.Claim
import GoSem.ClaimJoined
import GoSem.ClaimMapViews
import Derived.JoinedTies
import Derived.KernelRfl
namespace Go.Proofs.Ytbegnofapodldaa
/- THE CELL 'sum', in the pinned program and in every row, IS THE sha256 OF THE DUMP (.gsa) THAT YtbegnofapodldaaProg.lean LOADS. Nothing in Lean hashes anything: it is a label: what it is worth is what the hold of that sum in a sandbox is worth. -/
noncomputable def Try.pinned : Pinned := { name := "ytbegnofapodldaa", sum := "2ba5fc7e8f86ee1a6f1245ad6f0978339e905f1ebe8b772697403cf09f350f9f", checked := Try.checked }
namespace Rows
def none {H : Type} : Left H := { results := [], args := [] }

/-- 'laws.FnExactWordText': WHATEVER THE INPUT: true; the input reads as it did. -/
def fnExactWordTextSpec : ChangeSpec := { name := "fnExactWordText", fn := fun _ => fun
  | [d] => { results := [.lit (.bool true)], args := [d] }
  | _ => none }
def fnExactWordTextRow : OpenClaim := { program := "ytbegnofapodldaa", sum := "2ba5fc7e8f86ee1a6f1245ad6f0978339e905f1ebe8b772697403cf09f350f9f", func := "loop.example/g01078/laws.FnExactWordText", spec := "fnExactWordText", inPlace := ["internal/abi.NoEscape"], recurses := true, apart := false }
def FnExactWordTextSaid : Prop := fnExactWordTextRow.holds Try.pinned (OpenSpec.ofChange fnExactWordTextSpec)

/-- ITS FALSE NEIGHBOUR: 'it returns false'. Refute it at one input. -/
def fnExactWordTextWrong : ChangeSpec := { name := "fnExactWordText", fn := fun _ => fun
  | [d] => { results := [.lit (.bool false)], args := [d] }
  | _ => none }
def FnExactWordTextWrongFalsely : Prop := fnExactWordTextRow.holds Try.pinned (OpenSpec.ofChange fnExactWordTextWrong)

/-- 'laws.FnExactPowersetLattice': WHATEVER THE INPUT: true; the input reads as it did. -/
def fnExactPowersetLatticeSpec : ChangeSpec := { name := "fnExactPowersetLattice", fn := fun _ => fun
  | [d] => { results := [.lit (.bool true)], args := [d] }
  | _ => none }
def fnExactPowersetLatticeRow : OpenClaim := { program := "ytbegnofapodldaa", sum := "2ba5fc7e8f86ee1a6f1245ad6f0978339e905f1ebe8b772697403cf09f350f9f", func := "loop.example/g01078/laws.FnExactPowersetLattice", spec := "fnExactPowersetLattice", apart := false }
def FnExactPowersetLatticeSaid : Prop := fnExactPowersetLatticeRow.holds Try.pinned (OpenSpec.ofChange fnExactPowersetLatticeSpec)

/-- ITS FALSE NEIGHBOUR: 'it returns false'. Refute it at one input. -/
def fnExactPowersetLatticeWrong : ChangeSpec := { name := "fnExactPowersetLattice", fn := fun _ => fun
  | [d] => { results := [.lit (.bool false)], args := [d] }
  | _ => none }
def FnExactPowersetLatticeWrongFalsely : Prop := fnExactPowersetLatticeRow.holds Try.pinned (OpenSpec.ofChange fnExactPowersetLatticeWrong)

/-- 'laws.FnExactMembersOf': WHATEVER THE INPUT: true; the input reads as it did. -/
def fnExactMembersOfSpec : ChangeSpec := { name := "fnExactMembersOf", fn := fun _ => fun
  | [d] => { results := [.lit (.bool true)], args := [d] }
  | _ => none }
def fnExactMembersOfRow : OpenClaim := { program := "ytbegnofapodldaa", sum := "2ba5fc7e8f86ee1a6f1245ad6f0978339e905f1ebe8b772697403cf09f350f9f", func := "loop.example/g01078/laws.FnExactMembersOf", spec := "fnExactMembersOf", recurses := true, apart := false }
def FnExactMembersOfSaid : Prop := fnExactMembersOfRow.holds Try.pinned (OpenSpec.ofChange fnExactMembersOfSpec)

/-- ITS FALSE NEIGHBOUR: 'it returns false'. Refute it at one input. -/
def fnExactMembersOfWrong : ChangeSpec := { name := "fnExactMembersOf", fn := fun _ => fun
  | [d] => { results := [.lit (.bool false)], args := [d] }
  | _ => none }
def FnExactMembersOfWrongFalsely : Prop := fnExactMembersOfRow.holds Try.pinned (OpenSpec.ofChange fnExactMembersOfWrong)

/-- 'laws.FnExactRowPolar': WHATEVER THE INPUT: true; the input reads as it did. -/
def fnExactRowPolarSpec : ChangeSpec := { name := "fnExactRowPolar", fn := fun _ => fun
  | [d1, d2] => { results := [.lit (.bool true)], args := [d1, d2] }
  | _ => none }
def fnExactRowPolarRow : OpenClaim := { program := "ytbegnofapodldaa", sum := "2ba5fc7e8f86ee1a6f1245ad6f0978339e905f1ebe8b772697403cf09f350f9f", func := "loop.example/g01078/laws.FnExactRowPolar", spec := "fnExactRowPolar", unfollowed := true, recurses := true, apart := false }
def FnExactRowPolarSaid : Prop := fnExactRowPolarRow.holds Try.pinned (OpenSpec.ofChange fnExactRowPolarSpec)

/-- ITS FALSE NEIGHBOUR: 'it returns false'. Refute it at one input. -/
def fnExactRowPolarWrong : ChangeSpec := { name := "fnExactRowPolar", fn := fun _ => fun
  | [d1, d2] => { results := [.lit (.bool false)], args := [d1, d2] }
  | _ => none }
def FnExactRowPolarWrongFalsely : Prop := fnExactRowPolarRow.holds Try.pinned (OpenSpec.ofChange fnExactRowPolarWrong)

/-- 'laws.FnExactColumnPolar': WHATEVER THE INPUT: true; the input reads as it did. -/
def fnExactColumnPolarSpec : ChangeSpec := { name := "fnExactColumnPolar", fn := fun _ => fun
  | [d1, d2] => { results := [.lit (.bool true)], args := [d1, d2] }
  | _ => none }
def fnExactColumnPolarRow : OpenClaim := { program := "ytbegnofapodldaa", sum := "2ba5fc7e8f86ee1a6f1245ad6f0978339e905f1ebe8b772697403cf09f350f9f", func := "loop.example/g01078/laws.FnExactColumnPolar", spec := "fnExactColumnPolar", unfollowed := true, recurses := true, apart := false }
def FnExactColumnPolarSaid : Prop := fnExactColumnPolarRow.holds Try.pinned (OpenSpec.ofChange fnExactColumnPolarSpec)

/-- ITS FALSE NEIGHBOUR: 'it returns false'. Refute it at one input. -/
def fnExactColumnPolarWrong : ChangeSpec := { name := "fnExactColumnPolar", fn := fun _ => fun
  | [d1, d2] => { results := [.lit (.bool false)], args := [d1, d2] }
  | _ => none }
def FnExactColumnPolarWrongFalsely : Prop := fnExactColumnPolarRow.holds Try.pinned (OpenSpec.ofChange fnExactColumnPolarWrong)

/-- 'laws.FnExactIsAdjointPair': WHATEVER THE INPUT: true; the input reads as it did. -/
def fnExactIsAdjointPairSpec : ChangeSpec := { name := "fnExactIsAdjointPair", fn := fun _ => fun
  | [d1, d2, d3, d4] => { results := [.lit (.bool true)], args := [d1, d2, d3, d4] }
  | _ => none }
def fnExactIsAdjointPairRow : OpenClaim := { program := "ytbegnofapodldaa", sum := "2ba5fc7e8f86ee1a6f1245ad6f0978339e905f1ebe8b772697403cf09f350f9f", func := "loop.example/g01078/laws.FnExactIsAdjointPair", spec := "fnExactIsAdjointPair", apart := false }
def FnExactIsAdjointPairSaid : Prop := fnExactIsAdjointPairRow.holds Try.pinned (OpenSpec.ofChange fnExactIsAdjointPairSpec)

/-- ITS FALSE NEIGHBOUR: 'it returns false'. Refute it at one input. -/
def fnExactIsAdjointPairWrong : ChangeSpec := { name := "fnExactIsAdjointPair", fn := fun _ => fun
  | [d1, d2, d3, d4] => { results := [.lit (.bool false)], args := [d1, d2, d3, d4] }
  | _ => none }
def FnExactIsAdjointPairWrongFalsely : Prop := fnExactIsAdjointPairRow.holds Try.pinned (OpenSpec.ofChange fnExactIsAdjointPairWrong)

/-- 'laws.FnExactIsFilter': WHATEVER THE INPUT: true; the input reads as it did. -/
def fnExactIsFilterSpec : ChangeSpec := { name := "fnExactIsFilter", fn := fun _ => fun
  | [d1, d2] => { results := [.lit (.bool true)], args := [d1, d2] }
  | _ => none }
def fnExactIsFilterRow : OpenClaim := { program := "ytbegnofapodldaa", sum := "2ba5fc7e8f86ee1a6f1245ad6f0978339e905f1ebe8b772697403cf09f350f9f", func := "loop.example/g01078/laws.FnExactIsFilter", spec := "fnExactIsFilter", unfollowed := true, recurses := true, apart := false }
def FnExactIsFilterSaid : Prop := fnExactIsFilterRow.holds Try.pinned (OpenSpec.ofChange fnExactIsFilterSpec)

/-- ITS FALSE NEIGHBOUR: 'it returns false'. Refute it at one input. -/
def fnExactIsFilterWrong : ChangeSpec := { name := "fnExactIsFilter", fn := fun _ => fun
  | [d1, d2] => { results := [.lit (.bool false)], args := [d1, d2] }
  | _ => none }
def FnExactIsFilterWrongFalsely : Prop := fnExactIsFilterRow.holds Try.pinned (OpenSpec.ofChange fnExactIsFilterWrong)

/-- 'laws.FnExactIsPerspectiveUp': WHATEVER THE INPUT: true; the input reads as it did. -/
def fnExactIsPerspectiveUpSpec : ChangeSpec := { name := "fnExactIsPerspectiveUp", fn := fun _ => fun
  | [d1, d2, d3, d4, d5] => { results := [.lit (.bool true)], args := [d1, d2, d3, d4, d5] }
  | _ => none }
def fnExactIsPerspectiveUpRow : OpenClaim := { program := "ytbegnofapodldaa", sum := "2ba5fc7e8f86ee1a6f1245ad6f0978339e905f1ebe8b772697403cf09f350f9f", func := "loop.example/g01078/laws.FnExactIsPerspectiveUp", spec := "fnExactIsPerspectiveUp", unfollowed := true, recurses := true, apart := false }
def FnExactIsPerspectiveUpSaid : Prop := fnExactIsPerspectiveUpRow.holds Try.pinned (OpenSpec.ofChange fnExactIsPerspectiveUpSpec)

/-- ITS FALSE NEIGHBOUR: 'it returns false'. Refute it at one input. -/
def fnExactIsPerspectiveUpWrong : ChangeSpec := { name := "fnExactIsPerspectiveUp", fn := fun _ => fun
  | [d1, d2, d3, d4, d5] => { results := [.lit (.bool false)], args := [d1, d2, d3, d4, d5] }
  | _ => none }
def FnExactIsPerspectiveUpWrongFalsely : Prop := fnExactIsPerspectiveUpRow.holds Try.pinned (OpenSpec.ofChange fnExactIsPerspectiveUpWrong)

/-- 'laws.FnExactStarOf': WHATEVER THE INPUT: true; the input reads as it did. -/
def fnExactStarOfSpec : ChangeSpec := { name := "fnExactStarOf", fn := fun _ => fun
  | [d1, d2] => { results := [.lit (.bool true)], args := [d1, d2] }
  | _ => none }
def fnExactStarOfRow : OpenClaim := { program := "ytbegnofapodldaa", sum := "2ba5fc7e8f86ee1a6f1245ad6f0978339e905f1ebe8b772697403cf09f350f9f", func := "loop.example/g01078/laws.FnExactStarOf", spec := "fnExactStarOf", unfollowed := true, recurses := true, apart := false }
def FnExactStarOfSaid : Prop := fnExactStarOfRow.holds Try.pinned (OpenSpec.ofChange fnExactStarOfSpec)

/-- ITS FALSE NEIGHBOUR: 'it returns false'. Refute it at one input. -/
def fnExactStarOfWrong : ChangeSpec := { name := "fnExactStarOf", fn := fun _ => fun
  | [d1, d2] => { results := [.lit (.bool false)], args := [d1, d2] }
  | _ => none }
def FnExactStarOfWrongFalsely : Prop := fnExactStarOfRow.holds Try.pinned (OpenSpec.ofChange fnExactStarOfWrong)

/-- 'laws.FnExactFilterOf': WHATEVER THE INPUT: true; the input reads as it did. -/
def fnExactFilterOfSpec : ChangeSpec := { name := "fnExactFilterOf", fn := fun _ => fun
  | [d1, d2] => { results := [.lit (.bool true)], args := [d1, d2] }
  | _ => none }
def fnExactFilterOfRow : OpenClaim := { program := "ytbegnofapodldaa", sum := "2ba5fc7e8f86ee1a6f1245ad6f0978339e905f1ebe8b772697403cf09f350f9f", func := "loop.example/g01078/laws.FnExactFilterOf", spec := "fnExactFilterOf", unfollowed := true, recurses := true, apart := false }
def FnExactFilterOfSaid : Prop := fnExactFilterOfRow.holds Try.pinned (OpenSpec.ofChange fnExactFilterOfSpec)

/-- ITS FALSE NEIGHBOUR: 'it returns false'. Refute it at one input. -/
def fnExactFilterOfWrong : ChangeSpec := { name := "fnExactFilterOf", fn := fun _ => fun
  | [d1, d2] => { results := [.lit (.bool false)], args := [d1, d2] }
  | _ => none }
def FnExactFilterOfWrongFalsely : Prop := fnExactFilterOfRow.holds Try.pinned (OpenSpec.ofChange fnExactFilterOfWrong)

/-- 'laws.FnExactWordValue': WHATEVER THE INPUT: true; the input reads as it did. -/
def fnExactWordValueSpec : ChangeSpec := { name := "fnExactWordValue", fn := fun _ => fun
  | [d1, d2, d3] => { results := [.lit (.bool true)], args := [d1, d2, d3] }
  | _ => none }
def fnExactWordValueRow : OpenClaim := { program := "ytbegnofapodldaa", sum := "2ba5fc7e8f86ee1a6f1245ad6f0978339e905f1ebe8b772697403cf09f350f9f", func := "loop.example/g01078/laws.FnExactWordValue", spec := "fnExactWordValue", unfollowed := true, recurses := true, apart := false }
def FnExactWordValueSaid : Prop := fnExactWordValueRow.holds Try.pinned (OpenSpec.ofChange fnExactWordValueSpec)

/-- ITS FALSE NEIGHBOUR: 'it returns false'. Refute it at one input. -/
def fnExactWordValueWrong : ChangeSpec := { name := "fnExactWordValue", fn := fun _ => fun
  | [d1, d2, d3] => { results := [.lit (.bool false)], args := [d1, d2, d3] }
  | _ => none }
def FnExactWordValueWrongFalsely : Prop := fnExactWordValueRow.holds Try.pinned (OpenSpec.ofChange fnExactWordValueWrong)

/-- 'laws.FnExactIsBooleanLattice': WHATEVER THE INPUT: true; the input reads as it did. -/
def fnExactIsBooleanLatticeSpec : ChangeSpec := { name := "fnExactIsBooleanLattice", fn := fun _ => fun
  | [d] => { results := [.lit (.bool true)], args := [d] }
  | _ => none }
def fnExactIsBooleanLatticeRow : OpenClaim := { program := "ytbegnofapodldaa", sum := "2ba5fc7e8f86ee1a6f1245ad6f0978339e905f1ebe8b772697403cf09f350f9f", func := "loop.example/g01078/laws.FnExactIsBooleanLattice", spec := "fnExactIsBooleanLattice", unfollowed := true, recurses := true, apart := false }
def FnExactIsBooleanLatticeSaid : Prop := fnExactIsBooleanLatticeRow.holds Try.pinned (OpenSpec.ofChange fnExactIsBooleanLatticeSpec)

/-- ITS FALSE NEIGHBOUR: 'it returns false'. Refute it at one input. -/
def fnExactIsBooleanLatticeWrong : ChangeSpec := { name := "fnExactIsBooleanLattice", fn := fun _ => fun
  | [d] => { results := [.lit (.bool false)], args := [d] }
  | _ => none }
def FnExactIsBooleanLatticeWrongFalsely : Prop := fnExactIsBooleanLatticeRow.holds Try.pinned (OpenSpec.ofChange fnExactIsBooleanLatticeWrong)

/- THE SECOND FORM. 'bulk': how many values and letters a reading holds, each counted each time it is reached (what is shared counts as often as it is met; a slice's spare places count too). A statement '..UptoSaid' is the law's where the arguments, and the package variables that the reading takes, are together of bulk at most 1048576: NARROWER than '..Said'. Prove '..Said' where nothing that the law and all that it calls make is longer than what came in: it says more and counts as full. Else prove '..UptoSaid'. A law counts once. -/
mutual
def uptoBulk {H : Type} : DataW H → Nat
  | .lit (.string bytes) => bytes.length + 1
  | .lit _ => 1
  | .nil => 1
  | .ptr d => uptoBulk d + 1
  | .slice elems spare => uptoBulkAll elems + uptoBulkAll spare + 1
  | .agg parts => uptoBulkAll parts + 1
  | .iface _ d => uptoBulk d + 1
  | .map entries => uptoBulkEntries entries + 1
  | .held _ => 1
def uptoBulkAll {H : Type} : List (DataW H) → Nat
  | [] => 0
  | d :: r => uptoBulk d + uptoBulkAll r
def uptoBulkEntries {H : Type} : List (Lit × DataW H) → Nat
  | [] => 0
  | x :: r => uptoBulkEntry x + uptoBulkEntries r
def uptoBulkEntry {H : Type} : Lit × DataW H → Nat
  | (.string bytes, d) => bytes.length + uptoBulk d + 1
  | (_, d) => uptoBulk d + 1
 end
def uptoSmall : (H : Type) → List (DataW H) → Bool := fun _ ds => decide (uptoBulkAll ds ≤ 1048576)
def OpenSpec.upto (s : _root_.Go.ChangeSpec) : _root_.Go.OpenSpec := { _root_.Go.OpenSpec.ofChange s with cond := some uptoSmall }

/-- 'laws.FnExactWordText', WHERE WHAT IT READS IS OF BULK AT MOST 1048576: true; the input reads as it did. -/
def fnExactWordTextUptoRow : OpenClaim := { program := "ytbegnofapodldaa", sum := "2ba5fc7e8f86ee1a6f1245ad6f0978339e905f1ebe8b772697403cf09f350f9f", func := "loop.example/g01078/laws.FnExactWordText", spec := "fnExactWordText", inPlace := ["internal/abi.NoEscape"], recurses := true, apart := false, narrowed := true }
def FnExactWordTextUptoSaid : Prop := fnExactWordTextUptoRow.holds Try.pinned (OpenSpec.upto fnExactWordTextSpec)

/-- 'laws.FnExactPowersetLattice', WHERE WHAT IT READS IS OF BULK AT MOST 1048576: true; the input reads as it did. -/
def fnExactPowersetLatticeUptoRow : OpenClaim := { program := "ytbegnofapodldaa", sum := "2ba5fc7e8f86ee1a6f1245ad6f0978339e905f1ebe8b772697403cf09f350f9f", func := "loop.example/g01078/laws.FnExactPowersetLattice", spec := "fnExactPowersetLattice", apart := false, narrowed := true }
def FnExactPowersetLatticeUptoSaid : Prop := fnExactPowersetLatticeUptoRow.holds Try.pinned (OpenSpec.upto fnExactPowersetLatticeSpec)

/-- 'laws.FnExactMembersOf', WHERE WHAT IT READS IS OF BULK AT MOST 1048576: true; the input reads as it did. -/
def fnExactMembersOfUptoRow : OpenClaim := { program := "ytbegnofapodldaa", sum := "2ba5fc7e8f86ee1a6f1245ad6f0978339e905f1ebe8b772697403cf09f350f9f", func := "loop.example/g01078/laws.FnExactMembersOf", spec := "fnExactMembersOf", recurses := true, apart := false, narrowed := true }
def FnExactMembersOfUptoSaid : Prop := fnExactMembersOfUptoRow.holds Try.pinned (OpenSpec.upto fnExactMembersOfSpec)

/-- 'laws.FnExactRowPolar', WHERE WHAT IT READS IS OF BULK AT MOST 1048576: true; the input reads as it did. -/
def fnExactRowPolarUptoRow : OpenClaim := { program := "ytbegnofapodldaa", sum := "2ba5fc7e8f86ee1a6f1245ad6f0978339e905f1ebe8b772697403cf09f350f9f", func := "loop.example/g01078/laws.FnExactRowPolar", spec := "fnExactRowPolar", unfollowed := true, recurses := true, apart := false, narrowed := true }
def FnExactRowPolarUptoSaid : Prop := fnExactRowPolarUptoRow.holds Try.pinned (OpenSpec.upto fnExactRowPolarSpec)

/-- 'laws.FnExactColumnPolar', WHERE WHAT IT READS IS OF BULK AT MOST 1048576: true; the input reads as it did. -/
def fnExactColumnPolarUptoRow : OpenClaim := { program := "ytbegnofapodldaa", sum := "2ba5fc7e8f86ee1a6f1245ad6f0978339e905f1ebe8b772697403cf09f350f9f", func := "loop.example/g01078/laws.FnExactColumnPolar", spec := "fnExactColumnPolar", unfollowed := true, recurses := true, apart := false, narrowed := true }
def FnExactColumnPolarUptoSaid : Prop := fnExactColumnPolarUptoRow.holds Try.pinned (OpenSpec.upto fnExactColumnPolarSpec)

/-- 'laws.FnExactIsAdjointPair', WHERE WHAT IT READS IS OF BULK AT MOST 1048576: true; the input reads as it did. -/
def fnExactIsAdjointPairUptoRow : OpenClaim := { program := "ytbegnofapodldaa", sum := "2ba5fc7e8f86ee1a6f1245ad6f0978339e905f1ebe8b772697403cf09f350f9f", func := "loop.example/g01078/laws.FnExactIsAdjointPair", spec := "fnExactIsAdjointPair", apart := false, narrowed := true }
def FnExactIsAdjointPairUptoSaid : Prop := fnExactIsAdjointPairUptoRow.holds Try.pinned (OpenSpec.upto fnExactIsAdjointPairSpec)

/-- 'laws.FnExactIsFilter', WHERE WHAT IT READS IS OF BULK AT MOST 1048576: true; the input reads as it did. -/
def fnExactIsFilterUptoRow : OpenClaim := { program := "ytbegnofapodldaa", sum := "2ba5fc7e8f86ee1a6f1245ad6f0978339e905f1ebe8b772697403cf09f350f9f", func := "loop.example/g01078/laws.FnExactIsFilter", spec := "fnExactIsFilter", unfollowed := true, recurses := true, apart := false, narrowed := true }
def FnExactIsFilterUptoSaid : Prop := fnExactIsFilterUptoRow.holds Try.pinned (OpenSpec.upto fnExactIsFilterSpec)

/-- 'laws.FnExactIsPerspectiveUp', WHERE WHAT IT READS IS OF BULK AT MOST 1048576: true; the input reads as it did. -/
def fnExactIsPerspectiveUpUptoRow : OpenClaim := { program := "ytbegnofapodldaa", sum := "2ba5fc7e8f86ee1a6f1245ad6f0978339e905f1ebe8b772697403cf09f350f9f", func := "loop.example/g01078/laws.FnExactIsPerspectiveUp", spec := "fnExactIsPerspectiveUp", unfollowed := true, recurses := true, apart := false, narrowed := true }
def FnExactIsPerspectiveUpUptoSaid : Prop := fnExactIsPerspectiveUpUptoRow.holds Try.pinned (OpenSpec.upto fnExactIsPerspectiveUpSpec)

/-- 'laws.FnExactStarOf', WHERE WHAT IT READS IS OF BULK AT MOST 1048576: true; the input reads as it did. -/
def fnExactStarOfUptoRow : OpenClaim := { program := "ytbegnofapodldaa", sum := "2ba5fc7e8f86ee1a6f1245ad6f0978339e905f1ebe8b772697403cf09f350f9f", func := "loop.example/g01078/laws.FnExactStarOf", spec := "fnExactStarOf", unfollowed := true, recurses := true, apart := false, narrowed := true }
def FnExactStarOfUptoSaid : Prop := fnExactStarOfUptoRow.holds Try.pinned (OpenSpec.upto fnExactStarOfSpec)

/-- 'laws.FnExactFilterOf', WHERE WHAT IT READS IS OF BULK AT MOST 1048576: true; the input reads as it did. -/
def fnExactFilterOfUptoRow : OpenClaim := { program := "ytbegnofapodldaa", sum := "2ba5fc7e8f86ee1a6f1245ad6f0978339e905f1ebe8b772697403cf09f350f9f", func := "loop.example/g01078/laws.FnExactFilterOf", spec := "fnExactFilterOf", unfollowed := true, recurses := true, apart := false, narrowed := true }
def FnExactFilterOfUptoSaid : Prop := fnExactFilterOfUptoRow.holds Try.pinned (OpenSpec.upto fnExactFilterOfSpec)

/-- 'laws.FnExactWordValue', WHERE WHAT IT READS IS OF BULK AT MOST 1048576: true; the input reads as it did. -/
def fnExactWordValueUptoRow : OpenClaim := { program := "ytbegnofapodldaa", sum := "2ba5fc7e8f86ee1a6f1245ad6f0978339e905f1ebe8b772697403cf09f350f9f", func := "loop.example/g01078/laws.FnExactWordValue", spec := "fnExactWordValue", unfollowed := true, recurses := true, apart := false, narrowed := true }
def FnExactWordValueUptoSaid : Prop := fnExactWordValueUptoRow.holds Try.pinned (OpenSpec.upto fnExactWordValueSpec)

/-- 'laws.FnExactIsBooleanLattice', WHERE WHAT IT READS IS OF BULK AT MOST 1048576: true; the input reads as it did. -/
def fnExactIsBooleanLatticeUptoRow : OpenClaim := { program := "ytbegnofapodldaa", sum := "2ba5fc7e8f86ee1a6f1245ad6f0978339e905f1ebe8b772697403cf09f350f9f", func := "loop.example/g01078/laws.FnExactIsBooleanLattice", spec := "fnExactIsBooleanLattice", unfollowed := true, recurses := true, apart := false, narrowed := true }
def FnExactIsBooleanLatticeUptoSaid : Prop := fnExactIsBooleanLatticeUptoRow.holds Try.pinned (OpenSpec.upto fnExactIsBooleanLatticeSpec)

end Rows
end Go.Proofs.Ytbegnofapodldaa
