/-
  No cell of these rows narrows 'for every input' (looked for: loops, veiled, ifaces, maps, wideKeys, modest, calm, conditions, laid).
  DERIVED. THE GIVEN ROWS OF THIS SEAT. 4 by the template 'for every input the law returns true; each argument reads behind the call as it read before'; 0 by the template 'total and deterministic' (their statements: YtlndlclemhfekaaTotals.lean).
  GIVEN WITH THE SEED: the statements are not yours to turn. If you find one false, say at which input.
  Laid BY PROGRAM, IN A SANDBOX (cutbox-rows.mjs): the forced cells as the released guide's own fill.sh prints them over the translation b86d526db68ae629… (all of the seat's roots in one cut). By AI agents, Wed Nov 11 2026. No macro, syntax, notation, axiom, sorry.
-/
import Derived.Test.YtlndlclemhfekaaChecked
import GoSem.Claim
import GoSem.ClaimJoined
import GoSem.ClaimMapViews
import Derived.JoinedTies
import Derived.KernelRfl
namespace Go.Proofs.Ytlndlclemhfekaa
/- THE CELL 'sum', in the pinned program and in every row, IS THE sha256 OF THE DUMP (.gsa) THAT YtlndlclemhfekaaProg.lean LOADS. Nothing in Lean hashes anything: it is a label: what it is worth is what the hold of that sum in a sandbox is worth. -/
noncomputable def Try.pinned : Pinned := { name := "ytlndlclemhfekaa", sum := "b86d526db68ae629422a2daab88024a9d339f0dbf8f178b59e378742588431ad", checked := Try.checked }
namespace Rows
def none {H : Type} : Left H := { results := [], args := [] }

/-- 'laws.FnExactUltrafilters': WHATEVER THE INPUT: true; the input reads as it did. -/
def fnExactUltrafiltersSpec : ChangeSpec := { name := "fnExactUltrafilters", fn := fun _ => fun
  | [d] => { results := [.lit (.bool true)], args := [d] }
  | _ => none }
def fnExactUltrafiltersRow : OpenClaim := { program := "ytlndlclemhfekaa", sum := "b86d526db68ae629422a2daab88024a9d339f0dbf8f178b59e378742588431ad", func := "loop.example/g01078/laws.FnExactUltrafilters", spec := "fnExactUltrafilters", inPlace := ["internal/reflectlite.ValueOf", "internal/reflectlite.Swapper", "(internal/reflectlite.Value).Len"], unfollowed := true, recurses := true, apart := false }
def FnExactUltrafiltersSaid : Prop := fnExactUltrafiltersRow.holds Try.pinned (OpenSpec.ofChange fnExactUltrafiltersSpec)

/-- ITS FALSE NEIGHBOUR: 'it returns false'. Refute it at one input. -/
def fnExactUltrafiltersWrong : ChangeSpec := { name := "fnExactUltrafilters", fn := fun _ => fun
  | [d] => { results := [.lit (.bool false)], args := [d] }
  | _ => none }
def FnExactUltrafiltersWrongFalsely : Prop := fnExactUltrafiltersRow.holds Try.pinned (OpenSpec.ofChange fnExactUltrafiltersWrong)

/-- 'laws.FnExactBooleanSubs': WHATEVER THE INPUT: true; the input reads as it did. -/
def fnExactBooleanSubsSpec : ChangeSpec := { name := "fnExactBooleanSubs", fn := fun _ => fun
  | [d] => { results := [.lit (.bool true)], args := [d] }
  | _ => none }
def fnExactBooleanSubsRow : OpenClaim := { program := "ytlndlclemhfekaa", sum := "b86d526db68ae629422a2daab88024a9d339f0dbf8f178b59e378742588431ad", func := "loop.example/g01078/laws.FnExactBooleanSubs", spec := "fnExactBooleanSubs", inPlace := ["internal/reflectlite.ValueOf", "internal/reflectlite.Swapper", "(internal/reflectlite.Value).Len"], unfollowed := true, recurses := true, apart := false }
def FnExactBooleanSubsSaid : Prop := fnExactBooleanSubsRow.holds Try.pinned (OpenSpec.ofChange fnExactBooleanSubsSpec)

/-- ITS FALSE NEIGHBOUR: 'it returns false'. Refute it at one input. -/
def fnExactBooleanSubsWrong : ChangeSpec := { name := "fnExactBooleanSubs", fn := fun _ => fun
  | [d] => { results := [.lit (.bool false)], args := [d] }
  | _ => none }
def FnExactBooleanSubsWrongFalsely : Prop := fnExactBooleanSubsRow.holds Try.pinned (OpenSpec.ofChange fnExactBooleanSubsWrong)

/-- 'laws.FnExactIsSimpleLattice': WHATEVER THE INPUT: true; the input reads as it did. -/
def fnExactIsSimpleLatticeSpec : ChangeSpec := { name := "fnExactIsSimpleLattice", fn := fun _ => fun
  | [d] => { results := [.lit (.bool true)], args := [d] }
  | _ => none }
def fnExactIsSimpleLatticeRow : OpenClaim := { program := "ytlndlclemhfekaa", sum := "b86d526db68ae629422a2daab88024a9d339f0dbf8f178b59e378742588431ad", func := "loop.example/g01078/laws.FnExactIsSimpleLattice", spec := "fnExactIsSimpleLattice", inPlace := ["internal/reflectlite.ValueOf", "internal/reflectlite.Swapper", "(internal/reflectlite.Value).Len"], unfollowed := true, recurses := true, apart := false }
def FnExactIsSimpleLatticeSaid : Prop := fnExactIsSimpleLatticeRow.holds Try.pinned (OpenSpec.ofChange fnExactIsSimpleLatticeSpec)

/-- ITS FALSE NEIGHBOUR: 'it returns false'. Refute it at one input. -/
def fnExactIsSimpleLatticeWrong : ChangeSpec := { name := "fnExactIsSimpleLattice", fn := fun _ => fun
  | [d] => { results := [.lit (.bool false)], args := [d] }
  | _ => none }
def FnExactIsSimpleLatticeWrongFalsely : Prop := fnExactIsSimpleLatticeRow.holds Try.pinned (OpenSpec.ofChange fnExactIsSimpleLatticeWrong)

/-- 'laws.FnExactLatticeCongruences': WHATEVER THE INPUT: true; the input reads as it did. -/
def fnExactLatticeCongruencesSpec : ChangeSpec := { name := "fnExactLatticeCongruences", fn := fun _ => fun
  | [d] => { results := [.lit (.bool true)], args := [d] }
  | _ => none }
def fnExactLatticeCongruencesRow : OpenClaim := { program := "ytlndlclemhfekaa", sum := "b86d526db68ae629422a2daab88024a9d339f0dbf8f178b59e378742588431ad", func := "loop.example/g01078/laws.FnExactLatticeCongruences", spec := "fnExactLatticeCongruences", inPlace := ["internal/reflectlite.ValueOf", "internal/reflectlite.Swapper", "(internal/reflectlite.Value).Len"], unfollowed := true, recurses := true, apart := false }
def FnExactLatticeCongruencesSaid : Prop := fnExactLatticeCongruencesRow.holds Try.pinned (OpenSpec.ofChange fnExactLatticeCongruencesSpec)

/-- ITS FALSE NEIGHBOUR: 'it returns false'. Refute it at one input. -/
def fnExactLatticeCongruencesWrong : ChangeSpec := { name := "fnExactLatticeCongruences", fn := fun _ => fun
  | [d] => { results := [.lit (.bool false)], args := [d] }
  | _ => none }
def FnExactLatticeCongruencesWrongFalsely : Prop := fnExactLatticeCongruencesRow.holds Try.pinned (OpenSpec.ofChange fnExactLatticeCongruencesWrong)

/- THE SECOND FORM. 'bulk': how many values and letters a reading holds, each counted each time it is reached (what is shared counts as often as it is met; a slice's spare places count too). A statement '..UptoSaid' is the law's where the arguments, and the package variables that the reading takes, are together of bulk at most 1048576: NARROWER than '..Said'. Prove '..Said' where nothing that the law and all that it calls make is longer than what came in: it says more and counts as full. Else prove '..UptoSaid'. A law counts once. -/
mutual
def uptoBulk {H : Type} : DataW H → Nat
  | .lit (.string bytes) => bytes.length + 1
  | .lit _ => 1
  | .nil => 1
  | .ptr d => uptoBulk d + 1
  | .slice elems spare => uptoBulkAll elems + uptoBulkAll spare + 1
  | .agg parts => uptoBulkAll parts + 1
  | .iface _ d => uptoBulk d + 1
  | .map entries => uptoBulkEntries entries + 1
  | .held _ => 1
def uptoBulkAll {H : Type} : List (DataW H) → Nat
  | [] => 0
  | d :: r => uptoBulk d + uptoBulkAll r
def uptoBulkEntries {H : Type} : List (Lit × DataW H) → Nat
  | [] => 0
  | x :: r => uptoBulkEntry x + uptoBulkEntries r
def uptoBulkEntry {H : Type} : Lit × DataW H → Nat
  | (.string bytes, d) => bytes.length + uptoBulk d + 1
  | (_, d) => uptoBulk d + 1
 end
def uptoSmall : (H : Type) → List (DataW H) → Bool := fun _ ds => decide (uptoBulkAll ds ≤ 1048576)
def OpenSpec.upto (s : _root_.Go.ChangeSpec) : _root_.Go.OpenSpec := { _root_.Go.OpenSpec.ofChange s with cond := some uptoSmall }

/-- 'laws.FnExactUltrafilters', WHERE WHAT IT READS IS OF BULK AT MOST 1048576: true; the input reads as it did. -/
def fnExactUltrafiltersUptoRow : OpenClaim := { program := "ytlndlclemhfekaa", sum := "b86d526db68ae629422a2daab88024a9d339f0dbf8f178b59e378742588431ad", func := "loop.example/g01078/laws.FnExactUltrafilters", spec := "fnExactUltrafilters", inPlace := ["internal/reflectlite.ValueOf", "internal/reflectlite.Swapper", "(internal/reflectlite.Value).Len"], unfollowed := true, recurses := true, apart := false, narrowed := true }
def FnExactUltrafiltersUptoSaid : Prop := fnExactUltrafiltersUptoRow.holds Try.pinned (OpenSpec.upto fnExactUltrafiltersSpec)

/-- 'laws.FnExactBooleanSubs', WHERE WHAT IT READS IS OF BULK AT MOST 1048576: true; the input reads as it did. -/
def fnExactBooleanSubsUptoRow : OpenClaim := { program := "ytlndlclemhfekaa", sum := "b86d526db68ae629422a2daab88024a9d339f0dbf8f178b59e378742588431ad", func := "loop.example/g01078/laws.FnExactBooleanSubs", spec := "fnExactBooleanSubs", inPlace := ["internal/reflectlite.ValueOf", "internal/reflectlite.Swapper", "(internal/reflectlite.Value).Len"], unfollowed := true, recurses := true, apart := false, narrowed := true }
def FnExactBooleanSubsUptoSaid : Prop := fnExactBooleanSubsUptoRow.holds Try.pinned (OpenSpec.upto fnExactBooleanSubsSpec)

/-- 'laws.FnExactIsSimpleLattice', WHERE WHAT IT READS IS OF BULK AT MOST 1048576: true; the input reads as it did. -/
def fnExactIsSimpleLatticeUptoRow : OpenClaim := { program := "ytlndlclemhfekaa", sum := "b86d526db68ae629422a2daab88024a9d339f0dbf8f178b59e378742588431ad", func := "loop.example/g01078/laws.FnExactIsSimpleLattice", spec := "fnExactIsSimpleLattice", inPlace := ["internal/reflectlite.ValueOf", "internal/reflectlite.Swapper", "(internal/reflectlite.Value).Len"], unfollowed := true, recurses := true, apart := false, narrowed := true }
def FnExactIsSimpleLatticeUptoSaid : Prop := fnExactIsSimpleLatticeUptoRow.holds Try.pinned (OpenSpec.upto fnExactIsSimpleLatticeSpec)

/-- 'laws.FnExactLatticeCongruences', WHERE WHAT IT READS IS OF BULK AT MOST 1048576: true; the input reads as it did. -/
def fnExactLatticeCongruencesUptoRow : OpenClaim := { program := "ytlndlclemhfekaa", sum := "b86d526db68ae629422a2daab88024a9d339f0dbf8f178b59e378742588431ad", func := "loop.example/g01078/laws.FnExactLatticeCongruences", spec := "fnExactLatticeCongruences", inPlace := ["internal/reflectlite.ValueOf", "internal/reflectlite.Swapper", "(internal/reflectlite.Value).Len"], unfollowed := true, recurses := true, apart := false, narrowed := true }
def FnExactLatticeCongruencesUptoSaid : Prop := fnExactLatticeCongruencesUptoRow.holds Try.pinned (OpenSpec.upto fnExactLatticeCongruencesSpec)

end Rows
end Go.Proofs.Ytlndlclemhfekaa
