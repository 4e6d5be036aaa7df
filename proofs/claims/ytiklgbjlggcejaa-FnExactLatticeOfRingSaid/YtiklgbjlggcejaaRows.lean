/-
  No cell of these rows narrows 'for every input' (looked for: loops, veiled, ifaces, maps, wideKeys, modest, calm, conditions, laid).
  DERIVED. THE GIVEN ROWS OF THIS SEAT. 5 by the template 'for every input the law returns true; each argument reads behind the call as it read before'; 0 by the template 'total and deterministic' (their statements: YtiklgbjlggcejaaTotals.lean).
  GIVEN WITH THE SEED: the statements are not yours to turn. If you find one false, say at which input.
  Laid BY PROGRAM, IN A SANDBOX (cutbox-rows.mjs): the forced cells as the released guide's own fill.sh prints them over the translation a3b64bea06cdc440… (all of the seat's roots in one cut). By AI agents, Wed Nov 11 2026. No macro, syntax, notation, axiom, sorry.
-/
import Derived.Test.YtiklgbjlggcejaaChecked
import GoSem.Claim
import GoSem.ClaimJoined
import GoSem.ClaimMapViews
import Derived.JoinedTies
import Derived.KernelRfl
namespace Go.Proofs.Ytiklgbjlggcejaa
/- THE CELL 'sum', in the pinned program and in every row, IS THE sha256 OF THE DUMP (.gsa) THAT YtiklgbjlggcejaaProg.lean LOADS. Nothing in Lean hashes anything: it is a label: what it is worth is what the hold of that sum in a sandbox is worth. -/
noncomputable def Try.pinned : Pinned := { name := "ytiklgbjlggcejaa", sum := "a3b64bea06cdc440ec4e951a721ff9c9d3c52169cb36f98c0e9f8eeb913cb356", checked := Try.checked }
namespace Rows
def none {H : Type} : Left H := { results := [], args := [] }

/-- 'laws.FnExactWordBelow': WHATEVER THE INPUT: true; the input reads as it did. -/
def fnExactWordBelowSpec : ChangeSpec := { name := "fnExactWordBelow", fn := fun _ => fun
  | [d1, d2] => { results := [.lit (.bool true)], args := [d1, d2] }
  | _ => none }
def fnExactWordBelowRow : OpenClaim := { program := "ytiklgbjlggcejaa", sum := "a3b64bea06cdc440ec4e951a721ff9c9d3c52169cb36f98c0e9f8eeb913cb356", func := "loop.example/g01078/laws.FnExactWordBelow", spec := "fnExactWordBelow", recurses := true, plainKeys := false, apart := false }
def FnExactWordBelowSaid : Prop := fnExactWordBelowRow.holds Try.pinned (OpenSpec.ofChange fnExactWordBelowSpec)

/-- ITS FALSE NEIGHBOUR: 'it returns false'. Refute it at one input. -/
def fnExactWordBelowWrong : ChangeSpec := { name := "fnExactWordBelow", fn := fun _ => fun
  | [d1, d2] => { results := [.lit (.bool false)], args := [d1, d2] }
  | _ => none }
def FnExactWordBelowWrongFalsely : Prop := fnExactWordBelowRow.holds Try.pinned (OpenSpec.ofChange fnExactWordBelowWrong)

/-- 'laws.FnExactWordsEqual': WHATEVER THE INPUT: true; the input reads as it did. -/
def fnExactWordsEqualSpec : ChangeSpec := { name := "fnExactWordsEqual", fn := fun _ => fun
  | [d1, d2] => { results := [.lit (.bool true)], args := [d1, d2] }
  | _ => none }
def fnExactWordsEqualRow : OpenClaim := { program := "ytiklgbjlggcejaa", sum := "a3b64bea06cdc440ec4e951a721ff9c9d3c52169cb36f98c0e9f8eeb913cb356", func := "loop.example/g01078/laws.FnExactWordsEqual", spec := "fnExactWordsEqual", recurses := true, plainKeys := false, apart := false }
def FnExactWordsEqualSaid : Prop := fnExactWordsEqualRow.holds Try.pinned (OpenSpec.ofChange fnExactWordsEqualSpec)

/-- ITS FALSE NEIGHBOUR: 'it returns false'. Refute it at one input. -/
def fnExactWordsEqualWrong : ChangeSpec := { name := "fnExactWordsEqual", fn := fun _ => fun
  | [d1, d2] => { results := [.lit (.bool false)], args := [d1, d2] }
  | _ => none }
def FnExactWordsEqualWrongFalsely : Prop := fnExactWordsEqualRow.holds Try.pinned (OpenSpec.ofChange fnExactWordsEqualWrong)

/-- 'laws.FnExactParseWord': WHATEVER THE INPUT: true; the input reads as it did. -/
def fnExactParseWordSpec : ChangeSpec := { name := "fnExactParseWord", fn := fun _ => fun
  | [d] => { results := [.lit (.bool true)], args := [d] }
  | _ => none }
def fnExactParseWordRow : OpenClaim := { program := "ytiklgbjlggcejaa", sum := "a3b64bea06cdc440ec4e951a721ff9c9d3c52169cb36f98c0e9f8eeb913cb356", func := "loop.example/g01078/laws.FnExactParseWord", spec := "fnExactParseWord", recurses := true, plainKeys := false, apart := false }
def FnExactParseWordSaid : Prop := fnExactParseWordRow.holds Try.pinned (OpenSpec.ofChange fnExactParseWordSpec)

/-- ITS FALSE NEIGHBOUR: 'it returns false'. Refute it at one input. -/
def fnExactParseWordWrong : ChangeSpec := { name := "fnExactParseWord", fn := fun _ => fun
  | [d] => { results := [.lit (.bool false)], args := [d] }
  | _ => none }
def FnExactParseWordWrongFalsely : Prop := fnExactParseWordRow.holds Try.pinned (OpenSpec.ofChange fnExactParseWordWrong)

/-- 'laws.FnExactProjectiveTo': WHATEVER THE INPUT: true; the input reads as it did. -/
def fnExactProjectiveToSpec : ChangeSpec := { name := "fnExactProjectiveTo", fn := fun _ => fun
  | [d1, d2, d3] => { results := [.lit (.bool true)], args := [d1, d2, d3] }
  | _ => none }
def fnExactProjectiveToRow : OpenClaim := { program := "ytiklgbjlggcejaa", sum := "a3b64bea06cdc440ec4e951a721ff9c9d3c52169cb36f98c0e9f8eeb913cb356", func := "loop.example/g01078/laws.FnExactProjectiveTo", spec := "fnExactProjectiveTo", unfollowed := true, recurses := true, plainKeys := false, apart := false }
def FnExactProjectiveToSaid : Prop := fnExactProjectiveToRow.holds Try.pinned (OpenSpec.ofChange fnExactProjectiveToSpec)

/-- ITS FALSE NEIGHBOUR: 'it returns false'. Refute it at one input. -/
def fnExactProjectiveToWrong : ChangeSpec := { name := "fnExactProjectiveTo", fn := fun _ => fun
  | [d1, d2, d3] => { results := [.lit (.bool false)], args := [d1, d2, d3] }
  | _ => none }
def FnExactProjectiveToWrongFalsely : Prop := fnExactProjectiveToRow.holds Try.pinned (OpenSpec.ofChange fnExactProjectiveToWrong)

/-- 'laws.FnExactLatticeOfRing': WHATEVER THE INPUT: true; the input reads as it did. -/
def fnExactLatticeOfRingSpec : ChangeSpec := { name := "fnExactLatticeOfRing", fn := fun _ => fun
  | [d] => { results := [.lit (.bool true)], args := [d] }
  | _ => none }
def fnExactLatticeOfRingRow : OpenClaim := { program := "ytiklgbjlggcejaa", sum := "a3b64bea06cdc440ec4e951a721ff9c9d3c52169cb36f98c0e9f8eeb913cb356", func := "loop.example/g01078/laws.FnExactLatticeOfRing", spec := "fnExactLatticeOfRing", unfollowed := true, recurses := true, plainKeys := false, apart := false }
def FnExactLatticeOfRingSaid : Prop := fnExactLatticeOfRingRow.holds Try.pinned (OpenSpec.ofChange fnExactLatticeOfRingSpec)

/-- ITS FALSE NEIGHBOUR: 'it returns false'. Refute it at one input. -/
def fnExactLatticeOfRingWrong : ChangeSpec := { name := "fnExactLatticeOfRing", fn := fun _ => fun
  | [d] => { results := [.lit (.bool false)], args := [d] }
  | _ => none }
def FnExactLatticeOfRingWrongFalsely : Prop := fnExactLatticeOfRingRow.holds Try.pinned (OpenSpec.ofChange fnExactLatticeOfRingWrong)

/- THE SECOND FORM. 'bulk': how many values and letters a reading holds, each counted each time it is reached (what is shared counts as often as it is met; a slice's spare places count too). A statement '..UptoSaid' is the law's where the arguments, and the package variables that the reading takes, are together of bulk at most 1048576: NARROWER than '..Said'. Prove '..Said' where nothing that the law and all that it calls make is longer than what came in: it says more and counts as full. Else prove '..UptoSaid'. A law counts once. -/
mutual
def uptoBulk {H : Type} : DataW H → Nat
  | .lit (.string bytes) => bytes.length + 1
  | .lit _ => 1
  | .nil => 1
  | .ptr d => uptoBulk d + 1
  | .slice elems spare => uptoBulkAll elems + uptoBulkAll spare + 1
  | .agg parts => uptoBulkAll parts + 1
  | .iface _ d => uptoBulk d + 1
  | .map entries => uptoBulkEntries entries + 1
  | .held _ => 1
def uptoBulkAll {H : Type} : List (DataW H) → Nat
  | [] => 0
  | d :: r => uptoBulk d + uptoBulkAll r
def uptoBulkEntries {H : Type} : List (Lit × DataW H) → Nat
  | [] => 0
  | x :: r => uptoBulkEntry x + uptoBulkEntries r
def uptoBulkEntry {H : Type} : Lit × DataW H → Nat
  | (.string bytes, d) => bytes.length + uptoBulk d + 1
  | (_, d) => uptoBulk d + 1
 end
def uptoSmall : (H : Type) → List (DataW H) → Bool := fun _ ds => decide (uptoBulkAll ds ≤ 1048576)
def OpenSpec.upto (s : _root_.Go.ChangeSpec) : _root_.Go.OpenSpec := { _root_.Go.OpenSpec.ofChange s with cond := some uptoSmall }

/-- 'laws.FnExactWordBelow', WHERE WHAT IT READS IS OF BULK AT MOST 1048576: true; the input reads as it did. -/
def fnExactWordBelowUptoRow : OpenClaim := { program := "ytiklgbjlggcejaa", sum := "a3b64bea06cdc440ec4e951a721ff9c9d3c52169cb36f98c0e9f8eeb913cb356", func := "loop.example/g01078/laws.FnExactWordBelow", spec := "fnExactWordBelow", recurses := true, plainKeys := false, apart := false, narrowed := true }
def FnExactWordBelowUptoSaid : Prop := fnExactWordBelowUptoRow.holds Try.pinned (OpenSpec.upto fnExactWordBelowSpec)

/-- 'laws.FnExactWordsEqual', WHERE WHAT IT READS IS OF BULK AT MOST 1048576: true; the input reads as it did. -/
def fnExactWordsEqualUptoRow : OpenClaim := { program := "ytiklgbjlggcejaa", sum := "a3b64bea06cdc440ec4e951a721ff9c9d3c52169cb36f98c0e9f8eeb913cb356", func := "loop.example/g01078/laws.FnExactWordsEqual", spec := "fnExactWordsEqual", recurses := true, plainKeys := false, apart := false, narrowed := true }
def FnExactWordsEqualUptoSaid : Prop := fnExactWordsEqualUptoRow.holds Try.pinned (OpenSpec.upto fnExactWordsEqualSpec)

/-- 'laws.FnExactParseWord', WHERE WHAT IT READS IS OF BULK AT MOST 1048576: true; the input reads as it did. -/
def fnExactParseWordUptoRow : OpenClaim := { program := "ytiklgbjlggcejaa", sum := "a3b64bea06cdc440ec4e951a721ff9c9d3c52169cb36f98c0e9f8eeb913cb356", func := "loop.example/g01078/laws.FnExactParseWord", spec := "fnExactParseWord", recurses := true, plainKeys := false, apart := false, narrowed := true }
def FnExactParseWordUptoSaid : Prop := fnExactParseWordUptoRow.holds Try.pinned (OpenSpec.upto fnExactParseWordSpec)

/-- 'laws.FnExactProjectiveTo', WHERE WHAT IT READS IS OF BULK AT MOST 1048576: true; the input reads as it did. -/
def fnExactProjectiveToUptoRow : OpenClaim := { program := "ytiklgbjlggcejaa", sum := "a3b64bea06cdc440ec4e951a721ff9c9d3c52169cb36f98c0e9f8eeb913cb356", func := "loop.example/g01078/laws.FnExactProjectiveTo", spec := "fnExactProjectiveTo", unfollowed := true, recurses := true, plainKeys := false, apart := false, narrowed := true }
def FnExactProjectiveToUptoSaid : Prop := fnExactProjectiveToUptoRow.holds Try.pinned (OpenSpec.upto fnExactProjectiveToSpec)

/-- 'laws.FnExactLatticeOfRing', WHERE WHAT IT READS IS OF BULK AT MOST 1048576: true; the input reads as it did. -/
def fnExactLatticeOfRingUptoRow : OpenClaim := { program := "ytiklgbjlggcejaa", sum := "a3b64bea06cdc440ec4e951a721ff9c9d3c52169cb36f98c0e9f8eeb913cb356", func := "loop.example/g01078/laws.FnExactLatticeOfRing", spec := "fnExactLatticeOfRing", unfollowed := true, recurses := true, plainKeys := false, apart := false, narrowed := true }
def FnExactLatticeOfRingUptoSaid : Prop := fnExactLatticeOfRingUptoRow.holds Try.pinned (OpenSpec.upto fnExactLatticeOfRingSpec)

end Rows
end Go.Proofs.Ytiklgbjlggcejaa
