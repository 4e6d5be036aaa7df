/-
  No cell of these rows narrows 'for every input' (looked for: loops, veiled, ifaces, maps, wideKeys, modest, calm, conditions, laid).
  DERIVED. THE GIVEN ROWS OF THIS SEAT. 12 by the template 'for every input the law returns true; each argument reads behind the call as it read before'; 0 by the template 'total and deterministic' (their statements: YtpomjejencfiiaaTotals.lean).
  GIVEN WITH THE SEED: the statements are not yours to turn. If you find one false, say at which input.
  Laid BY PROGRAM, IN A SANDBOX (cutbox-rows.mjs): the forced cells as the released guide's own fill.sh prints them over the translation 67dd8e50f369e7ae… (all of the seat's roots in one cut). By AI agents, Wed Nov 11 2026. No macro, syntax, notation, axiom, sorry.
-/
import Derived.Test.YtpomjejencfiiaaChecked
import GoSem.Claim
import GoSem.ClaimJoined
import GoSem.ClaimMapViews
import Derived.JoinedTies
import Derived.KernelRfl
namespace Go.Proofs.Ytpomjejencfiiaa
/- THE CELL 'sum', in the pinned program and in every row, IS THE sha256 OF THE DUMP (.gsa) THAT YtpomjejencfiiaaProg.lean LOADS. Nothing in Lean hashes anything: it is a label: what it is worth is what the hold of that sum in a sandbox is worth. -/
noncomputable def Try.pinned : Pinned := { name := "ytpomjejencfiiaa", sum := "67dd8e50f369e7ae26b5fa1567fffe0492641c3f4a7611e085d07b4d1ba01738", checked := Try.checked }
namespace Rows
def none {H : Type} : Left H := { results := [], args := [] }

/-- 'laws.FnExactFreeBooleanSize': WHATEVER THE INPUT: true; the input reads as it did. -/
def fnExactFreeBooleanSizeSpec : ChangeSpec := { name := "fnExactFreeBooleanSize", fn := fun _ => fun
  | [d] => { results := [.lit (.bool true)], args := [d] }
  | _ => none }
def fnExactFreeBooleanSizeRow : OpenClaim := { program := "ytpomjejencfiiaa", sum := "67dd8e50f369e7ae26b5fa1567fffe0492641c3f4a7611e085d07b4d1ba01738", func := "loop.example/g01078/laws.FnExactFreeBooleanSize", spec := "fnExactFreeBooleanSize", plainKeys := false, apart := false }
def FnExactFreeBooleanSizeSaid : Prop := fnExactFreeBooleanSizeRow.holds Try.pinned (OpenSpec.ofChange fnExactFreeBooleanSizeSpec)

/-- ITS FALSE NEIGHBOUR: 'it returns false'. Refute it at one input. -/
def fnExactFreeBooleanSizeWrong : ChangeSpec := { name := "fnExactFreeBooleanSize", fn := fun _ => fun
  | [d] => { results := [.lit (.bool false)], args := [d] }
  | _ => none }
def FnExactFreeBooleanSizeWrongFalsely : Prop := fnExactFreeBooleanSizeRow.holds Try.pinned (OpenSpec.ofChange fnExactFreeBooleanSizeWrong)

/-- 'laws.FnExactIsWord': WHATEVER THE INPUT: true; the input reads as it did. -/
def fnExactIsWordSpec : ChangeSpec := { name := "fnExactIsWord", fn := fun _ => fun
  | [d] => { results := [.lit (.bool true)], args := [d] }
  | _ => none }
def fnExactIsWordRow : OpenClaim := { program := "ytpomjejencfiiaa", sum := "67dd8e50f369e7ae26b5fa1567fffe0492641c3f4a7611e085d07b4d1ba01738", func := "loop.example/g01078/laws.FnExactIsWord", spec := "fnExactIsWord", plainKeys := false, apart := false }
def FnExactIsWordSaid : Prop := fnExactIsWordRow.holds Try.pinned (OpenSpec.ofChange fnExactIsWordSpec)

/-- ITS FALSE NEIGHBOUR: 'it returns false'. Refute it at one input. -/
def fnExactIsWordWrong : ChangeSpec := { name := "fnExactIsWord", fn := fun _ => fun
  | [d] => { results := [.lit (.bool false)], args := [d] }
  | _ => none }
def FnExactIsWordWrongFalsely : Prop := fnExactIsWordRow.holds Try.pinned (OpenSpec.ofChange fnExactIsWordWrong)

/-- 'laws.FnExactWordSize': WHATEVER THE INPUT: true; the input reads as it did. -/
def fnExactWordSizeSpec : ChangeSpec := { name := "fnExactWordSize", fn := fun _ => fun
  | [d] => { results := [.lit (.bool true)], args := [d] }
  | _ => none }
def fnExactWordSizeRow : OpenClaim := { program := "ytpomjejencfiiaa", sum := "67dd8e50f369e7ae26b5fa1567fffe0492641c3f4a7611e085d07b4d1ba01738", func := "loop.example/g01078/laws.FnExactWordSize", spec := "fnExactWordSize", plainKeys := false, apart := false }
def FnExactWordSizeSaid : Prop := fnExactWordSizeRow.holds Try.pinned (OpenSpec.ofChange fnExactWordSizeSpec)

/-- ITS FALSE NEIGHBOUR: 'it returns false'. Refute it at one input. -/
def fnExactWordSizeWrong : ChangeSpec := { name := "fnExactWordSize", fn := fun _ => fun
  | [d] => { results := [.lit (.bool false)], args := [d] }
  | _ => none }
def FnExactWordSizeWrongFalsely : Prop := fnExactWordSizeRow.holds Try.pinned (OpenSpec.ofChange fnExactWordSizeWrong)

/-- 'laws.FnExactIsContext': WHATEVER THE INPUT: true; the input reads as it did. -/
def fnExactIsContextSpec : ChangeSpec := { name := "fnExactIsContext", fn := fun _ => fun
  | [d] => { results := [.lit (.bool true)], args := [d] }
  | _ => none }
def fnExactIsContextRow : OpenClaim := { program := "ytpomjejencfiiaa", sum := "67dd8e50f369e7ae26b5fa1567fffe0492641c3f4a7611e085d07b4d1ba01738", func := "loop.example/g01078/laws.FnExactIsContext", spec := "fnExactIsContext", plainKeys := false, apart := false }
def FnExactIsContextSaid : Prop := fnExactIsContextRow.holds Try.pinned (OpenSpec.ofChange fnExactIsContextSpec)

/-- ITS FALSE NEIGHBOUR: 'it returns false'. Refute it at one input. -/
def fnExactIsContextWrong : ChangeSpec := { name := "fnExactIsContext", fn := fun _ => fun
  | [d] => { results := [.lit (.bool false)], args := [d] }
  | _ => none }
def FnExactIsContextWrongFalsely : Prop := fnExactIsContextRow.holds Try.pinned (OpenSpec.ofChange fnExactIsContextWrong)

/-- 'laws.FnExactJoinWords': WHATEVER THE INPUT: true; the input reads as it did. -/
def fnExactJoinWordsSpec : ChangeSpec := { name := "fnExactJoinWords", fn := fun _ => fun
  | [d1, d2] => { results := [.lit (.bool true)], args := [d1, d2] }
  | _ => none }
def fnExactJoinWordsRow : OpenClaim := { program := "ytpomjejencfiiaa", sum := "67dd8e50f369e7ae26b5fa1567fffe0492641c3f4a7611e085d07b4d1ba01738", func := "loop.example/g01078/laws.FnExactJoinWords", spec := "fnExactJoinWords", plainKeys := false, apart := false }
def FnExactJoinWordsSaid : Prop := fnExactJoinWordsRow.holds Try.pinned (OpenSpec.ofChange fnExactJoinWordsSpec)

/-- ITS FALSE NEIGHBOUR: 'it returns false'. Refute it at one input. -/
def fnExactJoinWordsWrong : ChangeSpec := { name := "fnExactJoinWords", fn := fun _ => fun
  | [d1, d2] => { results := [.lit (.bool false)], args := [d1, d2] }
  | _ => none }
def FnExactJoinWordsWrongFalsely : Prop := fnExactJoinWordsRow.holds Try.pinned (OpenSpec.ofChange fnExactJoinWordsWrong)

/-- 'laws.FnExactMeetWords': WHATEVER THE INPUT: true; the input reads as it did. -/
def fnExactMeetWordsSpec : ChangeSpec := { name := "fnExactMeetWords", fn := fun _ => fun
  | [d1, d2] => { results := [.lit (.bool true)], args := [d1, d2] }
  | _ => none }
def fnExactMeetWordsRow : OpenClaim := { program := "ytpomjejencfiiaa", sum := "67dd8e50f369e7ae26b5fa1567fffe0492641c3f4a7611e085d07b4d1ba01738", func := "loop.example/g01078/laws.FnExactMeetWords", spec := "fnExactMeetWords", plainKeys := false, apart := false }
def FnExactMeetWordsSaid : Prop := fnExactMeetWordsRow.holds Try.pinned (OpenSpec.ofChange fnExactMeetWordsSpec)

/-- ITS FALSE NEIGHBOUR: 'it returns false'. Refute it at one input. -/
def fnExactMeetWordsWrong : ChangeSpec := { name := "fnExactMeetWords", fn := fun _ => fun
  | [d1, d2] => { results := [.lit (.bool false)], args := [d1, d2] }
  | _ => none }
def FnExactMeetWordsWrongFalsely : Prop := fnExactMeetWordsRow.holds Try.pinned (OpenSpec.ofChange fnExactMeetWordsWrong)

/-- 'laws.FnExactDualWord': WHATEVER THE INPUT: true; the input reads as it did. -/
def fnExactDualWordSpec : ChangeSpec := { name := "fnExactDualWord", fn := fun _ => fun
  | [d] => { results := [.lit (.bool true)], args := [d] }
  | _ => none }
def fnExactDualWordRow : OpenClaim := { program := "ytpomjejencfiiaa", sum := "67dd8e50f369e7ae26b5fa1567fffe0492641c3f4a7611e085d07b4d1ba01738", func := "loop.example/g01078/laws.FnExactDualWord", spec := "fnExactDualWord", plainKeys := false, apart := false }
def FnExactDualWordSaid : Prop := fnExactDualWordRow.holds Try.pinned (OpenSpec.ofChange fnExactDualWordSpec)

/-- ITS FALSE NEIGHBOUR: 'it returns false'. Refute it at one input. -/
def fnExactDualWordWrong : ChangeSpec := { name := "fnExactDualWord", fn := fun _ => fun
  | [d] => { results := [.lit (.bool false)], args := [d] }
  | _ => none }
def FnExactDualWordWrongFalsely : Prop := fnExactDualWordRow.holds Try.pinned (OpenSpec.ofChange fnExactDualWordWrong)

/-- 'laws.FnExactSubstituteWord': WHATEVER THE INPUT: true; the input reads as it did. -/
def fnExactSubstituteWordSpec : ChangeSpec := { name := "fnExactSubstituteWord", fn := fun _ => fun
  | [d1, d2, d3] => { results := [.lit (.bool true)], args := [d1, d2, d3] }
  | _ => none }
def fnExactSubstituteWordRow : OpenClaim := { program := "ytpomjejencfiiaa", sum := "67dd8e50f369e7ae26b5fa1567fffe0492641c3f4a7611e085d07b4d1ba01738", func := "loop.example/g01078/laws.FnExactSubstituteWord", spec := "fnExactSubstituteWord", plainKeys := false, apart := false }
def FnExactSubstituteWordSaid : Prop := fnExactSubstituteWordRow.holds Try.pinned (OpenSpec.ofChange fnExactSubstituteWordSpec)

/-- ITS FALSE NEIGHBOUR: 'it returns false'. Refute it at one input. -/
def fnExactSubstituteWordWrong : ChangeSpec := { name := "fnExactSubstituteWord", fn := fun _ => fun
  | [d1, d2, d3] => { results := [.lit (.bool false)], args := [d1, d2, d3] }
  | _ => none }
def FnExactSubstituteWordWrongFalsely : Prop := fnExactSubstituteWordRow.holds Try.pinned (OpenSpec.ofChange fnExactSubstituteWordWrong)

/-- 'laws.FnExactLettersOf': WHATEVER THE INPUT: true; the input reads as it did. -/
def fnExactLettersOfSpec : ChangeSpec := { name := "fnExactLettersOf", fn := fun _ => fun
  | [d] => { results := [.lit (.bool true)], args := [d] }
  | _ => none }
def fnExactLettersOfRow : OpenClaim := { program := "ytpomjejencfiiaa", sum := "67dd8e50f369e7ae26b5fa1567fffe0492641c3f4a7611e085d07b4d1ba01738", func := "loop.example/g01078/laws.FnExactLettersOf", spec := "fnExactLettersOf", plainKeys := false, apart := false }
def FnExactLettersOfSaid : Prop := fnExactLettersOfRow.holds Try.pinned (OpenSpec.ofChange fnExactLettersOfSpec)

/-- ITS FALSE NEIGHBOUR: 'it returns false'. Refute it at one input. -/
def fnExactLettersOfWrong : ChangeSpec := { name := "fnExactLettersOf", fn := fun _ => fun
  | [d] => { results := [.lit (.bool false)], args := [d] }
  | _ => none }
def FnExactLettersOfWrongFalsely : Prop := fnExactLettersOfRow.holds Try.pinned (OpenSpec.ofChange fnExactLettersOfWrong)

/-- 'laws.FnExactWordBelow': WHATEVER THE INPUT: true; the input reads as it did. -/
def fnExactWordBelowSpec : ChangeSpec := { name := "fnExactWordBelow", fn := fun _ => fun
  | [d1, d2] => { results := [.lit (.bool true)], args := [d1, d2] }
  | _ => none }
def fnExactWordBelowRow : OpenClaim := { program := "ytpomjejencfiiaa", sum := "67dd8e50f369e7ae26b5fa1567fffe0492641c3f4a7611e085d07b4d1ba01738", func := "loop.example/g01078/laws.FnExactWordBelow", spec := "fnExactWordBelow", recurses := true, plainKeys := false, apart := false }
def FnExactWordBelowSaid : Prop := fnExactWordBelowRow.holds Try.pinned (OpenSpec.ofChange fnExactWordBelowSpec)

/-- ITS FALSE NEIGHBOUR: 'it returns false'. Refute it at one input. -/
def fnExactWordBelowWrong : ChangeSpec := { name := "fnExactWordBelow", fn := fun _ => fun
  | [d1, d2] => { results := [.lit (.bool false)], args := [d1, d2] }
  | _ => none }
def FnExactWordBelowWrongFalsely : Prop := fnExactWordBelowRow.holds Try.pinned (OpenSpec.ofChange fnExactWordBelowWrong)

/-- 'laws.FnExactParseWord': WHATEVER THE INPUT: true; the input reads as it did. -/
def fnExactParseWordSpec : ChangeSpec := { name := "fnExactParseWord", fn := fun _ => fun
  | [d] => { results := [.lit (.bool true)], args := [d] }
  | _ => none }
def fnExactParseWordRow : OpenClaim := { program := "ytpomjejencfiiaa", sum := "67dd8e50f369e7ae26b5fa1567fffe0492641c3f4a7611e085d07b4d1ba01738", func := "loop.example/g01078/laws.FnExactParseWord", spec := "fnExactParseWord", recurses := true, plainKeys := false, apart := false }
def FnExactParseWordSaid : Prop := fnExactParseWordRow.holds Try.pinned (OpenSpec.ofChange fnExactParseWordSpec)

/-- ITS FALSE NEIGHBOUR: 'it returns false'. Refute it at one input. -/
def fnExactParseWordWrong : ChangeSpec := { name := "fnExactParseWord", fn := fun _ => fun
  | [d] => { results := [.lit (.bool false)], args := [d] }
  | _ => none }
def FnExactParseWordWrongFalsely : Prop := fnExactParseWordRow.holds Try.pinned (OpenSpec.ofChange fnExactParseWordWrong)

/-- 'laws.FnExactWordsEqual': WHATEVER THE INPUT: true; the input reads as it did. -/
def fnExactWordsEqualSpec : ChangeSpec := { name := "fnExactWordsEqual", fn := fun _ => fun
  | [d1, d2] => { results := [.lit (.bool true)], args := [d1, d2] }
  | _ => none }
def fnExactWordsEqualRow : OpenClaim := { program := "ytpomjejencfiiaa", sum := "67dd8e50f369e7ae26b5fa1567fffe0492641c3f4a7611e085d07b4d1ba01738", func := "loop.example/g01078/laws.FnExactWordsEqual", spec := "fnExactWordsEqual", recurses := true, plainKeys := false, apart := false }
def FnExactWordsEqualSaid : Prop := fnExactWordsEqualRow.holds Try.pinned (OpenSpec.ofChange fnExactWordsEqualSpec)

/-- ITS FALSE NEIGHBOUR: 'it returns false'. Refute it at one input. -/
def fnExactWordsEqualWrong : ChangeSpec := { name := "fnExactWordsEqual", fn := fun _ => fun
  | [d1, d2] => { results := [.lit (.bool false)], args := [d1, d2] }
  | _ => none }
def FnExactWordsEqualWrongFalsely : Prop := fnExactWordsEqualRow.holds Try.pinned (OpenSpec.ofChange fnExactWordsEqualWrong)

/- THE SECOND FORM. 'bulk': how many values and letters a reading holds, each counted each time it is reached (what is shared counts as often as it is met; a slice's spare places count too). A statement '..UptoSaid' is the law's where the arguments, and the package variables that the reading takes, are together of bulk at most 1048576: NARROWER than '..Said'. Prove '..Said' where nothing that the law and all that it calls make is longer than what came in: it says more and counts as full. Else prove '..UptoSaid'. A law counts once. -/
mutual
def uptoBulk {H : Type} : DataW H → Nat
  | .lit (.string bytes) => bytes.length + 1
  | .lit _ => 1
  | .nil => 1
  | .ptr d => uptoBulk d + 1
  | .slice elems spare => uptoBulkAll elems + uptoBulkAll spare + 1
  | .agg parts => uptoBulkAll parts + 1
  | .iface _ d => uptoBulk d + 1
  | .map entries => uptoBulkEntries entries + 1
  | .held _ => 1
def uptoBulkAll {H : Type} : List (DataW H) → Nat
  | [] => 0
  | d :: r => uptoBulk d + uptoBulkAll r
def uptoBulkEntries {H : Type} : List (Lit × DataW H) → Nat
  | [] => 0
  | x :: r => uptoBulkEntry x + uptoBulkEntries r
def uptoBulkEntry {H : Type} : Lit × DataW H → Nat
  | (.string bytes, d) => bytes.length + uptoBulk d + 1
  | (_, d) => uptoBulk d + 1
 end
def uptoSmall : (H : Type) → List (DataW H) → Bool := fun _ ds => decide (uptoBulkAll ds ≤ 1048576)
def OpenSpec.upto (s : _root_.Go.ChangeSpec) : _root_.Go.OpenSpec := { _root_.Go.OpenSpec.ofChange s with cond := some uptoSmall }

/-- 'laws.FnExactFreeBooleanSize', WHERE WHAT IT READS IS OF BULK AT MOST 1048576: true; the input reads as it did. -/
def fnExactFreeBooleanSizeUptoRow : OpenClaim := { program := "ytpomjejencfiiaa", sum := "67dd8e50f369e7ae26b5fa1567fffe0492641c3f4a7611e085d07b4d1ba01738", func := "loop.example/g01078/laws.FnExactFreeBooleanSize", spec := "fnExactFreeBooleanSize", plainKeys := false, apart := false, narrowed := true }
def FnExactFreeBooleanSizeUptoSaid : Prop := fnExactFreeBooleanSizeUptoRow.holds Try.pinned (OpenSpec.upto fnExactFreeBooleanSizeSpec)

/-- 'laws.FnExactIsWord', WHERE WHAT IT READS IS OF BULK AT MOST 1048576: true; the input reads as it did. -/
def fnExactIsWordUptoRow : OpenClaim := { program := "ytpomjejencfiiaa", sum := "67dd8e50f369e7ae26b5fa1567fffe0492641c3f4a7611e085d07b4d1ba01738", func := "loop.example/g01078/laws.FnExactIsWord", spec := "fnExactIsWord", plainKeys := false, apart := false, narrowed := true }
def FnExactIsWordUptoSaid : Prop := fnExactIsWordUptoRow.holds Try.pinned (OpenSpec.upto fnExactIsWordSpec)

/-- 'laws.FnExactWordSize', WHERE WHAT IT READS IS OF BULK AT MOST 1048576: true; the input reads as it did. -/
def fnExactWordSizeUptoRow : OpenClaim := { program := "ytpomjejencfiiaa", sum := "67dd8e50f369e7ae26b5fa1567fffe0492641c3f4a7611e085d07b4d1ba01738", func := "loop.example/g01078/laws.FnExactWordSize", spec := "fnExactWordSize", plainKeys := false, apart := false, narrowed := true }
def FnExactWordSizeUptoSaid : Prop := fnExactWordSizeUptoRow.holds Try.pinned (OpenSpec.upto fnExactWordSizeSpec)

/-- 'laws.FnExactIsContext', WHERE WHAT IT READS IS OF BULK AT MOST 1048576: true; the input reads as it did. -/
def fnExactIsContextUptoRow : OpenClaim := { program := "ytpomjejencfiiaa", sum := "67dd8e50f369e7ae26b5fa1567fffe0492641c3f4a7611e085d07b4d1ba01738", func := "loop.example/g01078/laws.FnExactIsContext", spec := "fnExactIsContext", plainKeys := false, apart := false, narrowed := true }
def FnExactIsContextUptoSaid : Prop := fnExactIsContextUptoRow.holds Try.pinned (OpenSpec.upto fnExactIsContextSpec)

/-- 'laws.FnExactJoinWords', WHERE WHAT IT READS IS OF BULK AT MOST 1048576: true; the input reads as it did. -/
def fnExactJoinWordsUptoRow : OpenClaim := { program := "ytpomjejencfiiaa", sum := "67dd8e50f369e7ae26b5fa1567fffe0492641c3f4a7611e085d07b4d1ba01738", func := "loop.example/g01078/laws.FnExactJoinWords", spec := "fnExactJoinWords", plainKeys := false, apart := false, narrowed := true }
def FnExactJoinWordsUptoSaid : Prop := fnExactJoinWordsUptoRow.holds Try.pinned (OpenSpec.upto fnExactJoinWordsSpec)

/-- 'laws.FnExactMeetWords', WHERE WHAT IT READS IS OF BULK AT MOST 1048576: true; the input reads as it did. -/
def fnExactMeetWordsUptoRow : OpenClaim := { program := "ytpomjejencfiiaa", sum := "67dd8e50f369e7ae26b5fa1567fffe0492641c3f4a7611e085d07b4d1ba01738", func := "loop.example/g01078/laws.FnExactMeetWords", spec := "fnExactMeetWords", plainKeys := false, apart := false, narrowed := true }
def FnExactMeetWordsUptoSaid : Prop := fnExactMeetWordsUptoRow.holds Try.pinned (OpenSpec.upto fnExactMeetWordsSpec)

/-- 'laws.FnExactDualWord', WHERE WHAT IT READS IS OF BULK AT MOST 1048576: true; the input reads as it did. -/
def fnExactDualWordUptoRow : OpenClaim := { program := "ytpomjejencfiiaa", sum := "67dd8e50f369e7ae26b5fa1567fffe0492641c3f4a7611e085d07b4d1ba01738", func := "loop.example/g01078/laws.FnExactDualWord", spec := "fnExactDualWord", plainKeys := false, apart := false, narrowed := true }
def FnExactDualWordUptoSaid : Prop := fnExactDualWordUptoRow.holds Try.pinned (OpenSpec.upto fnExactDualWordSpec)

/-- 'laws.FnExactSubstituteWord', WHERE WHAT IT READS IS OF BULK AT MOST 1048576: true; the input reads as it did. -/
def fnExactSubstituteWordUptoRow : OpenClaim := { program := "ytpomjejencfiiaa", sum := "67dd8e50f369e7ae26b5fa1567fffe0492641c3f4a7611e085d07b4d1ba01738", func := "loop.example/g01078/laws.FnExactSubstituteWord", spec := "fnExactSubstituteWord", plainKeys := false, apart := false, narrowed := true }
def FnExactSubstituteWordUptoSaid : Prop := fnExactSubstituteWordUptoRow.holds Try.pinned (OpenSpec.upto fnExactSubstituteWordSpec)

/-- 'laws.FnExactLettersOf', WHERE WHAT IT READS IS OF BULK AT MOST 1048576: true; the input reads as it did. -/
def fnExactLettersOfUptoRow : OpenClaim := { program := "ytpomjejencfiiaa", sum := "67dd8e50f369e7ae26b5fa1567fffe0492641c3f4a7611e085d07b4d1ba01738", func := "loop.example/g01078/laws.FnExactLettersOf", spec := "fnExactLettersOf", plainKeys := false, apart := false, narrowed := true }
def FnExactLettersOfUptoSaid : Prop := fnExactLettersOfUptoRow.holds Try.pinned (OpenSpec.upto fnExactLettersOfSpec)

/-- 'laws.FnExactWordBelow', WHERE WHAT IT READS IS OF BULK AT MOST 1048576: true; the input reads as it did. -/
def fnExactWordBelowUptoRow : OpenClaim := { program := "ytpomjejencfiiaa", sum := "67dd8e50f369e7ae26b5fa1567fffe0492641c3f4a7611e085d07b4d1ba01738", func := "loop.example/g01078/laws.FnExactWordBelow", spec := "fnExactWordBelow", recurses := true, plainKeys := false, apart := false, narrowed := true }
def FnExactWordBelowUptoSaid : Prop := fnExactWordBelowUptoRow.holds Try.pinned (OpenSpec.upto fnExactWordBelowSpec)

/-- 'laws.FnExactParseWord', WHERE WHAT IT READS IS OF BULK AT MOST 1048576: true; the input reads as it did. -/
def fnExactParseWordUptoRow : OpenClaim := { program := "ytpomjejencfiiaa", sum := "67dd8e50f369e7ae26b5fa1567fffe0492641c3f4a7611e085d07b4d1ba01738", func := "loop.example/g01078/laws.FnExactParseWord", spec := "fnExactParseWord", recurses := true, plainKeys := false, apart := false, narrowed := true }
def FnExactParseWordUptoSaid : Prop := fnExactParseWordUptoRow.holds Try.pinned (OpenSpec.upto fnExactParseWordSpec)

/-- 'laws.FnExactWordsEqual', WHERE WHAT IT READS IS OF BULK AT MOST 1048576: true; the input reads as it did. -/
def fnExactWordsEqualUptoRow : OpenClaim := { program := "ytpomjejencfiiaa", sum := "67dd8e50f369e7ae26b5fa1567fffe0492641c3f4a7611e085d07b4d1ba01738", func := "loop.example/g01078/laws.FnExactWordsEqual", spec := "fnExactWordsEqual", recurses := true, plainKeys := false, apart := false, narrowed := true }
def FnExactWordsEqualUptoSaid : Prop := fnExactWordsEqualUptoRow.holds Try.pinned (OpenSpec.upto fnExactWordsEqualSpec)

end Rows
end Go.Proofs.Ytpomjejencfiiaa
