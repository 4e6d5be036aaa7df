/- the law FnExactWordsEqual of the given program holds: it returns true for all arguments. No condition beyond those of the statement. -/
import Derived.Test.YtiklgbjlggcejaaQA
import Derived.Test.YtiklgbjlggcejaaRows
import Derived.Test.YtiklgbjlggcejaaChecked
set_option maxRecDepth 100000
set_option linter.unusedVariables false
namespace Go.Proofs.Ytiklgbjlggcejaa
open Go Go.Gx Go.Proofs

def g_FnExactWordsEqual (x : ((.pair (.sl I) (.pair (.sl I) .unit)) : Ty).den) : Option Bool := (laws_FnExactWordsEqual x.1 x.2.1).map (·.1)
theorem goodl_FnExactWordsEqual : Gx.Good Try.prog 4 (lawSig ((.pair (.sl I) (.pair (.sl I) .unit))) 2 g_FnExactWordsEqual) := Good.congr (fun _ => map_pair _) good_laws_FnExactWordsEqual
theorem own_FnExactWordsEqual : ownKnob Try.prog.godebug = none := by kernel_rfl
theorem laidOut_FnExactWordsEqual : laidOutB Try.prog = true := by kernel_rfl

open Go.ChangeShapes Go.WideShapes Go.ChangeAt Go.RowKit

theorem fnExactWordsEqual_lifted (os : Os) (started : os.Started) (H : Type) (enc : TypeId × Value → H) :
    ReturnsInHanded {} Try.checked os 4 .any (Rows.fnExactWordsEqualSpec.pre6 enc Try.prog Try.f4 Rows.fnExactWordsEqualRow.domain false) (Rows.fnExactWordsEqualSpec.post enc Try.prog Try.f4 false true false false) := by
  refine returnsInHanded_of_change (C := Try.checked) own_FnExactWordsEqual started (by kernel_rfl) Try.func4
    (ChangeSpec.witness6 (enc := enc) (C := Try.checked) false ⟨#[], #[.slice none 0 0, .slice none 0 0], []⟩ 8 (by kernel_rfl) (by kernel_rfl) (by kernel_rfl) (by kernel_rfl)) ?_
  intro W base args ds gs before hval0 hW hcnd _
  exact law_ok (P := Try.prog) (fn := Try.f4) (n := 8) (ty := (.pair (.sl I) (.pair (.sl I) .unit))) (Tb := 4) g_FnExactWordsEqual laidOut_FnExactWordsEqual (by kernel_rfl) (by kernel_rfl) goodl_FnExactWordsEqual (fun x hx => by unfold g_FnExactWordsEqual; rw [true_WordsEqual (x.1) (x.2.1) hx]; rfl) rfl (by kernel_rfl) rfl (fun ds hds => match ds, hds with | [d0, d1], _ => ⟨rfl, rfl, rfl⟩) hval0 hW

theorem closed_FnExactWordsEqual : joinedFacts Try.pinned.checked.prog 4 Try.f4 Rows.fnExactWordsEqualSpec Rows.fnExactWordsEqualRow = true := by kernel_rfl
theorem fnExactWordsEqual_holds : Rows.FnExactWordsEqualSaid :=
  OpenClaim.holds_of_wide 4 Try.f4 rfl rfl rfl rfl rfl rfl rfl ⟨rfl, rfl, rfl, rfl, rfl⟩ rfl rfl rfl rfl rfl (by kernel_rfl) Try.func4 closed_FnExactWordsEqual
    (of_decide_eq_true (by kernel_rfl)) (by unfold Func.isWrapper; first | (rw [if_pos (by decide +kernel)]; kernel_rfl) | (rw [if_neg (by decide +kernel)]; exact ⟨rfl, rfl⟩))
    (fun os started H enc _ => fnExactWordsEqual_lifted os started H enc)
end Go.Proofs.Ytiklgbjlggcejaa
