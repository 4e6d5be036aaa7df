/- the law FnExactCongruenceBelow of the given program holds: it returns true for all arguments. No condition beyond those of the statement. -/
import Derived.Test.YtafkhhcnmmkieaaQA
import Derived.Test.YtafkhhcnmmkieaaRows
import Derived.Test.YtafkhhcnmmkieaaChecked
set_option maxRecDepth 100000
set_option linter.unusedVariables false
namespace Go.Proofs.Ytafkhhcnmmkieaa
open Go Go.Gx Go.Proofs

def g_FnExactCongruenceBelow (x : ((.pair (.pair (.sl (.sl I)) .unit) (.pair I .unit)) : Ty).den) : Option Bool := (laws_FnExactCongruenceBelow x.1 x.2.1).map (·.1)
theorem goodl_FnExactCongruenceBelow : Gx.Good Try.prog 9 (lawSig ((.pair (.pair (.sl (.sl I)) .unit) (.pair I .unit))) 2 g_FnExactCongruenceBelow) := Good.congr (fun _ => map_pair _) good_laws_FnExactCongruenceBelow
theorem own_FnExactCongruenceBelow : ownKnob Try.prog.godebug = none := by kernel_rfl
theorem laidOut_FnExactCongruenceBelow : laidOutB Try.prog = true := by kernel_rfl

open Go.ChangeShapes Go.WideShapes Go.ChangeAt Go.RowKit

theorem fnExactCongruenceBelow_lifted (os : Os) (started : os.Started) (H : Type) (enc : TypeId × Value → H) :
    ReturnsInHanded {} Try.checked os 9 .any (Rows.fnExactCongruenceBelowSpec.pre6 enc Try.prog Try.f9 Rows.fnExactCongruenceBelowRow.domain false) (Rows.fnExactCongruenceBelowSpec.post enc Try.prog Try.f9 false true false false) := by
  refine returnsInHanded_of_change (C := Try.checked) own_FnExactCongruenceBelow started (by kernel_rfl) Try.func9
    (ChangeSpec.witness6 (enc := enc) (C := Try.checked) false ⟨#[], #[.agg #[.slice none 0 0], .int .i64 0], []⟩ 8 (by kernel_rfl) (by kernel_rfl) (by kernel_rfl) (by kernel_rfl)) ?_
  intro W base args ds gs before hval0 hW hcnd _
  exact law_ok (P := Try.prog) (fn := Try.f9) (n := 8) (ty := (.pair (.pair (.sl (.sl I)) .unit) (.pair I .unit))) (Tb := 4) g_FnExactCongruenceBelow laidOut_FnExactCongruenceBelow (by kernel_rfl) (by kernel_rfl) goodl_FnExactCongruenceBelow (fun x hx => by unfold g_FnExactCongruenceBelow; rw [true_CongruenceBelow (x.1) (x.2.1) hx]; rfl) rfl (by kernel_rfl) rfl (fun ds hds => match ds, hds with | [d0, d1], _ => ⟨rfl, rfl, rfl⟩) hval0 hW

theorem fnExactCongruenceBelow_holds : Rows.FnExactCongruenceBelowSaid :=
  OpenClaim.holds_of_wide 9 Try.f9 rfl rfl rfl rfl rfl rfl rfl ⟨rfl, rfl, rfl, rfl, rfl⟩ rfl rfl rfl rfl rfl (by kernel_rfl) Try.func9 (by kernel_rfl)
    (of_decide_eq_true (by kernel_rfl)) (by unfold Func.isWrapper; first | (rw [if_pos (by decide +kernel)]; kernel_rfl) | (rw [if_neg (by decide +kernel)]; exact ⟨rfl, rfl⟩))
    (fun os started H enc _ => fnExactCongruenceBelow_lifted os started H enc)
end Go.Proofs.Ytafkhhcnmmkieaa
