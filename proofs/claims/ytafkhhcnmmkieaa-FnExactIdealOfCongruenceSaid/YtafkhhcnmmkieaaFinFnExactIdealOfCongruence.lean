/- the law FnExactIdealOfCongruence of the given program holds: it returns true for all arguments. No condition beyond those of the statement. -/
import Derived.Test.YtafkhhcnmmkieaaQA
import Derived.Test.YtafkhhcnmmkieaaRows
import Derived.Test.YtafkhhcnmmkieaaChecked
set_option maxRecDepth 100000
set_option linter.unusedVariables false
namespace Go.Proofs.Ytafkhhcnmmkieaa
open Go Go.Gx Go.Proofs

def g_FnExactIdealOfCongruence (x : ((.pair (.pair (.sl (.sl I)) .unit) (.pair (.sl I) .unit)) : Ty).den) : Option Bool := (laws_FnExactIdealOfCongruence x.1 x.2.1).map (·.1)
theorem goodl_FnExactIdealOfCongruence : Gx.Good Try.prog 10 (lawSig ((.pair (.pair (.sl (.sl I)) .unit) (.pair (.sl I) .unit))) 2 g_FnExactIdealOfCongruence) := Good.congr (fun _ => map_pair _) good_laws_FnExactIdealOfCongruence
theorem own_FnExactIdealOfCongruence : ownKnob Try.prog.godebug = none := by kernel_rfl
theorem laidOut_FnExactIdealOfCongruence : laidOutB Try.prog = true := by kernel_rfl

open Go.ChangeShapes Go.WideShapes Go.ChangeAt Go.RowKit

theorem fnExactIdealOfCongruence_lifted (os : Os) (started : os.Started) (H : Type) (enc : TypeId × Value → H) :
    ReturnsInHanded {} Try.checked os 10 .any (Rows.fnExactIdealOfCongruenceSpec.pre6 enc Try.prog Try.f10 Rows.fnExactIdealOfCongruenceRow.domain false) (Rows.fnExactIdealOfCongruenceSpec.post enc Try.prog Try.f10 false true false false) := by
  refine returnsInHanded_of_change (C := Try.checked) own_FnExactIdealOfCongruence started (by kernel_rfl) Try.func10
    (ChangeSpec.witness6 (enc := enc) (C := Try.checked) false ⟨#[], #[.agg #[.slice none 0 0], .slice none 0 0], []⟩ 8 (by kernel_rfl) (by kernel_rfl) (by kernel_rfl) (by kernel_rfl)) ?_
  intro W base args ds gs before hval0 hW hcnd _
  exact law_ok (P := Try.prog) (fn := Try.f10) (n := 8) (ty := (.pair (.pair (.sl (.sl I)) .unit) (.pair (.sl I) .unit))) (Tb := 4) g_FnExactIdealOfCongruence laidOut_FnExactIdealOfCongruence (by kernel_rfl) (by kernel_rfl) goodl_FnExactIdealOfCongruence (fun x hx => by unfold g_FnExactIdealOfCongruence; rw [true_IdealOfCongruence (x.1) (x.2.1) hx]; rfl) rfl (by kernel_rfl) rfl (fun ds hds => match ds, hds with | [d0, d1], _ => ⟨rfl, rfl, rfl⟩) hval0 hW

theorem fnExactIdealOfCongruence_holds : Rows.FnExactIdealOfCongruenceSaid :=
  OpenClaim.holds_of_wide 10 Try.f10 rfl rfl rfl rfl rfl rfl rfl ⟨rfl, rfl, rfl, rfl, rfl⟩ rfl rfl rfl rfl rfl (by kernel_rfl) Try.func10 (by kernel_rfl)
    (of_decide_eq_true (by kernel_rfl)) (by unfold Func.isWrapper; first | (rw [if_pos (by decide +kernel)]; kernel_rfl) | (rw [if_neg (by decide +kernel)]; exact ⟨rfl, rfl⟩))
    (fun os started H enc _ => fnExactIdealOfCongruence_lifted os started H enc)
end Go.Proofs.Ytafkhhcnmmkieaa
