/- the law FnExactBooleanAlgebraOf of the given program holds: it returns true for all arguments. No condition beyond those of the statement. -/
import Derived.Test.YtafkhhcnmmkieaaQC
import Derived.Test.YtafkhhcnmmkieaaRows
import Derived.Test.YtafkhhcnmmkieaaChecked
set_option maxRecDepth 100000
set_option linter.unusedVariables false
namespace Go.Proofs.Ytafkhhcnmmkieaa
open Go Go.Gx Go.Proofs

def g_FnExactBooleanAlgebraOf (x : ((.pair (.pair (.sl (.sl I)) .unit) .unit) : Ty).den) : Option Bool := (laws_FnExactBooleanAlgebraOf x.1).map (·.1)
theorem goodl_FnExactBooleanAlgebraOf : Gx.Good Try.prog 14 (lawSig ((.pair (.pair (.sl (.sl I)) .unit) .unit)) 1 g_FnExactBooleanAlgebraOf) := Good.congr (fun _ => map_pair _) good_laws_FnExactBooleanAlgebraOf
theorem own_FnExactBooleanAlgebraOf : ownKnob Try.prog.godebug = none := by kernel_rfl
theorem laidOut_FnExactBooleanAlgebraOf : laidOutB Try.prog = true := by kernel_rfl

open Go.ChangeShapes Go.WideShapes Go.ChangeAt Go.RowKit

theorem fnExactBooleanAlgebraOf_lifted (os : Os) (started : os.Started) (H : Type) (enc : TypeId × Value → H) :
    ReturnsInHanded {} Try.checked os 14 .any (Rows.fnExactBooleanAlgebraOfSpec.pre6 enc Try.prog Try.f14 Rows.fnExactBooleanAlgebraOfRow.domain false) (Rows.fnExactBooleanAlgebraOfSpec.post enc Try.prog Try.f14 false true false false) := by
  refine returnsInHanded_of_change (C := Try.checked) own_FnExactBooleanAlgebraOf started (by kernel_rfl) Try.func14
    (ChangeSpec.witness6 (enc := enc) (C := Try.checked) false ⟨#[], #[.agg #[.slice none 0 0]], []⟩ 8 (by kernel_rfl) (by kernel_rfl) (by kernel_rfl) (by kernel_rfl)) ?_
  intro W base args ds gs before hval0 hW hcnd _
  exact law_ok (P := Try.prog) (fn := Try.f14) (n := 8) (ty := (.pair (.pair (.sl (.sl I)) .unit) .unit)) (Tb := 4) g_FnExactBooleanAlgebraOf laidOut_FnExactBooleanAlgebraOf (by kernel_rfl) (by kernel_rfl) goodl_FnExactBooleanAlgebraOf (fun x hx => by unfold g_FnExactBooleanAlgebraOf; rw [true_BooleanAlgebraOf (x.1) hx]; rfl) rfl (by kernel_rfl) rfl (fun ds hds => match ds, hds with | [d0], _ => ⟨rfl, rfl, rfl⟩) hval0 hW

theorem fnExactBooleanAlgebraOf_holds : Rows.FnExactBooleanAlgebraOfSaid :=
  OpenClaim.holds_of_wide 14 Try.f14 rfl rfl rfl rfl rfl rfl rfl ⟨rfl, rfl, rfl, rfl, rfl⟩ rfl rfl rfl rfl rfl (by kernel_rfl) Try.func14 (by kernel_rfl)
    (of_decide_eq_true (by kernel_rfl)) (by unfold Func.isWrapper; first | (rw [if_pos (by decide +kernel)]; kernel_rfl) | (rw [if_neg (by decide +kernel)]; exact ⟨rfl, rfl⟩))
    (fun os started H enc _ => fnExactBooleanAlgebraOf_lifted os started H enc)
end Go.Proofs.Ytafkhhcnmmkieaa
