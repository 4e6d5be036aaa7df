/- the law FnExactBooleanMapOf of the given program holds: it returns true for all arguments. No condition beyond those of the statement. -/
import Derived.Test.YtafkhhcnmmkieaaQC
import Derived.Test.YtafkhhcnmmkieaaRows
import Derived.Test.YtafkhhcnmmkieaaChecked
set_option maxRecDepth 100000
set_option linter.unusedVariables false
namespace Go.Proofs.Ytafkhhcnmmkieaa
open Go Go.Gx Go.Proofs

def g_FnExactBooleanMapOf (x : ((.pair (.pair (.sl (.sl I)) .unit) (.pair (.pair (.sl (.sl I)) .unit) (.pair (.sl I) .unit))) : Ty).den) : Option Bool := (laws_FnExactBooleanMapOf x.1 x.2.1 x.2.2.1).map (·.1)
theorem goodl_FnExactBooleanMapOf : Gx.Good Try.prog 12 (lawSig ((.pair (.pair (.sl (.sl I)) .unit) (.pair (.pair (.sl (.sl I)) .unit) (.pair (.sl I) .unit)))) 3 g_FnExactBooleanMapOf) := Good.congr (fun _ => map_pair _) good_laws_FnExactBooleanMapOf
theorem own_FnExactBooleanMapOf : ownKnob Try.prog.godebug = none := by kernel_rfl
theorem laidOut_FnExactBooleanMapOf : laidOutB Try.prog = true := by kernel_rfl

open Go.ChangeShapes Go.WideShapes Go.ChangeAt Go.RowKit

theorem fnExactBooleanMapOf_lifted (os : Os) (started : os.Started) (H : Type) (enc : TypeId × Value → H) :
    ReturnsInHanded {} Try.checked os 12 .any (Rows.fnExactBooleanMapOfSpec.pre6 enc Try.prog Try.f12 Rows.fnExactBooleanMapOfRow.domain false) (Rows.fnExactBooleanMapOfSpec.post enc Try.prog Try.f12 false true false false) := by
  refine returnsInHanded_of_change (C := Try.checked) own_FnExactBooleanMapOf started (by kernel_rfl) Try.func12
    (ChangeSpec.witness6 (enc := enc) (C := Try.checked) false ⟨#[], #[.agg #[.slice none 0 0], .agg #[.slice none 0 0], .slice none 0 0], []⟩ 8 (by kernel_rfl) (by kernel_rfl) (by kernel_rfl) (by kernel_rfl)) ?_
  intro W base args ds gs before hval0 hW hcnd _
  exact law_ok (P := Try.prog) (fn := Try.f12) (n := 8) (ty := (.pair (.pair (.sl (.sl I)) .unit) (.pair (.pair (.sl (.sl I)) .unit) (.pair (.sl I) .unit)))) (Tb := 4) g_FnExactBooleanMapOf laidOut_FnExactBooleanMapOf (by kernel_rfl) (by kernel_rfl) goodl_FnExactBooleanMapOf (fun x hx => by unfold g_FnExactBooleanMapOf; rw [true_BooleanMapOf (x.1) (x.2.1) (x.2.2.1) hx]; rfl) rfl (by kernel_rfl) rfl (fun ds hds => match ds, hds with | [d0, d1, d2], _ => ⟨rfl, rfl, rfl⟩) hval0 hW

theorem fnExactBooleanMapOf_holds : Rows.FnExactBooleanMapOfSaid :=
  OpenClaim.holds_of_wide 12 Try.f12 rfl rfl rfl rfl rfl rfl rfl ⟨rfl, rfl, rfl, rfl, rfl⟩ rfl rfl rfl rfl rfl (by kernel_rfl) Try.func12 (by kernel_rfl)
    (of_decide_eq_true (by kernel_rfl)) (by unfold Func.isWrapper; first | (rw [if_pos (by decide +kernel)]; kernel_rfl) | (rw [if_neg (by decide +kernel)]; exact ⟨rfl, rfl⟩))
    (fun os started H enc _ => fnExactBooleanMapOf_lifted os started H enc)
end Go.Proofs.Ytafkhhcnmmkieaa
