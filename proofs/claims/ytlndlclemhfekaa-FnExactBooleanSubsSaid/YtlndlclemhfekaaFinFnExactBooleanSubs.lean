/- the law FnExactBooleanSubs of the given program holds: it returns true for all arguments. No condition beyond those of the statement. -/
import Derived.Test.YtlndlclemhfekaaQk12
import Derived.Test.YtlndlclemhfekaaRows
import Derived.Test.YtlndlclemhfekaaChecked
set_option maxRecDepth 100000
set_option linter.unusedVariables false
namespace Go.Proofs.Ytlndlclemhfekaa
open Go Go.Gx Go.Proofs

noncomputable def g_FnExactBooleanSubs (x : ((.pair (.pair (.sl (.sl I)) .unit) .unit) : Ty).den) : Option Bool := (laws_FnExactBooleanSubs x.1).map (·.1)
theorem goodl_FnExactBooleanSubs : Gx.Good Try.prog 4 (lawSig ((.pair (.pair (.sl (.sl I)) .unit) .unit)) 1 g_FnExactBooleanSubs) := Good.congr (fun _ => map_pair _) good_laws_FnExactBooleanSubs
theorem own_FnExactBooleanSubs : ownKnob Try.prog.godebug = none := by kernel_rfl
theorem laidOut_FnExactBooleanSubs : laidOutB Try.prog = true := by kernel_rfl

open Go.ChangeShapes Go.WideShapes Go.ChangeAt Go.RowKit

theorem fnExactBooleanSubs_lifted (os : Os) (started : os.Started) (H : Type) (enc : TypeId × Value → H) :
    ReturnsInHanded {} Try.checked os 4 .any (Rows.fnExactBooleanSubsSpec.pre6 enc Try.prog Try.f4 Rows.fnExactBooleanSubsRow.domain false) (Rows.fnExactBooleanSubsSpec.post enc Try.prog Try.f4 false true false false) := by
  refine returnsInHanded_of_change (C := Try.checked) own_FnExactBooleanSubs started (by kernel_rfl) Try.func4
    (ChangeSpec.witness6 (enc := enc) (C := Try.checked) false ⟨#[], #[.agg #[.slice none 0 0]], []⟩ 8 (by kernel_rfl) (by kernel_rfl) (by kernel_rfl) (by kernel_rfl)) ?_
  intro W base args ds gs before hval0 hW hcnd _
  exact law_ok (P := Try.prog) (fn := Try.f4) (n := 8) (ty := (.pair (.pair (.sl (.sl I)) .unit) .unit)) (Tb := 4) g_FnExactBooleanSubs laidOut_FnExactBooleanSubs (by kernel_rfl) (by kernel_rfl) goodl_FnExactBooleanSubs (fun x hx => by unfold g_FnExactBooleanSubs; rw [true_BooleanSubs (x.1) hx]; rfl) rfl (by kernel_rfl) rfl (fun ds hds => match ds, hds with | [d0], _ => ⟨rfl, rfl, rfl⟩) hval0 hW

theorem closed_FnExactBooleanSubs : joinedFacts Try.pinned.checked.prog 4 Try.f4 Rows.fnExactBooleanSubsSpec Rows.fnExactBooleanSubsRow = true := by kernel_rfl
theorem fnExactBooleanSubs_holds : Rows.FnExactBooleanSubsSaid :=
  OpenClaim.holds_of_wide 4 Try.f4 rfl rfl rfl rfl rfl rfl rfl ⟨rfl, rfl, rfl, rfl, rfl⟩ rfl rfl rfl rfl rfl (by kernel_rfl) Try.func4 closed_FnExactBooleanSubs
    (of_decide_eq_true (by kernel_rfl)) (by unfold Func.isWrapper; first | (rw [if_pos (by decide +kernel)]; kernel_rfl) | (rw [if_neg (by decide +kernel)]; exact ⟨rfl, rfl⟩))
    (fun os started H enc _ => fnExactBooleanSubs_lifted os started H enc)
end Go.Proofs.Ytlndlclemhfekaa
