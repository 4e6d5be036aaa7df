/- the law FnExactUltrafilters of the given program holds: it returns true for all arguments. No condition beyond those of the statement. -/
import Derived.Test.YtlndlclemhfekaaQk11
import Derived.Test.YtlndlclemhfekaaRows
import Derived.Test.YtlndlclemhfekaaChecked
set_option maxRecDepth 100000
set_option linter.unusedVariables false
namespace Go.Proofs.Ytlndlclemhfekaa
open Go Go.Gx Go.Proofs

noncomputable def g_FnExactUltrafilters (x : ((.pair (.pair (.sl (.sl I)) .unit) .unit) : Ty).den) : Option Bool := (laws_FnExactUltrafilters x.1).map (·.1)
theorem goodl_FnExactUltrafilters : Gx.Good Try.prog 3 (lawSig ((.pair (.pair (.sl (.sl I)) .unit) .unit)) 1 g_FnExactUltrafilters) := Good.congr (fun _ => map_pair _) good_laws_FnExactUltrafilters
theorem own_FnExactUltrafilters : ownKnob Try.prog.godebug = none := by kernel_rfl
theorem laidOut_FnExactUltrafilters : laidOutB Try.prog = true := by kernel_rfl

open Go.ChangeShapes Go.WideShapes Go.ChangeAt Go.RowKit

theorem fnExactUltrafilters_lifted (os : Os) (started : os.Started) (H : Type) (enc : TypeId × Value → H) :
    ReturnsInHanded {} Try.checked os 3 .any (Rows.fnExactUltrafiltersSpec.pre6 enc Try.prog Try.f3 Rows.fnExactUltrafiltersRow.domain false) (Rows.fnExactUltrafiltersSpec.post enc Try.prog Try.f3 false true false false) := by
  refine returnsInHanded_of_change (C := Try.checked) own_FnExactUltrafilters started (by kernel_rfl) Try.func3
    (ChangeSpec.witness6 (enc := enc) (C := Try.checked) false ⟨#[], #[.agg #[.slice none 0 0]], []⟩ 8 (by kernel_rfl) (by kernel_rfl) (by kernel_rfl) (by kernel_rfl)) ?_
  intro W base args ds gs before hval0 hW hcnd _
  exact law_ok (P := Try.prog) (fn := Try.f3) (n := 8) (ty := (.pair (.pair (.sl (.sl I)) .unit) .unit)) (Tb := 4) g_FnExactUltrafilters laidOut_FnExactUltrafilters (by kernel_rfl) (by kernel_rfl) goodl_FnExactUltrafilters (fun x hx => by unfold g_FnExactUltrafilters; rw [true_Ultrafilters (x.1) hx]; rfl) rfl (by kernel_rfl) rfl (fun ds hds => match ds, hds with | [d0], _ => ⟨rfl, rfl, rfl⟩) hval0 hW

theorem closed_FnExactUltrafilters : joinedFacts Try.pinned.checked.prog 3 Try.f3 Rows.fnExactUltrafiltersSpec Rows.fnExactUltrafiltersRow = true := by kernel_rfl
theorem fnExactUltrafilters_holds : Rows.FnExactUltrafiltersSaid :=
  OpenClaim.holds_of_wide 3 Try.f3 rfl rfl rfl rfl rfl rfl rfl ⟨rfl, rfl, rfl, rfl, rfl⟩ rfl rfl rfl rfl rfl (by kernel_rfl) Try.func3 closed_FnExactUltrafilters
    (of_decide_eq_true (by kernel_rfl)) (by unfold Func.isWrapper; first | (rw [if_pos (by decide +kernel)]; kernel_rfl) | (rw [if_neg (by decide +kernel)]; exact ⟨rfl, rfl⟩))
    (fun os started H enc _ => fnExactUltrafilters_lifted os started H enc)
end Go.Proofs.Ytlndlclemhfekaa
