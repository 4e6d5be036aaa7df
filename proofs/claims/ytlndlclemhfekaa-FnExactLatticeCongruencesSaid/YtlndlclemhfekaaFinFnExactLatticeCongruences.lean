/- the law FnExactLatticeCongruences of the given program holds: it returns true for all arguments. No condition beyond those of the statement. -/
import Derived.Test.YtlndlclemhfekaaQk14
import Derived.Test.YtlndlclemhfekaaRows
import Derived.Test.YtlndlclemhfekaaChecked
set_option maxRecDepth 100000
set_option linter.unusedVariables false
namespace Go.Proofs.Ytlndlclemhfekaa
open Go Go.Gx Go.Proofs

noncomputable def g_FnExactLatticeCongruences (x : ((.pair (.pair (.sl (.sl I)) .unit) .unit) : Ty).den) : Option Bool := (laws_FnExactLatticeCongruences x.1).map (·.1)
theorem goodl_FnExactLatticeCongruences : Gx.Good Try.prog 6 (lawSig ((.pair (.pair (.sl (.sl I)) .unit) .unit)) 1 g_FnExactLatticeCongruences) := Good.congr (fun _ => map_pair _) good_laws_FnExactLatticeCongruences
theorem own_FnExactLatticeCongruences : ownKnob Try.prog.godebug = none := by kernel_rfl
theorem laidOut_FnExactLatticeCongruences : laidOutB Try.prog = true := by kernel_rfl

open Go.ChangeShapes Go.WideShapes Go.ChangeAt Go.RowKit

theorem fnExactLatticeCongruences_lifted (os : Os) (started : os.Started) (H : Type) (enc : TypeId × Value → H) :
    ReturnsInHanded {} Try.checked os 6 .any (Rows.fnExactLatticeCongruencesSpec.pre6 enc Try.prog Try.f6 Rows.fnExactLatticeCongruencesRow.domain false) (Rows.fnExactLatticeCongruencesSpec.post enc Try.prog Try.f6 false true false false) := by
  refine returnsInHanded_of_change (C := Try.checked) own_FnExactLatticeCongruences started (by kernel_rfl) Try.func6
    (ChangeSpec.witness6 (enc := enc) (C := Try.checked) false ⟨#[], #[.agg #[.slice none 0 0]], []⟩ 8 (by kernel_rfl) (by kernel_rfl) (by kernel_rfl) (by kernel_rfl)) ?_
  intro W base args ds gs before hval0 hW hcnd _
  exact law_ok (P := Try.prog) (fn := Try.f6) (n := 8) (ty := (.pair (.pair (.sl (.sl I)) .unit) .unit)) (Tb := 4) g_FnExactLatticeCongruences laidOut_FnExactLatticeCongruences (by kernel_rfl) (by kernel_rfl) goodl_FnExactLatticeCongruences (fun x hx => by unfold g_FnExactLatticeCongruences; rw [true_LatticeCongruences (x.1) hx]; rfl) rfl (by kernel_rfl) rfl (fun ds hds => match ds, hds with | [d0], _ => ⟨rfl, rfl, rfl⟩) hval0 hW

theorem closed_FnExactLatticeCongruences : joinedFacts Try.pinned.checked.prog 6 Try.f6 Rows.fnExactLatticeCongruencesSpec Rows.fnExactLatticeCongruencesRow = true := by kernel_rfl
theorem fnExactLatticeCongruences_holds : Rows.FnExactLatticeCongruencesSaid :=
  OpenClaim.holds_of_wide 6 Try.f6 rfl rfl rfl rfl rfl rfl rfl ⟨rfl, rfl, rfl, rfl, rfl⟩ rfl rfl rfl rfl rfl (by kernel_rfl) Try.func6 closed_FnExactLatticeCongruences
    (of_decide_eq_true (by kernel_rfl)) (by unfold Func.isWrapper; first | (rw [if_pos (by decide +kernel)]; kernel_rfl) | (rw [if_neg (by decide +kernel)]; exact ⟨rfl, rfl⟩))
    (fun os started H enc _ => fnExactLatticeCongruences_lifted os started H enc)
end Go.Proofs.Ytlndlclemhfekaa
