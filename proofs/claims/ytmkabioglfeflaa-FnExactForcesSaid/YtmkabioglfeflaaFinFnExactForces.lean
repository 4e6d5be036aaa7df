/- the law FnExactForces of the given program holds: it returns true for all arguments. No condition beyond those of the statement. -/
import Derived.Test.YtmkabioglfeflaaQC
import Derived.Test.YtmkabioglfeflaaRows
import Derived.Test.YtmkabioglfeflaaChecked
set_option maxRecDepth 100000
set_option linter.unusedVariables false
namespace Go.Proofs.Ytmkabioglfeflaa
open Go Go.Gx Go.Proofs

def g_FnExactForces (x : ((.pair (.pair (.sl (.sl I)) .unit) (.pair I (.pair I .unit))) : Ty).den) : Option Bool := (laws_FnExactForces x.1 x.2.1 x.2.2.1).map (·.1)
theorem goodl_FnExactForces : Gx.Good Try.prog 4 (lawSig ((.pair (.pair (.sl (.sl I)) .unit) (.pair I (.pair I .unit)))) 3 g_FnExactForces) := Good.congr (fun _ => map_pair _) good_laws_FnExactForces
theorem own_FnExactForces : ownKnob Try.prog.godebug = none := by kernel_rfl
theorem laidOut_FnExactForces : laidOutB Try.prog = true := by kernel_rfl

open Go.ChangeShapes Go.WideShapes Go.ChangeAt Go.RowKit

theorem fnExactForces_lifted (os : Os) (started : os.Started) (H : Type) (enc : TypeId × Value → H) :
    ReturnsInHanded {} Try.checked os 4 .any (Rows.fnExactForcesSpec.pre6 enc Try.prog Try.f4 Rows.fnExactForcesRow.domain false) (Rows.fnExactForcesSpec.post enc Try.prog Try.f4 false true false false) := by
  refine returnsInHanded_of_change (C := Try.checked) own_FnExactForces started (by kernel_rfl) Try.func4
    (ChangeSpec.witness6 (enc := enc) (C := Try.checked) false ⟨#[], #[.agg #[.slice none 0 0], .int .i64 0, .int .i64 0], []⟩ 8 (by kernel_rfl) (by kernel_rfl) (by kernel_rfl) (by kernel_rfl)) ?_
  intro W base args ds gs before hval0 hW hcnd _
  exact law_ok (P := Try.prog) (fn := Try.f4) (n := 8) (ty := (.pair (.pair (.sl (.sl I)) .unit) (.pair I (.pair I .unit)))) (Tb := 4) g_FnExactForces laidOut_FnExactForces (by kernel_rfl) (by kernel_rfl) goodl_FnExactForces (fun x hx => by unfold g_FnExactForces; rw [true_Forces (x.1) (x.2.1) (x.2.2.1) hx]; rfl) rfl (by kernel_rfl) rfl (fun ds hds => match ds, hds with | [d0, d1, d2], _ => ⟨rfl, rfl, rfl⟩) hval0 hW

theorem closed_FnExactForces : joinedFacts Try.pinned.checked.prog 4 Try.f4 Rows.fnExactForcesSpec Rows.fnExactForcesRow = true := by kernel_rfl
theorem fnExactForces_holds : Rows.FnExactForcesSaid :=
  OpenClaim.holds_of_wide 4 Try.f4 rfl rfl rfl rfl rfl rfl rfl ⟨rfl, rfl, rfl, rfl, rfl⟩ rfl rfl rfl rfl rfl (by kernel_rfl) Try.func4 closed_FnExactForces
    (of_decide_eq_true (by kernel_rfl)) (by unfold Func.isWrapper; first | (rw [if_pos (by decide +kernel)]; kernel_rfl) | (rw [if_neg (by decide +kernel)]; exact ⟨rfl, rfl⟩))
    (fun os started H enc _ => fnExactForces_lifted os started H enc)
end Go.Proofs.Ytmkabioglfeflaa
