/- the law FnExactStarOf of the given program holds: it returns true for all arguments. No condition beyond those of the statement. -/
import Derived.Test.YtbegnofapodldaaQM
import Derived.Test.YtbegnofapodldaaRows
import Derived.Test.YtbegnofapodldaaChecked
set_option maxRecDepth 100000
set_option linter.unusedVariables false
namespace Go.Proofs.Ytbegnofapodldaa
open Go Go.Gx Go.Proofs

def g_FnExactStarOf (x : ((.pair (.pair (.sl (.sl I)) .unit) (.pair I .unit)) : Ty).den) : Option Bool := (laws_FnExactStarOf x.1 x.2.1).map (·.1)
theorem goodl_FnExactStarOf : Gx.Good Try.prog 11 (lawSig ((.pair (.pair (.sl (.sl I)) .unit) (.pair I .unit))) 2 g_FnExactStarOf) := Good.congr (fun _ => map_pair _) good_laws_FnExactStarOf
theorem own_FnExactStarOf : ownKnob Try.prog.godebug = none := by kernel_rfl
theorem laidOut_FnExactStarOf : laidOutB Try.prog = true := by kernel_rfl

open Go.ChangeShapes Go.WideShapes Go.ChangeAt Go.RowKit

theorem fnExactStarOf_lifted (os : Os) (started : os.Started) (H : Type) (enc : TypeId × Value → H) :
    ReturnsInHanded {} Try.checked os 11 .any (Rows.fnExactStarOfSpec.pre6 enc Try.prog Try.f11 Rows.fnExactStarOfRow.domain false) (Rows.fnExactStarOfSpec.post enc Try.prog Try.f11 false true false false) := by
  refine returnsInHanded_of_change (C := Try.checked) own_FnExactStarOf started (by kernel_rfl) Try.func11
    (ChangeSpec.witness6 (enc := enc) (C := Try.checked) false ⟨#[], #[.agg #[.slice none 0 0], .int .i64 0], []⟩ 8 (by kernel_rfl) (by kernel_rfl) (by kernel_rfl) (by kernel_rfl)) ?_
  intro W base args ds gs before hval0 hW hcnd _
  exact law_ok (P := Try.prog) (fn := Try.f11) (n := 8) (ty := (.pair (.pair (.sl (.sl I)) .unit) (.pair I .unit))) (Tb := 4) g_FnExactStarOf laidOut_FnExactStarOf (by kernel_rfl) (by kernel_rfl) goodl_FnExactStarOf (fun x hx => by unfold g_FnExactStarOf; rw [true_StarOf (x.1) (x.2.1) hx]; rfl) rfl (by kernel_rfl) rfl (fun ds hds => match ds, hds with | [d0, d1], _ => ⟨rfl, rfl, rfl⟩) hval0 hW

theorem fnExactStarOf_holds : Rows.FnExactStarOfSaid :=
  OpenClaim.holds_of_wide 11 Try.f11 rfl rfl rfl rfl rfl rfl rfl ⟨rfl, rfl, rfl, rfl, rfl⟩ rfl rfl rfl rfl rfl (by kernel_rfl) Try.func11 (by kernel_rfl)
    (of_decide_eq_true (by kernel_rfl)) (by unfold Func.isWrapper; first | (rw [if_pos (by decide +kernel)]; kernel_rfl) | (rw [if_neg (by decide +kernel)]; exact ⟨rfl, rfl⟩))
    (fun os started H enc _ => fnExactStarOf_lifted os started H enc)
end Go.Proofs.Ytbegnofapodldaa
