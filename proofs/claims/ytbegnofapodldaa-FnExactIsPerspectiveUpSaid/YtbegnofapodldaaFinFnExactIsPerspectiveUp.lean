/- the law FnExactIsPerspectiveUp of the given program holds: it returns true for all arguments. No condition beyond those of the statement. -/
import Derived.Test.YtbegnofapodldaaQM
import Derived.Test.YtbegnofapodldaaRows
import Derived.Test.YtbegnofapodldaaChecked
set_option maxRecDepth 100000
set_option linter.unusedVariables false
namespace Go.Proofs.Ytbegnofapodldaa
open Go Go.Gx Go.Proofs

def g_FnExactIsPerspectiveUp (x : ((.pair (.pair (.sl (.sl I)) .unit) (.pair I (.pair I (.pair I (.pair I .unit))))) : Ty).den) : Option Bool := (laws_FnExactIsPerspectiveUp x.1 x.2.1 x.2.2.1 x.2.2.2.1 x.2.2.2.2.1).map (·.1)
theorem goodl_FnExactIsPerspectiveUp : Gx.Good Try.prog 10 (lawSig ((.pair (.pair (.sl (.sl I)) .unit) (.pair I (.pair I (.pair I (.pair I .unit)))))) 5 g_FnExactIsPerspectiveUp) := Good.congr (fun _ => map_pair _) good_laws_FnExactIsPerspectiveUp
theorem own_FnExactIsPerspectiveUp : ownKnob Try.prog.godebug = none := by kernel_rfl
theorem laidOut_FnExactIsPerspectiveUp : laidOutB Try.prog = true := by kernel_rfl

open Go.ChangeShapes Go.WideShapes Go.ChangeAt Go.RowKit

theorem fnExactIsPerspectiveUp_lifted (os : Os) (started : os.Started) (H : Type) (enc : TypeId × Value → H) :
    ReturnsInHanded {} Try.checked os 10 .any (Rows.fnExactIsPerspectiveUpSpec.pre6 enc Try.prog Try.f10 Rows.fnExactIsPerspectiveUpRow.domain false) (Rows.fnExactIsPerspectiveUpSpec.post enc Try.prog Try.f10 false true false false) := by
  refine returnsInHanded_of_change (C := Try.checked) own_FnExactIsPerspectiveUp started (by kernel_rfl) Try.func10
    (ChangeSpec.witness6 (enc := enc) (C := Try.checked) false ⟨#[], #[.agg #[.slice none 0 0], .int .i64 0, .int .i64 0, .int .i64 0, .int .i64 0], []⟩ 8 (by kernel_rfl) (by kernel_rfl) (by kernel_rfl) (by kernel_rfl)) ?_
  intro W base args ds gs before hval0 hW hcnd _
  exact law_ok (P := Try.prog) (fn := Try.f10) (n := 8) (ty := (.pair (.pair (.sl (.sl I)) .unit) (.pair I (.pair I (.pair I (.pair I .unit)))))) (Tb := 4) g_FnExactIsPerspectiveUp laidOut_FnExactIsPerspectiveUp (by kernel_rfl) (by kernel_rfl) goodl_FnExactIsPerspectiveUp (fun x hx => by unfold g_FnExactIsPerspectiveUp; rw [true_IsPerspectiveUp (x.1) (x.2.1) (x.2.2.1) (x.2.2.2.1) (x.2.2.2.2.1) hx]; rfl) rfl (by kernel_rfl) rfl (fun ds hds => match ds, hds with | [d0, d1, d2, d3, d4], _ => ⟨rfl, rfl, rfl⟩) hval0 hW

theorem fnExactIsPerspectiveUp_holds : Rows.FnExactIsPerspectiveUpSaid :=
  OpenClaim.holds_of_wide 10 Try.f10 rfl rfl rfl rfl rfl rfl rfl ⟨rfl, rfl, rfl, rfl, rfl⟩ rfl rfl rfl rfl rfl (by kernel_rfl) Try.func10 (by kernel_rfl)
    (of_decide_eq_true (by kernel_rfl)) (by unfold Func.isWrapper; first | (rw [if_pos (by decide +kernel)]; kernel_rfl) | (rw [if_neg (by decide +kernel)]; exact ⟨rfl, rfl⟩))
    (fun os started H enc _ => fnExactIsPerspectiveUp_lifted os started H enc)
end Go.Proofs.Ytbegnofapodldaa
