/- the law FnExactProjectiveTo of the given program holds: it returns true for all arguments. No condition beyond those of the statement. -/
import Derived.Test.YtiklgbjlggcejaaQB
import Derived.Test.YtiklgbjlggcejaaRows
import Derived.Test.YtiklgbjlggcejaaChecked
set_option maxRecDepth 100000
set_option linter.unusedVariables false
namespace Go.Proofs.Ytiklgbjlggcejaa
open Go Go.Gx Go.Proofs

def g_FnExactProjectiveTo (x : ((.pair (.pair (.sl (.sl I)) .unit) (.pair I (.pair I .unit))) : Ty).den) : Option Bool := (laws_FnExactProjectiveTo x.1 x.2.1 x.2.2.1).map (·.1)
theorem goodl_FnExactProjectiveTo : Gx.Good Try.prog 6 (lawSig ((.pair (.pair (.sl (.sl I)) .unit) (.pair I (.pair I .unit)))) 3 g_FnExactProjectiveTo) := Good.congr (fun _ => map_pair _) good_laws_FnExactProjectiveTo
theorem own_FnExactProjectiveTo : ownKnob Try.prog.godebug = none := by kernel_rfl
theorem laidOut_FnExactProjectiveTo : laidOutB Try.prog = true := by kernel_rfl

open Go.ChangeShapes Go.WideShapes Go.ChangeAt Go.RowKit

theorem fnExactProjectiveTo_lifted (os : Os) (started : os.Started) (H : Type) (enc : TypeId × Value → H) :
    ReturnsInHanded {} Try.checked os 6 .any (Rows.fnExactProjectiveToSpec.pre6 enc Try.prog Try.f6 Rows.fnExactProjectiveToRow.domain false) (Rows.fnExactProjectiveToSpec.post enc Try.prog Try.f6 false true false false) := by
  refine returnsInHanded_of_change (C := Try.checked) own_FnExactProjectiveTo started (by kernel_rfl) Try.func6
    (ChangeSpec.witness6 (enc := enc) (C := Try.checked) false ⟨#[], #[.agg #[.slice none 0 0], .int .i64 0, .int .i64 0], []⟩ 8 (by kernel_rfl) (by kernel_rfl) (by kernel_rfl) (by kernel_rfl)) ?_
  intro W base args ds gs before hval0 hW hcnd _
  exact law_ok (P := Try.prog) (fn := Try.f6) (n := 8) (ty := (.pair (.pair (.sl (.sl I)) .unit) (.pair I (.pair I .unit)))) (Tb := 4) g_FnExactProjectiveTo laidOut_FnExactProjectiveTo (by kernel_rfl) (by kernel_rfl) goodl_FnExactProjectiveTo (fun x hx => by unfold g_FnExactProjectiveTo; rw [true_ProjectiveTo (x.1) (x.2.1) (x.2.2.1) hx]; rfl) rfl (by kernel_rfl) rfl (fun ds hds => match ds, hds with | [d0, d1, d2], _ => ⟨rfl, rfl, rfl⟩) hval0 hW

theorem closed_FnExactProjectiveTo : joinedFacts Try.pinned.checked.prog 6 Try.f6 Rows.fnExactProjectiveToSpec Rows.fnExactProjectiveToRow = true := by kernel_rfl
theorem fnExactProjectiveTo_holds : Rows.FnExactProjectiveToSaid :=
  OpenClaim.holds_of_wide 6 Try.f6 rfl rfl rfl rfl rfl rfl rfl ⟨rfl, rfl, rfl, rfl, rfl⟩ rfl rfl rfl rfl rfl (by kernel_rfl) Try.func6 closed_FnExactProjectiveTo
    (of_decide_eq_true (by kernel_rfl)) (by unfold Func.isWrapper; first | (rw [if_pos (by decide +kernel)]; kernel_rfl) | (rw [if_neg (by decide +kernel)]; exact ⟨rfl, rfl⟩))
    (fun os started H enc _ => fnExactProjectiveTo_lifted os started H enc)
end Go.Proofs.Ytiklgbjlggcejaa
