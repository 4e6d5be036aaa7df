/- the law FnExactMembersOf of the given program holds: it returns true for all arguments. No condition beyond those of the statement. -/
import Derived.Test.YtbegnofapodldaaQM
import Derived.Test.YtbegnofapodldaaRows
import Derived.Test.YtbegnofapodldaaChecked
set_option maxRecDepth 100000
set_option linter.unusedVariables false
namespace Go.Proofs.Ytbegnofapodldaa
open Go Go.Gx Go.Proofs

def g_FnExactMembersOf (x : ((.pair (.sl I) .unit) : Ty).den) : Option Bool := (laws_FnExactMembersOf x.1).map (·.1)
theorem goodl_FnExactMembersOf : Gx.Good Try.prog 5 (lawSig ((.pair (.sl I) .unit)) 1 g_FnExactMembersOf) := Good.congr (fun _ => map_pair _) good_laws_FnExactMembersOf
theorem own_FnExactMembersOf : ownKnob Try.prog.godebug = none := by kernel_rfl
theorem laidOut_FnExactMembersOf : laidOutB Try.prog = true := by kernel_rfl

open Go.ChangeShapes Go.WideShapes Go.ChangeAt Go.RowKit

theorem fnExactMembersOf_lifted (os : Os) (started : os.Started) (H : Type) (enc : TypeId × Value → H) :
    ReturnsInHanded {} Try.checked os 5 .any (Rows.fnExactMembersOfSpec.pre6 enc Try.prog Try.f5 Rows.fnExactMembersOfRow.domain false) (Rows.fnExactMembersOfSpec.post enc Try.prog Try.f5 false true false false) := by
  refine returnsInHanded_of_change (C := Try.checked) own_FnExactMembersOf started (by kernel_rfl) Try.func5
    (ChangeSpec.witness6 (enc := enc) (C := Try.checked) false ⟨#[], #[.slice none 0 0], []⟩ 8 (by kernel_rfl) (by kernel_rfl) (by kernel_rfl) (by kernel_rfl)) ?_
  intro W base args ds gs before hval0 hW hcnd _
  exact law_ok (P := Try.prog) (fn := Try.f5) (n := 8) (ty := (.pair (.sl I) .unit)) (Tb := 4) g_FnExactMembersOf laidOut_FnExactMembersOf (by kernel_rfl) (by kernel_rfl) goodl_FnExactMembersOf (fun x hx => by unfold g_FnExactMembersOf; rw [true_MembersOf (x.1) hx]; rfl) rfl (by kernel_rfl) rfl (fun ds hds => match ds, hds with | [d0], _ => ⟨rfl, rfl, rfl⟩) hval0 hW

theorem fnExactMembersOf_holds : Rows.FnExactMembersOfSaid :=
  OpenClaim.holds_of_wide 5 Try.f5 rfl rfl rfl rfl rfl rfl rfl ⟨rfl, rfl, rfl, rfl, rfl⟩ rfl rfl rfl rfl rfl (by kernel_rfl) Try.func5 (by kernel_rfl)
    (of_decide_eq_true (by kernel_rfl)) (by unfold Func.isWrapper; first | (rw [if_pos (by decide +kernel)]; kernel_rfl) | (rw [if_neg (by decide +kernel)]; exact ⟨rfl, rfl⟩))
    (fun os started H enc _ => fnExactMembersOf_lifted os started H enc)
end Go.Proofs.Ytbegnofapodldaa
