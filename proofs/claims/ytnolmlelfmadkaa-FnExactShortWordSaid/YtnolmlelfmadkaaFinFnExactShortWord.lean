/- the law FnExactShortWord of the given program holds: it returns true for all arguments. No condition beyond those of the statement. -/
import Derived.Test.YtnolmlelfmadkaaQSX
import Derived.Test.YtnolmlelfmadkaaRows
import Derived.Test.YtnolmlelfmadkaaChecked
set_option maxRecDepth 100000
set_option linter.unusedVariables false
namespace Go.Proofs.Ytnolmlelfmadkaa
open Go Go.Gx Go.Proofs

noncomputable def g_FnExactShortWord (x : ((.pair (.sl I) .unit) : Ty).den) : Option Bool := (laws_FnExactShortWord x.1).map (·.1)
theorem goodl_FnExactShortWord : Gx.Good Try.prog 3 (lawSig ((.pair (.sl I) .unit)) 1 g_FnExactShortWord) := Good.congr (fun _ => map_pair _) good_laws_FnExactShortWord
theorem own_FnExactShortWord : ownKnob Try.prog.godebug = none := by kernel_rfl
theorem laidOut_FnExactShortWord : laidOutB Try.prog = true := by kernel_rfl

open Go.ChangeShapes Go.WideShapes Go.ChangeAt Go.RowKit

theorem fnExactShortWord_lifted (os : Os) (started : os.Started) (H : Type) (enc : TypeId × Value → H) :
    ReturnsInHanded {} Try.checked os 3 .any (Rows.fnExactShortWordSpec.pre6 enc Try.prog Try.f3 Rows.fnExactShortWordRow.domain false) (Rows.fnExactShortWordSpec.post enc Try.prog Try.f3 false true false false) := by
  refine returnsInHanded_of_change (C := Try.checked) own_FnExactShortWord started (by kernel_rfl) Try.func3
    (ChangeSpec.witness6 (enc := enc) (C := Try.checked) false ⟨#[], #[.slice none 0 0], []⟩ 8 (by kernel_rfl) (by kernel_rfl) (by kernel_rfl) (by kernel_rfl)) ?_
  intro W base args ds gs before hval0 hW hcnd _
  exact law_ok (P := Try.prog) (fn := Try.f3) (n := 8) (ty := (.pair (.sl I) .unit)) (Tb := 4) g_FnExactShortWord laidOut_FnExactShortWord (by kernel_rfl) (by kernel_rfl) goodl_FnExactShortWord (fun x hx => by unfold g_FnExactShortWord; rw [true_ShortWord (x.1) hx]; rfl) rfl (by kernel_rfl) rfl (fun ds hds => match ds, hds with | [d0], _ => ⟨rfl, rfl, rfl⟩) hval0 hW

theorem closed_FnExactShortWord : joinedFacts Try.pinned.checked.prog 3 Try.f3 Rows.fnExactShortWordSpec Rows.fnExactShortWordRow = true := by kernel_rfl
theorem fnExactShortWord_holds : Rows.FnExactShortWordSaid :=
  OpenClaim.holds_of_wide 3 Try.f3 rfl rfl rfl rfl rfl rfl rfl ⟨rfl, rfl, rfl, rfl, rfl⟩ rfl rfl rfl rfl rfl (by kernel_rfl) Try.func3 closed_FnExactShortWord
    (of_decide_eq_true (by kernel_rfl)) (by unfold Func.isWrapper; first | (rw [if_pos (by decide +kernel)]; kernel_rfl) | (rw [if_neg (by decide +kernel)]; exact ⟨rfl, rfl⟩))
    (fun os started H enc _ => fnExactShortWord_lifted os started H enc)
end Go.Proofs.Ytnolmlelfmadkaa
