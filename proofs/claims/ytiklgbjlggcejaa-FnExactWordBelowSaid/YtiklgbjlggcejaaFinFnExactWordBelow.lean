/- the law FnExactWordBelow of the given program holds: it returns true for all arguments. No condition beyond those of the statement. -/
import Derived.Test.YtiklgbjlggcejaaQA
import Derived.Test.YtiklgbjlggcejaaRows
import Derived.Test.YtiklgbjlggcejaaChecked
set_option maxRecDepth 100000
set_option linter.unusedVariables false
namespace Go.Proofs.Ytiklgbjlggcejaa
open Go Go.Gx Go.Proofs

def g_FnExactWordBelow (x : ((.pair (.sl I) (.pair (.sl I) .unit)) : Ty).den) : Option Bool := (laws_FnExactWordBelow x.1 x.2.1).map (·.1)
theorem goodl_FnExactWordBelow : Gx.Good Try.prog 3 (lawSig ((.pair (.sl I) (.pair (.sl I) .unit))) 2 g_FnExactWordBelow) := Good.congr (fun _ => map_pair _) good_laws_FnExactWordBelow
theorem own_FnExactWordBelow : ownKnob Try.prog.godebug = none := by kernel_rfl
theorem laidOut_FnExactWordBelow : laidOutB Try.prog = true := by kernel_rfl

open Go.ChangeShapes Go.WideShapes Go.ChangeAt Go.RowKit

theorem fnExactWordBelow_lifted (os : Os) (started : os.Started) (H : Type) (enc : TypeId × Value → H) :
    ReturnsInHanded {} Try.checked os 3 .any (Rows.fnExactWordBelowSpec.pre6 enc Try.prog Try.f3 Rows.fnExactWordBelowRow.domain false) (Rows.fnExactWordBelowSpec.post enc Try.prog Try.f3 false true false false) := by
  refine returnsInHanded_of_change (C := Try.checked) own_FnExactWordBelow started (by kernel_rfl) Try.func3
    (ChangeSpec.witness6 (enc := enc) (C := Try.checked) false ⟨#[], #[.slice none 0 0, .slice none 0 0], []⟩ 8 (by kernel_rfl) (by kernel_rfl) (by kernel_rfl) (by kernel_rfl)) ?_
  intro W base args ds gs before hval0 hW hcnd _
  exact law_ok (P := Try.prog) (fn := Try.f3) (n := 8) (ty := (.pair (.sl I) (.pair (.sl I) .unit))) (Tb := 4) g_FnExactWordBelow laidOut_FnExactWordBelow (by kernel_rfl) (by kernel_rfl) goodl_FnExactWordBelow (fun x hx => by unfold g_FnExactWordBelow; rw [true_WordBelow (x.1) (x.2.1) hx]; rfl) rfl (by kernel_rfl) rfl (fun ds hds => match ds, hds with | [d0, d1], _ => ⟨rfl, rfl, rfl⟩) hval0 hW

theorem closed_FnExactWordBelow : joinedFacts Try.pinned.checked.prog 3 Try.f3 Rows.fnExactWordBelowSpec Rows.fnExactWordBelowRow = true := by kernel_rfl
theorem fnExactWordBelow_holds : Rows.FnExactWordBelowSaid :=
  OpenClaim.holds_of_wide 3 Try.f3 rfl rfl rfl rfl rfl rfl rfl ⟨rfl, rfl, rfl, rfl, rfl⟩ rfl rfl rfl rfl rfl (by kernel_rfl) Try.func3 closed_FnExactWordBelow
    (of_decide_eq_true (by kernel_rfl)) (by unfold Func.isWrapper; first | (rw [if_pos (by decide +kernel)]; kernel_rfl) | (rw [if_neg (by decide +kernel)]; exact ⟨rfl, rfl⟩))
    (fun os started H enc _ => fnExactWordBelow_lifted os started H enc)
end Go.Proofs.Ytiklgbjlggcejaa
