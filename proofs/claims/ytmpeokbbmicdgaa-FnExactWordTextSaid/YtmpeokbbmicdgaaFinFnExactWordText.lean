/- the law FnExactWordText of the given program holds: it returns true for all arguments. No condition beyond those of the statement. -/
import Derived.Test.YtmpeokbbmicdgaaQA
import Derived.Test.YtmpeokbbmicdgaaRows
import Derived.Test.YtmpeokbbmicdgaaChecked
set_option maxRecDepth 100000
set_option linter.unusedVariables false
namespace Go.Proofs.Ytmpeokbbmicdgaa
open Go Go.Gx Go.Proofs

noncomputable def g_FnExactWordText (x : ((.pair (.sl I) .unit) : Ty).den) : Option Bool := (laws_FnExactWordText x.1).map (·.1)
theorem goodl_FnExactWordText : Gx.Good Try.prog 3 (lawSig ((.pair (.sl I) .unit)) 1 g_FnExactWordText) := Good.congr (fun _ => map_pair _) good_laws_FnExactWordText
theorem own_FnExactWordText : ownKnob Try.prog.godebug = none := by kernel_rfl
theorem laidOut_FnExactWordText : laidOutB Try.prog = true := by kernel_rfl

open Go.ChangeShapes Go.WideShapes Go.ChangeAt Go.RowKit

theorem fnExactWordText_lifted (os : Os) (started : os.Started) (H : Type) (enc : TypeId × Value → H) :
    ReturnsInHanded {} Try.checked os 3 .any (Rows.fnExactWordTextSpec.pre6 enc Try.prog Try.f3 Rows.fnExactWordTextRow.domain false) (Rows.fnExactWordTextSpec.post enc Try.prog Try.f3 false true false false) := by
  refine returnsInHanded_of_change (C := Try.checked) own_FnExactWordText started (by kernel_rfl) Try.func3
    (ChangeSpec.witness6 (enc := enc) (C := Try.checked) false ⟨#[], #[.slice none 0 0], []⟩ 8 (by kernel_rfl) (by kernel_rfl) (by kernel_rfl) (by kernel_rfl)) ?_
  intro W base args ds gs before hval0 hW hcnd _
  exact law_ok (P := Try.prog) (fn := Try.f3) (n := 8) (ty := (.pair (.sl I) .unit)) (Tb := 4) g_FnExactWordText laidOut_FnExactWordText (by kernel_rfl) (by kernel_rfl) goodl_FnExactWordText (fun x hx => by unfold g_FnExactWordText; rw [true_WordText (x.1) hx]; rfl) rfl (by kernel_rfl) rfl (fun ds hds => match ds, hds with | [d0], _ => ⟨rfl, rfl, rfl⟩) hval0 hW

theorem closed_FnExactWordText : joinedFacts Try.pinned.checked.prog 3 Try.f3 Rows.fnExactWordTextSpec Rows.fnExactWordTextRow = true := by kernel_rfl
theorem fnExactWordText_holds : Rows.FnExactWordTextSaid :=
  OpenClaim.holds_of_wide 3 Try.f3 rfl rfl rfl rfl rfl rfl rfl ⟨rfl, rfl, rfl, rfl, rfl⟩ rfl rfl rfl rfl rfl (by kernel_rfl) Try.func3 closed_FnExactWordText
    (of_decide_eq_true (by kernel_rfl)) (by unfold Func.isWrapper; first | (rw [if_pos (by decide +kernel)]; kernel_rfl) | (rw [if_neg (by decide +kernel)]; exact ⟨rfl, rfl⟩))
    (fun os started H enc _ => fnExactWordText_lifted os started H enc)
end Go.Proofs.Ytmpeokbbmicdgaa
