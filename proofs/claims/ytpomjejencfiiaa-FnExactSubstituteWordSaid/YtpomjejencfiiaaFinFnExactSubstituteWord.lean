/- the law FnExactSubstituteWord of the given program holds: it returns true for all arguments. No condition beyond those of the statement. -/
import Derived.Test.YtpomjejencfiiaaPWordsB
import Derived.Test.YtpomjejencfiiaaRows
import Derived.Test.YtpomjejencfiiaaChecked
set_option maxRecDepth 100000
set_option linter.unusedVariables false
namespace Go.Proofs.Ytpomjejencfiiaa
open Go Go.Gx Go.Proofs

def g_FnExactSubstituteWord (x : ((.pair (.sl I) (.pair I (.pair (.sl I) .unit))) : Ty).den) : Option Bool := (laws_FnExactSubstituteWord x.1 x.2.1 x.2.2.1).map (·.1)
theorem goodl_FnExactSubstituteWord : Gx.Good Try.prog 10 (lawSig ((.pair (.sl I) (.pair I (.pair (.sl I) .unit)))) 3 g_FnExactSubstituteWord) := Good.congr (fun _ => map_pair _) good_laws_FnExactSubstituteWord
theorem own_FnExactSubstituteWord : ownKnob Try.prog.godebug = none := by kernel_rfl
theorem laidOut_FnExactSubstituteWord : laidOutB Try.prog = true := by kernel_rfl

open Go.ChangeShapes Go.WideShapes Go.ChangeAt Go.RowKit

theorem fnExactSubstituteWord_lifted (os : Os) (started : os.Started) (H : Type) (enc : TypeId × Value → H) :
    ReturnsInHanded {} Try.checked os 10 .any (Rows.fnExactSubstituteWordSpec.pre6 enc Try.prog Try.f10 Rows.fnExactSubstituteWordRow.domain false) (Rows.fnExactSubstituteWordSpec.post enc Try.prog Try.f10 false true false false) := by
  refine returnsInHanded_of_change (C := Try.checked) own_FnExactSubstituteWord started (by kernel_rfl) Try.func10
    (ChangeSpec.witness6 (enc := enc) (C := Try.checked) false ⟨#[], #[.slice none 0 0, .int .i64 0, .slice none 0 0], []⟩ 8 (by kernel_rfl) (by kernel_rfl) (by kernel_rfl) (by kernel_rfl)) ?_
  intro W base args ds gs before hval0 hW hcnd _
  exact law_ok (P := Try.prog) (fn := Try.f10) (n := 8) (ty := (.pair (.sl I) (.pair I (.pair (.sl I) .unit)))) (Tb := 4) g_FnExactSubstituteWord laidOut_FnExactSubstituteWord (by kernel_rfl) (by kernel_rfl) goodl_FnExactSubstituteWord (fun x hx => by unfold g_FnExactSubstituteWord; rw [true_SubstituteWord (x.1) (x.2.1) (x.2.2.1) hx]; rfl) rfl (by kernel_rfl) rfl (fun ds hds => match ds, hds with | [d0, d1, d2], _ => ⟨rfl, rfl, rfl⟩) hval0 hW

theorem fnExactSubstituteWord_holds : Rows.FnExactSubstituteWordSaid :=
  OpenClaim.holds_of_wide 10 Try.f10 rfl rfl rfl rfl rfl rfl rfl ⟨rfl, rfl, rfl, rfl, rfl⟩ rfl rfl rfl rfl rfl (by kernel_rfl) Try.func10 (by kernel_rfl)
    (of_decide_eq_true (by kernel_rfl)) (by unfold Func.isWrapper; first | (rw [if_pos (by decide +kernel)]; kernel_rfl) | (rw [if_neg (by decide +kernel)]; exact ⟨rfl, rfl⟩))
    (fun os started H enc _ => fnExactSubstituteWord_lifted os started H enc)
end Go.Proofs.Ytpomjejencfiiaa
