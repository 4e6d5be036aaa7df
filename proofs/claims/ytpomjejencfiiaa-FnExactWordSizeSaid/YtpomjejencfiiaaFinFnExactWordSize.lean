/- the law FnExactWordSize of the given program holds: it returns true for all arguments. No condition beyond those of the statement. -/
import Derived.Test.YtpomjejencfiiaaPWords
import Derived.Test.YtpomjejencfiiaaRows
import Derived.Test.YtpomjejencfiiaaChecked
set_option maxRecDepth 100000
set_option linter.unusedVariables false
namespace Go.Proofs.Ytpomjejencfiiaa
open Go Go.Gx Go.Proofs

def g_FnExactWordSize (x : ((.pair (.sl I) .unit) : Ty).den) : Option Bool := (laws_FnExactWordSize x.1).map (·.1)
theorem goodl_FnExactWordSize : Gx.Good Try.prog 5 (lawSig ((.pair (.sl I) .unit)) 1 g_FnExactWordSize) := Good.congr (fun _ => map_pair _) good_laws_FnExactWordSize
theorem own_FnExactWordSize : ownKnob Try.prog.godebug = none := by kernel_rfl
theorem laidOut_FnExactWordSize : laidOutB Try.prog = true := by kernel_rfl

open Go.ChangeShapes Go.WideShapes Go.ChangeAt Go.RowKit

theorem fnExactWordSize_lifted (os : Os) (started : os.Started) (H : Type) (enc : TypeId × Value → H) :
    ReturnsInHanded {} Try.checked os 5 .any (Rows.fnExactWordSizeSpec.pre6 enc Try.prog Try.f5 Rows.fnExactWordSizeRow.domain false) (Rows.fnExactWordSizeSpec.post enc Try.prog Try.f5 false true false false) := by
  refine returnsInHanded_of_change (C := Try.checked) own_FnExactWordSize started (by kernel_rfl) Try.func5
    (ChangeSpec.witness6 (enc := enc) (C := Try.checked) false ⟨#[], #[.slice none 0 0], []⟩ 8 (by kernel_rfl) (by kernel_rfl) (by kernel_rfl) (by kernel_rfl)) ?_
  intro W base args ds gs before hval0 hW hcnd _
  exact law_ok (P := Try.prog) (fn := Try.f5) (n := 8) (ty := (.pair (.sl I) .unit)) (Tb := 4) g_FnExactWordSize laidOut_FnExactWordSize (by kernel_rfl) (by kernel_rfl) goodl_FnExactWordSize (fun x hx => by unfold g_FnExactWordSize; rw [true_WordSize (x.1) hx]; rfl) rfl (by kernel_rfl) rfl (fun ds hds => match ds, hds with | [d0], _ => ⟨rfl, rfl, rfl⟩) hval0 hW

theorem fnExactWordSize_holds : Rows.FnExactWordSizeSaid :=
  OpenClaim.holds_of_wide 5 Try.f5 rfl rfl rfl rfl rfl rfl rfl ⟨rfl, rfl, rfl, rfl, rfl⟩ rfl rfl rfl rfl rfl (by kernel_rfl) Try.func5 (by kernel_rfl)
    (of_decide_eq_true (by kernel_rfl)) (by unfold Func.isWrapper; first | (rw [if_pos (by decide +kernel)]; kernel_rfl) | (rw [if_neg (by decide +kernel)]; exact ⟨rfl, rfl⟩))
    (fun os started H enc _ => fnExactWordSize_lifted os started H enc)
end Go.Proofs.Ytpomjejencfiiaa
