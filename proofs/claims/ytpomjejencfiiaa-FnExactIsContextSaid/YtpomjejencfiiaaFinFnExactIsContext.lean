/- the law FnExactIsContext of the given program holds: it returns true for all arguments. No condition beyond those of the statement. -/
import Derived.Test.YtpomjejencfiiaaPCtx
import Derived.Test.YtpomjejencfiiaaRows
import Derived.Test.YtpomjejencfiiaaChecked
set_option maxRecDepth 100000
set_option linter.unusedVariables false
namespace Go.Proofs.Ytpomjejencfiiaa
open Go Go.Gx Go.Proofs

def g_FnExactIsContext (x : ((.pair (.sl (.sl .bool)) .unit) : Ty).den) : Option Bool := (laws_FnExactIsContext x.1).map (·.1)
theorem goodl_FnExactIsContext : Gx.Good Try.prog 6 (lawSig ((.pair (.sl (.sl .bool)) .unit)) 1 g_FnExactIsContext) := Good.congr (fun _ => map_pair _) good_laws_FnExactIsContext
theorem own_FnExactIsContext : ownKnob Try.prog.godebug = none := by kernel_rfl
theorem laidOut_FnExactIsContext : laidOutB Try.prog = true := by kernel_rfl

open Go.ChangeShapes Go.WideShapes Go.ChangeAt Go.RowKit

theorem fnExactIsContext_lifted (os : Os) (started : os.Started) (H : Type) (enc : TypeId × Value → H) :
    ReturnsInHanded {} Try.checked os 6 .any (Rows.fnExactIsContextSpec.pre6 enc Try.prog Try.f6 Rows.fnExactIsContextRow.domain false) (Rows.fnExactIsContextSpec.post enc Try.prog Try.f6 false true false false) := by
  refine returnsInHanded_of_change (C := Try.checked) own_FnExactIsContext started (by kernel_rfl) Try.func6
    (ChangeSpec.witness6 (enc := enc) (C := Try.checked) false ⟨#[], #[.slice none 0 0], []⟩ 8 (by kernel_rfl) (by kernel_rfl) (by kernel_rfl) (by kernel_rfl)) ?_
  intro W base args ds gs before hval0 hW hcnd _
  exact law_ok (P := Try.prog) (fn := Try.f6) (n := 8) (ty := (.pair (.sl (.sl .bool)) .unit)) (Tb := 4) g_FnExactIsContext laidOut_FnExactIsContext (by kernel_rfl) (by kernel_rfl) goodl_FnExactIsContext (fun x hx => by unfold g_FnExactIsContext; rw [true_IsContext (x.1) hx]; rfl) rfl (by kernel_rfl) rfl (fun ds hds => match ds, hds with | [d0], _ => ⟨rfl, rfl, rfl⟩) hval0 hW

theorem fnExactIsContext_holds : Rows.FnExactIsContextSaid :=
  OpenClaim.holds_of_wide 6 Try.f6 rfl rfl rfl rfl rfl rfl rfl ⟨rfl, rfl, rfl, rfl, rfl⟩ rfl rfl rfl rfl rfl (by kernel_rfl) Try.func6 (by kernel_rfl)
    (of_decide_eq_true (by kernel_rfl)) (by unfold Func.isWrapper; first | (rw [if_pos (by decide +kernel)]; kernel_rfl) | (rw [if_neg (by decide +kernel)]; exact ⟨rfl, rfl⟩))
    (fun os started H enc _ => fnExactIsContext_lifted os started H enc)
end Go.Proofs.Ytpomjejencfiiaa
