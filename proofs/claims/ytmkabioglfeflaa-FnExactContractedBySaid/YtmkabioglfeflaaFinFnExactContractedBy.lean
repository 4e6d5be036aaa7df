/- the law FnExactContractedBy of the given program holds: it returns true for all arguments. No condition beyond those of the statement. -/
import Derived.Test.YtmkabioglfeflaaQA
import Derived.Test.YtmkabioglfeflaaRows
import Derived.Test.YtmkabioglfeflaaChecked
set_option maxRecDepth 100000
set_option linter.unusedVariables false
namespace Go.Proofs.Ytmkabioglfeflaa
open Go Go.Gx Go.Proofs

def g_FnExactContractedBy (x : ((.pair (.pair (.sl (.sl I)) .unit) (.pair (.sl I) .unit)) : Ty).den) : Option Bool := (laws_FnExactContractedBy x.1 x.2.1).map (·.1)
theorem goodl_FnExactContractedBy : Gx.Good Try.prog 5 (lawSig ((.pair (.pair (.sl (.sl I)) .unit) (.pair (.sl I) .unit))) 2 g_FnExactContractedBy) := Good.congr (fun _ => map_pair _) good_laws_FnExactContractedBy
theorem own_FnExactContractedBy : ownKnob Try.prog.godebug = none := by kernel_rfl
theorem laidOut_FnExactContractedBy : laidOutB Try.prog = true := by kernel_rfl

open Go.ChangeShapes Go.WideShapes Go.ChangeAt Go.RowKit

theorem fnExactContractedBy_lifted (os : Os) (started : os.Started) (H : Type) (enc : TypeId × Value → H) :
    ReturnsInHanded {} Try.checked os 5 .any (Rows.fnExactContractedBySpec.pre6 enc Try.prog Try.f5 Rows.fnExactContractedByRow.domain false) (Rows.fnExactContractedBySpec.post enc Try.prog Try.f5 false true false false) := by
  refine returnsInHanded_of_change (C := Try.checked) own_FnExactContractedBy started (by kernel_rfl) Try.func5
    (ChangeSpec.witness6 (enc := enc) (C := Try.checked) false ⟨#[], #[.agg #[.slice none 0 0], .slice none 0 0], []⟩ 8 (by kernel_rfl) (by kernel_rfl) (by kernel_rfl) (by kernel_rfl)) ?_
  intro W base args ds gs before hval0 hW hcnd _
  exact law_ok (P := Try.prog) (fn := Try.f5) (n := 8) (ty := (.pair (.pair (.sl (.sl I)) .unit) (.pair (.sl I) .unit))) (Tb := 4) g_FnExactContractedBy laidOut_FnExactContractedBy (by kernel_rfl) (by kernel_rfl) goodl_FnExactContractedBy (fun x hx => by unfold g_FnExactContractedBy; rw [true_ContractedBy (x.1) (x.2.1) hx]; rfl) rfl (by kernel_rfl) rfl (fun ds hds => match ds, hds with | [d0, d1], _ => ⟨rfl, rfl, rfl⟩) hval0 hW

theorem closed_FnExactContractedBy : joinedFacts Try.pinned.checked.prog 5 Try.f5 Rows.fnExactContractedBySpec Rows.fnExactContractedByRow = true := by kernel_rfl
theorem fnExactContractedBy_holds : Rows.FnExactContractedBySaid :=
  OpenClaim.holds_of_wide 5 Try.f5 rfl rfl rfl rfl rfl rfl rfl ⟨rfl, rfl, rfl, rfl, rfl⟩ rfl rfl rfl rfl rfl (by kernel_rfl) Try.func5 closed_FnExactContractedBy
    (of_decide_eq_true (by kernel_rfl)) (by unfold Func.isWrapper; first | (rw [if_pos (by decide +kernel)]; kernel_rfl) | (rw [if_neg (by decide +kernel)]; exact ⟨rfl, rfl⟩))
    (fun os started H enc _ => fnExactContractedBy_lifted os started H enc)
end Go.Proofs.Ytmkabioglfeflaa
