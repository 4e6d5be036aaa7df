/- the law FnExactForcingPairs of the given program holds: it returns true for all arguments. No condition beyond those of the statement. -/
import Derived.Test.YtmkabioglfeflaaQC
import Derived.Test.YtmkabioglfeflaaRows
import Derived.Test.YtmkabioglfeflaaChecked
set_option maxRecDepth 100000
set_option linter.unusedVariables false
namespace Go.Proofs.Ytmkabioglfeflaa
open Go Go.Gx Go.Proofs

def g_FnExactForcingPairs (x : ((.pair (.pair (.sl (.sl I)) .unit) .unit) : Ty).den) : Option Bool := (laws_FnExactForcingPairs x.1).map (·.1)
theorem goodl_FnExactForcingPairs : Gx.Good Try.prog 6 (lawSig ((.pair (.pair (.sl (.sl I)) .unit) .unit)) 1 g_FnExactForcingPairs) := Good.congr (fun _ => map_pair _) good_laws_FnExactForcingPairs
theorem own_FnExactForcingPairs : ownKnob Try.prog.godebug = none := by kernel_rfl
theorem laidOut_FnExactForcingPairs : laidOutB Try.prog = true := by kernel_rfl

open Go.ChangeShapes Go.WideShapes Go.ChangeAt Go.RowKit

theorem fnExactForcingPairs_lifted (os : Os) (started : os.Started) (H : Type) (enc : TypeId × Value → H) :
    ReturnsInHanded {} Try.checked os 6 .any (Rows.fnExactForcingPairsSpec.pre6 enc Try.prog Try.f6 Rows.fnExactForcingPairsRow.domain false) (Rows.fnExactForcingPairsSpec.post enc Try.prog Try.f6 false true false false) := by
  refine returnsInHanded_of_change (C := Try.checked) own_FnExactForcingPairs started (by kernel_rfl) Try.func6
    (ChangeSpec.witness6 (enc := enc) (C := Try.checked) false ⟨#[], #[.agg #[.slice none 0 0]], []⟩ 8 (by kernel_rfl) (by kernel_rfl) (by kernel_rfl) (by kernel_rfl)) ?_
  intro W base args ds gs before hval0 hW hcnd _
  exact law_ok (P := Try.prog) (fn := Try.f6) (n := 8) (ty := (.pair (.pair (.sl (.sl I)) .unit) .unit)) (Tb := 4) g_FnExactForcingPairs laidOut_FnExactForcingPairs (by kernel_rfl) (by kernel_rfl) goodl_FnExactForcingPairs (fun x hx => by unfold g_FnExactForcingPairs; rw [true_ForcingPairs (x.1) hx]; rfl) rfl (by kernel_rfl) rfl (fun ds hds => match ds, hds with | [d0], _ => ⟨rfl, rfl, rfl⟩) hval0 hW

theorem closed_FnExactForcingPairs : joinedFacts Try.pinned.checked.prog 6 Try.f6 Rows.fnExactForcingPairsSpec Rows.fnExactForcingPairsRow = true := by kernel_rfl
theorem fnExactForcingPairs_holds : Rows.FnExactForcingPairsSaid :=
  OpenClaim.holds_of_wide 6 Try.f6 rfl rfl rfl rfl rfl rfl rfl ⟨rfl, rfl, rfl, rfl, rfl⟩ rfl rfl rfl rfl rfl (by kernel_rfl) Try.func6 closed_FnExactForcingPairs
    (of_decide_eq_true (by kernel_rfl)) (by unfold Func.isWrapper; first | (rw [if_pos (by decide +kernel)]; kernel_rfl) | (rw [if_neg (by decide +kernel)]; exact ⟨rfl, rfl⟩))
    (fun os started H enc _ => fnExactForcingPairs_lifted os started H enc)
end Go.Proofs.Ytmkabioglfeflaa
