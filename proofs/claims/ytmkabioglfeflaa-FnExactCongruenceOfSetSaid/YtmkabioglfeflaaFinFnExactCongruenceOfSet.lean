/- the law FnExactCongruenceOfSet of the given program holds: it returns true for all arguments. No condition beyond those of the statement. -/
import Derived.Test.YtmkabioglfeflaaQC
import Derived.Test.YtmkabioglfeflaaRows
import Derived.Test.YtmkabioglfeflaaChecked
set_option maxRecDepth 100000
set_option linter.unusedVariables false
namespace Go.Proofs.Ytmkabioglfeflaa
open Go Go.Gx Go.Proofs

def g_FnExactCongruenceOfSet (x : ((.pair (.pair (.sl (.sl I)) .unit) (.pair (.sl I) .unit)) : Ty).den) : Option Bool := (laws_FnExactCongruenceOfSet x.1 x.2.1).map (·.1)
theorem goodl_FnExactCongruenceOfSet : Gx.Good Try.prog 8 (lawSig ((.pair (.pair (.sl (.sl I)) .unit) (.pair (.sl I) .unit))) 2 g_FnExactCongruenceOfSet) := Good.congr (fun _ => map_pair _) good_laws_FnExactCongruenceOfSet
theorem own_FnExactCongruenceOfSet : ownKnob Try.prog.godebug = none := by kernel_rfl
theorem laidOut_FnExactCongruenceOfSet : laidOutB Try.prog = true := by kernel_rfl

open Go.ChangeShapes Go.WideShapes Go.ChangeAt Go.RowKit

theorem fnExactCongruenceOfSet_lifted (os : Os) (started : os.Started) (H : Type) (enc : TypeId × Value → H) :
    ReturnsInHanded {} Try.checked os 8 .any (Rows.fnExactCongruenceOfSetSpec.pre6 enc Try.prog Try.f8 Rows.fnExactCongruenceOfSetRow.domain false) (Rows.fnExactCongruenceOfSetSpec.post enc Try.prog Try.f8 false true false false) := by
  refine returnsInHanded_of_change (C := Try.checked) own_FnExactCongruenceOfSet started (by kernel_rfl) Try.func8
    (ChangeSpec.witness6 (enc := enc) (C := Try.checked) false ⟨#[], #[.agg #[.slice none 0 0], .slice none 0 0], []⟩ 8 (by kernel_rfl) (by kernel_rfl) (by kernel_rfl) (by kernel_rfl)) ?_
  intro W base args ds gs before hval0 hW hcnd _
  exact law_ok (P := Try.prog) (fn := Try.f8) (n := 8) (ty := (.pair (.pair (.sl (.sl I)) .unit) (.pair (.sl I) .unit))) (Tb := 4) g_FnExactCongruenceOfSet laidOut_FnExactCongruenceOfSet (by kernel_rfl) (by kernel_rfl) goodl_FnExactCongruenceOfSet (fun x hx => by unfold g_FnExactCongruenceOfSet; rw [true_CongruenceOfSet (x.1) (x.2.1) hx]; rfl) rfl (by kernel_rfl) rfl (fun ds hds => match ds, hds with | [d0, d1], _ => ⟨rfl, rfl, rfl⟩) hval0 hW

theorem closed_FnExactCongruenceOfSet : joinedFacts Try.pinned.checked.prog 8 Try.f8 Rows.fnExactCongruenceOfSetSpec Rows.fnExactCongruenceOfSetRow = true := by kernel_rfl
theorem fnExactCongruenceOfSet_holds : Rows.FnExactCongruenceOfSetSaid :=
  OpenClaim.holds_of_wide 8 Try.f8 rfl rfl rfl rfl rfl rfl rfl ⟨rfl, rfl, rfl, rfl, rfl⟩ rfl rfl rfl rfl rfl (by kernel_rfl) Try.func8 closed_FnExactCongruenceOfSet
    (of_decide_eq_true (by kernel_rfl)) (by unfold Func.isWrapper; first | (rw [if_pos (by decide +kernel)]; kernel_rfl) | (rw [if_neg (by decide +kernel)]; exact ⟨rfl, rfl⟩))
    (fun os started H enc _ => fnExactCongruenceOfSet_lifted os started H enc)
end Go.Proofs.Ytmkabioglfeflaa
