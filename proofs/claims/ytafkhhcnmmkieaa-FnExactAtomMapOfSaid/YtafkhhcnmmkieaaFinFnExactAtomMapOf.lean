/- the law FnExactAtomMapOf of the given program holds: it returns true for all arguments. No condition beyond those of the statement. -/
import Derived.Test.YtafkhhcnmmkieaaQC
import Derived.Test.YtafkhhcnmmkieaaRows
import Derived.Test.YtafkhhcnmmkieaaChecked
set_option maxRecDepth 100000
set_option linter.unusedVariables false
namespace Go.Proofs.Ytafkhhcnmmkieaa
open Go Go.Gx Go.Proofs

def g_FnExactAtomMapOf (x : ((.pair (.pair (.sl (.sl I)) .unit) (.pair (.pair (.sl (.sl I)) .unit) (.pair (.sl I) .unit))) : Ty).den) : Option Bool := (laws_FnExactAtomMapOf x.1 x.2.1 x.2.2.1).map (·.1)
theorem goodl_FnExactAtomMapOf : Gx.Good Try.prog 13 (lawSig ((.pair (.pair (.sl (.sl I)) .unit) (.pair (.pair (.sl (.sl I)) .unit) (.pair (.sl I) .unit)))) 3 g_FnExactAtomMapOf) := Good.congr (fun _ => map_pair _) good_laws_FnExactAtomMapOf
theorem own_FnExactAtomMapOf : ownKnob Try.prog.godebug = none := by kernel_rfl
theorem laidOut_FnExactAtomMapOf : laidOutB Try.prog = true := by kernel_rfl

open Go.ChangeShapes Go.WideShapes Go.ChangeAt Go.RowKit

theorem fnExactAtomMapOf_lifted (os : Os) (started : os.Started) (H : Type) (enc : TypeId × Value → H) :
    ReturnsInHanded {} Try.checked os 13 .any (Rows.fnExactAtomMapOfSpec.pre6 enc Try.prog Try.f13 Rows.fnExactAtomMapOfRow.domain false) (Rows.fnExactAtomMapOfSpec.post enc Try.prog Try.f13 false true false false) := by
  refine returnsInHanded_of_change (C := Try.checked) own_FnExactAtomMapOf started (by kernel_rfl) Try.func13
    (ChangeSpec.witness6 (enc := enc) (C := Try.checked) false ⟨#[], #[.agg #[.slice none 0 0], .agg #[.slice none 0 0], .slice none 0 0], []⟩ 8 (by kernel_rfl) (by kernel_rfl) (by kernel_rfl) (by kernel_rfl)) ?_
  intro W base args ds gs before hval0 hW hcnd _
  exact law_ok (P := Try.prog) (fn := Try.f13) (n := 8) (ty := (.pair (.pair (.sl (.sl I)) .unit) (.pair (.pair (.sl (.sl I)) .unit) (.pair (.sl I) .unit)))) (Tb := 4) g_FnExactAtomMapOf laidOut_FnExactAtomMapOf (by kernel_rfl) (by kernel_rfl) goodl_FnExactAtomMapOf (fun x hx => by unfold g_FnExactAtomMapOf; rw [true_AtomMapOf (x.1) (x.2.1) (x.2.2.1) hx]; rfl) rfl (by kernel_rfl) rfl (fun ds hds => match ds, hds with | [d0, d1, d2], _ => ⟨rfl, rfl, rfl⟩) hval0 hW

theorem fnExactAtomMapOf_holds : Rows.FnExactAtomMapOfSaid :=
  OpenClaim.holds_of_wide 13 Try.f13 rfl rfl rfl rfl rfl rfl rfl ⟨rfl, rfl, rfl, rfl, rfl⟩ rfl rfl rfl rfl rfl (by kernel_rfl) Try.func13 (by kernel_rfl)
    (of_decide_eq_true (by kernel_rfl)) (by unfold Func.isWrapper; first | (rw [if_pos (by decide +kernel)]; kernel_rfl) | (rw [if_neg (by decide +kernel)]; exact ⟨rfl, rfl⟩))
    (fun os started H enc _ => fnExactAtomMapOf_lifted os started H enc)
end Go.Proofs.Ytafkhhcnmmkieaa
