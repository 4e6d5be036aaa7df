/- the law FnExactFindPentagon of the given program holds: it returns true for all arguments. No condition beyond those of the statement. -/
import Derived.Test.YtafkhhcnmmkieaaQB
import Derived.Test.YtafkhhcnmmkieaaRows
import Derived.Test.YtafkhhcnmmkieaaChecked
set_option maxRecDepth 100000
set_option linter.unusedVariables false
namespace Go.Proofs.Ytafkhhcnmmkieaa
open Go Go.Gx Go.Proofs

def g_FnExactFindPentagon (x : ((.pair (.pair (.sl (.sl I)) .unit) .unit) : Ty).den) : Option Bool := (laws_FnExactFindPentagon x.1).map (·.1)
theorem goodl_FnExactFindPentagon : Gx.Good Try.prog 7 (lawSig ((.pair (.pair (.sl (.sl I)) .unit) .unit)) 1 g_FnExactFindPentagon) := Good.congr (fun _ => map_pair _) good_laws_FnExactFindPentagon
theorem own_FnExactFindPentagon : ownKnob Try.prog.godebug = none := by kernel_rfl
theorem laidOut_FnExactFindPentagon : laidOutB Try.prog = true := by kernel_rfl

open Go.ChangeShapes Go.WideShapes Go.ChangeAt Go.RowKit

theorem fnExactFindPentagon_lifted (os : Os) (started : os.Started) (H : Type) (enc : TypeId × Value → H) :
    ReturnsInHanded {} Try.checked os 7 .any (Rows.fnExactFindPentagonSpec.pre6 enc Try.prog Try.f7 Rows.fnExactFindPentagonRow.domain false) (Rows.fnExactFindPentagonSpec.post enc Try.prog Try.f7 false true false false) := by
  refine returnsInHanded_of_change (C := Try.checked) own_FnExactFindPentagon started (by kernel_rfl) Try.func7
    (ChangeSpec.witness6 (enc := enc) (C := Try.checked) false ⟨#[], #[.agg #[.slice none 0 0]], []⟩ 8 (by kernel_rfl) (by kernel_rfl) (by kernel_rfl) (by kernel_rfl)) ?_
  intro W base args ds gs before hval0 hW hcnd _
  exact law_ok (P := Try.prog) (fn := Try.f7) (n := 8) (ty := (.pair (.pair (.sl (.sl I)) .unit) .unit)) (Tb := 4) g_FnExactFindPentagon laidOut_FnExactFindPentagon (by kernel_rfl) (by kernel_rfl) goodl_FnExactFindPentagon (fun x hx => by unfold g_FnExactFindPentagon; rw [true_FindPentagon (x.1) hx]; rfl) rfl (by kernel_rfl) rfl (fun ds hds => match ds, hds with | [d0], _ => ⟨rfl, rfl, rfl⟩) hval0 hW

theorem fnExactFindPentagon_holds : Rows.FnExactFindPentagonSaid :=
  OpenClaim.holds_of_wide 7 Try.f7 rfl rfl rfl rfl rfl rfl rfl ⟨rfl, rfl, rfl, rfl, rfl⟩ rfl rfl rfl rfl rfl (by kernel_rfl) Try.func7 (by kernel_rfl)
    (of_decide_eq_true (by kernel_rfl)) (by unfold Func.isWrapper; first | (rw [if_pos (by decide +kernel)]; kernel_rfl) | (rw [if_neg (by decide +kernel)]; exact ⟨rfl, rfl⟩))
    (fun os started H enc _ => fnExactFindPentagon_lifted os started H enc)
end Go.Proofs.Ytafkhhcnmmkieaa
