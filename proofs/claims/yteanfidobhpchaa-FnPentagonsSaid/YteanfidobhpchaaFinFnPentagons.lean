/- the law FnPentagons of the given program holds: it returns true for all arguments. No condition beyond those of the statement. -/
import Derived.Test.YteanfidobhpchaaQPN
import Derived.Test.YteanfidobhpchaaRows
import Derived.Test.YteanfidobhpchaaChecked
set_option maxRecDepth 100000
set_option linter.unusedVariables false
namespace Go.Proofs.Yteanfidobhpchaa
open Go Go.Gx Go.Proofs

noncomputable def g_FnPentagons (x : ((.pair (.sl (.int .u8)) .unit) : Ty).den) : Option Bool := (laws_FnPentagons x.1).map (·.1)
theorem goodl_FnPentagons : Gx.Good Try.prog 3 (lawSig ((.pair (.sl (.int .u8)) .unit)) 1 g_FnPentagons) := Good.congr (fun _ => map_pair _) good_laws_FnPentagons
theorem own_FnPentagons : ownKnob Try.prog.godebug = none := by kernel_rfl
theorem laidOut_FnPentagons : laidOutB Try.prog = true := by kernel_rfl

open Go.ChangeShapes Go.WideShapes Go.ChangeAt Go.RowKit

theorem fnPentagons_lifted (os : Os) (started : os.Started) (H : Type) (enc : TypeId × Value → H) :
    ReturnsInHanded {} Try.checked os 3 .any (Rows.fnPentagonsSpec.pre6 enc Try.prog Try.f3 Rows.fnPentagonsRow.domain false) (Rows.fnPentagonsSpec.post enc Try.prog Try.f3 false true false false) := by
  refine returnsInHanded_of_change (C := Try.checked) own_FnPentagons started (by kernel_rfl) Try.func3
    (ChangeSpec.witness6 (enc := enc) (C := Try.checked) false ⟨#[], #[.slice none 0 0], []⟩ 8 (by kernel_rfl) (by kernel_rfl) (by kernel_rfl) (by kernel_rfl)) ?_
  intro W base args ds gs before hval0 hW hcnd _
  exact law_ok (P := Try.prog) (fn := Try.f3) (n := 8) (ty := (.pair (.sl (.int .u8)) .unit)) (Tb := 4) g_FnPentagons laidOut_FnPentagons (by kernel_rfl) (by kernel_rfl) goodl_FnPentagons (fun x hx => by unfold g_FnPentagons; rw [true_FnPentagons (x.1) hx]; rfl) rfl (by kernel_rfl) rfl (fun ds hds => match ds, hds with | [d0], _ => ⟨rfl, rfl, rfl⟩) hval0 hW

theorem closed_FnPentagons : joinedFacts Try.pinned.checked.prog 3 Try.f3 Rows.fnPentagonsSpec Rows.fnPentagonsRow = true := by kernel_rfl
theorem fnPentagons_holds : Rows.FnPentagonsSaid :=
  OpenClaim.holds_of_wide 3 Try.f3 rfl rfl rfl rfl rfl rfl rfl ⟨rfl, rfl, rfl, rfl, rfl⟩ rfl rfl rfl rfl rfl (by kernel_rfl) Try.func3 closed_FnPentagons
    (of_decide_eq_true (by kernel_rfl)) (by unfold Func.isWrapper; first | (rw [if_pos (by decide +kernel)]; kernel_rfl) | (rw [if_neg (by decide +kernel)]; exact ⟨rfl, rfl⟩))
    (fun os started H enc _ => fnPentagons_lifted os started H enc)
end Go.Proofs.Yteanfidobhpchaa
