/- the law FnIntervals of the given program holds: it returns true for all arguments. No condition beyond those of the statement. -/
import Derived.Test.YteanfidobhpchaaQIV
import Derived.Test.YteanfidobhpchaaRows
import Derived.Test.YteanfidobhpchaaChecked
set_option maxRecDepth 100000
set_option linter.unusedVariables false
namespace Go.Proofs.Yteanfidobhpchaa
open Go Go.Gx Go.Proofs

noncomputable def g_FnIntervals (x : ((.pair (.sl (.int .u8)) .unit) : Ty).den) : Option Bool := (laws_FnIntervals big x.1).map (·.1)
theorem goodl_FnIntervals : Gx.Good Try.prog 4 (lawSig ((.pair (.sl (.int .u8)) .unit)) 1 g_FnIntervals) := Good.congr (fun _ => map_pair _) good_laws_FnIntervals
theorem own_FnIntervals : ownKnob Try.prog.godebug = none := by kernel_rfl
theorem laidOut_FnIntervals : laidOutB Try.prog = true := by kernel_rfl

open Go.ChangeShapes Go.WideShapes Go.ChangeAt Go.RowKit

theorem fnIntervals_lifted (os : Os) (started : os.Started) (H : Type) (enc : TypeId × Value → H) :
    ReturnsInHanded {} Try.checked os 4 .any (Rows.fnIntervalsSpec.pre6 enc Try.prog Try.f4 Rows.fnIntervalsRow.domain false) (Rows.fnIntervalsSpec.post enc Try.prog Try.f4 false true false false) := by
  refine returnsInHanded_of_change (C := Try.checked) own_FnIntervals started (by kernel_rfl) Try.func4
    (ChangeSpec.witness6 (enc := enc) (C := Try.checked) false ⟨#[], #[.slice none 0 0], []⟩ 8 (by kernel_rfl) (by kernel_rfl) (by kernel_rfl) (by kernel_rfl)) ?_
  intro W base args ds gs before hval0 hW hcnd _
  exact law_ok (P := Try.prog) (fn := Try.f4) (n := 8) (ty := (.pair (.sl (.int .u8)) .unit)) (Tb := 4) g_FnIntervals laidOut_FnIntervals (by kernel_rfl) (by kernel_rfl) goodl_FnIntervals (fun x hx => by unfold g_FnIntervals; rw [true_FnIntervals (x.1) hx]; rfl) rfl (by kernel_rfl) rfl (fun ds hds => match ds, hds with | [d0], _ => ⟨rfl, rfl, rfl⟩) hval0 hW

theorem closed_FnIntervals : joinedFacts Try.pinned.checked.prog 4 Try.f4 Rows.fnIntervalsSpec Rows.fnIntervalsRow = true := by kernel_rfl
theorem fnIntervals_holds : Rows.FnIntervalsSaid :=
  OpenClaim.holds_of_wide 4 Try.f4 rfl rfl rfl rfl rfl rfl rfl ⟨rfl, rfl, rfl, rfl, rfl⟩ rfl rfl rfl rfl rfl (by kernel_rfl) Try.func4 closed_FnIntervals
    (of_decide_eq_true (by kernel_rfl)) (by unfold Func.isWrapper; first | (rw [if_pos (by decide +kernel)]; kernel_rfl) | (rw [if_neg (by decide +kernel)]; exact ⟨rfl, rfl⟩))
    (fun os started H enc _ => fnIntervals_lifted os started H enc)
end Go.Proofs.Yteanfidobhpchaa
