/- the law FnExactBlockIntervals of the given program holds: it returns true for all arguments. No condition beyond those of the statement. -/
import Derived.Test.YteamfbmkphjcjaaQBI
import Derived.Test.YteamfbmkphjcjaaRows
import Derived.Test.YteamfbmkphjcjaaChecked
set_option maxRecDepth 100000
set_option linter.unusedVariables false
namespace Go.Proofs.Yteamfbmkphjcjaa
open Go Go.Gx Go.Proofs

noncomputable def g_FnExactBlockIntervals (x : ((.pair (.pair (.sl (.sl I)) .unit) (.pair (.sl I) .unit)) : Ty).den) : Option Bool := (laws_FnExactBlockIntervals x.1 x.2.1).map (·.1)
theorem goodl_FnExactBlockIntervals : Gx.Good Try.prog 3 (lawSig ((.pair (.pair (.sl (.sl I)) .unit) (.pair (.sl I) .unit))) 2 g_FnExactBlockIntervals) := Good.congr (fun _ => map_pair _) good_laws_FnExactBlockIntervals
theorem own_FnExactBlockIntervals : ownKnob Try.prog.godebug = none := by kernel_rfl
theorem laidOut_FnExactBlockIntervals : laidOutB Try.prog = true := by kernel_rfl

open Go.ChangeShapes Go.WideShapes Go.ChangeAt Go.RowKit

theorem fnExactBlockIntervals_lifted (os : Os) (started : os.Started) (H : Type) (enc : TypeId × Value → H) :
    ReturnsInHanded {} Try.checked os 3 .any (Rows.fnExactBlockIntervalsSpec.pre6 enc Try.prog Try.f3 Rows.fnExactBlockIntervalsRow.domain false) (Rows.fnExactBlockIntervalsSpec.post enc Try.prog Try.f3 false true false false) := by
  refine returnsInHanded_of_change (C := Try.checked) own_FnExactBlockIntervals started (by kernel_rfl) Try.func3
    (ChangeSpec.witness6 (enc := enc) (C := Try.checked) false ⟨#[], #[.agg #[.slice none 0 0], .slice none 0 0], []⟩ 8 (by kernel_rfl) (by kernel_rfl) (by kernel_rfl) (by kernel_rfl)) ?_
  intro W base args ds gs before hval0 hW hcnd _
  exact law_ok (P := Try.prog) (fn := Try.f3) (n := 8) (ty := (.pair (.pair (.sl (.sl I)) .unit) (.pair (.sl I) .unit))) (Tb := 4) g_FnExactBlockIntervals laidOut_FnExactBlockIntervals (by kernel_rfl) (by kernel_rfl) goodl_FnExactBlockIntervals (fun x hx => by unfold g_FnExactBlockIntervals; rw [true_BlockIntervals (x.1) (x.2.1) hx]; rfl) rfl (by kernel_rfl) rfl (fun ds hds => match ds, hds with | [d0, d1], _ => ⟨rfl, rfl, rfl⟩) hval0 hW

theorem closed_FnExactBlockIntervals : joinedFacts Try.pinned.checked.prog 3 Try.f3 Rows.fnExactBlockIntervalsSpec Rows.fnExactBlockIntervalsRow = true := by kernel_rfl
theorem fnExactBlockIntervals_holds : Rows.FnExactBlockIntervalsSaid :=
  OpenClaim.holds_of_wide 3 Try.f3 rfl rfl rfl rfl rfl rfl rfl ⟨rfl, rfl, rfl, rfl, rfl⟩ rfl rfl rfl rfl rfl (by kernel_rfl) Try.func3 closed_FnExactBlockIntervals
    (of_decide_eq_true (by kernel_rfl)) (by unfold Func.isWrapper; first | (rw [if_pos (by decide +kernel)]; kernel_rfl) | (rw [if_neg (by decide +kernel)]; exact ⟨rfl, rfl⟩))
    (fun os started H enc _ => fnExactBlockIntervals_lifted os started H enc)
end Go.Proofs.Yteamfbmkphjcjaa
