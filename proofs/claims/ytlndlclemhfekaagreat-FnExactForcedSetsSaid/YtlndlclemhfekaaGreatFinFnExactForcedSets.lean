/- the law FnExactForcedSets of the given program holds: it returns true for all arguments. No condition beyond those of the statement. -/
import Derived.Test.YtlndlclemhfekaaGreatQk13
import Derived.Test.YtlndlclemhfekaaGreatRows
import Derived.Test.YtlndlclemhfekaaGreatChecked
set_option maxRecDepth 100000
set_option linter.unusedVariables false
namespace Go.Proofs.YtlndlclemhfekaaGreat
open Go Go.Gx Go.Proofs

noncomputable def g_FnExactForcedSets (x : ((.pair (.pair (.sl (.sl I)) .unit) .unit) : Ty).den) : Option Bool := (laws_FnExactForcedSets x.1).map (·.1)
theorem goodl_FnExactForcedSets : Gx.Good Tryz.prog 3 (lawSig ((.pair (.pair (.sl (.sl I)) .unit) .unit)) 1 g_FnExactForcedSets) := Good.congr (fun _ => map_pair _) good_laws_FnExactForcedSets
theorem own_FnExactForcedSets : ownKnob Tryz.prog.godebug = none := by kernel_rfl
theorem laidOut_FnExactForcedSets : laidOutB Tryz.prog = true := by kernel_rfl

open Go.ChangeShapes Go.WideShapes Go.ChangeAt Go.RowKit

theorem fnExactForcedSets_lifted (os : Os) (started : os.Started) (H : Type) (enc : TypeId × Value → H) :
    ReturnsInHanded {} Tryz.checked os 3 .any (Rows.fnExactForcedSetsSpec.pre6 enc Tryz.prog Tryz.f3 Rows.fnExactForcedSetsRow.domain false) (Rows.fnExactForcedSetsSpec.post enc Tryz.prog Tryz.f3 false true false false) := by
  refine returnsInHanded_of_change (C := Tryz.checked) own_FnExactForcedSets started (by kernel_rfl) Tryz.func3
    (ChangeSpec.witness6 (enc := enc) (C := Tryz.checked) false ⟨#[], #[.agg #[.slice none 0 0]], []⟩ 8 (by kernel_rfl) (by kernel_rfl) (by kernel_rfl) (by kernel_rfl)) ?_
  intro W base args ds gs before hval0 hW hcnd _
  exact law_ok (P := Tryz.prog) (fn := Tryz.f3) (n := 8) (ty := (.pair (.pair (.sl (.sl I)) .unit) .unit)) (Tb := 4) g_FnExactForcedSets laidOut_FnExactForcedSets (by kernel_rfl) (by kernel_rfl) goodl_FnExactForcedSets (fun x hx => by unfold g_FnExactForcedSets; rw [true_ForcedSets (x.1) hx]; rfl) rfl (by kernel_rfl) rfl (fun ds hds => match ds, hds with | [d0], _ => ⟨rfl, rfl, rfl⟩) hval0 hW

theorem closed_FnExactForcedSets : joinedFacts Tryz.pinned.checked.prog 3 Tryz.f3 Rows.fnExactForcedSetsSpec Rows.fnExactForcedSetsRow = true := by kernel_rfl
theorem fnExactForcedSets_holds : Rows.FnExactForcedSetsSaid :=
  OpenClaim.holds_of_wide 3 Tryz.f3 rfl rfl rfl rfl rfl rfl rfl ⟨rfl, rfl, rfl, rfl, rfl⟩ rfl rfl rfl rfl rfl (by kernel_rfl) Tryz.func3 closed_FnExactForcedSets
    (of_decide_eq_true (by kernel_rfl)) (by unfold Func.isWrapper; first | (rw [if_pos (by decide +kernel)]; kernel_rfl) | (rw [if_neg (by decide +kernel)]; exact ⟨rfl, rfl⟩))
    (fun os started H enc _ => fnExactForcedSets_lifted os started H enc)
end Go.Proofs.YtlndlclemhfekaaGreat
