/- the law FnStone of the given program holds: it returns true for all arguments. No condition beyond those of the statement. -/
import Derived.Test.YtgmapdlhkfajoaaGreatQST
import Derived.Test.YtgmapdlhkfajoaaGreatRows
import Derived.Test.YtgmapdlhkfajoaaGreatChecked
set_option maxRecDepth 100000
set_option linter.unusedVariables false
namespace Go.Proofs.YtgmapdlhkfajoaaGreat
open Go Go.Gx Go.Proofs

noncomputable def g_FnStone (x : ((.pair (.sl (.int .u8)) .unit) : Ty).den) : Option Bool := (laws_FnStone big x.1).map (·.1)
theorem goodl_FnStone : Gx.Good Tryz.prog 3 (lawSig ((.pair (.sl (.int .u8)) .unit)) 1 g_FnStone) := Good.congr (fun _ => map_pair _) good_laws_FnStone
theorem own_FnStone : ownKnob Tryz.prog.godebug = none := by kernel_rfl
theorem laidOut_FnStone : laidOutB Tryz.prog = true := by kernel_rfl

open Go.ChangeShapes Go.WideShapes Go.ChangeAt Go.RowKit

theorem fnStone_lifted (os : Os) (started : os.Started) (H : Type) (enc : TypeId × Value → H) :
    ReturnsInHanded {} Tryz.checked os 3 .any (Rows.fnStoneSpec.pre6 enc Tryz.prog Tryz.f3 Rows.fnStoneRow.domain false) (Rows.fnStoneSpec.post enc Tryz.prog Tryz.f3 false true false false) := by
  refine returnsInHanded_of_change (C := Tryz.checked) own_FnStone started (by kernel_rfl) Tryz.func3
    (ChangeSpec.witness6 (enc := enc) (C := Tryz.checked) false ⟨#[], #[.slice none 0 0], []⟩ 8 (by kernel_rfl) (by kernel_rfl) (by kernel_rfl) (by kernel_rfl)) ?_
  intro W base args ds gs before hval0 hW hcnd _
  exact law_ok (P := Tryz.prog) (fn := Tryz.f3) (n := 8) (ty := (.pair (.sl (.int .u8)) .unit)) (Tb := 4) g_FnStone laidOut_FnStone (by kernel_rfl) (by kernel_rfl) goodl_FnStone (fun x hx => by unfold g_FnStone; rw [true_FnStone (x.1) hx]; rfl) rfl (by kernel_rfl) rfl (fun ds hds => match ds, hds with | [d0], _ => ⟨rfl, rfl, rfl⟩) hval0 hW

theorem closed_FnStone : joinedFacts Tryz.pinned.checked.prog 3 Tryz.f3 Rows.fnStoneSpec Rows.fnStoneRow = true := by kernel_rfl
theorem fnStone_holds : Rows.FnStoneSaid :=
  OpenClaim.holds_of_wide 3 Tryz.f3 rfl rfl rfl rfl rfl rfl rfl ⟨rfl, rfl, rfl, rfl, rfl⟩ rfl rfl rfl rfl rfl (by kernel_rfl) Tryz.func3 closed_FnStone
    (of_decide_eq_true (by kernel_rfl)) (by unfold Func.isWrapper; first | (rw [if_pos (by decide +kernel)]; kernel_rfl) | (rw [if_neg (by decide +kernel)]; exact ⟨rfl, rfl⟩))
    (fun os started H enc _ => fnStone_lifted os started H enc)
end Go.Proofs.YtgmapdlhkfajoaaGreat
