/- the law FnForcing of the given program holds: it returns true for all arguments. No condition beyond those of the statement. -/
import Derived.Test.YtaehhdpcmfagjaaGreatQFO
import Derived.Test.YtaehhdpcmfagjaaGreatRows
import Derived.Test.YtaehhdpcmfagjaaGreatChecked
set_option maxRecDepth 100000
set_option linter.unusedVariables false
namespace Go.Proofs.YtaehhdpcmfagjaaGreat
open Go Go.Gx Go.Proofs

noncomputable def g_FnForcing (x : ((.pair (.sl (.int .u8)) .unit) : Ty).den) : Option Bool := (laws_FnForcing big x.1).map (·.1)
theorem goodl_FnForcing : Gx.Good Tryz.prog 3 (lawSig ((.pair (.sl (.int .u8)) .unit)) 1 g_FnForcing) := Good.congr (fun _ => map_pair _) good_laws_FnForcing
theorem own_FnForcing : ownKnob Tryz.prog.godebug = none := by kernel_rfl
theorem laidOut_FnForcing : laidOutB Tryz.prog = true := by kernel_rfl

open Go.ChangeShapes Go.WideShapes Go.ChangeAt Go.RowKit

theorem fnForcing_lifted (os : Os) (started : os.Started) (H : Type) (enc : TypeId × Value → H) :
    ReturnsInHanded {} Tryz.checked os 3 .any (Rows.fnForcingSpec.pre6 enc Tryz.prog Tryz.f3 Rows.fnForcingRow.domain false) (Rows.fnForcingSpec.post enc Tryz.prog Tryz.f3 false true false false) := by
  refine returnsInHanded_of_change (C := Tryz.checked) own_FnForcing started (by kernel_rfl) Tryz.func3
    (ChangeSpec.witness6 (enc := enc) (C := Tryz.checked) false ⟨#[], #[.slice none 0 0], []⟩ 8 (by kernel_rfl) (by kernel_rfl) (by kernel_rfl) (by kernel_rfl)) ?_
  intro W base args ds gs before hval0 hW hcnd _
  exact law_ok (P := Tryz.prog) (fn := Tryz.f3) (n := 8) (ty := (.pair (.sl (.int .u8)) .unit)) (Tb := 4) g_FnForcing laidOut_FnForcing (by kernel_rfl) (by kernel_rfl) goodl_FnForcing (fun x hx => by unfold g_FnForcing; rw [true_FnForcing (x.1) hx]; rfl) rfl (by kernel_rfl) rfl (fun ds hds => match ds, hds with | [d0], _ => ⟨rfl, rfl, rfl⟩) hval0 hW

theorem closed_FnForcing : joinedFacts Tryz.pinned.checked.prog 3 Tryz.f3 Rows.fnForcingSpec Rows.fnForcingRow = true := by kernel_rfl
theorem fnForcing_holds : Rows.FnForcingSaid :=
  OpenClaim.holds_of_wide 3 Tryz.f3 rfl rfl rfl rfl rfl rfl rfl ⟨rfl, rfl, rfl, rfl, rfl⟩ rfl rfl rfl rfl rfl (by kernel_rfl) Tryz.func3 closed_FnForcing
    (of_decide_eq_true (by kernel_rfl)) (by unfold Func.isWrapper; first | (rw [if_pos (by decide +kernel)]; kernel_rfl) | (rw [if_neg (by decide +kernel)]; exact ⟨rfl, rfl⟩))
    (fun os started H enc _ => fnForcing_lifted os started H enc)
end Go.Proofs.YtaehhdpcmfagjaaGreat
