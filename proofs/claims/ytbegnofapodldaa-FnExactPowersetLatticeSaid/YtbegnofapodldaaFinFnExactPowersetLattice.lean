/- the law FnExactPowersetLattice of the given program holds: it returns true for all arguments. No condition beyond those of the statement. -/
import Derived.Test.YtbegnofapodldaaQF
import Derived.Test.YtbegnofapodldaaRows
import Derived.Test.YtbegnofapodldaaChecked
set_option maxRecDepth 100000
set_option linter.unusedVariables false
namespace Go.Proofs.Ytbegnofapodldaa
open Go Go.Gx Go.Proofs

def g_FnExactPowersetLattice (x : ((.pair I .unit) : Ty).den) : Option Bool := (laws_FnExactPowersetLattice x.1).map (·.1)
theorem goodl_FnExactPowersetLattice : Gx.Good Try.prog 4 (lawSig ((.pair I .unit)) 1 g_FnExactPowersetLattice) := Good.congr (fun _ => map_pair _) good_laws_FnExactPowersetLattice
theorem own_FnExactPowersetLattice : ownKnob Try.prog.godebug = none := by kernel_rfl
theorem laidOut_FnExactPowersetLattice : laidOutB Try.prog = true := by kernel_rfl

open Go.ChangeShapes Go.WideShapes Go.ChangeAt Go.RowKit

theorem fnExactPowersetLattice_lifted (os : Os) (started : os.Started) (H : Type) (enc : TypeId × Value → H) :
    ReturnsInHanded {} Try.checked os 4 .any (Rows.fnExactPowersetLatticeSpec.pre6 enc Try.prog Try.f4 Rows.fnExactPowersetLatticeRow.domain false) (Rows.fnExactPowersetLatticeSpec.post enc Try.prog Try.f4 false true false false) := by
  refine returnsInHanded_of_change (C := Try.checked) own_FnExactPowersetLattice started (by kernel_rfl) Try.func4
    (ChangeSpec.witness6 (enc := enc) (C := Try.checked) false ⟨#[], #[.int .i64 0], []⟩ 8 (by kernel_rfl) (by kernel_rfl) (by kernel_rfl) (by kernel_rfl)) ?_
  intro W base args ds gs before hval0 hW hcnd _
  exact law_ok (P := Try.prog) (fn := Try.f4) (n := 8) (ty := (.pair I .unit)) (Tb := 4) g_FnExactPowersetLattice laidOut_FnExactPowersetLattice (by kernel_rfl) (by kernel_rfl) goodl_FnExactPowersetLattice (fun x hx => by unfold g_FnExactPowersetLattice; rw [true_PowersetLattice (x.1) hx]; rfl) rfl (by kernel_rfl) rfl (fun ds hds => match ds, hds with | [d0], _ => ⟨rfl, rfl, rfl⟩) hval0 hW

theorem fnExactPowersetLattice_holds : Rows.FnExactPowersetLatticeSaid :=
  OpenClaim.holds_of_wide 4 Try.f4 rfl rfl rfl rfl rfl rfl rfl ⟨rfl, rfl, rfl, rfl, rfl⟩ rfl rfl rfl rfl rfl (by kernel_rfl) Try.func4 (by kernel_rfl)
    (of_decide_eq_true (by kernel_rfl)) (by unfold Func.isWrapper; first | (rw [if_pos (by decide +kernel)]; kernel_rfl) | (rw [if_neg (by decide +kernel)]; exact ⟨rfl, rfl⟩))
    (fun os started H enc _ => fnExactPowersetLattice_lifted os started H enc)
end Go.Proofs.Ytbegnofapodldaa
