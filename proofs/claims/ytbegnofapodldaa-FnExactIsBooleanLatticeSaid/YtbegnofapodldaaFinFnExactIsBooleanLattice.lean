/- the law FnExactIsBooleanLattice of the given program holds: it returns true for all arguments. No condition beyond those of the statement. -/
import Derived.Test.YtbegnofapodldaaQIB
import Derived.Test.YtbegnofapodldaaRows
import Derived.Test.YtbegnofapodldaaChecked
set_option maxRecDepth 100000
set_option linter.unusedVariables false
namespace Go.Proofs.Ytbegnofapodldaa
open Go Go.Gx Go.Proofs

def g_FnExactIsBooleanLattice (x : ((.pair (.pair (.sl (.sl I)) .unit) .unit) : Ty).den) : Option Bool := (laws_FnExactIsBooleanLattice x.1).map (·.1)
theorem goodl_FnExactIsBooleanLattice : Gx.Good Try.prog 14 (lawSig ((.pair (.pair (.sl (.sl I)) .unit) .unit)) 1 g_FnExactIsBooleanLattice) := Good.congr (fun _ => map_pair _) good_laws_FnExactIsBooleanLattice
theorem own_FnExactIsBooleanLattice : ownKnob Try.prog.godebug = none := by kernel_rfl
theorem laidOut_FnExactIsBooleanLattice : laidOutB Try.prog = true := by kernel_rfl

open Go.ChangeShapes Go.WideShapes Go.ChangeAt Go.RowKit

theorem fnExactIsBooleanLattice_lifted (os : Os) (started : os.Started) (H : Type) (enc : TypeId × Value → H) :
    ReturnsInHanded {} Try.checked os 14 .any (Rows.fnExactIsBooleanLatticeSpec.pre6 enc Try.prog Try.f14 Rows.fnExactIsBooleanLatticeRow.domain false) (Rows.fnExactIsBooleanLatticeSpec.post enc Try.prog Try.f14 false true false false) := by
  refine returnsInHanded_of_change (C := Try.checked) own_FnExactIsBooleanLattice started (by kernel_rfl) Try.func14
    (ChangeSpec.witness6 (enc := enc) (C := Try.checked) false ⟨#[], #[.agg #[.slice none 0 0]], []⟩ 8 (by kernel_rfl) (by kernel_rfl) (by kernel_rfl) (by kernel_rfl)) ?_
  intro W base args ds gs before hval0 hW hcnd _
  exact law_ok (P := Try.prog) (fn := Try.f14) (n := 8) (ty := (.pair (.pair (.sl (.sl I)) .unit) .unit)) (Tb := 4) g_FnExactIsBooleanLattice laidOut_FnExactIsBooleanLattice (by kernel_rfl) (by kernel_rfl) goodl_FnExactIsBooleanLattice (fun x hx => by unfold g_FnExactIsBooleanLattice; rw [true_IsBooleanLattice (x.1) hx]; rfl) rfl (by kernel_rfl) rfl (fun ds hds => match ds, hds with | [d0], _ => ⟨rfl, rfl, rfl⟩) hval0 hW

theorem fnExactIsBooleanLattice_holds : Rows.FnExactIsBooleanLatticeSaid :=
  OpenClaim.holds_of_wide 14 Try.f14 rfl rfl rfl rfl rfl rfl rfl ⟨rfl, rfl, rfl, rfl, rfl⟩ rfl rfl rfl rfl rfl (by kernel_rfl) Try.func14 (by kernel_rfl)
    (of_decide_eq_true (by kernel_rfl)) (by unfold Func.isWrapper; first | (rw [if_pos (by decide +kernel)]; kernel_rfl) | (rw [if_neg (by decide +kernel)]; exact ⟨rfl, rfl⟩))
    (fun os started H enc _ => fnExactIsBooleanLattice_lifted os started H enc)
end Go.Proofs.Ytbegnofapodldaa
