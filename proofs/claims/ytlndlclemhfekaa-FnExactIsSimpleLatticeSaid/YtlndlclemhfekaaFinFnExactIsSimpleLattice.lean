/- the law FnExactIsSimpleLattice of the given program holds: it returns true for all arguments. No condition beyond those of the statement. -/
import Derived.Test.YtlndlclemhfekaaQk14
import Derived.Test.YtlndlclemhfekaaRows
import Derived.Test.YtlndlclemhfekaaChecked
set_option maxRecDepth 100000
set_option linter.unusedVariables false
namespace Go.Proofs.Ytlndlclemhfekaa
open Go Go.Gx Go.Proofs

noncomputable def g_FnExactIsSimpleLattice (x : ((.pair (.pair (.sl (.sl I)) .unit) .unit) : Ty).den) : Option Bool := (laws_FnExactIsSimpleLattice x.1).map (·.1)
theorem goodl_FnExactIsSimpleLattice : Gx.Good Try.prog 5 (lawSig ((.pair (.pair (.sl (.sl I)) .unit) .unit)) 1 g_FnExactIsSimpleLattice) := Good.congr (fun _ => map_pair _) good_laws_FnExactIsSimpleLattice
theorem own_FnExactIsSimpleLattice : ownKnob Try.prog.godebug = none := by kernel_rfl
theorem laidOut_FnExactIsSimpleLattice : laidOutB Try.prog = true := by kernel_rfl

open Go.ChangeShapes Go.WideShapes Go.ChangeAt Go.RowKit

theorem fnExactIsSimpleLattice_lifted (os : Os) (started : os.Started) (H : Type) (enc : TypeId × Value → H) :
    ReturnsInHanded {} Try.checked os 5 .any (Rows.fnExactIsSimpleLatticeSpec.pre6 enc Try.prog Try.f5 Rows.fnExactIsSimpleLatticeRow.domain false) (Rows.fnExactIsSimpleLatticeSpec.post enc Try.prog Try.f5 false true false false) := by
  refine returnsInHanded_of_change (C := Try.checked) own_FnExactIsSimpleLattice started (by kernel_rfl) Try.func5
    (ChangeSpec.witness6 (enc := enc) (C := Try.checked) false ⟨#[], #[.agg #[.slice none 0 0]], []⟩ 8 (by kernel_rfl) (by kernel_rfl) (by kernel_rfl) (by kernel_rfl)) ?_
  intro W base args ds gs before hval0 hW hcnd _
  exact law_ok (P := Try.prog) (fn := Try.f5) (n := 8) (ty := (.pair (.pair (.sl (.sl I)) .unit) .unit)) (Tb := 4) g_FnExactIsSimpleLattice laidOut_FnExactIsSimpleLattice (by kernel_rfl) (by kernel_rfl) goodl_FnExactIsSimpleLattice (fun x hx => by unfold g_FnExactIsSimpleLattice; rw [true_IsSimpleLattice (x.1) hx]; rfl) rfl (by kernel_rfl) rfl (fun ds hds => match ds, hds with | [d0], _ => ⟨rfl, rfl, rfl⟩) hval0 hW

theorem closed_FnExactIsSimpleLattice : joinedFacts Try.pinned.checked.prog 5 Try.f5 Rows.fnExactIsSimpleLatticeSpec Rows.fnExactIsSimpleLatticeRow = true := by kernel_rfl
theorem fnExactIsSimpleLattice_holds : Rows.FnExactIsSimpleLatticeSaid :=
  OpenClaim.holds_of_wide 5 Try.f5 rfl rfl rfl rfl rfl rfl rfl ⟨rfl, rfl, rfl, rfl, rfl⟩ rfl rfl rfl rfl rfl (by kernel_rfl) Try.func5 closed_FnExactIsSimpleLattice
    (of_decide_eq_true (by kernel_rfl)) (by unfold Func.isWrapper; first | (rw [if_pos (by decide +kernel)]; kernel_rfl) | (rw [if_neg (by decide +kernel)]; exact ⟨rfl, rfl⟩))
    (fun os started H enc _ => fnExactIsSimpleLattice_lifted os started H enc)
end Go.Proofs.Ytlndlclemhfekaa
