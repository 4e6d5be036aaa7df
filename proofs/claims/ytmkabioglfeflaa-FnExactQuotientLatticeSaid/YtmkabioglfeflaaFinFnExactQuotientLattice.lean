/- the law FnExactQuotientLattice of the given program holds: it returns true for all arguments. No condition beyond those of the statement. -/
import Derived.Test.YtmkabioglfeflaaQB
import Derived.Test.YtmkabioglfeflaaRows
import Derived.Test.YtmkabioglfeflaaChecked
set_option maxRecDepth 100000
set_option linter.unusedVariables false
namespace Go.Proofs.Ytmkabioglfeflaa
open Go Go.Gx Go.Proofs

def g_FnExactQuotientLattice (x : ((.pair (.pair (.sl (.sl I)) .unit) (.pair (.sl I) .unit)) : Ty).den) : Option Bool := (laws_FnExactQuotientLattice x.1 x.2.1).map (·.1)
theorem goodl_FnExactQuotientLattice : Gx.Good Try.prog 7 (lawSig ((.pair (.pair (.sl (.sl I)) .unit) (.pair (.sl I) .unit))) 2 g_FnExactQuotientLattice) := Good.congr (fun _ => map_pair _) good_laws_FnExactQuotientLattice
theorem own_FnExactQuotientLattice : ownKnob Try.prog.godebug = none := by kernel_rfl
theorem laidOut_FnExactQuotientLattice : laidOutB Try.prog = true := by kernel_rfl

open Go.ChangeShapes Go.WideShapes Go.ChangeAt Go.RowKit

theorem fnExactQuotientLattice_lifted (os : Os) (started : os.Started) (H : Type) (enc : TypeId × Value → H) :
    ReturnsInHanded {} Try.checked os 7 .any (Rows.fnExactQuotientLatticeSpec.pre6 enc Try.prog Try.f7 Rows.fnExactQuotientLatticeRow.domain false) (Rows.fnExactQuotientLatticeSpec.post enc Try.prog Try.f7 false true false false) := by
  refine returnsInHanded_of_change (C := Try.checked) own_FnExactQuotientLattice started (by kernel_rfl) Try.func7
    (ChangeSpec.witness6 (enc := enc) (C := Try.checked) false ⟨#[], #[.agg #[.slice none 0 0], .slice none 0 0], []⟩ 8 (by kernel_rfl) (by kernel_rfl) (by kernel_rfl) (by kernel_rfl)) ?_
  intro W base args ds gs before hval0 hW hcnd _
  exact law_ok (P := Try.prog) (fn := Try.f7) (n := 8) (ty := (.pair (.pair (.sl (.sl I)) .unit) (.pair (.sl I) .unit))) (Tb := 4) g_FnExactQuotientLattice laidOut_FnExactQuotientLattice (by kernel_rfl) (by kernel_rfl) goodl_FnExactQuotientLattice (fun x hx => by unfold g_FnExactQuotientLattice; rw [true_QuotientLattice (x.1) (x.2.1) hx]; rfl) rfl (by kernel_rfl) rfl (fun ds hds => match ds, hds with | [d0, d1], _ => ⟨rfl, rfl, rfl⟩) hval0 hW

theorem closed_FnExactQuotientLattice : joinedFacts Try.pinned.checked.prog 7 Try.f7 Rows.fnExactQuotientLatticeSpec Rows.fnExactQuotientLatticeRow = true := by kernel_rfl
theorem fnExactQuotientLattice_holds : Rows.FnExactQuotientLatticeSaid :=
  OpenClaim.holds_of_wide 7 Try.f7 rfl rfl rfl rfl rfl rfl rfl ⟨rfl, rfl, rfl, rfl, rfl⟩ rfl rfl rfl rfl rfl (by kernel_rfl) Try.func7 closed_FnExactQuotientLattice
    (of_decide_eq_true (by kernel_rfl)) (by unfold Func.isWrapper; first | (rw [if_pos (by decide +kernel)]; kernel_rfl) | (rw [if_neg (by decide +kernel)]; exact ⟨rfl, rfl⟩))
    (fun os started H enc _ => fnExactQuotientLattice_lifted os started H enc)
end Go.Proofs.Ytmkabioglfeflaa
