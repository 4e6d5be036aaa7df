/- the law FnExactLatticeOfRing of the given program holds: it returns true for all arguments. No condition beyond those of the statement. -/
import Derived.Test.YtiklgbjlggcejaaQC
import Derived.Test.YtiklgbjlggcejaaRows
import Derived.Test.YtiklgbjlggcejaaChecked
set_option maxRecDepth 100000
set_option linter.unusedVariables false
namespace Go.Proofs.Ytiklgbjlggcejaa
open Go Go.Gx Go.Proofs

def g_FnExactLatticeOfRing (x : ((.pair (.pair I (.pair (.sl (.pair I (.pair (.sl I) .unit))) .unit)) .unit) : Ty).den) : Option Bool := (laws_FnExactLatticeOfRing x.1).map (·.1)
theorem goodl_FnExactLatticeOfRing : Gx.Good Try.prog 7 (lawSig ((.pair (.pair I (.pair (.sl (.pair I (.pair (.sl I) .unit))) .unit)) .unit)) 1 g_FnExactLatticeOfRing) := Good.congr (fun _ => map_pair _) good_laws_FnExactLatticeOfRing
theorem own_FnExactLatticeOfRing : ownKnob Try.prog.godebug = none := by kernel_rfl
theorem laidOut_FnExactLatticeOfRing : laidOutB Try.prog = true := by kernel_rfl

open Go.ChangeShapes Go.WideShapes Go.ChangeAt Go.RowKit

theorem fnExactLatticeOfRing_lifted (os : Os) (started : os.Started) (H : Type) (enc : TypeId × Value → H) :
    ReturnsInHanded {} Try.checked os 7 .any (Rows.fnExactLatticeOfRingSpec.pre6 enc Try.prog Try.f7 Rows.fnExactLatticeOfRingRow.domain false) (Rows.fnExactLatticeOfRingSpec.post enc Try.prog Try.f7 false true false false) := by
  refine returnsInHanded_of_change (C := Try.checked) own_FnExactLatticeOfRing started (by kernel_rfl) Try.func7
    (ChangeSpec.witness6 (enc := enc) (C := Try.checked) false ⟨#[], #[.agg #[.int .i64 0, .slice none 0 0]], []⟩ 8 (by kernel_rfl) (by kernel_rfl) (by kernel_rfl) (by kernel_rfl)) ?_
  intro W base args ds gs before hval0 hW hcnd _
  exact law_ok (P := Try.prog) (fn := Try.f7) (n := 8) (ty := (.pair (.pair I (.pair (.sl (.pair I (.pair (.sl I) .unit))) .unit)) .unit)) (Tb := 4) g_FnExactLatticeOfRing laidOut_FnExactLatticeOfRing (by kernel_rfl) (by kernel_rfl) goodl_FnExactLatticeOfRing (fun x hx => by unfold g_FnExactLatticeOfRing; rw [true_LatticeOfRing (x.1) hx]; rfl) rfl (by kernel_rfl) rfl (fun ds hds => match ds, hds with | [d0], _ => ⟨rfl, rfl, rfl⟩) hval0 hW

theorem closed_FnExactLatticeOfRing : joinedFacts Try.pinned.checked.prog 7 Try.f7 Rows.fnExactLatticeOfRingSpec Rows.fnExactLatticeOfRingRow = true := by kernel_rfl
theorem fnExactLatticeOfRing_holds : Rows.FnExactLatticeOfRingSaid :=
  OpenClaim.holds_of_wide 7 Try.f7 rfl rfl rfl rfl rfl rfl rfl ⟨rfl, rfl, rfl, rfl, rfl⟩ rfl rfl rfl rfl rfl (by kernel_rfl) Try.func7 closed_FnExactLatticeOfRing
    (of_decide_eq_true (by kernel_rfl)) (by unfold Func.isWrapper; first | (rw [if_pos (by decide +kernel)]; kernel_rfl) | (rw [if_neg (by decide +kernel)]; exact ⟨rfl, rfl⟩))
    (fun os started H enc _ => fnExactLatticeOfRing_lifted os started H enc)
end Go.Proofs.Ytiklgbjlggcejaa
