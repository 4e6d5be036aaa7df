/- the law FnExactFindSublattice of the given program holds: it returns true for all arguments. No condition beyond those of the statement. -/
import Derived.Test.YtcgoaplbnjcboaaQA
import Derived.Test.YtcgoaplbnjcboaaRows
import Derived.Test.YtcgoaplbnjcboaaChecked
set_option maxRecDepth 100000
set_option linter.unusedVariables false
namespace Go.Proofs.Ytcgoaplbnjcboaa
open Go Go.Gx Go.Proofs

def g_FnExactFindSublattice (x : ((.pair (.pair (.sl (.sl I)) .unit) (.pair (.pair (.sl (.sl I)) .unit) .unit)) : Ty).den) : Option Bool := (laws_FnExactFindSublattice x.1 x.2.1).map (·.1)
theorem goodl_FnExactFindSublattice : Gx.Good Try.prog 3 (lawSig ((.pair (.pair (.sl (.sl I)) .unit) (.pair (.pair (.sl (.sl I)) .unit) .unit))) 2 g_FnExactFindSublattice) := Good.congr (fun _ => map_pair _) good_laws_FnExactFindSublattice
theorem own_FnExactFindSublattice : ownKnob Try.prog.godebug = none := by kernel_rfl
theorem laidOut_FnExactFindSublattice : laidOutB Try.prog = true := by kernel_rfl

open Go.ChangeShapes Go.WideShapes Go.ChangeAt Go.RowKit

theorem fnExactFindSublattice_lifted (os : Os) (started : os.Started) (H : Type) (enc : TypeId × Value → H) :
    ReturnsInHanded {} Try.checked os 3 .any (Rows.fnExactFindSublatticeSpec.pre6 enc Try.prog Try.f3 Rows.fnExactFindSublatticeRow.domain false) (Rows.fnExactFindSublatticeSpec.post enc Try.prog Try.f3 false true false false) := by
  refine returnsInHanded_of_change (C := Try.checked) own_FnExactFindSublattice started (by kernel_rfl) Try.func3
    (ChangeSpec.witness6 (enc := enc) (C := Try.checked) false ⟨#[], #[.agg #[.slice none 0 0], .agg #[.slice none 0 0]], []⟩ 8 (by kernel_rfl) (by kernel_rfl) (by kernel_rfl) (by kernel_rfl)) ?_
  intro W base args ds gs before hval0 hW hcnd _
  exact law_ok (P := Try.prog) (fn := Try.f3) (n := 8) (ty := (.pair (.pair (.sl (.sl I)) .unit) (.pair (.pair (.sl (.sl I)) .unit) .unit))) (Tb := 4) g_FnExactFindSublattice laidOut_FnExactFindSublattice (by kernel_rfl) (by kernel_rfl) goodl_FnExactFindSublattice (fun x hx => by unfold g_FnExactFindSublattice; rw [true_FindSublattice (x.1) (x.2.1) hx]; rfl) rfl (by kernel_rfl) rfl (fun ds hds => match ds, hds with | [d0, d1], _ => ⟨rfl, rfl, rfl⟩) hval0 hW

theorem closed_FnExactFindSublattice : joinedFacts Try.pinned.checked.prog 3 Try.f3 Rows.fnExactFindSublatticeSpec Rows.fnExactFindSublatticeRow = true := by kernel_rfl
theorem fnExactFindSublattice_holds : Rows.FnExactFindSublatticeSaid :=
  OpenClaim.holds_of_wide 3 Try.f3 rfl rfl rfl rfl rfl rfl rfl ⟨rfl, rfl, rfl, rfl, rfl⟩ rfl rfl rfl rfl rfl (by kernel_rfl) Try.func3 closed_FnExactFindSublattice
    (of_decide_eq_true (by kernel_rfl)) (by unfold Func.isWrapper; first | (rw [if_pos (by decide +kernel)]; kernel_rfl) | (rw [if_neg (by decide +kernel)]; exact ⟨rfl, rfl⟩))
    (fun os started H enc _ => fnExactFindSublattice_lifted os started H enc)
end Go.Proofs.Ytcgoaplbnjcboaa
