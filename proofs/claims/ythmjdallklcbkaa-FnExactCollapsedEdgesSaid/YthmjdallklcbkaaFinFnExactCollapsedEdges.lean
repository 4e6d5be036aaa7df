/- the law FnExactCollapsedEdges of the given program holds: it returns true for all arguments. No condition beyond those of the statement. -/
import Derived.Test.YthmjdallklcbkaaQD
import Derived.Test.YthmjdallklcbkaaRows
import Derived.Test.YthmjdallklcbkaaChecked
set_option maxRecDepth 100000
set_option linter.unusedVariables false
namespace Go.Proofs.Ythmjdallklcbkaa
open Go Go.Gx Go.Proofs

def g_FnExactCollapsedEdges (x : ((.pair (.pair (.sl (.sl I)) .unit) (.pair (.sl I) .unit)) : Ty).den) : Option Bool := (laws_FnExactCollapsedEdges x.1 x.2.1).map (·.1)
theorem goodl_FnExactCollapsedEdges : Gx.Good Try.prog 4 (lawSig ((.pair (.pair (.sl (.sl I)) .unit) (.pair (.sl I) .unit))) 2 g_FnExactCollapsedEdges) := Good.congr (fun _ => map_pair _) good_laws_FnExactCollapsedEdges
theorem own_FnExactCollapsedEdges : ownKnob Try.prog.godebug = none := by kernel_rfl
theorem laidOut_FnExactCollapsedEdges : laidOutB Try.prog = true := by kernel_rfl

open Go.ChangeShapes Go.WideShapes Go.ChangeAt Go.RowKit

theorem fnExactCollapsedEdges_lifted (os : Os) (started : os.Started) (H : Type) (enc : TypeId × Value → H) :
    ReturnsInHanded {} Try.checked os 4 .any (Rows.fnExactCollapsedEdgesSpec.pre6 enc Try.prog Try.f4 Rows.fnExactCollapsedEdgesRow.domain false) (Rows.fnExactCollapsedEdgesSpec.post enc Try.prog Try.f4 false true false false) := by
  refine returnsInHanded_of_change (C := Try.checked) own_FnExactCollapsedEdges started (by kernel_rfl) Try.func4
    (ChangeSpec.witness6 (enc := enc) (C := Try.checked) false ⟨#[], #[.agg #[.slice none 0 0], .slice none 0 0], []⟩ 8 (by kernel_rfl) (by kernel_rfl) (by kernel_rfl) (by kernel_rfl)) ?_
  intro W base args ds gs before hval0 hW hcnd _
  exact law_ok (P := Try.prog) (fn := Try.f4) (n := 8) (ty := (.pair (.pair (.sl (.sl I)) .unit) (.pair (.sl I) .unit))) (Tb := 4) g_FnExactCollapsedEdges laidOut_FnExactCollapsedEdges (by kernel_rfl) (by kernel_rfl) goodl_FnExactCollapsedEdges (fun x hx => by unfold g_FnExactCollapsedEdges; rw [true_CollapsedEdges (x.1) (x.2.1) hx]; rfl) rfl (by kernel_rfl) rfl (fun ds hds => match ds, hds with | [d0, d1], _ => ⟨rfl, rfl, rfl⟩) hval0 hW

theorem closed_FnExactCollapsedEdges : joinedFacts Try.pinned.checked.prog 4 Try.f4 Rows.fnExactCollapsedEdgesSpec Rows.fnExactCollapsedEdgesRow = true := by kernel_rfl
theorem fnExactCollapsedEdges_holds : Rows.FnExactCollapsedEdgesSaid :=
  OpenClaim.holds_of_wide 4 Try.f4 rfl rfl rfl rfl rfl rfl rfl ⟨rfl, rfl, rfl, rfl, rfl⟩ rfl rfl rfl rfl rfl (by kernel_rfl) Try.func4 closed_FnExactCollapsedEdges
    (of_decide_eq_true (by kernel_rfl)) (by unfold Func.isWrapper; first | (rw [if_pos (by decide +kernel)]; kernel_rfl) | (rw [if_neg (by decide +kernel)]; exact ⟨rfl, rfl⟩))
    (fun os started H enc _ => fnExactCollapsedEdges_lifted os started H enc)
end Go.Proofs.Ythmjdallklcbkaa
