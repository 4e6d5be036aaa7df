/- the law FnExactColumnPolar of the given program holds: it returns true for all arguments. No condition beyond those of the statement. -/
import Derived.Test.YtbegnofapodldaaQC
import Derived.Test.YtbegnofapodldaaRows
import Derived.Test.YtbegnofapodldaaChecked
set_option maxRecDepth 100000
set_option linter.unusedVariables false
namespace Go.Proofs.Ytbegnofapodldaa
open Go Go.Gx Go.Proofs

def g_FnExactColumnPolar (x : ((.pair (.sl (.sl .bool)) (.pair (.sl I) .unit)) : Ty).den) : Option Bool := (laws_FnExactColumnPolar x.1 x.2.1).map (·.1)
theorem goodl_FnExactColumnPolar : Gx.Good Try.prog 7 (lawSig ((.pair (.sl (.sl .bool)) (.pair (.sl I) .unit))) 2 g_FnExactColumnPolar) := Good.congr (fun _ => map_pair _) good_laws_FnExactColumnPolar
theorem own_FnExactColumnPolar : ownKnob Try.prog.godebug = none := by kernel_rfl
theorem laidOut_FnExactColumnPolar : laidOutB Try.prog = true := by kernel_rfl

open Go.ChangeShapes Go.WideShapes Go.ChangeAt Go.RowKit

theorem fnExactColumnPolar_lifted (os : Os) (started : os.Started) (H : Type) (enc : TypeId × Value → H) :
    ReturnsInHanded {} Try.checked os 7 .any (Rows.fnExactColumnPolarSpec.pre6 enc Try.prog Try.f7 Rows.fnExactColumnPolarRow.domain false) (Rows.fnExactColumnPolarSpec.post enc Try.prog Try.f7 false true false false) := by
  refine returnsInHanded_of_change (C := Try.checked) own_FnExactColumnPolar started (by kernel_rfl) Try.func7
    (ChangeSpec.witness6 (enc := enc) (C := Try.checked) false ⟨#[], #[.slice none 0 0, .slice none 0 0], []⟩ 8 (by kernel_rfl) (by kernel_rfl) (by kernel_rfl) (by kernel_rfl)) ?_
  intro W base args ds gs before hval0 hW hcnd _
  exact law_ok (P := Try.prog) (fn := Try.f7) (n := 8) (ty := (.pair (.sl (.sl .bool)) (.pair (.sl I) .unit))) (Tb := 4) g_FnExactColumnPolar laidOut_FnExactColumnPolar (by kernel_rfl) (by kernel_rfl) goodl_FnExactColumnPolar (fun x hx => by unfold g_FnExactColumnPolar; rw [true_ColumnPolar (x.1) (x.2.1) hx]; rfl) rfl (by kernel_rfl) rfl (fun ds hds => match ds, hds with | [d0, d1], _ => ⟨rfl, rfl, rfl⟩) hval0 hW

theorem fnExactColumnPolar_holds : Rows.FnExactColumnPolarSaid :=
  OpenClaim.holds_of_wide 7 Try.f7 rfl rfl rfl rfl rfl rfl rfl ⟨rfl, rfl, rfl, rfl, rfl⟩ rfl rfl rfl rfl rfl (by kernel_rfl) Try.func7 (by kernel_rfl)
    (of_decide_eq_true (by kernel_rfl)) (by unfold Func.isWrapper; first | (rw [if_pos (by decide +kernel)]; kernel_rfl) | (rw [if_neg (by decide +kernel)]; exact ⟨rfl, rfl⟩))
    (fun os started H enc _ => fnExactColumnPolar_lifted os started H enc)
end Go.Proofs.Ytbegnofapodldaa
