/- the law FnExactParseWord of the given program holds: it returns true for all arguments. No condition beyond those of the statement. -/
import Derived.Test.YtiklgbjlggcejaaQA
import Derived.Test.YtiklgbjlggcejaaRows
import Derived.Test.YtiklgbjlggcejaaChecked
set_option maxRecDepth 100000
set_option linter.unusedVariables false
namespace Go.Proofs.Ytiklgbjlggcejaa
open Go Go.Gx Go.Proofs

def g_FnExactParseWord (x : ((.pair .str .unit) : Ty).den) : Option Bool := (laws_FnExactParseWord x.1).map (·.1)
theorem goodl_FnExactParseWord : Gx.Good Try.prog 5 (lawSig ((.pair .str .unit)) 1 g_FnExactParseWord) := Good.congr (fun _ => map_pair _) good_laws_FnExactParseWord
theorem own_FnExactParseWord : ownKnob Try.prog.godebug = none := by kernel_rfl
theorem laidOut_FnExactParseWord : laidOutB Try.prog = true := by kernel_rfl

open Go.ChangeShapes Go.WideShapes Go.ChangeAt Go.RowKit

theorem fnExactParseWord_lifted (os : Os) (started : os.Started) (H : Type) (enc : TypeId × Value → H) :
    ReturnsInHanded {} Try.checked os 5 .any (Rows.fnExactParseWordSpec.pre6 enc Try.prog Try.f5 Rows.fnExactParseWordRow.domain false) (Rows.fnExactParseWordSpec.post enc Try.prog Try.f5 false true false false) := by
  refine returnsInHanded_of_change (C := Try.checked) own_FnExactParseWord started (by kernel_rfl) Try.func5
    (ChangeSpec.witness6 (enc := enc) (C := Try.checked) false ⟨#[], #[.string ⟨#[]⟩], []⟩ 8 (by kernel_rfl) (by kernel_rfl) (by kernel_rfl) (by kernel_rfl)) ?_
  intro W base args ds gs before hval0 hW hcnd _
  exact law_ok (P := Try.prog) (fn := Try.f5) (n := 8) (ty := (.pair .str .unit)) (Tb := 4) g_FnExactParseWord laidOut_FnExactParseWord (by kernel_rfl) (by kernel_rfl) goodl_FnExactParseWord (fun x hx => by unfold g_FnExactParseWord; rw [true_ParseWord (x.1) hx]; rfl) rfl (by kernel_rfl) rfl (fun ds hds => match ds, hds with | [d0], _ => ⟨rfl, rfl, rfl⟩) hval0 hW

theorem closed_FnExactParseWord : joinedFacts Try.pinned.checked.prog 5 Try.f5 Rows.fnExactParseWordSpec Rows.fnExactParseWordRow = true := by kernel_rfl
theorem fnExactParseWord_holds : Rows.FnExactParseWordSaid :=
  OpenClaim.holds_of_wide 5 Try.f5 rfl rfl rfl rfl rfl rfl rfl ⟨rfl, rfl, rfl, rfl, rfl⟩ rfl rfl rfl rfl rfl (by kernel_rfl) Try.func5 closed_FnExactParseWord
    (of_decide_eq_true (by kernel_rfl)) (by unfold Func.isWrapper; first | (rw [if_pos (by decide +kernel)]; kernel_rfl) | (rw [if_neg (by decide +kernel)]; exact ⟨rfl, rfl⟩))
    (fun os started H enc _ => fnExactParseWord_lifted os started H enc)
end Go.Proofs.Ytiklgbjlggcejaa
