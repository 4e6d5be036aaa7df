/- the law FnShortWords of the given program holds: it returns true for all arguments. No condition beyond those of the statement. -/
import Derived.Test.YtiihhfkjppecaaaQSW
import Derived.Test.YtiihhfkjppecaaaRows
import Derived.Test.YtiihhfkjppecaaaChecked
set_option maxRecDepth 100000
set_option linter.unusedVariables false
namespace Go.Proofs.Ytiihhfkjppecaaa
open Go Go.Gx Go.Proofs

noncomputable def g_FnShortWords (x : ((.pair (.sl (.int .u8)) .unit) : Ty).den) : Option Bool := (laws_FnShortWords x.1).map (·.1)
theorem goodl_FnShortWords : Gx.Good Try.prog 3 (lawSig ((.pair (.sl (.int .u8)) .unit)) 1 g_FnShortWords) := Good.congr (fun _ => map_pair _) good_laws_FnShortWords
theorem own_FnShortWords : ownKnob Try.prog.godebug = none := by kernel_rfl
theorem laidOut_FnShortWords : laidOutB Try.prog = true := by kernel_rfl

open Go.ChangeShapes Go.WideShapes Go.ChangeAt Go.RowKit

theorem fnShortWords_lifted (os : Os) (started : os.Started) (H : Type) (enc : TypeId × Value → H) :
    ReturnsInHanded {} Try.checked os 3 .any (Rows.fnShortWordsSpec.pre6 enc Try.prog Try.f3 Rows.fnShortWordsRow.domain false) (Rows.fnShortWordsSpec.post enc Try.prog Try.f3 false true false false) := by
  refine returnsInHanded_of_change (C := Try.checked) own_FnShortWords started (by kernel_rfl) Try.func3
    (ChangeSpec.witness6 (enc := enc) (C := Try.checked) false ⟨#[], #[.slice none 0 0], []⟩ 8 (by kernel_rfl) (by kernel_rfl) (by kernel_rfl) (by kernel_rfl)) ?_
  intro W base args ds gs before hval0 hW hcnd _
  exact law_ok (P := Try.prog) (fn := Try.f3) (n := 8) (ty := (.pair (.sl (.int .u8)) .unit)) (Tb := 4) g_FnShortWords laidOut_FnShortWords (by kernel_rfl) (by kernel_rfl) goodl_FnShortWords (fun x hx => by unfold g_FnShortWords; rw [true_FnShortWords (x.1) hx]; rfl) rfl (by kernel_rfl) rfl (fun ds hds => match ds, hds with | [d0], _ => ⟨rfl, rfl, rfl⟩) hval0 hW

theorem closed_FnShortWords : joinedFacts Try.pinned.checked.prog 3 Try.f3 Rows.fnShortWordsSpec Rows.fnShortWordsRow = true := by kernel_rfl
theorem fnShortWords_holds : Rows.FnShortWordsSaid :=
  OpenClaim.holds_of_wide 3 Try.f3 rfl rfl rfl rfl rfl rfl rfl ⟨rfl, rfl, rfl, rfl, rfl⟩ rfl rfl rfl rfl rfl (by kernel_rfl) Try.func3 closed_FnShortWords
    (of_decide_eq_true (by kernel_rfl)) (by unfold Func.isWrapper; first | (rw [if_pos (by decide +kernel)]; kernel_rfl) | (rw [if_neg (by decide +kernel)]; exact ⟨rfl, rfl⟩))
    (fun os started H enc _ => fnShortWords_lifted os started H enc)
end Go.Proofs.Ytiihhfkjppecaaa
