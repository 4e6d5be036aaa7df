/- the law FnExactMeetWords of the given program holds: it returns true for all arguments. No condition beyond those of the statement. -/
import Derived.Test.YtpomjejencfiiaaPWords
import Derived.Test.YtpomjejencfiiaaRows
import Derived.Test.YtpomjejencfiiaaChecked
set_option maxRecDepth 100000
set_option linter.unusedVariables false
namespace Go.Proofs.Ytpomjejencfiiaa
open Go Go.Gx Go.Proofs

def g_FnExactMeetWords (x : ((.pair (.sl I) (.pair (.sl I) .unit)) : Ty).den) : Option Bool := (laws_FnExactMeetWords x.1 x.2.1).map (·.1)
theorem goodl_FnExactMeetWords : Gx.Good Try.prog 8 (lawSig ((.pair (.sl I) (.pair (.sl I) .unit))) 2 g_FnExactMeetWords) := Good.congr (fun _ => map_pair _) good_laws_FnExactMeetWords
theorem own_FnExactMeetWords : ownKnob Try.prog.godebug = none := by kernel_rfl
theorem laidOut_FnExactMeetWords : laidOutB Try.prog = true := by kernel_rfl

open Go.ChangeShapes Go.WideShapes Go.ChangeAt Go.RowKit

theorem fnExactMeetWords_lifted (os : Os) (started : os.Started) (H : Type) (enc : TypeId × Value → H) :
    ReturnsInHanded {} Try.checked os 8 .any (Rows.fnExactMeetWordsSpec.pre6 enc Try.prog Try.f8 Rows.fnExactMeetWordsRow.domain false) (Rows.fnExactMeetWordsSpec.post enc Try.prog Try.f8 false true false false) := by
  refine returnsInHanded_of_change (C := Try.checked) own_FnExactMeetWords started (by kernel_rfl) Try.func8
    (ChangeSpec.witness6 (enc := enc) (C := Try.checked) false ⟨#[], #[.slice none 0 0, .slice none 0 0], []⟩ 8 (by kernel_rfl) (by kernel_rfl) (by kernel_rfl) (by kernel_rfl)) ?_
  intro W base args ds gs before hval0 hW hcnd _
  exact law_ok (P := Try.prog) (fn := Try.f8) (n := 8) (ty := (.pair (.sl I) (.pair (.sl I) .unit))) (Tb := 4) g_FnExactMeetWords laidOut_FnExactMeetWords (by kernel_rfl) (by kernel_rfl) goodl_FnExactMeetWords (fun x hx => by unfold g_FnExactMeetWords; rw [true_MeetWords (x.1) (x.2.1) hx]; rfl) rfl (by kernel_rfl) rfl (fun ds hds => match ds, hds with | [d0, d1], _ => ⟨rfl, rfl, rfl⟩) hval0 hW

theorem fnExactMeetWords_holds : Rows.FnExactMeetWordsSaid :=
  OpenClaim.holds_of_wide 8 Try.f8 rfl rfl rfl rfl rfl rfl rfl ⟨rfl, rfl, rfl, rfl, rfl⟩ rfl rfl rfl rfl rfl (by kernel_rfl) Try.func8 (by kernel_rfl)
    (of_decide_eq_true (by kernel_rfl)) (by unfold Func.isWrapper; first | (rw [if_pos (by decide +kernel)]; kernel_rfl) | (rw [if_neg (by decide +kernel)]; exact ⟨rfl, rfl⟩))
    (fun os started H enc _ => fnExactMeetWords_lifted os started H enc)
end Go.Proofs.Ytpomjejencfiiaa
