import Derived.Test.YtiklgbjlggcejaaPLib
import Derived.Test.YtiklgbjlggcejaaGA
set_option linter.unusedVariables false
namespace Go.Proofs.Ytiklgbjlggcejaa
open Go Go.Gx Go.Proofs

/-! rules for the loops -/
end Go.Proofs.Ytiklgbjlggcejaa
