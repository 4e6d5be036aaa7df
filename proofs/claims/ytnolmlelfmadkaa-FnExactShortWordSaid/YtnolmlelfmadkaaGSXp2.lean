import Derived.Test.YtnolmlelfmadkaaVSX
set_option maxRecDepth 100000
set_option linter.unusedVariables false
namespace Go.Proofs.Ytnolmlelfmadkaa
open Go Go.Gx Go.Proofs
noncomputable section
def T_V36 (self:T0):Sig:={ a:=Q2,md:=[0],mf:=[],m := .unit,r:=Q0,rf:=O5,f:=self }
end
end Go.Proofs.Ytnolmlelfmadkaa
