import Derived.Test.YteanfidobhpchaaGreatPLib
set_option linter.unusedVariables false
namespace Go.Gx
open Go
def blkStep (s:List Int×List (List Int)) (i:Nat) (x:Int):Option (List Int×List (List Int)) :=
 (fun s':List Int×List (List Int)=>(atI s'.1 x).bind fun j=>(atI s'.2 j).bind fun row=>some (s'.1,s'.2.set j.toNat (row++[(i:Int)]))) (if x=(i:Int) then(s.1.set i (s.2.length:Int),s.2++[[]]) else s)
def blkL (p:List Int):Nat→Option (List Int×List (List Int))
 | 0=>some (List.replicate p.length 0,[])
 | i+1=>(blkL p i).bind fun s=>(p[i]?).bind fun x=>blkStep s i x
def vn (p:List Int):Option (List (List Int)×Unit):=if p.length≤4294967296 then(blkL p p.length).bind fun s=>some (s.2,()) else none
end Go.Gx
