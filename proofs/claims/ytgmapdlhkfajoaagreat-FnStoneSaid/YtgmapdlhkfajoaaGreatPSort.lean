import Derived.Test.YtgmapdlhkfajoaaGreatPLib
set_option linter.unusedVariables false
set_option linter.unusedSimpArgs false
namespace Go.Gx
def cmpL:List Int→List Int→Int
 | [],[]=>0
 | [],_::_ => -1
 | _::_,[]=>1
 | x::xs,y::ys=>if x=y then cmpL xs ys else if x<y then -1 else 1
def cmpT (xs ys:List Int):Int:=if xs.length<ys.length then -1 else if ys.length<xs.length then 1 else cmpL xs ys
def bcFrom:Nat→List Int→Int
 | _,[]=>0
 | i,x::xs=>(if x=(i:Int) then 1 else 0)+bcFrom (i+1) xs
def cmpC (xs ys:List Int):Int:=if bcFrom 0 ys-bcFrom 0 xs=0 then cmpL xs ys else bcFrom 0 ys-bcFrom 0 xs
structure CmpOk (c:List Int→List Int→Int):Prop where
 neg:∀x y,c y x = - c x y
 eq:∀x y,c x y=0→x=y
 tr:∀x y z,c x y<0→c y z<0→c x z<0
def ltOf (c:List Int→List Int→Int) (x y:List Int):Bool:=decide (c x y<0)
section
variable {c:List Int→List Int→Int}
theorem CmpOk.refl (h:CmpOk c) (x:List Int):c x x=0:=by have:=h.neg x x;omega
def insBy (c:List Int→List Int→Int) (x:List Int):List (List Int)→List (List Int)
 | []=>[x]
 | y::ys=>cond (ltOf c x y) (x::y::ys) (y::insBy c x ys)
def sortBy (c:List Int→List Int→Int) (l:List (List Int)):List (List Int):=l.foldl (fun acc x=>insBy c x acc) []
def SortedL (c:List Int→List Int→Int) (l:List (List Int)):Prop:=l.Pairwise fun x y=>ltOf c y x=false
end
def sortRowsV (c:List Int→List Int→Int) (rows:List (List Int)):Option (Unit×(List (List Int)×Unit)):=if rows.length≤4294967296 then some ((),(sortBy c rows,())) else none
def qg (rows:List (List Int)) (_:Unit):Option (Unit×(List (List Int)×Unit)):=sortRowsV cmpT rows
def uh (rows:List (List Int)) (_:Unit):Option (Unit×(List (List Int)×Unit)):=sortRowsV cmpC rows
end Go.Gx
