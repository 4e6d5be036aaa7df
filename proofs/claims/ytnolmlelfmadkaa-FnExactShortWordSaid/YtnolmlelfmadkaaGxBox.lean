import Derived.Test.YtnolmlelfmadkaaGxGen
set_option linter.unusedSimpArgs false
set_option linter.unusedVariables false
namespace Go.Gx
open Go
def op1 (o:Oper):Option (Nat×Op):=match o.guard,o.dst with
 | none,some d=>some (d,o.op)
 | _,_=>none
def isT (n:Nat):Operand→Bool
 | .tmp t=>t==n
 | _=>false
def bxOps (l0 l1 l2:List (Option (Nat×Op))):Option (TypeId×TypeId×Nat×FuncId):=match l0,l1,l2 with
 | [some (d0,.box T x0),some (d1,.assign _)],[some (d2,.fieldAddr _ x2 fi),some (d3,.load TS x3),some (d4,.move x4),some (d5,.call cc),some (d6,.assign x6)],[some (d7,.move x7),some (d8,.assign x8)] =>
  match cc.callee,cc.args.toList with
  | .value (.func g),[y0,y1]=>if d0==2&&isT 0 x0&&d1==4&&d2==5&&isT 2 x2&&d3==6&&isT 5 x3&&d4==7&&isT 1 x4&&d5==8&&isT 6 y0&&isT 7 y1&&d6==1&&isT 8 x6&&d7==9&&isT 1 x7&&d8==4&&isT 9 x8 then some (T,TS,fi,g) else none
  | _,_=>none
 | _,_,_=>none
def bxOf (fn:Func):Option (TypeId×TypeId×Nat×FuncId):=match fn.body with
 | some (.seq (.region _ ops0 false) (.seq (.region _ ops1 false) (.seq (.region _ ops2 false) .ret)))=>if fn.ntmps==10 then match fn.results.toList with
  | [.tmp r]=>if r==4 then bxOps (ops0.toList.map op1) (ops1.toList.map op1) (ops2.toList.map op1) else none
  | _=>none else none
 | _=>none
def faOf (fn:Func):Option TypeId:=match fn.body with
 | some (.seq _ (.seq (.region _ ops1 _) _))=>match ops1.toList.map op1 with
  | some (_,.fieldAddr S _ _)::_=>some S
  | _=>none
 | _=>none
def isOp (ops:Array Oper) (i d:Nat) (p:Op):Prop:=∃o,ops[i]? = some o∧o.dst=some d∧o.op=p∧o.guard=none
structure BxOps (ops0 ops1 ops2:Array Oper) (T S TS:TypeId) (fi:Nat) (g:FuncId):Prop where
 s0:ops0.size=2
 s1:ops1.size=5
 s2:ops2.size=2
 o0:isOp ops0 0 2 (.box T (.tmp 0))
 o1:∃x,isOp ops0 1 4 (.assign x)
 o2:isOp ops1 0 5 (.fieldAddr S (.tmp 2) fi)
 o3:isOp ops1 1 6 (.load TS (.tmp 5))
 o4:isOp ops1 2 7 (.move (.tmp 1))
 o5:∃cc:Call,isOp ops1 3 8 (.call cc)∧cc.callee = .value (.func g)∧cc.args.toList=[.tmp 6,.tmp 7]
 o6:isOp ops1 4 1 (.assign (.tmp 8))
 o7:isOp ops2 0 9 (.move (.tmp 1))
 o8:isOp ops2 1 4 (.assign (.tmp 9))
section
variable {P:Program} {A:Cfg}
theorem step1 {ops:Array Oper}{Q:Exit→Act→World→Prop}{i:Nat}{o:Oper}{K:Act→World→Prop}{a:Act}{w:World}(hn:ops[i]? = some o) (hg:o.guard=none) (h:o.wp P a w K Q):wpOp P ops Q i K a w:=by
 unfold wpOp
 simp only[hn]
 rw[if_pos (by simp[Region.wanted,hg])]
 exact .inl h
theorem jd3 {o:Oper}{x:Operand}{v:Value}{a:Act}{w:World}{K:Act→World→Prop}{Q:Exit→Act→World→Prop}(ho:o.op = .assign x) (hv:a.eval x=v) (hk:K (a.put o.dst v) w):o.wp P a w K Q :=
 qp (by unfold execOp;simp[ho,hv,Sem.run,pure]) hk
theorem jbv {o:Oper}{x:Operand}{v:Value}{a:Act}{w:World}{K:Act→World→Prop}{Q:Exit→Act→World→Prop}(ho:o.op = .move x) (hv:a.eval x=v) (hk:K (a.put o.dst v) w):o.wp P a w K Q :=
 qp (by unfold execOp;simp[ho,hv,Sem.run,pure]) hk
end
end Go.Gx
