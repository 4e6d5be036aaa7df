import Derived.Test.YteanfidobhpchaaGxCfg
import Derived.KernelRfl
set_option linter.unusedVariables false
namespace Go.Gx
open Go
def cAt:List Nat→Code→Code
 | [],c=>c
 | 0::p,.seq a _=>cAt p a
 | _::p,.seq _ b=>cAt p b
 | _::p,.block _ c=>cAt p c
 | _::p,.loop c=>cAt p c
 | 0::p,.cond _ a _=>cAt p a
 | _::p,.cond _ _ b=>cAt p b
 | _::_,_ => .skip
def codeAt (fn:Func) (p:List Nat):Code:=cAt p (fn.body.getD .skip)
def big:Nat:=2 ^ 40
section
variable {ρ:Type}
def iterK (S:Option (List Sh)) (f:St→(Ex→St→Option ρ)→Option ρ) (n:Nat) (k:Ex→St→Option ρ) (e:Ex) (st2:St):Option ρ:=match e with
 | .normal=>maskO S st2 fun st3=>iter S f n st3 k
 | .exit i=>k (.exit i) st2
 | .ret=>k .ret st2
noncomputable abbrev sqK (A:Cfg) (N i j:Nat) (c:Code) (k:Ex→St→Option ρ):Ex→St→Option ρ:=seqK (A.shape i) (gated (A.shape j).isSome N (run A N c)) k
noncomputable abbrev itK (A:Cfg) (N i:Nat) (c:Code) (n:Nat) (k:Ex→St→Option ρ):Ex→St→Option ρ:=iterK (A.shape i) (run A N c) n k
def exK (fin:Ex→St→Option ρ) (i:Nat) (S:Option (List Sh)) (k1:St→Option ρ) (kO:Nat→St→Option ρ) (e:Ex) (st:St):Option ρ:=match e with
 | .normal=>none
 | .ret=>fin .ret st
 | .exit j=>if j=i then maskO S st k1 else kO j st
theorem vadq {S:Option (List Sh)} {f:St→(Ex→St→Option ρ)→Option ρ} {K K':Ex→St→Option ρ} (h1:∀ st,K .ret st=K' .ret st) (h2:∀ j st,K (.exit j) st=K' (.exit j) st):∀ n st,iter S f n st K=iter S f n st K'
 | 0,_=>rfl
 | n+1,st=>by
  show f st (iterK S f n K)=f st (iterK S f n K')
  congr 1
  funext e st2
  cases e with
  | normal =>
   show maskO S st2 (fun st3=>iter S f n st3 K)=maskO S st2 fun st3=>iter S f n st3 K'
   congr 1
   funext st3
   exact vadq h1 h2 n st3
  | exit j=>exact h2 j st2
  | ret=>exact h1 st2
theorem vab {S Sx:Option (List Sh)} {f:St→(Ex→St→Option ρ)→Option ρ} {K fin:Ex→St→Option ρ} {i:Nat} {k1:St→Option ρ} {n:Nat} {st:St} (h1:∀ st,K .ret st=fin .ret st) (h2:∀ st,K (.exit i) st=maskO Sx st k1) :
  iter S f n st K=iter S f n st (exK fin i Sx k1 fun j st=>K (.exit j) st):=by
 refine vadq (K':=exK fin i Sx k1 fun j st=>K (.exit j) st) (fun st=>h1 st) (fun j st => ?_) n st
 unfold exK
 by_cases hj:j=i
 ·subst hj;simp only[if_true];exact h2 st
 ·simp only[hj,if_false]
end
def SigsOk (P:Program):List (Nat×Sig)→Prop
 | []=>True
 | p::l=>(FnOk P p.1∧Good P p.1 p.2)∧SigsOk P l
theorem vaeg {P:Program}:∀ {l:List (Nat×Sig)},SigsOk P l→∀ p∈l,FnOk P p.1∧Good P p.1 p.2
 | [],_,p,h=>by cases h
 | q::l,h,p,hp=>by
  rcases List.mem_cons.1 hp with rfl | hp
  ·exact h.1
  ·exact vaeg h.2 p hp
theorem vaa {P:Program} {T:Tab} {ss:List (Nat×Sig)} {sh:List (Nat×List Sh)} (h:SigsOk P ss):SigOk P (mkCfg T ss sh):=vbew (vaeg h)
theorem gdR {P : Program} {f : FuncId} {fn : Func} {S : Sig} {A : Cfg} (hc : CfgOk P A) (hf : P.funcs[f]? = some fn) (hn : (!fn.body.isNone && (!(fn.name == "runtime.NumGoroutine") && decide (S.md.length ≤ fn.ntmps))) = true) (hs : SigOk P A) (hr : ∀ x, runF (unhook A) big fn S x = S.f x) : FnOk P f ∧ Good P f S := by
 simp only[Bool.and_eq_true,Bool.not_eq_true',decide_eq_true_eq] at hn
 exact⟨⟨fn,hf,hn.1,hn.2.1⟩,vnc hf hn.2.2 fun x r h=>⟨A,big,hc,hs,(hr x).trans h⟩⟩
def us (n:Nat):List V:=List.replicate n .u
def ud (n:Nat) (l:List V):List V:=List.replicate n .u++l
def dr (n:Nat) (l:List Sh):List Sh:=List.replicate n .drop++l
end Go.Gx
