import Derived.Test.YtnolmlelfmadkaaGxCfg
import Derived.KernelRfl
set_option linter.unusedVariables false
namespace Go.Gx
open Go
def cAt:List Nat→Code→Code
 | [],c=>c
 | 0::p,.seq a _=>cAt p a
 | _::p,.seq _ b=>cAt p b
 | _::p,.block _ c=>cAt p c
 | _::p,.loop c=>cAt p c
 | 0::p,.cond _ a _=>cAt p a
 | _::p,.cond _ _ b=>cAt p b
 | _::_,_ => .skip
def codeAt (fn:Func) (p:List Nat):Code:=cAt p (fn.body.getD .skip)
def big:Nat:=2 ^ 40
section
variable {ρ:Type}
def iterK (S:Option (List Sh)) (f:St→(Ex→St→Option ρ)→Option ρ) (n:Nat) (k:Ex→St→Option ρ) (e:Ex) (st2:St):Option ρ:=match e with
 | .normal=>maskO S st2 fun st3=>iter S f n st3 k
 | .exit i=>k (.exit i) st2
 | .ret=>k .ret st2
noncomputable abbrev sqK (A:Cfg) (N i j:Nat) (f:Func) (p:List Nat) (k:Ex→St→Option ρ):Ex→St→Option ρ:=seqK (A.shape i) (gated (A.shape j).isSome N (run A N (codeAt f p))) k
noncomputable abbrev itK (A:Cfg) (N i:Nat) (f:Func) (p:List Nat) (n:Nat) (k:Ex→St→Option ρ):Ex→St→Option ρ:=iterK (A.shape i) (run A N (codeAt f p)) n k
noncomputable abbrev itr (A:Cfg) (N i:Nat) (f:Func) (p:List Nat) (n:Nat) (st:St) (k:Ex→St→Option ρ):Option ρ:=iter (A.shape i) (run A N (codeAt f p)) n st k
noncomputable abbrev rn (A:Cfg) (N:Nat) (f:Func) (p:List Nat) (st:St) (k:Ex→St→Option ρ):Option ρ:=run A N (codeAt f p) st k
def exK (fin:Ex→St→Option ρ) (i:Nat) (S:Option (List Sh)) (k1:St→Option ρ) (kO:Nat→St→Option ρ) (e:Ex) (st:St):Option ρ:=match e with
 | .normal=>none
 | .ret=>fin .ret st
 | .exit j=>if j=i then maskO S st k1 else kO j st
theorem jez {S:Option (List Sh)}{f:St→(Ex→St→Option ρ)→Option ρ}{K K':Ex→St→Option ρ}(h1:∀st,K .ret st=K' .ret st) (h2:∀j st,K (.exit j) st=K' (.exit j) st):∀n st,iter S f n st K=iter S f n st K'
 | 0,_=>rfl
 | n+1,st=>by
  show f st (iterK S f n K)=f st (iterK S f n K')
  congr 1
  funext e st2
  cases e with
  | normal =>
   show maskO S st2 (fun st3=>iter S f n st3 K)=maskO S st2 fun st3=>iter S f n st3 K'
   congr 1
   funext st3
   exact jez h1 h2 n st3
  | exit j=>exact h2 j st2
  | ret=>exact h1 st2
theorem jly {S Sx:Option (List Sh)}{f:St→(Ex→St→Option ρ)→Option ρ}{K fin:Ex→St→Option ρ}{i:Nat}{k1:St→Option ρ}{n:Nat}{st:St}(h1:∀st,K .ret st=fin .ret st:=by intro _;kernel_rfl) (h2:∀st,K (.exit i) st=maskO Sx st k1:=by intro _;kernel_rfl) :
  iter S f n st K=iter S f n st (exK fin i Sx k1 fun j st=>K (.exit j) st):=by
 refine jez (K':=exK fin i Sx k1 fun j st=>K (.exit j) st) (fun st=>h1 st) (fun j st => ?_) n st
 unfold exK
 by_cases hj:j=i
 ·subst hj;simp only[if_true];exact h2 st
 ·simp only[hj,if_false]
end
def SigsOk (P:Program):List (Nat×Sig)→Prop
 | []=>True
 | p::l=>(FnOk P p.1∧Good P p.1 p.2)∧SigsOk P l
theorem je7 {P:Program}:∀{l:List (Nat×Sig)},SigsOk P l→∀p∈l,FnOk P p.1∧Good P p.1 p.2
 | [],_,p,h=>by cases h
 | q::l,h,p,hp=>by
  rcases List.mem_cons.1 hp with rfl|hp
  ·exact h.1
  ·exact je7 h.2 p hp
theorem jc8 {P:Program}{T:Tab}{ss:List (Nat×Sig)}{sh:List (Nat×List Sh)}(h:SigsOk P ss):SigOk P (mkCfg T ss sh):=jaw (je7 h)
theorem gdR {P : Program} {f : FuncId} {fn : Func} {S : Sig} {A : Cfg} (hc : CfgOk P A) (hf : P.funcs[f]? = some fn) (hs : SigOk P A) (hr : ∀ x, runF (unhook A) big fn S x = S.f x) (hn : (!fn.body.isNone && (!(fn.name == "runtime.NumGoroutine") && decide (S.md.length ≤ fn.ntmps))) = true := by kernel_rfl) : FnOk P f ∧ Good P f S := by
 simp only[Bool.and_eq_true,Bool.not_eq_true',decide_eq_true_eq]at hn
 exact⟨⟨fn,hf,hn.1,hn.2.1⟩,vg hf hn.2.2 fun x r h=>⟨A,big,hc,hs,(hr x).trans h⟩⟩
def itN {β:Type}(B:β→β) (z:β):Nat→β
 | 0=>z
 | n+1=>B (itN B z n)
theorem itE {β:Type}{R:Nat→β}{B:β→β}{z:β}(h0:R 0=z) (hs:∀m,R (m+1)=B (R m)):∀n,R n=itN B z n
 | 0=>h0
 | n+1=>by rw[hs n,itE h0 hs n];rfl
def us (n:Nat):List V:=List.replicate n .u
def ud (n:Nat) (l:List V):List V:=List.replicate n .u++l
def dr (n:Nat) (l:List Sh):List Sh:=List.replicate n .drop++l
end Go.Gx
