import Derived.Test.YtgmapdlhkfajoaaGreatGSTp3
set_option maxRecDepth 100000
set_option linter.unusedVariables false
namespace Go.Proofs.YtgmapdlhkfajoaaGreat
open Go Go.Gx Go.Proofs
def xig (rec:Int→Y6→Y6→Int→Z17) (k:T109) (a0:Int) (a2 a3:Y6) (a4:Int):Z17 :=
  cond (decide (a4<(IntKind.i64.wrap ((IntKind.i64.wrap (a0*a0))*a0))))
  ((quoI IntKind.i64 a4 (IntKind.i64.wrap (a0*a0))).bind fun xq1 =>
  (quoI IntKind.i64 a4 a0).bind fun xq2 =>
  (remI xq2 a0).bind fun xq3 =>
  (remI a4 a0).bind fun xq4 =>
  (remI (IntKind.i64.wrap ((IntKind.i64.wrap ((IntKind.i64.wrap (xq1+a0))-xq3))+xq4)) a0).bind fun xq5 =>
  (appI a3.2.1 [xq5]).bind fun xq6 =>
  rec a0 a2 ((a3.1,((),a3.2.2)).1,(xq6,((a3.1,((),a3.2.2)).2).2)) (IntKind.i64.wrap (a4+1)))
  (k a2 a3)
def w0b (a2 a3:Y6):Z17 :=
  some (a3,(()))
def w6s (L3:Int→Y6→Y6→Int→Z17) (n_0:Int):Z17 :=
  L3 n_0 (0,(([]:Y4),())) (3,(([]:Y4),())) 0
def w0d (N:Nat) (k:T109):=itN (fun r=>xig r k) fun _ _ _ _=>none
def wz9 (N:Nat):=w0d N (w0b) N
def V118 (N:Nat) (n_0:Int):Z17:=w6s (wz9 N) n_0
def S_V118:Sig:=⟨Q22,[0],[],.unit,Q6,(.p .i (.p O7 .i)),fun x=>V118 big x.1⟩
def A_V118:Cfg:=mkCfg tab [] [(6,[B0,D0,B6,B6,B0]),(13,[D0,D0,B6,B6])]
noncomputable def wcp (N n:Nat) (K:Ex→St→Z17) (a0:Int) (a2 a3:Y6) (a4:Int):Z17:=itr A_V118 N 6 Tryz.f120 [1,1,0,1,0,0] n ([W0 a0,.u,W6 a2,W6 a3,W0 a4]++us 35) K
noncomputable def wtn:Ex→St→Z17:=finish A_V118 S_V118 Tryz.f120.results.toList
noncomputable def w0a (kX:St→Z17) (a2 a3:Y6):Z17:=kX ([.u,.u,W6 a2,W6 a3]++us 36)
noncomputable def wz8 (kX:St→Z17) (kO:Nat→St→Z17):=exK wtn 0 (A_V118.shape 13) kX kO
theorem w2w (N kX kO):∀n,wcp N n (wz8 kX kO)=w0d N (w0a kX) n :=
 itE rfl fun m=>by kernel_rfl
noncomputable def wks (N:Nat):=(blockK 0 (sqK A_V118 N 13 500006 Tryz.f120 [1,1,1] wtn))
noncomputable def w0c (N:Nat) (st':St):Z17:=rn A_V118 N Tryz.f120 [1,1,1] st' wtn
theorem xfb (N):wcp N N (wks N)=wz9 N:=by
 rw[show wcp N N (wks N)=wcp N N (wz8 (w0c N) fun j=>(wks N) (.exit j)) from(by funext _ _ _ _;exact jlo),w2w,show w0a (w0c N)=w0b by kernel_rfl];rfl
theorem run_V118 (N x):runF A_V118 N Tryz.f120 S_V118 x=V118 N x.1:=(show _=(w6s (wcp N N (wks N)) x.1) by kernel_rfl).trans (by rw[xfb N];rfl)
theorem ok_V118:OK 120 S_V118:=gdR (A:=A_V118) tc Tryz.func120 (jes trivial) (run_V118 big)
def xlp (k_0:Int):Z11 :=
  cond (decide (k_0=0))
  ((V117 big [48,48,48,49]).bind fun rq1 =>
  some ((2,([rq1.1],())),(())))
  (cond (decide (k_0=1))
  ((V117 big [48,48,48,49]).bind fun rq2 =>
  (V117 big [48,49,49,49]).bind fun rq3 =>
  some ((2,([rq2.1,rq3.1],())),(())))
  (cond (decide (k_0=2))
  ((V117 big [48,48,48,49]).bind fun rq4 =>
  (V117 big [48,49,49,49]).bind fun rq5 =>
  some ((2,([rq4.1,rq5.1,(1,([(1:Int),0],()))],())),(())))
  (cond (decide (k_0=3))
  ((V118 big 2).bind fun rq6 =>
  some ((2,([rq6.1],())),(())))
  (cond (decide (k_0=4))
  ((V117 big [48,49,50,49,50,48,50,48,49]).bind fun rq7 =>
  some ((3,([rq7.1],())),(())))
  (cond (decide (k_0=5))
  ((V117 big [48,49,48,49,49,50,48,50,50]).bind fun rq8 =>
  some ((3,([rq8.1],())),(())))
  (cond (decide (k_0=6))
  ((V117 big [48,49,50,51,49,48,51,50,50,51,48,49,51,50,49,48]).bind fun rq9 =>
  some ((4,([rq9.1],())),(())))
  (cond (decide (k_0=7))
  ((V117 big [48,48,48,48,49,49,48,49,50]).bind fun rq10 =>
  (V117 big [48,49,50,49,49,50,50,50,50]).bind fun rq11 =>
  some ((3,([rq10.1,rq11.1],())),(())))
  (cond (decide (k_0=8))
  (some ((4,([(1,([(1:Int),2,3,0],()))],())),(())))
  (cond (decide (k_0=9))
  (some ((2,([(3,([(0:Int),0,0,1,0,1,1,1],()))],())),(())))
  (cond (decide (k_0=10))
  ((V117 big [48,48,48,49,49,49,50,50,50]).bind fun rq12 =>
  some ((3,([rq12.1],())),(())))
  (cond (decide (k_0=11))
  ((V117 big [48,48,48,48,48,48,49,48,48,49,48,48,50,48,50,48,48,48,51,51,48,49,50,51,52]).bind fun rq13 =>
  (V117 big [48,49,50,51,52,49,49,52,52,52,50,52,50,52,52,51,52,52,51,52,52,52,52,52,52]).bind fun rq14 =>
  some ((5,([rq13.1,rq14.1],())),(())))
  (cond (decide (k_0=12))
  ((V117 big [48,49,50,51,49,50,51,48,50,51,48,49,51,48,49,50]).bind fun rq15 =>
  some ((4,([rq15.1],())),(())))
  (cond (decide (k_0=13))
  (some ((3,([(1,([(0:Int),0,1],())),(0,([(2:Int)],()))],())),(())))
  (cond (decide (k_0=14))
  ((V117 big [48]).bind fun rq16 =>
  some ((1,([rq16.1],())),(())))
  (cond (decide (k_0=15))
  ((V118 big 3).bind fun rq17 =>
  some ((3,([rq17.1],())),(())))
  (some ((2,(([]:(List Y6)),())),(()))))))))))))))))))
def V119 (k_0:Int):Z11:=xlp k_0
def S_V119:Sig:=⟨Q22,[0],[],.unit,Q1,O24,fun x=>V119 x.1⟩
def A_V119:Cfg:=mkCfg tab [(119,S_V117),(120,S_V118)] []
theorem run_V119 (N x):runF A_V119 N Tryz.f95 S_V119 x=V119 x.1:=by kernel_rfl
theorem ok_V119:OK 95 S_V119:=gdR (A:=A_V119) tc Tryz.func95 (jes ⟨ok_V117,ok_V118,trivial⟩) (run_V119 big)
end Go.Proofs.YtgmapdlhkfajoaaGreat
