import Derived.Test.YtgmapdlhkfajoaaGreatUBST
set_option maxRecDepth 100000
set_option linter.unusedVariables false
namespace Go.Proofs.YtgmapdlhkfajoaaGreat
open Go Go.Gx Go.Proofs
def w61 (code_0:Y4):Z11 :=
  (V22 big (code_0,(0,(0,())))).bind fun rq1 =>
  (V84 rq1.1).bind fun rq2 =>
  cond (!((((),rq2.1.2).2).1))
  ((V120 big rq1.2.1).bind fun rq3 =>
  some (rq3.1,(())))
  ((V2 rq1.2.1 8).bind fun rq4 =>
  cond (decide (rq4.1=0))
  ((V2 rq4.2.1 2).bind fun rq5 =>
  (atI rq2.1.1.2.1 rq5.1).bind fun _ =>
  (rq2.1.1.2.1[rq5.1.toNat]?).bind fun xq6 =>
  (rq2.1.1.2.1[rq5.1.toNat]?).bind fun xq7 =>
  (atI rq2.1.1.2.1 rq5.1).bind fun _ =>
  (rq2.1.1.2.1[rq5.1.toNat]?).bind fun xq8 =>
  (rq2.1.1.2.1[rq5.1.toNat]?).bind fun xq9 =>
  (rq2.1.1.2.1[rq5.1.toNat]?).bind fun xq10 =>
  (V2 rq5.2.1 (xq10.2.1.length:Int)).bind fun rq11 =>
  (V2 rq11.2.1 rq2.1.1.1).bind fun rq12 =>
  (rq2.1.1.2.1[rq5.1.toNat]?).bind fun xq13 =>
  (atI xq13.2.1 rq11.1).bind fun _ =>
  (rq2.1.1.2.1[rq5.1.toNat]?).bind fun xq14 =>
  (xq14.2.1[rq11.1.toNat]?).bind fun xq15 =>
  some ((rq2.1.1.1,(rq2.1.1.2.1.set rq5.1.toNat (xq14.1,(xq14.2.1.set rq11.1.toNat rq12.1,xq14.2.2)),rq2.1.1.2.2)),(())))
  (cond (decide (rq4.1=1))
  (cond (decide (1≤(rq2.1.1.2.1.length:Int)))
  (some ((rq2.1.1.1,(rq2.1.1.2.1.take 1,rq2.1.1.2.2)),(())))
  none)
  (some (rq2.1.1,(())))))
def V121 (code_0:Y4):Z11:=w61 code_0
def S_V121:Sig:=⟨(.pair Q25 .unit),[0],[],.unit,Q1,O24,fun x=>V121 x.1⟩
def A_V121:Cfg:=hookCfg (fun i=>if i=10 then some PV.hook else none) (mkCfg tab [(52,S_V22),(12,S_V84),(53,S_V120),(54,S_V2)] [])
theorem run_V121 (N x):runF A_V121 N Tryz.f22 S_V121 x=V121 x.1:=by kernel_rfl
theorem fn_V121:FnOk Tryz.prog 22:=⟨_,Tryz.func22,by kernel_rfl,by kernel_rfl⟩
theorem good_V121:Gx.Good Tryz.prog 22 S_V121:=jgw Tryz.func22 (of_decide_eq_true (by kernel_rfl)) fun x r h=>⟨A_V121,big,jit (vd tabOk),jhu (jes (show SigsOk Tryz.prog [(52,S_V22),(12,S_V84),(53,S_V120),(54,S_V2)] from⟨ok_V22,ok_V84,⟨fn_V120,good_V120⟩,ok_V2,trivial⟩)),fun code hc=>jao (ids:=[10]) (fun i hi=>by simp only[List.mem_cons,List.not_mem_nil,or_false]at hi;simp[A_V121,hookCfg,hi]) fun c hm=>PO.hooks_spec_DrawLatticeOfRing A_V121 (by rfl) code hc c hm,(run_V121 big x).trans h⟩
def wcy (rec:Int→Y6→Int→Option Z0) (k:Option Z0) (a0:Int) (a3:Y6) (a5:Int):Option Z0 :=
  cond (decide (a5<(a3.2.1.length:Int)))
  ((atI a3.2.1 a5).bind fun xq3 =>
  (V6 xq3 0 (IntKind.i64.wrap (a0-1))).bind fun rq4 =>
  cond (!rq4.1)
  (some (false,(())))
  (rec a0 a3 (IntKind.i64.wrap (a5+1))))
  (k)
def z4:Option Z0 :=
  some (true,(()))
def wtz (L4:Int→Y6→Int→Option Z0) (n_0:Int) (op_1:Y6):Option Z0 :=
  (V6 op_1.1 0 3).bind fun rq1 =>
  cond (!rq1.1)
  (some (false,(())))
  ((V20 big n_0 op_1.1).bind fun rq2 =>
  cond (decide ((op_1.2.1.length:Int)≠rq2.1))
  (some (false,(())))
  (L4 n_0 op_1 0))
def wq1 (N:Nat) (k:Option Z0):=itN (fun r=>wcy r k) fun _ _ _=>none
def wq0 (N:Nat):=wq1 N (z4) N
def V122 (N:Nat) (n_0:Int) (op_1:Y6):Option Z0:=wtz (wq0 N) n_0 op_1
def S_V122:Sig:=⟨(.pair I (.pair Q6 .unit)),[0,0],[],.unit,.bool,.i,fun x=>V122 big x.1 x.2.1⟩
def A_V122:Cfg:=mkCfg tab [(60,S_V6),(32,S_V20)] [(8,[B0,D0,D0,.as Q15 O7,D0,B0]),(17,[])]
noncomputable def wcx (N n:Nat) (K:Ex→St→Option Z0) (a0:Int) (a3:Y6) (a5:Int):Option Z0:=itr A_V122 N 8 Tryz.f97 [1,1,0,1,0,0] n ([W0 a0,.u,.u,.val Q15 O7 a3,.u,W0 a5]++us 30) K
noncomputable def wt0:Ex→St→Option Z0:=finish A_V122 S_V122 Tryz.f97.results.toList
noncomputable def w0m (kX:St→Option Z0):Option Z0:=kX ([]++us 36)
noncomputable def w0l (kX:St→Option Z0) (kO:Nat→St→Option Z0):Ex→St→Option Z0:=exK wt0 0 (A_V122.shape 17) kX kO
theorem w21 (N kX kO):∀n,wcx N n (w0l kX kO)=wq1 N (w0m kX) n :=
 itE rfl fun m=>by kernel_rfl
noncomputable def wkx (N:Nat):Ex→St→Option Z0:=(blockK 0 (sqK A_V122 N 17 500008 Tryz.f97 [1,1,1] wt0))
noncomputable def w0n (N:Nat) (st':St):Option Z0:=rn A_V122 N Tryz.f97 [1,1,1] st' wt0
theorem xfg (N):wcx N N (wkx N)=wq0 N:=by
 rw[show wcx N N (wkx N)=wcx N N (w0l (w0n N) fun j=>(wkx N) (.exit j)) from(by funext _ _ _;exact jlo),w21,show w0m (w0n N)=z4 by kernel_rfl];rfl
theorem run_V122 (N x):runF A_V122 N Tryz.f97 S_V122 x=V122 N x.1 x.2.1:=(show _=(wtz (wcx N N (wkx N)) x.1 x.2.1) by kernel_rfl).trans (by rw[xfg N];rfl)
theorem ok_V122:OK 97 S_V122:=gdR (A:=A_V122) tc Tryz.func97 (jes ⟨ok_V6,ok_V20,trivial⟩) (run_V122 big)
def wc0 (rec:Y7→Int→Option Z0) (k:Option Z0) (a1:Y7) (a3:Int):Option Z0 :=
  cond (decide (a3<(a1.2.1.length:Int)))
  ((atI a1.2.1 a3).bind fun xq2 =>
  (V122 big a1.1 xq2).bind fun rq3 =>
  cond (!rq3.1)
  (some (false,(())))
  (rec a1 (IntKind.i64.wrap (a3+1))))
  (k)
def z5:Option Z0 :=
  some (true,(()))
def wt1 (L4:Y7→Int→Option Z0) (a_0:Y7):Option Z0 :=
  (V6 a_0.1 1 8).bind fun rq1 =>
  cond (!rq1.1)
  (some (false,(())))
  (cond (decide (4<(a_0.2.1.length:Int)))
  (some (false,(())))
  (L4 a_0 0))
def wq3 (N:Nat) (k:Option Z0):=itN (fun r=>wc0 r k) fun _ _=>none
def wq2 (N:Nat):=wq3 N (z5) N
def V123 (N:Nat) (a_0:Y7):Option Z0:=wt1 (wq2 N) a_0
def S_V123:Sig:=⟨(.pair Q1 .unit),[0],[],.unit,.bool,.i,fun x=>V123 big x.1⟩
def A_V123:Cfg:=mkCfg tab [(60,S_V6),(97,S_V122)] [(8,[D0,B9,D0,B0]),(17,[])]
noncomputable def wcz (N n:Nat) (K:Ex→St→Option Z0) (a1:Y7) (a3:Int):Option Z0:=itr A_V123 N 8 Tryz.f55 [1,1,0,1,0,0] n ([.u,W8 a1,.u,W0 a3]++us 26) K
noncomputable def wt2:Ex→St→Option Z0:=finish A_V123 S_V123 Tryz.f55.results.toList
noncomputable def w0p (kX:St→Option Z0):Option Z0:=kX ([]++us 30)
noncomputable def w0o (kX:St→Option Z0) (kO:Nat→St→Option Z0):Ex→St→Option Z0:=exK wt2 0 (A_V123.shape 17) kX kO
theorem w22 (N kX kO):∀n,wcz N n (w0o kX kO)=wq3 N (w0p kX) n :=
 itE rfl fun m=>by kernel_rfl
noncomputable def wky (N:Nat):Ex→St→Option Z0:=(blockK 0 (sqK A_V123 N 17 500008 Tryz.f55 [1,1,1] wt2))
noncomputable def w0q (N:Nat) (st':St):Option Z0:=rn A_V123 N Tryz.f55 [1,1,1] st' wt2
theorem xfh (N):wcz N N (wky N)=wq2 N:=by
 rw[show wcz N N (wky N)=wcz N N (w0o (w0q N) fun j=>(wky N) (.exit j)) from(by funext _ _;exact jlo),w22,show w0p (w0q N)=z5 by kernel_rfl];rfl
theorem run_V123 (N x):runF A_V123 N Tryz.f55 S_V123 x=V123 N x.1:=(show _=(wt1 (wcz N N (wky N)) x.1) by kernel_rfl).trans (by rw[xfh N];rfl)
theorem ok_V123:OK 55 S_V123:=gdR (A:=A_V123) tc Tryz.func55 (jes ⟨ok_V6,ok_V122,trivial⟩) (run_V123 big)
def wc2 (rec:T115) (k:T44) (a1:Y7) (a3:Y4) (a4:Int):Z3 :=
  cond (decide (a4<(a1.2.1.length:Int)))
  ((atI a1.2.1 a4).bind fun xq1 =>
  (appI a3 [xq1.1]).bind fun xq2 =>
  rec a1 xq2 (IntKind.i64.wrap (a4+1)))
  (k a3)
def z6 (a3:Y4):Z3 :=
  some (a3,(()))
def wt3 (L3:T115) (a_0:Y7):Z3 :=
  L3 a_0 [] 0
def wq5 (N:Nat) (k:T44):=itN (fun r=>wc2 r k) fun _ _ _=>none
def wq4 (N:Nat):=wq5 N (z6) N
def V124 (N:Nat) (a_0:Y7):Z3:=wt3 (wq4 N) a_0
def S_V124:Sig:=⟨(.pair Q1 .unit),[0],[],.unit,Q10,O7,fun x=>V124 big x.1⟩
def A_V124:Cfg:=mkCfg tab [] [(6,[D0,B9,D0,B1,B0]),(13,(dr 3 [B1]))]
noncomputable def wc1 (N n:Nat) (K:T31) (a1:Y7) (a3:Y4) (a4:Int):Z3:=itr A_V124 N 6 Tryz.f57 [1,1,0,1,0,0] n ([.u,W8 a1,.u,W1 a3,W0 a4]++us 18) K
noncomputable def wt4:Ex→St→Z3:=finish A_V124 S_V124 Tryz.f57.results.toList
noncomputable def w0s (kX:T18) (a3:Y4):Z3:=kX ((ud 3 [W1 a3])++us 19)
noncomputable def w0r (kX:T18) (kO:T19):=exK wt4 0 (A_V124.shape 13) kX kO
theorem w23 (N kX kO):∀n,wc1 N n (w0r kX kO)=wq5 N (w0s kX) n :=
 itE rfl fun m=>by kernel_rfl
noncomputable def wkz (N:Nat):=(blockK 0 (sqK A_V124 N 13 500006 Tryz.f57 [1,1,1] wt4))
noncomputable def w0t (N:Nat) (st':St):Z3:=rn A_V124 N Tryz.f57 [1,1,1] st' wt4
theorem xfi (N):wc1 N N (wkz N)=wq4 N:=by
 rw[show wc1 N N (wkz N)=wc1 N N (w0r (w0t N) fun j=>(wkz N) (.exit j)) from(by funext _ _ _;exact jlo),w23,show w0s (w0t N)=z6 by kernel_rfl];rfl
theorem run_V124 (N x):runF A_V124 N Tryz.f57 S_V124 x=V124 N x.1:=(show _=(wt3 (wc1 N N (wkz N)) x.1) by kernel_rfl).trans (by rw[xfi N];rfl)
theorem ok_V124:OK 57 S_V124:=gdR (A:=A_V124) tc Tryz.func57 (jes trivial) (run_V124 big)
def wc4 (rec:Y4→Y4→Int→Option Z0) (k:Option Z0) (a0 a1:Y4) (a5:Int):Option Z0 :=
  cond (decide (a5<(a0.length:Int)))
  ((atI a0 a5).bind fun xq1 =>
  (atI a1 a5).bind fun xq2 =>
  cond (decide (xq1≠xq2))
  (some (false,(())))
  (rec a0 a1 (IntKind.i64.wrap (a5+1))))
  (k)
def z7:Option Z0 :=
  some (true,(()))
def wt5 (L4:Y4→Y4→Int→Option Z0) (a_0 b_1:Y4):Option Z0 :=
  cond (decide ((a_0.length:Int)≠(b_1.length:Int)))
  (some (false,(())))
  (L4 a_0 b_1 0)
def wq7 (N:Nat) (k:Option Z0):=itN (fun r=>wc4 r k) fun _ _ _=>none
def wq6 (N:Nat):=wq7 N (z7) N
def V125 (N:Nat) (a_0 b_1:Y4):Option Z0:=wt5 (wq6 N) a_0 b_1
def S_V125:Sig:=⟨Q16,[0,0],[],.unit,.bool,.i,fun x=>V125 big x.1 x.2.1⟩
def A_V125:Cfg:=mkCfg tab [] [(8,([B4,B4]++dr 3 [B0])),(17,[])]
noncomputable def wc3 (N n:Nat) (K:Ex→St→Option Z0) (a0 a1:Y4) (a5:Int):Option Z0:=itr A_V125 N 8 Tryz.f56 [1,1,0,1,0,0] n (([W4 a0,W4 a1]++ud 3 [W0 a5])++us 20) K
noncomputable def wt6:Ex→St→Option Z0:=finish A_V125 S_V125 Tryz.f56.results.toList
noncomputable def w0v (kX:St→Option Z0):Option Z0:=kX ([]++us 26)
noncomputable def w0u (kX:St→Option Z0) (kO:Nat→St→Option Z0):Ex→St→Option Z0:=exK wt6 0 (A_V125.shape 17) kX kO
theorem w24 (N kX kO):∀n,wc3 N n (w0u kX kO)=wq7 N (w0v kX) n :=
 itE rfl fun m=>by kernel_rfl
noncomputable def wk0 (N:Nat):Ex→St→Option Z0:=(blockK 0 (sqK A_V125 N 17 500008 Tryz.f56 [1,1,1] wt6))
noncomputable def w0w (N:Nat) (st':St):Option Z0:=rn A_V125 N Tryz.f56 [1,1,1] st' wt6
theorem xfj (N):wc3 N N (wk0 N)=wq6 N:=by
 rw[show wc3 N N (wk0 N)=wc3 N N (w0u (w0w N) fun j=>(wk0 N) (.exit j)) from(by funext _ _ _;exact jlo),w24,show w0v (w0w N)=z7 by kernel_rfl];rfl
theorem run_V125 (N x):runF A_V125 N Tryz.f56 S_V125 x=V125 N x.1 x.2.1:=(show _=(wt5 (wc3 N N (wk0 N)) x.1 x.2.1) by kernel_rfl).trans (by rw[xfj N];rfl)
theorem ok_V125:OK 56 S_V125:=gdR (A:=A_V125) tc Tryz.func56 (jes trivial) (run_V125 big)
def wc6 (rec:T80) (k:Int→Y7→Int→Z4) (a1:Int) (a2:Y4) (a3:Y7) (a7 a8:Int):Z4 :=
  cond (decide (a8<(a2.length:Int)))
  ((atI a2 a8).bind fun xq1 =>
  rec a1 a2 a3 (IntKind.i64.wrap ((IntKind.i64.wrap (a7*a3.1))+xq1)) (IntKind.i64.wrap (a8+1)))
  (k a1 a3 a7)
def z8 (a1:Int) (a3:Y7) (a7:Int):Z4 :=
  (atI a3.2.1 a1).bind fun xq2 =>
  (atI xq2.2.1 a7).bind fun xq3 =>
  some (xq3,(()))
def wt7 (L3:T80) (a_0:Y7) (op_1:Int) (args_2:Y4):Z4 :=
  L3 op_1 args_2 a_0 0 0
def wq9 (N:Nat) (k:Int→Y7→Int→Z4):=itN (fun r=>wc6 r k) fun _ _ _ _ _=>none
def wq8 (N:Nat):=wq9 N (z8) N
def V126 (N:Nat) (a_0:Y7) (op_1:Int) (args_2:Y4):Z4:=wt7 (wq8 N) a_0 op_1 args_2
def S_V126:Sig:=⟨(.pair Q1 Q6),[0,0,0],[],.unit,I,.i,fun x=>V126 big x.1 x.2.1 x.2.2.1⟩
def A_V126:Cfg:=mkCfg tab [] [(6,([D0,B0,B4,B9]++dr 3 [B0,B0])),(13,([D0,B0,D0,B9]++dr 3 [B0]))]
noncomputable def wc5 (N n:Nat) (K:T51) (a1:Int) (a2:Y4) (a3:Y7) (a7 a8:Int):Z4:=itr A_V126 N 6 Tryz.f58 [1,1,0,1,0,0] n (([.u,W0 a1,W4 a2,W8 a3]++ud 3 [W0 a7,W0 a8])++us 24) K
noncomputable def wt8:Ex→St→Z4:=finish A_V126 S_V126 Tryz.f58.results.toList
noncomputable def w0y (kX:T22) (a1:Int) (a3:Y7) (a7:Int):Z4:=kX (([.u,W0 a1,.u,W8 a3]++ud 3 [W0 a7])++us 25)
noncomputable def w0x (kX:T22) (kO:T12):=exK wt8 0 (A_V126.shape 13) kX kO
theorem w25 (N kX kO):∀n,wc5 N n (w0x kX kO)=wq9 N (w0y kX) n :=
 itE rfl fun m=>by kernel_rfl
noncomputable def wk1 (N:Nat):=(blockK 0 (sqK A_V126 N 13 500006 Tryz.f58 [1,1,1] wt8))
noncomputable def w0z (N:Nat) (st':St):Z4:=rn A_V126 N Tryz.f58 [1,1,1] st' wt8
theorem xfk (N):wc5 N N (wk1 N)=wq8 N:=by
 rw[show wc5 N N (wk1 N)=wc5 N N (w0x (w0z N) fun j=>(wk1 N) (.exit j)) from(by funext _ _ _ _ _;exact jlo),w25,show w0y (w0z N)=z8 by kernel_rfl];rfl
theorem run_V126 (N x):runF A_V126 N Tryz.f58 S_V126 x=V126 N x.1 x.2.1 x.2.2.1:=(show _=(wt7 (wc5 N N (wk1 N)) x.1 x.2.1 x.2.2.1) by kernel_rfl).trans (by rw[xfk N];rfl)
theorem ok_V126:OK 58 S_V126:=gdR (A:=A_V126) tc Tryz.func58 (jes trivial) (run_V126 big)
def wc9 (rec:T70) (k:Y7→Y2→Y2→Int→Y4→Z7) (a1:Y7) (a2 a4:Y2) (a5:Int) (a6:Y4) (a7:Int):Z7 :=
  cond (decide (a7<a1.1))
  ((V126 big a1 1 [a7,a5]).bind fun rq16 =>
  cond (decide (rq16.1=a7))
  ((appI a6 [a7]).bind fun xq17 =>
  rec a1 a2 a4 a5 xq17 (IntKind.i64.wrap (a7+1)))
  (rec a1 a2 a4 a5 a6 (IntKind.i64.wrap (a7+1))))
  (k a1 a2 a4 a5 a6)
def waa (rec:T68) (a1:Y7) (a2 a4:Y2) (a5:Int) (a6:Y4):Z7 :=
  (appI a4.1 [a6]).bind fun xq18 =>
  rec a1 a2 (xq18,((),a4.2).2) (IntKind.i64.wrap (a5+1))
def wab (L9:T70) (k:T116) (a1:Y7) (a2 a4:Y2) (a5:Int):Z7 :=
  cond (decide (a5<a1.1))
  (L9 a1 a2 a4 a5 [] 0)
  (k a1 a2 a4)
def wl (a1:Y7) (a2 a4:Y2):Z7 :=
  (V70 a4).bind fun rq4 =>
  cond (!rq4.1)
  (some (((([]:Y3),()),false,()),(())))
  ((V83 big a4).bind fun rq5 =>
  (atI rq5.1.2.1 0).bind fun _ =>
  (rq5.1.2.1[(0:Int).toNat]?).bind fun xq6 =>
  (rq5.1.2.1[(0:Int).toNat]?).bind fun xq7 =>
  (atI a1.2.1 0).bind fun xq8 =>
  (rq5.1.2.1[(0:Int).toNat]?).bind fun xq9 =>
  (V125 big xq9.2.1 xq8.2.1).bind fun rq10 =>
  cond (!rq10.1)
  (some (((([]:Y3),()),false,()),(())))
  ((atI rq5.1.2.1 1).bind fun _ =>
  (rq5.1.2.1[(1:Int).toNat]?).bind fun xq11 =>
  (rq5.1.2.1[(1:Int).toNat]?).bind fun xq12 =>
  (atI a1.2.1 1).bind fun xq13 =>
  (rq5.1.2.1[(1:Int).toNat]?).bind fun xq14 =>
  (V125 big xq14.2.1 xq13.2.1).bind fun rq15 =>
  cond (!rq15.1)
  (some (((([]:Y3),()),false,()),(())))
  (some ((a4,true,()),(())))))
def wt9 (L5:T68) (a_0:Y7):Z7 :=
  (V123 big a_0).bind fun rq1 =>
  cond (!rq1.1)
  (some (((([]:Y3),()),false,()),(())))
  ((V124 big a_0).bind fun rq2 =>
  (V125 big rq2.1 [(2:Int),2]).bind fun rq3 =>
  cond (!rq3.1)
  (some (((([]:Y3),()),false,()),(())))
  (L5 a_0 (([]:Y3),()) ([],()) 0))
def wrb (N:Nat) (k:Y7→Y2→Y2→Int→Y4→Z7):=itN (fun r=>wc9 r k) fun _ _ _ _ _ _=>none
def wc7 (N:Nat) (rec:T68) (k:T116):=wrb N (waa rec) N
def wra (N:Nat) (k:T116):=itN (fun r=>wab (wc7 N r k) k) fun _ _ _ _=>none
def wk2 (N:Nat):=wra N (wl) N
def V127 (N:Nat) (a_0:Y7):Z7:=wt9 (wk2 N) a_0
def S_V127:Sig:=⟨(.pair Q1 .unit),[0],[],.unit,(.tup (.pair Q0 Q18)),(.p (.p O14 .i) .i),fun x=>V127 big x.1⟩
def A_V127:Cfg:=mkCfg tab [(55,S_V123),(57,S_V124),(56,S_V125),(29,S_V70),(36,S_V83),(58,S_V126)] [(10,[D0,B9,B2,D0,B2,B0]),(18,[D0,B9,B2,D0,B2,B0,B1,B0]),(29,[D0,B9,B2,D0,B2]),(27,[D0,B9,B2,D0,B2,B0,B1])]
noncomputable def yb (N n:Nat) (K:Ex→St→Z7) (a1:Y7) (a2 a4:Y2) (a5:Int):Z7:=itr A_V127 N 10 Tryz.f23 [1,1,1,0,1,0,0] n ([.u,W8 a1,W2 a2,.u,W2 a4,W0 a5]++us 80) K
noncomputable def wc8 (N n:Nat) (K:Ex→St→Z7) (a1:Y7) (a2 a4:Y2) (a5:Int) (a6:Y4) (a7:Int):Z7:=itr A_V127 N 18 Tryz.f23 [1,1,1,0,1,0,0,1,0,0,1,0,1,0,0] n ([.u,W8 a1,W2 a2,.u,W2 a4,W0 a5,W1 a6,W0 a7]++us 78) K
noncomputable def wmo:Ex→St→Z7:=finish A_V127 S_V127 Tryz.f23.results.toList
noncomputable def wk5 (kX:T107) (a1:Y7) (a2 a4:Y2):Z7:=kX ([.u,W8 a1,W2 a2,.u,W2 a4]++us 81)
noncomputable def z9 (kX:T107) (kO:T91):=exK wmo 0 (A_V127.shape 29) kX kO
noncomputable def w01 (kX:T107) (a1:Y7) (a2 a4:Y2) (a5:Int) (a6:Y4):Z7:=kX ([.u,W8 a1,W2 a2,.u,W2 a4,W0 a5,W1 a6]++us 79)
noncomputable def w00 (kX:T107) (kO:T91):=exK wmo 2 (A_V127.shape 27) kX kO
theorem w27 (N kX kO):∀n,wc8 N n (w00 kX kO)=wrb N (w01 kX) n :=
 itE rfl fun m=>by kernel_rfl
noncomputable def wk4 (N m:Nat) (kX:T107) (kO:T91):=(blockK 2 (sqK A_V127 N 27 500013 Tryz.f23 [1,1,1,0,1,0,0,1,0,0,1,1] (blockK 1 (sqK A_V127 N 13 500006 Tryz.f23 [1,1,1,0,1,0,0,1,1] (itK A_V127 N 10 Tryz.f23 [1,1,1,0,1,0,0] m (z9 kX kO))))))
noncomputable def w03 (N m:Nat) (kX:T107) (kO:T91) (st':St):Z7:=rn A_V127 N Tryz.f23 [1,1,1,0,1,0,0,1,0,0,1,1] st' (blockK 1 (sqK A_V127 N 13 500006 Tryz.f23 [1,1,1,0,1,0,0,1,1] (itK A_V127 N 10 Tryz.f23 [1,1,1,0,1,0,0] m (z9 kX kO))))
theorem xfm (N m kX kO) {r}(h:yb N m (z9 kX kO)=r):wc8 N N (wk4 N m kX kO)=wc7 N r (wk5 kX):=by
 rw[show wc8 N N (wk4 N m kX kO)=wc8 N N (w00 (w03 N m kX kO) fun j=>(wk4 N m kX kO) (.exit j)) from(by funext _ _ _ _ _ _;exact jlo),w27,show w01 (w03 N m kX kO)=waa (yb N m (z9 kX kO)) by kernel_rfl,h];rfl
theorem w26 (N kX kO):∀n,yb N n (z9 kX kO)=wra N (wk5 kX) n :=
 itE rfl fun m=>(show _=wab (wc8 N N (wk4 N m kX kO)) (wk5 kX) by kernel_rfl).trans (by rw[xfm N m kX kO rfl]<;>rfl)
noncomputable def wk3 (N:Nat):=(blockK 0 (sqK A_V127 N 29 500014 Tryz.f23 [1,1,1,1] wmo))
noncomputable def w02 (N:Nat) (st':St):Z7:=rn A_V127 N Tryz.f23 [1,1,1,1] st' wmo
theorem xfl (N):yb N N (wk3 N)=wk2 N:=by
 rw[show yb N N (wk3 N)=yb N N (z9 (w02 N) fun j=>(wk3 N) (.exit j)) from(by funext _ _ _ _;exact jlo),w26,show wk5 (w02 N)=wl by kernel_rfl];rfl
theorem run_V127 (N x):runF A_V127 N Tryz.f23 S_V127 x=V127 N x.1:=(show _=(wt9 (yb N N (wk3 N)) x.1) by kernel_rfl).trans (by rw[xfl N];rfl)
theorem ok_V127:OK 23 S_V127:=gdR (A:=A_V127) tc Tryz.func23 (jes ⟨ok_V123,ok_V124,ok_V125,ok_V70,ok_V83,ok_V126,trivial⟩) (run_V127 big)
def w62 (code_0:Y4):Z4 :=
  (V4 (code_0,(0,(0,()))) [(0:Int),1,2,3,(-1:Int),4]).bind fun rq1 =>
  some (rq1.1,(()))
def V128 (code_0:Y4):Z4:=w62 code_0
def S_V128:Sig:=⟨(.pair Q25 .unit),[0],[],.unit,I,.i,fun x=>V128 x.1⟩
def A_V128:Cfg:=mkCfg tab [(59,S_V4)] []
theorem run_V128 (N x):runF A_V128 N Tryz.f24 S_V128 x=V128 x.1:=by kernel_rfl
theorem ok_V128:OK 24 S_V128:=gdR (A:=A_V128) tc Tryz.func24 (jes ⟨ok_V4,trivial⟩) (run_V128 big)
def xls (k_0:Int):Z7 :=
  (V6 k_0 0 3).bind fun rq1 =>
  cond (!rq1.1)
  (some (((([]:Y3),()),false,()),(())))
  ((V21 big k_0).bind fun rq2 =>
  some ((rq2.1,true,()),(())))
def V129 (k_0:Int):Z7:=xls k_0
def S_V129:Sig:=⟨Q22,[0],[],.unit,(.tup (.pair Q0 Q18)),(.p (.p O14 .i) .i),fun x=>V129 x.1⟩
def A_V129:Cfg:=mkCfg tab [(60,S_V6),(61,S_V21)] []
theorem run_V129 (N x):runF A_V129 N Tryz.f25 S_V129 x=V129 x.1:=by kernel_rfl
theorem ok_V129:OK 25 S_V129:=gdR (A:=A_V129) tc Tryz.func25 (jes ⟨ok_V6,ok_V21,trivial⟩) (run_V129 big)
def wf9 (rec:Y4→Y2→Y4→Y4→Y7→Y7→Int→Option Z0) (k:Y4→Y7→Y7→Option Z0) (a0:Y4) (a3:Y2) (a4 a8:Y4) (a12 a16:Y7) (a28:Int):Option Z0 :=
  cond (decide (a28<(a8.length:Int)))
  ((atI a8 a28).bind fun _ =>
  (a8[a28.toNat]?).bind fun xq34 =>
  (atI a8 xq34).bind fun _ =>
  (a8[xq34.toNat]?).bind fun xq35 =>
  cond (decide (xq35≠a28))
  (some (false,(())))
  ((atI a4 a28).bind fun _ =>
  (a4[a28.toNat]?).bind fun xq36 =>
  (atI a8 a28).bind fun _ =>
  (a8[a28.toNat]?).bind fun xq37 =>
  (atI a4 xq37).bind fun _ =>
  (a4[xq37.toNat]?).bind fun xq38 =>
  cond (decide ((IntKind.i64.wrap (xq36+xq38))≠(IntKind.i64.wrap ((a3.1.length:Int)-1))))
  (some (false,(())))
  (rec a0 a3 a4 a8 a12 a16 (IntKind.i64.wrap (a28+1)))))
  (k a0 a12 a16)
def wan (a0:Y4) (a12 a16:Y7):Option Z0 :=
  (V116 a16 ([(-3:Int),(-3:Int),0],([(0:Int)],()))).bind fun rq39 =>
  cond (!rq39.1.2.1)
  (some (false,(())))
  (cond (!rq39.1.1)
  (some (false,(())))
  ((V116 a12 ([(-1:Int),0,(-1:Int),0,1],([(1:Int)],()))).bind fun rq40 =>
  cond (!rq40.1.2.1)
  (some (false,(())))
  (cond (!rq40.1.1)
  (some (false,(())))
  ((V121 a0).bind fun rq41 =>
  (V105 rq41.1).bind fun rq42 =>
  (V127 big rq41.1).bind fun rq43 =>
  cond (rq42.1.2.1 != ((((),rq43.1.2).2).1))
  (some (false,(())))
  ((V107 rq42.1.1 rq43.1.1).bind fun rq44 =>
  cond (!rq44.1)
  (some (false,(())))
  (cond rq42.1.2.1
  ((V81 rq42.1.1).bind fun rq45 =>
  cond (!((((),rq45.1.2).2).1))
  (some (false,(())))
  ((V85 big rq45.1.1 rq41.1).bind fun rq46 =>
  cond (!rq46.1)
  (some (false,(())))
  ((V128 a0).bind fun rq47 =>
  (V93 big rq47.1).bind fun rq48 =>
  (V129 rq47.1).bind fun rq49 =>
  cond (((((),rq48.1.2).2).1)==((((),rq49.1.2).2).1))
  ((V107 rq48.1.1 rq49.1.1).bind fun rq50 =>
  some (rq50.1,(())))
  (some (false,(()))))))
  ((V128 a0).bind fun rq51 =>
  (V93 big rq51.1).bind fun rq52 =>
  (V129 rq51.1).bind fun rq53 =>
  cond (((((),rq52.1.2).2).1)==((((),rq53.1.2).2).1))
  ((V107 rq52.1.1 rq53.1.1).bind fun rq54 =>
  some (rq54.1,(())))
  (some (false,(()))))))))))
def w5u (L28:Y4→Y2→Y4→Y4→Y7→Y7→Int→Option Z0) (code_0:Y4):Option Z0 :=
  (V0 code_0).bind fun rq1 =>
  cond rq1.1
  (some (true,(())))
  ((V24 code_0).bind fun rq2 =>
  (V55 big rq2.1).bind fun rq3 =>
  (V72 big rq2.1).bind fun rq4 =>
  cond (((((),rq3.1.2).2).1) != ((((),rq4.1.2).2).1))
  (some (false,(())))
  ((V73 big rq3.1.1 rq4.1.1).bind fun rq5 =>
  cond (!rq5.1)
  (some (false,(())))
  ((V75 rq2.1).bind fun rq6 =>
  (V77 rq2.1).bind fun rq7 =>
  cond (((((),rq6.1.2).2).1) != ((((),rq7.1.2).2).1))
  (some (false,(())))
  (cond (((((),rq6.1.2).2).1) != ((((),rq3.1.2).2).1))
  (some (false,(())))
  ((V73 big rq6.1.1 rq7.1.1).bind fun rq8 =>
  cond (!rq8.1)
  (some (false,(())))
  ((V81 rq2.1).bind fun rq9 =>
  (V84 rq2.1).bind fun rq10 =>
  cond (((((),rq9.1.2).2).1) != ((((),rq10.1.2).2).1))
  (some (false,(())))
  (cond (((((),rq9.1.2).2).1) != ((((),rq3.1.2).2).1))
  (some (false,(())))
  ((V85 big rq9.1.1 rq10.1.1).bind fun rq11 =>
  cond (!rq11.1)
  (some (false,(())))
  ((V87 rq2.1).bind fun rq12 =>
  (V89 rq2.1).bind fun rq13 =>
  cond (((((),rq12.1.2).2).1) != ((((),rq13.1.2).2).1))
  (some (false,(())))
  (cond (((((),rq12.1.2).2).1) != ((((),rq3.1.2).2).1))
  (some (false,(())))
  ((V85 big rq12.1.1 rq13.1.1).bind fun rq14 =>
  cond (!rq14.1)
  (some (false,(())))
  (cond ((((),rq3.1.2).2).1)
  ((V91 rq2.1).bind fun rq15 =>
  (V93 big (rq15.1.1.length:Int)).bind fun rq16 =>
  (V97 rq2.1 rq16.1.1 rq3.1.1).bind fun rq17 =>
  (V105 rq9.1.1).bind fun rq18 =>
  cond (!((((),rq15.1.2).2).1))
  (some (false,(())))
  (cond (!((((),rq16.1.2).2).1))
  (some (false,(())))
  (cond (!rq17.1.2.1)
  (some (false,(())))
  (cond (!rq17.1.1)
  (some (false,(())))
  (cond (!rq18.1.2.1)
  (some (false,(())))
  ((V107 rq18.1.1 rq2.1).bind fun rq19 =>
  cond (!rq19.1)
  (some (false,(())))
  (L28 code_0 rq2.1 rq3.1.1 rq6.1.1 rq9.1.1 rq12.1.1 0)))))))
  ((V121 code_0).bind fun rq20 =>
  (V105 rq20.1).bind fun rq21 =>
  (V127 big rq20.1).bind fun rq22 =>
  cond (rq21.1.2.1 != ((((),rq22.1.2).2).1))
  (some (false,(())))
  ((V107 rq21.1.1 rq22.1.1).bind fun rq23 =>
  cond (!rq23.1)
  (some (false,(())))
  (cond rq21.1.2.1
  ((V81 rq21.1.1).bind fun rq24 =>
  cond (!((((),rq24.1.2).2).1))
  (some (false,(())))
  ((V85 big rq24.1.1 rq20.1).bind fun rq25 =>
  cond (!rq25.1)
  (some (false,(())))
  ((V128 code_0).bind fun rq26 =>
  (V93 big rq26.1).bind fun rq27 =>
  (V129 rq26.1).bind fun rq28 =>
  cond (((((),rq27.1.2).2).1)==((((),rq28.1.2).2).1))
  ((V107 rq27.1.1 rq28.1.1).bind fun rq29 =>
  some (rq29.1,(())))
  (some (false,(()))))))
  ((V128 code_0).bind fun rq30 =>
  (V93 big rq30.1).bind fun rq31 =>
  (V129 rq30.1).bind fun rq32 =>
  cond (((((),rq31.1.2).2).1)==((((),rq32.1.2).2).1))
  ((V107 rq31.1.1 rq32.1.1).bind fun rq33 =>
  some (rq33.1,(())))
  (some (false,(())))))))))))))))))))
def wrj (N:Nat) (k:Y4→Y7→Y7→Option Z0):=itN (fun r=>wf9 r k) fun _ _ _ _ _ _ _=>none
def wlp (N:Nat):=wrj N (wan) N
def laws_FnStone (N:Nat) (code_0:Y4):Option Z0:=w5u (wlp N) code_0
def S_laws_FnStone:Sig:=⟨(.pair Q25 .unit),[0],[],.unit,.bool,.i,fun x=>laws_FnStone big x.1⟩
def A_Vx0:Cfg:=mkCfg tab [(4,S_V0),(5,S_V24),(6,S_V55),(7,S_V72),(8,S_V73),(9,S_V75),(10,S_V77),(11,S_V81),(12,S_V84),(13,S_V85),(14,S_V87),(15,S_V89),(16,S_V91),(17,S_V93),(18,S_V97),(19,S_V105),(20,S_V107),(22,S_V121),(23,S_V127),(24,S_V128),(25,S_V129),(21,S_V116)] [(56,([.as Q25 .i,D0,D0,B3,B1]++dr 3 ([B1]++dr 3 ([.as Q13 .i]++dr 3 ([B7]++dr 11 [B0]))))),(65,([.as Q25 .i]++dr 11 ([.as Q13 .i]++dr 3 [B7])))]
noncomputable def wf8 (N n:Nat) (K:Ex→St→Option Z0) (a0:Y4) (a3:Y2) (a4 a8:Y4) (a12 a16:Y7) (a28:Int):Option Z0:=itr A_Vx0 N 56 Tryz.f3 [1,1,1,1,1,1,1,1,1,1,1,0,1,0,1,1,1,1,1,0,1,0,0] n (([.val Q25 .i a0,.u,.u,W3 a3,W1 a4]++ud 3 ([W1 a8]++ud 3 ([.val Q13 .i a12]++ud 3 ([W7 a16]++ud 11 [W0 a28]))))++us 276) K
noncomputable def w5v:Ex→St→Option Z0:=finish A_Vx0 S_laws_FnStone Tryz.f3.results.toList
noncomputable def w1z (kX:St→Option Z0) (a0:Y4) (a12 a16:Y7):Option Z0:=kX (([.val Q25 .i a0]++ud 11 ([.val Q13 .i a12]++ud 3 [W7 a16]))++us 288)
noncomputable def w1y (kX:St→Option Z0) (kO:Nat→St→Option Z0):Ex→St→Option Z0:=exK w5v 0 (A_Vx0.shape 65) kX kO
theorem w5t (N kX kO):∀n,wf8 N n (w1y kX kO)=wrj N (w1z kX) n :=
 itE rfl fun m=>by kernel_rfl
noncomputable def wlq (N:Nat):Ex→St→Option Z0:=(blockK 0 (sqK A_Vx0 N 65 500032 Tryz.f3 [1,1,1,1,1,1,1,1,1,1,1,0,1,0,1,1,1,1,1,1] (sqK A_Vx0 N 77 500038 Tryz.f3 [1,1,1,1,1,1,1,1,1,1,1,1] w5v)))
noncomputable def w10 (N:Nat) (st':St):Option Z0:=rn A_Vx0 N Tryz.f3 [1,1,1,1,1,1,1,1,1,1,1,0,1,0,1,1,1,1,1,1] st' (sqK A_Vx0 N 77 500038 Tryz.f3 [1,1,1,1,1,1,1,1,1,1,1,1] w5v)
theorem xf1 (N):wf8 N N (wlq N)=wlp N:=by
 rw[show wf8 N N (wlq N)=wf8 N N (w1y (w10 N) fun j=>(wlq N) (.exit j)) from(by funext _ _ _ _ _ _ _;exact jlo),w5t,show w1z (w10 N)=wan by kernel_rfl];rfl
theorem run_laws_FnStone (N x):runF A_Vx0 N Tryz.f3 S_laws_FnStone x=laws_FnStone N x.1:=(show _=(w5u (wf8 N N (wlq N)) x.1) by kernel_rfl).trans (by rw[xf1 N];rfl)
theorem ok_laws_FnStone:OK 3 S_laws_FnStone:=gdR (A:=A_Vx0) tc Tryz.func3 (jes ⟨ok_V0,ok_V24,ok_V55,ok_V72,ok_V73,ok_V75,ok_V77,ok_V81,ok_V84,ok_V85,ok_V87,ok_V89,ok_V91,ok_V93,ok_V97,ok_V105,ok_V107,⟨fn_V121,good_V121⟩,ok_V127,ok_V128,ok_V129,ok_V116,trivial⟩) (run_laws_FnStone big)
theorem good_laws_FnStone:Gx.Good Tryz.prog 3 S_laws_FnStone:=ok_laws_FnStone.2
end Go.Proofs.YtgmapdlhkfajoaaGreat
