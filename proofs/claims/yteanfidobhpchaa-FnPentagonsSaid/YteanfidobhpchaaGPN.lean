import Derived.Test.YteanfidobhpchaaGPNp3
set_option maxRecDepth 100000
set_option linter.unusedVariables false
namespace Go.Proofs.Yteanfidobhpchaa
open Go Go.Gx Go.Proofs
def vnj (rec:Y4→Y2→Y2→Int→Int→Int→Z1) (k:Y4→Y2→Y2→Int→Int→Z1) (list2:Y4) (p3 q4:Y2) (last7 y8 z9:Int):Z1 :=
  cond (decide (z9≤y8))
  ((V46 q4 y8 z9).bind fun rq1 =>
  (V47 q4 y8 z9).bind fun rq2 =>
  cond (decide (rq1.1≤last7))
  ((atI list2 y8).bind fun xq3 =>
  (atI list2 z9).bind fun xq4 =>
  (V46 p3 xq3 xq4).bind fun rq5 =>
  (atI list2 rq1.1).bind fun xq6 =>
  cond (decide (rq5.1≠xq6))
  (some (false,(())))
  (cond (decide (rq2.1≤last7))
  ((atI list2 y8).bind fun xq7 =>
  (atI list2 z9).bind fun xq8 =>
  (V47 p3 xq7 xq8).bind fun rq9 =>
  (atI list2 rq2.1).bind fun xq10 =>
  cond (decide (rq9.1≠xq10))
  (some (false,(())))
  (rec list2 p3 q4 last7 y8 (IntKind.i64.wrap (z9+1))))
  (rec list2 p3 q4 last7 y8 (IntKind.i64.wrap (z9+1)))))
  (cond (decide (rq2.1≤last7))
  ((atI list2 y8).bind fun xq11 =>
  (atI list2 z9).bind fun xq12 =>
  (V47 p3 xq11 xq12).bind fun rq13 =>
  (atI list2 rq2.1).bind fun xq14 =>
  cond (decide (rq13.1≠xq14))
  (some (false,(())))
  (rec list2 p3 q4 last7 y8 (IntKind.i64.wrap (z9+1))))
  (rec list2 p3 q4 last7 y8 (IntKind.i64.wrap (z9+1)))))
  (k list2 p3 q4 last7 y8)
def vqj (rec:Y4→Y2→Y2→Int→Int→Z1) (list2:Y4) (p3 q4:Y2) (last7 y8:Int):Z1 :=
  rec list2 p3 q4 last7 (IntKind.i64.wrap (y8+1))
def vnn (L6:Y4→Y2→Y2→Int→Int→Int→Z1) (k:Z1) (list2:Y4) (p3 q4:Y2) (last7 y8:Int):Z1 :=
  cond (decide (y8<(list2.length:Int)))
  (L6 list2 p3 q4 last7 y8 (0:Int))
  (k)
def vfp:Z1 :=
  some (true,(()))
def vbbk (L3:Y4→Y2→Y2→Int→Int→Z1) (p_0 q_1:Y2) (list_2:Y4):Z1 :=
  L3 list_2 p_0 q_1 (IntKind.i64.wrap ((list_2.length:Int) - 1)) (0:Int)
def vahj (N:Nat) (k:Y4→Y2→Y2→Int→Int→Z1):Nat→Y4→Y2→Y2→Int→Int→Int→Z1
  | 0,_,_,_,_,_,_=>none
  | m+1,list2,p3,q4,last7,y8,z9=>vnj (vahj N k m) k list2 p3 q4 last7 y8 z9
def vsy (N:Nat) (rec:Y4→Y2→Y2→Int→Int→Z1) (k:Z1) (list2:Y4) (p3 q4:Y2) (last7 y8 z9:Int):Z1:=vahj N (vqj rec) N list2 p3 q4 last7 y8 z9
def vagz (N:Nat) (k:Z1):Nat→Y4→Y2→Y2→Int→Int→Z1
  | 0,_,_,_,_,_=>none
  | m+1,list2,p3,q4,last7,y8=>vnn (vsy N (vagz N k m) k) k list2 p3 q4 last7 y8
def vard (N:Nat) (list2:Y4) (p3 q4:Y2) (last7 y8:Int):Z1:=vagz N (vfp) N list2 p3 q4 last7 y8
def V76 (N:Nat) (p_0 q_1:Y2) (list_2:Y4):Z1:=vbbk (vard N) p_0 q_1 list_2
def S_V76:Sig:=⟨(.pair Q0 (.pair Q0 Q12)),[0,0,0],[],.unit,.bool,.i,fun x=>V76 big x.1 x.2.1 x.2.2.1⟩
def A_V76:Cfg:=mkCfg tab [(46,S_V46),(47,S_V47)] [(6,[.drop,.drop,.as Q7 .i,.as Q4 P5,.as Q4 P5,.drop,.drop,.as I .i,.as I .i]),(12,[.drop,.drop,.as Q7 .i,.as Q4 P5,.as Q4 P5,.drop,.drop,.as I .i,.as I .i,.as I .i]),(23,[]),(9,[.drop,.drop,.as Q7 .i,.as Q4 P5,.as Q4 P5,.drop,.drop,.as I .i,.as I .i])]
noncomputable def vhm (N n:Nat) (K:Ex→St→Z1) (list2:Y4) (p3 q4:Y2) (last7 y8:Int):Z1:=iter ((A_V76).shape 6) (run (A_V76) N (codeAt Try.f104 [1,1,0,1,0,0])) n ([.u,.u,W4 list2,W2 p3,W2 q4,.u,.u,W0 last7,W0 y8]++us 67) K
noncomputable def vkl (N n:Nat) (K:Ex→St→Z1) (list2:Y4) (p3 q4:Y2) (last7 y8 z9:Int):Z1:=iter ((A_V76).shape 12) (run (A_V76) N (codeAt Try.f104 [1,1,0,1,0,0,1,0,0,1,0,0])) n ([.u,.u,W4 list2,W2 p3,W2 q4,.u,.u,W0 last7,W0 y8,W0 z9]++us 66) K
noncomputable abbrev vapp:Ex→St→Z1:=finish (A_V76) S_V76 Try.f104.results.toList
noncomputable abbrev vadl (kX:St→Z1):Z1:=kX ([]++us 76)
noncomputable abbrev vjs (kX:St→Z1) (kO:Nat→St→Z1):Ex→St→Z1:=exK vapp 0 ((A_V76).shape 23) kX kO
noncomputable abbrev vaur (kX:St→Z1) (list2:Y4) (p3 q4:Y2) (last7 y8:Int):Z1:=kX ([.u,.u,W4 list2,W2 p3,W2 q4,.u,.u,W0 last7,W0 y8]++us 67)
noncomputable abbrev vacu (kX:St→Z1) (kO:Nat→St→Z1):Ex→St→Z1:=exK vapp 2 ((A_V76).shape 9) kX kO
theorem vakc (N kX kO):∀ n,vkl N n (vacu kX kO)=vahj N (vaur kX) n
 | 0=>rfl
 | m+1=>(show vkl N (m+1) (vacu kX kO)=vnj (vkl N m (vacu kX kO)) (vaur kX) by kernel_rfl).trans (by rw[vakc N kX kO m];funext _ _ _ _ _ _;rfl)
noncomputable abbrev vafk (N m:Nat) (kX:St→Z1) (kO:Nat→St→Z1):Ex→St→Z1:=(blockK 2 (blockK 1 (sqK (A_V76) N 9 500004 (codeAt Try.f104 [1,1,0,1,0,0,1,1]) (itK (A_V76) N 6 (codeAt Try.f104 [1,1,0,1,0,0]) m (vjs kX kO)))))
noncomputable abbrev vbdw (N m:Nat) (kX:St→Z1) (kO:Nat→St→Z1) (st':St):Z1:=run (A_V76) N (codeAt Try.f104 [1,1,0,1,0,0,1,1]) st' (itK (A_V76) N 6 (codeAt Try.f104 [1,1,0,1,0,0]) m (vjs kX kO))
theorem vbqb (N m kX kO) {r} (h:vhm N m (vjs kX kO)=r):vkl N N (vafk N m kX kO)=vsy N r (vadl kX):=by
 rw[show vkl N N (vafk N m kX kO)=vkl N N (vacu (vbdw N m kX kO) fun j=>(vafk N m kX kO) (.exit j)) from (by funext _ _ _ _ _ _;exact vab (fun _=>by kernel_rfl) fun _=>by kernel_rfl),vakc,show vaur (vbdw N m kX kO)=vqj (vhm N m (vjs kX kO)) by kernel_rfl,h];rfl
theorem valc (N kX kO):∀ n,vhm N n (vjs kX kO)=vagz N (vadl kX) n
 | 0=>rfl
 | m+1=>(show vhm N (m+1) (vjs kX kO)=vnn (vkl N N (vafk N m kX kO)) (vadl kX) by kernel_rfl).trans (by rw[vbqb N m kX kO (valc N kX kO m)];funext _ _ _ _ _;rfl)
noncomputable abbrev vach (N:Nat):Ex→St→Z1:=(blockK 0 (sqK (A_V76) N 23 500011 (codeAt Try.f104 [1,1,1]) vapp))
noncomputable abbrev vbjh (N:Nat) (st':St):Z1:=run (A_V76) N (codeAt Try.f104 [1,1,1]) st' vapp
theorem vboa (N):vhm N N (vach N)=vard N:=by
 rw[show vhm N N (vach N)=vhm N N (vjs (vbjh N) fun j=>(vach N) (.exit j)) from (by funext _ _ _ _ _;exact vab (fun _=>by kernel_rfl) fun _=>by kernel_rfl),valc,show vadl (vbjh N)=vfp by kernel_rfl];rfl
theorem run_V76 (N x):runF (A_V76) N Try.f104 S_V76 x=V76 N x.1 x.2.1 x.2.2.1:=(show _=(vbbk (vhm N N (vach N)) x.1 x.2.1 x.2.2.1) by kernel_rfl).trans (by rw[vboa N];rfl)
theorem ok_V76:FnOk Try.prog 104∧Gx.Good Try.prog 104 S_V76:=gdR (A:=A_V76) tc Try.func104 (by kernel_rfl) (vaa ⟨ok_V46,ok_V47,trivial⟩) (run_V76 big)
def T_V77 (self:Z18→Z0):Sig:={ a:=(.pair Q0 (.pair Q0 Q12)),md:=[0,0,0],mf:=[],m := .unit,r:=Q9,rf := .i,f:=self }
def vnl (self_V77:Z18→Z0) (rec:Y4→Y2→Y2→Int→Z0) (k:Z0) (begun2:Y4) (p3 q4:Y2) (x8:Int):Z0 :=
  cond (decide (x8<(p3.1.length:Int)))
  ((V73 begun2).bind fun rq1 =>
  (appI rq1.1 [x8]).bind fun xq2 =>
  (V14 big begun2 x8).bind fun rq3 =>
  cond rq3.1
  (rec begun2 p3 q4 (IntKind.i64.wrap (x8+1)))
  ((V76 big p3 q4 xq2).bind fun rq4 =>
  cond (!rq4.1)
  (rec begun2 p3 q4 (IntKind.i64.wrap (x8+1)))
  ((self_V77 (p3,q4,xq2,())).bind fun rq5 =>
  cond rq5.1.2.1
  (some ((rq5.1.1,true,()),(())))
  (rec begun2 p3 q4 (IntKind.i64.wrap (x8+1))))))
  (k)
def voz (self_V77:Z18→Z0):Z0 :=
  some (([],false,()),(()))
def vapu (self_V77:Z18→Z0) (L4:Y4→Y2→Y2→Int→Z0) (p_0 q_1:Y2) (begun_2:Y4):Z0 :=
  cond (decide ((begun_2.length:Int)=(q_1.1.length:Int)))
  (some ((begun_2,true,()),(())))
  (L4 begun_2 p_0 q_1 (0:Int))
def vacq (self_V77:Z18→Z0) (N:Nat) (k:Z0):Nat→Y4→Y2→Y2→Int→Z0
  | 0,_,_,_,_=>none
  | m+1,begun2,p3,q4,x8=>vnl self_V77 (vacq self_V77 N k m) k begun2 p3 q4 x8
def vauj (self_V77:Z18→Z0) (N:Nat) (begun2:Y4) (p3 q4:Y2) (x8:Int):Z0:=vacq self_V77 N (voz self_V77) N begun2 p3 q4 x8
def V77 (self_V77:Z18→Z0) (N:Nat) (p_0 q_1:Y2) (begun_2:Y4):Z0:=vapu self_V77 (vauj self_V77 N) p_0 q_1 begun_2
def A_V77 (self_V77:Z18→Z0):Cfg:=mkCfg tab [(103,S_V73),(87,S_V14),(104,S_V76),(67,T_V77 self_V77)] [(8,([.drop,.drop,.as Q7 .i,.as Q4 P5,.as Q4 P5]++dr 3 [.as I .i])),(23,[])]
noncomputable def vlo (self_V77:Z18→Z0) (N n:Nat) (K:Ex→St→Z0) (begun2:Y4) (p3 q4:Y2) (x8:Int):Z0:=iter ((A_V77 self_V77).shape 8) (run (A_V77 self_V77) N (codeAt Try.f67 [1,1,0,1,0,0])) n (([.u,.u,W4 begun2,W2 p3,W2 q4]++ud 3 [W0 x8])++us 42) K
noncomputable abbrev vbdk (self_V77:Z18→Z0):Ex→St→Z0:=finish (A_V77 self_V77) (T_V77 self_V77) Try.f67.results.toList
noncomputable abbrev vaqq (kX:St→Z0):Z0:=kX ([]++us 51)
noncomputable abbrev vzy (self_V77:Z18→Z0) (kX:St→Z0) (kO:Nat→St→Z0):Ex→St→Z0:=exK (vbdk self_V77) 0 ((A_V77 self_V77).shape 23) kX kO
theorem vana (self_V77:Z18→Z0) (N kX kO):∀ n,vlo self_V77 N n (vzy self_V77 kX kO)=vacq self_V77 N (vaqq kX) n
 | 0=>rfl
 | m+1=>(show vlo self_V77 N (m+1) (vzy self_V77 kX kO)=vnl self_V77 (vlo self_V77 N m (vzy self_V77 kX kO)) (vaqq kX) by kernel_rfl).trans (by rw[vana self_V77 N kX kO m];funext _ _ _ _;rfl)
noncomputable abbrev vze (self_V77:Z18→Z0) (N:Nat):Ex→St→Z0:=(blockK 0 (sqK (A_V77 self_V77) N 23 500011 (codeAt Try.f67 [1,1,1]) (vbdk self_V77)))
noncomputable abbrev vbfp (self_V77:Z18→Z0) (N:Nat) (st':St):Z0:=run (A_V77 self_V77) N (codeAt Try.f67 [1,1,1]) st' (vbdk self_V77)
theorem vbox (self_V77:Z18→Z0) (N):vlo self_V77 N N (vze self_V77 N)=vauj self_V77 N:=by
 rw[show vlo self_V77 N N (vze self_V77 N)=vlo self_V77 N N (vzy self_V77 (vbfp self_V77 N) fun j=>(vze self_V77 N) (.exit j)) from (by funext _ _ _ _;exact vab (fun _=>by kernel_rfl) fun _=>by kernel_rfl),vana,show vaqq (vbfp self_V77 N)=voz self_V77 by kernel_rfl];rfl
theorem run_V77 (self_V77:Z18→Z0) (N:Nat) (x:((T_V77 self_V77)).a.den):runF (A_V77 self_V77) N Try.f67 (T_V77 self_V77) x=V77 self_V77 N x.1 x.2.1 x.2.2.1:=(show _=(vapu self_V77 (vlo self_V77 N N (vze self_V77 N)) x.1 x.2.1 x.2.2.1) by kernel_rfl).trans (by rw[vbox self_V77 N];rfl)
theorem fn_V77:FnOk Try.prog 67:=⟨_,Try.func67,by kernel_rfl,by kernel_rfl⟩
def R_V77:Nat→Z18→Z0
  | 0,_=>none
  | d+1,x=>V77 (R_V77 d) big x.1 x.2.1 x.2.2.1
def S_V77:Sig:=T_V77 (R_V77 big)
theorem vhv:∀ d,Gx.Good Try.prog 67 (T_V77 (R_V77 d))
  | 0=>fun x r h=>by cases h
  | d+1=>vnc Try.func67 (of_decide_eq_true (by kernel_rfl)) fun x r h=>⟨A_V77 (R_V77 d),big,vsd tabOk,vaa (show SigsOk Try.prog [(103,S_V73),(87,S_V14),(104,S_V76),(67,T_V77 (R_V77 d))] from⟨ok_V73,ok_V14,ok_V76,⟨fn_V77,vhv d⟩,trivial⟩),(run_V77 (R_V77 d) big x).trans h⟩
theorem good_V77:Gx.Good Try.prog 67 S_V77:=vhv big
def vbmg (p_0 q_1:Y2):Z0 :=
  (V45 big p_0).bind fun rq1 =>
  cond (!rq1.1)
  (some (([],false,()),(())))
  ((V45 big q_1).bind fun rq2 =>
  cond (!rq2.1)
  (some (([],false,()),(())))
  ((R_V77 big (p_0,q_1,[],())).bind fun rq3 =>
  some ((rq3.1.1,rq3.1.2.1,()),(()))))
def V79 (p_0 q_1:Y2):Z0:=vbmg p_0 q_1
def S_V79:Sig:=⟨(.pair Q0 Q11),[0,0],[],.unit,Q9,.i,fun x=>V79 x.1 x.2.1⟩
def A_V79:Cfg:=mkCfg tab [(45,S_V45),(67,S_V77)] []
theorem run_V79 (N x):runF (A_V79) N Try.f20 S_V79 x=V79 x.1 x.2.1:=by kernel_rfl
theorem ok_V79:FnOk Try.prog 20∧Gx.Good Try.prog 20 S_V79:=gdR (A:=A_V79) tc Try.func20 (by kernel_rfl) (vaa ⟨ok_V45,⟨fn_V77,good_V77⟩,trivial⟩) (run_V79 big)
def vbmm (code_0:Y4):Z1 :=
  (V0 code_0).bind fun rq1 =>
  cond rq1.1
  (some (true,(())))
  ((V21 code_0).bind fun rq2 =>
  (V39 rq2.1).bind fun rq3 =>
  (V50 big rq2.1).bind fun rq4 =>
  cond (((((),rq3.1.2).2).1) != ((((),rq4.1.2).2).1))
  (some (false,(())))
  ((V51 big rq3.1.1 rq4.1.1).bind fun rq5 =>
  cond (!rq5.1)
  (some (false,(())))
  ((V54 rq2.1).bind fun rq6 =>
  (V55 big rq2.1).bind fun rq7 =>
  cond (((((),rq6.1.2).2).1) != ((((),rq7.1.2).2).1))
  (some (false,(())))
  ((V51 big rq6.1.1 rq7.1.1).bind fun rq8 =>
  cond (!rq8.1)
  (some (false,(())))
  ((V57 rq2.1).bind fun rq9 =>
  (V59 rq2.1).bind fun rq10 =>
  cond (rq9.1.1 != rq10.1.1)
  (some (false,(())))
  (cond (rq9.1.2.1 != rq10.1.2.1)
  (some (false,(())))
  (cond rq9.1.2.1
  (cond (rq9.1.1 == ((((),rq3.1.2).2).1))
  (some (false,(())))
  ((V61 rq2.1).bind fun rq11 =>
  cond (rq11.1.2.1 != rq9.1.2.1)
  (some (false,(())))
  (cond rq9.1.2.1
  (cond (!((((),rq3.1.2).2).1))
  (cond (rq11.1.1 != (!((((),rq6.1.2).2).1)))
  (some (false,(())))
  ((V62 rq2.1).bind fun rq12 =>
  (V63 rq2.1).bind fun rq13 =>
  cond (rq12.1.2.1 != ((((),rq13.1.2).2).1))
  (some (false,(())))
  (cond (rq12.1.2.1 != ((((),rq3.1.2).2).1))
  (some (false,(())))
  ((V51 big rq12.1.1 rq13.1.1).bind fun rq14 =>
  cond (!rq14.1)
  (some (false,(())))
  (cond ((((),rq3.1.2).2).1)
  ((V66 big (5:Int) [((0:Int),((1:Int),())),((1:Int),((2:Int),())),((2:Int),((4:Int),())),((0:Int),((3:Int),())),((3:Int),((4:Int),()))]).bind fun rq15 =>
  (V72 rq2.1 rq15.1.1).bind fun rq16 =>
  cond (!((((),rq15.1.2).2).1))
  (some (false,(())))
  (cond (!rq16.1.2.1)
  (some (false,(())))
  ((V51 big rq16.1.1 rq3.1.1).bind fun rq17 =>
  cond (!rq17.1)
  (some (false,(())))
  (cond ((((),rq6.1.2).2).1)
  ((V66 big (5:Int) [((0:Int),((1:Int),())),((0:Int),((2:Int),())),((0:Int),((3:Int),())),((1:Int),((4:Int),())),((2:Int),((4:Int),())),((3:Int),((4:Int),()))]).bind fun rq18 =>
  (V72 rq2.1 rq18.1.1).bind fun rq19 =>
  cond (!((((),rq18.1.2).2).1))
  (some (false,(())))
  (cond (!rq19.1.2.1)
  (some (false,(())))
  ((V51 big rq19.1.1 rq6.1.1).bind fun rq20 =>
  cond (!rq20.1)
  (some (false,(())))
  ((V75 big code_0).bind fun rq21 =>
  (V72 rq21.1.1 rq21.1.2.1).bind fun rq22 =>
  (V79 rq21.1.1 rq21.1.2.1).bind fun rq23 =>
  cond (rq22.1.2.1 == rq23.1.2.1)
  ((V51 big rq22.1.1 rq23.1.1).bind fun rq24 =>
  some (rq24.1,(())))
  (some (false,(())))))))
  ((V75 big code_0).bind fun rq25 =>
  (V72 rq25.1.1 rq25.1.2.1).bind fun rq26 =>
  (V79 rq25.1.1 rq25.1.2.1).bind fun rq27 =>
  cond (rq26.1.2.1 == rq27.1.2.1)
  ((V51 big rq26.1.1 rq27.1.1).bind fun rq28 =>
  some (rq28.1,(())))
  (some (false,(()))))))))
  (cond ((((),rq6.1.2).2).1)
  ((V66 big (5:Int) [((0:Int),((1:Int),())),((0:Int),((2:Int),())),((0:Int),((3:Int),())),((1:Int),((4:Int),())),((2:Int),((4:Int),())),((3:Int),((4:Int),()))]).bind fun rq29 =>
  (V72 rq2.1 rq29.1.1).bind fun rq30 =>
  cond (!((((),rq29.1.2).2).1))
  (some (false,(())))
  (cond (!rq30.1.2.1)
  (some (false,(())))
  ((V51 big rq30.1.1 rq6.1.1).bind fun rq31 =>
  cond (!rq31.1)
  (some (false,(())))
  ((V75 big code_0).bind fun rq32 =>
  (V72 rq32.1.1 rq32.1.2.1).bind fun rq33 =>
  (V79 rq32.1.1 rq32.1.2.1).bind fun rq34 =>
  cond (rq33.1.2.1 == rq34.1.2.1)
  ((V51 big rq33.1.1 rq34.1.1).bind fun rq35 =>
  some (rq35.1,(())))
  (some (false,(())))))))
  ((V75 big code_0).bind fun rq36 =>
  (V72 rq36.1.1 rq36.1.2.1).bind fun rq37 =>
  (V79 rq36.1.1 rq36.1.2.1).bind fun rq38 =>
  cond (rq37.1.2.1 == rq38.1.2.1)
  ((V51 big rq37.1.1 rq38.1.1).bind fun rq39 =>
  some (rq39.1,(())))
  (some (false,(()))))))))))
  (cond (rq11.1.1 != false)
  (some (false,(())))
  ((V62 rq2.1).bind fun rq40 =>
  (V63 rq2.1).bind fun rq41 =>
  cond (rq40.1.2.1 != ((((),rq41.1.2).2).1))
  (some (false,(())))
  (cond (rq40.1.2.1 != ((((),rq3.1.2).2).1))
  (some (false,(())))
  ((V51 big rq40.1.1 rq41.1.1).bind fun rq42 =>
  cond (!rq42.1)
  (some (false,(())))
  (cond ((((),rq3.1.2).2).1)
  ((V66 big (5:Int) [((0:Int),((1:Int),())),((1:Int),((2:Int),())),((2:Int),((4:Int),())),((0:Int),((3:Int),())),((3:Int),((4:Int),()))]).bind fun rq43 =>
  (V72 rq2.1 rq43.1.1).bind fun rq44 =>
  cond (!((((),rq43.1.2).2).1))
  (some (false,(())))
  (cond (!rq44.1.2.1)
  (some (false,(())))
  ((V51 big rq44.1.1 rq3.1.1).bind fun rq45 =>
  cond (!rq45.1)
  (some (false,(())))
  (cond ((((),rq6.1.2).2).1)
  ((V66 big (5:Int) [((0:Int),((1:Int),())),((0:Int),((2:Int),())),((0:Int),((3:Int),())),((1:Int),((4:Int),())),((2:Int),((4:Int),())),((3:Int),((4:Int),()))]).bind fun rq46 =>
  (V72 rq2.1 rq46.1.1).bind fun rq47 =>
  cond (!((((),rq46.1.2).2).1))
  (some (false,(())))
  (cond (!rq47.1.2.1)
  (some (false,(())))
  ((V51 big rq47.1.1 rq6.1.1).bind fun rq48 =>
  cond (!rq48.1)
  (some (false,(())))
  ((V75 big code_0).bind fun rq49 =>
  (V72 rq49.1.1 rq49.1.2.1).bind fun rq50 =>
  (V79 rq49.1.1 rq49.1.2.1).bind fun rq51 =>
  cond (rq50.1.2.1 == rq51.1.2.1)
  ((V51 big rq50.1.1 rq51.1.1).bind fun rq52 =>
  some (rq52.1,(())))
  (some (false,(())))))))
  ((V75 big code_0).bind fun rq53 =>
  (V72 rq53.1.1 rq53.1.2.1).bind fun rq54 =>
  (V79 rq53.1.1 rq53.1.2.1).bind fun rq55 =>
  cond (rq54.1.2.1 == rq55.1.2.1)
  ((V51 big rq54.1.1 rq55.1.1).bind fun rq56 =>
  some (rq56.1,(())))
  (some (false,(()))))))))
  (cond ((((),rq6.1.2).2).1)
  ((V66 big (5:Int) [((0:Int),((1:Int),())),((0:Int),((2:Int),())),((0:Int),((3:Int),())),((1:Int),((4:Int),())),((2:Int),((4:Int),())),((3:Int),((4:Int),()))]).bind fun rq57 =>
  (V72 rq2.1 rq57.1.1).bind fun rq58 =>
  cond (!((((),rq57.1.2).2).1))
  (some (false,(())))
  (cond (!rq58.1.2.1)
  (some (false,(())))
  ((V51 big rq58.1.1 rq6.1.1).bind fun rq59 =>
  cond (!rq59.1)
  (some (false,(())))
  ((V75 big code_0).bind fun rq60 =>
  (V72 rq60.1.1 rq60.1.2.1).bind fun rq61 =>
  (V79 rq60.1.1 rq60.1.2.1).bind fun rq62 =>
  cond (rq61.1.2.1 == rq62.1.2.1)
  ((V51 big rq61.1.1 rq62.1.1).bind fun rq63 =>
  some (rq63.1,(())))
  (some (false,(())))))))
  ((V75 big code_0).bind fun rq64 =>
  (V72 rq64.1.1 rq64.1.2.1).bind fun rq65 =>
  (V79 rq64.1.1 rq64.1.2.1).bind fun rq66 =>
  cond (rq65.1.2.1 == rq66.1.2.1)
  ((V51 big rq65.1.1 rq66.1.1).bind fun rq67 =>
  some (rq67.1,(())))
  (some (false,(())))))))))))
  ((V62 rq2.1).bind fun rq68 =>
  (V63 rq2.1).bind fun rq69 =>
  cond (rq68.1.2.1 != ((((),rq69.1.2).2).1))
  (some (false,(())))
  (cond (rq68.1.2.1 != ((((),rq3.1.2).2).1))
  (some (false,(())))
  ((V51 big rq68.1.1 rq69.1.1).bind fun rq70 =>
  cond (!rq70.1)
  (some (false,(())))
  (cond ((((),rq3.1.2).2).1)
  ((V66 big (5:Int) [((0:Int),((1:Int),())),((1:Int),((2:Int),())),((2:Int),((4:Int),())),((0:Int),((3:Int),())),((3:Int),((4:Int),()))]).bind fun rq71 =>
  (V72 rq2.1 rq71.1.1).bind fun rq72 =>
  cond (!((((),rq71.1.2).2).1))
  (some (false,(())))
  (cond (!rq72.1.2.1)
  (some (false,(())))
  ((V51 big rq72.1.1 rq3.1.1).bind fun rq73 =>
  cond (!rq73.1)
  (some (false,(())))
  (cond ((((),rq6.1.2).2).1)
  ((V66 big (5:Int) [((0:Int),((1:Int),())),((0:Int),((2:Int),())),((0:Int),((3:Int),())),((1:Int),((4:Int),())),((2:Int),((4:Int),())),((3:Int),((4:Int),()))]).bind fun rq74 =>
  (V72 rq2.1 rq74.1.1).bind fun rq75 =>
  cond (!((((),rq74.1.2).2).1))
  (some (false,(())))
  (cond (!rq75.1.2.1)
  (some (false,(())))
  ((V51 big rq75.1.1 rq6.1.1).bind fun rq76 =>
  cond (!rq76.1)
  (some (false,(())))
  ((V75 big code_0).bind fun rq77 =>
  (V72 rq77.1.1 rq77.1.2.1).bind fun rq78 =>
  (V79 rq77.1.1 rq77.1.2.1).bind fun rq79 =>
  cond (rq78.1.2.1 == rq79.1.2.1)
  ((V51 big rq78.1.1 rq79.1.1).bind fun rq80 =>
  some (rq80.1,(())))
  (some (false,(())))))))
  ((V75 big code_0).bind fun rq81 =>
  (V72 rq81.1.1 rq81.1.2.1).bind fun rq82 =>
  (V79 rq81.1.1 rq81.1.2.1).bind fun rq83 =>
  cond (rq82.1.2.1 == rq83.1.2.1)
  ((V51 big rq82.1.1 rq83.1.1).bind fun rq84 =>
  some (rq84.1,(())))
  (some (false,(()))))))))
  (cond ((((),rq6.1.2).2).1)
  ((V66 big (5:Int) [((0:Int),((1:Int),())),((0:Int),((2:Int),())),((0:Int),((3:Int),())),((1:Int),((4:Int),())),((2:Int),((4:Int),())),((3:Int),((4:Int),()))]).bind fun rq85 =>
  (V72 rq2.1 rq85.1.1).bind fun rq86 =>
  cond (!((((),rq85.1.2).2).1))
  (some (false,(())))
  (cond (!rq86.1.2.1)
  (some (false,(())))
  ((V51 big rq86.1.1 rq6.1.1).bind fun rq87 =>
  cond (!rq87.1)
  (some (false,(())))
  ((V75 big code_0).bind fun rq88 =>
  (V72 rq88.1.1 rq88.1.2.1).bind fun rq89 =>
  (V79 rq88.1.1 rq88.1.2.1).bind fun rq90 =>
  cond (rq89.1.2.1 == rq90.1.2.1)
  ((V51 big rq89.1.1 rq90.1.1).bind fun rq91 =>
  some (rq91.1,(())))
  (some (false,(())))))))
  ((V75 big code_0).bind fun rq92 =>
  (V72 rq92.1.1 rq92.1.2.1).bind fun rq93 =>
  (V79 rq92.1.1 rq92.1.2.1).bind fun rq94 =>
  cond (rq93.1.2.1 == rq94.1.2.1)
  ((V51 big rq93.1.1 rq94.1.1).bind fun rq95 =>
  some (rq95.1,(())))
  (some (false,(()))))))))))))
  ((V61 rq2.1).bind fun rq96 =>
  cond (rq96.1.2.1 != rq9.1.2.1)
  (some (false,(())))
  (cond rq9.1.2.1
  (cond (!((((),rq3.1.2).2).1))
  (cond (rq96.1.1 != (!((((),rq6.1.2).2).1)))
  (some (false,(())))
  ((V62 rq2.1).bind fun rq97 =>
  (V63 rq2.1).bind fun rq98 =>
  cond (rq97.1.2.1 != ((((),rq98.1.2).2).1))
  (some (false,(())))
  (cond (rq97.1.2.1 != ((((),rq3.1.2).2).1))
  (some (false,(())))
  ((V51 big rq97.1.1 rq98.1.1).bind fun rq99 =>
  cond (!rq99.1)
  (some (false,(())))
  (cond ((((),rq3.1.2).2).1)
  ((V66 big (5:Int) [((0:Int),((1:Int),())),((1:Int),((2:Int),())),((2:Int),((4:Int),())),((0:Int),((3:Int),())),((3:Int),((4:Int),()))]).bind fun rq100 =>
  (V72 rq2.1 rq100.1.1).bind fun rq101 =>
  cond (!((((),rq100.1.2).2).1))
  (some (false,(())))
  (cond (!rq101.1.2.1)
  (some (false,(())))
  ((V51 big rq101.1.1 rq3.1.1).bind fun rq102 =>
  cond (!rq102.1)
  (some (false,(())))
  (cond ((((),rq6.1.2).2).1)
  ((V66 big (5:Int) [((0:Int),((1:Int),())),((0:Int),((2:Int),())),((0:Int),((3:Int),())),((1:Int),((4:Int),())),((2:Int),((4:Int),())),((3:Int),((4:Int),()))]).bind fun rq103 =>
  (V72 rq2.1 rq103.1.1).bind fun rq104 =>
  cond (!((((),rq103.1.2).2).1))
  (some (false,(())))
  (cond (!rq104.1.2.1)
  (some (false,(())))
  ((V51 big rq104.1.1 rq6.1.1).bind fun rq105 =>
  cond (!rq105.1)
  (some (false,(())))
  ((V75 big code_0).bind fun rq106 =>
  (V72 rq106.1.1 rq106.1.2.1).bind fun rq107 =>
  (V79 rq106.1.1 rq106.1.2.1).bind fun rq108 =>
  cond (rq107.1.2.1 == rq108.1.2.1)
  ((V51 big rq107.1.1 rq108.1.1).bind fun rq109 =>
  some (rq109.1,(())))
  (some (false,(())))))))
  ((V75 big code_0).bind fun rq110 =>
  (V72 rq110.1.1 rq110.1.2.1).bind fun rq111 =>
  (V79 rq110.1.1 rq110.1.2.1).bind fun rq112 =>
  cond (rq111.1.2.1 == rq112.1.2.1)
  ((V51 big rq111.1.1 rq112.1.1).bind fun rq113 =>
  some (rq113.1,(())))
  (some (false,(()))))))))
  (cond ((((),rq6.1.2).2).1)
  ((V66 big (5:Int) [((0:Int),((1:Int),())),((0:Int),((2:Int),())),((0:Int),((3:Int),())),((1:Int),((4:Int),())),((2:Int),((4:Int),())),((3:Int),((4:Int),()))]).bind fun rq114 =>
  (V72 rq2.1 rq114.1.1).bind fun rq115 =>
  cond (!((((),rq114.1.2).2).1))
  (some (false,(())))
  (cond (!rq115.1.2.1)
  (some (false,(())))
  ((V51 big rq115.1.1 rq6.1.1).bind fun rq116 =>
  cond (!rq116.1)
  (some (false,(())))
  ((V75 big code_0).bind fun rq117 =>
  (V72 rq117.1.1 rq117.1.2.1).bind fun rq118 =>
  (V79 rq117.1.1 rq117.1.2.1).bind fun rq119 =>
  cond (rq118.1.2.1 == rq119.1.2.1)
  ((V51 big rq118.1.1 rq119.1.1).bind fun rq120 =>
  some (rq120.1,(())))
  (some (false,(())))))))
  ((V75 big code_0).bind fun rq121 =>
  (V72 rq121.1.1 rq121.1.2.1).bind fun rq122 =>
  (V79 rq121.1.1 rq121.1.2.1).bind fun rq123 =>
  cond (rq122.1.2.1 == rq123.1.2.1)
  ((V51 big rq122.1.1 rq123.1.1).bind fun rq124 =>
  some (rq124.1,(())))
  (some (false,(()))))))))))
  (cond (rq96.1.1 != false)
  (some (false,(())))
  ((V62 rq2.1).bind fun rq125 =>
  (V63 rq2.1).bind fun rq126 =>
  cond (rq125.1.2.1 != ((((),rq126.1.2).2).1))
  (some (false,(())))
  (cond (rq125.1.2.1 != ((((),rq3.1.2).2).1))
  (some (false,(())))
  ((V51 big rq125.1.1 rq126.1.1).bind fun rq127 =>
  cond (!rq127.1)
  (some (false,(())))
  (cond ((((),rq3.1.2).2).1)
  ((V66 big (5:Int) [((0:Int),((1:Int),())),((1:Int),((2:Int),())),((2:Int),((4:Int),())),((0:Int),((3:Int),())),((3:Int),((4:Int),()))]).bind fun rq128 =>
  (V72 rq2.1 rq128.1.1).bind fun rq129 =>
  cond (!((((),rq128.1.2).2).1))
  (some (false,(())))
  (cond (!rq129.1.2.1)
  (some (false,(())))
  ((V51 big rq129.1.1 rq3.1.1).bind fun rq130 =>
  cond (!rq130.1)
  (some (false,(())))
  (cond ((((),rq6.1.2).2).1)
  ((V66 big (5:Int) [((0:Int),((1:Int),())),((0:Int),((2:Int),())),((0:Int),((3:Int),())),((1:Int),((4:Int),())),((2:Int),((4:Int),())),((3:Int),((4:Int),()))]).bind fun rq131 =>
  (V72 rq2.1 rq131.1.1).bind fun rq132 =>
  cond (!((((),rq131.1.2).2).1))
  (some (false,(())))
  (cond (!rq132.1.2.1)
  (some (false,(())))
  ((V51 big rq132.1.1 rq6.1.1).bind fun rq133 =>
  cond (!rq133.1)
  (some (false,(())))
  ((V75 big code_0).bind fun rq134 =>
  (V72 rq134.1.1 rq134.1.2.1).bind fun rq135 =>
  (V79 rq134.1.1 rq134.1.2.1).bind fun rq136 =>
  cond (rq135.1.2.1 == rq136.1.2.1)
  ((V51 big rq135.1.1 rq136.1.1).bind fun rq137 =>
  some (rq137.1,(())))
  (some (false,(())))))))
  ((V75 big code_0).bind fun rq138 =>
  (V72 rq138.1.1 rq138.1.2.1).bind fun rq139 =>
  (V79 rq138.1.1 rq138.1.2.1).bind fun rq140 =>
  cond (rq139.1.2.1 == rq140.1.2.1)
  ((V51 big rq139.1.1 rq140.1.1).bind fun rq141 =>
  some (rq141.1,(())))
  (some (false,(()))))))))
  (cond ((((),rq6.1.2).2).1)
  ((V66 big (5:Int) [((0:Int),((1:Int),())),((0:Int),((2:Int),())),((0:Int),((3:Int),())),((1:Int),((4:Int),())),((2:Int),((4:Int),())),((3:Int),((4:Int),()))]).bind fun rq142 =>
  (V72 rq2.1 rq142.1.1).bind fun rq143 =>
  cond (!((((),rq142.1.2).2).1))
  (some (false,(())))
  (cond (!rq143.1.2.1)
  (some (false,(())))
  ((V51 big rq143.1.1 rq6.1.1).bind fun rq144 =>
  cond (!rq144.1)
  (some (false,(())))
  ((V75 big code_0).bind fun rq145 =>
  (V72 rq145.1.1 rq145.1.2.1).bind fun rq146 =>
  (V79 rq145.1.1 rq145.1.2.1).bind fun rq147 =>
  cond (rq146.1.2.1 == rq147.1.2.1)
  ((V51 big rq146.1.1 rq147.1.1).bind fun rq148 =>
  some (rq148.1,(())))
  (some (false,(())))))))
  ((V75 big code_0).bind fun rq149 =>
  (V72 rq149.1.1 rq149.1.2.1).bind fun rq150 =>
  (V79 rq149.1.1 rq149.1.2.1).bind fun rq151 =>
  cond (rq150.1.2.1 == rq151.1.2.1)
  ((V51 big rq150.1.1 rq151.1.1).bind fun rq152 =>
  some (rq152.1,(())))
  (some (false,(())))))))))))
  ((V62 rq2.1).bind fun rq153 =>
  (V63 rq2.1).bind fun rq154 =>
  cond (rq153.1.2.1 != ((((),rq154.1.2).2).1))
  (some (false,(())))
  (cond (rq153.1.2.1 != ((((),rq3.1.2).2).1))
  (some (false,(())))
  ((V51 big rq153.1.1 rq154.1.1).bind fun rq155 =>
  cond (!rq155.1)
  (some (false,(())))
  (cond ((((),rq3.1.2).2).1)
  ((V66 big (5:Int) [((0:Int),((1:Int),())),((1:Int),((2:Int),())),((2:Int),((4:Int),())),((0:Int),((3:Int),())),((3:Int),((4:Int),()))]).bind fun rq156 =>
  (V72 rq2.1 rq156.1.1).bind fun rq157 =>
  cond (!((((),rq156.1.2).2).1))
  (some (false,(())))
  (cond (!rq157.1.2.1)
  (some (false,(())))
  ((V51 big rq157.1.1 rq3.1.1).bind fun rq158 =>
  cond (!rq158.1)
  (some (false,(())))
  (cond ((((),rq6.1.2).2).1)
  ((V66 big (5:Int) [((0:Int),((1:Int),())),((0:Int),((2:Int),())),((0:Int),((3:Int),())),((1:Int),((4:Int),())),((2:Int),((4:Int),())),((3:Int),((4:Int),()))]).bind fun rq159 =>
  (V72 rq2.1 rq159.1.1).bind fun rq160 =>
  cond (!((((),rq159.1.2).2).1))
  (some (false,(())))
  (cond (!rq160.1.2.1)
  (some (false,(())))
  ((V51 big rq160.1.1 rq6.1.1).bind fun rq161 =>
  cond (!rq161.1)
  (some (false,(())))
  ((V75 big code_0).bind fun rq162 =>
  (V72 rq162.1.1 rq162.1.2.1).bind fun rq163 =>
  (V79 rq162.1.1 rq162.1.2.1).bind fun rq164 =>
  cond (rq163.1.2.1 == rq164.1.2.1)
  ((V51 big rq163.1.1 rq164.1.1).bind fun rq165 =>
  some (rq165.1,(())))
  (some (false,(())))))))
  ((V75 big code_0).bind fun rq166 =>
  (V72 rq166.1.1 rq166.1.2.1).bind fun rq167 =>
  (V79 rq166.1.1 rq166.1.2.1).bind fun rq168 =>
  cond (rq167.1.2.1 == rq168.1.2.1)
  ((V51 big rq167.1.1 rq168.1.1).bind fun rq169 =>
  some (rq169.1,(())))
  (some (false,(()))))))))
  (cond ((((),rq6.1.2).2).1)
  ((V66 big (5:Int) [((0:Int),((1:Int),())),((0:Int),((2:Int),())),((0:Int),((3:Int),())),((1:Int),((4:Int),())),((2:Int),((4:Int),())),((3:Int),((4:Int),()))]).bind fun rq170 =>
  (V72 rq2.1 rq170.1.1).bind fun rq171 =>
  cond (!((((),rq170.1.2).2).1))
  (some (false,(())))
  (cond (!rq171.1.2.1)
  (some (false,(())))
  ((V51 big rq171.1.1 rq6.1.1).bind fun rq172 =>
  cond (!rq172.1)
  (some (false,(())))
  ((V75 big code_0).bind fun rq173 =>
  (V72 rq173.1.1 rq173.1.2.1).bind fun rq174 =>
  (V79 rq173.1.1 rq173.1.2.1).bind fun rq175 =>
  cond (rq174.1.2.1 == rq175.1.2.1)
  ((V51 big rq174.1.1 rq175.1.1).bind fun rq176 =>
  some (rq176.1,(())))
  (some (false,(())))))))
  ((V75 big code_0).bind fun rq177 =>
  (V72 rq177.1.1 rq177.1.2.1).bind fun rq178 =>
  (V79 rq177.1.1 rq177.1.2.1).bind fun rq179 =>
  cond (rq178.1.2.1 == rq179.1.2.1)
  ((V51 big rq178.1.1 rq179.1.1).bind fun rq180 =>
  some (rq180.1,(())))
  (some (false,(()))))))))))))))))))
def laws_FnPentagons (code_0:Y4):Z1:=vbmm code_0
def S_laws_FnPentagons:Sig:=⟨(.pair Q15 .unit),[0],[],.unit,.bool,.i,fun x=>laws_FnPentagons x.1⟩
def vmp (code0:Y4):Z1 :=
  (V75 big code0).bind fun rq52 =>
  (V72 rq52.1.1 rq52.1.2.1).bind fun rq53 =>
  (V79 rq52.1.1 rq52.1.2.1).bind fun rq54 =>
  cond (rq53.1.2.1 == rq54.1.2.1)
  ((V51 big rq53.1.1 rq54.1.1).bind fun rq55 =>
  some (rq55.1,(())))
  (some (false,(())))
def vml (J33:Y4→Z1) (code0:Y4) (p3:Y2) (three8:Y4) (fine9:Bool):Z1 :=
  cond fine9
  ((V66 big (5:Int) [((0:Int),((1:Int),())),((0:Int),((2:Int),())),((0:Int),((3:Int),())),((1:Int),((4:Int),())),((2:Int),((4:Int),())),((3:Int),((4:Int),()))]).bind fun rq49 =>
  (V72 p3 rq49.1.1).bind fun rq50 =>
  cond (!((((),rq49.1.2).2).1))
  (some (false,(())))
  (cond (!rq50.1.2.1)
  (some (false,(())))
  ((V51 big rq50.1.1 three8).bind fun rq51 =>
  cond (!rq51.1)
  (some (false,(())))
  (J33 code0))))
  (J33 code0)
def vayl (J28:Y4→Y2→Y4→Bool→Z1) (code_0:Y4):Z1 :=
  (V0 code_0).bind fun rq1 =>
  cond rq1.1
  (some (true,(())))
  ((V21 code_0).bind fun rq2 =>
  (V39 rq2.1).bind fun rq3 =>
  (V50 big rq2.1).bind fun rq4 =>
  cond (((((),rq3.1.2).2).1) != ((((),rq4.1.2).2).1))
  (some (false,(())))
  ((V51 big rq3.1.1 rq4.1.1).bind fun rq5 =>
  cond (!rq5.1)
  (some (false,(())))
  ((V54 rq2.1).bind fun rq6 =>
  (V55 big rq2.1).bind fun rq7 =>
  cond (((((),rq6.1.2).2).1) != ((((),rq7.1.2).2).1))
  (some (false,(())))
  ((V51 big rq6.1.1 rq7.1.1).bind fun rq8 =>
  cond (!rq8.1)
  (some (false,(())))
  ((V57 rq2.1).bind fun rq9 =>
  (V59 rq2.1).bind fun rq10 =>
  cond (rq9.1.1 != rq10.1.1)
  (some (false,(())))
  (cond (rq9.1.2.1 != rq10.1.2.1)
  (some (false,(())))
  (cond rq9.1.2.1
  (cond (rq9.1.1 == ((((),rq3.1.2).2).1))
  (some (false,(())))
  ((V61 rq2.1).bind fun rq11 =>
  cond (rq11.1.2.1 != rq9.1.2.1)
  (some (false,(())))
  (cond rq9.1.2.1
  (cond (!((((),rq3.1.2).2).1))
  (cond (rq11.1.1 != (!((((),rq6.1.2).2).1)))
  (some (false,(())))
  ((V62 rq2.1).bind fun rq12 =>
  (V63 rq2.1).bind fun rq13 =>
  cond (rq12.1.2.1 != ((((),rq13.1.2).2).1))
  (some (false,(())))
  (cond (rq12.1.2.1 != ((((),rq3.1.2).2).1))
  (some (false,(())))
  ((V51 big rq12.1.1 rq13.1.1).bind fun rq14 =>
  cond (!rq14.1)
  (some (false,(())))
  (cond ((((),rq3.1.2).2).1)
  ((V66 big (5:Int) [((0:Int),((1:Int),())),((1:Int),((2:Int),())),((2:Int),((4:Int),())),((0:Int),((3:Int),())),((3:Int),((4:Int),()))]).bind fun rq15 =>
  (V72 rq2.1 rq15.1.1).bind fun rq16 =>
  cond (!((((),rq15.1.2).2).1))
  (some (false,(())))
  (cond (!rq16.1.2.1)
  (some (false,(())))
  ((V51 big rq16.1.1 rq3.1.1).bind fun rq17 =>
  cond (!rq17.1)
  (some (false,(())))
  (J28 code_0 rq2.1 rq6.1.1 ((((),rq6.1.2).2).1)))))
  (J28 code_0 rq2.1 rq6.1.1 ((((),rq6.1.2).2).1)))))))
  (cond (rq11.1.1 != false)
  (some (false,(())))
  ((V62 rq2.1).bind fun rq18 =>
  (V63 rq2.1).bind fun rq19 =>
  cond (rq18.1.2.1 != ((((),rq19.1.2).2).1))
  (some (false,(())))
  (cond (rq18.1.2.1 != ((((),rq3.1.2).2).1))
  (some (false,(())))
  ((V51 big rq18.1.1 rq19.1.1).bind fun rq20 =>
  cond (!rq20.1)
  (some (false,(())))
  (cond ((((),rq3.1.2).2).1)
  ((V66 big (5:Int) [((0:Int),((1:Int),())),((1:Int),((2:Int),())),((2:Int),((4:Int),())),((0:Int),((3:Int),())),((3:Int),((4:Int),()))]).bind fun rq21 =>
  (V72 rq2.1 rq21.1.1).bind fun rq22 =>
  cond (!((((),rq21.1.2).2).1))
  (some (false,(())))
  (cond (!rq22.1.2.1)
  (some (false,(())))
  ((V51 big rq22.1.1 rq3.1.1).bind fun rq23 =>
  cond (!rq23.1)
  (some (false,(())))
  (J28 code_0 rq2.1 rq6.1.1 ((((),rq6.1.2).2).1)))))
  (J28 code_0 rq2.1 rq6.1.1 ((((),rq6.1.2).2).1))))))))
  ((V62 rq2.1).bind fun rq24 =>
  (V63 rq2.1).bind fun rq25 =>
  cond (rq24.1.2.1 != ((((),rq25.1.2).2).1))
  (some (false,(())))
  (cond (rq24.1.2.1 != ((((),rq3.1.2).2).1))
  (some (false,(())))
  ((V51 big rq24.1.1 rq25.1.1).bind fun rq26 =>
  cond (!rq26.1)
  (some (false,(())))
  (cond ((((),rq3.1.2).2).1)
  ((V66 big (5:Int) [((0:Int),((1:Int),())),((1:Int),((2:Int),())),((2:Int),((4:Int),())),((0:Int),((3:Int),())),((3:Int),((4:Int),()))]).bind fun rq27 =>
  (V72 rq2.1 rq27.1.1).bind fun rq28 =>
  cond (!((((),rq27.1.2).2).1))
  (some (false,(())))
  (cond (!rq28.1.2.1)
  (some (false,(())))
  ((V51 big rq28.1.1 rq3.1.1).bind fun rq29 =>
  cond (!rq29.1)
  (some (false,(())))
  (J28 code_0 rq2.1 rq6.1.1 ((((),rq6.1.2).2).1)))))
  (J28 code_0 rq2.1 rq6.1.1 ((((),rq6.1.2).2).1)))))))))
  ((V61 rq2.1).bind fun rq30 =>
  cond (rq30.1.2.1 != rq9.1.2.1)
  (some (false,(())))
  (cond rq9.1.2.1
  (cond (!((((),rq3.1.2).2).1))
  (cond (rq30.1.1 != (!((((),rq6.1.2).2).1)))
  (some (false,(())))
  ((V62 rq2.1).bind fun rq31 =>
  (V63 rq2.1).bind fun rq32 =>
  cond (rq31.1.2.1 != ((((),rq32.1.2).2).1))
  (some (false,(())))
  (cond (rq31.1.2.1 != ((((),rq3.1.2).2).1))
  (some (false,(())))
  ((V51 big rq31.1.1 rq32.1.1).bind fun rq33 =>
  cond (!rq33.1)
  (some (false,(())))
  (cond ((((),rq3.1.2).2).1)
  ((V66 big (5:Int) [((0:Int),((1:Int),())),((1:Int),((2:Int),())),((2:Int),((4:Int),())),((0:Int),((3:Int),())),((3:Int),((4:Int),()))]).bind fun rq34 =>
  (V72 rq2.1 rq34.1.1).bind fun rq35 =>
  cond (!((((),rq34.1.2).2).1))
  (some (false,(())))
  (cond (!rq35.1.2.1)
  (some (false,(())))
  ((V51 big rq35.1.1 rq3.1.1).bind fun rq36 =>
  cond (!rq36.1)
  (some (false,(())))
  (J28 code_0 rq2.1 rq6.1.1 ((((),rq6.1.2).2).1)))))
  (J28 code_0 rq2.1 rq6.1.1 ((((),rq6.1.2).2).1)))))))
  (cond (rq30.1.1 != false)
  (some (false,(())))
  ((V62 rq2.1).bind fun rq37 =>
  (V63 rq2.1).bind fun rq38 =>
  cond (rq37.1.2.1 != ((((),rq38.1.2).2).1))
  (some (false,(())))
  (cond (rq37.1.2.1 != ((((),rq3.1.2).2).1))
  (some (false,(())))
  ((V51 big rq37.1.1 rq38.1.1).bind fun rq39 =>
  cond (!rq39.1)
  (some (false,(())))
  (cond ((((),rq3.1.2).2).1)
  ((V66 big (5:Int) [((0:Int),((1:Int),())),((1:Int),((2:Int),())),((2:Int),((4:Int),())),((0:Int),((3:Int),())),((3:Int),((4:Int),()))]).bind fun rq40 =>
  (V72 rq2.1 rq40.1.1).bind fun rq41 =>
  cond (!((((),rq40.1.2).2).1))
  (some (false,(())))
  (cond (!rq41.1.2.1)
  (some (false,(())))
  ((V51 big rq41.1.1 rq3.1.1).bind fun rq42 =>
  cond (!rq42.1)
  (some (false,(())))
  (J28 code_0 rq2.1 rq6.1.1 ((((),rq6.1.2).2).1)))))
  (J28 code_0 rq2.1 rq6.1.1 ((((),rq6.1.2).2).1))))))))
  ((V62 rq2.1).bind fun rq43 =>
  (V63 rq2.1).bind fun rq44 =>
  cond (rq43.1.2.1 != ((((),rq44.1.2).2).1))
  (some (false,(())))
  (cond (rq43.1.2.1 != ((((),rq3.1.2).2).1))
  (some (false,(())))
  ((V51 big rq43.1.1 rq44.1.1).bind fun rq45 =>
  cond (!rq45.1)
  (some (false,(())))
  (cond ((((),rq3.1.2).2).1)
  ((V66 big (5:Int) [((0:Int),((1:Int),())),((1:Int),((2:Int),())),((2:Int),((4:Int),())),((0:Int),((3:Int),())),((3:Int),((4:Int),()))]).bind fun rq46 =>
  (V72 rq2.1 rq46.1.1).bind fun rq47 =>
  cond (!((((),rq46.1.2).2).1))
  (some (false,(())))
  (cond (!rq47.1.2.1)
  (some (false,(())))
  ((V51 big rq47.1.1 rq3.1.1).bind fun rq48 =>
  cond (!rq48.1)
  (some (false,(())))
  (J28 code_0 rq2.1 rq6.1.1 ((((),rq6.1.2).2).1)))))
  (J28 code_0 rq2.1 rq6.1.1 ((((),rq6.1.2).2).1)))))))))))))))
def vtg (N:Nat) (code0:Y4):Z1:=gate true N (vmp code0)
def vamw (N:Nat) (code0:Y4) (p3:Y2) (three8:Y4) (fine9:Bool):Z1:=gate true N (vml (vtg N) code0 p3 three8 fine9)
def vbup (N:Nat) (code_0:Y4):Z1:=vayl (vamw N) code_0
def A_Vx0_c:Cfg:=mkCfg tab [(5,S_V0),(6,S_V21),(7,S_V39),(8,S_V50),(9,S_V51),(10,S_V54),(11,S_V55),(12,S_V57),(13,S_V59),(14,S_V61),(15,S_V62),(16,S_V63),(17,S_V66),(18,S_V72),(19,S_V75),(20,S_V79)] [(57,([.as Q15 .i,.drop,.drop,.as Q4 P5]++dr 4 [.as Q7 P5,.as .bool .i])),(67,[.as Q15 .i]),(500028,[]),(500033,[])]
noncomputable abbrev vaxp:Ex→St→Z1:=finish (A_Vx0_c) S_laws_FnPentagons Try.f3.results.toList
noncomputable abbrev vaae (N:Nat):Ex→St→Z1:=vaxp
noncomputable def vant (N:Nat) (code0:Y4) (p3:Y2) (three8:Y4) (fine9:Bool):Z1:=gated true N (run (A_Vx0_c) N (codeAt Try.f3 [1,1,1,1,1,1,1,1,1,1,1,1,1])) (([.val Q15 .i code0,.u,.u,W2 p3]++ud 4 [W3 three8,.val .bool .i fine9])++us 223) (vaae N)
noncomputable abbrev vagl (N:Nat):Ex→St→Z1:=vaxp
noncomputable def vsj (N:Nat) (code0:Y4):Z1:=gated true N (run (A_Vx0_c) N (codeAt Try.f3 [1,1,1,1,1,1,1,1,1,1,1,1,1,1])) ([.val Q15 .i code0]++us 232) (vagl N)
theorem vbco (N:Nat) (code0:Y4):run (A_Vx0_c) N (codeAt Try.f3 [1,1,1,1,1,1,1,1,1,1,1,1,1,1]) ([.val Q15 .i code0]++us 232) (vagl N)=vmp code0:=by kernel_rfl
theorem vaxe (N:Nat):vsj N=vtg N:=by
 funext code0
 exact congrArg (gate true N) ((vbco N code0).trans (show vmp code0=vmp code0 from rfl))
theorem vbap (N:Nat) (code0:Y4) (p3:Y2) (three8:Y4) (fine9:Bool):run (A_Vx0_c) N (codeAt Try.f3 [1,1,1,1,1,1,1,1,1,1,1,1,1]) (([.val Q15 .i code0,.u,.u,W2 p3]++ud 4 [W3 three8,.val .bool .i fine9])++us 223) (vaae N)=vml (vsj N) code0 p3 three8 fine9:=by kernel_rfl
theorem vawl (N:Nat):vant N=vamw N:=by
 funext code0 p3 three8 fine9
 exact congrArg (gate true N) ((vbap N code0 p3 three8 fine9).trans (show vml (vsj N) code0 p3 three8 fine9=vml (vtg N) code0 p3 three8 fine9 from by rw[vaxe N]))
theorem run_Vx0_c (N x):runF (A_Vx0_c) N Try.f3 S_laws_FnPentagons x=vbup N x.1:=(show _=(vayl (vant N) x.1) by kernel_rfl).trans (by rw[vawl N];rfl)
theorem run_laws_FnPentagons (x:(S_laws_FnPentagons).a.den):runF (A_Vx0_c) big Try.f3 S_laws_FnPentagons x=laws_FnPentagons x.1:=(run_Vx0_c big x).trans (by kernel_rfl)
theorem ok_laws_FnPentagons:FnOk Try.prog 3∧Gx.Good Try.prog 3 S_laws_FnPentagons:=gdR (A:=A_Vx0_c) tc Try.func3 (by kernel_rfl) (vaa ⟨ok_V0,ok_V21,ok_V39,ok_V50,ok_V51,ok_V54,ok_V55,ok_V57,ok_V59,ok_V61,ok_V62,ok_V63,ok_V66,ok_V72,ok_V75,ok_V79,trivial⟩) run_laws_FnPentagons
theorem good_laws_FnPentagons:Gx.Good Try.prog 3 S_laws_FnPentagons:=ok_laws_FnPentagons.2
end Go.Proofs.Yteanfidobhpchaa
