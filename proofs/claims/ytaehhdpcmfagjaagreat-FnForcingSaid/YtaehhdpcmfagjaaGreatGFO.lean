import Derived.Test.YtaehhdpcmfagjaaGreatGFOp3
set_option maxRecDepth 100000
set_option linter.unusedVariables false
namespace Go.Proofs.YtaehhdpcmfagjaaGreat
open Go Go.Gx Go.Proofs
noncomputable section
def xee (p_0:Y2):Option ((Y7×(Bool×Unit))×Unit) :=
  (V32 p_0).bind fun rq1 =>
  cond (!rq1.1.2.1)
  (some (((0,(([]:Z21),())),false,()),(())))
  ((rq1.1.1).bind fun xq2 =>
  cond (decide (8<(xq2.1.length:Int)))
  (some (((0,(([]:Z21),())),false,()),(())))
  ((V48 rq1.1.1).bind fun rq3 =>
  some ((rq3.1,true,()),(()))))
def V114 (p_0:Y2):Option ((Y7×(Bool×Unit))×Unit):=xee p_0
def S_V114:Sig:=⟨Q18,[0],[],.unit,(.tup (.pair Q1 Q16)),(.p O23 .i),fun x=>V114 x.1⟩
def A_V114:Cfg:=mkCfg tab [(47,S_V32),(38,S_V48)] []
theorem run_V114 (N x):runF A_V114 N Tryz.f17 S_V114 x=V114 x.1:=by kernel_rfl
theorem ok_V114:OK 17 S_V114:=gdR (A:=A_V114) tc Tryz.func17 (jed ⟨ok_V32,ok_V48,trivial⟩) (run_V114 big)
def xef (p_0:Y2):Option ((Y7×(Bool×Unit))×Unit) :=
  (V65 big p_0).bind fun rq1 =>
  cond (!rq1.1)
  (some (((0,(([]:Z21),())),false,()),(())))
  (cond (decide (8<(p_0.1.length:Int)))
  (some (((0,(([]:Z21),())),false,()),(())))
  ((V68 big p_0).bind fun rq2 =>
  some ((rq2.1,true,()),(()))))
def V115 (p_0:Y2):Option ((Y7×(Bool×Unit))×Unit):=xef p_0
def S_V115:Sig:=⟨Q18,[0],[],.unit,(.tup (.pair Q1 Q16)),.i,fun x=>V115 x.1⟩
def A_V115:Cfg:=mkCfg tab [(48,S_V65),(40,S_V68)] []
theorem run_V115 (N x):runF A_V115 N Tryz.f18 S_V115 x=V115 x.1:=by kernel_rfl
theorem ok_V115:OK 18 S_V115:=gdR (A:=A_V115) tc Tryz.func18 (jed ⟨ok_V65,ok_V68,trivial⟩) (run_V115 big)
def xeg (a_0 b_1:Y6):Z0 :=
  cond (decide (a_0.1=b_1.1))
  ((V86 big a_0.2.1 b_1.2.1).bind fun rq1 =>
  some (rq1.1,(())))
  (some (false,(())))
def V116 (a_0 b_1:Y6):Z0:=xeg a_0 b_1
def S_V116:Sig:=⟨(.pair Q9 (.pair Q9 .unit)),[0,0],[],.unit,.bool,.i,fun x=>V116 x.1 x.2.1⟩
def A_V116:Cfg:=mkCfg tab [(14,S_V86)] []
theorem run_V116 (N x):runF A_V116 N Tryz.f85 S_V116 x=V116 x.1 x.2.1:=by kernel_rfl
theorem ok_V116:OK 85 S_V116:=gdR (A:=A_V116) tc Tryz.func85 (jed ⟨ok_V86,trivial⟩) (run_V116 big)
def wei (rec:T133) (k:Z0) (a0 a1:Z21) (a5:Int):Z0 :=
  cond (decide (a5<(a0.length:Int)))
  ((atI a0 a5).bind fun xq1 =>
  (atI a1 a5).bind fun xq2 =>
  (V116 xq1 xq2).bind fun rq3 =>
  cond (!rq3.1)
  (some (false,(())))
  (rec a0 a1 (IntKind.i64.wrap (a5+1))))
  (k)
def wa2:Z0 :=
  some (true,(()))
def wyp (L4:T133) (a_0 b_1:Z21):Z0 :=
  cond (decide ((a_0.length:Int)≠(b_1.length:Int)))
  (some (false,(())))
  (L4 a_0 b_1 0)
def wu4 (N:Nat) (k:Z0):=itN (fun r=>wei r k) fun _ _ _=>none
def wu3 (N:Nat):=wu4 N (wa2) N
def V117 (N:Nat) (a_0 b_1:Z21):Z0:=wyp (wu3 N) a_0 b_1
def S_V117:Sig:=⟨(.pair (.sl Q9) (.pair (.sl Q9) .unit)),[0,0],[],.unit,.bool,.i,fun x=>V117 big x.1 x.2.1⟩
def A_V117:Cfg:=mkCfg tab [(85,S_V116)] [(8,([.as (.sl Q9) .i,.as (.sl Q9) .i]++dr 3 [B0])),(17,[])]
noncomputable def weh (N n:Nat) (K:T8) (a0 a1:Z21) (a5:Int):Z0:=itr A_V117 N 8 Tryz.f49 [1,1,0,1,0,0] n (([.val (.sl Q9) .i a0,.val (.sl Q9) .i a1]++ud 3 [W0 a5])++us 21) K
noncomputable def wyq:Ex→St→Z0:=finish A_V117 S_V117 Tryz.f49.results.toList
noncomputable def w5c (kX:T1):Z0:=kX ([]++us 27)
noncomputable def w5b (kX:T1) (kO:T0):=exK wyq 0 (A_V117.shape 17) kX kO
theorem w9b (N kX kO):∀n,weh N n (w5b kX kO)=wu4 N (w5c kX) n :=
 itE rfl fun m=>by kernel_rfl
noncomputable def wnz (N:Nat):=(blockK 0 (sqK A_V117 N 17 500008 Tryz.f49 [1,1,1] wyq))
noncomputable def w5d (N:Nat) (st':St):Z0:=rn A_V117 N Tryz.f49 [1,1,1] st' wyq
theorem xnp (N):weh N N (wnz N)=wu3 N:=by
 rw[show weh N N (wnz N)=weh N N (w5b (w5d N) fun j=>(wnz N) (.exit j)) from(by funext _ _ _;exact jk7),w9b,show w5c (w5d N)=wa2 by kernel_rfl];rfl
theorem run_V117 (N x):runF A_V117 N Tryz.f49 S_V117 x=V117 N x.1 x.2.1:=(show _=(wyp (weh N N (wnz N)) x.1 x.2.1) by kernel_rfl).trans (by rw[xnp N];rfl)
theorem ok_V117:OK 49 S_V117:=gdR (A:=A_V117) tc Tryz.func49 (jed ⟨ok_V116,trivial⟩) (run_V117 big)
def xeh (a_0 b_1:Y7):Z0 :=
  cond (decide (a_0.1=b_1.1))
  ((V117 big a_0.2.1 b_1.2.1).bind fun rq1 =>
  some (rq1.1,(())))
  (some (false,(())))
def V118 (a_0 b_1:Y7):Z0:=xeh a_0 b_1
def S_V118:Sig:=⟨(.pair Q1 Q24),[0,0],[],.unit,.bool,.i,fun x=>V118 x.1 x.2.1⟩
def A_V118:Cfg:=mkCfg tab [(49,S_V117)] []
theorem run_V118 (N x):runF A_V118 N Tryz.f19 S_V118 x=V118 x.1 x.2.1:=by kernel_rfl
theorem ok_V118:OK 19 S_V118:=gdR (A:=A_V118) tc Tryz.func19 (jed ⟨ok_V117,trivial⟩) (run_V118 big)
def xei (a_0:Y7):Z3 :=
  (V95 a_0).bind fun rq1 =>
  cond (!((((),rq1.1.2).2).1))
  (some (([],false,()),(())))
  (cond (decide (60<(rq1.1.1.length:Int)))
  (some (([],false,()),(())))
  (some ((rq1.1.1,true,()),(()))))
def V119 (a_0:Y7):Z3:=xei a_0
def S_V119:Sig:=⟨Q24,[0],[],.unit,Q21,(.p O13 .i),fun x=>V119 x.1⟩
def A_V119:Cfg:=mkCfg tab [(71,S_V95)] []
theorem run_V119 (N x):runF A_V119 N Tryz.f50 S_V119 x=V119 x.1:=by kernel_rfl
theorem ok_V119:OK 50 S_V119:=gdR (A:=A_V119) tc Tryz.func50 (jed ⟨ok_V95,trivial⟩) (run_V119 big)
def xrl (rec:Y3→Y3→Int→Int→Option Y2) (k:Y3→Option Y2) (a3 a7:Y3) (a8 a9:Int):Option Y2 :=
  cond (decide (a9<a8))
  ((atI a7 a9).bind fun xq1 =>
  (V92 xq1).bind fun rq2 =>
  (appI a3 [rq2.1]).bind fun xq3 =>
  rec xq3 a7 a8 (IntKind.i64.wrap (a9+1)))
  (k a3)
def w5n (a3:Y3):Option Y2 :=
  some (a3,(()))
def xep (L3:Y3→Y3→Int→Int→Option Y2) (rows_0:Y3):Option Y2 :=
  L3 [] rows_0 (rows_0.length:Int) 0
def w5p (N:Nat) (k:Y3→Option Y2):=itN (fun r=>xrl r k) fun _ _ _ _=>none
def w5l (N:Nat):=w5p N (w5n) N
def V120 (N:Nat) (rows_0:Y3):Option Y2:=xep (w5l N) rows_0
def S_V120:Sig:=⟨Q0,[0],[],.unit,Q11,O13,fun x=>V120 big x.1⟩
def A_V120:Cfg:=mkCfg tab [(80,S_V92)] [(6,(dr 3 ([B7]++dr 3 [B4,B0,B0]))),(15,(dr 3 [B7]))]
noncomputable def weq (N n:Nat) (K:Ex→St→Option Y2) (a3 a7:Y3) (a8 a9:Int):Option Y2:=itr A_V120 N 6 Tryz.f86 [1,1,0,1,0,0] n ((ud 3 ([W7 a3]++ud 3 [W4 a7,W0 a8,W0 a9]))++us 10) K
noncomputable def wyv:Ex→St→Option Y2:=finish A_V120 S_V120 Tryz.f86.results.toList
noncomputable def w5m (kX:St→Option Y2) (a3:Y3):Option Y2:=kX ((ud 3 [W7 a3])++us 16)
noncomputable def w5k (kX:St→Option Y2) (kO:Nat→St→Option Y2):Ex→St→Option Y2:=exK wyv 0 (A_V120.shape 15) kX kO
theorem w9f (N kX kO):∀n,weq N n (w5k kX kO)=w5p N (w5m kX) n :=
 itE rfl fun m=>by kernel_rfl
noncomputable def wn1 (N:Nat):Ex→St→Option Y2:=(blockK 0 (sqK A_V120 N 15 500007 Tryz.f86 [1,1,1] wyv))
noncomputable def w5o (N:Nat) (st':St):Option Y2:=rn A_V120 N Tryz.f86 [1,1,1] st' wyv
theorem xnr (N):weq N N (wn1 N)=w5l N:=by
 rw[show weq N N (wn1 N)=weq N N (w5k (w5o N) fun j=>(wn1 N) (.exit j)) from(by funext _ _ _ _;exact jk7),w9f,show w5m (w5o N)=w5n by kernel_rfl];rfl
theorem run_V120 (N x):runF A_V120 N Tryz.f86 S_V120 x=V120 N x.1:=(show _=(xep (weq N N (wn1 N)) x.1) by kernel_rfl).trans (by rw[xnr N];rfl)
theorem ok_V120:OK 86 S_V120:=gdR (A:=A_V120) tc Tryz.func86 (jed ⟨ok_V92,trivial⟩) (run_V120 big)
def wu9 (rec:T126) (k:T11) (a0 a3:Y4) (a4 a9 a10:Int):Z2 :=
  (atI a3 a4).bind fun _ =>
  (a3[a4.toNat]?).bind fun xq4 =>
  (atI a0 xq4).bind fun xq5 =>
  (atI a0 a4).bind fun xq6 =>
  cond (decide (xq5≠xq6))
  ((atI a3 a4).bind fun _ =>
  (a3[a4.toNat]?).bind fun xq7 =>
  (atI a3 a4).bind fun _ =>
  (a3[a4.toNat]?).bind fun xq8 =>
  rec a0 (a3.set a4.toNat (IntKind.i64.wrap (xq7+1))) a4 a9 a10)
  (k a0 a3 a9 a10)
def wet (rec:T11) (a0 a3:Y4) (a9 a10:Int):Z2 :=
  rec a0 a3 a9 (IntKind.i64.wrap (a10+1))
def wa5 (L6:T126) (k:T14) (a0 a3:Y4) (a9 a10:Int):Z2 :=
  cond (decide (a10<a9))
  ((atI a3 a10).bind fun _ =>
  (a3[a10.toNat]?).bind fun xq3 =>
  L6 a0 (a3.set a10.toNat 0) a10 a9 a10)
  (k a3)
def xt (a3:Y4):Z2 :=
  some (a3,(()))
def wyw (L3:T11) (list_0:Y4):Z2 :=
  (mkI (0:Int) (list_0.length:Int)).bind fun xq1=>(mkI (0:Int) (list_0.length:Int)).bind fun xq2=>cond (decide ((list_0.length:Int)≤(list_0.length:Int)))
  (L3 list_0 xq2 (list_0.length:Int) 0)
  none
def wvb (N:Nat) (k:T11):=itN (fun r=>wu9 r k) fun _ _ _ _ _=>none
def wer (N:Nat) (rec:T11) (k:T14):=wvb N (wet rec) N
def wva (N:Nat) (k:T14):=itN (fun r=>wa5 (wer N r k) k) fun _ _ _ _=>none
def wu8 (N:Nat):=wva N (xt) N
def V121 (N:Nat) (list_0:Y4):Z2:=wyw (wu8 N) list_0
def S_V121:Sig:=⟨Q14,[0],[],.unit,Q3,O2,fun x=>V121 big x.1⟩
def A_V121:Cfg:=mkCfg tab [] [(6,([B2,D0,D0,B1]++dr 5 [B0,B0])),(12,([B2,D0,D0,B1,B0]++dr 4 [B0,B0])),(19,(dr 3 [B1])),(17,([B2,D0,D0,B1]++dr 5 [B0,B0]))]
noncomputable def yx (N n:Nat) (K:T13) (a0 a3:Y4) (a9 a10:Int):Z2:=itr A_V121 N 6 Tryz.f129 [1,1,0,1,0,0] n (([W2 a0,.u,.u,W1 a3]++ud 5 [W0 a9,W0 a10])++us 25) K
noncomputable def wes (N n:Nat) (K:T13) (a0 a3:Y4) (a4 a9 a10:Int):Z2:=itr A_V121 N 12 Tryz.f129 [1,1,0,1,0,0,1,1,0,0,1,1,0,0] n (([W2 a0,.u,.u,W1 a3,W0 a4]++ud 4 [W0 a9,W0 a10])++us 25) K
noncomputable def wqs:Ex→St→Z2:=finish A_V121 S_V121 Tryz.f129.results.toList
noncomputable def wn4 (kX:T4) (a3:Y4):Z2:=kX ((ud 3 [W1 a3])++us 32)
noncomputable def wa4 (kX:T4) (kO:T3):=exK wqs 0 (A_V121.shape 19) kX kO
noncomputable def w5r (kX:T4) (a0 a3:Y4) (a9 a10:Int):Z2:=kX (([W2 a0,.u,.u,W1 a3]++ud 5 [W0 a9,W0 a10])++us 25)
noncomputable def w5q (kX:T4) (kO:T3):=exK wqs 2 (A_V121.shape 17) kX kO
theorem w9h (N kX kO):∀n,wes N n (w5q kX kO)=wvb N (w5r kX) n :=
 itE rfl fun m=>by kernel_rfl
noncomputable def wn3 (N m:Nat) (kX:T4) (kO:T3):=(blockK 2 (blockK 1 (sqK A_V121 N 17 500008 Tryz.f129 [1,1,0,1,0,0,1,1,1] (itK A_V121 N 6 Tryz.f129 [1,1,0,1,0,0] m (wa4 kX kO)))))
noncomputable def w5t (N m:Nat) (kX:T4) (kO:T3) (st':St):Z2:=rn A_V121 N Tryz.f129 [1,1,0,1,0,0,1,1,1] st' (itK A_V121 N 6 Tryz.f129 [1,1,0,1,0,0] m (wa4 kX kO))
theorem xnt (N m kX kO) {r}(h:yx N m (wa4 kX kO)=r):wes N N (wn3 N m kX kO)=wer N r (wn4 kX):=by
 rw[show wes N N (wn3 N m kX kO)=wes N N (w5q (w5t N m kX kO) fun j=>(wn3 N m kX kO) (.exit j)) from(by funext _ _ _ _ _;exact jk7),w9h,show w5r (w5t N m kX kO)=wet (yx N m (wa4 kX kO)) by kernel_rfl,h];rfl
theorem w9g (N kX kO):∀n,yx N n (wa4 kX kO)=wva N (wn4 kX) n :=
 itE rfl fun m=>(show _=wa5 (wes N N (wn3 N m kX kO)) (wn4 kX) by kernel_rfl).trans (by rw[xnt N m kX kO rfl]<;>rfl)
noncomputable def wn2 (N:Nat):=(blockK 0 (sqK A_V121 N 19 500009 Tryz.f129 [1,1,1] wqs))
noncomputable def w5s (N:Nat) (st':St):Z2:=rn A_V121 N Tryz.f129 [1,1,1] st' wqs
theorem xns (N):yx N N (wn2 N)=wu8 N:=by
 rw[show yx N N (wn2 N)=yx N N (wa4 (w5s N) fun j=>(wn2 N) (.exit j)) from(by funext _ _ _ _;exact jk7),w9g,show wn4 (w5s N)=xt by kernel_rfl];rfl
theorem run_V121 (N x):runF A_V121 N Tryz.f129 S_V121 x=V121 N x.1:=(show _=(wyw (yx N N (wn2 N)) x.1) by kernel_rfl).trans (by rw[xns N];rfl)
theorem ok_V121:OK 129 S_V121:=gdR (A:=A_V121) tc Tryz.func129 (jed trivial) (run_V121 big)
def wev (rec:T12) (k:T14) (a0 a1 a5:Y4) (a11 a12:Int):Z2 :=
  cond (decide (a12<a11))
  ((atI a0 a12).bind fun xq3 =>
  (atI a1 a12).bind fun xq4 =>
  (atI a5 a12).bind fun _ =>
  (a5[a12.toNat]?).bind fun xq5 =>
  rec a0 a1 (a5.set a12.toNat (IntKind.i64.wrap ((IntKind.i64.wrap (xq3*(a0.length:Int)))+xq4))) a11 (IntKind.i64.wrap (a12+1)))
  (k a5)
def wa6 (a5:Y4):Z2 :=
  (V121 big a5).bind fun rq6 =>
  some (rq6.1,(()))
def wyx (L3:T12) (p_0 q_1:Y4):Z2 :=
  (mkI (0:Int) (p_0.length:Int)).bind fun xq1=>(mkI (0:Int) (p_0.length:Int)).bind fun xq2=>cond (decide ((p_0.length:Int)≤(p_0.length:Int)))
  (L3 p_0 q_1 xq2 (p_0.length:Int) 0)
  none
def wvd (N:Nat) (k:T14):=itN (fun r=>wev r k) fun _ _ _ _ _=>none
def wvc (N:Nat):=wvd N (wa6) N
def V122 (N:Nat) (p_0 q_1:Y4):Z2:=wyx (wvc N) p_0 q_1
def S_V122:Sig:=⟨(.pair Q3 Q14),[0,0],[],.unit,Q3,O2,fun x=>V122 big x.1 x.2.1⟩
def A_V122:Cfg:=mkCfg tab [(129,S_V121)] [(6,([B2,B2]++dr 3 ([B1]++dr 5 [B0,B0]))),(15,(dr 5 [B1]))]
noncomputable def weu (N n:Nat) (K:T13) (a0 a1 a5:Y4) (a11 a12:Int):Z2:=itr A_V122 N 6 Tryz.f88 [1,1,0,1,0,0] n (([W2 a0,W2 a1]++ud 3 ([W1 a5]++ud 5 [W0 a11,W0 a12]))++us 20) K
noncomputable def wyy:Ex→St→Z2:=finish A_V122 S_V122 Tryz.f88.results.toList
noncomputable def w5v (kX:T4) (a5:Y4):Z2:=kX ((ud 5 [W1 a5])++us 27)
noncomputable def w5u (kX:T4) (kO:T3):=exK wyy 0 (A_V122.shape 15) kX kO
theorem w9i (N kX kO):∀n,weu N n (w5u kX kO)=wvd N (w5v kX) n :=
 itE rfl fun m=>by kernel_rfl
noncomputable def wn5 (N:Nat):=(blockK 0 (sqK A_V122 N 15 500007 Tryz.f88 [1,1,1] wyy))
noncomputable def w5w (N:Nat) (st':St):Z2:=rn A_V122 N Tryz.f88 [1,1,1] st' wyy
theorem xnu (N):weu N N (wn5 N)=wvc N:=by
 rw[show weu N N (wn5 N)=weu N N (w5u (w5w N) fun j=>(wn5 N) (.exit j)) from(by funext _ _ _ _ _;exact jk7),w9i,show w5v (w5w N)=wa6 by kernel_rfl];rfl
theorem run_V122 (N x):runF A_V122 N Tryz.f88 S_V122 x=V122 N x.1 x.2.1:=(show _=(wyx (weu N N (wn5 N)) x.1 x.2.1) by kernel_rfl).trans (by rw[xnu N];rfl)
theorem ok_V122:OK 88 S_V122:=gdR (A:=A_V122) tc Tryz.func88 (jed ⟨ok_V121,trivial⟩) (run_V122 big)
def wex (rec:T24) (k:Z0) (a1 a12:Y4) (a13 a14:Int):Z0 :=
  cond (decide (a14<a13))
  ((atI a12 a14).bind fun xq1 =>
  (atI a1 a14).bind fun xq2 =>
  cond (decide (xq2≠xq1))
  (some (false,(())))
  (rec a1 a12 a13 (IntKind.i64.wrap (a14+1))))
  (k)
def wa7:Z0 :=
  some (true,(()))
def wyz (L4:T24) (a_0 b_1:Y4):Z0 :=
  cond (decide ((a_0.length:Int)≠(b_1.length:Int)))
  (some (false,(())))
  (L4 b_1 a_0 (a_0.length:Int) 0)
def wvf (N:Nat) (k:Z0):=itN (fun r=>wex r k) fun _ _ _ _=>none
def wve (N:Nat):=wvf N (wa7) N
def V123 (N:Nat) (a_0 b_1:Y4):Z0:=wyz (wve N) a_0 b_1
def S_V123:Sig:=⟨(.pair Q3 Q14),[0,0],[],.unit,.bool,.i,fun x=>V123 big x.1 x.2.1⟩
def A_V123:Cfg:=mkCfg tab [] [(8,([D0,B2]++dr 10 [B2,B0,B0])),(19,[])]
noncomputable def wew (N n:Nat) (K:T8) (a1 a12:Y4) (a13 a14:Int):Z0:=itr A_V123 N 8 Tryz.f87 [1,1,0,1,0,0] n (([.u,W2 a1]++ud 10 [W2 a12,W0 a13,W0 a14])++us 11) K
noncomputable def wy0:Ex→St→Z0:=finish A_V123 S_V123 Tryz.f87.results.toList
noncomputable def w5y (kX:T1):Z0:=kX ([]++us 26)
noncomputable def w5x (kX:T1) (kO:T0):=exK wy0 0 (A_V123.shape 19) kX kO
theorem w9j (N kX kO):∀n,wew N n (w5x kX kO)=wvf N (w5y kX) n :=
 itE rfl fun m=>by kernel_rfl
noncomputable def wn6 (N:Nat):=(blockK 0 (sqK A_V123 N 19 500009 Tryz.f87 [1,1,1] wy0))
noncomputable def w5z (N:Nat) (st':St):Z0:=rn A_V123 N Tryz.f87 [1,1,1] st' wy0
theorem xnv (N):wew N N (wn6 N)=wve N:=by
 rw[show wew N N (wn6 N)=wew N N (w5x (w5z N) fun j=>(wn6 N) (.exit j)) from(by funext _ _ _ _;exact jk7),w9j,show w5y (w5z N)=wa7 by kernel_rfl];rfl
theorem run_V123 (N x):runF A_V123 N Tryz.f87 S_V123 x=V123 N x.1 x.2.1:=(show _=(wyz (wew N N (wn6 N)) x.1 x.2.1) by kernel_rfl).trans (by rw[xnv N];rfl)
theorem ok_V123:OK 87 S_V123:=gdR (A:=A_V123) tc Tryz.func87 (jed trivial) (run_V123 big)
def xeq (p_0 q_1 r_2:Y4):Z0 :=
  (V93 big q_1 r_2).bind fun rq1 =>
  (V122 big p_0 rq1.1).bind fun rq2 =>
  (V122 big p_0 q_1).bind fun rq3 =>
  (V122 big p_0 r_2).bind fun rq4 =>
  (V93 big rq3.1 rq4.1).bind fun rq5 =>
  (V123 big rq2.1 rq5.1).bind fun rq6 =>
  some (rq6.1,(()))
def V124 (p_0 q_1 r_2:Y4):Z0:=xeq p_0 q_1 r_2
def S_V124:Sig:=⟨(.pair Q3 (.pair Q3 Q14)),[0,0,0],[],.unit,.bool,.i,fun x=>V124 x.1 x.2.1 x.2.2.1⟩
def A_V124:Cfg:=mkCfg tab [(89,S_V93),(88,S_V122),(87,S_V123)] []
theorem run_V124 (N x):runF A_V124 N Tryz.f52 S_V124 x=V124 x.1 x.2.1 x.2.2.1:=by kernel_rfl
theorem ok_V124:OK 52 S_V124:=gdR (A:=A_V124) tc Tryz.func52 (jed ⟨ok_V93,ok_V122,ok_V123,trivial⟩) (run_V124 big)
def we1 (rec:T22) (k:T6) (a0:Y3) (a1:Unit) (a6 a8:Y4) (a11:Y3) (a12 a13:Int) (a17:Y3) (a18 a19:Int) (a23:Y3) (a24 a25:Int):Z10 :=
  cond (decide (a25<a24))
  ((atI a23 a25).bind fun xq3 =>
  (V124 a6 a8 xq3).bind fun rq4 =>
  cond (!rq4.1)
  ((V120 big [a6,a8,xq3]).bind fun rq5 =>
  (neL rq5.1).bind fun xq6 =>
  some ((some xq6),(())))
  (rec a0 a1 a6 a8 a11 a12 a13 a17 a18 a19 a23 a24 (IntKind.i64.wrap (a25+1))))
  (k a0 a1 a6 a11 a12 a13 a17 a18 a19)
def wba (rec:T6) (a0:Y3) (a1:Unit) (a6:Y4) (a11:Y3) (a12 a13:Int) (a17:Y3) (a18 a19:Int):Z10 :=
  rec a0 a1 a6 a11 a12 a13 a17 a18 (IntKind.i64.wrap (a19+1))
def wbc (L8:T22) (k:T19) (a0:Y3) (a1:Unit) (a6:Y4) (a11:Y3) (a12 a13:Int) (a17:Y3) (a18 a19:Int):Z10 :=
  cond (decide (a19<a18))
  ((atI a17 a19).bind fun xq2 =>
  L8 a0 a1 a6 xq2 a11 a12 a13 a17 a18 a19 a0 (a0.length:Int) 0)
  (k a0 a1 a11 a12 a13)
def xw (rec:T19) (a0:Y3) (a1:Unit) (a11:Y3) (a12 a13:Int):Z10 :=
  rec a0 a1 a11 a12 (IntKind.i64.wrap (a13+1))
def wbb (L5:T6) (k:Z10) (a0:Y3) (a1:Unit) (a11:Y3) (a12 a13:Int):Z10 :=
  cond (decide (a13<a12))
  ((atI a11 a13).bind fun xq1 =>
  L5 a0 a1 xq1 a11 a12 a13 a0 (a0.length:Int) 0)
  (k)
def xu:Z10 :=
  some (none,(()))
def wy1 (L2:T19) (all_0:Y3) (good_1:Unit):Z10 :=
  L2 all_0 good_1 all_0 (all_0.length:Int) 0
def wvj (N:Nat) (k:T6):=itN (fun r=>we1 r k) fun _ _ _ _ _ _ _ _ _ _ _ _ _=>none
def wez (N:Nat) (rec:T6) (k:T19):=wvj N (wba rec) N
def wvi (N:Nat) (k:T19):=itN (fun r=>wbc (wez N r k) k) fun _ _ _ _ _ _ _ _ _=>none
def wey (N:Nat) (rec:T19) (k:Z10):=wvi N (xw rec) N
def wvh (N:Nat) (k:Z10):=itN (fun r=>wbb (wey N r k) k) fun _ _ _ _ _=>none
def wvg (N:Nat):=wvh N (xu) N
def V125 (N:Nat) (all_0:Y3) (good_1:Unit):Z10:=wy1 (wvg N) all_0 good_1
def S_V125:Sig:=⟨(.pair Q11 (.pair (.clo 52 0 .unit) .unit)),[0,0],[],.unit,(.ns Q3),.i,fun x=>V125 big x.1 x.2.1⟩
def A_V125:Cfg:=mkCfg tab [(52,S_V124),(86,S_V120)] [(4,([B4,.as (.clo 52 0 .unit) .i]++dr 9 [B4,B0,B0])),(10,([B4,.as (.clo 52 0 .unit) .i]++dr 4 ([B2]++dr 4 ([B4,B0,B0]++dr 3 [B4,B0,B0])))),(31,[]),(16,([B4,.as (.clo 52 0 .unit) .i]++dr 4 ([B2,D0,B2,D0,D0,B4,B0,B0]++dr 3 ([B4,B0,B0]++dr 3 [B4,B0,B0])))),(29,([B4,.as (.clo 52 0 .unit) .i]++dr 9 [B4,B0,B0])),(27,([B4,.as (.clo 52 0 .unit) .i]++dr 4 ([B2]++dr 4 ([B4,B0,B0]++dr 3 [B4,B0,B0]))))]
noncomputable def yz (N n:Nat) (K:Ex→St→Z10) (a0:Y3) (a1:Unit) (a11:Y3) (a12 a13:Int):Z10:=itr A_V125 N 4 Tryz.f51 [1,0,1,0,0] n (([W4 a0,.val (.clo 52 0 .unit) .i a1]++ud 9 [W4 a11,W0 a12,W0 a13])++us 29) K
noncomputable def y5 (N n:Nat) (K:Ex→St→Z10) (a0:Y3) (a1:Unit) (a6:Y4) (a11:Y3) (a12 a13:Int) (a17:Y3) (a18 a19:Int):Z10:=itr A_V125 N 10 Tryz.f51 [1,0,1,0,0,1,1,0,0,1,1,0,0] n (([W4 a0,.val (.clo 52 0 .unit) .i a1]++ud 4 ([W2 a6]++ud 4 ([W4 a11,W0 a12,W0 a13]++ud 3 [W4 a17,W0 a18,W0 a19])))++us 23) K
noncomputable def we0 (N n:Nat) (K:Ex→St→Z10) (a0:Y3) (a1:Unit) (a6 a8:Y4) (a11:Y3) (a12 a13:Int) (a17:Y3) (a18 a19:Int) (a23:Y3) (a24 a25:Int):Z10:=itr A_V125 N 16 Tryz.f51 [1,0,1,0,0,1,1,0,0,1,1,0,0,1,1,0,0,1,1,0,0] n (([W4 a0,.val (.clo 52 0 .unit) .i a1]++ud 4 ([W2 a6,.u,W2 a8,.u,.u,W4 a11,W0 a12,W0 a13]++ud 3 ([W4 a17,W0 a18,W0 a19]++ud 3 [W4 a23,W0 a24,W0 a25])))++us 17) K
noncomputable def wjt:Ex→St→Z10:=finish A_V125 S_V125 Tryz.f51.results.toList
noncomputable def woa (kX:T137):Z10:=kX ([]++us 43)
noncomputable def wa8 (kX:T137) (kO:T122):=exK wjt 0 (A_V125.shape 31) kX kO
noncomputable def wob (kX:T137) (a0:Y3) (a1:Unit) (a11:Y3) (a12 a13:Int):Z10:=kX (([W4 a0,.val (.clo 52 0 .unit) .i a1]++ud 9 [W4 a11,W0 a12,W0 a13])++us 29)
noncomputable def wa9 (kX:T137) (kO:T122):=exK wjt 2 (A_V125.shape 29) kX kO
noncomputable def w51 (kX:T137) (a0:Y3) (a1:Unit) (a6:Y4) (a11:Y3) (a12 a13:Int) (a17:Y3) (a18 a19:Int):Z10:=kX (([W4 a0,.val (.clo 52 0 .unit) .i a1]++ud 4 ([W2 a6]++ud 4 ([W4 a11,W0 a12,W0 a13]++ud 3 [W4 a17,W0 a18,W0 a19])))++us 23)
noncomputable def w50 (kX:T137) (kO:T122):=exK wjt 4 (A_V125.shape 27) kX kO
theorem w9m (N kX kO):∀n,we0 N n (w50 kX kO)=wvj N (w51 kX) n :=
 itE rfl fun m=>by kernel_rfl
noncomputable def wn9 (N m:Nat) (kX:T137) (kO:T122):=(blockK 4 (blockK 3 (sqK A_V125 N 27 500013 Tryz.f51 [1,0,1,0,0,1,1,0,0,1,1,0,0,1,1,1] (itK A_V125 N 10 Tryz.f51 [1,0,1,0,0,1,1,0,0,1,1,0,0] m (wa9 kX kO)))))
noncomputable def w54 (N m:Nat) (kX:T137) (kO:T122) (st':St):Z10:=rn A_V125 N Tryz.f51 [1,0,1,0,0,1,1,0,0,1,1,0,0,1,1,1] st' (itK A_V125 N 10 Tryz.f51 [1,0,1,0,0,1,1,0,0,1,1,0,0] m (wa9 kX kO))
theorem xny (N m kX kO) {r}(h:y5 N m (wa9 kX kO)=r):we0 N N (wn9 N m kX kO)=wez N r (wob kX):=by
 rw[show we0 N N (wn9 N m kX kO)=we0 N N (w50 (w54 N m kX kO) fun j=>(wn9 N m kX kO) (.exit j)) from(by funext _ _ _ _ _ _ _ _ _ _ _ _ _;exact jk7),w9m,show w51 (w54 N m kX kO)=wba (y5 N m (wa9 kX kO)) by kernel_rfl,h];rfl
theorem w9l (N kX kO):∀n,y5 N n (wa9 kX kO)=wvi N (wob kX) n :=
 itE rfl fun m=>(show _=wbc (we0 N N (wn9 N m kX kO)) (wob kX) by kernel_rfl).trans (by rw[xny N m kX kO rfl]<;>rfl)
noncomputable def wn8 (N m:Nat) (kX:T137) (kO:T122):=(blockK 2 (blockK 1 (sqK A_V125 N 29 500014 Tryz.f51 [1,0,1,0,0,1,1,1] (itK A_V125 N 4 Tryz.f51 [1,0,1,0,0] m (wa8 kX kO)))))
noncomputable def w53 (N m:Nat) (kX:T137) (kO:T122) (st':St):Z10:=rn A_V125 N Tryz.f51 [1,0,1,0,0,1,1,1] st' (itK A_V125 N 4 Tryz.f51 [1,0,1,0,0] m (wa8 kX kO))
theorem xnx (N m kX kO) {r}(h:yz N m (wa8 kX kO)=r):y5 N N (wn8 N m kX kO)=wey N r (woa kX):=by
 rw[show y5 N N (wn8 N m kX kO)=y5 N N (wa9 (w53 N m kX kO) fun j=>(wn8 N m kX kO) (.exit j)) from(by funext _ _ _ _ _ _ _ _ _;exact jk7),w9l,show wob (w53 N m kX kO)=xw (yz N m (wa8 kX kO)) by kernel_rfl,h];rfl
theorem w9k (N kX kO):∀n,yz N n (wa8 kX kO)=wvh N (woa kX) n :=
 itE rfl fun m=>(show _=wbb (y5 N N (wn8 N m kX kO)) (woa kX) by kernel_rfl).trans (by rw[xnx N m kX kO rfl]<;>rfl)
noncomputable def wn7 (N:Nat):=(blockK 0 (sqK A_V125 N 31 500015 Tryz.f51 [1,1] wjt))
noncomputable def w52 (N:Nat) (st':St):Z10:=rn A_V125 N Tryz.f51 [1,1] st' wjt
theorem xnw (N):yz N N (wn7 N)=wvg N:=by
 rw[show yz N N (wn7 N)=yz N N (wa8 (w52 N) fun j=>(wn7 N) (.exit j)) from(by funext _ _ _ _ _;exact jk7),w9k,show woa (w52 N)=xu by kernel_rfl];rfl
theorem run_V125 (N x):runF A_V125 N Tryz.f51 S_V125 x=V125 N x.1 x.2.1:=(show _=(wy1 (yz N N (wn7 N)) x.1 x.2.1) by kernel_rfl).trans (by rw[xnw N];rfl)
theorem ok_V125:OK 51 S_V125:=gdR (A:=A_V125) tc Tryz.func51 (jed ⟨ok_V124,ok_V120,trivial⟩) (run_V125 big)
def xer (a_0:Y7):Option ((Bool×(Bool×Unit))×Unit) :=
  (V119 a_0).bind fun rq1 =>
  cond ((((),rq1.1.2).2).1)
  ((V125 big rq1.1.1 ()).bind fun rq2 =>
  some ((rq2.1.isNone,(((),rq1.1.2).2).1,()),(())))
  (some ((false,(((),rq1.1.2).2).1,()),(())))
def V126 (a_0:Y7):Option ((Bool×(Bool×Unit))×Unit):=xer a_0
def S_V126:Sig:=⟨Q24,[0],[],.unit,(.tup (.pair .bool Q16)),.i,fun x=>V126 x.1⟩
def A_V126:Cfg:=mkCfg tab [(50,S_V119),(51,S_V125)] []
theorem run_V126 (N x):runF A_V126 N Tryz.f20 S_V126 x=V126 x.1:=by kernel_rfl
theorem ok_V126:OK 20 S_V126:=gdR (A:=A_V126) tc Tryz.func20 (jed ⟨ok_V119,ok_V125,trivial⟩) (run_V126 big)
def we4 (rec:T102) (k:Int→Z5) (a0 a1 a5:Int):Z5 :=
  cond (decide (0<a1))
  (rec a0 (IntKind.i64.wrap (a1-1)) (IntKind.i64.wrap (a5*a0)))
  (k a5)
def we3 (a5:Int):Z5 :=
  some (a5,(()))
def wy2 (L2:T102) (n_0 k_1:Int):Z5 :=
  L2 n_0 k_1 1
def wvl (N:Nat) (k:Int→Z5):=itN (fun r=>we4 r k) fun _ _ _=>none
def wvk (N:Nat):=wvl N (we3) N
def V127 (N:Nat) (n_0 k_1:Int):Z5:=wy2 (wvk N) n_0 k_1
def S_V127:Sig:=⟨Q22,[0,0],[],.unit,I,.i,fun x=>V127 big x.1 x.2.1⟩
def A_V127:Cfg:=mkCfg tab [] [(4,([B0,B0]++dr 3 [B0])),(11,(dr 5 [B0]))]
noncomputable def we2 (N n:Nat) (K:T87) (a0 a1 a5:Int):Z5:=itr A_V127 N 4 Tryz.f157 [1,1,0,0,0] n (([W0 a0,W0 a1]++ud 3 [W0 a5])++us 8) K
noncomputable def wy3:Ex→St→Z5:=finish A_V127 S_V127 Tryz.f157.results.toList
noncomputable def w56 (kX:T56) (a5:Int):Z5:=kX ((ud 5 [W0 a5])++us 8)
noncomputable def w55 (kX:T56) (kO:T47):=exK wy3 0 (A_V127.shape 11) kX kO
theorem w9n (N kX kO):∀n,we2 N n (w55 kX kO)=wvl N (w56 kX) n :=
 itE rfl fun m=>by kernel_rfl
noncomputable def woc (N:Nat):=(blockK 0 (sqK A_V127 N 11 500005 Tryz.f157 [1,1,1] wy3))
noncomputable def w57 (N:Nat) (st':St):Z5:=rn A_V127 N Tryz.f157 [1,1,1] st' wy3
theorem xnz (N):we2 N N (woc N)=wvk N:=by
 rw[show we2 N N (woc N)=we2 N N (w55 (w57 N) fun j=>(woc N) (.exit j)) from(by funext _ _ _;exact jk7),w9n,show w56 (w57 N)=we3 by kernel_rfl];rfl
theorem run_V127 (N x):runF A_V127 N Tryz.f157 S_V127 x=V127 N x.1 x.2.1:=(show _=(wy2 (we2 N N (woc N)) x.1 x.2.1) by kernel_rfl).trans (by rw[xnz N];rfl)
theorem ok_V127:OK 157 S_V127:=gdR (A:=A_V127) tc Tryz.func157 (jed trivial) (run_V127 big)
def we6 (rec:T138) (k:Z0) (a0:Int) (a3:Y6) (a5:Int):Z0 :=
  cond (decide (a5<(a3.2.1.length:Int)))
  ((atI a3.2.1 a5).bind fun xq3 =>
  (V6 xq3 0 (IntKind.i64.wrap (a0-1))).bind fun rq4 =>
  cond (!rq4.1)
  (some (false,(())))
  (rec a0 a3 (IntKind.i64.wrap (a5+1))))
  (k)
def wbd:Z0 :=
  some (true,(()))
def wy4 (L4:T138) (n_0:Int) (op_1:Y6):Z0 :=
  (V6 op_1.1 0 3).bind fun rq1 =>
  cond (!rq1.1)
  (some (false,(())))
  ((V127 big n_0 op_1.1).bind fun rq2 =>
  cond (decide ((op_1.2.1.length:Int)≠rq2.1))
  (some (false,(())))
  (L4 n_0 op_1 0))
def wvn (N:Nat) (k:Z0):=itN (fun r=>we6 r k) fun _ _ _=>none
def wvm (N:Nat):=wvn N (wbd) N
def V128 (N:Nat) (n_0:Int) (op_1:Y6):Z0:=wy4 (wvm N) n_0 op_1
def S_V128:Sig:=⟨(.pair I (.pair Q9 .unit)),[0,0],[],.unit,.bool,.i,fun x=>V128 big x.1 x.2.1⟩
def A_V128:Cfg:=mkCfg tab [(130,S_V6),(157,S_V127)] [(8,[B0,D0,D0,.as Q20 O2,D0,B0]),(17,[])]
noncomputable def we5 (N n:Nat) (K:T8) (a0:Int) (a3:Y6) (a5:Int):Z0:=itr A_V128 N 8 Tryz.f131 [1,1,0,1,0,0] n ([W0 a0,.u,.u,.val Q20 O2 a3,.u,W0 a5]++us 30) K
noncomputable def wy5:Ex→St→Z0:=finish A_V128 S_V128 Tryz.f131.results.toList
noncomputable def w59 (kX:T1):Z0:=kX ([]++us 36)
noncomputable def w58 (kX:T1) (kO:T0):=exK wy5 0 (A_V128.shape 17) kX kO
theorem w9o (N kX kO):∀n,we5 N n (w58 kX kO)=wvn N (w59 kX) n :=
 itE rfl fun m=>by kernel_rfl
noncomputable def wod (N:Nat):=(blockK 0 (sqK A_V128 N 17 500008 Tryz.f131 [1,1,1] wy5))
noncomputable def w6a (N:Nat) (st':St):Z0:=rn A_V128 N Tryz.f131 [1,1,1] st' wy5
theorem xn0 (N):we5 N N (wod N)=wvm N:=by
 rw[show we5 N N (wod N)=we5 N N (w58 (w6a N) fun j=>(wod N) (.exit j)) from(by funext _ _ _;exact jk7),w9o,show w59 (w6a N)=wbd by kernel_rfl];rfl
theorem run_V128 (N x):runF A_V128 N Tryz.f131 S_V128 x=V128 N x.1 x.2.1:=(show _=(wy4 (we5 N N (wod N)) x.1 x.2.1) by kernel_rfl).trans (by rw[xn0 N];rfl)
theorem ok_V128:OK 131 S_V128:=gdR (A:=A_V128) tc Tryz.func131 (jed ⟨ok_V6,ok_V127,trivial⟩) (run_V128 big)
def we8 (rec:Y7→Int→Z0) (k:Z0) (a1:Y7) (a3:Int):Z0 :=
  cond (decide (a3<(a1.2.1.length:Int)))
  ((atI a1.2.1 a3).bind fun xq2 =>
  (V128 big a1.1 xq2).bind fun rq3 =>
  cond (!rq3.1)
  (some (false,(())))
  (rec a1 (IntKind.i64.wrap (a3+1))))
  (k)
def wbe:Z0 :=
  some (true,(()))
def wy6 (L4:Y7→Int→Z0) (a_0:Y7):Z0 :=
  (V6 a_0.1 1 8).bind fun rq1 =>
  cond (!rq1.1)
  (some (false,(())))
  (cond (decide (4<(a_0.2.1.length:Int)))
  (some (false,(())))
  (L4 a_0 0))
def wvp (N:Nat) (k:Z0):=itN (fun r=>we8 r k) fun _ _=>none
def wvo (N:Nat):=wvp N (wbe) N
def V129 (N:Nat) (a_0:Y7):Z0:=wy6 (wvo N) a_0
def S_V129:Sig:=⟨Q24,[0],[],.unit,.bool,.i,fun x=>V129 big x.1⟩
def A_V129:Cfg:=mkCfg tab [(130,S_V6),(131,S_V128)] [(8,[D0,B9,D0,B0]),(17,[])]
noncomputable def we7 (N n:Nat) (K:T8) (a1:Y7) (a3:Int):Z0:=itr A_V129 N 8 Tryz.f90 [1,1,0,1,0,0] n ([.u,W9 a1,.u,W0 a3]++us 26) K
noncomputable def wy7:Ex→St→Z0:=finish A_V129 S_V129 Tryz.f90.results.toList
noncomputable def w6c (kX:T1):Z0:=kX ([]++us 30)
noncomputable def w6b (kX:T1) (kO:T0):=exK wy7 0 (A_V129.shape 17) kX kO
theorem w9p (N kX kO):∀n,we7 N n (w6b kX kO)=wvp N (w6c kX) n :=
 itE rfl fun m=>by kernel_rfl
noncomputable def woe (N:Nat):=(blockK 0 (sqK A_V129 N 17 500008 Tryz.f90 [1,1,1] wy7))
noncomputable def w6d (N:Nat) (st':St):Z0:=rn A_V129 N Tryz.f90 [1,1,1] st' wy7
theorem xn1 (N):we7 N N (woe N)=wvo N:=by
 rw[show we7 N N (woe N)=we7 N N (w6b (w6d N) fun j=>(woe N) (.exit j)) from(by funext _ _;exact jk7),w9p,show w6c (w6d N)=wbe by kernel_rfl];rfl
theorem run_V129 (N x):runF A_V129 N Tryz.f90 S_V129 x=V129 N x.1:=(show _=(wy6 (we7 N N (woe N)) x.1) by kernel_rfl).trans (by rw[xn1 N];rfl)
theorem ok_V129:OK 90 S_V129:=gdR (A:=A_V129) tc Tryz.func90 (jed ⟨ok_V6,ok_V128,trivial⟩) (run_V129 big)
def xe4 (a_0:Y7):Z3 :=
  (V129 big a_0).bind fun rq1 =>
  cond (!rq1.1)
  (some (([],false,()),(())))
  ((V102 big a_0 60).bind fun rq2 =>
  some ((rq2.1,decide ((rq2.1.length:Int)≤60),()),(())))
def V130 (a_0:Y7):Z3:=xe4 a_0
def S_V130:Sig:=⟨Q24,[0],[],.unit,Q21,.i,fun x=>V130 x.1⟩
def A_V130:Cfg:=mkCfg tab [(90,S_V129),(73,S_V102)] []
theorem run_V130 (N x):runF A_V130 N Tryz.f53 S_V130 x=V130 x.1:=by kernel_rfl
theorem ok_V130:OK 53 S_V130:=gdR (A:=A_V130) tc Tryz.func53 (jed ⟨ok_V129,ok_V102,trivial⟩) (run_V130 big)
def xrz (rec:T15) (k:Z0) (a0 a1:Y4) (a5:Int):Z0 :=
  cond (decide (a5<(a0.length:Int)))
  ((atI a0 a5).bind fun xq1 =>
  (atI a1 xq1).bind fun xq2 =>
  (atI a1 a5).bind fun xq3 =>
  cond (decide (xq2≠xq3))
  (some (false,(())))
  (rec a0 a1 (IntKind.i64.wrap (a5+1))))
  (k)
def w6s:Z0 :=
  some (true,(()))
def xe5 (L2:T15) (p_0 q_1:Y4):Z0 :=
  L2 p_0 q_1 0
def w6u (N:Nat) (k:Z0):=itN (fun r=>xrz r k) fun _ _ _=>none
def w6q (N:Nat):=w6u N (w6s) N
def V131 (N:Nat) (p_0 q_1:Y4):Z0:=xe5 (w6q N) p_0 q_1
def S_V131:Sig:=⟨(.pair Q3 Q14),[0,0],[],.unit,.bool,.i,fun x=>V131 big x.1 x.2.1⟩
def A_V131:Cfg:=mkCfg tab [] [(4,([B2,B2]++dr 3 [B0])),(13,[])]
noncomputable def wfc (N n:Nat) (K:T8) (a0 a1:Y4) (a5:Int):Z0:=itr A_V131 N 4 Tryz.f91 [1,0,1,0,0] n (([W2 a0,W2 a1]++ud 3 [W0 a5])++us 18) K
noncomputable def wy8:Ex→St→Z0:=finish A_V131 S_V131 Tryz.f91.results.toList
noncomputable def w6r (kX:T1):Z0:=kX ([]++us 24)
noncomputable def w6p (kX:T1) (kO:T0):=exK wy8 0 (A_V131.shape 13) kX kO
theorem w9s (N kX kO):∀n,wfc N n (w6p kX kO)=w6u N (w6r kX) n :=
 itE rfl fun m=>by kernel_rfl
noncomputable def woj (N:Nat):=(blockK 0 (sqK A_V131 N 13 500006 Tryz.f91 [1,1] wy8))
noncomputable def w6t (N:Nat) (st':St):Z0:=rn A_V131 N Tryz.f91 [1,1] st' wy8
theorem xn4 (N):wfc N N (woj N)=w6q N:=by
 rw[show wfc N N (woj N)=wfc N N (w6p (w6t N) fun j=>(woj N) (.exit j)) from(by funext _ _ _;exact jk7),w9s,show w6r (w6t N)=w6s by kernel_rfl];rfl
theorem run_V131 (N x):runF A_V131 N Tryz.f91 S_V131 x=V131 N x.1 x.2.1:=(show _=(xe5 (wfc N N (woj N)) x.1 x.2.1) by kernel_rfl).trans (by rw[xn4 N];rfl)
theorem ok_V131:OK 91 S_V131:=gdR (A:=A_V131) tc Tryz.func91 (jed trivial) (run_V131 big)
def wff (rec:T12) (k:T63) (a0 a1 a5:Y4) (a6 a7:Int):Z2 :=
  (atI a0 a7).bind fun xq1 =>
  (atI a0 a6).bind fun xq2 =>
  cond (decide (xq1≠xq2))
  (rec a0 a1 a5 a6 (IntKind.i64.wrap (a7+1)))
  ((atI a1 a7).bind fun xq3 =>
  (atI a1 a6).bind fun xq4 =>
  cond (decide (xq3≠xq4))
  (rec a0 a1 a5 a6 (IntKind.i64.wrap (a7+1)))
  (k a0 a1 a5 a6 a7 a1 a7 xq3 xq3 a1 a6 xq4 xq4 (decide (xq3≠xq4))))
def wbh (rec:T82) (a0 a1 a5:Y4) (a6 a7:Int) (a25:Y4) (a26 a27 a28:Int) (a29:Y4) (a30 a31 a32:Int) (a33:Bool):Z2 :=
  (appI a5 [a7]).bind fun xq5 =>
  rec a0 a1 xq5 (IntKind.i64.wrap (a6+1))
def wbi (L6:T12) (k:T14) (a0 a1 a5:Y4) (a6:Int):Z2 :=
  cond (decide (a6<(a0.length:Int)))
  (L6 a0 a1 a5 a6 0)
  (k a5)
def xx (a5:Y4):Z2 :=
  some (a5,(()))
def wy9 (L3:T82) (p_0 q_1:Y4):Z2 :=
  L3 p_0 q_1 [] 0
def wvs (N:Nat) (k:T63):=itN (fun r=>wff r k) fun _ _ _ _ _=>none
def wfd (N:Nat) (rec:T82) (k:T14):=wvs N (wbh rec) N
def wvr (N:Nat) (k:T14):=itN (fun r=>wbi (wfd N r k) k) fun _ _ _ _=>none
def wvq (N:Nat):=wvr N (xx) N
def V132 (N:Nat) (p_0 q_1:Y4):Z2:=wy9 (wvq N) p_0 q_1
def S_V132:Sig:=⟨(.pair Q3 Q14),[0,0],[],.unit,Q3,O2,fun x=>V132 big x.1 x.2.1⟩
def A_V132:Cfg:=mkCfg tab [] [(6,([B2,B2]++dr 3 [B1,B0])),(12,([B2,B2]++dr 3 [B1,B0,B0])),(19,(dr 5 [B1])),(17,([B2,B2]++dr 3 ([B1,B0,B0]++dr 17 [B2,B0,.as (.ptr I) .i,B0,B2,B0,.as (.ptr I) .i,B0,B5])))]
noncomputable def y7 (N n:Nat) (K:T13) (a0 a1 a5:Y4) (a6:Int):Z2:=itr A_V132 N 6 Tryz.f93 [1,1,0,1,0,0] n (([W2 a0,W2 a1]++ud 3 [W1 a5,W0 a6])++us 35) K
noncomputable def wfe (N n:Nat) (K:T13) (a0 a1 a5:Y4) (a6 a7:Int):Z2:=itr A_V132 N 12 Tryz.f93 [1,1,0,1,0,0,1,0,0,1,0,0,0] n (([W2 a0,W2 a1]++ud 3 [W1 a5,W0 a6,W0 a7])++us 34) K
noncomputable def wqx:Ex→St→Z2:=finish A_V132 S_V132 Tryz.f93.results.toList
noncomputable def wom (kX:T4) (a5:Y4):Z2:=kX ((ud 5 [W1 a5])++us 36)
noncomputable def wbg (kX:T4) (kO:T3):=exK wqx 0 (A_V132.shape 19) kX kO
noncomputable def w6w (kX:T4) (a0 a1 a5:Y4) (a6 a7:Int) (a25:Y4) (a26 a27 a28:Int) (a29:Y4) (a30 a31 a32:Int) (a33:Bool):Z2:=kX (([W2 a0,W2 a1]++ud 3 ([W1 a5,W0 a6,W0 a7]++ud 17 [W2 a25,W0 a26,.val (.ptr I) .i a27,W0 a28,W2 a29,W0 a30,.val (.ptr I) .i a31,W0 a32,W5 a33]))++us 8)
noncomputable def w6v (kX:T4) (kO:T3):=exK wqx 2 (A_V132.shape 17) kX kO
theorem w9u (N kX kO):∀n,wfe N n (w6v kX kO)=wvs N (w6w kX) n :=
 itE rfl fun m=>by kernel_rfl
noncomputable def wol (N m:Nat) (kX:T4) (kO:T3):=(blockK 2 (sqK A_V132 N 17 500008 Tryz.f93 [1,1,0,1,0,0,1,0,0,1,1] (blockK 1 (sqK A_V132 N 9 500004 Tryz.f93 [1,1,0,1,0,0,1,1] (itK A_V132 N 6 Tryz.f93 [1,1,0,1,0,0] m (wbg kX kO))))))
noncomputable def w6y (N m:Nat) (kX:T4) (kO:T3) (st':St):Z2:=rn A_V132 N Tryz.f93 [1,1,0,1,0,0,1,0,0,1,1] st' (blockK 1 (sqK A_V132 N 9 500004 Tryz.f93 [1,1,0,1,0,0,1,1] (itK A_V132 N 6 Tryz.f93 [1,1,0,1,0,0] m (wbg kX kO))))
theorem xn6 (N m kX kO) {r}(h:y7 N m (wbg kX kO)=r):wfe N N (wol N m kX kO)=wfd N r (wom kX):=by
 rw[show wfe N N (wol N m kX kO)=wfe N N (w6v (w6y N m kX kO) fun j=>(wol N m kX kO) (.exit j)) from(by funext _ _ _ _ _;exact jk7),w9u,show w6w (w6y N m kX kO)=wbh (y7 N m (wbg kX kO)) by kernel_rfl,h];rfl
theorem w9t (N kX kO):∀n,y7 N n (wbg kX kO)=wvr N (wom kX) n :=
 itE rfl fun m=>(show _=wbi (wfe N N (wol N m kX kO)) (wom kX) by kernel_rfl).trans (by rw[xn6 N m kX kO rfl]<;>rfl)
noncomputable def wok (N:Nat):=(blockK 0 (sqK A_V132 N 19 500009 Tryz.f93 [1,1,1] wqx))
noncomputable def w6x (N:Nat) (st':St):Z2:=rn A_V132 N Tryz.f93 [1,1,1] st' wqx
theorem xn5 (N):y7 N N (wok N)=wvq N:=by
 rw[show y7 N N (wok N)=y7 N N (wbg (w6x N) fun j=>(wok N) (.exit j)) from(by funext _ _ _ _;exact jk7),w9t,show wom (w6x N)=xx by kernel_rfl];rfl
theorem run_V132 (N x):runF A_V132 N Tryz.f93 S_V132 x=V132 N x.1 x.2.1:=(show _=(wy9 (y7 N N (wok N)) x.1 x.2.1) by kernel_rfl).trans (by rw[xn5 N];rfl)
theorem ok_V132:OK 93 S_V132:=gdR (A:=A_V132) tc Tryz.func93 (jed trivial) (run_V132 big)
def wfj (rec:T89) (k:T41) (a0:Y3) (a1:Bool) (a6 a7 a8:Int):Z9 :=
  cond (decide (a8<(a0.length:Int)))
  ((atI a0 a6).bind fun xq1 =>
  (atI a0 a7).bind fun xq2 =>
  (atI a0 a8).bind fun xq3 =>
  cond a1
  ((V131 big xq3 xq1).bind fun rq4 =>
  cond (!rq4.1)
  (rec a0 a1 a6 a7 (IntKind.i64.wrap (a8+1)))
  ((V101 big xq2 xq3).bind fun rq5 =>
  (V132 big xq1 rq5.1).bind fun rq6 =>
  (V132 big xq1 xq2).bind fun rq7 =>
  (V132 big xq1 xq3).bind fun rq8 =>
  (V101 big rq7.1 rq8.1).bind fun rq9 =>
  (V99 big rq6.1 rq9.1).bind fun rq10 =>
  cond (!rq10.1)
  (some (([a6,a7,a8],true,()),(())))
  (rec a0 a1 a6 a7 (IntKind.i64.wrap (a8+1)))))
  ((V101 big xq2 xq3).bind fun rq11 =>
  (V132 big xq1 rq11.1).bind fun rq12 =>
  (V132 big xq1 xq2).bind fun rq13 =>
  (V132 big xq1 xq3).bind fun rq14 =>
  (V101 big rq13.1 rq14.1).bind fun rq15 =>
  (V99 big rq12.1 rq15.1).bind fun rq16 =>
  cond (!rq16.1)
  (some (([a6,a7,a8],true,()),(())))
  (rec a0 a1 a6 a7 (IntKind.i64.wrap (a8+1)))))
  (k a0 a1 a6 a7)
def wbl (rec:T41) (a0:Y3) (a1:Bool) (a6 a7:Int):Z9 :=
  rec a0 a1 a6 (IntKind.i64.wrap (a7+1))
def wbn (L8:T89) (k:T44) (a0:Y3) (a1:Bool) (a6 a7:Int):Z9 :=
  cond (decide (a7<(a0.length:Int)))
  (L8 a0 a1 a6 a7 0)
  (k a0 a1 a6)
def xz (rec:T44) (a0:Y3) (a1:Bool) (a6:Int):Z9 :=
  rec a0 a1 (IntKind.i64.wrap (a6+1))
def wbm (L5:T41) (k:Z9) (a0:Y3) (a1:Bool) (a6:Int):Z9 :=
  cond (decide (a6<(a0.length:Int)))
  (L5 a0 a1 a6 0)
  (k)
def xy:Z9 :=
  some (([],false,()),(()))
def wza (L2:T44) (all_0:Y3) (modular_1:Bool):Z9 :=
  L2 all_0 modular_1 0
def wvw (N:Nat) (k:T41):=itN (fun r=>wfj r k) fun _ _ _ _ _=>none
def wfh (N:Nat) (rec:T41) (k:T44):=wvw N (wbl rec) N
def wvv (N:Nat) (k:T44):=itN (fun r=>wbn (wfh N r k) k) fun _ _ _ _=>none
def wfg (N:Nat) (rec:T44) (k:Z9):=wvv N (xz rec) N
def wvu (N:Nat) (k:Z9):=itN (fun r=>wbm (wfg N r k) k) fun _ _ _=>none
def wvt (N:Nat):=wvu N (xy) N
def V133 (N:Nat) (all_0:Y3) (modular_1:Bool):Z9:=wza (wvt N) all_0 modular_1
def S_V133:Sig:=⟨(.pair Q11 Q16),[0,0],[],.unit,(.tup (.pair Q3 Q16)),(.p O2 .i),fun x=>V133 big x.1 x.2.1⟩
def A_V133:Cfg:=mkCfg tab [(91,S_V131),(94,S_V101),(93,S_V132),(92,S_V99)] [(4,([B4,B5]++dr 4 [B0])),(10,([B4,B5]++dr 4 [B0,B0])),(29,[]),(16,([B4,B5]++dr 4 [B0,B0,B0])),(7,([B4,B5]++dr 4 [B0])),(13,([B4,B5]++dr 4 [B0,B0]))]
noncomputable def y8 (N n:Nat) (K:Ex→St→Z9) (a0:Y3) (a1:Bool) (a6:Int):Z9:=itr A_V133 N 4 Tryz.f54 [1,0,1,0,0] n (([W4 a0,W5 a1]++ud 4 [W0 a6])++us 61) K
noncomputable def y9 (N n:Nat) (K:Ex→St→Z9) (a0:Y3) (a1:Bool) (a6 a7:Int):Z9:=itr A_V133 N 10 Tryz.f54 [1,0,1,0,0,1,0,0,1,0,0] n (([W4 a0,W5 a1]++ud 4 [W0 a6,W0 a7])++us 60) K
noncomputable def wfi (N n:Nat) (K:Ex→St→Z9) (a0:Y3) (a1:Bool) (a6 a7 a8:Int):Z9:=itr A_V133 N 16 Tryz.f54 [1,0,1,0,0,1,0,0,1,0,0,1,0,0,1,0,0] n (([W4 a0,W5 a1]++ud 4 [W0 a6,W0 a7,W0 a8])++us 59) K
noncomputable def wju:Ex→St→Z9:=finish A_V133 S_V133 Tryz.f54.results.toList
noncomputable def woq (kX:St→Z9):Z9:=kX ([]++us 68)
noncomputable def wbj (kX:St→Z9) (kO:T128):=exK wju 0 (A_V133.shape 29) kX kO
noncomputable def wor (kX:St→Z9) (a0:Y3) (a1:Bool) (a6:Int):Z9:=kX (([W4 a0,W5 a1]++ud 4 [W0 a6])++us 61)
noncomputable def wbk (kX:St→Z9) (kO:T128):=exK wju 2 (A_V133.shape 7) kX kO
noncomputable def w60 (kX:St→Z9) (a0:Y3) (a1:Bool) (a6 a7:Int):Z9:=kX (([W4 a0,W5 a1]++ud 4 [W0 a6,W0 a7])++us 60)
noncomputable def w6z (kX:St→Z9) (kO:T128):=exK wju 4 (A_V133.shape 13) kX kO
theorem w9x (N kX kO):∀n,wfi N n (w6z kX kO)=wvw N (w60 kX) n :=
 itE rfl fun m=>by kernel_rfl
noncomputable def wop (N m:Nat) (kX:St→Z9) (kO:T128):=(blockK 4 (blockK 3 (sqK A_V133 N 13 500006 Tryz.f54 [1,0,1,0,0,1,0,0,1,0,0,1,1] (itK A_V133 N 10 Tryz.f54 [1,0,1,0,0,1,0,0,1,0,0] m (wbk kX kO)))))
noncomputable def w63 (N m:Nat) (kX:St→Z9) (kO:T128) (st':St):Z9:=rn A_V133 N Tryz.f54 [1,0,1,0,0,1,0,0,1,0,0,1,1] st' (itK A_V133 N 10 Tryz.f54 [1,0,1,0,0,1,0,0,1,0,0] m (wbk kX kO))
theorem xn9 (N m kX kO) {r}(h:y9 N m (wbk kX kO)=r):wfi N N (wop N m kX kO)=wfh N r (wor kX):=by
 rw[show wfi N N (wop N m kX kO)=wfi N N (w6z (w63 N m kX kO) fun j=>(wop N m kX kO) (.exit j)) from(by funext _ _ _ _ _;exact jk7),w9x,show w60 (w63 N m kX kO)=wbl (y9 N m (wbk kX kO)) by kernel_rfl,h];rfl
theorem w9w (N kX kO):∀n,y9 N n (wbk kX kO)=wvv N (wor kX) n :=
 itE rfl fun m=>(show _=wbn (wfi N N (wop N m kX kO)) (wor kX) by kernel_rfl).trans (by rw[xn9 N m kX kO rfl]<;>rfl)
noncomputable def woo (N m:Nat) (kX:St→Z9) (kO:T128):=(blockK 2 (blockK 1 (sqK A_V133 N 7 500003 Tryz.f54 [1,0,1,0,0,1,1] (itK A_V133 N 4 Tryz.f54 [1,0,1,0,0] m (wbj kX kO)))))
noncomputable def w62 (N m:Nat) (kX:St→Z9) (kO:T128) (st':St):Z9:=rn A_V133 N Tryz.f54 [1,0,1,0,0,1,1] st' (itK A_V133 N 4 Tryz.f54 [1,0,1,0,0] m (wbj kX kO))
theorem xn8 (N m kX kO) {r}(h:y8 N m (wbj kX kO)=r):y9 N N (woo N m kX kO)=wfg N r (woq kX):=by
 rw[show y9 N N (woo N m kX kO)=y9 N N (wbk (w62 N m kX kO) fun j=>(woo N m kX kO) (.exit j)) from(by funext _ _ _ _;exact jk7),w9w,show wor (w62 N m kX kO)=xz (y8 N m (wbj kX kO)) by kernel_rfl,h];rfl
theorem w9v (N kX kO):∀n,y8 N n (wbj kX kO)=wvu N (woq kX) n :=
 itE rfl fun m=>(show _=wbm (y9 N N (woo N m kX kO)) (woq kX) by kernel_rfl).trans (by rw[xn8 N m kX kO rfl]<;>rfl)
noncomputable def won (N:Nat):=(blockK 0 (sqK A_V133 N 29 500014 Tryz.f54 [1,1] wju))
noncomputable def w61 (N:Nat) (st':St):Z9:=rn A_V133 N Tryz.f54 [1,1] st' wju
theorem xn7 (N):y8 N N (won N)=wvt N:=by
 rw[show y8 N N (won N)=y8 N N (wbj (w61 N) fun j=>(won N) (.exit j)) from(by funext _ _ _;exact jk7),w9v,show woq (w61 N)=xy by kernel_rfl];rfl
theorem run_V133 (N x):runF A_V133 N Tryz.f54 S_V133 x=V133 N x.1 x.2.1:=(show _=(wza (y8 N N (won N)) x.1 x.2.1) by kernel_rfl).trans (by rw[xn7 N];rfl)
theorem ok_V133:OK 54 S_V133:=gdR (A:=A_V133) tc Tryz.func54 (jed ⟨ok_V131,ok_V101,ok_V132,ok_V99,trivial⟩) (run_V133 big)
def xe6 (a_0:Y7):Option ((Bool×(Bool×Unit))×Unit) :=
  (V130 a_0).bind fun rq1 =>
  cond (!rq1.1.2.1)
  (some ((false,false,()),(())))
  ((V133 big rq1.1.1 false).bind fun rq2 =>
  some ((!((((),rq2.1.2).2).1),true,()),(())))
def V134 (a_0:Y7):Option ((Bool×(Bool×Unit))×Unit):=xe6 a_0
def S_V134:Sig:=⟨Q24,[0],[],.unit,(.tup (.pair .bool Q16)),.i,fun x=>V134 x.1⟩
def A_V134:Cfg:=mkCfg tab [(53,S_V130),(54,S_V133)] []
theorem run_V134 (N x):runF A_V134 N Tryz.f21 S_V134 x=V134 x.1:=by kernel_rfl
theorem ok_V134:OK 21 S_V134:=gdR (A:=A_V134) tc Tryz.func21 (jed ⟨ok_V130,ok_V133,trivial⟩) (run_V134 big)
def xe7 (a_0:Y7):Option ((Bool×(Bool×Unit))×Unit) :=
  (V95 a_0).bind fun rq1 =>
  some ((decide ((rq1.1.1.length:Int)=2),(((),rq1.1.2).2).1,()),(()))
def V135 (a_0:Y7):Option ((Bool×(Bool×Unit))×Unit):=xe7 a_0
def S_V135:Sig:=⟨Q24,[0],[],.unit,(.tup (.pair .bool Q16)),.i,fun x=>V135 x.1⟩
def A_V135:Cfg:=mkCfg tab [(71,S_V95)] []
theorem run_V135 (N x):runF A_V135 N Tryz.f55 S_V135 x=V135 x.1:=by kernel_rfl
theorem ok_V135:OK 55 S_V135:=gdR (A:=A_V135) tc Tryz.func55 (jed ⟨ok_V95,trivial⟩) (run_V135 big)
def xe8 (p_0:Y2):Option ((Bool×(Bool×Unit))×Unit) :=
  (V33 p_0).bind fun rq1 =>
  cond (!rq1.1.2.1)
  (some ((false,false,()),(())))
  ((V48 rq1.1.1).bind fun rq2 =>
  (V135 rq2.1).bind fun rq3 =>
  some ((rq3.1.1,rq3.1.2.1,()),(())))
def V136 (p_0:Y2):Option ((Bool×(Bool×Unit))×Unit):=xe8 p_0
def S_V136:Sig:=⟨Q18,[0],[],.unit,(.tup (.pair .bool Q16)),.i,fun x=>V136 x.1⟩
def A_V136:Cfg:=mkCfg tab [(28,S_V33),(38,S_V48),(55,S_V135)] []
theorem run_V136 (N x):runF A_V136 N Tryz.f22 S_V136 x=V136 x.1:=by kernel_rfl
theorem ok_V136:OK 22 S_V136:=gdR (A:=A_V136) tc Tryz.func22 (jed ⟨ok_V33,ok_V48,ok_V135,trivial⟩) (run_V136 big)
def xe9 (p_0:Y2):Option ((Bool×(Bool×Unit))×Unit) :=
  (V66 p_0).bind fun rq1 =>
  cond (!rq1.1)
  (some ((false,false,()),(())))
  ((V68 big p_0).bind fun rq2 =>
  (V103 rq2.1).bind fun rq3 =>
  some ((decide ((rq3.1.length:Int)=2),true,()),(())))
def V137 (p_0:Y2):Option ((Bool×(Bool×Unit))×Unit):=xe9 p_0
def S_V137:Sig:=⟨Q18,[0],[],.unit,(.tup (.pair .bool Q16)),.i,fun x=>V137 x.1⟩
def A_V137:Cfg:=mkCfg tab [(35,S_V66),(40,S_V68),(39,S_V103)] []
theorem run_V137 (N x):runF A_V137 N Tryz.f23 S_V137 x=V137 x.1:=by kernel_rfl
theorem ok_V137:OK 23 S_V137:=gdR (A:=A_V137) tc Tryz.func23 (jed ⟨ok_V66,ok_V68,ok_V103,trivial⟩) (run_V137 big)
def wfm (rec:T38) (k:T31) (a4:Y1) (a6:Z11) (a8:Int) (a21:Y4) (a22 a23:Int) (a30:Y4) (a31 a32:Int):Z6 :=
  cond (decide (a32<a31))
  ((atI a30 a32).bind fun _ =>
  (a30[a32.toNat]?).bind fun xq5 =>
  cond (decide (a8≠xq5))
  ((appI a6 [(a8,(xq5,()))]).bind fun xq6 =>
  rec a4 xq6 a8 a21 a22 a23 a30 a31 (IntKind.i64.wrap (a32+1)))
  (rec a4 a6 a8 a21 a22 a23 a30 a31 (IntKind.i64.wrap (a32+1))))
  (k a4 a6 a21 a22 a23)
def wbp (rec:T31) (a4:Y1) (a6:Z11) (a21:Y4) (a22 a23:Int):Z6 :=
  rec a4 a6 a21 a22 (IntKind.i64.wrap (a23+1))
def wbq (L9:T38) (k:Z11→Z6) (a4:Y1) (a6:Z11) (a21:Y4) (a22 a23:Int):Z6 :=
  cond (decide (a23<a22))
  ((atI a21 a23).bind fun _ =>
  (a21[a23.toNat]?).bind fun xq3 =>
  (V55 a4 [xq3]).bind fun rq4 =>
  L9 a4 a6 xq3 a21 a22 a23 rq4.1 (rq4.1.length:Int) 0)
  (k a6)
def x5 (a6:Z11):Z6 :=
  some ((a6,true,()),(()))
def wzb (L6:T31) (p_0:Y2):Z6 :=
  (V33 p_0).bind fun rq1 =>
  cond (!rq1.1.2.1)
  (some (([],false,()),(())))
  ((V41 rq1.1.1).bind fun rq2 =>
  L6 rq1.1.1 [] rq2.1 (rq2.1.length:Int) 0)
def wvy (N:Nat) (k:T31):=itN (fun r=>wfm r k) fun _ _ _ _ _ _ _ _ _=>none
def wfk (N:Nat) (rec:T31) (k:Z11→Z6):=wvy N (wbp rec) N
def wvx (N:Nat) (k:Z11→Z6):=itN (fun r=>wbq (wfk N r k) k) fun _ _ _ _ _=>none
def wos (N:Nat):=wvx N (x5) N
def V138 (N:Nat) (p_0:Y2):Z6:=wzb (wos N) p_0
def S_V138:Sig:=⟨Q18,[0],[],.unit,(.tup (.pair Q7 Q16)),(.p O2 .i),fun x=>V138 big x.1⟩
def A_V138:Cfg:=mkCfg tab [(28,S_V33),(29,S_V41),(56,S_V55)] [(12,(dr 4 ([.as Q10 .i,D0,B10]++dr 14 [B1,B0,B0]))),(18,(dr 4 ([.as Q10 .i,D0,B10,D0,B0]++dr 12 ([B1,B0,B0]++dr 6 [B1,B0,B0])))),(31,(dr 6 [B10])),(29,(dr 4 ([.as Q10 .i,D0,B10]++dr 14 [B1,B0,B0])))]
noncomputable def za (N n:Nat) (K:Ex→St→Z6) (a4:Y1) (a6:Z11) (a21:Y4) (a22 a23:Int):Z6:=itr A_V138 N 12 Tryz.f24 [1,1,1,1,0,1,0,0] n ((ud 4 ([.val Q10 .i a4,.u,W10 a6]++ud 14 [W1 a21,W0 a22,W0 a23]))++us 24) K
noncomputable def wfl (N n:Nat) (K:Ex→St→Z6) (a4:Y1) (a6:Z11) (a8:Int) (a21:Y4) (a22 a23:Int) (a30:Y4) (a31 a32:Int):Z6:=itr A_V138 N 18 Tryz.f24 [1,1,1,1,0,1,0,0,1,1,0,0,1,1,0,0] n ((ud 4 ([.val Q10 .i a4,.u,W10 a6,.u,W0 a8]++ud 12 ([W1 a21,W0 a22,W0 a23]++ud 6 [W1 a30,W0 a31,W0 a32])))++us 15) K
noncomputable def wqy:Ex→St→Z6:=finish A_V138 S_V138 Tryz.f24.results.toList
noncomputable def wov (kX:T132) (a6:Z11):Z6:=kX ((ud 6 [W10 a6])++us 41)
noncomputable def wbo (kX:T132) (kO:T113):=exK wqy 0 (A_V138.shape 31) kX kO
noncomputable def w65 (kX:T132) (a4:Y1) (a6:Z11) (a21:Y4) (a22 a23:Int):Z6:=kX ((ud 4 ([.val Q10 .i a4,.u,W10 a6]++ud 14 [W1 a21,W0 a22,W0 a23]))++us 24)
noncomputable def w64 (kX:T132) (kO:T113):=exK wqy 2 (A_V138.shape 29) kX kO
theorem w9z (N kX kO):∀n,wfl N n (w64 kX kO)=wvy N (w65 kX) n :=
 itE rfl fun m=>by kernel_rfl
noncomputable def wou (N m:Nat) (kX:T132) (kO:T113):=(blockK 2 (blockK 1 (sqK A_V138 N 29 500014 Tryz.f24 [1,1,1,1,0,1,0,0,1,1,1] (itK A_V138 N 12 Tryz.f24 [1,1,1,1,0,1,0,0] m (wbo kX kO)))))
noncomputable def w67 (N m:Nat) (kX:T132) (kO:T113) (st':St):Z6:=rn A_V138 N Tryz.f24 [1,1,1,1,0,1,0,0,1,1,1] st' (itK A_V138 N 12 Tryz.f24 [1,1,1,1,0,1,0,0] m (wbo kX kO))
theorem xob (N m kX kO) {r}(h:za N m (wbo kX kO)=r):wfl N N (wou N m kX kO)=wfk N r (wov kX):=by
 rw[show wfl N N (wou N m kX kO)=wfl N N (w64 (w67 N m kX kO) fun j=>(wou N m kX kO) (.exit j)) from(by funext _ _ _ _ _ _ _ _ _;exact jk7),w9z,show w65 (w67 N m kX kO)=wbp (za N m (wbo kX kO)) by kernel_rfl,h];rfl
theorem w9y (N kX kO):∀n,za N n (wbo kX kO)=wvx N (wov kX) n :=
 itE rfl fun m=>(show _=wbq (wfl N N (wou N m kX kO)) (wov kX) by kernel_rfl).trans (by rw[xob N m kX kO rfl]<;>rfl)
noncomputable def wot (N:Nat):=(blockK 0 (sqK A_V138 N 31 500015 Tryz.f24 [1,1,1,1,1] wqy))
noncomputable def w66 (N:Nat) (st':St):Z6:=rn A_V138 N Tryz.f24 [1,1,1,1,1] st' wqy
theorem xoa (N):za N N (wot N)=wos N:=by
 rw[show za N N (wot N)=za N N (wbo (w66 N) fun j=>(wot N) (.exit j)) from(by funext _ _ _ _ _;exact jk7),w9y,show wov (w66 N)=x5 by kernel_rfl];rfl
theorem run_V138 (N x):runF A_V138 N Tryz.f24 S_V138 x=V138 N x.1:=(show _=(wzb (za N N (wot N)) x.1) by kernel_rfl).trans (by rw[xoa N];rfl)
theorem ok_V138:OK 24 S_V138:=gdR (A:=A_V138) tc Tryz.func24 (jed ⟨ok_V33,ok_V41,ok_V55,trivial⟩) (run_V138 big)
def wcw (rec:T78) (k:T46) (a1:Y2) (a4:Z11) (a5:Y4) (a6:Int) (a7:Y4) (a8:Int):Z6 :=
  cond (decide (a8<(a7.length:Int)))
  ((atI a7 a8).bind fun _ =>
  (a7[a8.toNat]?).bind fun xq5 =>
  (atI a5 a6).bind fun _ =>
  (a5[a6.toNat]?).bind fun xq6 =>
  cond (decide (xq5≠xq6))
  ((atI a5 a6).bind fun _ =>
  (a5[a6.toNat]?).bind fun xq7 =>
  (atI a7 a8).bind fun _ =>
  (a7[a8.toNat]?).bind fun xq8 =>
  (appI a4 [(xq7,(xq8,()))]).bind fun xq9 =>
  rec a1 xq9 a5 a6 a7 (IntKind.i64.wrap (a8+1)))
  (rec a1 a4 a5 a6 a7 (IntKind.i64.wrap (a8+1))))
  (k a1 a4 a5 a6)
def zd (rec:T46) (a1:Y2) (a4:Z11) (a5:Y4) (a6:Int):Z6 :=
  rec a1 a4 a5 (IntKind.i64.wrap (a6+1))
def wbs (L10:T78) (k:Z11→Z6) (a1:Y2) (a4:Z11) (a5:Y4) (a6:Int):Z6 :=
  cond (decide (a6<(a5.length:Int)))
  ((atI a5 a6).bind fun _ =>
  (a5[a6.toNat]?).bind fun xq3 =>
  (V81 a1 xq3).bind fun rq4 =>
  L10 a1 a4 a5 a6 rq4.1 0)
  (k a4)
def x6 (a4:Z11):Z6 :=
  some ((a4,true,()),(()))
def wzf (L6:T46) (p_0:Y2):Z6 :=
  (V66 p_0).bind fun rq1 =>
  cond (!rq1.1)
  (some (([],false,()),(())))
  ((V67 big p_0).bind fun rq2 =>
  L6 p_0 [] rq2.1 0)
def wp9 (N:Nat) (k:T46):=itN (fun r=>wcw r k) fun _ _ _ _ _ _=>none
def wcu (N:Nat) (rec:T46) (k:Z11→Z6):=wp9 N (zd rec) N
def wvz (N:Nat) (k:Z11→Z6):=itN (fun r=>wbs (wcu N r k) k) fun _ _ _ _=>none
def wow (N:Nat):=wvz N (x6) N
def V139 (N:Nat) (p_0:Y2):Z6:=wzf (wow N) p_0
def S_V139:Sig:=⟨Q18,[0],[],.unit,(.tup (.pair Q7 Q16)),(.p O2 .i),fun x=>V139 big x.1⟩
def A_V139:Cfg:=mkCfg tab [(35,S_V66),(57,S_V67),(58,S_V81)] [(12,[D0,B6,D0,D0,B10,B1,B0]),(20,[D0,B6,D0,D0,B10,B1,B0,B1,B0]),(29,(dr 4 [B10])),(15,[D0,B6,D0,D0,B10,B1,B0])]
noncomputable def zb (N n:Nat) (K:Ex→St→Z6) (a1:Y2) (a4:Z11) (a5:Y4) (a6:Int):Z6:=itr A_V139 N 12 Tryz.f25 [1,1,1,1,0,1,0,0] n ([.u,W6 a1,.u,.u,W10 a4,W1 a5,W0 a6]++us 49) K
noncomputable def wcv (N n:Nat) (K:Ex→St→Z6) (a1:Y2) (a4:Z11) (a5:Y4) (a6:Int) (a7:Y4) (a8:Int):Z6:=itr A_V139 N 20 Tryz.f25 [1,1,1,1,0,1,0,0,1,0,0,1,1,0,0] n ([.u,W6 a1,.u,.u,W10 a4,W1 a5,W0 a6,W1 a7,W0 a8]++us 47) K
noncomputable def wqz:Ex→St→Z6:=finish A_V139 S_V139 Tryz.f25.results.toList
noncomputable def woy (kX:T132) (a4:Z11):Z6:=kX ((ud 4 [W10 a4])++us 51)
noncomputable def wbr (kX:T132) (kO:T113):=exK wqz 0 (A_V139.shape 29) kX kO
noncomputable def wzd (kX:T132) (a1:Y2) (a4:Z11) (a5:Y4) (a6:Int):Z6:=kX ([.u,W6 a1,.u,.u,W10 a4,W1 a5,W0 a6]++us 49)
noncomputable def wzc (kX:T132) (kO:T113):=exK wqz 2 (A_V139.shape 15) kX kO
theorem w4b (N kX kO):∀n,wcv N n (wzc kX kO)=wp9 N (wzd kX) n :=
 itE rfl fun m=>by kernel_rfl
noncomputable def wi9 (N m:Nat) (kX:T132) (kO:T113):=(blockK 2 (blockK 1 (sqK A_V139 N 15 500007 Tryz.f25 [1,1,1,1,0,1,0,0,1,1] (itK A_V139 N 12 Tryz.f25 [1,1,1,1,0,1,0,0] m (wbr kX kO)))))
noncomputable def wze (N m:Nat) (kX:T132) (kO:T113) (st':St):Z6:=rn A_V139 N Tryz.f25 [1,1,1,1,0,1,0,0,1,1] st' (itK A_V139 N 12 Tryz.f25 [1,1,1,1,0,1,0,0] m (wbr kX kO))
theorem xfa (N m kX kO) {r}(h:zb N m (wbr kX kO)=r):wcv N N (wi9 N m kX kO)=wcu N r (woy kX):=by
 rw[show wcv N N (wi9 N m kX kO)=wcv N N (wzc (wze N m kX kO) fun j=>(wi9 N m kX kO) (.exit j)) from(by funext _ _ _ _ _ _;exact jk7),w4b,show wzd (wze N m kX kO)=zd (zb N m (wbr kX kO)) by kernel_rfl,h];rfl
theorem w90 (N kX kO):∀n,zb N n (wbr kX kO)=wvz N (woy kX) n :=
 itE rfl fun m=>(show _=wbs (wcv N N (wi9 N m kX kO)) (woy kX) by kernel_rfl).trans (by rw[xfa N m kX kO rfl]<;>rfl)
noncomputable def wox (N:Nat):=(blockK 0 (sqK A_V139 N 29 500014 Tryz.f25 [1,1,1,1,1] wqz))
noncomputable def w68 (N:Nat) (st':St):Z6:=rn A_V139 N Tryz.f25 [1,1,1,1,1] st' wqz
theorem xod (N):zb N N (wox N)=wow N:=by
 rw[show zb N N (wox N)=zb N N (wbr (w68 N) fun j=>(wox N) (.exit j)) from(by funext _ _ _ _;exact jk7),w90,show woy (w68 N)=x6 by kernel_rfl];rfl
theorem run_V139 (N x):runF A_V139 N Tryz.f25 S_V139 x=V139 N x.1:=(show _=(wzf (zb N N (wox N)) x.1) by kernel_rfl).trans (by rw[xod N];rfl)
theorem ok_V139:OK 25 S_V139:=gdR (A:=A_V139) tc Tryz.func25 (jed ⟨ok_V66,ok_V67,ok_V81,trivial⟩) (run_V139 big)
def wfo (rec:T66) (k:Z0) (a0:Y4) (a1 a5:Int):Z0 :=
  cond (decide (a5<(a0.length:Int)))
  ((atI a0 a5).bind fun xq1 =>
  cond (decide (xq1=a1))
  (some (true,(())))
  (rec a0 a1 (IntKind.i64.wrap (a5+1))))
  (k)
def wbt:Z0 :=
  some (false,(()))
def wzg (L2:T66) (list_0:Y4) (x_1:Int):Z0 :=
  L2 list_0 x_1 0
def wv1 (N:Nat) (k:Z0):=itN (fun r=>wfo r k) fun _ _ _=>none
def wv0 (N:Nat):=wv1 N (wbt) N
def V140 (N:Nat) (list_0:Y4) (x_1:Int):Z0:=wzg (wv0 N) list_0 x_1
def S_V140:Sig:=⟨(.pair Q3 Q15),[0,0],[],.unit,.bool,.i,fun x=>V140 big x.1 x.2.1⟩
def A_V140:Cfg:=mkCfg tab [] [(4,([B2,B0]++dr 3 [B0])),(13,[])]
noncomputable def wfn (N n:Nat) (K:T8) (a0:Y4) (a1 a5:Int):Z0:=itr A_V140 N 4 Tryz.f26 [1,0,1,0,0] n (([W2 a0,W0 a1]++ud 3 [W0 a5])++us 12) K
noncomputable def wzh:Ex→St→Z0:=finish A_V140 S_V140 Tryz.f26.results.toList
noncomputable def w7a (kX:T1):Z0:=kX ([]++us 18)
noncomputable def w69 (kX:T1) (kO:T0):=exK wzh 0 (A_V140.shape 13) kX kO
theorem w91 (N kX kO):∀n,wfn N n (w69 kX kO)=wv1 N (w7a kX) n :=
 itE rfl fun m=>by kernel_rfl
noncomputable def woz (N:Nat):=(blockK 0 (sqK A_V140 N 13 500006 Tryz.f26 [1,1] wzh))
noncomputable def w7b (N:Nat) (st':St):Z0:=rn A_V140 N Tryz.f26 [1,1] st' wzh
theorem xoe (N):wfn N N (woz N)=wv0 N:=by
 rw[show wfn N N (woz N)=wfn N N (w69 (w7b N) fun j=>(woz N) (.exit j)) from(by funext _ _ _;exact jk7),w91,show w7a (w7b N)=wbt by kernel_rfl];rfl
theorem run_V140 (N x):runF A_V140 N Tryz.f26 S_V140 x=V140 N x.1 x.2.1:=(show _=(wzg (wfn N N (woz N)) x.1 x.2.1) by kernel_rfl).trans (by rw[xoe N];rfl)
theorem ok_V140:OK 26 S_V140:=gdR (A:=A_V140) tc Tryz.func26 (jed trivial) (run_V140 big)
def wiz (rec:T93) (k:T43) (a4:Y3) (a31 a33:Z11) (a35 a36:Int):Z0 :=
  cond (decide (a36<(a4.length:Int)))
  ((atI a4 a36).bind fun _ =>
  (a4[a36.toNat]?).bind fun xq34 =>
  (atI a31 a35).bind fun _ =>
  (a31[a35.toNat]?).bind fun xq35 =>
  (a31[a35.toNat]?).bind fun xq36 =>
  (a4[a36.toNat]?).bind fun xq37 =>
  (V140 big xq37 xq36.1).bind fun rq38 =>
  cond rq38.1
  ((atI a4 a36).bind fun _ =>
  (a4[a36.toNat]?).bind fun xq39 =>
  (atI a31 a35).bind fun _ =>
  (a31[a35.toNat]?).bind fun xq40 =>
  (a31[a35.toNat]?).bind fun xq41 =>
  (a4[a36.toNat]?).bind fun xq42 =>
  (V140 big xq42 xq41.2.1).bind fun rq43 =>
  cond (!rq43.1)
  (some (false,(())))
  (rec a4 a31 a33 a35 (IntKind.i64.wrap (a36+1))))
  (rec a4 a31 a33 a35 (IntKind.i64.wrap (a36+1))))
  (k a4 a31 a33 a35)
def wce (rec:T43) (a4:Y3) (a31 a33:Z11) (a35:Int):Z0 :=
  rec a4 a31 a33 (IntKind.i64.wrap (a35+1))
def wcf (L46:T93) (k:Z0) (a4:Y3) (a31 a33:Z11) (a35:Int):Z0 :=
  cond (decide (a35<(a31.length:Int)))
  ((atI a31 a35).bind fun _ =>
  (a31[a35.toNat]?).bind fun xq32 =>
  (atI a33 a35).bind fun _ =>
  (a33[a35.toNat]?).bind fun xq33 =>
  cond (!(eqD Q22 xq32 xq33))
  (some (false,(())))
  (L46 a4 a31 a33 a35 0))
  (k)
def ya:Z0 :=
  some (true,(()))
def wiy (rec:T124) (k:Y2→Y3→Z0) (a3:Y2) (a4 a8:Y3) (a12:Int):Z0 :=
  cond (decide (a12<(a4.length:Int)))
  ((atI a4 a12).bind fun _ =>
  (a4[a12.toNat]?).bind fun xq9 =>
  (a4[a12.toNat]?).bind fun xq10 =>
  (V105 a3 xq10).bind fun rq11 =>
  (V108 a3 rq11.1.1).bind fun rq12 =>
  cond (!rq11.1.2.1)
  (some (false,(())))
  (cond (!((((),rq12.1.2).2).1))
  (some (false,(())))
  ((V109 big a8 rq11.1.1).bind fun rq13 =>
  cond (decide (rq13.1<0))
  (some (false,(())))
  ((atI a4 a12).bind fun _ =>
  (a4[a12.toNat]?).bind fun xq14 =>
  (a4[a12.toNat]?).bind fun xq15 =>
  (V86 big rq12.1.1 xq15).bind fun rq16 =>
  cond (!rq16.1)
  (some (false,(())))
  ((V112 big a3 rq11.1.1).bind fun rq17 =>
  cond (!((((),rq17.1.2).2).1))
  (some (false,(())))
  ((V113 rq17.1.1).bind fun rq18 =>
  cond (!rq18.1)
  (some (false,(())))
  (rec a3 a4 a8 (IntKind.i64.wrap (a12+1)))))))))
  (k a3 a4)
def wcd (L41:T43) (a3:Y2) (a4:Y3):Z0 :=
  (V114 a3).bind fun rq19 =>
  (V115 a3).bind fun rq20 =>
  cond (((((),rq19.1.2).2).1) != rq20.1.2.1)
  (some (false,(())))
  (cond (!((((),rq19.1.2).2).1))
  (some (false,(())))
  ((V118 rq19.1.1 rq20.1.1).bind fun rq21 =>
  cond (!rq21.1)
  (some (false,(())))
  ((V126 rq19.1.1).bind fun rq22 =>
  (V134 rq19.1.1).bind fun rq23 =>
  cond (rq22.1.1 != rq23.1.1)
  (some (false,(())))
  (cond (rq22.1.2.1 != rq23.1.2.1)
  (some (false,(())))
  (cond rq22.1.2.1
  (cond (!rq22.1.1)
  (some (false,(())))
  ((V136 a3).bind fun rq24 =>
  (V137 a3).bind fun rq25 =>
  cond (rq24.1.1 != rq25.1.1)
  (some (false,(())))
  (cond (rq24.1.2.1 != rq25.1.2.1)
  (some (false,(())))
  (cond (!rq24.1.2.1)
  (some (false,(())))
  (cond (rq24.1.1 != (decide ((a4.length:Int)=2)))
  (some (false,(())))
  ((V138 big a3).bind fun rq26 =>
  (V139 big a3).bind fun rq27 =>
  cond (((((),rq26.1.2).2).1) != ((((),rq27.1.2).2).1))
  (some (false,(())))
  (cond (!((((),rq26.1.2).2).1))
  (some (false,(())))
  (cond (decide ((rq26.1.1.length:Int)≠(rq27.1.1.length:Int)))
  (some (false,(())))
  (L41 a4 rq26.1.1 rq27.1.1 0)))))))))
  ((V136 a3).bind fun rq28 =>
  (V137 a3).bind fun rq29 =>
  cond (rq28.1.1 != rq29.1.1)
  (some (false,(())))
  (cond (rq28.1.2.1 != rq29.1.2.1)
  (some (false,(())))
  (cond (!rq28.1.2.1)
  (some (false,(())))
  (cond (rq28.1.1 != (decide ((a4.length:Int)=2)))
  (some (false,(())))
  ((V138 big a3).bind fun rq30 =>
  (V139 big a3).bind fun rq31 =>
  cond (((((),rq30.1.2).2).1) != ((((),rq31.1.2).2).1))
  (some (false,(())))
  (cond (!((((),rq30.1.2).2).1))
  (some (false,(())))
  (cond (decide ((rq30.1.1.length:Int)≠(rq31.1.1.length:Int)))
  (some (false,(())))
  (L41 a4 rq30.1.1 rq31.1.1 0)))))))))))))
def xdg (L15:T124) (code_0:Y4):Z0 :=
  (V0 code_0).bind fun rq1 =>
  cond rq1.1
  (some (true,(())))
  ((V21 code_0).bind fun rq2 =>
  (V59 big rq2.1).bind fun rq3 =>
  (V85 rq2.1).bind fun rq4 =>
  cond (((((),rq3.1.2).2).1) != rq4.1.2.1)
  (some (false,(())))
  ((V87 big rq3.1.1 rq4.1.1).bind fun rq5 =>
  cond (!rq5.1)
  (some (false,(())))
  ((V97 rq2.1).bind fun rq6 =>
  (V104 rq2.1).bind fun rq7 =>
  cond (((((),rq6.1.2).2).1) != rq7.1.2.1)
  (some (false,(())))
  (cond (((((),rq6.1.2).2).1) != ((((),rq3.1.2).2).1))
  (some (false,(())))
  ((V87 big rq6.1.1 rq7.1.1).bind fun rq8 =>
  cond (!rq8.1)
  (some (false,(())))
  (cond (decide ((rq6.1.1.length:Int)≠(rq3.1.1.length:Int)))
  (some (false,(())))
  (cond (!((((),rq3.1.2).2).1))
  (some (true,(())))
  (L15 rq2.1 rq3.1.1 rq6.1.1 0))))))))
def wwh (N:Nat) (k:T43):=itN (fun r=>wiz r k) fun _ _ _ _ _=>none
def wiv (N:Nat) (rec:T43) (k:Z0):=wwh N (wce rec) N
def wwf (N:Nat) (k:Y2→Y3→Z0):=itN (fun r=>wiy r k) fun _ _ _ _=>none
def wwg (N:Nat) (k:Z0):=itN (fun r=>wcf (wiv N r k) k) fun _ _ _ _=>none
def zh (N:Nat):=wwg N (ya) N
def wwe (N:Nat):=wwf N (wcd (zh N)) N
def laws_FnForcing (N:Nat) (code_0:Y4):Z0:=xdg (wwe N) code_0
def S_laws_FnForcing:Sig:=⟨(.pair (.sl (.int .u8)) .unit),[0],[],.unit,.bool,.i,fun x=>laws_FnForcing big x.1⟩
def A_Vx0:Cfg:=mkCfg tab [(4,S_V0),(5,S_V21),(6,S_V59),(7,S_V85),(8,S_V87),(9,S_V97),(10,S_V104),(11,S_V105),(12,S_V108),(13,S_V109),(14,S_V86),(15,S_V112),(16,S_V113),(17,S_V114),(18,S_V115),(19,S_V118),(20,S_V126),(21,S_V134),(22,S_V136),(23,S_V137),(24,S_V138),(25,S_V139),(26,S_V140)] [(30,(dr 3 ([B6,B7]++dr 3 ([B7]++dr 3 [B0])))),(49,(dr 3 [B6,B7])),(82,(dr 4 ([B7]++dr 26 [B10,D0,B10,D0,B0]))),(92,(dr 4 ([B7]++dr 26 [B10,D0,B10,D0,B0,B0]))),(101,[]),(85,(dr 4 ([B7]++dr 26 [B10,D0,B10,D0,B0])))]
noncomputable def wiw (N n:Nat) (K:T8) (a3:Y2) (a4 a8:Y3) (a12:Int):Z0:=itr A_Vx0 N 30 Tryz.f3 [1,1,1,1,1,1,1,1,0,1,0,0] n ((ud 3 ([W6 a3,W7 a4]++ud 3 ([W7 a8]++ud 3 [W0 a12])))++us 280) K
noncomputable def zi (N n:Nat) (K:T8) (a4:Y3) (a31 a33:Z11) (a35:Int):Z0:=itr A_Vx0 N 82 Tryz.f3 [1,1,1,1,1,1,1,1,1,1,1,1,1,1,1,1,1,1,0,1,0,0] n ((ud 4 ([W7 a4]++ud 26 [W10 a31,.u,W10 a33,.u,W0 a35]))++us 257) K
noncomputable def wix (N n:Nat) (K:T8) (a4:Y3) (a31 a33:Z11) (a35 a36:Int):Z0:=itr A_Vx0 N 92 Tryz.f3 [1,1,1,1,1,1,1,1,1,1,1,1,1,1,1,1,1,1,0,1,0,0,1,0,0,1,1,0,0] n ((ud 4 ([W7 a4]++ud 26 [W10 a31,.u,W10 a33,.u,W0 a35,W0 a36]))++us 256) K
noncomputable def wjc:Ex→St→Z0:=finish A_Vx0 S_laws_FnForcing Tryz.f3.results.toList
noncomputable def w78 (kX:T1) (a3:Y2) (a4:Y3):Z0:=kX ((ud 3 [W6 a3,W7 a4])++us 288)
noncomputable def w76 (kX:T1) (kO:T0):=exK wjc 0 (A_Vx0.shape 49) kX kO
noncomputable def wpp (kX:T1):Z0:=kX ([]++us 293)
noncomputable def wcc (kX:T1) (kO:T0):=exK wjc 2 (A_Vx0.shape 101) kX kO
noncomputable def w79 (kX:T1) (a4:Y3) (a31 a33:Z11) (a35:Int):Z0:=kX ((ud 4 ([W7 a4]++ud 26 [W10 a31,.u,W10 a33,.u,W0 a35]))++us 257)
noncomputable def w77 (kX:T1) (kO:T0):=exK wjc 4 (A_Vx0.shape 85) kX kO
theorem xdd (N kX kO):∀n,wiw N n (w76 kX kO)=wwf N (w78 kX) n :=
 itE rfl fun m=>by kernel_rfl
noncomputable def wpm (N:Nat):=(blockK 0 (sqK A_Vx0 N 49 500024 Tryz.f3 [1,1,1,1,1,1,1,1,1] wjc))
theorem xdf (N kX kO):∀n,wix N n (w77 kX kO)=wwh N (w79 kX) n :=
 itE rfl fun m=>by kernel_rfl
noncomputable def wpo (N m:Nat) (kX:T1) (kO:T0):=(blockK 4 (blockK 3 (sqK A_Vx0 N 85 500042 Tryz.f3 [1,1,1,1,1,1,1,1,1,1,1,1,1,1,1,1,1,1,0,1,0,0,1,1] (itK A_Vx0 N 82 Tryz.f3 [1,1,1,1,1,1,1,1,1,1,1,1,1,1,1,1,1,1,0,1,0,0] m (wcc kX kO)))))
noncomputable def w8c (N m:Nat) (kX:T1) (kO:T0) (st':St):Z0:=rn A_Vx0 N Tryz.f3 [1,1,1,1,1,1,1,1,1,1,1,1,1,1,1,1,1,1,0,1,0,0,1,1] st' (itK A_Vx0 N 82 Tryz.f3 [1,1,1,1,1,1,1,1,1,1,1,1,1,1,1,1,1,1,0,1,0,0] m (wcc kX kO))
theorem xoz (N m kX kO) {r}(h:zi N m (wcc kX kO)=r):wix N N (wpo N m kX kO)=wiv N r (wpp kX):=by
 rw[show wix N N (wpo N m kX kO)=wix N N (w77 (w8c N m kX kO) fun j=>(wpo N m kX kO) (.exit j)) from(by funext _ _ _ _ _;exact jk7),xdf,show w79 (w8c N m kX kO)=wce (zi N m (wcc kX kO)) by kernel_rfl,h];rfl
theorem xde (N kX kO):∀n,zi N n (wcc kX kO)=wwg N (wpp kX) n :=
 itE rfl fun m=>(show _=wcf (wix N N (wpo N m kX kO)) (wpp kX) by kernel_rfl).trans (by rw[xoz N m kX kO rfl]<;>rfl)
noncomputable def wpn (N:Nat):=(blockK 2 (sqK A_Vx0 N 101 500050 Tryz.f3 [1,1,1,1,1,1,1,1,1,1,1,1,1,1,1,1,1,1,1] wjc))
noncomputable def w8b (N:Nat) (st':St):Z0:=rn A_Vx0 N Tryz.f3 [1,1,1,1,1,1,1,1,1,1,1,1,1,1,1,1,1,1,1] st' wjc
theorem xoy (N):zi N N (wpn N)=zh N:=by
 rw[show zi N N (wpn N)=zi N N (wcc (w8b N) fun j=>(wpn N) (.exit j)) from(by funext _ _ _ _;exact jk7),xde,show wpp (w8b N)=ya by kernel_rfl];rfl
noncomputable def w8a (N:Nat) (st':St):Z0:=rn A_Vx0 N Tryz.f3 [1,1,1,1,1,1,1,1,1] st' wjc
theorem xox (N):wiw N N (wpm N)=wwe N:=by
 rw[show wiw N N (wpm N)=wiw N N (w76 (w8a N) fun j=>(wpm N) (.exit j)) from(by funext _ _ _ _;exact jk7),xdd,show w78 (w8a N)=wcd (zi N N (wpn N)) by kernel_rfl,xoy N];rfl
theorem run_laws_FnForcing (N x):runF A_Vx0 N Tryz.f3 S_laws_FnForcing x=laws_FnForcing N x.1:=(show _=(xdg (wiw N N (wpm N)) x.1) by kernel_rfl).trans (by rw[xox N];rfl)
theorem ok_laws_FnForcing:OK 3 S_laws_FnForcing:=gdR (A:=A_Vx0) tc Tryz.func3 (jed ⟨ok_V0,ok_V21,ok_V59,ok_V85,ok_V87,ok_V97,ok_V104,ok_V105,ok_V108,ok_V109,ok_V86,ok_V112,ok_V113,ok_V114,ok_V115,ok_V118,ok_V126,ok_V134,ok_V136,ok_V137,ok_V138,ok_V139,ok_V140,trivial⟩) (run_laws_FnForcing big)
theorem good_laws_FnForcing:Gx.Good Tryz.prog 3 S_laws_FnForcing:=ok_laws_FnForcing.2
end
end Go.Proofs.YtaehhdpcmfagjaaGreat
