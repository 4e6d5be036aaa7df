import Derived.Test.YtmebolidmeljeaaGreatVBM
set_option maxRecDepth 100000
set_option linter.unusedVariables false
namespace Go.Proofs.YtmebolidmeljeaaGreat
open Go Go.Gx Go.Proofs
noncomputable section
def wcr (rec:T99) (k:Y3→Z9) (a4:Y1) (a6:Y4) (a7:Y3) (a8:Int):Z9 :=
  (a4).bind fun xq3 =>
  (shlI IntKind.i64 1 (xq3.1.length:Int)).bind fun xq4 =>
  cond (decide (a8<xq4))
  ((V93 big a8).bind fun rq5 =>
  (V97 a4 rq5.1).bind fun rq6 =>
  cond rq6.1
  ((V54 big a4).bind fun rq7 =>
  (V98 big rq5.1 rq7.1).bind fun rq8 =>
  cond (!rq8.1)
  ((V99 big rq5.1 a6).bind fun rq9 =>
  (V100 big rq9.1 rq5.1).bind fun rq10 =>
  cond rq10.1
  ((appI a7 [rq5.1]).bind fun xq11 =>
  rec a4 a6 xq11 (IntKind.i64.wrap (a8+1)))
  (rec a4 a6 a7 (IntKind.i64.wrap (a8+1))))
  (rec a4 a6 a7 (IntKind.i64.wrap (a8+1))))
  (rec a4 a6 a7 (IntKind.i64.wrap (a8+1))))
  (k a7)
def zy (a7:Y3):Z9 :=
  (qg a7 ()).bind fun rq12 =>
  some ((rq12.2.1,true,()),(()))
def wm1 (L7:T99) (p_0:Y2):Z9 :=
  (V64 p_0).bind fun rq1 =>
  cond (!rq1.1.2.1)
  (some (([],false,()),(())))
  ((V92 big rq1.1.1).bind fun rq2 =>
  L7 rq1.1.1 rq2.1 [] 0)
def wrs (N:Nat) (k:Y3→Z9):=itN (fun r=>wcr r k) fun _ _ _ _=>none
def wld (N:Nat):=wrs N (zy) N
def V101 (N:Nat) (p_0:Y2):Z9:=wm1 (wld N) p_0
def S_V101:Sig:=⟨Q10,[0],[],.unit,(.tup (.pair Q15 Q12)),(.p O11 .i),fun x=>V101 big x.1⟩
def A_V101:Cfg:=mkCfg tab [(40,S_V64),(41,S_V92),(42,S_V93),(43,S_V97),(45,S_V54),(44,S_V98),(47,S_V99),(46,S_V100),(48,wz)] [(14,(dr 4 [B5,D0,B1,.as Q15 O11,B0])),(25,(dr 7 [.as Q15 O11]))]
noncomputable def wcq (N n:Nat) (K:Ex→St→Z9) (a4:Y1) (a6:Y4) (a7:Y3) (a8:Int):Z9:=itr A_V101 N 14 Tryz.f14 [1,1,1,1,1,0,1,0,0] n ((ud 4 [W5 a4,.u,W1 a6,.val Q15 O11 a7,W0 a8])++us 48) K
noncomputable def wua:Ex→St→Z9:=finish A_V101 S_V101 Tryz.f14.results.toList
noncomputable def wzq (kX:St→Z9) (a7:Y3):Z9:=kX ((ud 7 [.val Q15 O11 a7])++us 49)
noncomputable def wzp (kX:St→Z9) (kO:T106):=exK wua 0 (A_V101.shape 25) kX kO
theorem w13 (N kX kO):∀n,wcq N n (wzp kX kO)=wrs N (wzq kX) n :=
 itE rfl fun m=>by kernel_rfl
noncomputable def wlf (N:Nat):=(blockK 0 (sqK A_V101 N 25 500012 Tryz.f14 [1,1,1,1,1,1] wua))
noncomputable def wzr (N:Nat) (st':St):Z9:=rn A_V101 N Tryz.f14 [1,1,1,1,1,1] st' wua
theorem xes (N):wcq N N (wlf N)=wld N:=by
 rw[show wcq N N (wlf N)=wcq N N (wzp (wzr N) fun j=>(wlf N) (.exit j)) from(by funext _ _ _ _;exact jlo),w13,show wzq (wzr N)=zy by kernel_rfl];rfl
theorem run_V101 (N x):runF A_V101 N Tryz.f14 S_V101 x=V101 N x.1:=(show _=(wm1 (wcq N N (wlf N)) x.1) by kernel_rfl).trans (by rw[xes N];rfl)
theorem ok_V101:OK 14 S_V101:=gdR (A:=A_V101) tc Tryz.func14 (jeq ⟨ok_V64,ok_V92,ok_V93,ok_V97,ok_V54,ok_V98,ok_V99,ok_V100,⟨xz,xk⟩,trivial⟩) (run_V101 big)
def wct (rec:T22) (k:T35) (a1:Y2) (a3:Y4) (a4:Int):Z3 :=
  cond (decide (a4<(a1.1.length:Int)))
  ((V33 a1).bind fun rq1 =>
  (V34 a1).bind fun rq2 =>
  (V35 big a1 rq1.1 a4 rq2.1).bind fun rq3 =>
  (atI rq3.1 0).bind fun _ =>
  (rq3.1[(0:Int).toNat]?).bind fun xq4 =>
  (appI a3 [xq4]).bind fun xq5 =>
  rec a1 xq5 (IntKind.i64.wrap (a4+1)))
  (k a3)
def zz (a3:Y4):Z3 :=
  some (a3,(()))
def wub (L3:T22) (p_0:Y2):Z3 :=
  L3 p_0 [] 0
def wru (N:Nat) (k:T35):=itN (fun r=>wct r k) fun _ _ _=>none
def wrt (N:Nat):=wru N (zz) N
def V102 (N:Nat) (p_0:Y2):Z3:=wub (wrt N) p_0
def S_V102:Sig:=⟨Q10,[0],[],.unit,Q6,O4,fun x=>V102 big x.1⟩
def A_V102:Cfg:=mkCfg tab [(31,S_V33),(76,S_V34),(89,S_V35)] [(6,[D0,B3,D0,B1,B0]),(13,(dr 3 [B1]))]
noncomputable def wcs (N n:Nat) (K:T26) (a1:Y2) (a3:Y4) (a4:Int):Z3:=itr A_V102 N 6 Tryz.f50 [1,1,0,1,0,0] n ([.u,W3 a1,.u,W1 a3,W0 a4]++us 21) K
noncomputable def wuc:Ex→St→Z3:=finish A_V102 S_V102 Tryz.f50.results.toList
noncomputable def wzt (kX:T11) (a3:Y4):Z3:=kX ((ud 3 [W1 a3])++us 22)
noncomputable def wzs (kX:T11) (kO:T6):=exK wuc 0 (A_V102.shape 13) kX kO
theorem w14 (N kX kO):∀n,wcs N n (wzs kX kO)=wru N (wzt kX) n :=
 itE rfl fun m=>by kernel_rfl
noncomputable def wlg (N:Nat):=(blockK 0 (sqK A_V102 N 13 500006 Tryz.f50 [1,1,1] wuc))
noncomputable def wzu (N:Nat) (st':St):Z3:=rn A_V102 N Tryz.f50 [1,1,1] st' wuc
theorem xet (N):wcs N N (wlg N)=wrt N:=by
 rw[show wcs N N (wlg N)=wcs N N (wzs (wzu N) fun j=>(wlg N) (.exit j)) from(by funext _ _ _;exact jlo),w14,show wzt (wzu N)=zz by kernel_rfl];rfl
theorem run_V102 (N x):runF A_V102 N Tryz.f50 S_V102 x=V102 N x.1:=(show _=(wub (wcs N N (wlg N)) x.1) by kernel_rfl).trans (by rw[xet N];rfl)
theorem ok_V102:OK 50 S_V102:=gdR (A:=A_V102) tc Tryz.func50 (jeq ⟨ok_V33,ok_V34,ok_V35,trivial⟩) (run_V102 big)
def wcv (rec:T57) (k:T35) (a0:Int) (a3:Y4) (a4:Int):Z3 :=
  (shrI IntKind.i64 a0 a4).bind fun xq1 =>
  cond (decide (0<xq1))
  ((shrI IntKind.i64 a0 a4).bind fun xq2 =>
  cond (decide ((bitI .and IntKind.i64 xq2 1)=1))
  ((appI a3 [a4]).bind fun xq3 =>
  rec a0 xq3 (IntKind.i64.wrap (a4+1)))
  (rec a0 a3 (IntKind.i64.wrap (a4+1))))
  (k a3)
def z6 (a3:Y4):Z3 :=
  some (a3,(()))
def wud (L3:T57) (bits_0:Int):Z3 :=
  L3 bits_0 [] 0
def wrw (N:Nat) (k:T35):=itN (fun r=>wcv r k) fun _ _ _=>none
def wrv (N:Nat):=wrw N (z6) N
def V103 (N:Nat) (bits_0:Int):Z3:=wud (wrv N) bits_0
def S_V103:Sig:=⟨Q17,[0],[],.unit,Q6,O4,fun x=>V103 big x.1⟩
def A_V103:Cfg:=mkCfg tab [] [(6,[B0,D0,D0,B1,B0]),(15,(dr 3 [B1]))]
noncomputable def wcu (N n:Nat) (K:T26) (a0:Int) (a3:Y4) (a4:Int):Z3:=itr A_V103 N 6 Tryz.f51 [1,1,0,1,0,0] n ([W0 a0,.u,.u,W1 a3,W0 a4]++us 17) K
noncomputable def wue:Ex→St→Z3:=finish A_V103 S_V103 Tryz.f51.results.toList
noncomputable def wzw (kX:T11) (a3:Y4):Z3:=kX ((ud 3 [W1 a3])++us 18)
noncomputable def wzv (kX:T11) (kO:T6):=exK wue 0 (A_V103.shape 15) kX kO
theorem w15 (N kX kO):∀n,wcu N n (wzv kX kO)=wrw N (wzw kX) n :=
 itE rfl fun m=>by kernel_rfl
noncomputable def wlh (N:Nat):=(blockK 0 (sqK A_V103 N 15 500007 Tryz.f51 [1,1,1] wue))
noncomputable def wzx (N:Nat) (st':St):Z3:=rn A_V103 N Tryz.f51 [1,1,1] st' wue
theorem xeu (N):wcu N N (wlh N)=wrv N:=by
 rw[show wcu N N (wlh N)=wcu N N (wzv (wzx N) fun j=>(wlh N) (.exit j)) from(by funext _ _ _;exact jlo),w15,show wzw (wzx N)=z6 by kernel_rfl];rfl
theorem run_V103 (N x):runF A_V103 N Tryz.f51 S_V103 x=V103 N x.1:=(show _=(wud (wcu N N (wlh N)) x.1) by kernel_rfl).trans (by rw[xeu N];rfl)
theorem ok_V103:OK 51 S_V103:=gdR (A:=A_V103) tc Tryz.func51 (jeq trivial) (run_V103 big)
def wcy (rec:Y4→Y4→Y2→Int→Int→Option Z1) (k:Y4→Y4→Y2→Int→Option Z1) (a1 a2:Y4) (a3:Y2) (a7 a8:Int):Option Z1 :=
  cond (decide (a8<a7))
  ((atI a2 a7).bind fun xq8 =>
  (atI a2 a8).bind fun xq9 =>
  (V30 a3 xq8 xq9).bind fun rq10 =>
  (V14 big a2 rq10.1).bind fun rq11 =>
  cond (!rq11.1)
  (some (false,(())))
  ((atI a2 a7).bind fun xq12 =>
  (atI a2 a8).bind fun xq13 =>
  (V29 a3 xq12 xq13).bind fun rq14 =>
  (V14 big a2 rq14.1).bind fun rq15 =>
  cond (!rq15.1)
  (some (false,(())))
  (rec a1 a2 a3 a7 (IntKind.i64.wrap (a8+1)))))
  (k a1 a2 a3 a7)
def z8 (rec:Y4→Y4→Y2→Int→Option Z1) (a1 a2:Y4) (a3:Y2) (a7:Int):Option Z1 :=
  rec a1 a2 a3 (IntKind.i64.wrap (a7+1))
def z9 (L9:Y4→Y4→Y2→Int→Int→Option Z1) (k:Option Z1) (a1 a2:Y4) (a3:Y2) (a7:Int):Option Z1 :=
  cond (decide (a7<(a2.length:Int)))
  ((atI a2 a7).bind fun xq5 =>
  (atI a1 xq5).bind fun xq6 =>
  (V14 big a2 xq6).bind fun rq7 =>
  cond (!rq7.1)
  (some (false,(())))
  (L9 a1 a2 a3 a7 0))
  (k)
def xn:Option Z1 :=
  some (true,(()))
def wuf (L4:Y4→Y4→Y2→Int→Option Z1) (p_0:Y2) (not_1 list_2:Y4):Option Z1 :=
  (V33 p_0).bind fun rq1 =>
  (V14 big list_2 rq1.1).bind fun rq2 =>
  cond (!rq2.1)
  (some (false,(())))
  ((V34 p_0).bind fun rq3 =>
  (V14 big list_2 rq3.1).bind fun rq4 =>
  cond (!rq4.1)
  (some (false,(())))
  (L4 not_1 list_2 p_0 0))
def wrz (N:Nat) (k:Y4→Y4→Y2→Int→Option Z1):=itN (fun r=>wcy r k) fun _ _ _ _ _=>none
def wcw (N:Nat) (rec:Y4→Y4→Y2→Int→Option Z1) (k:Option Z1):=wrz N (z8 rec) N
def wry (N:Nat) (k:Option Z1):=itN (fun r=>z9 (wcw N r k) k) fun _ _ _ _=>none
def wrx (N:Nat):=wry N (xn) N
def V104 (N:Nat) (p_0:Y2) (not_1 list_2:Y4):Option Z1:=wuf (wrx N) p_0 not_1 list_2
def S_V104:Sig:=⟨(.pair Q0 (.pair Q6 Q9)),[0,0,0],[],.unit,.bool,.i,fun x=>V104 big x.1 x.2.1 x.2.2.1⟩
def A_V104:Cfg:=mkCfg tab [(31,S_V33),(65,S_V14),(76,S_V34),(80,S_V30),(33,S_V29)] [(8,([D0,B4,B4,B3]++dr 3 [B0])),(18,([D0,B4,B4,B3]++dr 3 [B0,B0])),(27,[]),(11,([D0,B4,B4,B3]++dr 3 [B0]))]
noncomputable def yb (N n:Nat) (K:Ex→St→Option Z1) (a1 a2:Y4) (a3:Y2) (a7:Int):Option Z1:=itr A_V104 N 8 Tryz.f52 [1,1,0,1,0,0] n (([.u,W4 a1,W4 a2,W3 a3]++ud 3 [W0 a7])++us 62) K
noncomputable def wcx (N n:Nat) (K:Ex→St→Option Z1) (a1 a2:Y4) (a3:Y2) (a7 a8:Int):Option Z1:=itr A_V104 N 18 Tryz.f52 [1,1,0,1,0,0,1,0,0,1,1,0,0] n (([.u,W4 a1,W4 a2,W3 a3]++ud 3 [W0 a7,W0 a8])++us 61) K
noncomputable def wm2:Ex→St→Option Z1:=finish A_V104 S_V104 Tryz.f52.results.toList
noncomputable def wlk (kX:St→Option Z1):Option Z1:=kX ([]++us 70)
noncomputable def z7 (kX:St→Option Z1) (kO:Nat→St→Option Z1):Ex→St→Option Z1:=exK wm2 0 (A_V104.shape 27) kX kO
noncomputable def wzz (kX:St→Option Z1) (a1 a2:Y4) (a3:Y2) (a7:Int):Option Z1:=kX (([.u,W4 a1,W4 a2,W3 a3]++ud 3 [W0 a7])++us 62)
noncomputable def wzy (kX:St→Option Z1) (kO:Nat→St→Option Z1):Ex→St→Option Z1:=exK wm2 2 (A_V104.shape 11) kX kO
theorem w17 (N kX kO):∀n,wcx N n (wzy kX kO)=wrz N (wzz kX) n :=
 itE rfl fun m=>by kernel_rfl
noncomputable def wlj (N m:Nat) (kX:St→Option Z1) (kO:Nat→St→Option Z1):Ex→St→Option Z1:=(blockK 2 (blockK 1 (sqK A_V104 N 11 500005 Tryz.f52 [1,1,0,1,0,0,1,1] (itK A_V104 N 8 Tryz.f52 [1,1,0,1,0,0] m (z7 kX kO)))))
noncomputable def wz1 (N m:Nat) (kX:St→Option Z1) (kO:Nat→St→Option Z1) (st':St):Option Z1:=rn A_V104 N Tryz.f52 [1,1,0,1,0,0,1,1] st' (itK A_V104 N 8 Tryz.f52 [1,1,0,1,0,0] m (z7 kX kO))
theorem xew (N m kX kO) {r}(h:yb N m (z7 kX kO)=r):wcx N N (wlj N m kX kO)=wcw N r (wlk kX):=by
 rw[show wcx N N (wlj N m kX kO)=wcx N N (wzy (wz1 N m kX kO) fun j=>(wlj N m kX kO) (.exit j)) from(by funext _ _ _ _ _;exact jlo),w17,show wzz (wz1 N m kX kO)=z8 (yb N m (z7 kX kO)) by kernel_rfl,h];rfl
theorem w16 (N kX kO):∀n,yb N n (z7 kX kO)=wry N (wlk kX) n :=
 itE rfl fun m=>(show _=z9 (wcx N N (wlj N m kX kO)) (wlk kX) by kernel_rfl).trans (by rw[xew N m kX kO rfl]<;>rfl)
noncomputable def wli (N:Nat):Ex→St→Option Z1:=(blockK 0 (sqK A_V104 N 27 500013 Tryz.f52 [1,1,1] wm2))
noncomputable def wz0 (N:Nat) (st':St):Option Z1:=rn A_V104 N Tryz.f52 [1,1,1] st' wm2
theorem xev (N):yb N N (wli N)=wrx N:=by
 rw[show yb N N (wli N)=yb N N (z7 (wz0 N) fun j=>(wli N) (.exit j)) from(by funext _ _ _ _;exact jlo),w16,show wlk (wz0 N)=xn by kernel_rfl];rfl
theorem run_V104 (N x):runF A_V104 N Tryz.f52 S_V104 x=V104 N x.1 x.2.1 x.2.2.1:=(show _=(wuf (yb N N (wli N)) x.1 x.2.1 x.2.2.1) by kernel_rfl).trans (by rw[xev N];rfl)
theorem ok_V104:OK 52 S_V104:=gdR (A:=A_V104) tc Tryz.func52 (jeq ⟨ok_V33,ok_V14,ok_V34,ok_V30,ok_V29,trivial⟩) (run_V104 big)
def wc0 (rec:Y4→Y4→Int→Option Z1) (k:Option Z1) (a0 a1:Y4) (a5:Int):Option Z1 :=
  cond (decide (a5<(a0.length:Int)))
  ((atI a0 a5).bind fun xq1 =>
  (atI a1 a5).bind fun xq2 =>
  cond (decide (xq1≠xq2))
  ((atI a0 a5).bind fun xq3 =>
  (atI a1 a5).bind fun xq4 =>
  some (decide (xq3<xq4),(())))
  (rec a0 a1 (IntKind.i64.wrap (a5+1))))
  (k)
def waa:Option Z1 :=
  some (false,(()))
def wug (L2:Y4→Y4→Int→Option Z1) (a_0 b_1:Y4):Option Z1 :=
  L2 a_0 b_1 0
def wr3 (N:Nat) (k:Option Z1):=itN (fun r=>wc0 r k) fun _ _ _=>none
def wr0 (N:Nat):=wr3 N (waa) N
def V105 (N:Nat) (a_0 b_1:Y4):Option Z1:=wug (wr0 N) a_0 b_1
def S_V105:Sig:=⟨(.pair Q6 Q9),[0,0],[],.unit,.bool,.i,fun x=>V105 big x.1 x.2.1⟩
def A_V105:Cfg:=mkCfg tab [] [(4,([B4,B4]++dr 3 [B0])),(13,[])]
noncomputable def wcz (N n:Nat) (K:Ex→St→Option Z1) (a0 a1:Y4) (a5:Int):Option Z1:=itr A_V105 N 4 Tryz.f90 [1,0,1,0,0] n (([W4 a0,W4 a1]++ud 3 [W0 a5])++us 24) K
noncomputable def wuh:Ex→St→Option Z1:=finish A_V105 S_V105 Tryz.f90.results.toList
noncomputable def wz3 (kX:St→Option Z1):Option Z1:=kX ([]++us 30)
noncomputable def wz2 (kX:St→Option Z1) (kO:Nat→St→Option Z1):Ex→St→Option Z1:=exK wuh 0 (A_V105.shape 13) kX kO
theorem w18 (N kX kO):∀n,wcz N n (wz2 kX kO)=wr3 N (wz3 kX) n :=
 itE rfl fun m=>by kernel_rfl
noncomputable def wll (N:Nat):Ex→St→Option Z1:=(blockK 0 (sqK A_V105 N 13 500006 Tryz.f90 [1,1] wuh))
noncomputable def wz4 (N:Nat) (st':St):Option Z1:=rn A_V105 N Tryz.f90 [1,1] st' wuh
theorem xex (N):wcz N N (wll N)=wr0 N:=by
 rw[show wcz N N (wll N)=wcz N N (wz2 (wz4 N) fun j=>(wll N) (.exit j)) from(by funext _ _ _;exact jlo),w18,show wz3 (wz4 N)=waa by kernel_rfl];rfl
theorem run_V105 (N x):runF A_V105 N Tryz.f90 S_V105 x=V105 N x.1 x.2.1:=(show _=(wug (wcz N N (wll N)) x.1 x.2.1) by kernel_rfl).trans (by rw[xex N];rfl)
theorem ok_V105:OK 90 S_V105:=gdR (A:=A_V105) tc Tryz.func90 (jeq trivial) (run_V105 big)
def wr5 (rec k:Y3→Y4→Int→Option Y2) (a0:Y3) (a1:Y4) (a5:Int):Option Y2 :=
  cond (decide (0<a5))
  ((atI a0 (IntKind.i64.wrap (a5-1))).bind fun xq1 =>
  cond (decide ((a1.length:Int)<(xq1.length:Int)))
  (rec a0 a1 (IntKind.i64.wrap (a5-1)))
  ((atI a0 (IntKind.i64.wrap (a5-1))).bind fun xq2 =>
  cond (decide ((a1.length:Int)=(xq2.length:Int)))
  ((atI a0 (IntKind.i64.wrap (a5-1))).bind fun xq3 =>
  (V105 big a1 xq3).bind fun rq4 =>
  cond rq4.1
  (rec a0 a1 (IntKind.i64.wrap (a5-1)))
  (k a0 a1 a5))
  (k a0 a1 a5)))
  (k a0 a1 a5)
def yc (a0:Y3) (a1:Y4) (a5:Int):Option Y2 :=
  (slI a0 0 a5).bind fun xq5 =>
  (appI [] xq5).bind fun xq6 =>
  (appI xq6 [a1]).bind fun xq7 =>
  (slI a0 a5 a0.length).bind fun xq8 =>
  (appI xq7 xq8).bind fun xq9 =>
  some (xq9,(()))
def wui (L2:Y3→Y4→Int→Option Y2) (lists_0:Y3) (l_1:Y4):Option Y2 :=
  L2 lists_0 l_1 (lists_0.length:Int)
def wr6 (N:Nat) (k:Y3→Y4→Int→Option Y2):=itN (fun r=>wr5 r k) fun _ _ _=>none
def wr4 (N:Nat):=wr6 N (yc) N
def V106 (N:Nat) (lists_0:Y3) (l_1:Y4):Option Y2:=wui (wr4 N) lists_0 l_1
def S_V106:Sig:=⟨(.pair Q15 Q9),[0,0],[],.unit,Q15,.i,fun x=>V106 big x.1 x.2.1⟩
def A_V106:Cfg:=mkCfg tab [(90,S_V105)] [(4,([.as Q15 .i,B4]++dr 3 [B0])),(9,([.as Q15 .i,B4]++dr 3 [B0]))]
noncomputable def wc1 (N n:Nat) (K:Ex→St→Option Y2) (a0:Y3) (a1:Y4) (a5:Int):Option Y2:=itr A_V106 N 4 Tryz.f53 [1,1,0,0,0] n (([.val Q15 .i a0,W4 a1]++ud 3 [W0 a5])++us 49) K
noncomputable def wuj:Ex→St→Option Y2:=finish A_V106 S_V106 Tryz.f53.results.toList
noncomputable def wz6 (kX:St→Option Y2) (a0:Y3) (a1:Y4) (a5:Int):Option Y2:=kX (([.val Q15 .i a0,W4 a1]++ud 3 [W0 a5])++us 49)
noncomputable def wz5 (kX:St→Option Y2) (kO:Nat→St→Option Y2):Ex→St→Option Y2:=exK wuj 0 (A_V106.shape 9) kX kO
theorem w19 (N kX kO):∀n,wc1 N n (wz5 kX kO)=wr6 N (wz6 kX) n :=
 itE rfl fun m=>by kernel_rfl
noncomputable def wlm (N:Nat):Ex→St→Option Y2:=(blockK 0 (sqK A_V106 N 9 500004 Tryz.f53 [1,1,1] wuj))
noncomputable def wz7 (N:Nat) (st':St):Option Y2:=rn A_V106 N Tryz.f53 [1,1,1] st' wuj
theorem xey (N):wc1 N N (wlm N)=wr4 N:=by
 rw[show wc1 N N (wlm N)=wc1 N N (wz5 (wz7 N) fun j=>(wlm N) (.exit j)) from(by funext _ _ _;exact jlo),w19,show wz6 (wz7 N)=yc by kernel_rfl];rfl
theorem run_V106 (N x):runF A_V106 N Tryz.f53 S_V106 x=V106 N x.1 x.2.1:=(show _=(wui (wc1 N N (wlm N)) x.1 x.2.1) by kernel_rfl).trans (by rw[xey N];rfl)
theorem ok_V106:OK 53 S_V106:=gdR (A:=A_V106) tc Tryz.func53 (jeq ⟨ok_V105,trivial⟩) (run_V106 big)
def wc3 (rec:T100) (k:Y3→Z9) (a1:Y2) (a4:Y3) (a5:Y4) (a6:Int):Z9 :=
  (shlI IntKind.i64 1 (a1.1.length:Int)).bind fun xq3 =>
  cond (decide (a6<xq3))
  ((V103 big a6).bind fun rq4 =>
  (V104 big a1 a5 rq4.1).bind fun rq5 =>
  cond rq5.1
  ((V106 big a4 rq4.1).bind fun rq6 =>
  rec a1 rq6.1 a5 (IntKind.i64.wrap (a6+1)))
  (rec a1 a4 a5 (IntKind.i64.wrap (a6+1))))
  (k a4)
def wab (a4:Y3):Z9 :=
  some ((a4,true,()),(()))
def wm3 (L6:T100) (p_0:Y2):Z9 :=
  (V37 p_0).bind fun rq1 =>
  cond (!rq1.1)
  (some (([],false,()),(())))
  ((V102 big p_0).bind fun rq2 =>
  L6 p_0 [] rq2.1 0)
def wr7 (N:Nat) (k:Y3→Z9):=itN (fun r=>wc3 r k) fun _ _ _ _=>none
def wln (N:Nat):=wr7 N (wab) N
def V107 (N:Nat) (p_0:Y2):Z9:=wm3 (wln N) p_0
def S_V107:Sig:=⟨Q10,[0],[],.unit,(.tup (.pair Q15 Q12)),.i,fun x=>V107 big x.1⟩
def A_V107:Cfg:=mkCfg tab [(22,S_V37),(50,S_V102),(51,S_V103),(52,S_V104),(53,S_V106)] [(12,[D0,B3,D0,D0,.as Q15 .i,B1,B0]),(23,(dr 4 [.as Q15 .i]))]
noncomputable def wc2 (N n:Nat) (K:Ex→St→Z9) (a1:Y2) (a4:Y3) (a5:Y4) (a6:Int):Z9:=itr A_V107 N 12 Tryz.f15 [1,1,1,1,0,1,0,0] n ([.u,W3 a1,.u,.u,.val Q15 .i a4,W1 a5,W0 a6]++us 26) K
noncomputable def wuk:Ex→St→Z9:=finish A_V107 S_V107 Tryz.f15.results.toList
noncomputable def wz9 (kX:St→Z9) (a4:Y3):Z9:=kX ((ud 4 [.val Q15 .i a4])++us 28)
noncomputable def wz8 (kX:St→Z9) (kO:T106):=exK wuk 0 (A_V107.shape 23) kX kO
theorem w2a (N kX kO):∀n,wc2 N n (wz8 kX kO)=wr7 N (wz9 kX) n :=
 itE rfl fun m=>by kernel_rfl
noncomputable def wlo (N:Nat):=(blockK 0 (sqK A_V107 N 23 500011 Tryz.f15 [1,1,1,1,1] wuk))
noncomputable def w0a (N:Nat) (st':St):Z9:=rn A_V107 N Tryz.f15 [1,1,1,1,1] st' wuk
theorem xez (N):wc2 N N (wlo N)=wln N:=by
 rw[show wc2 N N (wlo N)=wc2 N N (wz8 (w0a N) fun j=>(wlo N) (.exit j)) from(by funext _ _ _ _;exact jlo),w2a,show wz9 (w0a N)=wab by kernel_rfl];rfl
theorem run_V107 (N x):runF A_V107 N Tryz.f15 S_V107 x=V107 N x.1:=(show _=(wm3 (wc2 N N (wlo N)) x.1) by kernel_rfl).trans (by rw[xez N];rfl)
theorem ok_V107:OK 15 S_V107:=gdR (A:=A_V107) tc Tryz.func15 (jeq ⟨ok_V37,ok_V102,ok_V103,ok_V104,ok_V106,trivial⟩) (run_V107 big)
def wc5 (rec:Y3→Y3→Int→Option Z1) (k:Option Z1) (a0 a1:Y3) (a5:Int):Option Z1 :=
  cond (decide (a5<(a0.length:Int)))
  ((atI a0 a5).bind fun xq1 =>
  (atI a1 a5).bind fun xq2 =>
  (V75 big xq1 xq2).bind fun rq3 =>
  cond (!rq3.1)
  (some (false,(())))
  (rec a0 a1 (IntKind.i64.wrap (a5+1))))
  (k)
def wac:Option Z1 :=
  some (true,(()))
def wul (L4:Y3→Y3→Int→Option Z1) (a_0 b_1:Y3):Option Z1 :=
  cond (decide ((a_0.length:Int)≠(b_1.length:Int)))
  (some (false,(())))
  (L4 a_0 b_1 0)
def wr9 (N:Nat) (k:Option Z1):=itN (fun r=>wc5 r k) fun _ _ _=>none
def wr8 (N:Nat):=wr9 N (wac) N
def V108 (N:Nat) (a_0 b_1:Y3):Option Z1:=wul (wr8 N) a_0 b_1
def S_V108:Sig:=⟨(.pair Q15 Q0),[0,0],[],.unit,.bool,.i,fun x=>V108 big x.1 x.2.1⟩
def A_V108:Cfg:=mkCfg tab [(8,S_V75)] [(8,([.as Q15 .i,.as Q15 .i]++dr 3 [B0])),(17,[])]
noncomputable def wc4 (N n:Nat) (K:Ex→St→Option Z1) (a0 a1:Y3) (a5:Int):Option Z1:=itr A_V108 N 8 Tryz.f16 [1,1,0,1,0,0] n (([.val Q15 .i a0,.val Q15 .i a1]++ud 3 [W0 a5])++us 21) K
noncomputable def wum:Ex→St→Option Z1:=finish A_V108 S_V108 Tryz.f16.results.toList
noncomputable def w0c (kX:St→Option Z1):Option Z1:=kX ([]++us 27)
noncomputable def w0b (kX:St→Option Z1) (kO:Nat→St→Option Z1):Ex→St→Option Z1:=exK wum 0 (A_V108.shape 17) kX kO
theorem w2b (N kX kO):∀n,wc4 N n (w0b kX kO)=wr9 N (w0c kX) n :=
 itE rfl fun m=>by kernel_rfl
noncomputable def wlp (N:Nat):Ex→St→Option Z1:=(blockK 0 (sqK A_V108 N 17 500008 Tryz.f16 [1,1,1] wum))
noncomputable def w0d (N:Nat) (st':St):Option Z1:=rn A_V108 N Tryz.f16 [1,1,1] st' wum
theorem xe0 (N):wc4 N N (wlp N)=wr8 N:=by
 rw[show wc4 N N (wlp N)=wc4 N N (w0b (w0d N) fun j=>(wlp N) (.exit j)) from(by funext _ _ _;exact jlo),w2b,show w0c (w0d N)=wac by kernel_rfl];rfl
theorem run_V108 (N x):runF A_V108 N Tryz.f16 S_V108 x=V108 N x.1 x.2.1:=(show _=(wul (wc4 N N (wlp N)) x.1 x.2.1) by kernel_rfl).trans (by rw[xe0 N];rfl)
theorem ok_V108:OK 16 S_V108:=gdR (A:=A_V108) tc Tryz.func16 (jeq ⟨ok_V75,trivial⟩) (run_V108 big)
def w5x (p_0:Y2) (list_1:Unit):Z2 :=
  (V51 p_0).bind fun rq1 =>
  cond (!rq1.1.2.1)
  (some (([],false,()),(())))
  ((V71 rq1.1.1).bind fun rq2 =>
  some ((rq2.1,true,()),(())))
def V109 (p_0:Y2) (list_1:Unit):Z2:=w5x p_0 list_1
def S_V109:Sig:=⟨(.pair Q0 (.pair (.clo 27 0 .unit) .unit)),[0,0],[],.unit,(.tup (.pair Q6 Q12)),(.p O4 .i),fun x=>V109 x.1 x.2.1⟩
def A_V109:Cfg:=mkCfg tab [(72,S_V51),(27,S_V71)] []
theorem run_V109 (N x):runF A_V109 N Tryz.f54 S_V109 x=V109 x.1 x.2.1:=by kernel_rfl
theorem ok_V109:OK 54 S_V109:=gdR (A:=A_V109) tc Tryz.func54 (jeq ⟨ok_V51,ok_V71,trivial⟩) (run_V109 big)
def w52 (p_0:Y2):Z2 :=
  (V109 p_0 ()).bind fun rq1 =>
  some ((rq1.1.1,(((),rq1.1.2).2).1,()),(()))
def V110 (p_0:Y2):Z2:=w52 p_0
def S_V110:Sig:=⟨Q10,[0],[],.unit,(.tup (.pair Q6 Q12)),(.p O4 .i),fun x=>V110 x.1⟩
def A_V110:Cfg:=mkCfg tab [(54,S_V109)] []
theorem run_V110 (N x):runF A_V110 N Tryz.f17 S_V110 x=V110 x.1:=by kernel_rfl
theorem ok_V110:OK 17 S_V110:=gdR (A:=A_V110) tc Tryz.func17 (jeq ⟨ok_V109,trivial⟩) (run_V110 big)
def w53 (code_0:Y4):Z7 :=
  (V4 (code_0,(0,(0,()))) [(0:Int),1,2,3,4,5,6,(-1:Int)]).bind fun rq1 =>
  some (rq1.1,(()))
def V111 (code_0:Y4):Z7:=w53 code_0
def S_V111:Sig:=⟨(.pair Q14 .unit),[0],[],.unit,I,.i,fun x=>V111 x.1⟩
def A_V111:Cfg:=mkCfg tab [(55,S_V4)] []
theorem run_V111 (N x):runF A_V111 N Tryz.f18 S_V111 x=V111 x.1:=by kernel_rfl
theorem ok_V111:OK 18 S_V111:=gdR (A:=A_V111) tc Tryz.func18 (jeq ⟨ok_V4,trivial⟩) (run_V111 big)
def xk7 (k_0:Int):Option ((Int×Z1)×Unit) :=
  cond (decide (k_0<0))
  (some ((0,false,()),(())))
  (cond (decide (5<k_0))
  (some ((0,false,()),(())))
  ((shlI IntKind.u64 1 k_0).bind fun xq1 =>
  (shlI IntKind.i64 1 xq1).bind fun xq2 =>
  some ((xq2,true,()),(()))))
def V112 (k_0:Int):Option ((Int×Z1)×Unit):=xk7 k_0
def S_V112:Sig:=⟨Q17,[0],[],.unit,(.tup (.pair I Q12)),.i,fun x=>V112 x.1⟩
def A_V112:Cfg:=mkCfg tab [] []
theorem run_V112 (N x):runF A_V112 N Tryz.f19 S_V112 x=V112 x.1:=by kernel_rfl
theorem ok_V112:OK 19 S_V112:=gdR (A:=A_V112) tc Tryz.func19 (jeq trivial) (run_V112 big)
def xk8 (k_0:Int):Option ((Int×Z1)×Unit) :=
  (V6 k_0 0 5).bind fun rq1 =>
  cond (!rq1.1)
  (some ((0,false,()),(())))
  ((V20 big 2 k_0).bind fun rq2 =>
  (V20 big 2 rq2.1).bind fun rq3 =>
  some ((rq3.1,true,()),(())))
def V113 (k_0:Int):Option ((Int×Z1)×Unit):=xk8 k_0
def S_V113:Sig:=⟨Q17,[0],[],.unit,(.tup (.pair I Q12)),.i,fun x=>V113 x.1⟩
def A_V113:Cfg:=mkCfg tab [(56,S_V6),(57,S_V20)] []
theorem run_V113 (N x):runF A_V113 N Tryz.f20 S_V113 x=V113 x.1:=by kernel_rfl
theorem ok_V113:OK 20 S_V113:=gdR (A:=A_V113) tc Tryz.func20 (jeq ⟨ok_V6,ok_V20,trivial⟩) (run_V113 big)
def xhf (code_0:Y4):Option Z1 :=
  (V0 code_0).bind fun rq1 =>
  cond rq1.1
  (some (true,(())))
  ((V40 big code_0).bind fun rq2 =>
  (V73 big rq2.1.1 rq2.1.2.1 rq2.1.2.2.1).bind fun rq3 =>
  (V74 big rq2.1.1 rq2.1.2.1 rq2.1.2.2.1).bind fun rq4 =>
  cond (((((),rq3.1.2).2).1) != ((((),rq4.1.2).2).1))
  (some (false,(())))
  ((V75 big rq3.1.1 rq4.1.1).bind fun rq5 =>
  cond (!rq5.1)
  (some (false,(())))
  (cond ((((),rq3.1.2).2).1)
  ((V79 rq2.1.1 rq2.1.2.1 rq3.1.1).bind fun rq6 =>
  (V80 big rq2.1.1 rq2.1.2.1 rq3.1.1).bind fun rq7 =>
  cond (!rq6.1.2.1)
  (some (false,(())))
  (cond (!rq6.1.1)
  (some (false,(())))
  (cond (!((((),rq7.1.2).2).1))
  (some (false,(())))
  ((V75 big rq7.1.1 rq2.1.2.2.1).bind fun rq8 =>
  cond (!rq8.1)
  (some (false,(())))
  ((V87 code_0).bind fun rq9 =>
  (V80 big rq9.1.1 rq9.1.2.1 rq9.1.2.2.1).bind fun rq10 =>
  (V89 big rq9.1.1 rq9.1.2.1 rq9.1.2.2.1).bind fun rq11 =>
  cond (((((),rq10.1.2).2).1) != ((((),rq11.1.2).2).1))
  (some (false,(())))
  ((V75 big rq10.1.1 rq11.1.1).bind fun rq12 =>
  cond (!rq12.1)
  (some (false,(())))
  (cond ((((),rq10.1.2).2).1)
  ((V73 big rq9.1.1 rq9.1.2.1 rq10.1.1).bind fun rq13 =>
  cond (!((((),rq13.1.2).2).1))
  (some (false,(())))
  ((V75 big rq13.1.1 rq9.1.2.2.1).bind fun rq14 =>
  cond (!rq14.1)
  (some (false,(())))
  ((V91 code_0).bind fun rq15 =>
  (V101 big rq15.1).bind fun rq16 =>
  (V107 big rq15.1).bind fun rq17 =>
  cond (((((),rq16.1.2).2).1) != rq17.1.2.1)
  (some (false,(())))
  ((V108 big rq16.1.1 rq17.1.1).bind fun rq18 =>
  cond (!rq18.1)
  (some (false,(())))
  (cond ((((),rq16.1.2).2).1)
  ((V110 rq15.1).bind fun rq19 =>
  cond (!((((),rq19.1.2).2).1))
  (some (false,(())))
  (cond (decide (([(1:Int),1,2,5,15].length:Int)≤(rq19.1.1.length:Int)))
  (some (false,(())))
  ((atI [(1:Int),1,2,5,15] (rq19.1.1.length:Int)).bind fun _ =>
  ([(1:Int),1,2,5,15][(rq19.1.1.length:Int).toNat]?).bind fun xq20 =>
  cond (decide ((rq16.1.1.length:Int)≠xq20))
  (some (false,(())))
  ((V111 code_0).bind fun rq21 =>
  (V112 rq21.1).bind fun rq22 =>
  (V113 rq21.1).bind fun rq23 =>
  cond (decide (rq22.1.1=rq23.1.1))
  (some (rq22.1.2.1==rq23.1.2.1,(())))
  (some (false,(())))))))
  ((V111 code_0).bind fun rq24 =>
  (V112 rq24.1).bind fun rq25 =>
  (V113 rq24.1).bind fun rq26 =>
  cond (decide (rq25.1.1=rq26.1.1))
  (some (rq25.1.2.1==rq26.1.2.1,(())))
  (some (false,(())))))))))
  ((V91 code_0).bind fun rq27 =>
  (V101 big rq27.1).bind fun rq28 =>
  (V107 big rq27.1).bind fun rq29 =>
  cond (((((),rq28.1.2).2).1) != rq29.1.2.1)
  (some (false,(())))
  ((V108 big rq28.1.1 rq29.1.1).bind fun rq30 =>
  cond (!rq30.1)
  (some (false,(())))
  (cond ((((),rq28.1.2).2).1)
  ((V110 rq27.1).bind fun rq31 =>
  cond (!((((),rq31.1.2).2).1))
  (some (false,(())))
  (cond (decide (([(1:Int),1,2,5,15].length:Int)≤(rq31.1.1.length:Int)))
  (some (false,(())))
  ((atI [(1:Int),1,2,5,15] (rq31.1.1.length:Int)).bind fun _ =>
  ([(1:Int),1,2,5,15][(rq31.1.1.length:Int).toNat]?).bind fun xq32 =>
  cond (decide ((rq28.1.1.length:Int)≠xq32))
  (some (false,(())))
  ((V111 code_0).bind fun rq33 =>
  (V112 rq33.1).bind fun rq34 =>
  (V113 rq33.1).bind fun rq35 =>
  cond (decide (rq34.1.1=rq35.1.1))
  (some (rq34.1.2.1==rq35.1.2.1,(())))
  (some (false,(())))))))
  ((V111 code_0).bind fun rq36 =>
  (V112 rq36.1).bind fun rq37 =>
  (V113 rq36.1).bind fun rq38 =>
  cond (decide (rq37.1.1=rq38.1.1))
  (some (rq37.1.2.1==rq38.1.2.1,(())))
  (some (false,(()))))))))))))))
  ((V87 code_0).bind fun rq39 =>
  (V80 big rq39.1.1 rq39.1.2.1 rq39.1.2.2.1).bind fun rq40 =>
  (V89 big rq39.1.1 rq39.1.2.1 rq39.1.2.2.1).bind fun rq41 =>
  cond (((((),rq40.1.2).2).1) != ((((),rq41.1.2).2).1))
  (some (false,(())))
  ((V75 big rq40.1.1 rq41.1.1).bind fun rq42 =>
  cond (!rq42.1)
  (some (false,(())))
  (cond ((((),rq40.1.2).2).1)
  ((V73 big rq39.1.1 rq39.1.2.1 rq40.1.1).bind fun rq43 =>
  cond (!((((),rq43.1.2).2).1))
  (some (false,(())))
  ((V75 big rq43.1.1 rq39.1.2.2.1).bind fun rq44 =>
  cond (!rq44.1)
  (some (false,(())))
  ((V91 code_0).bind fun rq45 =>
  (V101 big rq45.1).bind fun rq46 =>
  (V107 big rq45.1).bind fun rq47 =>
  cond (((((),rq46.1.2).2).1) != rq47.1.2.1)
  (some (false,(())))
  ((V108 big rq46.1.1 rq47.1.1).bind fun rq48 =>
  cond (!rq48.1)
  (some (false,(())))
  (cond ((((),rq46.1.2).2).1)
  ((V110 rq45.1).bind fun rq49 =>
  cond (!((((),rq49.1.2).2).1))
  (some (false,(())))
  (cond (decide (([(1:Int),1,2,5,15].length:Int)≤(rq49.1.1.length:Int)))
  (some (false,(())))
  ((atI [(1:Int),1,2,5,15] (rq49.1.1.length:Int)).bind fun _ =>
  ([(1:Int),1,2,5,15][(rq49.1.1.length:Int).toNat]?).bind fun xq50 =>
  cond (decide ((rq46.1.1.length:Int)≠xq50))
  (some (false,(())))
  ((V111 code_0).bind fun rq51 =>
  (V112 rq51.1).bind fun rq52 =>
  (V113 rq51.1).bind fun rq53 =>
  cond (decide (rq52.1.1=rq53.1.1))
  (some (rq52.1.2.1==rq53.1.2.1,(())))
  (some (false,(())))))))
  ((V111 code_0).bind fun rq54 =>
  (V112 rq54.1).bind fun rq55 =>
  (V113 rq54.1).bind fun rq56 =>
  cond (decide (rq55.1.1=rq56.1.1))
  (some (rq55.1.2.1==rq56.1.2.1,(())))
  (some (false,(())))))))))
  ((V91 code_0).bind fun rq57 =>
  (V101 big rq57.1).bind fun rq58 =>
  (V107 big rq57.1).bind fun rq59 =>
  cond (((((),rq58.1.2).2).1) != rq59.1.2.1)
  (some (false,(())))
  ((V108 big rq58.1.1 rq59.1.1).bind fun rq60 =>
  cond (!rq60.1)
  (some (false,(())))
  (cond ((((),rq58.1.2).2).1)
  ((V110 rq57.1).bind fun rq61 =>
  cond (!((((),rq61.1.2).2).1))
  (some (false,(())))
  (cond (decide (([(1:Int),1,2,5,15].length:Int)≤(rq61.1.1.length:Int)))
  (some (false,(())))
  ((atI [(1:Int),1,2,5,15] (rq61.1.1.length:Int)).bind fun _ =>
  ([(1:Int),1,2,5,15][(rq61.1.1.length:Int).toNat]?).bind fun xq62 =>
  cond (decide ((rq58.1.1.length:Int)≠xq62))
  (some (false,(())))
  ((V111 code_0).bind fun rq63 =>
  (V112 rq63.1).bind fun rq64 =>
  (V113 rq63.1).bind fun rq65 =>
  cond (decide (rq64.1.1=rq65.1.1))
  (some (rq64.1.2.1==rq65.1.2.1,(())))
  (some (false,(())))))))
  ((V111 code_0).bind fun rq66 =>
  (V112 rq66.1).bind fun rq67 =>
  (V113 rq66.1).bind fun rq68 =>
  cond (decide (rq67.1.1=rq68.1.1))
  (some (rq67.1.2.1==rq68.1.2.1,(())))
  (some (false,(())))))))))))))
def laws_FnBooleanMaps (code_0:Y4):Option Z1:=xhf code_0
def S_laws_FnBooleanMaps:Sig:=⟨(.pair Q14 .unit),[0],[],.unit,.bool,.i,fun x=>laws_FnBooleanMaps x.1⟩
def wch (a0:Y4):Option Z1 :=
  (V111 a0).bind fun rq21 =>
  (V112 rq21.1).bind fun rq22 =>
  (V113 rq21.1).bind fun rq23 =>
  cond (decide (rq22.1.1=rq23.1.1))
  (some (rq22.1.2.1==rq23.1.2.1,(())))
  (some (false,(())))
def wcg (J32:Y4→Option Z1) (a0:Y4) (a23:Y2) (a24:Y3) (a25:Bool):Option Z1 :=
  cond a25
  ((V110 a23).bind fun rq19 =>
  cond (!((((),rq19.1.2).2).1))
  (some (false,(())))
  (cond (decide (([(1:Int),1,2,5,15].length:Int)≤(rq19.1.1.length:Int)))
  (some (false,(())))
  ((atI [(1:Int),1,2,5,15] (rq19.1.1.length:Int)).bind fun _ =>
  ([(1:Int),1,2,5,15][(rq19.1.1.length:Int).toNat]?).bind fun xq20 =>
  cond (decide ((a24.length:Int)≠xq20))
  (some (false,(())))
  (J32 a0))))
  (J32 a0)
def wcf (J27:Y4→Y2→Y3→Bool→Option Z1) (a0:Y4):Option Z1 :=
  (V91 a0).bind fun rq15 =>
  (V101 big rq15.1).bind fun rq16 =>
  (V107 big rq15.1).bind fun rq17 =>
  cond (((((),rq16.1.2).2).1) != rq17.1.2.1)
  (some (false,(())))
  ((V108 big rq16.1.1 rq17.1.1).bind fun rq18 =>
  cond (!rq18.1)
  (some (false,(())))
  (J27 a0 rq15.1 rq16.1.1 ((((),rq16.1.2).2).1)))
def wce (J22:Y4→Option Z1) (a0:Y4):Option Z1 :=
  (V87 a0).bind fun rq9 =>
  (V80 big rq9.1.1 rq9.1.2.1 rq9.1.2.2.1).bind fun rq10 =>
  (V89 big rq9.1.1 rq9.1.2.1 rq9.1.2.2.1).bind fun rq11 =>
  cond (((((),rq10.1.2).2).1) != ((((),rq11.1.2).2).1))
  (some (false,(())))
  ((V75 big rq10.1.1 rq11.1.1).bind fun rq12 =>
  cond (!rq12.1)
  (some (false,(())))
  (cond ((((),rq10.1.2).2).1)
  ((V73 big rq9.1.1 rq9.1.2.1 rq10.1.1).bind fun rq13 =>
  cond (!((((),rq13.1.2).2).1))
  (some (false,(())))
  ((V75 big rq13.1.1 rq9.1.2.2.1).bind fun rq14 =>
  cond (!rq14.1)
  (some (false,(())))
  (J22 a0)))
  (J22 a0)))
def w1r (J13:Y4→Option Z1) (code_0:Y4):Option Z1 :=
  (V0 code_0).bind fun rq1 =>
  cond rq1.1
  (some (true,(())))
  ((V40 big code_0).bind fun rq2 =>
  (V73 big rq2.1.1 rq2.1.2.1 rq2.1.2.2.1).bind fun rq3 =>
  (V74 big rq2.1.1 rq2.1.2.1 rq2.1.2.2.1).bind fun rq4 =>
  cond (((((),rq3.1.2).2).1) != ((((),rq4.1.2).2).1))
  (some (false,(())))
  ((V75 big rq3.1.1 rq4.1.1).bind fun rq5 =>
  cond (!rq5.1)
  (some (false,(())))
  (cond ((((),rq3.1.2).2).1)
  ((V79 rq2.1.1 rq2.1.2.1 rq3.1.1).bind fun rq6 =>
  (V80 big rq2.1.1 rq2.1.2.1 rq3.1.1).bind fun rq7 =>
  cond (!rq6.1.2.1)
  (some (false,(())))
  (cond (!rq6.1.1)
  (some (false,(())))
  (cond (!((((),rq7.1.2).2).1))
  (some (false,(())))
  ((V75 big rq7.1.1 rq2.1.2.2.1).bind fun rq8 =>
  cond (!rq8.1)
  (some (false,(())))
  (J13 code_0)))))
  (J13 code_0))))
def wk2 (N:Nat) (a0:Y4):Option Z1:=gate true N (wch a0)
def wk1 (N:Nat) (a0:Y4) (a23:Y2) (a24:Y3) (a25:Bool):Option Z1:=gate true N (wcg (wk2 N) a0 a23 a24 a25)
def wk0 (N:Nat) (a0:Y4):Option Z1:=gate true N (wcf (wk1 N) a0)
def ws3 (N:Nat) (a0:Y4):Option Z1:=gate true N (wce (wk0 N) a0)
def xnw (N:Nat) (code_0:Y4):Option Z1:=w1r (ws3 N) code_0
def A_Vx0_c:Cfg:=mkCfg tab [(4,S_V0),(5,S_V40),(6,S_V73),(7,S_V74),(8,S_V75),(9,S_V79),(10,S_V80),(11,S_V87),(12,S_V89),(13,S_V91),(14,S_V101),(15,S_V107),(16,S_V108),(17,S_V110),(18,S_V111),(19,S_V112),(20,S_V113)] [(27,[.as Q14 .i]),(45,[.as Q14 .i]),(55,([.as Q14 .i]++dr 22 [B3,.as Q15 O11,B8])),(65,[.as Q14 .i]),(500013,[]),(500022,[]),(500027,[]),(500032,[])]
noncomputable def wmj:Ex→St→Option Z1:=finish A_Vx0_c S_laws_FnBooleanMaps Tryz.f3.results.toList
noncomputable def wra (N:Nat):Ex→St→Option Z1:=wmj
noncomputable def ws4 (N:Nat) (a0:Y4):Option Z1:=gated true N (run A_Vx0_c N (codeAt Tryz.f3 [1,1,1,1,1,1])) ([.val Q14 .i a0]++us 209) (wra N)
noncomputable def wrb (N:Nat):Ex→St→Option Z1:=wmj
noncomputable def wk3 (N:Nat) (a0:Y4):Option Z1:=gated true N (run A_Vx0_c N (codeAt Tryz.f3 [1,1,1,1,1,1,1,1,1,1])) ([.val Q14 .i a0]++us 209) (wrb N)
noncomputable def wrc (N:Nat):Ex→St→Option Z1:=wmj
noncomputable def wk4 (N:Nat) (a0:Y4) (a23:Y2) (a24:Y3) (a25:Bool):Option Z1:=gated true N (run A_Vx0_c N (codeAt Tryz.f3 [1,1,1,1,1,1,1,1,1,1,1,1,1])) (([.val Q14 .i a0]++ud 22 [W3 a23,.val Q15 O11 a24,W8 a25])++us 184) (wrc N)
noncomputable def wrd (N:Nat):Ex→St→Option Z1:=wmj
noncomputable def wk5 (N:Nat) (a0:Y4):Option Z1:=gated true N (run A_Vx0_c N (codeAt Tryz.f3 [1,1,1,1,1,1,1,1,1,1,1,1,1,1])) ([.val Q14 .i a0]++us 209) (wrd N)
theorem w5e (N:Nat) (a0:Y4):run A_Vx0_c N (codeAt Tryz.f3 [1,1,1,1,1,1,1,1,1,1,1,1,1,1]) ([.val Q14 .i a0]++us 209) (wrd N)=wch a0:=by kernel_rfl
theorem wza (N:Nat):wk5 N=wk2 N:=by
 funext a0
 exact congrArg (gate true N) ((w5e N a0).trans (show wch a0=wch a0 from rfl))
theorem w5d (N:Nat) (a0:Y4) (a23:Y2) (a24:Y3) (a25:Bool):run A_Vx0_c N (codeAt Tryz.f3 [1,1,1,1,1,1,1,1,1,1,1,1,1]) (([.val Q14 .i a0]++ud 22 [W3 a23,.val Q15 O11 a24,W8 a25])++us 184) (wrc N)=wcg (wk5 N) a0 a23 a24 a25:=by kernel_rfl
theorem wy9 (N:Nat):wk4 N=wk1 N:=by
 funext a0 a23 a24 a25
 exact congrArg (gate true N) ((w5d N a0 a23 a24 a25).trans (show wcg (wk5 N) a0 a23 a24 a25=wcg (wk2 N) a0 a23 a24 a25 from by rw[wza N]))
theorem w5c (N:Nat) (a0:Y4):run A_Vx0_c N (codeAt Tryz.f3 [1,1,1,1,1,1,1,1,1,1]) ([.val Q14 .i a0]++us 209) (wrb N)=wcf (wk4 N) a0:=by kernel_rfl
theorem wy8 (N:Nat):wk3 N=wk0 N:=by
 funext a0
 exact congrArg (gate true N) ((w5c N a0).trans (show wcf (wk4 N) a0=wcf (wk1 N) a0 from by rw[wy9 N]))
theorem w5b (N:Nat) (a0:Y4):run A_Vx0_c N (codeAt Tryz.f3 [1,1,1,1,1,1]) ([.val Q14 .i a0]++us 209) (wra N)=wce (wk3 N) a0:=by kernel_rfl
theorem wy7 (N:Nat):ws4 N=ws3 N:=by
 funext a0
 exact congrArg (gate true N) ((w5b N a0).trans (show wce (wk3 N) a0=wce (wk0 N) a0 from by rw[wy8 N]))
theorem run_Vx0_c (N x):runF A_Vx0_c N Tryz.f3 S_laws_FnBooleanMaps x=xnw N x.1:=(show _=(w1r (ws4 N) x.1) by kernel_rfl).trans (by rw[wy7 N];rfl)
theorem run_laws_FnBooleanMaps (x:(S_laws_FnBooleanMaps).a.den):runF A_Vx0_c big Tryz.f3 S_laws_FnBooleanMaps x=laws_FnBooleanMaps x.1:=(run_Vx0_c big x).trans (by kernel_rfl)
theorem ok_laws_FnBooleanMaps:OK 3 S_laws_FnBooleanMaps:=gdR (A:=A_Vx0_c) tc Tryz.func3 (jeq ⟨ok_V0,ok_V40,ok_V73,ok_V74,ok_V75,ok_V79,ok_V80,ok_V87,ok_V89,ok_V91,ok_V101,ok_V107,ok_V108,ok_V110,ok_V111,ok_V112,ok_V113,trivial⟩) run_laws_FnBooleanMaps
theorem good_laws_FnBooleanMaps:Gx.Good Tryz.prog 3 S_laws_FnBooleanMaps:=ok_laws_FnBooleanMaps.2
end
end Go.Proofs.YtmebolidmeljeaaGreat
