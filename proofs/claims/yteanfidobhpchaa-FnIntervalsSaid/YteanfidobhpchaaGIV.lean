import Derived.Test.YteanfidobhpchaaGIVp2
set_option maxRecDepth 100000
set_option linter.unusedVariables false
namespace Go.Proofs.Yteanfidobhpchaa
open Go Go.Gx Go.Proofs
def wef (rec:T15) (k:T4) (a0:Y1) (a3 a4 a10 a11 a18 a19 a26 a27:Int):Z6 :=
  cond (decide (a27<a26))
  ((a0).bind fun xq4 =>
  (atI xq4.1 a3).bind fun xq5 =>
  (atI xq5 a27).bind fun xq6 =>
  cond xq6
  ((a0).bind fun xq7 =>
  (atI xq7.2.2.1 a3).bind fun xq8 =>
  (a0).bind fun xq9 =>
  (atI xq9.2.1 a4).bind fun xq10 =>
  (atI xq10 a27).bind fun xq11 =>
  (atI xq8 xq11).bind fun xq12 =>
  (a0).bind fun xq13 =>
  (atI xq13.2.1 a27).bind fun xq14 =>
  (a0).bind fun xq15 =>
  (atI xq15.2.2.1 a3).bind fun xq16 =>
  (atI xq16 a4).bind fun xq17 =>
  (atI xq14 xq17).bind fun xq18 =>
  cond (decide (xq12≠xq18))
  (some ((some [a3,a4,a27]),(())))
  (rec a0 a3 a4 a10 a11 a18 a19 a26 (IntKind.i64.wrap (a27+1))))
  (rec a0 a3 a4 a10 a11 a18 a19 a26 (IntKind.i64.wrap (a27+1))))
  (k a0 a3 a10 a11 a18 a19)
def wbp (rec:T4) (a0:Y1) (a3 a10 a11 a18 a19:Int):Z6 :=
  rec a0 a3 a10 a11 a18 (IntKind.i64.wrap (a19+1))
def wbr (L8:T15) (k:T20) (a0:Y1) (a3 a10 a11 a18 a19:Int):Z6 :=
  cond (decide (a19<a18))
  ((a0).bind fun xq3 =>
  L8 a0 a3 a19 a10 a11 a18 a19 (xq3.1.length:Int) 0)
  (k a0 a10 a11)
def xp (rec:T20) (a0:Y1) (a10 a11:Int):Z6 :=
  rec a0 a10 (IntKind.i64.wrap (a11+1))
def wbq (L5:T4) (k:Z6) (a0:Y1) (a10 a11:Int):Z6 :=
  cond (decide (a11<a10))
  ((a0).bind fun xq2 =>
  L5 a0 a11 a10 a11 (xq2.1.length:Int) 0)
  (k)
def xo:Z6 :=
  some (none,(()))
def wrp (L2:T20) (l_0:Y1):Z6 :=
  (l_0).bind fun xq1 =>
  L2 l_0 (xq1.1.length:Int) 0
def wnf (N:Nat) (k:T4):=itN (fun r=>wef r k) fun _ _ _ _ _ _ _ _ _=>none
def wed (N:Nat) (rec:T4) (k:T20):=wnf N (wbp rec) N
def wne (N:Nat) (k:T20):=itN (fun r=>wbr (wed N r k) k) fun _ _ _ _ _ _=>none
def wec (N:Nat) (rec:T20) (k:Z6):=wne N (xp rec) N
def wnd (N:Nat) (k:Z6):=itN (fun r=>wbq (wec N r k) k) fun _ _ _=>none
def wnc (N:Nat):=wnd N (xo) N
def V54 (N:Nat) (l_0:Y1):Z6:=wrp (wnc N) l_0
def S_V54:Sig:=⟨(.pair Q3 .unit),[0],[],.unit,(.ns I),.i,fun x=>V54 big x.1⟩
def A_V54:Cfg:=mkCfg tab [] [(4,([.as Q3 .i]++dr 9 [B0,B0])),(10,([.as Q3 .i,D0,D0,B0]++dr 6 ([B0,B0]++dr 6 [B0,B0]))),(31,[]),(16,([.as Q3 .i,D0,D0,B0,B0]++dr 5 ([B0,B0]++dr 6 ([B0,B0]++dr 6 [B0,B0])))),(29,([.as Q3 .i]++dr 9 [B0,B0])),(27,([.as Q3 .i,D0,D0,B0]++dr 6 ([B0,B0]++dr 6 [B0,B0])))]
noncomputable def ze (N n:Nat) (K:Ex→St→Z6) (a0:Y1) (a10 a11:Int):Z6:=itr A_V54 N 4 Try.f53 [1,0,1,0,0] n (([.val Q3 .i a0]++ud 9 [W0 a10,W0 a11])++us 76) K
noncomputable def zf (N n:Nat) (K:Ex→St→Z6) (a0:Y1) (a3 a10 a11 a18 a19:Int):Z6:=itr A_V54 N 10 Try.f53 [1,0,1,0,0,1,1,0,0,1,1,0,0] n (([.val Q3 .i a0,.u,.u,W0 a3]++ud 6 ([W0 a10,W0 a11]++ud 6 [W0 a18,W0 a19]))++us 68) K
noncomputable def wee (N n:Nat) (K:Ex→St→Z6) (a0:Y1) (a3 a4 a10 a11 a18 a19 a26 a27:Int):Z6:=itr A_V54 N 16 Try.f53 [1,0,1,0,0,1,1,0,0,1,1,0,0,1,1,0,0,1,1,0,0] n (([.val Q3 .i a0,.u,.u,W0 a3,W0 a4]++ud 5 ([W0 a10,W0 a11]++ud 6 ([W0 a18,W0 a19]++ud 6 [W0 a26,W0 a27])))++us 60) K
noncomputable def wia:Ex→St→Z6:=finish A_V54 S_V54 Try.f53.results.toList
noncomputable def wh8 (kX:T67):Z6:=kX ([]++us 88)
noncomputable def wbn (kX:T67) (kO:T59):=exK wia 0 (A_V54.shape 31) kX kO
noncomputable def wh9 (kX:T67) (a0:Y1) (a10 a11:Int):Z6:=kX (([.val Q3 .i a0]++ud 9 [W0 a10,W0 a11])++us 76)
noncomputable def wbo (kX:T67) (kO:T59):=exK wia 2 (A_V54.shape 29) kX kO
noncomputable def wwo (kX:T67) (a0:Y1) (a3 a10 a11 a18 a19:Int):Z6:=kX (([.val Q3 .i a0,.u,.u,W0 a3]++ud 6 ([W0 a10,W0 a11]++ud 6 [W0 a18,W0 a19]))++us 68)
noncomputable def wwn (kX:T67) (kO:T59):=exK wia 4 (A_V54.shape 27) kX kO
theorem wwr (N kX kO):∀n,wee N n (wwn kX kO)=wnf N (wwo kX) n :=
 itE rfl fun m=>by kernel_rfl
noncomputable def wh7 (N m:Nat) (kX:T67) (kO:T59):=(blockK 4 (blockK 3 (sqK A_V54 N 27 500013 Try.f53 [1,0,1,0,0,1,1,0,0,1,1,0,0,1,1,1] (itK A_V54 N 10 Try.f53 [1,0,1,0,0,1,1,0,0,1,1,0,0] m (wbo kX kO)))))
noncomputable def wwu (N m:Nat) (kX:T67) (kO:T59) (st':St):Z6:=rn A_V54 N Try.f53 [1,0,1,0,0,1,1,0,0,1,1,0,0,1,1,1] st' (itK A_V54 N 10 Try.f53 [1,0,1,0,0,1,1,0,0,1,1,0,0] m (wbo kX kO))
theorem w2g (N m kX kO) {r}(h:zf N m (wbo kX kO)=r):wee N N (wh7 N m kX kO)=wed N r (wh9 kX):=by
 rw[show wee N N (wh7 N m kX kO)=wee N N (wwn (wwu N m kX kO) fun j=>(wh7 N m kX kO) (.exit j)) from(by funext _ _ _ _ _ _ _ _ _;exact jky),wwr,show wwo (wwu N m kX kO)=wbp (zf N m (wbo kX kO)) by kernel_rfl,h];rfl
theorem wwq (N kX kO):∀n,zf N n (wbo kX kO)=wne N (wh9 kX) n :=
 itE rfl fun m=>(show _=wbr (wee N N (wh7 N m kX kO)) (wh9 kX) by kernel_rfl).trans (by rw[w2g N m kX kO rfl]<;>rfl)
noncomputable def wh6 (N m:Nat) (kX:T67) (kO:T59):=(blockK 2 (blockK 1 (sqK A_V54 N 29 500014 Try.f53 [1,0,1,0,0,1,1,1] (itK A_V54 N 4 Try.f53 [1,0,1,0,0] m (wbn kX kO)))))
noncomputable def wwt (N m:Nat) (kX:T67) (kO:T59) (st':St):Z6:=rn A_V54 N Try.f53 [1,0,1,0,0,1,1,1] st' (itK A_V54 N 4 Try.f53 [1,0,1,0,0] m (wbn kX kO))
theorem w2f (N m kX kO) {r}(h:ze N m (wbn kX kO)=r):zf N N (wh6 N m kX kO)=wec N r (wh8 kX):=by
 rw[show zf N N (wh6 N m kX kO)=zf N N (wbo (wwt N m kX kO) fun j=>(wh6 N m kX kO) (.exit j)) from(by funext _ _ _ _ _ _;exact jky),wwq,show wh9 (wwt N m kX kO)=xp (ze N m (wbn kX kO)) by kernel_rfl,h];rfl
theorem wwp (N kX kO):∀n,ze N n (wbn kX kO)=wnd N (wh8 kX) n :=
 itE rfl fun m=>(show _=wbq (zf N N (wh6 N m kX kO)) (wh8 kX) by kernel_rfl).trans (by rw[w2f N m kX kO rfl]<;>rfl)
noncomputable def wh5 (N:Nat):=(blockK 0 (sqK A_V54 N 31 500015 Try.f53 [1,1] wia))
noncomputable def wws (N:Nat) (st':St):Z6:=rn A_V54 N Try.f53 [1,1] st' wia
theorem w2e (N):ze N N (wh5 N)=wnc N:=by
 rw[show ze N N (wh5 N)=ze N N (wbn (wws N) fun j=>(wh5 N) (.exit j)) from(by funext _ _ _;exact jky),wwp,show wh8 (wws N)=xo by kernel_rfl];rfl
theorem run_V54 (N x):runF A_V54 N Try.f53 S_V54 x=V54 N x.1:=(show _=(wrp (ze N N (wh5 N)) x.1) by kernel_rfl).trans (by rw[w2e N];rfl)
theorem ok_V54:OK 53 S_V54:=gdR (A:=A_V54) tc Try.func53 (jeb trivial) (run_V54 big)
def wrq (p_0:Y2):Z2 :=
  (V33 p_0).bind fun rq1 =>
  cond rq1.1.2.1
  ((V54 big rq1.1.1).bind fun rq2 =>
  some ((rq2.1.isNone,rq1.1.2.1,()),(())))
  (some ((false,rq1.1.2.1,()),(())))
def V55 (p_0:Y2):Z2:=wrq p_0
def S_V55:Sig:=⟨Q12,[0],[],.unit,Q9,.i,fun x=>V55 x.1⟩
def A_V55:Cfg:=mkCfg tab [(52,S_V33),(53,S_V54)] []
theorem run_V55 (N x):runF A_V55 N Try.f12 S_V55 x=V55 x.1:=by kernel_rfl
theorem ok_V55:OK 12 S_V55:=gdR (A:=A_V55) tc Try.func12 (jeb ⟨ok_V33,ok_V54,trivial⟩) (run_V55 big)
def w0a (p_0:Y2) (x_1 y_2:Int):Option ((Int×Z0)×Unit) :=
  (V33 p_0).bind fun rq1 =>
  cond (!rq1.1.2.1)
  (some ((0,false,()),(())))
  ((rq1.1.1).bind fun xq2 =>
  (V34 xq2.1 [x_1,y_2]).bind fun rq3 =>
  cond (!rq3.1)
  (some ((0,false,()),(())))
  ((rq1.1.1).bind fun xq4 =>
  (atI xq4.2.1 x_1).bind fun xq5 =>
  (atI xq5 y_2).bind fun xq6 =>
  some ((xq6,true,()),(()))))
def V56 (p_0:Y2) (x_1 y_2:Int):Option ((Int×Z0)×Unit):=w0a p_0 x_1 y_2
def S_V56:Sig:=⟨Q16,[0,0,0],[],.unit,(.tup (.pair I Q15)),.i,fun x=>V56 x.1 x.2.1 x.2.2.1⟩
def A_V56:Cfg:=mkCfg tab [(52,S_V33),(57,S_V34)] []
theorem run_V56 (N x):runF A_V56 N Try.f26 S_V56 x=V56 x.1 x.2.1 x.2.2.1:=by kernel_rfl
theorem ok_V56:OK 26 S_V56:=gdR (A:=A_V56) tc Try.func26 (jeb ⟨ok_V33,ok_V34,trivial⟩) (run_V56 big)
def w0b (p_0:Y2) (x_1 y_2:Int):Z2 :=
  (V27 big p_0).bind fun rq1 =>
  cond (!((((),rq1.1.2).2).1))
  (some ((false,false,()),(())))
  ((V34 rq1.1.1 [x_1,y_2]).bind fun rq2 =>
  cond (!rq2.1)
  (some ((false,false,()),(())))
  ((atI rq1.1.1 x_1).bind fun _ =>
  (rq1.1.1[x_1.toNat]?).bind fun xq3 =>
  (rq1.1.1[x_1.toNat]?).bind fun xq4 =>
  (atI xq4 y_2).bind fun _ =>
  (rq1.1.1[x_1.toNat]?).bind fun xq5 =>
  (xq5[y_2.toNat]?).bind fun xq6 =>
  some ((xq6,true,()),(()))))
def V57 (p_0:Y2) (x_1 y_2:Int):Z2:=w0b p_0 x_1 y_2
def S_V57:Sig:=⟨Q16,[0,0,0],[],.unit,Q9,.i,fun x=>V57 x.1 x.2.1 x.2.2.1⟩
def A_V57:Cfg:=mkCfg tab [(72,S_V27),(57,S_V34)] []
theorem run_V57 (N x):runF A_V57 N Try.f27 S_V57 x=V57 x.1 x.2.1 x.2.2.1:=by kernel_rfl
theorem ok_V57:OK 27 S_V57:=gdR (A:=A_V57) tc Try.func27 (jeb ⟨ok_V27,ok_V34,trivial⟩) (run_V57 big)
def w0c (p_0:Y2) (x_1 y_2:Int):Option ((Int×Z0)×Unit) :=
  (V33 p_0).bind fun rq1 =>
  cond (!rq1.1.2.1)
  (some ((0,false,()),(())))
  ((rq1.1.1).bind fun xq2 =>
  (V34 xq2.1 [x_1,y_2]).bind fun rq3 =>
  cond (!rq3.1)
  (some ((0,false,()),(())))
  ((rq1.1.1).bind fun xq4 =>
  (atI xq4.2.2.1 x_1).bind fun xq5 =>
  (atI xq5 y_2).bind fun xq6 =>
  some ((xq6,true,()),(()))))
def V58 (p_0:Y2) (x_1 y_2:Int):Option ((Int×Z0)×Unit):=w0c p_0 x_1 y_2
def S_V58:Sig:=⟨Q16,[0,0,0],[],.unit,(.tup (.pair I Q15)),.i,fun x=>V58 x.1 x.2.1 x.2.2.1⟩
def A_V58:Cfg:=mkCfg tab [(52,S_V33),(57,S_V34)] []
theorem run_V58 (N x):runF A_V58 N Try.f28 S_V58 x=V58 x.1 x.2.1 x.2.2.1:=by kernel_rfl
theorem ok_V58:OK 28 S_V58:=gdR (A:=A_V58) tc Try.func28 (jeb ⟨ok_V33,ok_V34,trivial⟩) (run_V58 big)
def weh (rec:T44) (k:Z2) (a1 a2:Int) (a8:Y1) (a33 a34:Int):Z2 :=
  cond (decide (a34<a33))
  ((a8).bind fun xq5 =>
  (atI xq5.1 a34).bind fun xq6 =>
  (atI xq6 a2).bind fun xq7 =>
  cond xq7
  ((a8).bind fun xq8 =>
  (atI xq8.2.1 a2).bind fun xq9 =>
  (a8).bind fun xq10 =>
  (atI xq10.2.2.1 a34).bind fun xq11 =>
  (atI xq11 a1).bind fun xq12 =>
  (atI xq9 xq12).bind fun xq13 =>
  (a8).bind fun xq14 =>
  (atI xq14.2.2.1 a34).bind fun xq15 =>
  (a8).bind fun xq16 =>
  (atI xq16.2.1 a1).bind fun xq17 =>
  (atI xq17 a2).bind fun xq18 =>
  (atI xq15 xq18).bind fun xq19 =>
  cond (decide (xq13≠xq19))
  (some ((false,true,()),(())))
  (rec a1 a2 a8 a33 (IntKind.i64.wrap (a34+1))))
  (rec a1 a2 a8 a33 (IntKind.i64.wrap (a34+1))))
  (k)
def wbs:Z2 :=
  some ((true,true,()),(()))
def wic (L5:T44) (p_0:Y2) (x_1 y_2:Int):Z2 :=
  (V33 p_0).bind fun rq1 =>
  cond (!rq1.1.2.1)
  (some ((false,false,()),(())))
  ((rq1.1.1).bind fun xq2 =>
  (V34 xq2.1 [x_1,y_2]).bind fun rq3 =>
  cond (!rq3.1)
  (some ((false,false,()),(())))
  ((rq1.1.1).bind fun xq4 =>
  L5 x_1 y_2 rq1.1.1 (xq4.1.length:Int) 0))
def wnh (N:Nat) (k:Z2):=itN (fun r=>weh r k) fun _ _ _ _ _=>none
def wng (N:Nat):=wnh N (wbs) N
def V59 (N:Nat) (p_0:Y2) (x_1 y_2:Int):Z2:=wic (wng N) p_0 x_1 y_2
def S_V59:Sig:=⟨Q16,[0,0,0],[],.unit,Q9,.i,fun x=>V59 big x.1 x.2.1 x.2.2.1⟩
def A_V59:Cfg:=mkCfg tab [(52,S_V33),(57,S_V34)] [(10,([D0,B0,B0]++dr 5 ([.as Q3 .i]++dr 24 [B0,B0]))),(21,[])]
noncomputable def weg (N n:Nat) (K:T55) (a1 a2:Int) (a8:Y1) (a33 a34:Int):Z2:=itr A_V59 N 10 Try.f29 [1,1,1,0,1,0,0] n (([.u,W0 a1,W0 a2]++ud 5 ([.val Q3 .i a8]++ud 24 [W0 a33,W0 a34]))++us 54) K
noncomputable def wrr:Ex→St→Z2:=finish A_V59 S_V59 Try.f29.results.toList
noncomputable def www (kX:T42):Z2:=kX ([]++us 89)
noncomputable def wwv (kX:T42) (kO:T28):=exK wrr 0 (A_V59.shape 21) kX kO
theorem wwx (N kX kO):∀n,weg N n (wwv kX kO)=wnh N (www kX) n :=
 itE rfl fun m=>by kernel_rfl
noncomputable def wib (N:Nat):=(blockK 0 (sqK A_V59 N 21 500010 Try.f29 [1,1,1,1] wrr))
noncomputable def wwy (N:Nat) (st':St):Z2:=rn A_V59 N Try.f29 [1,1,1,1] st' wrr
theorem w2h (N):weg N N (wib N)=wng N:=by
 rw[show weg N N (wib N)=weg N N (wwv (wwy N) fun j=>(wib N) (.exit j)) from(by funext _ _ _ _ _;exact jky),wwx,show www (wwy N)=wbs by kernel_rfl];rfl
theorem run_V59 (N x):runF A_V59 N Try.f29 S_V59 x=V59 N x.1 x.2.1 x.2.2.1:=(show _=(wic (weg N N (wib N)) x.1 x.2.1 x.2.2.1) by kernel_rfl).trans (by rw[w2h N];rfl)
theorem ok_V59:OK 29 S_V59:=gdR (A:=A_V59) tc Try.func29 (jeb ⟨ok_V33,ok_V34,trivial⟩) (run_V59 big)
def wej (rec:T53) (k:Z2) (a1 a2:Int) (a3:Y2) (a8:Int):Z2 :=
  (atI a3.1 a2).bind fun xq2 =>
  cond (decide (a8<(xq2.length:Int)))
  ((atI a3.1 a2).bind fun xq3 =>
  (atI xq3 a8).bind fun xq4 =>
  (V49 a3 xq4 a1).bind fun rq5 =>
  (V48 a3 rq5.1 a2).bind fun rq6 =>
  (V48 a3 a1 a2).bind fun rq7 =>
  (V49 a3 xq4 rq7.1).bind fun rq8 =>
  cond (decide (rq6.1≠rq8.1))
  (some ((false,true,()),(())))
  (rec a1 a2 a3 (IntKind.i64.wrap (a8+1))))
  (k)
def wbt:Z2 :=
  some ((true,true,()),(()))
def wig (L4:T53) (p_0:Y2) (x_1 y_2:Int):Z2 :=
  (V47 p_0 x_1 y_2).bind fun rq1 =>
  cond (!rq1.1)
  (some ((false,false,()),(())))
  (L4 x_1 y_2 p_0 0)
def wnj (N:Nat) (k:Z2):=itN (fun r=>wej r k) fun _ _ _ _=>none
def wni (N:Nat):=wnj N (wbt) N
def V60 (N:Nat) (p_0:Y2) (x_1 y_2:Int):Z2:=wig (wni N) p_0 x_1 y_2
def S_V60:Sig:=⟨Q16,[0,0,0],[],.unit,Q9,.i,fun x=>V60 big x.1 x.2.1 x.2.2.1⟩
def A_V60:Cfg:=mkCfg tab [(71,S_V47),(47,S_V49),(46,S_V48)] [(8,([D0,B0,B0,B2]++dr 4 [B0])),(19,[])]
noncomputable def wei (N n:Nat) (K:T55) (a1 a2:Int) (a3:Y2) (a8:Int):Z2:=itr A_V60 N 8 Try.f30 [1,1,0,1,0,0] n (([.u,W0 a1,W0 a2,W2 a3]++ud 4 [W0 a8])++us 39) K
noncomputable def wru:Ex→St→Z2:=finish A_V60 S_V60 Try.f30.results.toList
noncomputable def ww0 (kX:T42):Z2:=kX ([]++us 48)
noncomputable def wwz (kX:T42) (kO:T28):=exK wru 0 (A_V60.shape 19) kX kO
theorem ww1 (N kX kO):∀n,wei N n (wwz kX kO)=wnj N (ww0 kX) n :=
 itE rfl fun m=>by kernel_rfl
noncomputable def wif (N:Nat):=(blockK 0 (sqK A_V60 N 19 500009 Try.f30 [1,1,1] wru))
noncomputable def ww2 (N:Nat) (st':St):Z2:=rn A_V60 N Try.f30 [1,1,1] st' wru
theorem w2i (N):wei N N (wif N)=wni N:=by
 rw[show wei N N (wif N)=wei N N (wwz (ww2 N) fun j=>(wif N) (.exit j)) from(by funext _ _ _ _;exact jky),ww1,show ww0 (ww2 N)=wbt by kernel_rfl];rfl
theorem run_V60 (N x):runF A_V60 N Try.f30 S_V60 x=V60 N x.1 x.2.1 x.2.2.1:=(show _=(wig (wei N N (wif N)) x.1 x.2.1 x.2.2.1) by kernel_rfl).trans (by rw[w2i N];rfl)
theorem ok_V60:OK 30 S_V60:=gdR (A:=A_V60) tc Try.func30 (jeb ⟨ok_V47,ok_V49,ok_V48,trivial⟩) (run_V60 big)
def w0g (code_0:Y4):Z3 :=
  (V19 big (code_0,(0,(0,())))).bind fun rq1 =>
  some (rq1.1,(()))
def V61 (code_0:Y4):Z3:=w0g code_0
def S_V61:Sig:=⟨(.pair Q14 .unit),[0],[],.unit,Q0,.i,fun x=>V61 x.1⟩
def A_V61:Cfg:=mkCfg tab [(62,S_V19)] []
theorem run_V61 (N x):runF A_V61 N Try.f41 S_V61 x=V61 x.1:=by kernel_rfl
theorem ok_V61:OK 41 S_V61:=gdR (A:=A_V61) tc Try.func41 (jeb ⟨ok_V19,trivial⟩) (run_V61 big)
def w0h (code_0:Y4):Z3 :=
  (V61 code_0).bind fun rq1 =>
  some (rq1.1,(()))
def V62 (code_0:Y4):Z3:=w0h code_0
def S_V62:Sig:=⟨(.pair Q14 .unit),[0],[],.unit,Q0,.i,fun x=>V62 x.1⟩
def A_V62:Cfg:=mkCfg tab [(41,S_V61)] []
theorem run_V62 (N x):runF A_V62 N Try.f31 S_V62 x=V62 x.1:=by kernel_rfl
theorem ok_V62:OK 31 S_V62:=gdR (A:=A_V62) tc Try.func31 (jeb ⟨ok_V61,trivial⟩) (run_V62 big)
def w0i (o_0:Y5) (x_1 y_2:Int):Option Z0 :=
  cond (decide (x_1≠y_2))
  ((atI o_0 x_1).bind fun xq1 =>
  (atI xq1 y_2).bind fun xq2 =>
  some (xq2,(())))
  (some (false,(())))
def V63 (o_0:Y5) (x_1 y_2:Int):Option Z0:=w0i o_0 x_1 y_2
def S_V63:Sig:=⟨(.pair Q4 Q6),[0,0,0],[],.unit,.bool,.i,fun x=>V63 x.1 x.2.1 x.2.2.1⟩
def A_V63:Cfg:=mkCfg tab [] []
theorem run_V63 (N x):runF A_V63 N Try.f44 S_V63 x=V63 x.1 x.2.1 x.2.2.1:=by kernel_rfl
theorem ok_V63:OK 44 S_V63:=gdR (A:=A_V63) tc Try.func44 (jeb trivial) (run_V63 big)
def wel (rec:Y5→Int→Int→Int→Int→Option Z0) (k:Option Z0) (a0:Y5) (a1 a2 a14 a15:Int):Option Z0 :=
  cond (decide (a15<a14))
  ((V63 a0 a1 a15).bind fun rq2 =>
  cond rq2.1
  ((V63 a0 a15 a2).bind fun rq3 =>
  cond rq3.1
  (some (false,(())))
  (rec a0 a1 a2 a14 (IntKind.i64.wrap (a15+1))))
  (rec a0 a1 a2 a14 (IntKind.i64.wrap (a15+1))))
  (k)
def wbu:Option Z0 :=
  some (true,(()))
def wrv (L4:Y5→Int→Int→Int→Int→Option Z0) (o_0:Y5) (x_1 y_2:Int):Option Z0 :=
  (V63 o_0 x_1 y_2).bind fun rq1 =>
  cond (!rq1.1)
  (some (false,(())))
  (L4 o_0 x_1 y_2 (o_0.length:Int) 0)
def wnl (N:Nat) (k:Option Z0):=itN (fun r=>wel r k) fun _ _ _ _ _=>none
def wnk (N:Nat):=wnl N (wbu) N
def V64 (N:Nat) (o_0:Y5) (x_1 y_2:Int):Option Z0:=wrv (wnk N) o_0 x_1 y_2
def S_V64:Sig:=⟨(.pair Q4 Q6),[0,0,0],[],.unit,.bool,.i,fun x=>V64 big x.1 x.2.1 x.2.2.1⟩
def A_V64:Cfg:=mkCfg tab [(44,S_V63)] [(8,([.as Q4 .i,B0,B0]++dr 11 [B0,B0])),(19,[])]
noncomputable def wek (N n:Nat) (K:Ex→St→Option Z0) (a0:Y5) (a1 a2 a14 a15:Int):Option Z0:=itr A_V64 N 8 Try.f75 [1,1,0,1,0,0] n (([.val Q4 .i a0,W0 a1,W0 a2]++ud 11 [W0 a14,W0 a15])++us 13) K
noncomputable def wrw:Ex→St→Option Z0:=finish A_V64 S_V64 Try.f75.results.toList
noncomputable def ww4 (kX:St→Option Z0):Option Z0:=kX ([]++us 29)
noncomputable def ww3 (kX:St→Option Z0) (kO:Nat→St→Option Z0):Ex→St→Option Z0:=exK wrw 0 (A_V64.shape 19) kX kO
theorem ww5 (N kX kO):∀n,wek N n (ww3 kX kO)=wnl N (ww4 kX) n :=
 itE rfl fun m=>by kernel_rfl
noncomputable def wih (N:Nat):Ex→St→Option Z0:=(blockK 0 (sqK A_V64 N 19 500009 Try.f75 [1,1,1] wrw))
noncomputable def ww6 (N:Nat) (st':St):Option Z0:=rn A_V64 N Try.f75 [1,1,1] st' wrw
theorem w2j (N):wek N N (wih N)=wnk N:=by
 rw[show wek N N (wih N)=wek N N (ww3 (ww6 N) fun j=>(wih N) (.exit j)) from(by funext _ _ _ _ _;exact jky),ww5,show ww4 (ww6 N)=wbu by kernel_rfl];rfl
theorem run_V64 (N x):runF A_V64 N Try.f75 S_V64 x=V64 N x.1 x.2.1 x.2.2.1:=(show _=(wrv (wek N N (wih N)) x.1 x.2.1 x.2.2.1) by kernel_rfl).trans (by rw[w2j N];rfl)
theorem ok_V64:OK 75 S_V64:=gdR (A:=A_V64) tc Try.func75 (jeb ⟨ok_V63,trivial⟩) (run_V64 big)
def w0j (l_0:Y1) (x_1 y_2:Int):Option Z0 :=
  (l_0).bind fun xq1 =>
  (l_0).bind fun xq2 =>
  (atI xq2.2.1 x_1).bind fun xq3 =>
  (atI xq3 y_2).bind fun xq4 =>
  (V64 big xq1.1 xq4 x_1).bind fun rq5 =>
  cond (!rq5.1)
  (some (true,(())))
  ((l_0).bind fun xq6 =>
  (l_0).bind fun xq7 =>
  (atI xq7.2.2.1 x_1).bind fun xq8 =>
  (atI xq8 y_2).bind fun xq9 =>
  (V64 big xq6.1 y_2 xq9).bind fun rq10 =>
  some (rq10.1,(())))
def V65 (l_0:Y1) (x_1 y_2:Int):Option Z0:=w0j l_0 x_1 y_2
def S_V65:Sig:=⟨(.pair Q3 Q6),[0,0,0],[],.unit,.bool,.i,fun x=>V65 x.1 x.2.1 x.2.2.1⟩
def A_V65:Cfg:=mkCfg tab [(75,S_V64)] []
theorem run_V65 (N x):runF A_V65 N Try.f74 S_V65 x=V65 x.1 x.2.1 x.2.2.1:=by kernel_rfl
theorem ok_V65:OK 74 S_V65:=gdR (A:=A_V65) tc Try.func74 (jeb ⟨ok_V64,trivial⟩) (run_V65 big)
def weo (rec:T1) (k:T0) (a1:Unit) (a6:Y1) (a8 a21 a22 a29 a30:Int):Z2 :=
  cond (decide (a30<a29))
  ((V65 a6 a8 a30).bind fun rq4 =>
  cond (!rq4.1)
  (some ((false,true,()),(())))
  (rec a1 a6 a8 a21 a22 a29 (IntKind.i64.wrap (a30+1))))
  (k a1 a6 a21 a22)
def wbw (rec:T0) (a1:Unit) (a6:Y1) (a21 a22:Int):Z2 :=
  rec a1 a6 a21 (IntKind.i64.wrap (a22+1))
def wbx (L8:T1) (k:Z2) (a1:Unit) (a6:Y1) (a21 a22:Int):Z2 :=
  cond (decide (a22<a21))
  ((a6).bind fun xq3 =>
  L8 a1 a6 a22 a21 a22 (xq3.1.length:Int) 0)
  (k)
def xr:Z2 :=
  some ((true,true,()),(()))
def wk5 (L5:T0) (p_0:Y2) (so_1:Unit):Z2 :=
  (V33 p_0).bind fun rq1 =>
  cond (!rq1.1.2.1)
  (some ((false,false,()),(())))
  ((rq1.1.1).bind fun xq2 =>
  L5 so_1 rq1.1.1 (xq2.1.length:Int) 0)
def wnn (N:Nat) (k:T0):=itN (fun r=>weo r k) fun _ _ _ _ _ _ _=>none
def wem (N:Nat) (rec:T0) (k:Z2):=wnn N (wbw rec) N
def wnm (N:Nat) (k:Z2):=itN (fun r=>wbx (wem N r k) k) fun _ _ _ _=>none
def wii (N:Nat):=wnm N (xr) N
def V66 (N:Nat) (p_0:Y2) (so_1:Unit):Z2:=wk5 (wii N) p_0 so_1
def S_V66:Sig:=⟨(.pair Q0 (.pair (.clo 74 0 .unit) .unit)),[0,0],[],.unit,Q9,.i,fun x=>V66 big x.1 x.2.1⟩
def A_V66:Cfg:=mkCfg tab [(52,S_V33),(74,S_V65)] [(10,([D0,.as (.clo 74 0 .unit) .i]++dr 4 ([.as Q3 .i]++dr 14 [B0,B0]))),(16,([D0,.as (.clo 74 0 .unit) .i]++dr 4 ([.as Q3 .i,D0,B0]++dr 12 ([B0,B0]++dr 6 [B0,B0])))),(29,[]),(27,([D0,.as (.clo 74 0 .unit) .i]++dr 4 ([.as Q3 .i]++dr 14 [B0,B0])))]
noncomputable def zg (N n:Nat) (K:T55) (a1:Unit) (a6:Y1) (a21 a22:Int):Z2:=itr A_V66 N 10 Try.f73 [1,1,1,0,1,0,0] n (([.u,.val (.clo 74 0 .unit) .i a1]++ud 4 ([.val Q3 .i a6]++ud 14 [W0 a21,W0 a22]))++us 18) K
noncomputable def wen (N n:Nat) (K:T55) (a1:Unit) (a6:Y1) (a8 a21 a22 a29 a30:Int):Z2:=itr A_V66 N 16 Try.f73 [1,1,1,0,1,0,0,1,1,0,0,1,1,0,0] n (([.u,.val (.clo 74 0 .unit) .i a1]++ud 4 ([.val Q3 .i a6,.u,W0 a8]++ud 12 ([W0 a21,W0 a22]++ud 6 [W0 a29,W0 a30])))++us 10) K
noncomputable def wk6:Ex→St→Z2:=finish A_V66 S_V66 Try.f73.results.toList
noncomputable def wil (kX:T42):Z2:=kX ([]++us 41)
noncomputable def wbv (kX:T42) (kO:T28):=exK wk6 0 (A_V66.shape 29) kX kO
noncomputable def ww8 (kX:T42) (a1:Unit) (a6:Y1) (a21 a22:Int):Z2:=kX (([.u,.val (.clo 74 0 .unit) .i a1]++ud 4 ([.val Q3 .i a6]++ud 14 [W0 a21,W0 a22]))++us 18)
noncomputable def ww7 (kX:T42) (kO:T28):=exK wk6 2 (A_V66.shape 27) kX kO
theorem wxa (N kX kO):∀n,wen N n (ww7 kX kO)=wnn N (ww8 kX) n :=
 itE rfl fun m=>by kernel_rfl
noncomputable def wik (N m:Nat) (kX:T42) (kO:T28):=(blockK 2 (blockK 1 (sqK A_V66 N 27 500013 Try.f73 [1,1,1,0,1,0,0,1,1,1] (itK A_V66 N 10 Try.f73 [1,1,1,0,1,0,0] m (wbv kX kO)))))
noncomputable def wxc (N m:Nat) (kX:T42) (kO:T28) (st':St):Z2:=rn A_V66 N Try.f73 [1,1,1,0,1,0,0,1,1,1] st' (itK A_V66 N 10 Try.f73 [1,1,1,0,1,0,0] m (wbv kX kO))
theorem w2l (N m kX kO) {r}(h:zg N m (wbv kX kO)=r):wen N N (wik N m kX kO)=wem N r (wil kX):=by
 rw[show wen N N (wik N m kX kO)=wen N N (ww7 (wxc N m kX kO) fun j=>(wik N m kX kO) (.exit j)) from(by funext _ _ _ _ _ _ _;exact jky),wxa,show ww8 (wxc N m kX kO)=wbw (zg N m (wbv kX kO)) by kernel_rfl,h];rfl
theorem ww9 (N kX kO):∀n,zg N n (wbv kX kO)=wnm N (wil kX) n :=
 itE rfl fun m=>(show _=wbx (wen N N (wik N m kX kO)) (wil kX) by kernel_rfl).trans (by rw[w2l N m kX kO rfl]<;>rfl)
noncomputable def wij (N:Nat):=(blockK 0 (sqK A_V66 N 29 500014 Try.f73 [1,1,1,1] wk6))
noncomputable def wxb (N:Nat) (st':St):Z2:=rn A_V66 N Try.f73 [1,1,1,1] st' wk6
theorem w2k (N):zg N N (wij N)=wii N:=by
 rw[show zg N N (wij N)=zg N N (wbv (wxb N) fun j=>(wij N) (.exit j)) from(by funext _ _ _ _;exact jky),ww9,show wil (wxb N)=xr by kernel_rfl];rfl
theorem run_V66 (N x):runF A_V66 N Try.f73 S_V66 x=V66 N x.1 x.2.1:=(show _=(wk5 (zg N N (wij N)) x.1 x.2.1) by kernel_rfl).trans (by rw[w2k N];rfl)
theorem ok_V66:OK 73 S_V66:=gdR (A:=A_V66) tc Try.func73 (jeb ⟨ok_V33,ok_V65,trivial⟩) (run_V66 big)
def wrx (p_0:Y2):Z2 :=
  (V66 big p_0 ()).bind fun rq1 =>
  some ((rq1.1.1,rq1.1.2.1,()),(()))
def V67 (p_0:Y2):Z2:=wrx p_0
def S_V67:Sig:=⟨Q12,[0],[],.unit,Q9,.i,fun x=>V67 x.1⟩
def A_V67:Cfg:=mkCfg tab [(73,S_V66)] []
theorem run_V67 (N x):runF A_V67 N Try.f32 S_V67 x=V67 x.1:=by kernel_rfl
theorem ok_V67:OK 32 S_V67:=gdR (A:=A_V67) tc Try.func32 (jeb ⟨ok_V66,trivial⟩) (run_V67 big)
def wer (rec:Y2→Int→Int→Option Z0) (k:Y2→Int→Option Z0) (a1:Y2) (a3 a4:Int):Option Z0 :=
  cond (decide (a4<(a1.1.length:Int)))
  ((V48 a1 a3 a4).bind fun rq1 =>
  (V17 big a1 rq1.1 a3).bind fun rq2 =>
  cond rq2.1
  ((V49 a1 a3 a4).bind fun rq3 =>
  (V17 big a1 a4 rq3.1).bind fun rq4 =>
  cond (!rq4.1)
  (some (false,(())))
  (rec a1 a3 (IntKind.i64.wrap (a4+1))))
  (rec a1 a3 (IntKind.i64.wrap (a4+1))))
  (k a1 a3)
def wbz (rec:Y2→Int→Option Z0) (a1:Y2) (a3:Int):Option Z0 :=
  rec a1 (IntKind.i64.wrap (a3+1))
def wb0 (L5:Y2→Int→Int→Option Z0) (k:Option Z0) (a1:Y2) (a3:Int):Option Z0 :=
  cond (decide (a3<(a1.1.length:Int)))
  (L5 a1 a3 0)
  (k)
def xt:Option Z0 :=
  some (true,(()))
def wry (L2:Y2→Int→Option Z0) (p_0:Y2):Option Z0 :=
  L2 p_0 0
def wnq (N:Nat) (k:Y2→Int→Option Z0):=itN (fun r=>wer r k) fun _ _ _=>none
def wep (N:Nat) (rec:Y2→Int→Option Z0) (k:Option Z0):=wnq N (wbz rec) N
def wnp (N:Nat) (k:Option Z0):=itN (fun r=>wb0 (wep N r k) k) fun _ _=>none
def wno (N:Nat):=wnp N (xt) N
def V68 (N:Nat) (p_0:Y2):Option Z0:=wry (wno N) p_0
def S_V68:Sig:=⟨Q12,[0],[],.unit,.bool,.i,fun x=>V68 big x.1⟩
def A_V68:Cfg:=mkCfg tab [(46,S_V48),(110,S_V17),(47,S_V49)] [(4,[D0,B2,D0,B0]),(10,[D0,B2,D0,B0,B0]),(19,[]),(7,[D0,B2,D0,B0])]
noncomputable def zh (N n:Nat) (K:Ex→St→Option Z0) (a1:Y2) (a3:Int):Option Z0:=itr A_V68 N 4 Try.f76 [1,0,1,0,0] n ([.u,W2 a1,.u,W0 a3]++us 32) K
noncomputable def weq (N n:Nat) (K:Ex→St→Option Z0) (a1:Y2) (a3 a4:Int):Option Z0:=itr A_V68 N 10 Try.f76 [1,0,1,0,0,1,0,0,1,0,0] n ([.u,W2 a1,.u,W0 a3,W0 a4]++us 31) K
noncomputable def wk7:Ex→St→Option Z0:=finish A_V68 S_V68 Try.f76.results.toList
noncomputable def wip (kX:St→Option Z0):Option Z0:=kX ([]++us 36)
noncomputable def wby (kX:St→Option Z0) (kO:Nat→St→Option Z0):Ex→St→Option Z0:=exK wk7 0 (A_V68.shape 19) kX kO
noncomputable def wxe (kX:St→Option Z0) (a1:Y2) (a3:Int):Option Z0:=kX ([.u,W2 a1,.u,W0 a3]++us 32)
noncomputable def wxd (kX:St→Option Z0) (kO:Nat→St→Option Z0):Ex→St→Option Z0:=exK wk7 2 (A_V68.shape 7) kX kO
theorem wxg (N kX kO):∀n,weq N n (wxd kX kO)=wnq N (wxe kX) n :=
 itE rfl fun m=>by kernel_rfl
noncomputable def wio (N m:Nat) (kX:St→Option Z0) (kO:Nat→St→Option Z0):Ex→St→Option Z0:=(blockK 2 (blockK 1 (sqK A_V68 N 7 500003 Try.f76 [1,0,1,0,0,1,1] (itK A_V68 N 4 Try.f76 [1,0,1,0,0] m (wby kX kO)))))
noncomputable def wxi (N m:Nat) (kX:St→Option Z0) (kO:Nat→St→Option Z0) (st':St):Option Z0:=rn A_V68 N Try.f76 [1,0,1,0,0,1,1] st' (itK A_V68 N 4 Try.f76 [1,0,1,0,0] m (wby kX kO))
theorem w2n (N m kX kO) {r}(h:zh N m (wby kX kO)=r):weq N N (wio N m kX kO)=wep N r (wip kX):=by
 rw[show weq N N (wio N m kX kO)=weq N N (wxd (wxi N m kX kO) fun j=>(wio N m kX kO) (.exit j)) from(by funext _ _ _;exact jky),wxg,show wxe (wxi N m kX kO)=wbz (zh N m (wby kX kO)) by kernel_rfl,h];rfl
theorem wxf (N kX kO):∀n,zh N n (wby kX kO)=wnp N (wip kX) n :=
 itE rfl fun m=>(show _=wb0 (weq N N (wio N m kX kO)) (wip kX) by kernel_rfl).trans (by rw[w2n N m kX kO rfl]<;>rfl)
noncomputable def wim (N:Nat):Ex→St→Option Z0:=(blockK 0 (sqK A_V68 N 19 500009 Try.f76 [1,1] wk7))
noncomputable def wxh (N:Nat) (st':St):Option Z0:=rn A_V68 N Try.f76 [1,1] st' wk7
theorem w2m (N):zh N N (wim N)=wno N:=by
 rw[show zh N N (wim N)=zh N N (wby (wxh N) fun j=>(wim N) (.exit j)) from(by funext _ _;exact jky),wxf,show wip (wxh N)=xt by kernel_rfl];rfl
theorem run_V68 (N x):runF A_V68 N Try.f76 S_V68 x=V68 N x.1:=(show _=(wry (zh N N (wim N)) x.1) by kernel_rfl).trans (by rw[w2m N];rfl)
theorem ok_V68:OK 76 S_V68:=gdR (A:=A_V68) tc Try.func76 (jeb ⟨ok_V48,ok_V17,ok_V49,trivial⟩) (run_V68 big)
def wrz (p_0:Y2):Z2 :=
  (V45 big p_0).bind fun rq1 =>
  cond (!rq1.1)
  (some ((false,false,()),(())))
  ((V68 big p_0).bind fun rq2 =>
  some ((rq2.1,true,()),(())))
def V69 (p_0:Y2):Z2:=wrz p_0
def S_V69:Sig:=⟨Q12,[0],[],.unit,Q9,.i,fun x=>V69 x.1⟩
def A_V69:Cfg:=mkCfg tab [(45,S_V45),(76,S_V68)] []
theorem run_V69 (N x):runF A_V69 N Try.f33 S_V69 x=V69 x.1:=by kernel_rfl
theorem ok_V69:OK 33 S_V69:=gdR (A:=A_V69) tc Try.func33 (jeb ⟨ok_V45,ok_V68,trivial⟩) (run_V69 big)
def w0k (l_0:Y1) (x_1 y_2:Int):Option Z0 :=
  (l_0).bind fun xq1 =>
  (l_0).bind fun xq2 =>
  (atI xq2.2.2.1 x_1).bind fun xq3 =>
  (atI xq3 y_2).bind fun xq4 =>
  (V64 big xq1.1 x_1 xq4).bind fun rq5 =>
  cond (!rq5.1)
  (some (true,(())))
  ((l_0).bind fun xq6 =>
  (l_0).bind fun xq7 =>
  (atI xq7.2.1 x_1).bind fun xq8 =>
  (atI xq8 y_2).bind fun xq9 =>
  (V64 big xq6.1 xq9 y_2).bind fun rq10 =>
  some (rq10.1,(())))
def V70 (l_0:Y1) (x_1 y_2:Int):Option Z0:=w0k l_0 x_1 y_2
def S_V70:Sig:=⟨(.pair Q3 Q6),[0,0,0],[],.unit,.bool,.i,fun x=>V70 x.1 x.2.1 x.2.2.1⟩
def A_V70:Cfg:=mkCfg tab [(75,S_V64)] []
theorem run_V70 (N x):runF A_V70 N Try.f77 S_V70 x=V70 x.1 x.2.1 x.2.2.1:=by kernel_rfl
theorem ok_V70:OK 77 S_V70:=gdR (A:=A_V70) tc Try.func77 (jeb ⟨ok_V64,trivial⟩) (run_V70 big)
def weu (rec:T1) (k:T0) (a1:Unit) (a6:Y1) (a8 a21 a22 a29 a30:Int):Z2 :=
  cond (decide (a30<a29))
  ((V70 a6 a8 a30).bind fun rq4 =>
  cond (!rq4.1)
  (some ((false,true,()),(())))
  (rec a1 a6 a8 a21 a22 a29 (IntKind.i64.wrap (a30+1))))
  (k a1 a6 a21 a22)
def wb2 (rec:T0) (a1:Unit) (a6:Y1) (a21 a22:Int):Z2 :=
  rec a1 a6 a21 (IntKind.i64.wrap (a22+1))
def wb3 (L8:T1) (k:Z2) (a1:Unit) (a6:Y1) (a21 a22:Int):Z2 :=
  cond (decide (a22<a21))
  ((a6).bind fun xq3 =>
  L8 a1 a6 a22 a21 a22 (xq3.1.length:Int) 0)
  (k)
def xu:Z2 :=
  some ((true,true,()),(()))
def wk8 (L5:T0) (p_0:Y2) (so_1:Unit):Z2 :=
  (V33 p_0).bind fun rq1 =>
  cond (!rq1.1.2.1)
  (some ((false,false,()),(())))
  ((rq1.1.1).bind fun xq2 =>
  L5 so_1 rq1.1.1 (xq2.1.length:Int) 0)
def wns (N:Nat) (k:T0):=itN (fun r=>weu r k) fun _ _ _ _ _ _ _=>none
def wes (N:Nat) (rec:T0) (k:Z2):=wns N (wb2 rec) N
def wnr (N:Nat) (k:Z2):=itN (fun r=>wb3 (wes N r k) k) fun _ _ _ _=>none
def wiq (N:Nat):=wnr N (xu) N
def V71 (N:Nat) (p_0:Y2) (so_1:Unit):Z2:=wk8 (wiq N) p_0 so_1
def S_V71:Sig:=⟨(.pair Q0 (.pair (.clo 77 0 .unit) .unit)),[0,0],[],.unit,Q9,.i,fun x=>V71 big x.1 x.2.1⟩
def A_V71:Cfg:=mkCfg tab [(52,S_V33),(77,S_V70)] [(10,([D0,.as (.clo 77 0 .unit) .i]++dr 4 ([.as Q3 .i]++dr 14 [B0,B0]))),(16,([D0,.as (.clo 77 0 .unit) .i]++dr 4 ([.as Q3 .i,D0,B0]++dr 12 ([B0,B0]++dr 6 [B0,B0])))),(29,[]),(27,([D0,.as (.clo 77 0 .unit) .i]++dr 4 ([.as Q3 .i]++dr 14 [B0,B0])))]
noncomputable def zi (N n:Nat) (K:T55) (a1:Unit) (a6:Y1) (a21 a22:Int):Z2:=itr A_V71 N 10 Try.f73 [1,1,1,0,1,0,0] n (([.u,.val (.clo 77 0 .unit) .i a1]++ud 4 ([.val Q3 .i a6]++ud 14 [W0 a21,W0 a22]))++us 18) K
noncomputable def wet (N n:Nat) (K:T55) (a1:Unit) (a6:Y1) (a8 a21 a22 a29 a30:Int):Z2:=itr A_V71 N 16 Try.f73 [1,1,1,0,1,0,0,1,1,0,0,1,1,0,0] n (([.u,.val (.clo 77 0 .unit) .i a1]++ud 4 ([.val Q3 .i a6,.u,W0 a8]++ud 12 ([W0 a21,W0 a22]++ud 6 [W0 a29,W0 a30])))++us 10) K
noncomputable def wk9:Ex→St→Z2:=finish A_V71 S_V71 Try.f73.results.toList
noncomputable def wit (kX:T42):Z2:=kX ([]++us 41)
noncomputable def wb1 (kX:T42) (kO:T28):=exK wk9 0 (A_V71.shape 29) kX kO
noncomputable def wxk (kX:T42) (a1:Unit) (a6:Y1) (a21 a22:Int):Z2:=kX (([.u,.val (.clo 77 0 .unit) .i a1]++ud 4 ([.val Q3 .i a6]++ud 14 [W0 a21,W0 a22]))++us 18)
noncomputable def wxj (kX:T42) (kO:T28):=exK wk9 2 (A_V71.shape 27) kX kO
theorem wxm (N kX kO):∀n,wet N n (wxj kX kO)=wns N (wxk kX) n :=
 itE rfl fun m=>by kernel_rfl
noncomputable def wis (N m:Nat) (kX:T42) (kO:T28):=(blockK 2 (blockK 1 (sqK A_V71 N 27 500013 Try.f73 [1,1,1,0,1,0,0,1,1,1] (itK A_V71 N 10 Try.f73 [1,1,1,0,1,0,0] m (wb1 kX kO)))))
noncomputable def wxo (N m:Nat) (kX:T42) (kO:T28) (st':St):Z2:=rn A_V71 N Try.f73 [1,1,1,0,1,0,0,1,1,1] st' (itK A_V71 N 10 Try.f73 [1,1,1,0,1,0,0] m (wb1 kX kO))
theorem w2p (N m kX kO) {r}(h:zi N m (wb1 kX kO)=r):wet N N (wis N m kX kO)=wes N r (wit kX):=by
 rw[show wet N N (wis N m kX kO)=wet N N (wxj (wxo N m kX kO) fun j=>(wis N m kX kO) (.exit j)) from(by funext _ _ _ _ _ _ _;exact jky),wxm,show wxk (wxo N m kX kO)=wb2 (zi N m (wb1 kX kO)) by kernel_rfl,h];rfl
theorem wxl (N kX kO):∀n,zi N n (wb1 kX kO)=wnr N (wit kX) n :=
 itE rfl fun m=>(show _=wb3 (wet N N (wis N m kX kO)) (wit kX) by kernel_rfl).trans (by rw[w2p N m kX kO rfl]<;>rfl)
noncomputable def wir (N:Nat):=(blockK 0 (sqK A_V71 N 29 500014 Try.f73 [1,1,1,1] wk9))
noncomputable def wxn (N:Nat) (st':St):Z2:=rn A_V71 N Try.f73 [1,1,1,1] st' wk9
theorem w2o (N):zi N N (wir N)=wiq N:=by
 rw[show zi N N (wir N)=zi N N (wb1 (wxn N) fun j=>(wir N) (.exit j)) from(by funext _ _ _ _;exact jky),wxl,show wit (wxn N)=xu by kernel_rfl];rfl
theorem run_V71 (N x):runF A_V71 N Try.f73 S_V71 x=V71 N x.1 x.2.1:=(show _=(wk8 (zi N N (wir N)) x.1 x.2.1) by kernel_rfl).trans (by rw[w2o N];rfl)
theorem ok_V71:OK 73 S_V71:=gdR (A:=A_V71) tc Try.func73 (jeb ⟨ok_V33,ok_V70,trivial⟩) (run_V71 big)
def wr0 (p_0:Y2):Z2 :=
  (V71 big p_0 ()).bind fun rq1 =>
  some ((rq1.1.1,rq1.1.2.1,()),(()))
def V72 (p_0:Y2):Z2:=wr0 p_0
def S_V72:Sig:=⟨Q12,[0],[],.unit,Q9,.i,fun x=>V72 x.1⟩
def A_V72:Cfg:=mkCfg tab [(73,S_V71)] []
theorem run_V72 (N x):runF A_V72 N Try.f34 S_V72 x=V72 x.1:=by kernel_rfl
theorem ok_V72:OK 34 S_V72:=gdR (A:=A_V72) tc Try.func34 (jeb ⟨ok_V71,trivial⟩) (run_V72 big)
def wr2 (p_0:Y2):Z2 :=
  (V45 big p_0).bind fun rq1 =>
  cond (!rq1.1)
  (some ((false,false,()),(())))
  ((V43 big p_0).bind fun rq2 =>
  (V68 big rq2.1).bind fun rq3 =>
  some ((rq3.1,true,()),(())))
def V73 (p_0:Y2):Z2:=wr2 p_0
def S_V73:Sig:=⟨Q12,[0],[],.unit,Q9,.i,fun x=>V73 x.1⟩
def A_V73:Cfg:=mkCfg tab [(45,S_V45),(78,S_V43),(76,S_V68)] []
theorem run_V73 (N x):runF A_V73 N Try.f35 S_V73 x=V73 x.1:=by kernel_rfl
theorem ok_V73:OK 35 S_V73:=gdR (A:=A_V73) tc Try.func35 (jeb ⟨ok_V45,ok_V43,ok_V68,trivial⟩) (run_V73 big)
def wew (rec:T18) (k:Int→Z5) (a0:Y1) (a3 a9 a10:Int):Z5 :=
  cond (decide (a10<a9))
  ((a0).bind fun xq2 =>
  (atI xq2.2.1 a3).bind fun xq3 =>
  (atI xq3 a10).bind fun xq4 =>
  rec a0 xq4 a9 (IntKind.i64.wrap (a10+1)))
  (k a3)
def wb4 (a3:Int):Z5 :=
  some (a3,(()))
def wr3 (L3:T18) (l_0:Y1):Z5 :=
  (l_0).bind fun xq1 =>
  L3 l_0 0 (xq1.1.length:Int) 0
def wnu (N:Nat) (k:Int→Z5):=itN (fun r=>wew r k) fun _ _ _ _=>none
def wnt (N:Nat):=wnu N (wb4) N
def V74 (N:Nat) (l_0:Y1):Z5:=wr3 (wnt N) l_0
def S_V74:Sig:=⟨(.pair Q3 .unit),[0],[],.unit,I,.i,fun x=>V74 big x.1⟩
def A_V74:Cfg:=mkCfg tab [] [(6,([.as Q3 .i,D0,D0,B0]++dr 5 [B0,B0])),(15,(dr 3 [B0]))]
noncomputable def wev (N n:Nat) (K:T61) (a0:Y1) (a3 a9 a10:Int):Z5:=itr A_V74 N 6 Try.f82 [1,1,0,1,0,0] n (([.val Q3 .i a0,.u,.u,W0 a3]++ud 5 [W0 a9,W0 a10])++us 14) K
noncomputable def wr4:Ex→St→Z5:=finish A_V74 S_V74 Try.f82.results.toList
noncomputable def wxq (kX:T46) (a3:Int):Z5:=kX ((ud 3 [W0 a3])++us 21)
noncomputable def wxp (kX:T46) (kO:T37):=exK wr4 0 (A_V74.shape 15) kX kO
theorem wxr (N kX kO):∀n,wev N n (wxp kX kO)=wnu N (wxq kX) n :=
 itE rfl fun m=>by kernel_rfl
noncomputable def wiu (N:Nat):=(blockK 0 (sqK A_V74 N 15 500007 Try.f82 [1,1,1] wr4))
noncomputable def wxs (N:Nat) (st':St):Z5:=rn A_V74 N Try.f82 [1,1,1] st' wr4
theorem w2q (N):wev N N (wiu N)=wnt N:=by
 rw[show wev N N (wiu N)=wev N N (wxp (wxs N) fun j=>(wiu N) (.exit j)) from(by funext _ _ _ _;exact jky),wxr,show wxq (wxs N)=wb4 by kernel_rfl];rfl
theorem run_V74 (N x):runF A_V74 N Try.f82 S_V74 x=V74 N x.1:=(show _=(wr3 (wev N N (wiu N)) x.1) by kernel_rfl).trans (by rw[w2q N];rfl)
theorem ok_V74:OK 82 S_V74:=gdR (A:=A_V74) tc Try.func82 (jeb trivial) (run_V74 big)
def wey (rec:T18) (k:Int→Z5) (a0:Y1) (a3 a9 a10:Int):Z5 :=
  cond (decide (a10<a9))
  ((a0).bind fun xq2 =>
  (atI xq2.2.2.1 a3).bind fun xq3 =>
  (atI xq3 a10).bind fun xq4 =>
  rec a0 xq4 a9 (IntKind.i64.wrap (a10+1)))
  (k a3)
def wb5 (a3:Int):Z5 :=
  some (a3,(()))
def wr5 (L3:T18) (l_0:Y1):Z5 :=
  (l_0).bind fun xq1 =>
  L3 l_0 0 (xq1.1.length:Int) 0
def wnw (N:Nat) (k:Int→Z5):=itN (fun r=>wey r k) fun _ _ _ _=>none
def wnv (N:Nat):=wnw N (wb5) N
def V75 (N:Nat) (l_0:Y1):Z5:=wr5 (wnv N) l_0
def S_V75:Sig:=⟨(.pair Q3 .unit),[0],[],.unit,I,.i,fun x=>V75 big x.1⟩
def A_V75:Cfg:=mkCfg tab [] [(6,([.as Q3 .i,D0,D0,B0]++dr 5 [B0,B0])),(15,(dr 3 [B0]))]
noncomputable def wex (N n:Nat) (K:T61) (a0:Y1) (a3 a9 a10:Int):Z5:=itr A_V75 N 6 Try.f112 [1,1,0,1,0,0] n (([.val Q3 .i a0,.u,.u,W0 a3]++ud 5 [W0 a9,W0 a10])++us 14) K
noncomputable def wr6:Ex→St→Z5:=finish A_V75 S_V75 Try.f112.results.toList
noncomputable def wxu (kX:T46) (a3:Int):Z5:=kX ((ud 3 [W0 a3])++us 21)
noncomputable def wxt (kX:T46) (kO:T37):=exK wr6 0 (A_V75.shape 15) kX kO
theorem wxv (N kX kO):∀n,wex N n (wxt kX kO)=wnw N (wxu kX) n :=
 itE rfl fun m=>by kernel_rfl
noncomputable def wiv (N:Nat):=(blockK 0 (sqK A_V75 N 15 500007 Try.f112 [1,1,1] wr6))
noncomputable def wxw (N:Nat) (st':St):Z5:=rn A_V75 N Try.f112 [1,1,1] st' wr6
theorem w2r (N):wex N N (wiv N)=wnv N:=by
 rw[show wex N N (wiv N)=wex N N (wxt (wxw N) fun j=>(wiv N) (.exit j)) from(by funext _ _ _ _;exact jky),wxv,show wxu (wxw N)=wb5 by kernel_rfl];rfl
theorem run_V75 (N x):runF A_V75 N Try.f112 S_V75 x=V75 N x.1:=(show _=(wr5 (wex N N (wiv N)) x.1) by kernel_rfl).trans (by rw[w2r N];rfl)
theorem ok_V75:OK 112 S_V75:=gdR (A:=A_V75) tc Try.func112 (jeb trivial) (run_V75 big)
def w0l (y_0:Int) (p_1:Y5) (p_2:Int):Option Z0 :=
  (V64 big p_1 p_2 y_0).bind fun rq1 =>
  some (rq1.1,(()))
def V76 (y_0:Int) (p_1:Y5) (p_2:Int):Option Z0:=w0l y_0 p_1 p_2
def S_V76:Sig:=⟨(.pair I (.pair (.ptr Q4) (.pair (.ptr I) .unit))),[0,0,0],[],.unit,.bool,.i,fun x=>V76 x.1 x.2.1 x.2.2.1⟩
def A_V76:Cfg:=mkCfg tab [(75,S_V64)] []
theorem run_V76 (N x):runF A_V76 N Try.f120 S_V76 x=V76 x.1 x.2.1 x.2.2.1:=by kernel_rfl
theorem ok_V76:OK 120 S_V76:=gdR (A:=A_V76) tc Try.func120 (jeb ⟨ok_V64,trivial⟩) (run_V76 big)
def we0 (rec:(Y5×(Int×Unit))→Y4→Int→Int→Z7) (k:Y4→Z7) (a1:(Y5×(Int×Unit))) (a5:Y4) (a9 a10:Int):Z7 :=
  cond (decide (a10<a9))
  ((V76 a10 a1.1 a1.2.1).bind fun rq1 =>
  cond rq1.1
  ((appI a5 [a10]).bind fun xq2 =>
  rec a1 xq2 a9 (IntKind.i64.wrap (a10+1)))
  (rec a1 a5 a9 (IntKind.i64.wrap (a10+1))))
  (k a5)
def wb6 (a5:Y4):Z7 :=
  some (a5,(()))
def wr7 (L3:(Y5×(Int×Unit))→Y4→Int→Int→Z7) (o_0:Y5) (so_1:(Y5×(Int×Unit))):Z7 :=
  L3 so_1 [] (o_0.length:Int) 0
def wny (N:Nat) (k:Y4→Z7):=itN (fun r=>we0 r k) fun _ _ _ _=>none
def wnx (N:Nat):=wny N (wb6) N
def V77 (N:Nat) (o_0:Y5) (so_1:(Y5×(Int×Unit))):Z7:=wr7 (wnx N) o_0 so_1
def S_V77:Sig:=⟨(.pair Q4 (.pair (.clo 120 0 (.pair (.ptr Q4) (.pair (.ptr I) .unit))) .unit)),[0,0],[],.unit,Q8,O5,fun x=>V77 big x.1 x.2.1⟩
def A_V77:Cfg:=mkCfg tab [(120,S_V76)] [(6,([D0,.as (.clo 120 0 (.pair (.ptr Q4) (.pair (.ptr I) .unit))) .i]++dr 3 ([B3]++dr 3 [B0,B0]))),(17,(dr 5 [B3]))]
noncomputable def wez (N n:Nat) (K:T69) (a1:(Y5×(Int×Unit))) (a5:Y4) (a9 a10:Int):Z7:=itr A_V77 N 6 Try.f106 [1,1,0,1,0,0] n (([.u,.val (.clo 120 0 (.pair (.ptr Q4) (.pair (.ptr I) .unit))) .i a1]++ud 3 ([W3 a5]++ud 3 [W0 a9,W0 a10]))++us 11) K
noncomputable def wr8:Ex→St→Z7:=finish A_V77 S_V77 Try.f106.results.toList
noncomputable def wxy (kX:T65) (a5:Y4):Z7:=kX ((ud 5 [W3 a5])++us 16)
noncomputable def wxx (kX:T65) (kO:T68):=exK wr8 0 (A_V77.shape 17) kX kO
theorem wxz (N kX kO):∀n,wez N n (wxx kX kO)=wny N (wxy kX) n :=
 itE rfl fun m=>by kernel_rfl
noncomputable def wiw (N:Nat):=(blockK 0 (sqK A_V77 N 17 500008 Try.f106 [1,1,1] wr8))
noncomputable def wx0 (N:Nat) (st':St):Z7:=rn A_V77 N Try.f106 [1,1,1] st' wr8
theorem w2s (N):wez N N (wiw N)=wnx N:=by
 rw[show wez N N (wiw N)=wez N N (wxx (wx0 N) fun j=>(wiw N) (.exit j)) from(by funext _ _ _ _;exact jky),wxz,show wxy (wx0 N)=wb6 by kernel_rfl];rfl
theorem run_V77 (N x):runF A_V77 N Try.f106 S_V77 x=V77 N x.1 x.2.1:=(show _=(wr7 (wez N N (wiw N)) x.1 x.2.1) by kernel_rfl).trans (by rw[w2s N];rfl)
theorem ok_V77:OK 106 S_V77:=gdR (A:=A_V77) tc Try.func106 (jeb ⟨ok_V76,trivial⟩) (run_V77 big)
def w0m (o_0:Y5) (x_1:Int):Z7 :=
  (V77 big o_0 (o_0,x_1,())).bind fun rq1 =>
  some (rq1.1,(()))
def V78 (o_0:Y5) (x_1:Int):Z7:=w0m o_0 x_1
def S_V78:Sig:=⟨(.pair Q4 (.pair I .unit)),[0,0],[],.unit,Q8,O5,fun x=>V78 x.1 x.2.1⟩
def A_V78:Cfg:=mkCfg tab [(106,S_V77)] [(3,[D0,D0,.as (.ptr Q4) .i,.as (.ptr I) .i])]
theorem run_V78 (N x):runF A_V78 N Try.f113 S_V78 x=V78 x.1 x.2.1:=by kernel_rfl
theorem ok_V78:OK 113 S_V78:=gdR (A:=A_V78) tc Try.func113 (jeb ⟨ok_V77,trivial⟩) (run_V78 big)
def T_V79 (self:Z16→Option Y2):Sig:={ a:=(.pair Q3 (.pair I .unit)),md:=[0,0],mf:=[],m := .unit,r:=Q13,rf:=O11,f:=self }
def we3 (self_V79:Z16→Option Y2) (rec:Y1→Int→Y3→Y4→Int→Int→Y3→Int→Int→Option Y2) (k:Y1→Int→Y3→Y4→Int→Int→Option Y2) (a0:Y1) (a1:Int) (a5:Y3) (a23:Y4) (a24 a25:Int) (a31:Y3) (a32 a33:Int):Option Y2 :=
  cond (decide (a33<a32))
  ((atI a31 a33).bind fun _ =>
  (a31[a33.toNat]?).bind fun xq6 =>
  (a31[a33.toNat]?).bind fun xq8 =>
  (appI [a1] xq8).bind fun xq7 =>
  (appI a5 [xq7]).bind fun xq9 =>
  rec a0 a1 xq9 a23 a24 a25 a31 a32 (IntKind.i64.wrap (a33+1)))
  (k a0 a1 a5 a23 a24 a25)
def wb8 (self_V79:Z16→Option Y2) (rec:Y1→Int→Y3→Y4→Int→Int→Option Y2) (a0:Y1) (a1:Int) (a5:Y3) (a23:Y4) (a24 a25:Int):Option Y2 :=
  rec a0 a1 a5 a23 a24 (IntKind.i64.wrap (a25+1))
def wb9 (self_V79:Z16→Option Y2) (L8:Y1→Int→Y3→Y4→Int→Int→Y3→Int→Int→Option Y2) (k:Y3→Option Y2) (a0:Y1) (a1:Int) (a5:Y3) (a23:Y4) (a24 a25:Int):Option Y2 :=
  cond (decide (a25<a24))
  ((atI a23 a25).bind fun _ =>
  (a23[a25.toNat]?).bind fun xq4 =>
  (self_V79 (a0,xq4,())).bind fun rq5 =>
  L8 a0 a1 a5 a23 a24 a25 rq5.1 (rq5.1.length:Int) 0)
  (k a5)
def xx (self_V79:Z16→Option Y2) (a5:Y3):Option Y2 :=
  some (a5,(()))
def wr9 (self_V79:Z16→Option Y2) (L5:Y1→Int→Y3→Y4→Int→Int→Option Y2) (l_0:Y1) (x_1:Int):Option Y2 :=
  (V75 big l_0).bind fun rq1 =>
  cond (decide (x_1=rq1.1))
  (some ([[x_1]],(())))
  ((l_0).bind fun xq2 =>
  (V78 xq2.1 x_1).bind fun rq3 =>
  L5 l_0 x_1 [] rq3.1 (rq3.1.length:Int) 0)
def wn1 (self_V79:Z16→Option Y2) (N:Nat) (k:Y1→Int→Y3→Y4→Int→Int→Option Y2):=itN (fun r=>we3 self_V79 r k) fun _ _ _ _ _ _ _ _ _=>none
def we1 (self_V79:Z16→Option Y2) (N:Nat) (rec:Y1→Int→Y3→Y4→Int→Int→Option Y2) (k:Y3→Option Y2):Y1→Int→Y3→Y4→Int→Int→Y3→Int→Int→Option Y2:=wn1 self_V79 N (wb8 self_V79 rec) N
def wn0 (self_V79:Z16→Option Y2) (N:Nat) (k:Y3→Option Y2):=itN (fun r=>wb9 self_V79 (we1 self_V79 N r k) k) fun _ _ _ _ _ _=>none
def wnz (self_V79:Z16→Option Y2) (N:Nat):Y1→Int→Y3→Y4→Int→Int→Option Y2:=wn0 self_V79 N (xx self_V79) N
def V79 (self_V79:Z16→Option Y2) (N:Nat) (l_0:Y1) (x_1:Int):Option Y2:=wr9 self_V79 (wnz self_V79 N) l_0 x_1
def A_V79 (self_V79:Z16→Option Y2):Cfg:=mkCfg tab [(112,S_V75),(113,S_V78),(81,T_V79 self_V79)] [(10,([.as Q3 .i,B0]++dr 3 ([.as Q13 O11]++dr 17 [B3,B0,B0]))),(16,([.as Q3 .i,B0]++dr 3 ([.as Q13 O11]++dr 17 ([B3,B0,B0]++dr 5 [.as Q13 O11,B0,B0])))),(27,(dr 5 [.as Q13 O11])),(25,([.as Q3 .i,B0]++dr 3 ([.as Q13 O11]++dr 17 [B3,B0,B0])))]
noncomputable def zj (self_V79:Z16→Option Y2) (N n:Nat) (K:Ex→St→Option Y2) (a0:Y1) (a1:Int) (a5:Y3) (a23:Y4) (a24 a25:Int):Option Y2:=itr (A_V79 self_V79) N 10 Try.f81 [1,1,1,0,1,0,0] n (([.val Q3 .i a0,W0 a1]++ud 3 ([.val Q13 O11 a5]++ud 17 [W3 a23,W0 a24,W0 a25]))++us 21) K
noncomputable def we2 (self_V79:Z16→Option Y2) (N n:Nat) (K:Ex→St→Option Y2) (a0:Y1) (a1:Int) (a5:Y3) (a23:Y4) (a24 a25:Int) (a31:Y3) (a32 a33:Int):Option Y2:=itr (A_V79 self_V79) N 16 Try.f81 [1,1,1,0,1,0,0,1,1,0,0,1,1,0,0] n (([.val Q3 .i a0,W0 a1]++ud 3 ([.val Q13 O11 a5]++ud 17 ([W3 a23,W0 a24,W0 a25]++ud 5 [.val Q13 O11 a31,W0 a32,W0 a33])))++us 13) K
noncomputable def wla (self_V79:Z16→Option Y2):Ex→St→Option Y2:=finish (A_V79 self_V79) (T_V79 self_V79) Try.f81.results.toList
noncomputable def wiz (kX:St→Option Y2) (a5:Y3):Option Y2:=kX ((ud 5 [.val Q13 O11 a5])++us 41)
noncomputable def wb7 (self_V79:Z16→Option Y2) (kX:St→Option Y2) (kO:Nat→St→Option Y2):Ex→St→Option Y2:=exK (wla self_V79) 0 ((A_V79 self_V79).shape 27) kX kO
noncomputable def wx2 (kX:St→Option Y2) (a0:Y1) (a1:Int) (a5:Y3) (a23:Y4) (a24 a25:Int):Option Y2:=kX (([.val Q3 .i a0,W0 a1]++ud 3 ([.val Q13 O11 a5]++ud 17 [W3 a23,W0 a24,W0 a25]))++us 21)
noncomputable def wx1 (self_V79:Z16→Option Y2) (kX:St→Option Y2) (kO:Nat→St→Option Y2):Ex→St→Option Y2:=exK (wla self_V79) 2 ((A_V79 self_V79).shape 25) kX kO
theorem wx4 (self_V79:Z16→Option Y2) (N kX kO):∀n,we2 self_V79 N n (wx1 self_V79 kX kO)=wn1 self_V79 N (wx2 kX) n :=
 itE rfl fun m=>by kernel_rfl
noncomputable def wiy (self_V79:Z16→Option Y2) (N m:Nat) (kX:St→Option Y2) (kO:Nat→St→Option Y2):Ex→St→Option Y2:=(blockK 2 (blockK 1 (sqK (A_V79 self_V79) N 25 500012 Try.f81 [1,1,1,0,1,0,0,1,1,1] (itK (A_V79 self_V79) N 10 Try.f81 [1,1,1,0,1,0,0] m (wb7 self_V79 kX kO)))))
noncomputable def wx6 (self_V79:Z16→Option Y2) (N m:Nat) (kX:St→Option Y2) (kO:Nat→St→Option Y2) (st':St):Option Y2:=rn (A_V79 self_V79) N Try.f81 [1,1,1,0,1,0,0,1,1,1] st' (itK (A_V79 self_V79) N 10 Try.f81 [1,1,1,0,1,0,0] m (wb7 self_V79 kX kO))
theorem w2u (self_V79:Z16→Option Y2) (N m kX kO) {r}(h:zj self_V79 N m (wb7 self_V79 kX kO)=r):we2 self_V79 N N (wiy self_V79 N m kX kO)=we1 self_V79 N r (wiz kX):=by
 rw[show we2 self_V79 N N (wiy self_V79 N m kX kO)=we2 self_V79 N N (wx1 self_V79 (wx6 self_V79 N m kX kO) fun j=>(wiy self_V79 N m kX kO) (.exit j)) from(by funext _ _ _ _ _ _ _ _ _;exact jky),wx4,show wx2 (wx6 self_V79 N m kX kO)=wb8 self_V79 (zj self_V79 N m (wb7 self_V79 kX kO)) by kernel_rfl,h];rfl
theorem wx3 (self_V79:Z16→Option Y2) (N kX kO):∀n,zj self_V79 N n (wb7 self_V79 kX kO)=wn0 self_V79 N (wiz kX) n :=
 itE rfl fun m=>(show _=wb9 self_V79 (we2 self_V79 N N (wiy self_V79 N m kX kO)) (wiz kX) by kernel_rfl).trans (by rw[w2u self_V79 N m kX kO rfl]<;>rfl)
noncomputable def wix (self_V79:Z16→Option Y2) (N:Nat):Ex→St→Option Y2:=(blockK 0 (sqK (A_V79 self_V79) N 27 500013 Try.f81 [1,1,1,1] (wla self_V79)))
noncomputable def wx5 (self_V79:Z16→Option Y2) (N:Nat) (st':St):Option Y2:=rn (A_V79 self_V79) N Try.f81 [1,1,1,1] st' (wla self_V79)
theorem w2t (self_V79:Z16→Option Y2) (N):zj self_V79 N N (wix self_V79 N)=wnz self_V79 N:=by
 rw[show zj self_V79 N N (wix self_V79 N)=zj self_V79 N N (wb7 self_V79 (wx5 self_V79 N) fun j=>(wix self_V79 N) (.exit j)) from(by funext _ _ _ _ _ _;exact jky),wx3,show wiz (wx5 self_V79 N)=xx self_V79 by kernel_rfl];rfl
theorem run_V79 (self_V79:Z16→Option Y2) (N:Nat) (x:((T_V79 self_V79)).a.den):runF (A_V79 self_V79) N Try.f81 (T_V79 self_V79) x=V79 self_V79 N x.1 x.2.1:=(show _=(wr9 self_V79 (zj self_V79 N N (wix self_V79 N)) x.1 x.2.1) by kernel_rfl).trans (by rw[w2t self_V79 N];rfl)
theorem fn_V79:FnOk Try.prog 81:=⟨_,Try.func81,by kernel_rfl,by kernel_rfl⟩
def R_V79:Nat→Z16→Option Y2
  | 0,_=>none
  | d+1,x=>V79 (R_V79 d) big x.1 x.2.1
def S_V79:Sig:=T_V79 (R_V79 big)
theorem wh:∀d,Gx.Good Try.prog 81 (T_V79 (R_V79 d))
  | 0=>fun x r h=>by cases h
  | d+1=>uo Try.func81 (of_decide_eq_true (by kernel_rfl)) fun x r h=>⟨A_V79 (R_V79 d),big,ur tabOk,jeb (show SigsOk Try.prog [(112,S_V75),(113,S_V78),(81,T_V79 (R_V79 d))] from⟨ok_V75,ok_V78,⟨fn_V79,wh d⟩,trivial⟩),(run_V79 (R_V79 d) big x).trans h⟩
theorem good_V79:Gx.Good Try.prog 81 S_V79:=wh big
def wsc (p_0:Y2):Z8 :=
  (V33 p_0).bind fun rq1 =>
  cond (!rq1.1.2.1)
  (some (([],false,()),(())))
  ((V74 big rq1.1.1).bind fun rq2 =>
  (R_V79 big (rq1.1.1,rq2.1,())).bind fun rq3 =>
  some ((rq3.1,true,()),(())))
def V81 (p_0:Y2):Z8:=wsc p_0
def S_V81:Sig:=⟨Q12,[0],[],.unit,(.tup (.pair Q13 Q15)),(.p O11 .i),fun x=>V81 x.1⟩
def A_V81:Cfg:=mkCfg tab [(52,S_V33),(82,S_V74),(81,S_V79)] []
theorem run_V81 (N x):runF A_V81 N Try.f38 S_V81 x=V81 x.1:=by kernel_rfl
theorem ok_V81:OK 38 S_V81:=gdR (A:=A_V81) tc Try.func38 (jeb ⟨ok_V33,ok_V74,⟨fn_V79,good_V79⟩,trivial⟩) (run_V81 big)
def we5 (rec:T63) (k:Z2) (a4:Y3) (a16 a17:Int):Z2 :=
  cond (decide (a17<a16))
  ((atI a4 a17).bind fun _ =>
  (a4[a17.toNat]?).bind fun xq2 =>
  (a4[a17.toNat]?).bind fun xq3 =>
  (atI a4 0).bind fun _ =>
  (a4[(0:Int).toNat]?).bind fun xq4 =>
  (a4[(0:Int).toNat]?).bind fun xq5 =>
  cond (decide ((xq3.length:Int)≠(xq5.length:Int)))
  (some ((false,true,()),(())))
  (rec a4 a16 (IntKind.i64.wrap (a17+1))))
  (k)
def wca:Z2 :=
  some ((true,true,()),(()))
def wlc (L5:T63) (p_0:Y2):Z2 :=
  (V81 p_0).bind fun rq1 =>
  cond (!((((),rq1.1.2).2).1))
  (some ((false,false,()),(())))
  (L5 rq1.1.1 (rq1.1.1.length:Int) 0)
def wn2 (N:Nat) (k:Z2):=itN (fun r=>we5 r k) fun _ _ _=>none
def wi2 (N:Nat):=wn2 N (wca) N
def V82 (N:Nat) (p_0:Y2):Z2:=wlc (wi2 N) p_0
def S_V82:Sig:=⟨Q12,[0],[],.unit,Q9,.i,fun x=>V82 big x.1⟩
def A_V82:Cfg:=mkCfg tab [(38,S_V81)] [(10,(dr 4 ([.as Q13 O11]++dr 10 [.keep,B0,B0]))),(21,[])]
noncomputable def we4 (N n:Nat) (K:T55) (a4:Y3) (a16 a17:Int):Z2:=itr A_V82 N 10 Try.f36 [1,1,1,0,1,0,0] n ([.u,.u,.u,.u,.val Q13 O11 a4,.u,.u,.u,.u,.u,.u,.u,.u,.u,.u,.ref 4 [] .val,W0 a16,W0 a17]++us 11) K
noncomputable def wsd:Ex→St→Z2:=finish A_V82 S_V82 Try.f36.results.toList
noncomputable def wx8 (kX:T42):Z2:=kX ([]++us 29)
noncomputable def wx7 (kX:T42) (kO:T28):=exK wsd 0 (A_V82.shape 21) kX kO
theorem wx9 (N kX kO):∀n,we4 N n (wx7 kX kO)=wn2 N (wx8 kX) n :=
 itE rfl fun m=>by kernel_rfl
noncomputable def wi3 (N:Nat):=(blockK 0 (sqK A_V82 N 21 500010 Try.f36 [1,1,1,1] wsd))
noncomputable def wya (N:Nat) (st':St):Z2:=rn A_V82 N Try.f36 [1,1,1,1] st' wsd
theorem w2v (N):we4 N N (wi3 N)=wi2 N:=by
 rw[show we4 N N (wi3 N)=we4 N N (wx7 (wya N) fun j=>(wi3 N) (.exit j)) from(by funext _ _ _;exact jky),wx9,show wx8 (wya N)=wca by kernel_rfl];rfl
theorem run_V82 (N x):runF A_V82 N Try.f36 S_V82 x=V82 N x.1:=(show _=(wlc (we4 N N (wi3 N)) x.1) by kernel_rfl).trans (by rw[w2v N];rfl)
theorem ok_V82:OK 36 S_V82:=gdR (A:=A_V82) tc Try.func36 (jeb ⟨ok_V81,trivial⟩) (run_V82 big)
def w0q (p_0:Y2):Z5 :=
  (V43 big p_0).bind fun rq1 =>
  (V44 big rq1.1 []).bind fun rq2 =>
  some (rq2.1,(()))
def V83 (p_0:Y2):Z5:=w0q p_0
def S_V83:Sig:=⟨Q12,[0],[],.unit,I,.i,fun x=>V83 x.1⟩
def A_V83:Cfg:=mkCfg tab [(78,S_V43),(86,S_V44)] []
theorem run_V83 (N x):runF A_V83 N Try.f80 S_V83 x=V83 x.1:=by kernel_rfl
theorem ok_V83:OK 80 S_V83:=gdR (A:=A_V83) tc Try.func80 (jeb ⟨ok_V43,ok_V44,trivial⟩) (run_V83 big)
def w0r (p_0:Y2):Z5 :=
  (V44 big p_0 []).bind fun rq1 =>
  some (rq1.1,(()))
def V84 (p_0:Y2):Z5:=w0r p_0
def S_V84:Sig:=⟨Q12,[0],[],.unit,I,.i,fun x=>V84 x.1⟩
def A_V84:Cfg:=mkCfg tab [(86,S_V44)] []
theorem run_V84 (N x):runF A_V84 N Try.f111 S_V84 x=V84 x.1:=by kernel_rfl
theorem ok_V84:OK 111 S_V84:=gdR (A:=A_V84) tc Try.func111 (jeb ⟨ok_V44,trivial⟩) (run_V84 big)
def w0s (l_0:Y4):Z7 :=
  (appI [] l_0).bind fun xq1 =>
  some (xq1,(()))
def V85 (l_0:Y4):Z7:=w0s l_0
def S_V85:Sig:=⟨(.pair Q8 .unit),[0],[],.unit,Q8,O5,fun x=>V85 x.1⟩
def A_V85:Cfg:=mkCfg tab [] []
theorem run_V85 (N x):runF A_V85 N Try.f103 S_V85 x=V85 x.1:=by kernel_rfl
theorem ok_V85:OK 103 S_V85:=gdR (A:=A_V85) tc Try.func103 (jeb trivial) (run_V85 big)
def T_V86 (self:(Y2×(Y4×Unit))→Option Y2):Sig:={ a:=(.pair Q0 (.pair Q8 .unit)),md:=[0,0],mf:=[],m := .unit,r:=Q13,rf:=O11,f:=self }
def wcc (self_V86:(Y2×(Y4×Unit))→Option Y2) (rec:Y4→Y2→Int→Y3→Int→Option Y2) (k:Y3→Option Y2) (a1:Y4) (a2:Y2) (a5:Int) (a6:Y3) (a7:Int):Option Y2 :=
  cond (decide (a7<(a2.1.length:Int)))
  ((V17 big a2 a5 a7).bind fun rq5 =>
  cond rq5.1
  ((V85 a1).bind fun rq6 =>
  (appI rq6.1 [a7]).bind fun xq7 =>
  (self_V86 (a2,xq7,())).bind fun rq8 =>
  (appI a6 rq8.1).bind fun xq9 =>
  rec a1 a2 a5 xq9 (IntKind.i64.wrap (a7+1)))
  (rec a1 a2 a5 a6 (IntKind.i64.wrap (a7+1))))
  (k a6)
def wcb (self_V86:(Y2×(Y4×Unit))→Option Y2) (a6:Y3):Option Y2 :=
  some (a6,(()))
def wse (self_V86:(Y2×(Y4×Unit))→Option Y2) (L5:Y4→Y2→Int→Y3→Int→Option Y2) (p_0:Y2) (begun_1:Y4):Option Y2 :=
  (atI begun_1 (IntKind.i64.wrap ((begun_1.length:Int)-1))).bind fun xq1 =>
  (V84 p_0).bind fun rq2 =>
  cond (decide (xq1=rq2.1))
  ((V85 begun_1).bind fun rq3 =>
  (appI [] [rq3.1]).bind fun xq4 =>
  some (xq4,(())))
  (L5 begun_1 p_0 xq1 [] 0)
def wi6 (self_V86:(Y2×(Y4×Unit))→Option Y2) (N:Nat) (k:Y3→Option Y2):Nat→Y4→Y2→Int→Y3→Int→Option Y2
  | 0,_,_,_,_,_=>none
  | m+1,a1,a2,a5,a6,a7=>wcc self_V86 (wi6 self_V86 N k m) k a1 a2 a5 a6 a7
def wn3 (self_V86:(Y2×(Y4×Unit))→Option Y2) (N:Nat):Y4→Y2→Int→Y3→Int→Option Y2:=wi6 self_V86 N (wcb self_V86) N
def V86 (self_V86:(Y2×(Y4×Unit))→Option Y2) (N:Nat) (p_0:Y2) (begun_1:Y4):Option Y2:=wse self_V86 (wn3 self_V86 N) p_0 begun_1
def A_V86 (self_V86:(Y2×(Y4×Unit))→Option Y2):Cfg:=mkCfg tab [(111,S_V84),(103,S_V85),(110,S_V17),(79,T_V86 self_V86)] [(10,[D0,B4,B2,D0,D0,B0,.as Q13 O11,B0]),(19,(dr 6 [.as Q13 O11]))]
noncomputable def zk (self_V86:(Y2×(Y4×Unit))→Option Y2) (N n:Nat) (K:Ex→St→Option Y2) (a1:Y4) (a2:Y2) (a5:Int) (a6:Y3) (a7:Int):Option Y2:=itr (A_V86 self_V86) N 10 Try.f79 [1,1,1,0,1,0,0] n ([.u,W4 a1,W2 a2,.u,.u,W0 a5,.val Q13 O11 a6,W0 a7]++us 37) K
noncomputable def wsf (self_V86:(Y2×(Y4×Unit))→Option Y2):Ex→St→Option Y2:=finish (A_V86 self_V86) (T_V86 self_V86) Try.f79.results.toList
noncomputable def wn4 (kX:St→Option Y2) (a6:Y3):Option Y2:=kX ((ud 6 [.val Q13 O11 a6])++us 38)
noncomputable def wi4 (self_V86:(Y2×(Y4×Unit))→Option Y2) (kX:St→Option Y2) (kO:Nat→St→Option Y2):Ex→St→Option Y2:=exK (wsf self_V86) 0 ((A_V86 self_V86).shape 19) kX kO
theorem wke (self_V86:(Y2×(Y4×Unit))→Option Y2) (N kX kO):∀n,zk self_V86 N n (wi4 self_V86 kX kO)=wi6 self_V86 N (wn4 kX) n
 | 0=>rfl
 | m+1=>(show zk self_V86 N (m+1) (wi4 self_V86 kX kO)=wcc self_V86 (zk self_V86 N m (wi4 self_V86 kX kO)) (wn4 kX) by kernel_rfl).trans (by rw[wke self_V86 N kX kO m];funext _ _ _ _ _;rfl)
noncomputable def wi5 (self_V86:(Y2×(Y4×Unit))→Option Y2) (N:Nat):Ex→St→Option Y2:=(blockK 0 (sqK (A_V86 self_V86) N 19 500009 Try.f79 [1,1,1,1] (wsf self_V86)))
noncomputable def wyb (self_V86:(Y2×(Y4×Unit))→Option Y2) (N:Nat) (st':St):Option Y2:=rn (A_V86 self_V86) N Try.f79 [1,1,1,1] st' (wsf self_V86)
theorem w2w (self_V86:(Y2×(Y4×Unit))→Option Y2) (N):zk self_V86 N N (wi5 self_V86 N)=wn3 self_V86 N:=by
 rw[show zk self_V86 N N (wi5 self_V86 N)=zk self_V86 N N (wi4 self_V86 (wyb self_V86 N) fun j=>(wi5 self_V86 N) (.exit j)) from(by funext _ _ _ _ _;exact jky),wke,show wn4 (wyb self_V86 N)=wcb self_V86 by kernel_rfl];rfl
theorem run_V86 (self_V86:(Y2×(Y4×Unit))→Option Y2) (N:Nat) (x:((T_V86 self_V86)).a.den):runF (A_V86 self_V86) N Try.f79 (T_V86 self_V86) x=V86 self_V86 N x.1 x.2.1:=(show _=(wse self_V86 (zk self_V86 N N (wi5 self_V86 N)) x.1 x.2.1) by kernel_rfl).trans (by rw[w2w self_V86 N];rfl)
theorem fn_V86:FnOk Try.prog 79:=⟨_,Try.func79,by kernel_rfl,by kernel_rfl⟩
def R_V86:Nat→(Y2×(Y4×Unit))→Option Y2
  | 0,_=>none
  | d+1,x=>V86 (R_V86 d) big x.1 x.2.1
def S_V86:Sig:=T_V86 (R_V86 big)
theorem wy:∀d,Gx.Good Try.prog 79 (T_V86 (R_V86 d))
  | 0=>fun x r h=>by cases h
  | d+1=>uo Try.func79 (of_decide_eq_true (by kernel_rfl)) fun x r h=>⟨A_V86 (R_V86 d),big,ur tabOk,jeb (show SigsOk Try.prog [(111,S_V84),(103,S_V85),(110,S_V17),(79,T_V86 (R_V86 d))] from⟨ok_V84,ok_V85,ok_V17,⟨fn_V86,wy d⟩,trivial⟩),(run_V86 (R_V86 d) big x).trans h⟩
theorem good_V86:Gx.Good Try.prog 79 S_V86:=wy big
def we7 (rec:Y3→Int→Z2) (k:Z2) (a4:Y3) (a5:Int):Z2 :=
  cond (decide (a5<(a4.length:Int)))
  ((atI a4 a5).bind fun _ =>
  (a4[a5.toNat]?).bind fun xq4 =>
  (a4[a5.toNat]?).bind fun xq5 =>
  (atI a4 0).bind fun _ =>
  (a4[(0:Int).toNat]?).bind fun xq6 =>
  (a4[(0:Int).toNat]?).bind fun xq7 =>
  cond (decide ((xq5.length:Int)≠(xq7.length:Int)))
  (some ((false,true,()),(())))
  (rec a4 (IntKind.i64.wrap (a5+1))))
  (k)
def wcd:Z2 :=
  some ((true,true,()),(()))
def wld (L5:Y3→Int→Z2) (p_0:Y2):Z2 :=
  (V45 big p_0).bind fun rq1 =>
  cond (!rq1.1)
  (some ((false,false,()),(())))
  ((V83 p_0).bind fun rq2 =>
  (R_V86 big (p_0,[rq2.1],())).bind fun rq3 =>
  L5 rq3.1 0)
def wn5 (N:Nat) (k:Z2):=itN (fun r=>we7 r k) fun _ _=>none
def wi7 (N:Nat):=wn5 N (wcd) N
def V88 (N:Nat) (p_0:Y2):Z2:=wld (wi7 N) p_0
def S_V88:Sig:=⟨Q12,[0],[],.unit,Q9,.i,fun x=>V88 big x.1⟩
def A_V88:Cfg:=mkCfg tab [(45,S_V45),(80,S_V83),(79,S_V86)] [(10,(dr 4 [.as Q13 O11,B0])),(19,[])]
noncomputable def we6 (N n:Nat) (K:T55) (a4:Y3) (a5:Int):Z2:=itr A_V88 N 10 Try.f37 [1,1,1,0,1,0,0] n ((ud 4 [.val Q13 O11 a4,W0 a5])++us 24) K
noncomputable def wsg:Ex→St→Z2:=finish A_V88 S_V88 Try.f37.results.toList
noncomputable def wyd (kX:T42):Z2:=kX ([]++us 30)
noncomputable def wyc (kX:T42) (kO:T28):=exK wsg 0 (A_V88.shape 19) kX kO
theorem wye (N kX kO):∀n,we6 N n (wyc kX kO)=wn5 N (wyd kX) n :=
 itE rfl fun m=>by kernel_rfl
noncomputable def wi8 (N:Nat):=(blockK 0 (sqK A_V88 N 19 500009 Try.f37 [1,1,1,1] wsg))
noncomputable def wyf (N:Nat) (st':St):Z2:=rn A_V88 N Try.f37 [1,1,1,1] st' wsg
theorem w2x (N):we6 N N (wi8 N)=wi7 N:=by
 rw[show we6 N N (wi8 N)=we6 N N (wyc (wyf N) fun j=>(wi8 N) (.exit j)) from(by funext _ _;exact jky),wye,show wyd (wyf N)=wcd by kernel_rfl];rfl
theorem run_V88 (N x):runF A_V88 N Try.f37 S_V88 x=V88 N x.1:=(show _=(wld (we6 N N (wi8 N)) x.1) by kernel_rfl).trans (by rw[w2x N];rfl)
theorem ok_V88:OK 37 S_V88:=gdR (A:=A_V88) tc Try.func37 (jeb ⟨ok_V45,ok_V83,⟨fn_V86,good_V86⟩,trivial⟩) (run_V88 big)
def wsh (p_0:Y2):Z8 :=
  (V45 big p_0).bind fun rq1 =>
  cond (!rq1.1)
  (some (([],false,()),(())))
  ((V83 p_0).bind fun rq2 =>
  (R_V86 big (p_0,[rq2.1],())).bind fun rq3 =>
  some ((rq3.1,true,()),(())))
def V89 (p_0:Y2):Z8:=wsh p_0
def S_V89:Sig:=⟨Q12,[0],[],.unit,(.tup (.pair Q13 Q15)),(.p O11 .i),fun x=>V89 x.1⟩
def A_V89:Cfg:=mkCfg tab [(45,S_V45),(80,S_V83),(79,S_V86)] []
theorem run_V89 (N x):runF A_V89 N Try.f39 S_V89 x=V89 x.1:=by kernel_rfl
theorem ok_V89:OK 39 S_V89:=gdR (A:=A_V89) tc Try.func39 (jeb ⟨ok_V45,ok_V83,⟨fn_V86,good_V86⟩,trivial⟩) (run_V89 big)
def we9 (rec:Y3→Y3→Int→Option Z0) (k:Option Z0) (a0 a1:Y3) (a5:Int):Option Z0 :=
  cond (decide (a5<(a0.length:Int)))
  ((atI a0 a5).bind fun xq1 =>
  (atI a1 a5).bind fun xq2 =>
  (V51 big xq1 xq2).bind fun rq3 =>
  cond (!rq3.1)
  (some (false,(())))
  (rec a0 a1 (IntKind.i64.wrap (a5+1))))
  (k)
def wce:Option Z0 :=
  some (true,(()))
def wsk (L4:Y3→Y3→Int→Option Z0) (a_0 b_1:Y3):Option Z0 :=
  cond (decide ((a_0.length:Int)≠(b_1.length:Int)))
  (some (false,(())))
  (L4 a_0 b_1 0)
def wn7 (N:Nat) (k:Option Z0):=itN (fun r=>we9 r k) fun _ _ _=>none
def wn6 (N:Nat):=wn7 N (wce) N
def V90 (N:Nat) (a_0 b_1:Y3):Option Z0:=wsk (wn6 N) a_0 b_1
def S_V90:Sig:=⟨(.pair Q13 Q0),[0,0],[],.unit,.bool,.i,fun x=>V90 big x.1 x.2.1⟩
def A_V90:Cfg:=mkCfg tab [(9,S_V51)] [(8,([.as Q13 .i,.as Q13 .i]++dr 3 [B0])),(17,[])]
noncomputable def we8 (N n:Nat) (K:Ex→St→Option Z0) (a0 a1:Y3) (a5:Int):Option Z0:=itr A_V90 N 8 Try.f40 [1,1,0,1,0,0] n (([.val Q13 .i a0,.val Q13 .i a1]++ud 3 [W0 a5])++us 21) K
noncomputable def wsl:Ex→St→Option Z0:=finish A_V90 S_V90 Try.f40.results.toList
noncomputable def wyh (kX:St→Option Z0):Option Z0:=kX ([]++us 27)
noncomputable def wyg (kX:St→Option Z0) (kO:Nat→St→Option Z0):Ex→St→Option Z0:=exK wsl 0 (A_V90.shape 17) kX kO
theorem wyi (N kX kO):∀n,we8 N n (wyg kX kO)=wn7 N (wyh kX) n :=
 itE rfl fun m=>by kernel_rfl
noncomputable def wjb (N:Nat):Ex→St→Option Z0:=(blockK 0 (sqK A_V90 N 17 500008 Try.f40 [1,1,1] wsl))
noncomputable def wyj (N:Nat) (st':St):Option Z0:=rn A_V90 N Try.f40 [1,1,1] st' wsl
theorem w2y (N):we8 N N (wjb N)=wn6 N:=by
 rw[show we8 N N (wjb N)=we8 N N (wyg (wyj N) fun j=>(wjb N) (.exit j)) from(by funext _ _ _;exact jky),wyi,show wyh (wyj N)=wce by kernel_rfl];rfl
theorem run_V90 (N x):runF A_V90 N Try.f40 S_V90 x=V90 N x.1 x.2.1:=(show _=(wsk (we8 N N (wjb N)) x.1 x.2.1) by kernel_rfl).trans (by rw[w2y N];rfl)
theorem ok_V90:OK 40 S_V90:=gdR (A:=A_V90) tc Try.func40 (jeb ⟨ok_V51,trivial⟩) (run_V90 big)
def wco (rec:Y4→Y2→Int→Int→Y4→Bool→Int→Option Z0) (k:Y4→Y2→Int→Int→Bool→Option Z0) (a0:Y4) (a3:Y2) (a4 a5:Int) (a6:Y4) (a14:Bool) (a16:Int):Option Z0 :=
  cond (decide (a16<(a6.length:Int)))
  ((atI a6 a16).bind fun _ =>
  (a6[a16.toNat]?).bind fun xq115 =>
  (V56 a3 xq115 a4).bind fun rq116 =>
  (V56 a3 a4 a5).bind fun rq117 =>
  (V57 a3 rq117.1.1 rq116.1.1).bind fun rq118 =>
  (V57 a3 rq116.1.1 a4).bind fun rq119 =>
  (V58 a3 rq116.1.1 a5).bind fun rq120 =>
  cond (!rq116.1.2.1)
  (some (false,(())))
  (cond (!rq117.1.2.1)
  (some (false,(())))
  (cond (!rq118.1.2.1)
  (some (false,(())))
  (cond (!rq119.1.2.1)
  (some (false,(())))
  (cond (!rq120.1.2.1)
  (some (false,(())))
  (cond (!rq118.1.1)
  (some (false,(())))
  (cond (!rq119.1.1)
  (some (false,(())))
  ((atI a6 a16).bind fun _ =>
  (a6[a16.toNat]?).bind fun xq121 =>
  cond (decide (rq120.1.1≠xq121))
  (some (false,(())))
  (rec a0 a3 a4 a5 a6 a14 (IntKind.i64.wrap (a16+1)))))))))))
  (k a0 a3 a4 a5 a14)
def wcn (a0:Y4) (a3:Y2) (a4 a5:Int) (a14:Bool):Option Z0 :=
  (V59 big a3 a4 a5).bind fun rq122 =>
  (V60 big a3 a4 a5).bind fun rq123 =>
  cond (rq122.1.1 != rq123.1.1)
  (some (false,(())))
  (cond (rq122.1.2.1 != rq123.1.2.1)
  (some (false,(())))
  (cond rq122.1.2.1
  (cond a14
  (cond (!rq122.1.1)
  (some (false,(())))
  ((V62 a0).bind fun rq124 =>
  (V67 rq124.1).bind fun rq125 =>
  (V69 rq124.1).bind fun rq126 =>
  cond (rq125.1.1 != rq126.1.1)
  (some (false,(())))
  (cond (rq125.1.2.1 != rq126.1.2.1)
  (some (false,(())))
  ((V72 rq124.1).bind fun rq127 =>
  (V73 rq124.1).bind fun rq128 =>
  cond (rq127.1.1 != rq128.1.1)
  (some (false,(())))
  (cond (rq127.1.2.1 != rq128.1.2.1)
  (some (false,(())))
  (cond (rq127.1.2.1 != rq125.1.2.1)
  (some (false,(())))
  ((V82 big rq124.1).bind fun rq129 =>
  (V88 big rq124.1).bind fun rq130 =>
  cond (rq129.1.1 != rq130.1.1)
  (some (false,(())))
  (cond (rq129.1.2.1 != rq130.1.2.1)
  (some (false,(())))
  (cond (rq129.1.2.1 != rq125.1.2.1)
  (some (false,(())))
  ((V81 rq124.1).bind fun rq131 =>
  (V89 rq124.1).bind fun rq132 =>
  cond (((((),rq131.1.2).2).1) != ((((),rq132.1.2).2).1))
  (some (false,(())))
  (cond (((((),rq131.1.2).2).1) != rq125.1.2.1)
  (some (false,(())))
  ((V90 big rq131.1.1 rq132.1.1).bind fun rq133 =>
  cond (!rq133.1)
  (some (false,(())))
  ((V55 rq124.1).bind fun rq134 =>
  cond (!rq125.1.2.1)
  (some (true,(())))
  (cond rq134.1.2.1
  (cond rq125.1.1
  (cond (rq134.1.1==rq127.1.1)
  (cond rq129.1.1
  (some (true,(())))
  (cond (!rq125.1.1)
  (some (!rq127.1.1,(())))
  (some (false,(())))))
  (some (false,(()))))
  (cond (rq134.1.1==false)
  (cond rq129.1.1
  (some (true,(())))
  (cond (!rq125.1.1)
  (some (!rq127.1.1,(())))
  (some (false,(())))))
  (some (false,(())))))
  (some (false,(())))))))))))))))))
  ((V62 a0).bind fun rq135 =>
  (V67 rq135.1).bind fun rq136 =>
  (V69 rq135.1).bind fun rq137 =>
  cond (rq136.1.1 != rq137.1.1)
  (some (false,(())))
  (cond (rq136.1.2.1 != rq137.1.2.1)
  (some (false,(())))
  ((V72 rq135.1).bind fun rq138 =>
  (V73 rq135.1).bind fun rq139 =>
  cond (rq138.1.1 != rq139.1.1)
  (some (false,(())))
  (cond (rq138.1.2.1 != rq139.1.2.1)
  (some (false,(())))
  (cond (rq138.1.2.1 != rq136.1.2.1)
  (some (false,(())))
  ((V82 big rq135.1).bind fun rq140 =>
  (V88 big rq135.1).bind fun rq141 =>
  cond (rq140.1.1 != rq141.1.1)
  (some (false,(())))
  (cond (rq140.1.2.1 != rq141.1.2.1)
  (some (false,(())))
  (cond (rq140.1.2.1 != rq136.1.2.1)
  (some (false,(())))
  ((V81 rq135.1).bind fun rq142 =>
  (V89 rq135.1).bind fun rq143 =>
  cond (((((),rq142.1.2).2).1) != ((((),rq143.1.2).2).1))
  (some (false,(())))
  (cond (((((),rq142.1.2).2).1) != rq136.1.2.1)
  (some (false,(())))
  ((V90 big rq142.1.1 rq143.1.1).bind fun rq144 =>
  cond (!rq144.1)
  (some (false,(())))
  ((V55 rq135.1).bind fun rq145 =>
  cond (!rq136.1.2.1)
  (some (true,(())))
  (cond rq145.1.2.1
  (cond rq136.1.1
  (cond (rq145.1.1==rq138.1.1)
  (cond rq140.1.1
  (some (true,(())))
  (cond (!rq136.1.1)
  (some (!rq138.1.1,(())))
  (some (false,(())))))
  (some (false,(()))))
  (cond (rq145.1.1==false)
  (cond rq140.1.1
  (some (true,(())))
  (cond (!rq136.1.1)
  (some (!rq138.1.1,(())))
  (some (false,(())))))
  (some (false,(())))))
  (some (false,(())))))))))))))))))
  ((V62 a0).bind fun rq146 =>
  (V67 rq146.1).bind fun rq147 =>
  (V69 rq146.1).bind fun rq148 =>
  cond (rq147.1.1 != rq148.1.1)
  (some (false,(())))
  (cond (rq147.1.2.1 != rq148.1.2.1)
  (some (false,(())))
  ((V72 rq146.1).bind fun rq149 =>
  (V73 rq146.1).bind fun rq150 =>
  cond (rq149.1.1 != rq150.1.1)
  (some (false,(())))
  (cond (rq149.1.2.1 != rq150.1.2.1)
  (some (false,(())))
  (cond (rq149.1.2.1 != rq147.1.2.1)
  (some (false,(())))
  ((V82 big rq146.1).bind fun rq151 =>
  (V88 big rq146.1).bind fun rq152 =>
  cond (rq151.1.1 != rq152.1.1)
  (some (false,(())))
  (cond (rq151.1.2.1 != rq152.1.2.1)
  (some (false,(())))
  (cond (rq151.1.2.1 != rq147.1.2.1)
  (some (false,(())))
  ((V81 rq146.1).bind fun rq153 =>
  (V89 rq146.1).bind fun rq154 =>
  cond (((((),rq153.1.2).2).1) != ((((),rq154.1.2).2).1))
  (some (false,(())))
  (cond (((((),rq153.1.2).2).1) != rq147.1.2.1)
  (some (false,(())))
  ((V90 big rq153.1.1 rq154.1.1).bind fun rq155 =>
  cond (!rq155.1)
  (some (false,(())))
  ((V55 rq146.1).bind fun rq156 =>
  cond (!rq147.1.2.1)
  (some (true,(())))
  (cond rq156.1.2.1
  (cond rq147.1.1
  (cond (rq156.1.1==rq149.1.1)
  (cond rq151.1.1
  (some (true,(())))
  (cond (!rq147.1.1)
  (some (!rq149.1.1,(())))
  (some (false,(())))))
  (some (false,(()))))
  (cond (rq156.1.1==false)
  (cond rq151.1.1
  (some (true,(())))
  (cond (!rq147.1.1)
  (some (!rq149.1.1,(())))
  (some (false,(())))))
  (some (false,(())))))
  (some (false,(()))))))))))))))))))
def w02 (L17:Y4→Y2→Int→Int→Y4→Bool→Int→Option Z0) (code_0:Y4):Option Z0 :=
  (V0 code_0).bind fun rq1 =>
  cond rq1.1
  (some (true,(())))
  ((V22 code_0).bind fun rq2 =>
  (V39 rq2.1.1 rq2.1.2.1 rq2.1.2.2.1).bind fun rq3 =>
  (V50 big rq2.1.1 rq2.1.2.1 rq2.1.2.2.1).bind fun rq4 =>
  cond (((((),rq3.1.2).2).1) != ((((),rq4.1.2).2).1))
  (some (false,(())))
  ((V51 big rq3.1.1 rq4.1.1).bind fun rq5 =>
  cond (!rq5.1)
  (some (false,(())))
  ((V52 rq2.1.1 rq2.1.2.1 rq2.1.2.2.1).bind fun rq6 =>
  (V53 big rq2.1.1 rq2.1.2.1 rq2.1.2.2.1).bind fun rq7 =>
  cond (((((),rq6.1.2).2).1) != ((((),rq7.1.2).2).1))
  (some (false,(())))
  (cond (((((),rq6.1.2).2).1) != ((((),rq3.1.2).2).1))
  (some (false,(())))
  ((V51 big rq6.1.1 rq7.1.1).bind fun rq8 =>
  cond (!rq8.1)
  (some (false,(())))
  ((V55 rq2.1.1).bind fun rq9 =>
  cond ((((),rq3.1.2).2).1)
  (cond rq9.1.2.1
  (cond rq9.1.1
  (cond (decide ((rq3.1.1.length:Int)≠(rq6.1.1.length:Int)))
  (some (false,(())))
  (L17 code_0 rq2.1.1 rq2.1.2.1 rq2.1.2.2.1 rq3.1.1 rq9.1.1 0))
  ((V59 big rq2.1.1 rq2.1.2.1 rq2.1.2.2.1).bind fun rq10 =>
  (V60 big rq2.1.1 rq2.1.2.1 rq2.1.2.2.1).bind fun rq11 =>
  cond (rq10.1.1 != rq11.1.1)
  (some (false,(())))
  (cond (rq10.1.2.1 != rq11.1.2.1)
  (some (false,(())))
  (cond rq10.1.2.1
  (cond rq9.1.1
  (cond (!rq10.1.1)
  (some (false,(())))
  ((V62 code_0).bind fun rq12 =>
  (V67 rq12.1).bind fun rq13 =>
  (V69 rq12.1).bind fun rq14 =>
  cond (rq13.1.1 != rq14.1.1)
  (some (false,(())))
  (cond (rq13.1.2.1 != rq14.1.2.1)
  (some (false,(())))
  ((V72 rq12.1).bind fun rq15 =>
  (V73 rq12.1).bind fun rq16 =>
  cond (rq15.1.1 != rq16.1.1)
  (some (false,(())))
  (cond (rq15.1.2.1 != rq16.1.2.1)
  (some (false,(())))
  (cond (rq15.1.2.1 != rq13.1.2.1)
  (some (false,(())))
  ((V82 big rq12.1).bind fun rq17 =>
  (V88 big rq12.1).bind fun rq18 =>
  cond (rq17.1.1 != rq18.1.1)
  (some (false,(())))
  (cond (rq17.1.2.1 != rq18.1.2.1)
  (some (false,(())))
  (cond (rq17.1.2.1 != rq13.1.2.1)
  (some (false,(())))
  ((V81 rq12.1).bind fun rq19 =>
  (V89 rq12.1).bind fun rq20 =>
  cond (((((),rq19.1.2).2).1) != ((((),rq20.1.2).2).1))
  (some (false,(())))
  (cond (((((),rq19.1.2).2).1) != rq13.1.2.1)
  (some (false,(())))
  ((V90 big rq19.1.1 rq20.1.1).bind fun rq21 =>
  cond (!rq21.1)
  (some (false,(())))
  ((V55 rq12.1).bind fun rq22 =>
  cond (!rq13.1.2.1)
  (some (true,(())))
  (cond rq22.1.2.1
  (cond rq13.1.1
  (cond (rq22.1.1==rq15.1.1)
  (cond rq17.1.1
  (some (true,(())))
  (cond (!rq13.1.1)
  (some (!rq15.1.1,(())))
  (some (false,(())))))
  (some (false,(()))))
  (cond (rq22.1.1==false)
  (cond rq17.1.1
  (some (true,(())))
  (cond (!rq13.1.1)
  (some (!rq15.1.1,(())))
  (some (false,(())))))
  (some (false,(())))))
  (some (false,(())))))))))))))))))
  ((V62 code_0).bind fun rq23 =>
  (V67 rq23.1).bind fun rq24 =>
  (V69 rq23.1).bind fun rq25 =>
  cond (rq24.1.1 != rq25.1.1)
  (some (false,(())))
  (cond (rq24.1.2.1 != rq25.1.2.1)
  (some (false,(())))
  ((V72 rq23.1).bind fun rq26 =>
  (V73 rq23.1).bind fun rq27 =>
  cond (rq26.1.1 != rq27.1.1)
  (some (false,(())))
  (cond (rq26.1.2.1 != rq27.1.2.1)
  (some (false,(())))
  (cond (rq26.1.2.1 != rq24.1.2.1)
  (some (false,(())))
  ((V82 big rq23.1).bind fun rq28 =>
  (V88 big rq23.1).bind fun rq29 =>
  cond (rq28.1.1 != rq29.1.1)
  (some (false,(())))
  (cond (rq28.1.2.1 != rq29.1.2.1)
  (some (false,(())))
  (cond (rq28.1.2.1 != rq24.1.2.1)
  (some (false,(())))
  ((V81 rq23.1).bind fun rq30 =>
  (V89 rq23.1).bind fun rq31 =>
  cond (((((),rq30.1.2).2).1) != ((((),rq31.1.2).2).1))
  (some (false,(())))
  (cond (((((),rq30.1.2).2).1) != rq24.1.2.1)
  (some (false,(())))
  ((V90 big rq30.1.1 rq31.1.1).bind fun rq32 =>
  cond (!rq32.1)
  (some (false,(())))
  ((V55 rq23.1).bind fun rq33 =>
  cond (!rq24.1.2.1)
  (some (true,(())))
  (cond rq33.1.2.1
  (cond rq24.1.1
  (cond (rq33.1.1==rq26.1.1)
  (cond rq28.1.1
  (some (true,(())))
  (cond (!rq24.1.1)
  (some (!rq26.1.1,(())))
  (some (false,(())))))
  (some (false,(()))))
  (cond (rq33.1.1==false)
  (cond rq28.1.1
  (some (true,(())))
  (cond (!rq24.1.1)
  (some (!rq26.1.1,(())))
  (some (false,(())))))
  (some (false,(())))))
  (some (false,(())))))))))))))))))
  ((V62 code_0).bind fun rq34 =>
  (V67 rq34.1).bind fun rq35 =>
  (V69 rq34.1).bind fun rq36 =>
  cond (rq35.1.1 != rq36.1.1)
  (some (false,(())))
  (cond (rq35.1.2.1 != rq36.1.2.1)
  (some (false,(())))
  ((V72 rq34.1).bind fun rq37 =>
  (V73 rq34.1).bind fun rq38 =>
  cond (rq37.1.1 != rq38.1.1)
  (some (false,(())))
  (cond (rq37.1.2.1 != rq38.1.2.1)
  (some (false,(())))
  (cond (rq37.1.2.1 != rq35.1.2.1)
  (some (false,(())))
  ((V82 big rq34.1).bind fun rq39 =>
  (V88 big rq34.1).bind fun rq40 =>
  cond (rq39.1.1 != rq40.1.1)
  (some (false,(())))
  (cond (rq39.1.2.1 != rq40.1.2.1)
  (some (false,(())))
  (cond (rq39.1.2.1 != rq35.1.2.1)
  (some (false,(())))
  ((V81 rq34.1).bind fun rq41 =>
  (V89 rq34.1).bind fun rq42 =>
  cond (((((),rq41.1.2).2).1) != ((((),rq42.1.2).2).1))
  (some (false,(())))
  (cond (((((),rq41.1.2).2).1) != rq35.1.2.1)
  (some (false,(())))
  ((V90 big rq41.1.1 rq42.1.1).bind fun rq43 =>
  cond (!rq43.1)
  (some (false,(())))
  ((V55 rq34.1).bind fun rq44 =>
  cond (!rq35.1.2.1)
  (some (true,(())))
  (cond rq44.1.2.1
  (cond rq35.1.1
  (cond (rq44.1.1==rq37.1.1)
  (cond rq39.1.1
  (some (true,(())))
  (cond (!rq35.1.1)
  (some (!rq37.1.1,(())))
  (some (false,(())))))
  (some (false,(()))))
  (cond (rq44.1.1==false)
  (cond rq39.1.1
  (some (true,(())))
  (cond (!rq35.1.1)
  (some (!rq37.1.1,(())))
  (some (false,(())))))
  (some (false,(())))))
  (some (false,(()))))))))))))))))))))
  ((V59 big rq2.1.1 rq2.1.2.1 rq2.1.2.2.1).bind fun rq45 =>
  (V60 big rq2.1.1 rq2.1.2.1 rq2.1.2.2.1).bind fun rq46 =>
  cond (rq45.1.1 != rq46.1.1)
  (some (false,(())))
  (cond (rq45.1.2.1 != rq46.1.2.1)
  (some (false,(())))
  (cond rq45.1.2.1
  (cond rq9.1.1
  (cond (!rq45.1.1)
  (some (false,(())))
  ((V62 code_0).bind fun rq47 =>
  (V67 rq47.1).bind fun rq48 =>
  (V69 rq47.1).bind fun rq49 =>
  cond (rq48.1.1 != rq49.1.1)
  (some (false,(())))
  (cond (rq48.1.2.1 != rq49.1.2.1)
  (some (false,(())))
  ((V72 rq47.1).bind fun rq50 =>
  (V73 rq47.1).bind fun rq51 =>
  cond (rq50.1.1 != rq51.1.1)
  (some (false,(())))
  (cond (rq50.1.2.1 != rq51.1.2.1)
  (some (false,(())))
  (cond (rq50.1.2.1 != rq48.1.2.1)
  (some (false,(())))
  ((V82 big rq47.1).bind fun rq52 =>
  (V88 big rq47.1).bind fun rq53 =>
  cond (rq52.1.1 != rq53.1.1)
  (some (false,(())))
  (cond (rq52.1.2.1 != rq53.1.2.1)
  (some (false,(())))
  (cond (rq52.1.2.1 != rq48.1.2.1)
  (some (false,(())))
  ((V81 rq47.1).bind fun rq54 =>
  (V89 rq47.1).bind fun rq55 =>
  cond (((((),rq54.1.2).2).1) != ((((),rq55.1.2).2).1))
  (some (false,(())))
  (cond (((((),rq54.1.2).2).1) != rq48.1.2.1)
  (some (false,(())))
  ((V90 big rq54.1.1 rq55.1.1).bind fun rq56 =>
  cond (!rq56.1)
  (some (false,(())))
  ((V55 rq47.1).bind fun rq57 =>
  cond (!rq48.1.2.1)
  (some (true,(())))
  (cond rq57.1.2.1
  (cond rq48.1.1
  (cond (rq57.1.1==rq50.1.1)
  (cond rq52.1.1
  (some (true,(())))
  (cond (!rq48.1.1)
  (some (!rq50.1.1,(())))
  (some (false,(())))))
  (some (false,(()))))
  (cond (rq57.1.1==false)
  (cond rq52.1.1
  (some (true,(())))
  (cond (!rq48.1.1)
  (some (!rq50.1.1,(())))
  (some (false,(())))))
  (some (false,(())))))
  (some (false,(())))))))))))))))))
  ((V62 code_0).bind fun rq58 =>
  (V67 rq58.1).bind fun rq59 =>
  (V69 rq58.1).bind fun rq60 =>
  cond (rq59.1.1 != rq60.1.1)
  (some (false,(())))
  (cond (rq59.1.2.1 != rq60.1.2.1)
  (some (false,(())))
  ((V72 rq58.1).bind fun rq61 =>
  (V73 rq58.1).bind fun rq62 =>
  cond (rq61.1.1 != rq62.1.1)
  (some (false,(())))
  (cond (rq61.1.2.1 != rq62.1.2.1)
  (some (false,(())))
  (cond (rq61.1.2.1 != rq59.1.2.1)
  (some (false,(())))
  ((V82 big rq58.1).bind fun rq63 =>
  (V88 big rq58.1).bind fun rq64 =>
  cond (rq63.1.1 != rq64.1.1)
  (some (false,(())))
  (cond (rq63.1.2.1 != rq64.1.2.1)
  (some (false,(())))
  (cond (rq63.1.2.1 != rq59.1.2.1)
  (some (false,(())))
  ((V81 rq58.1).bind fun rq65 =>
  (V89 rq58.1).bind fun rq66 =>
  cond (((((),rq65.1.2).2).1) != ((((),rq66.1.2).2).1))
  (some (false,(())))
  (cond (((((),rq65.1.2).2).1) != rq59.1.2.1)
  (some (false,(())))
  ((V90 big rq65.1.1 rq66.1.1).bind fun rq67 =>
  cond (!rq67.1)
  (some (false,(())))
  ((V55 rq58.1).bind fun rq68 =>
  cond (!rq59.1.2.1)
  (some (true,(())))
  (cond rq68.1.2.1
  (cond rq59.1.1
  (cond (rq68.1.1==rq61.1.1)
  (cond rq63.1.1
  (some (true,(())))
  (cond (!rq59.1.1)
  (some (!rq61.1.1,(())))
  (some (false,(())))))
  (some (false,(()))))
  (cond (rq68.1.1==false)
  (cond rq63.1.1
  (some (true,(())))
  (cond (!rq59.1.1)
  (some (!rq61.1.1,(())))
  (some (false,(())))))
  (some (false,(())))))
  (some (false,(())))))))))))))))))
  ((V62 code_0).bind fun rq69 =>
  (V67 rq69.1).bind fun rq70 =>
  (V69 rq69.1).bind fun rq71 =>
  cond (rq70.1.1 != rq71.1.1)
  (some (false,(())))
  (cond (rq70.1.2.1 != rq71.1.2.1)
  (some (false,(())))
  ((V72 rq69.1).bind fun rq72 =>
  (V73 rq69.1).bind fun rq73 =>
  cond (rq72.1.1 != rq73.1.1)
  (some (false,(())))
  (cond (rq72.1.2.1 != rq73.1.2.1)
  (some (false,(())))
  (cond (rq72.1.2.1 != rq70.1.2.1)
  (some (false,(())))
  ((V82 big rq69.1).bind fun rq74 =>
  (V88 big rq69.1).bind fun rq75 =>
  cond (rq74.1.1 != rq75.1.1)
  (some (false,(())))
  (cond (rq74.1.2.1 != rq75.1.2.1)
  (some (false,(())))
  (cond (rq74.1.2.1 != rq70.1.2.1)
  (some (false,(())))
  ((V81 rq69.1).bind fun rq76 =>
  (V89 rq69.1).bind fun rq77 =>
  cond (((((),rq76.1.2).2).1) != ((((),rq77.1.2).2).1))
  (some (false,(())))
  (cond (((((),rq76.1.2).2).1) != rq70.1.2.1)
  (some (false,(())))
  ((V90 big rq76.1.1 rq77.1.1).bind fun rq78 =>
  cond (!rq78.1)
  (some (false,(())))
  ((V55 rq69.1).bind fun rq79 =>
  cond (!rq70.1.2.1)
  (some (true,(())))
  (cond rq79.1.2.1
  (cond rq70.1.1
  (cond (rq79.1.1==rq72.1.1)
  (cond rq74.1.1
  (some (true,(())))
  (cond (!rq70.1.1)
  (some (!rq72.1.1,(())))
  (some (false,(())))))
  (some (false,(()))))
  (cond (rq79.1.1==false)
  (cond rq74.1.1
  (some (true,(())))
  (cond (!rq70.1.1)
  (some (!rq72.1.1,(())))
  (some (false,(())))))
  (some (false,(())))))
  (some (false,(()))))))))))))))))))))
  ((V59 big rq2.1.1 rq2.1.2.1 rq2.1.2.2.1).bind fun rq80 =>
  (V60 big rq2.1.1 rq2.1.2.1 rq2.1.2.2.1).bind fun rq81 =>
  cond (rq80.1.1 != rq81.1.1)
  (some (false,(())))
  (cond (rq80.1.2.1 != rq81.1.2.1)
  (some (false,(())))
  (cond rq80.1.2.1
  (cond rq9.1.1
  (cond (!rq80.1.1)
  (some (false,(())))
  ((V62 code_0).bind fun rq82 =>
  (V67 rq82.1).bind fun rq83 =>
  (V69 rq82.1).bind fun rq84 =>
  cond (rq83.1.1 != rq84.1.1)
  (some (false,(())))
  (cond (rq83.1.2.1 != rq84.1.2.1)
  (some (false,(())))
  ((V72 rq82.1).bind fun rq85 =>
  (V73 rq82.1).bind fun rq86 =>
  cond (rq85.1.1 != rq86.1.1)
  (some (false,(())))
  (cond (rq85.1.2.1 != rq86.1.2.1)
  (some (false,(())))
  (cond (rq85.1.2.1 != rq83.1.2.1)
  (some (false,(())))
  ((V82 big rq82.1).bind fun rq87 =>
  (V88 big rq82.1).bind fun rq88 =>
  cond (rq87.1.1 != rq88.1.1)
  (some (false,(())))
  (cond (rq87.1.2.1 != rq88.1.2.1)
  (some (false,(())))
  (cond (rq87.1.2.1 != rq83.1.2.1)
  (some (false,(())))
  ((V81 rq82.1).bind fun rq89 =>
  (V89 rq82.1).bind fun rq90 =>
  cond (((((),rq89.1.2).2).1) != ((((),rq90.1.2).2).1))
  (some (false,(())))
  (cond (((((),rq89.1.2).2).1) != rq83.1.2.1)
  (some (false,(())))
  ((V90 big rq89.1.1 rq90.1.1).bind fun rq91 =>
  cond (!rq91.1)
  (some (false,(())))
  ((V55 rq82.1).bind fun rq92 =>
  cond (!rq83.1.2.1)
  (some (true,(())))
  (cond rq92.1.2.1
  (cond rq83.1.1
  (cond (rq92.1.1==rq85.1.1)
  (cond rq87.1.1
  (some (true,(())))
  (cond (!rq83.1.1)
  (some (!rq85.1.1,(())))
  (some (false,(())))))
  (some (false,(()))))
  (cond (rq92.1.1==false)
  (cond rq87.1.1
  (some (true,(())))
  (cond (!rq83.1.1)
  (some (!rq85.1.1,(())))
  (some (false,(())))))
  (some (false,(())))))
  (some (false,(())))))))))))))))))
  ((V62 code_0).bind fun rq93 =>
  (V67 rq93.1).bind fun rq94 =>
  (V69 rq93.1).bind fun rq95 =>
  cond (rq94.1.1 != rq95.1.1)
  (some (false,(())))
  (cond (rq94.1.2.1 != rq95.1.2.1)
  (some (false,(())))
  ((V72 rq93.1).bind fun rq96 =>
  (V73 rq93.1).bind fun rq97 =>
  cond (rq96.1.1 != rq97.1.1)
  (some (false,(())))
  (cond (rq96.1.2.1 != rq97.1.2.1)
  (some (false,(())))
  (cond (rq96.1.2.1 != rq94.1.2.1)
  (some (false,(())))
  ((V82 big rq93.1).bind fun rq98 =>
  (V88 big rq93.1).bind fun rq99 =>
  cond (rq98.1.1 != rq99.1.1)
  (some (false,(())))
  (cond (rq98.1.2.1 != rq99.1.2.1)
  (some (false,(())))
  (cond (rq98.1.2.1 != rq94.1.2.1)
  (some (false,(())))
  ((V81 rq93.1).bind fun rq100 =>
  (V89 rq93.1).bind fun rq101 =>
  cond (((((),rq100.1.2).2).1) != ((((),rq101.1.2).2).1))
  (some (false,(())))
  (cond (((((),rq100.1.2).2).1) != rq94.1.2.1)
  (some (false,(())))
  ((V90 big rq100.1.1 rq101.1.1).bind fun rq102 =>
  cond (!rq102.1)
  (some (false,(())))
  ((V55 rq93.1).bind fun rq103 =>
  cond (!rq94.1.2.1)
  (some (true,(())))
  (cond rq103.1.2.1
  (cond rq94.1.1
  (cond (rq103.1.1==rq96.1.1)
  (cond rq98.1.1
  (some (true,(())))
  (cond (!rq94.1.1)
  (some (!rq96.1.1,(())))
  (some (false,(())))))
  (some (false,(()))))
  (cond (rq103.1.1==false)
  (cond rq98.1.1
  (some (true,(())))
  (cond (!rq94.1.1)
  (some (!rq96.1.1,(())))
  (some (false,(())))))
  (some (false,(())))))
  (some (false,(())))))))))))))))))
  ((V62 code_0).bind fun rq104 =>
  (V67 rq104.1).bind fun rq105 =>
  (V69 rq104.1).bind fun rq106 =>
  cond (rq105.1.1 != rq106.1.1)
  (some (false,(())))
  (cond (rq105.1.2.1 != rq106.1.2.1)
  (some (false,(())))
  ((V72 rq104.1).bind fun rq107 =>
  (V73 rq104.1).bind fun rq108 =>
  cond (rq107.1.1 != rq108.1.1)
  (some (false,(())))
  (cond (rq107.1.2.1 != rq108.1.2.1)
  (some (false,(())))
  (cond (rq107.1.2.1 != rq105.1.2.1)
  (some (false,(())))
  ((V82 big rq104.1).bind fun rq109 =>
  (V88 big rq104.1).bind fun rq110 =>
  cond (rq109.1.1 != rq110.1.1)
  (some (false,(())))
  (cond (rq109.1.2.1 != rq110.1.2.1)
  (some (false,(())))
  (cond (rq109.1.2.1 != rq105.1.2.1)
  (some (false,(())))
  ((V81 rq104.1).bind fun rq111 =>
  (V89 rq104.1).bind fun rq112 =>
  cond (((((),rq111.1.2).2).1) != ((((),rq112.1.2).2).1))
  (some (false,(())))
  (cond (((((),rq111.1.2).2).1) != rq105.1.2.1)
  (some (false,(())))
  ((V90 big rq111.1.1 rq112.1.1).bind fun rq113 =>
  cond (!rq113.1)
  (some (false,(())))
  ((V55 rq104.1).bind fun rq114 =>
  cond (!rq105.1.2.1)
  (some (true,(())))
  (cond rq114.1.2.1
  (cond rq105.1.1
  (cond (rq114.1.1==rq107.1.1)
  (cond rq109.1.1
  (some (true,(())))
  (cond (!rq105.1.1)
  (some (!rq107.1.1,(())))
  (some (false,(())))))
  (some (false,(()))))
  (cond (rq114.1.1==false)
  (cond rq109.1.1
  (some (true,(())))
  (cond (!rq105.1.1)
  (some (!rq107.1.1,(())))
  (some (false,(())))))
  (some (false,(())))))
  (some (false,(())))))))))))))))))))))))))
def wf5 (N:Nat) (k:Y4→Y2→Int→Int→Bool→Option Z0):=itN (fun r=>wco r k) fun _ _ _ _ _ _ _=>none
def wp1 (N:Nat):=wf5 N (wcn) N
def laws_FnIntervals (N:Nat) (code_0:Y4):Option Z0:=w02 (wp1 N) code_0
def S_laws_FnIntervals:Sig:=⟨(.pair Q14 .unit),[0],[],.unit,.bool,.i,fun x=>laws_FnIntervals big x.1⟩
def wki (J30:Y4→Option Z0) (a0:Y4) (a3:Y2) (a4 a5:Int) (a14:Bool):Option Z0 :=
  (V59 big a3 a4 a5).bind fun rq23 =>
  (V60 big a3 a4 a5).bind fun rq24 =>
  cond (rq23.1.1 != rq24.1.1)
  (some (false,(())))
  (cond (rq23.1.2.1 != rq24.1.2.1)
  (some (false,(())))
  (cond rq23.1.2.1
  (cond a14
  (cond (!rq23.1.1)
  (some (false,(())))
  (J30 a0))
  (J30 a0))
  (J30 a0)))
def zt (a0:Y4):Option Z0 :=
  (V62 a0).bind fun rq25 =>
  (V67 rq25.1).bind fun rq26 =>
  (V69 rq25.1).bind fun rq27 =>
  cond (rq26.1.1 != rq27.1.1)
  (some (false,(())))
  (cond (rq26.1.2.1 != rq27.1.2.1)
  (some (false,(())))
  ((V72 rq25.1).bind fun rq28 =>
  (V73 rq25.1).bind fun rq29 =>
  cond (rq28.1.1 != rq29.1.1)
  (some (false,(())))
  (cond (rq28.1.2.1 != rq29.1.2.1)
  (some (false,(())))
  (cond (rq28.1.2.1 != rq26.1.2.1)
  (some (false,(())))
  ((V82 big rq25.1).bind fun rq30 =>
  (V88 big rq25.1).bind fun rq31 =>
  cond (rq30.1.1 != rq31.1.1)
  (some (false,(())))
  (cond (rq30.1.2.1 != rq31.1.2.1)
  (some (false,(())))
  (cond (rq30.1.2.1 != rq26.1.2.1)
  (some (false,(())))
  ((V81 rq25.1).bind fun rq32 =>
  (V89 rq25.1).bind fun rq33 =>
  cond (((((),rq32.1.2).2).1) != ((((),rq33.1.2).2).1))
  (some (false,(())))
  (cond (((((),rq32.1.2).2).1) != rq26.1.2.1)
  (some (false,(())))
  ((V90 big rq32.1.1 rq33.1.1).bind fun rq34 =>
  cond (!rq34.1)
  (some (false,(())))
  ((V55 rq25.1).bind fun rq35 =>
  cond (!rq26.1.2.1)
  (some (true,(())))
  (cond rq35.1.2.1
  (cond rq26.1.1
  (cond (rq35.1.1==rq28.1.1)
  (cond rq30.1.1
  (some (true,(())))
  (cond (!rq26.1.1)
  (some (!rq28.1.1,(())))
  (some (false,(())))))
  (some (false,(()))))
  (cond (rq35.1.1==false)
  (cond rq30.1.1
  (some (true,(())))
  (cond (!rq26.1.1)
  (some (!rq28.1.1,(())))
  (some (false,(())))))
  (some (false,(())))))
  (some (false,(())))))))))))))))
def wp2 (L17:Y4→Y2→Int→Int→Y4→Bool→Int→Option Z0) (J30:Y4→Option Z0) (code_0:Y4):Option Z0 :=
  (V0 code_0).bind fun rq1 =>
  cond rq1.1
  (some (true,(())))
  ((V22 code_0).bind fun rq2 =>
  (V39 rq2.1.1 rq2.1.2.1 rq2.1.2.2.1).bind fun rq3 =>
  (V50 big rq2.1.1 rq2.1.2.1 rq2.1.2.2.1).bind fun rq4 =>
  cond (((((),rq3.1.2).2).1) != ((((),rq4.1.2).2).1))
  (some (false,(())))
  ((V51 big rq3.1.1 rq4.1.1).bind fun rq5 =>
  cond (!rq5.1)
  (some (false,(())))
  ((V52 rq2.1.1 rq2.1.2.1 rq2.1.2.2.1).bind fun rq6 =>
  (V53 big rq2.1.1 rq2.1.2.1 rq2.1.2.2.1).bind fun rq7 =>
  cond (((((),rq6.1.2).2).1) != ((((),rq7.1.2).2).1))
  (some (false,(())))
  (cond (((((),rq6.1.2).2).1) != ((((),rq3.1.2).2).1))
  (some (false,(())))
  ((V51 big rq6.1.1 rq7.1.1).bind fun rq8 =>
  cond (!rq8.1)
  (some (false,(())))
  ((V55 rq2.1.1).bind fun rq9 =>
  cond ((((),rq3.1.2).2).1)
  (cond rq9.1.2.1
  (cond rq9.1.1
  (cond (decide ((rq3.1.1.length:Int)≠(rq6.1.1.length:Int)))
  (some (false,(())))
  (L17 code_0 rq2.1.1 rq2.1.2.1 rq2.1.2.2.1 rq3.1.1 rq9.1.1 0))
  ((V59 big rq2.1.1 rq2.1.2.1 rq2.1.2.2.1).bind fun rq10 =>
  (V60 big rq2.1.1 rq2.1.2.1 rq2.1.2.2.1).bind fun rq11 =>
  cond (rq10.1.1 != rq11.1.1)
  (some (false,(())))
  (cond (rq10.1.2.1 != rq11.1.2.1)
  (some (false,(())))
  (cond rq10.1.2.1
  (cond rq9.1.1
  (cond (!rq10.1.1)
  (some (false,(())))
  (J30 code_0))
  (J30 code_0))
  (J30 code_0)))))
  ((V59 big rq2.1.1 rq2.1.2.1 rq2.1.2.2.1).bind fun rq12 =>
  (V60 big rq2.1.1 rq2.1.2.1 rq2.1.2.2.1).bind fun rq13 =>
  cond (rq12.1.1 != rq13.1.1)
  (some (false,(())))
  (cond (rq12.1.2.1 != rq13.1.2.1)
  (some (false,(())))
  (cond rq12.1.2.1
  (cond rq9.1.1
  (cond (!rq12.1.1)
  (some (false,(())))
  (J30 code_0))
  (J30 code_0))
  (J30 code_0)))))
  ((V59 big rq2.1.1 rq2.1.2.1 rq2.1.2.2.1).bind fun rq14 =>
  (V60 big rq2.1.1 rq2.1.2.1 rq2.1.2.2.1).bind fun rq15 =>
  cond (rq14.1.1 != rq15.1.1)
  (some (false,(())))
  (cond (rq14.1.2.1 != rq15.1.2.1)
  (some (false,(())))
  (cond rq14.1.2.1
  (cond rq9.1.1
  (cond (!rq14.1.1)
  (some (false,(())))
  (J30 code_0))
  (J30 code_0))
  (J30 code_0))))))))))
def wfh (N:Nat) (a0:Y4):Option Z0:=gate true N (zt a0)
def wkg (N:Nat):=wf5 N (wki (wfh N)) N
def w5d (N:Nat) (code_0:Y4):Option Z0:=wp2 (wkg N) (wfh N) code_0
def A_Vx0_c:Cfg:=mkCfg tab [(5,S_V0),(21,S_V22),(22,S_V39),(23,S_V50),(9,S_V51),(24,S_V52),(25,S_V53),(12,S_V55),(29,S_V59),(30,S_V60),(26,S_V56),(27,S_V57),(28,S_V58),(31,S_V62),(32,S_V67),(33,S_V69),(34,S_V72),(35,S_V73),(36,S_V82),(37,S_V88),(38,S_V81),(39,S_V89),(40,S_V90)] [(34,([.as Q14 .i,D0,D0,B2,B0,B0,B3]++dr 7 [.as .bool .i,D0,B0])),(61,[.as Q14 .i]),(53,([.as Q14 .i,D0,D0,B2,B0,B0]++dr 8 [.as .bool .i])),(500030,[])]
noncomputable def x6 (N n:Nat) (K:Ex→St→Option Z0) (a0:Y4) (a3:Y2) (a4 a5:Int) (a6:Y4) (a14:Bool) (a16:Int):Option Z0:=itr A_Vx0_c N 34 Try.f4 [1,1,1,1,1,1,1,1,0,1,0,1,1,0,0] n (([.val Q14 .i a0,.u,.u,W2 a3,W0 a4,W0 a5,W3 a6]++ud 7 [.val .bool .i a14,.u,W0 a16])++us 338) K
noncomputable def wf4:Ex→St→Option Z0:=finish A_Vx0_c S_laws_FnIntervals Try.f4.results.toList
noncomputable def wkh (kX:St→Option Z0) (a0:Y4) (a3:Y2) (a4 a5:Int) (a14:Bool):Option Z0:=kX (([.val Q14 .i a0,.u,.u,W2 a3,W0 a4,W0 a5]++ud 8 [.val .bool .i a14])++us 340)
noncomputable def wkf (kX:St→Option Z0) (kO:Nat→St→Option Z0):Ex→St→Option Z0:=exK wf4 0 (A_Vx0_c.shape 53) kX kO
noncomputable def wjo (N:Nat):Ex→St→Option Z0:=wf4
noncomputable def wfi (N:Nat) (a0:Y4):Option Z0:=gated true N (run A_Vx0_c N (codeAt Try.f4 [1,1,1,1,1,1,1,1,1,1,1])) ([.val Q14 .i a0]++us 354) (wjo N)
theorem wod (N kX kO):∀n,x6 N n (wkf kX kO)=wf5 N (wkh kX) n :=
 itE rfl fun m=>by kernel_rfl
noncomputable def zr (N:Nat):Ex→St→Option Z0:=(blockK 0 (sqK A_Vx0_c N 53 500026 Try.f4 [1,1,1,1,1,1,1,1,1] wf4))
theorem wsq (N:Nat) (a0:Y4):run A_Vx0_c N (codeAt Try.f4 [1,1,1,1,1,1,1,1,1,1,1]) ([.val Q14 .i a0]++us 354) (wjo N)=zt a0:=by kernel_rfl
theorem wf9 (N:Nat):wfi N=wfh N:=by
 funext a0
 exact congrArg (gate true N) ((wsq N a0).trans (show zt a0=zt a0 from rfl))
noncomputable def wkj (N:Nat) (st':St):Option Z0:=rn A_Vx0_c N Try.f4 [1,1,1,1,1,1,1,1,1] st' wf4
theorem wsp (N):x6 N N (zr N)=wkg N:=by
 rw[show x6 N N (zr N)=x6 N N (wkf (wkj N) fun j=>(zr N) (.exit j)) from(by funext _ _ _ _ _ _ _;exact jky),wod,show wkh (wkj N)=wki (wfi N) by kernel_rfl,wf9 N];rfl
theorem run_Vx0_c (N x):runF A_Vx0_c N Try.f4 S_laws_FnIntervals x=w5d N x.1:=(show _=(wp2 (x6 N N (zr N)) (wfi N) x.1) by kernel_rfl).trans (by rw[wsp N,wf9 N];rfl)
theorem run_laws_FnIntervals (x:(S_laws_FnIntervals).a.den):runF A_Vx0_c big Try.f4 S_laws_FnIntervals x=laws_FnIntervals big x.1:=(run_Vx0_c big x).trans (by kernel_rfl)
theorem ok_laws_FnIntervals:OK 4 S_laws_FnIntervals:=gdR (A:=A_Vx0_c) tc Try.func4 (jeb ⟨ok_V0,ok_V22,ok_V39,ok_V50,ok_V51,ok_V52,ok_V53,ok_V55,ok_V59,ok_V60,ok_V56,ok_V57,ok_V58,ok_V62,ok_V67,ok_V69,ok_V72,ok_V73,ok_V82,ok_V88,ok_V81,ok_V89,ok_V90,trivial⟩) run_laws_FnIntervals
theorem good_laws_FnIntervals:Gx.Good Try.prog 4 S_laws_FnIntervals:=ok_laws_FnIntervals.2
end Go.Proofs.Yteanfidobhpchaa
