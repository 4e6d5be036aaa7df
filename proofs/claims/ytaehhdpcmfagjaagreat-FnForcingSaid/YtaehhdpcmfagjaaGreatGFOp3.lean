import Derived.Test.YtaehhdpcmfagjaaGreatVFO
set_option maxRecDepth 100000
set_option linter.unusedVariables false
namespace Go.Proofs.YtaehhdpcmfagjaaGreat
open Go Go.Gx Go.Proofs
noncomputable section
def wlb (rec:T123) (k:Y3→Z3) (a4:Y1) (a6:Y4) (a7:Y3) (a8:Int):Z3 :=
  (shlI IntKind.i64 1 (a6.length:Int)).bind fun xq3 =>
  cond (decide (a8<xq3))
  ((V42 big a8).bind fun rq4 =>
  (V43 big rq4.1 a6).bind fun rq5 =>
  (V58 big a4 rq5.1).bind fun rq6 =>
  cond rq6.1
  ((appI a7 [rq5.1]).bind fun xq7 =>
  rec a4 a6 xq7 (IntKind.i64.wrap (a8+1)))
  (rec a4 a6 a7 (IntKind.i64.wrap (a8+1))))
  (k a7)
def wgz (a7:Y3):Z3 :=
  (qh a7 ()).bind fun rq8 =>
  some ((rq8.2.1,true,()),(()))
def wxn (L7:T123) (p_0:Y2):Z3 :=
  (V33 p_0).bind fun rq1 =>
  cond (!rq1.1.2.1)
  (some (([],false,()),(())))
  ((V41 rq1.1.1).bind fun rq2 =>
  L7 rq1.1.1 rq2.1 [] 0)
def w08 (N:Nat) (k:Y3→Z3):=itN (fun r=>wlb r k) fun _ _ _ _=>none
def wsf (N:Nat):=w08 N (wgz) N
def V59 (N:Nat) (p_0:Y2):Z3:=wxn (wsf N) p_0
def S_V59:Sig:=⟨Q18,[0],[],.unit,Q21,(.p O13 .i),fun x=>V59 big x.1⟩
def A_V59:Cfg:=mkCfg tab [(28,S_V33),(29,S_V41),(31,S_V42),(30,S_V43),(32,S_V58),(33,wt)] [(14,(dr 4 [.as Q10 .i,D0,B1,B7,B0])),(25,(dr 7 [B7]))]
noncomputable def wla (N n:Nat) (K:T130) (a4:Y1) (a6:Y4) (a7:Y3) (a8:Int):Z3:=itr A_V59 N 14 Tryz.f6 [1,1,1,1,1,0,1,0,0] n ((ud 4 [.val Q10 .i a4,.u,W1 a6,W7 a7,W0 a8])++us 33) K
noncomputable def xbg:Ex→St→Z3:=finish A_V59 S_V59 Tryz.f6.results.toList
noncomputable def xio (kX:T86) (a7:Y3):Z3:=kX ((ud 7 [W7 a7])++us 34)
noncomputable def xin (kX:T86) (kO:T61):=exK xbg 0 (A_V59.shape 25) kX kO
theorem xip (N kX kO):∀n,wla N n (xin kX kO)=w08 N (xio kX) n :=
 itE rfl fun m=>by kernel_rfl
noncomputable def wsg (N:Nat):=(blockK 0 (sqK A_V59 N 25 500012 Tryz.f6 [1,1,1,1,1,1] xbg))
noncomputable def xiq (N:Nat) (st':St):Z3:=rn A_V59 N Tryz.f6 [1,1,1,1,1,1] st' xbg
theorem xtc (N):wla N N (wsg N)=wsf N:=by
 rw[show wla N N (wsg N)=wla N N (xin (xiq N) fun j=>(wsg N) (.exit j)) from(by funext _ _ _ _;exact jk7),xip,show xio (xiq N)=wgz by kernel_rfl];rfl
theorem run_V59 (N x):runF A_V59 N Tryz.f6 S_V59 x=V59 N x.1:=(show _=(wxn (wla N N (wsg N)) x.1) by kernel_rfl).trans (by rw[xtc N];rfl)
theorem ok_V59:OK 6 S_V59:=gdR (A:=A_V59) tc Tryz.func6 (jed ⟨ok_V33,ok_V41,ok_V42,ok_V43,ok_V58,⟨yb,xh⟩,trivial⟩) (run_V59 big)
def w1b (rec:Y4→Int→Int→Int→Z0) (k:Z0) (a0:Y4) (a1 a2 a7:Int):Z0 :=
  cond (decide (a7<(a0.length:Int)))
  ((atI a0 a7).bind fun xq1 =>
  (V6 xq1 a1 a2).bind fun rq2 =>
  cond (!rq2.1)
  (some (false,(())))
  (cond (decide (0<a7))
  ((atI a0 (IntKind.i64.wrap (a7-1))).bind fun xq3 =>
  (atI a0 a7).bind fun xq4 =>
  cond (decide (xq4≤xq3))
  (some (false,(())))
  (rec a0 a1 a2 (IntKind.i64.wrap (a7+1))))
  (rec a0 a1 a2 (IntKind.i64.wrap (a7+1)))))
  (k)
def wlc:Z0 :=
  some (true,(()))
def xbj (L2:Y4→Int→Int→Int→Z0) (l_0:Y4) (lo_1 hi_2:Int):Z0 :=
  L2 l_0 lo_1 hi_2 0
def wg0 (N:Nat) (k:Z0):Nat→Y4→Int→Int→Int→Z0
  | 0,_,_,_,_=>none
  | m+1,a0,a1,a2,a7=>w1b (wg0 N k m) k a0 a1 a2 a7
def w09 (N:Nat):=wg0 N (wlc) N
def V60 (N:Nat) (l_0:Y4) (lo_1 hi_2:Int):Z0:=xbj (w09 N) l_0 lo_1 hi_2
def S_V60:Sig:=⟨(.pair Q3 Q22),[0,0,0],[],.unit,.bool,.i,fun x=>V60 big x.1 x.2.1 x.2.2.1⟩
def A_V60:Cfg:=mkCfg tab [(130,S_V6)] [(4,([B2,B0,B0]++dr 4 [B0])),(13,[])]
noncomputable def wda (N n:Nat) (K:T8) (a0:Y4) (a1 a2 a7:Int):Z0:=itr A_V60 N 4 Tryz.f128 [1,0,1,0,0] n (([W2 a0,W0 a1,W0 a2]++ud 4 [W0 a7])++us 30) K
noncomputable def xbk:Ex→St→Z0:=finish A_V60 S_V60 Tryz.f128.results.toList
noncomputable def w1a (kX:T1):Z0:=kX ([]++us 38)
noncomputable def wsj (kX:T1) (kO:T0):=exK xbk 0 (A_V60.shape 13) kX kO
theorem wwy (N kX kO):∀n,wda N n (wsj kX kO)=wg0 N (w1a kX) n
 | 0=>rfl
 | m+1=>(show wda N (m+1) (wsj kX kO)=w1b (wda N m (wsj kX kO)) (w1a kX) by kernel_rfl).trans (by rw[wwy N kX kO m];funext _ _ _ _;rfl)
noncomputable def wsk (N:Nat):=(blockK 0 (sqK A_V60 N 13 500006 Tryz.f128 [1,1] xbk))
noncomputable def xir (N:Nat) (st':St):Z0:=rn A_V60 N Tryz.f128 [1,1] st' xbk
theorem xtd (N):wda N N (wsk N)=w09 N:=by
 rw[show wda N N (wsk N)=wda N N (wsj (xir N) fun j=>(wsk N) (.exit j)) from(by funext _ _ _ _;exact jk7),wwy,show w1a (xir N)=wlc by kernel_rfl];rfl
theorem run_V60 (N x):runF A_V60 N Tryz.f128 S_V60 x=V60 N x.1 x.2.1 x.2.2.1:=(show _=(xbj (wda N N (wsk N)) x.1 x.2.1 x.2.2.1) by kernel_rfl).trans (by rw[xtd N];rfl)
theorem ok_V60:OK 128 S_V60:=gdR (A:=A_V60) tc Tryz.func128 (jed ⟨ok_V6,trivial⟩) (run_V60 big)
def wle (rec:T15) (k:Z0) (a0 a1:Y4) (a5:Int):Z0 :=
  cond (decide (a5<(a0.length:Int)))
  ((atI a0 a5).bind fun xq1 =>
  (V14 big a1 xq1).bind fun rq2 =>
  cond (!rq2.1)
  (some (false,(())))
  (rec a0 a1 (IntKind.i64.wrap (a5+1))))
  (k)
def wg1:Z0 :=
  some (true,(()))
def xbl (L2:T15) (x_0 y_1:Y4):Z0 :=
  L2 x_0 y_1 0
def w1d (N:Nat) (k:Z0):=itN (fun r=>wle r k) fun _ _ _=>none
def w1c (N:Nat):=w1d N (wg1) N
def V61 (N:Nat) (x_0 y_1:Y4):Z0:=xbl (w1c N) x_0 y_1
def S_V61:Sig:=⟨(.pair Q3 Q14),[0,0],[],.unit,.bool,.i,fun x=>V61 big x.1 x.2.1⟩
def A_V61:Cfg:=mkCfg tab [(115,S_V14)] [(4,([B2,B2]++dr 3 [B0])),(13,[])]
noncomputable def wld (N n:Nat) (K:T8) (a0 a1:Y4) (a5:Int):Z0:=itr A_V61 N 4 Tryz.f69 [1,0,1,0,0] n (([W2 a0,W2 a1]++ud 3 [W0 a5])++us 13) K
noncomputable def xbm:Ex→St→Z0:=finish A_V61 S_V61 Tryz.f69.results.toList
noncomputable def xit (kX:T1):Z0:=kX ([]++us 19)
noncomputable def xis (kX:T1) (kO:T0):=exK xbm 0 (A_V61.shape 13) kX kO
theorem xiu (N kX kO):∀n,wld N n (xis kX kO)=w1d N (xit kX) n :=
 itE rfl fun m=>by kernel_rfl
noncomputable def wsl (N:Nat):=(blockK 0 (sqK A_V61 N 13 500006 Tryz.f69 [1,1] xbm))
noncomputable def xiv (N:Nat) (st':St):Z0:=rn A_V61 N Tryz.f69 [1,1] st' xbm
theorem xte (N):wld N N (wsl N)=w1c N:=by
 rw[show wld N N (wsl N)=wld N N (xis (xiv N) fun j=>(wsl N) (.exit j)) from(by funext _ _ _;exact jk7),xiu,show xit (xiv N)=wg1 by kernel_rfl];rfl
theorem run_V61 (N x):runF A_V61 N Tryz.f69 S_V61 x=V61 N x.1 x.2.1:=(show _=(xbl (wld N N (wsl N)) x.1 x.2.1) by kernel_rfl).trans (by rw[xte N];rfl)
theorem ok_V61:OK 69 S_V61:=gdR (A:=A_V61) tc Tryz.func69 (jed ⟨ok_V14,trivial⟩) (run_V61 big)
def wg5 (rec:T115) (k:T36) (a1:Y2) (a3 a5 a6:Int):Z0 :=
  (atI a1.1 a5).bind fun xq5 =>
  cond (decide (a6<(xq5.length:Int)))
  ((atI a1.1 a5).bind fun xq6 =>
  (atI xq6 a6).bind fun xq7 =>
  cond (decide (xq7≠a5))
  ((atI a1.1 xq7).bind fun xq8 =>
  (V14 big xq8 a5).bind fun rq9 =>
  cond rq9.1
  (some (false,(())))
  ((atI a1.1 xq7).bind fun xq10 =>
  (atI a1.1 a5).bind fun xq11 =>
  (V61 big xq10 xq11).bind fun rq12 =>
  cond (!rq12.1)
  (some (false,(())))
  (rec a1 a3 a5 (IntKind.i64.wrap (a6+1)))))
  ((atI a1.1 xq7).bind fun xq13 =>
  (atI a1.1 a5).bind fun xq14 =>
  (V61 big xq13 xq14).bind fun rq15 =>
  cond (!rq15.1)
  (some (false,(())))
  (rec a1 a3 a5 (IntKind.i64.wrap (a6+1)))))
  (k a1 a3 a5)
def wb2 (rec:T36) (a1:Y2) (a3 a5:Int):Z0 :=
  rec a1 a3 (IntKind.i64.wrap (a5+1))
def wb3 (L13:T115) (k:Z0) (a1:Y2) (a3 a5:Int):Z0 :=
  cond (decide (a5<a3))
  (L13 a1 a3 a5 0)
  (k)
def x8:Z0 :=
  some (true,(()))
def wlg (rec:T36) (k:Y2→Int→Z0) (a1:Y2) (a3 a4:Int):Z0 :=
  cond (decide (a4<a3))
  ((atI a1.1 a4).bind fun xq1 =>
  (V60 big xq1 0 (IntKind.i64.wrap (a3-1))).bind fun rq2 =>
  cond (!rq2.1)
  (some (false,(())))
  ((atI a1.1 a4).bind fun xq3 =>
  (V14 big xq3 a4).bind fun rq4 =>
  cond (!rq4.1)
  (some (false,(())))
  (rec a1 a3 (IntKind.i64.wrap (a4+1)))))
  (k a1 a3)
def wg4 (L10:T36) (a1:Y2) (a3:Int):Z0 :=
  L10 a1 a3 0
def xbp (L5:T36) (p_0:Y2):Z0 :=
  cond (decide (10<(p_0.1.length:Int)))
  (some (false,(())))
  (L5 p_0 (p_0.1.length:Int) 0)
def wv7 (N:Nat) (k:T36):=itN (fun r=>wg5 r k) fun _ _ _ _=>none
def wg2 (N:Nat) (rec:T36) (k:Z0):=wv7 N (wb2 rec) N
def w1f (N:Nat) (k:Y2→Int→Z0):=itN (fun r=>wlg r k) fun _ _ _=>none
def wv6 (N:Nat) (k:Z0):=itN (fun r=>wb3 (wg2 N r k) k) fun _ _ _=>none
def wb1 (N:Nat):=wv6 N (x8) N
def w1e (N:Nat):=w1f N (wg4 (wb1 N)) N
def V62 (N:Nat) (p_0:Y2):Z0:=xbp (w1e N) p_0
def S_V62:Sig:=⟨Q18,[0],[],.unit,.bool,.i,fun x=>V62 big x.1⟩
def A_V62:Cfg:=mkCfg tab [(128,S_V60),(115,S_V14),(69,S_V61)] [(10,[D0,B6,D0,B0,B0]),(19,[D0,B6,D0,B0]),(20,[D0,B6,D0,B0,D0,B0]),(26,[D0,B6,D0,B0,D0,B0,B0]),(37,[]),(23,[D0,B6,D0,B0,D0,B0])]
noncomputable def wlf (N n:Nat) (K:T8) (a1:Y2) (a3 a4:Int):Z0:=itr A_V62 N 10 Tryz.f84 [1,1,1,0,1,0,0] n ([.u,W6 a1,.u,W0 a3,W0 a4]++us 81) K
noncomputable def zf (N n:Nat) (K:T8) (a1:Y2) (a3 a5:Int):Z0:=itr A_V62 N 20 Tryz.f84 [1,1,1,1,0,1,0,0] n ([.u,W6 a1,.u,W0 a3,.u,W0 a5]++us 80) K
noncomputable def wg3 (N n:Nat) (K:T8) (a1:Y2) (a3 a5 a6:Int):Z0:=itr A_V62 N 26 Tryz.f84 [1,1,1,1,0,1,0,0,1,0,0,1,0,0] n ([.u,W6 a1,.u,W0 a3,.u,W0 a5,W0 a6]++us 79) K
noncomputable def wja:Ex→St→Z0:=finish A_V62 S_V62 Tryz.f84.results.toList
noncomputable def xix (kX:T1) (a1:Y2) (a3:Int):Z0:=kX ([.u,W6 a1,.u,W0 a3]++us 82)
noncomputable def xiw (kX:T1) (kO:T0):=exK wja 0 (A_V62.shape 19) kX kO
noncomputable def wo9 (kX:T1):Z0:=kX ([]++us 86)
noncomputable def wb0 (kX:T1) (kO:T0):=exK wja 2 (A_V62.shape 37) kX kO
noncomputable def w7n (kX:T1) (a1:Y2) (a3 a5:Int):Z0:=kX ([.u,W6 a1,.u,W0 a3,.u,W0 a5]++us 80)
noncomputable def w7m (kX:T1) (kO:T0):=exK wja 4 (A_V62.shape 23) kX kO
theorem xiy (N kX kO):∀n,wlf N n (xiw kX kO)=w1f N (xix kX) n :=
 itE rfl fun m=>by kernel_rfl
noncomputable def wsm (N:Nat):=(blockK 0 (sqK A_V62 N 19 500009 Tryz.f84 [1,1,1,1] wja))
theorem xbo (N kX kO):∀n,wg3 N n (w7m kX kO)=wv7 N (w7n kX) n :=
 itE rfl fun m=>by kernel_rfl
noncomputable def wo8 (N m:Nat) (kX:T1) (kO:T0):=(blockK 4 (blockK 3 (sqK A_V62 N 23 500011 Tryz.f84 [1,1,1,1,0,1,0,0,1,1] (itK A_V62 N 20 Tryz.f84 [1,1,1,1,0,1,0,0] m (wb0 kX kO)))))
noncomputable def w7p (N m:Nat) (kX:T1) (kO:T0) (st':St):Z0:=rn A_V62 N Tryz.f84 [1,1,1,1,0,1,0,0,1,1] st' (itK A_V62 N 20 Tryz.f84 [1,1,1,1,0,1,0,0] m (wb0 kX kO))
theorem xol (N m kX kO) {r}(h:zf N m (wb0 kX kO)=r):wg3 N N (wo8 N m kX kO)=wg2 N r (wo9 kX):=by
 rw[show wg3 N N (wo8 N m kX kO)=wg3 N N (w7m (w7p N m kX kO) fun j=>(wo8 N m kX kO) (.exit j)) from(by funext _ _ _ _;exact jk7),xbo,show w7n (w7p N m kX kO)=wb2 (zf N m (wb0 kX kO)) by kernel_rfl,h];rfl
theorem xbn (N kX kO):∀n,zf N n (wb0 kX kO)=wv6 N (wo9 kX) n :=
 itE rfl fun m=>(show _=wb3 (wg3 N N (wo8 N m kX kO)) (wo9 kX) by kernel_rfl).trans (by rw[xol N m kX kO rfl]<;>rfl)
noncomputable def wo7 (N:Nat):=(blockK 2 (sqK A_V62 N 37 500018 Tryz.f84 [1,1,1,1,1] wja))
noncomputable def w7o (N:Nat) (st':St):Z0:=rn A_V62 N Tryz.f84 [1,1,1,1,1] st' wja
theorem xok (N):zf N N (wo7 N)=wb1 N:=by
 rw[show zf N N (wo7 N)=zf N N (wb0 (w7o N) fun j=>(wo7 N) (.exit j)) from(by funext _ _ _;exact jk7),xbn,show wo9 (w7o N)=x8 by kernel_rfl];rfl
noncomputable def xiz (N:Nat) (st':St):Z0:=rn A_V62 N Tryz.f84 [1,1,1,1] st' wja
theorem xth (N):wlf N N (wsm N)=w1e N:=by
 rw[show wlf N N (wsm N)=wlf N N (xiw (xiz N) fun j=>(wsm N) (.exit j)) from(by funext _ _ _;exact jk7),xiy,show xix (xiz N)=wg4 (zf N N (wo7 N)) by kernel_rfl,xok N];rfl
theorem run_V62 (N x):runF A_V62 N Tryz.f84 S_V62 x=V62 N x.1:=(show _=(xbp (wlf N N (wsm N)) x.1) by kernel_rfl).trans (by rw[xth N];rfl)
theorem ok_V62:OK 84 S_V62:=gdR (A:=A_V62) tc Tryz.func84 (jed ⟨ok_V60,ok_V14,ok_V61,trivial⟩) (run_V62 big)
def wlj (rec:T84) (k:Y2→Y2→Y2→Int→Y4→Z4) (a1 a2 a3:Y2) (a4:Int) (a5:Y4) (a6:Int):Z4 :=
  cond (decide (a6<(a1.1.length:Int)))
  ((V15 a1 a4 a6).bind fun rq1 =>
  cond rq1.1
  ((appI a5 [a6]).bind fun xq2 =>
  rec a1 a2 a3 a4 xq2 (IntKind.i64.wrap (a6+1)))
  (rec a1 a2 a3 a4 a5 (IntKind.i64.wrap (a6+1))))
  (k a1 a2 a3 a4 a5)
def wg7 (rec:T80) (a1 a2 a3:Y2) (a4:Int) (a5:Y4):Z4 :=
  (appI a3.1 [a5]).bind fun xq3 =>
  rec a1 a2 (xq3,((),a3.2).2) (IntKind.i64.wrap (a4+1))
def wg8 (L7:T84) (k:T52) (a1 a2 a3:Y2) (a4:Int):Z4 :=
  cond (decide (a4<(a1.1.length:Int)))
  (L7 a1 a2 a3 a4 [] 0)
  (k a2 a3)
def zy (a2 a3:Y2):Z4 :=
  some (a3,(()))
def xbq (L3:T80) (p_0:Y2):Z4 :=
  L3 p_0 (([]:Y3),()) ([],()) 0
def w1i (N:Nat) (k:Y2→Y2→Y2→Int→Y4→Z4):=itN (fun r=>wlj r k) fun _ _ _ _ _ _=>none
def wlh (N:Nat) (rec:T80) (k:T52):=w1i N (wg7 rec) N
def w1h (N:Nat) (k:T52):=itN (fun r=>wg8 (wlh N r k) k) fun _ _ _ _=>none
def w1g (N:Nat):=w1h N (zy) N
def V63 (N:Nat) (p_0:Y2):Z4:=xbq (w1g N) p_0
def S_V63:Sig:=⟨Q18,[0],[],.unit,Q0,(.p O13 .i),fun x=>V63 big x.1⟩
def A_V63:Cfg:=mkCfg tab [(121,S_V15)] [(6,[D0,B6,B3,B3,B0]),(14,[D0,B6,B3,B3,B0,B1,B0]),(25,[D0,D0,B3,B3]),(23,[D0,B6,B3,B3,B0,B1])]
noncomputable def wdb (N n:Nat) (K:T53) (a1 a2 a3:Y2) (a4:Int):Z4:=itr A_V63 N 6 Tryz.f74 [1,1,0,1,0,0] n ([.u,W6 a1,W3 a2,W3 a3,W0 a4]++us 34) K
noncomputable def wli (N n:Nat) (K:T53) (a1 a2 a3:Y2) (a4:Int) (a5:Y4) (a6:Int):Z4:=itr A_V63 N 14 Tryz.f74 [1,1,0,1,0,0,1,0,0,1,0,1,0,0] n ([.u,W6 a1,W3 a2,W3 a3,W0 a4,W1 a5,W0 a6]++us 32) K
noncomputable def wxp:Ex→St→Z4:=finish A_V63 S_V63 Tryz.f74.results.toList
noncomputable def wsp (kX:T21) (a2 a3:Y2):Z4:=kX ([.u,.u,W3 a2,W3 a3]++us 35)
noncomputable def wg6 (kX:T21) (kO:T9):=exK wxp 0 (A_V63.shape 25) kX kO
noncomputable def xi1 (kX:T21) (a1 a2 a3:Y2) (a4:Int) (a5:Y4):Z4:=kX ([.u,W6 a1,W3 a2,W3 a3,W0 a4,W1 a5]++us 33)
noncomputable def xi0 (kX:T21) (kO:T9):=exK wxp 2 (A_V63.shape 23) kX kO
theorem xi3 (N kX kO):∀n,wli N n (xi0 kX kO)=w1i N (xi1 kX) n :=
 itE rfl fun m=>by kernel_rfl
noncomputable def wso (N m:Nat) (kX:T21) (kO:T9):=(blockK 2 (sqK A_V63 N 23 500011 Tryz.f74 [1,1,0,1,0,0,1,0,0,1,1] (blockK 1 (sqK A_V63 N 9 500004 Tryz.f74 [1,1,0,1,0,0,1,1] (itK A_V63 N 6 Tryz.f74 [1,1,0,1,0,0] m (wg6 kX kO))))))
noncomputable def xi5 (N m:Nat) (kX:T21) (kO:T9) (st':St):Z4:=rn A_V63 N Tryz.f74 [1,1,0,1,0,0,1,0,0,1,1] st' (blockK 1 (sqK A_V63 N 9 500004 Tryz.f74 [1,1,0,1,0,0,1,1] (itK A_V63 N 6 Tryz.f74 [1,1,0,1,0,0] m (wg6 kX kO))))
theorem xtj (N m kX kO) {r}(h:wdb N m (wg6 kX kO)=r):wli N N (wso N m kX kO)=wlh N r (wsp kX):=by
 rw[show wli N N (wso N m kX kO)=wli N N (xi0 (xi5 N m kX kO) fun j=>(wso N m kX kO) (.exit j)) from(by funext _ _ _ _ _ _;exact jk7),xi3,show xi1 (xi5 N m kX kO)=wg7 (wdb N m (wg6 kX kO)) by kernel_rfl,h];rfl
theorem xi2 (N kX kO):∀n,wdb N n (wg6 kX kO)=w1h N (wsp kX) n :=
 itE rfl fun m=>(show _=wg8 (wli N N (wso N m kX kO)) (wsp kX) by kernel_rfl).trans (by rw[xtj N m kX kO rfl]<;>rfl)
noncomputable def wsn (N:Nat):=(blockK 0 (sqK A_V63 N 25 500012 Tryz.f74 [1,1,1] wxp))
noncomputable def xi4 (N:Nat) (st':St):Z4:=rn A_V63 N Tryz.f74 [1,1,1] st' wxp
theorem xti (N):wdb N N (wsn N)=w1g N:=by
 rw[show wdb N N (wsn N)=wdb N N (wg6 (xi4 N) fun j=>(wsn N) (.exit j)) from(by funext _ _ _ _;exact jk7),xi2,show wsp (xi4 N)=zy by kernel_rfl];rfl
theorem run_V63 (N x):runF A_V63 N Tryz.f74 S_V63 x=V63 N x.1:=(show _=(xbq (wdb N N (wsn N)) x.1) by kernel_rfl).trans (by rw[xti N];rfl)
theorem ok_V63:OK 74 S_V63:=gdR (A:=A_V63) tc Tryz.func74 (jed ⟨ok_V15,trivial⟩) (run_V63 big)
def whc (rec:T140) (k:Z5) (a2:Y2) (a5:Y4) (a9:Int):Z5 :=
  cond (decide (a9<(a5.length:Int)))
  ((atI a5 a9).bind fun _ =>
  (a5[a9.toNat]?).bind fun xq4 =>
  (atI a2.1 xq4).bind fun xq5 =>
  (V61 big a5 xq5).bind fun rq6 =>
  cond rq6.1
  ((atI a5 a9).bind fun _ =>
  (a5[a9.toNat]?).bind fun xq7 =>
  some (xq7,(())))
  (rec a2 a5 (IntKind.i64.wrap (a9+1))))
  (k)
def wb4:Z5 :=
  some ((-1:Int),(()))
def wlm (rec:T74) (k:Y4→Y2→Y4→Int→Bool→Z5) (a1:Y4) (a2:Y2) (a5:Y4) (a6:Int) (a7:Bool) (a8:Int):Z5 :=
  cond (decide (a8<(a1.length:Int)))
  (cond a7
  ((atI a1 a8).bind fun xq1 =>
  (V15 a2 a6 xq1).bind fun rq2 =>
  rec a1 a2 a5 a6 rq2.1 (IntKind.i64.wrap (a8+1)))
  (rec a1 a2 a5 a6 false (IntKind.i64.wrap (a8+1))))
  (k a1 a2 a5 a6 a7)
def whb (rec:T81) (a1:Y4) (a2:Y2) (a5:Y4) (a6:Int) (a7:Bool):Z5 :=
  cond a7
  ((appI a5 [a6]).bind fun xq3 =>
  rec a1 a2 xq3 (IntKind.i64.wrap (a6+1)))
  (rec a1 a2 a5 (IntKind.i64.wrap (a6+1)))
def whd (L7:T74) (k:Y2→Y4→Z5) (a1:Y4) (a2:Y2) (a5:Y4) (a6:Int):Z5 :=
  cond (decide (a6<(a2.1.length:Int)))
  (L7 a1 a2 a5 a6 true 0)
  (k a2 a5)
def zz (L13:T140) (a2:Y2) (a5:Y4):Z5 :=
  L13 a2 a5 0
def xbs (L3:T81) (p_0:Y2) (some_1:Y4):Z5 :=
  L3 some_1 p_0 [] 0
def w1l (N:Nat) (k:Y4→Y2→Y4→Int→Bool→Z5):=itN (fun r=>wlm r k) fun _ _ _ _ _ _=>none
def wlk (N:Nat) (rec:T81) (k:Y2→Y4→Z5):=w1l N (whb rec) N
def w1k (N:Nat) (k:Y2→Y4→Z5):=itN (fun r=>whd (wlk N r k) k) fun _ _ _ _=>none
def wv8 (N:Nat) (k:Z5):=itN (fun r=>whc r k) fun _ _ _=>none
def x9 (N:Nat):=wv8 N (wb4) N
def w1j (N:Nat):=w1k N (zz (x9 N)) N
def V64 (N:Nat) (p_0:Y2) (some_1:Y4):Z5:=xbs (w1j N) p_0 some_1
def S_V64:Sig:=⟨(.pair Q0 Q14),[0,0],[],.unit,I,.i,fun x=>V64 big x.1 x.2.1⟩
def A_V64:Cfg:=mkCfg tab [(121,S_V15),(69,S_V61)] [(6,[D0,B2,B6,D0,D0,B1,B0]),(14,[D0,B2,B6,D0,D0,B1,B0,B5,B0]),(25,[D0,D0,B6,D0,D0,B1]),(26,([D0,D0,B6,D0,D0,B1]++dr 3 [B0])),(21,[D0,B2,B6,D0,D0,B1,B0,B5]),(35,[])]
noncomputable def wdc (N n:Nat) (K:T87) (a1:Y4) (a2:Y2) (a5:Y4) (a6:Int):Z5:=itr A_V64 N 6 Tryz.f75 [1,1,0,1,0,0] n ([.u,W2 a1,W6 a2,.u,.u,W1 a5,W0 a6]++us 52) K
noncomputable def wll (N n:Nat) (K:T87) (a1:Y4) (a2:Y2) (a5:Y4) (a6:Int) (a7:Bool) (a8:Int):Z5:=itr A_V64 N 14 Tryz.f75 [1,1,0,1,0,0,1,0,0,1,0,1,0,0] n ([.u,W2 a1,W6 a2,.u,.u,W1 a5,W0 a6,W5 a7,W0 a8]++us 50) K
noncomputable def wha (N n:Nat) (K:T87) (a2:Y2) (a5:Y4) (a9:Int):Z5:=itr A_V64 N 26 Tryz.f75 [1,1,1,0,1,0,0] n (([.u,.u,W6 a2,.u,.u,W1 a5]++ud 3 [W0 a9])++us 49) K
noncomputable def wjb:Ex→St→Z5:=finish A_V64 S_V64 Tryz.f75.results.toList
noncomputable def wss (kX:T56) (a2:Y2) (a5:Y4):Z5:=kX ([.u,.u,W6 a2,.u,.u,W1 a5]++us 53)
noncomputable def wg9 (kX:T56) (kO:T47):=exK wjb 0 (A_V64.shape 25) kX kO
noncomputable def xi7 (kX:T56) (a1:Y4) (a2:Y2) (a5:Y4) (a6:Int) (a7:Bool):Z5:=kX ([.u,W2 a1,W6 a2,.u,.u,W1 a5,W0 a6,W5 a7]++us 51)
noncomputable def xi6 (kX:T56) (kO:T47):=exK wjb 2 (A_V64.shape 21) kX kO
noncomputable def w7r (kX:T56):Z5:=kX ([]++us 59)
noncomputable def w7q (kX:T56) (kO:T47):=exK wjb 4 (A_V64.shape 35) kX kO
theorem xi9 (N kX kO):∀n,wll N n (xi6 kX kO)=w1l N (xi7 kX) n :=
 itE rfl fun m=>by kernel_rfl
noncomputable def wsr (N m:Nat) (kX:T56) (kO:T47):=(blockK 2 (sqK A_V64 N 21 500010 Tryz.f75 [1,1,0,1,0,0,1,0,0,1,1] (blockK 1 (sqK A_V64 N 9 500004 Tryz.f75 [1,1,0,1,0,0,1,1] (itK A_V64 N 6 Tryz.f75 [1,1,0,1,0,0] m (wg9 kX kO))))))
noncomputable def xjb (N m:Nat) (kX:T56) (kO:T47) (st':St):Z5:=rn A_V64 N Tryz.f75 [1,1,0,1,0,0,1,0,0,1,1] st' (blockK 1 (sqK A_V64 N 9 500004 Tryz.f75 [1,1,0,1,0,0,1,1] (itK A_V64 N 6 Tryz.f75 [1,1,0,1,0,0] m (wg9 kX kO))))
theorem xtm (N m kX kO) {r}(h:wdc N m (wg9 kX kO)=r):wll N N (wsr N m kX kO)=wlk N r (wss kX):=by
 rw[show wll N N (wsr N m kX kO)=wll N N (xi6 (xjb N m kX kO) fun j=>(wsr N m kX kO) (.exit j)) from(by funext _ _ _ _ _ _;exact jk7),xi9,show xi7 (xjb N m kX kO)=whb (wdc N m (wg9 kX kO)) by kernel_rfl,h];rfl
theorem xi8 (N kX kO):∀n,wdc N n (wg9 kX kO)=w1k N (wss kX) n :=
 itE rfl fun m=>(show _=whd (wll N N (wsr N m kX kO)) (wss kX) by kernel_rfl).trans (by rw[xtm N m kX kO rfl]<;>rfl)
noncomputable def wsq (N:Nat):=(blockK 0 (sqK A_V64 N 25 500012 Tryz.f75 [1,1,1] wjb))
theorem xbr (N kX kO):∀n,wha N n (w7q kX kO)=wv8 N (w7r kX) n :=
 itE rfl fun m=>by kernel_rfl
noncomputable def wpa (N:Nat):=(blockK 4 (sqK A_V64 N 35 500017 Tryz.f75 [1,1,1,1] wjb))
noncomputable def w7s (N:Nat) (st':St):Z5:=rn A_V64 N Tryz.f75 [1,1,1,1] st' wjb
theorem xom (N):wha N N (wpa N)=x9 N:=by
 rw[show wha N N (wpa N)=wha N N (w7q (w7s N) fun j=>(wpa N) (.exit j)) from(by funext _ _ _;exact jk7),xbr,show w7r (w7s N)=wb4 by kernel_rfl];rfl
noncomputable def xja (N:Nat) (st':St):Z5:=rn A_V64 N Tryz.f75 [1,1,1] st' wjb
theorem xtl (N):wdc N N (wsq N)=w1j N:=by
 rw[show wdc N N (wsq N)=wdc N N (wg9 (xja N) fun j=>(wsq N) (.exit j)) from(by funext _ _ _ _;exact jk7),xi8,show wss (xja N)=zz (wha N N (wpa N)) by kernel_rfl,xom N];rfl
theorem run_V64 (N x):runF A_V64 N Tryz.f75 S_V64 x=V64 N x.1 x.2.1:=(show _=(xbs (wdc N N (wsq N)) x.1 x.2.1) by kernel_rfl).trans (by rw[xtl N];rfl)
theorem ok_V64:OK 75 S_V64:=gdR (A:=A_V64) tc Tryz.func75 (jed ⟨ok_V15,ok_V61,trivial⟩) (run_V64 big)
def wlp (rec:T119) (k:T75) (a1 a3:Y2) (a4 a5:Int):Z0 :=
  cond (decide (a5<a4))
  ((V64 big a1 [a4,a5]).bind fun rq3 =>
  cond (decide (rq3.1<0))
  (some (false,(())))
  ((V64 big a3 [a4,a5]).bind fun rq4 =>
  cond (decide (rq4.1<0))
  (some (false,(())))
  (rec a1 a3 a4 (IntKind.i64.wrap (a5+1)))))
  (k a1 a3 a4)
def whf (rec:T75) (a1 a3:Y2) (a4:Int):Z0 :=
  rec a1 a3 (IntKind.i64.wrap (a4+1))
def whg (L8:T119) (k:Z0) (a1 a3:Y2) (a4:Int):Z0 :=
  cond (decide (a4<(a1.1.length:Int)))
  (L8 a1 a3 a4 0)
  (k)
def z6:Z0 :=
  some (true,(()))
def xbt (L5:T75) (p_0:Y2):Z0 :=
  (V62 big p_0).bind fun rq1 =>
  cond (!rq1.1)
  (some (false,(())))
  (cond (decide ((p_0.1.length:Int)=0))
  (some (false,(())))
  ((V63 big p_0).bind fun rq2 =>
  L5 p_0 rq2.1 0))
def w1o (N:Nat) (k:T75):=itN (fun r=>wlp r k) fun _ _ _ _=>none
def wln (N:Nat) (rec:T75) (k:Z0):=w1o N (whf rec) N
def w1n (N:Nat) (k:Z0):=itN (fun r=>whg (wln N r k) k) fun _ _ _=>none
def w1m (N:Nat):=w1n N (z6) N
def V65 (N:Nat) (p_0:Y2):Z0:=xbt (w1m N) p_0
def S_V65:Sig:=⟨Q18,[0],[],.unit,.bool,.i,fun x=>V65 big x.1⟩
def A_V65:Cfg:=mkCfg tab [(84,S_V62),(74,S_V63),(75,S_V64)] [(10,[D0,B6,D0,B3,B0]),(16,[D0,B6,D0,B3,B0,B0]),(25,[]),(13,[D0,B6,D0,B3,B0])]
noncomputable def wdd (N n:Nat) (K:T8) (a1 a3:Y2) (a4:Int):Z0:=itr A_V65 N 10 Tryz.f48 [1,1,1,0,1,0,0] n ([.u,W6 a1,.u,W3 a3,W0 a4]++us 38) K
noncomputable def wlo (N n:Nat) (K:T8) (a1 a3:Y2) (a4 a5:Int):Z0:=itr A_V65 N 16 Tryz.f48 [1,1,1,0,1,0,0,1,0,0,1,0,0] n ([.u,W6 a1,.u,W3 a3,W0 a4,W0 a5]++us 37) K
noncomputable def wxq:Ex→St→Z0:=finish A_V65 S_V65 Tryz.f48.results.toList
noncomputable def wsv (kX:T1):Z0:=kX ([]++us 43)
noncomputable def whe (kX:T1) (kO:T0):=exK wxq 0 (A_V65.shape 25) kX kO
noncomputable def xjd (kX:T1) (a1 a3:Y2) (a4:Int):Z0:=kX ([.u,W6 a1,.u,W3 a3,W0 a4]++us 38)
noncomputable def xjc (kX:T1) (kO:T0):=exK wxq 2 (A_V65.shape 13) kX kO
theorem xjf (N kX kO):∀n,wlo N n (xjc kX kO)=w1o N (xjd kX) n :=
 itE rfl fun m=>by kernel_rfl
noncomputable def wsu (N m:Nat) (kX:T1) (kO:T0):=(blockK 2 (blockK 1 (sqK A_V65 N 13 500006 Tryz.f48 [1,1,1,0,1,0,0,1,1] (itK A_V65 N 10 Tryz.f48 [1,1,1,0,1,0,0] m (whe kX kO)))))
noncomputable def xjh (N m:Nat) (kX:T1) (kO:T0) (st':St):Z0:=rn A_V65 N Tryz.f48 [1,1,1,0,1,0,0,1,1] st' (itK A_V65 N 10 Tryz.f48 [1,1,1,0,1,0,0] m (whe kX kO))
theorem xto (N m kX kO) {r}(h:wdd N m (whe kX kO)=r):wlo N N (wsu N m kX kO)=wln N r (wsv kX):=by
 rw[show wlo N N (wsu N m kX kO)=wlo N N (xjc (xjh N m kX kO) fun j=>(wsu N m kX kO) (.exit j)) from(by funext _ _ _ _;exact jk7),xjf,show xjd (xjh N m kX kO)=whf (wdd N m (whe kX kO)) by kernel_rfl,h];rfl
theorem xje (N kX kO):∀n,wdd N n (whe kX kO)=w1n N (wsv kX) n :=
 itE rfl fun m=>(show _=whg (wlo N N (wsu N m kX kO)) (wsv kX) by kernel_rfl).trans (by rw[xto N m kX kO rfl]<;>rfl)
noncomputable def wst (N:Nat):=(blockK 0 (sqK A_V65 N 25 500012 Tryz.f48 [1,1,1,1] wxq))
noncomputable def xjg (N:Nat) (st':St):Z0:=rn A_V65 N Tryz.f48 [1,1,1,1] st' wxq
theorem xtn (N):wdd N N (wst N)=w1m N:=by
 rw[show wdd N N (wst N)=wdd N N (whe (xjg N) fun j=>(wst N) (.exit j)) from(by funext _ _ _;exact jk7),xje,show wsv (xjg N)=z6 by kernel_rfl];rfl
theorem run_V65 (N x):runF A_V65 N Tryz.f48 S_V65 x=V65 N x.1:=(show _=(xbt (wdd N N (wst N)) x.1) by kernel_rfl).trans (by rw[xtn N];rfl)
theorem ok_V65:OK 48 S_V65:=gdR (A:=A_V65) tc Tryz.func48 (jed ⟨ok_V62,ok_V63,ok_V64,trivial⟩) (run_V65 big)
def xp8 (p_0:Y2):Z0 :=
  cond (decide ((p_0.1.length:Int)≤8))
  ((V65 big p_0).bind fun rq1 =>
  some (rq1.1,(())))
  (some (false,(())))
def V66 (p_0:Y2):Z0:=xp8 p_0
def S_V66:Sig:=⟨Q18,[0],[],.unit,.bool,.i,fun x=>V66 x.1⟩
def A_V66:Cfg:=mkCfg tab [(48,S_V65)] []
theorem run_V66 (N x):runF A_V66 N Tryz.f35 S_V66 x=V66 x.1:=by kernel_rfl
theorem ok_V66:OK 35 S_V66:=gdR (A:=A_V66) tc Tryz.func35 (jed ⟨ok_V65,trivial⟩) (run_V66 big)
def wls (rec:T98) (k:Y2→Y4→Int→Int→Z2) (a1:Y2) (a3:Y4) (a4 a5 a6:Int):Z2 :=
  cond (decide (a6<(a1.1.length:Int)))
  ((V17 big a1 a6 a4).bind fun rq1 =>
  cond rq1.1
  (rec a1 a3 a4 (IntKind.i64.wrap (a5+1)) (IntKind.i64.wrap (a6+1)))
  (rec a1 a3 a4 a5 (IntKind.i64.wrap (a6+1))))
  (k a1 a3 a4 a5)
def whi (rec:T109) (a1:Y2) (a3:Y4) (a4 a5:Int):Z2 :=
  cond (decide (a5=1))
  ((appI a3 [a4]).bind fun xq2 =>
  rec a1 xq2 (IntKind.i64.wrap (a4+1)))
  (rec a1 a3 (IntKind.i64.wrap (a4+1)))
def whj (L7:T98) (k:T14) (a1:Y2) (a3:Y4) (a4:Int):Z2 :=
  cond (decide (a4<(a1.1.length:Int)))
  (L7 a1 a3 a4 0 0)
  (k a3)
def z7 (a3:Y4):Z2 :=
  some (a3,(()))
def xbu (L3:T109) (p_0:Y2):Z2 :=
  L3 p_0 [] 0
def w1r (N:Nat) (k:Y2→Y4→Int→Int→Z2):=itN (fun r=>wls r k) fun _ _ _ _ _=>none
def wlq (N:Nat) (rec:T109) (k:T14):=w1r N (whi rec) N
def w1q (N:Nat) (k:T14):=itN (fun r=>whj (wlq N r k) k) fun _ _ _=>none
def w1p (N:Nat):=w1q N (z7) N
def V67 (N:Nat) (p_0:Y2):Z2:=xbu (w1p N) p_0
def S_V67:Sig:=⟨Q18,[0],[],.unit,Q3,O2,fun x=>V67 big x.1⟩
def A_V67:Cfg:=mkCfg tab [(95,S_V17)] [(6,[D0,B6,D0,B1,B0]),(14,[D0,B6,D0,B1,B0,B0,B0]),(27,(dr 3 [B1])),(23,[D0,B6,D0,B1,B0,B0])]
noncomputable def wde (N n:Nat) (K:T13) (a1:Y2) (a3:Y4) (a4:Int):Z2:=itr A_V67 N 6 Tryz.f57 [1,1,0,1,0,0] n ([.u,W6 a1,.u,W1 a3,W0 a4]++us 30) K
noncomputable def wlr (N n:Nat) (K:T13) (a1:Y2) (a3:Y4) (a4 a5 a6:Int):Z2:=itr A_V67 N 14 Tryz.f57 [1,1,0,1,0,0,1,0,0,1,0,1,0,0] n ([.u,W6 a1,.u,W1 a3,W0 a4,W0 a5,W0 a6]++us 28) K
noncomputable def wxr:Ex→St→Z2:=finish A_V67 S_V67 Tryz.f57.results.toList
noncomputable def wsy (kX:T4) (a3:Y4):Z2:=kX ((ud 3 [W1 a3])++us 31)
noncomputable def whh (kX:T4) (kO:T3):=exK wxr 0 (A_V67.shape 27) kX kO
noncomputable def xjj (kX:T4) (a1:Y2) (a3:Y4) (a4 a5:Int):Z2:=kX ([.u,W6 a1,.u,W1 a3,W0 a4,W0 a5]++us 29)
noncomputable def xji (kX:T4) (kO:T3):=exK wxr 2 (A_V67.shape 23) kX kO
theorem xjl (N kX kO):∀n,wlr N n (xji kX kO)=w1r N (xjj kX) n :=
 itE rfl fun m=>by kernel_rfl
noncomputable def wsx (N m:Nat) (kX:T4) (kO:T3):=(blockK 2 (sqK A_V67 N 23 500011 Tryz.f57 [1,1,0,1,0,0,1,0,0,1,1] (blockK 1 (sqK A_V67 N 9 500004 Tryz.f57 [1,1,0,1,0,0,1,1] (itK A_V67 N 6 Tryz.f57 [1,1,0,1,0,0] m (whh kX kO))))))
noncomputable def xjn (N m:Nat) (kX:T4) (kO:T3) (st':St):Z2:=rn A_V67 N Tryz.f57 [1,1,0,1,0,0,1,0,0,1,1] st' (blockK 1 (sqK A_V67 N 9 500004 Tryz.f57 [1,1,0,1,0,0,1,1] (itK A_V67 N 6 Tryz.f57 [1,1,0,1,0,0] m (whh kX kO))))
theorem xtq (N m kX kO) {r}(h:wde N m (whh kX kO)=r):wlr N N (wsx N m kX kO)=wlq N r (wsy kX):=by
 rw[show wlr N N (wsx N m kX kO)=wlr N N (xji (xjn N m kX kO) fun j=>(wsx N m kX kO) (.exit j)) from(by funext _ _ _ _ _;exact jk7),xjl,show xjj (xjn N m kX kO)=whi (wde N m (whh kX kO)) by kernel_rfl,h];rfl
theorem xjk (N kX kO):∀n,wde N n (whh kX kO)=w1q N (wsy kX) n :=
 itE rfl fun m=>(show _=whj (wlr N N (wsx N m kX kO)) (wsy kX) by kernel_rfl).trans (by rw[xtq N m kX kO rfl]<;>rfl)
noncomputable def wsw (N:Nat):=(blockK 0 (sqK A_V67 N 27 500013 Tryz.f57 [1,1,1] wxr))
noncomputable def xjm (N:Nat) (st':St):Z2:=rn A_V67 N Tryz.f57 [1,1,1] st' wxr
theorem xtp (N):wde N N (wsw N)=w1p N:=by
 rw[show wde N N (wsw N)=wde N N (whh (xjm N) fun j=>(wsw N) (.exit j)) from(by funext _ _ _;exact jk7),xjk,show wsy (xjm N)=z7 by kernel_rfl];rfl
theorem run_V67 (N x):runF A_V67 N Tryz.f57 S_V67 x=V67 N x.1:=(show _=(xbu (wde N N (wsw N)) x.1) by kernel_rfl).trans (by rw[xtp N];rfl)
theorem ok_V67:OK 57 S_V67:=gdR (A:=A_V67) tc Tryz.func57 (jed ⟨ok_V17,trivial⟩) (run_V67 big)
def wlv (rec:T50) (k:T16) (a1:Y2) (a2:Y7) (a3:Int) (a4:Y2) (a5 a6:Y6) (a7 a8:Int):Z17 :=
  cond (decide (a8<a3))
  ((V64 big a1 [a7,a8]).bind fun rq2 =>
  (appI a5.2.1 [rq2.1]).bind fun xq3 =>
  (V64 big a4 [a7,a8]).bind fun rq4 =>
  (appI a6.2.1 [rq4.1]).bind fun xq5 =>
  rec a1 a2 a3 a4 ((a5.1,((),a5.2.2)).1,(xq3,((a5.1,((),a5.2.2)).2).2)) ((a6.1,((),a6.2.2)).1,(xq5,((a6.1,((),a6.2.2)).2).2)) a7 (IntKind.i64.wrap (a8+1)))
  (k a1 a2 a3 a4 a5 a6 a7)
def whl (rec:T16) (a1:Y2) (a2:Y7) (a3:Int) (a4:Y2) (a5 a6:Y6) (a7:Int):Z17 :=
  rec a1 a2 a3 a4 a5 a6 (IntKind.i64.wrap (a7+1))
def whm (L8:T50) (k:T120) (a1:Y2) (a2:Y7) (a3:Int) (a4:Y2) (a5 a6:Y6) (a7:Int):Z17 :=
  cond (decide (a7<a3))
  (L8 a1 a2 a3 a4 a5 a6 a7 0)
  (k a2 a3 a5 a6)
def z8 (a2:Y7) (a3:Int) (a5 a6:Y6):Z17 :=
  some ((a3,([a5,a6],())),(()))
def xbv (L5:T16) (p_0:Y2):Z17 :=
  (V63 big p_0).bind fun rq1 =>
  L5 p_0 (0,(([]:Z21),())) (p_0.1.length:Int) rq1.1 (2,(([]:Y4),())) (2,(([]:Y4),())) 0
def w1u (N:Nat) (k:T16):=itN (fun r=>wlv r k) fun _ _ _ _ _ _ _ _=>none
def wlt (N:Nat) (rec:T16) (k:T120):=w1u N (whl rec) N
def w1t (N:Nat) (k:T120):=itN (fun r=>whm (wlt N r k) k) fun _ _ _ _ _ _ _=>none
def w1s (N:Nat):=w1t N (z8) N
def V68 (N:Nat) (p_0:Y2):Z17:=xbv (w1s N) p_0
def S_V68:Sig:=⟨Q18,[0],[],.unit,Q1,.i,fun x=>V68 big x.1⟩
def A_V68:Cfg:=mkCfg tab [(74,S_V63),(75,S_V64)] [(10,[D0,B6,.as Q17 (.o O23),B0,B3,.as Q20 O12,.as Q20 O12,B0]),(16,[D0,B6,.as Q17 (.o O23),B0,B3,.as Q20 O12,.as Q20 O12,B0,B0]),(25,[D0,D0,.as Q17 (.o O23),B0,D0,.as Q20 O12,.as Q20 O12]),(13,[D0,B6,.as Q17 (.o O23),B0,B3,.as Q20 O12,.as Q20 O12,B0])]
noncomputable def wdf (N n:Nat) (K:Ex→St→Z17) (a1:Y2) (a2:Y7) (a3:Int) (a4:Y2) (a5 a6:Y6) (a7:Int):Z17:=itr A_V68 N 10 Tryz.f40 [1,1,1,1,0,1,0,0] n ([.u,W6 a1,.val Q17 (.o O23) a2,W0 a3,W3 a4,.val Q20 O12 a5,.val Q20 O12 a6,W0 a7]++us 43) K
noncomputable def wlu (N n:Nat) (K:Ex→St→Z17) (a1:Y2) (a2:Y7) (a3:Int) (a4:Y2) (a5 a6:Y6) (a7 a8:Int):Z17:=itr A_V68 N 16 Tryz.f40 [1,1,1,1,0,1,0,0,1,0,0,1,0,0] n ([.u,W6 a1,.val Q17 (.o O23) a2,W0 a3,W3 a4,.val Q20 O12 a5,.val Q20 O12 a6,W0 a7,W0 a8]++us 42) K
noncomputable def wxs:Ex→St→Z17:=finish A_V68 S_V68 Tryz.f40.results.toList
noncomputable def ws1 (kX:St→Z17) (a2:Y7) (a3:Int) (a5 a6:Y6):Z17:=kX ([.u,.u,.val Q17 (.o O23) a2,W0 a3,.u,.val Q20 O12 a5,.val Q20 O12 a6]++us 44)
noncomputable def whk (kX:St→Z17) (kO:Nat→St→Z17):=exK wxs 0 (A_V68.shape 25) kX kO
noncomputable def xjp (kX:St→Z17) (a1:Y2) (a2:Y7) (a3:Int) (a4:Y2) (a5 a6:Y6) (a7:Int):Z17:=kX ([.u,W6 a1,.val Q17 (.o O23) a2,W0 a3,W3 a4,.val Q20 O12 a5,.val Q20 O12 a6,W0 a7]++us 43)
noncomputable def xjo (kX:St→Z17) (kO:Nat→St→Z17):=exK wxs 2 (A_V68.shape 13) kX kO
theorem xjr (N kX kO):∀n,wlu N n (xjo kX kO)=w1u N (xjp kX) n :=
 itE rfl fun m=>by kernel_rfl
noncomputable def ws0 (N m:Nat) (kX:St→Z17) (kO:Nat→St→Z17):=(blockK 2 (blockK 1 (sqK A_V68 N 13 500006 Tryz.f40 [1,1,1,1,0,1,0,0,1,1] (itK A_V68 N 10 Tryz.f40 [1,1,1,1,0,1,0,0] m (whk kX kO)))))
noncomputable def xjt (N m:Nat) (kX:St→Z17) (kO:Nat→St→Z17) (st':St):Z17:=rn A_V68 N Tryz.f40 [1,1,1,1,0,1,0,0,1,1] st' (itK A_V68 N 10 Tryz.f40 [1,1,1,1,0,1,0,0] m (whk kX kO))
theorem xts (N m kX kO) {r}(h:wdf N m (whk kX kO)=r):wlu N N (ws0 N m kX kO)=wlt N r (ws1 kX):=by
 rw[show wlu N N (ws0 N m kX kO)=wlu N N (xjo (xjt N m kX kO) fun j=>(ws0 N m kX kO) (.exit j)) from(by funext _ _ _ _ _ _ _ _;exact jk7),xjr,show xjp (xjt N m kX kO)=whl (wdf N m (whk kX kO)) by kernel_rfl,h];rfl
theorem xjq (N kX kO):∀n,wdf N n (whk kX kO)=w1t N (ws1 kX) n :=
 itE rfl fun m=>(show _=whm (wlu N N (ws0 N m kX kO)) (ws1 kX) by kernel_rfl).trans (by rw[xts N m kX kO rfl]<;>rfl)
noncomputable def wsz (N:Nat):=(blockK 0 (sqK A_V68 N 25 500012 Tryz.f40 [1,1,1,1,1] wxs))
noncomputable def xjs (N:Nat) (st':St):Z17:=rn A_V68 N Tryz.f40 [1,1,1,1,1] st' wxs
theorem xtr (N):wdf N N (wsz N)=w1s N:=by
 rw[show wdf N N (wsz N)=wdf N N (whk (xjs N) fun j=>(wsz N) (.exit j)) from(by funext _ _ _ _ _ _ _;exact jk7),xjq,show ws1 (xjs N)=z8 by kernel_rfl];rfl
theorem run_V68 (N x):runF A_V68 N Tryz.f40 S_V68 x=V68 N x.1:=(show _=(xbv (wdf N N (wsz N)) x.1) by kernel_rfl).trans (by rw[xtr N];rfl)
theorem ok_V68:OK 40 S_V68:=gdR (A:=A_V68) tc Tryz.func40 (jed ⟨ok_V63,ok_V64,trivial⟩) (run_V68 big)
def wlx (rec:T135) (k:Int→Z5) (a1:Int) (a2:Y2) (a5:Int):Z5 :=
  (V17 big a2 a5 a1).bind fun rq1 =>
  cond (!rq1.1)
  (rec a1 a2 (IntKind.i64.wrap (a5+1)))
  (k a5)
def whn (a5:Int):Z5 :=
  some (a5,(()))
def xbw (L2:T135) (p_0:Y2) (j_1:Int):Z5 :=
  L2 j_1 p_0 0
def w1w (N:Nat) (k:Int→Z5):=itN (fun r=>wlx r k) fun _ _ _=>none
def w1v (N:Nat):=w1w N (whn) N
def V69 (N:Nat) (p_0:Y2) (j_1:Int):Z5:=xbw (w1v N) p_0 j_1
def S_V69:Sig:=⟨(.pair Q0 Q15),[0,0],[],.unit,I,.i,fun x=>V69 big x.1 x.2.1⟩
def A_V69:Cfg:=mkCfg tab [(95,S_V17)] [(4,[D0,B0,B6,D0,D0,B0]),(9,(dr 5 [B0]))]
noncomputable def wlw (N n:Nat) (K:T87) (a1:Int) (a2:Y2) (a5:Int):Z5:=itr A_V69 N 4 Tryz.f98 [1,1,0,0,0] n ([.u,W0 a1,W6 a2,.u,.u,W0 a5]++us 8) K
noncomputable def xbx:Ex→St→Z5:=finish A_V69 S_V69 Tryz.f98.results.toList
noncomputable def xjv (kX:T56) (a5:Int):Z5:=kX ((ud 5 [W0 a5])++us 8)
noncomputable def xju (kX:T56) (kO:T47):=exK xbx 0 (A_V69.shape 9) kX kO
theorem xjw (N kX kO):∀n,wlw N n (xju kX kO)=w1w N (xjv kX) n :=
 itE rfl fun m=>by kernel_rfl
noncomputable def ws2 (N:Nat):=(blockK 0 (sqK A_V69 N 9 500004 Tryz.f98 [1,1,1] xbx))
noncomputable def xjx (N:Nat) (st':St):Z5:=rn A_V69 N Tryz.f98 [1,1,1] st' xbx
theorem xtt (N):wlw N N (ws2 N)=w1v N:=by
 rw[show wlw N N (ws2 N)=wlw N N (xju (xjx N) fun j=>(ws2 N) (.exit j)) from(by funext _ _ _;exact jk7),xjw,show xjv (xjx N)=whn by kernel_rfl];rfl
theorem run_V69 (N x):runF A_V69 N Tryz.f98 S_V69 x=V69 N x.1 x.2.1:=(show _=(xbw (wlw N N (ws2 N)) x.1 x.2.1) by kernel_rfl).trans (by rw[xtt N];rfl)
theorem ok_V69:OK 98 S_V69:=gdR (A:=A_V69) tc Tryz.func98 (jed ⟨ok_V17,trivial⟩) (run_V69 big)
def wlz (rec:T67) (k:T14) (a0:Int) (a3:Y4) (a4:Int):Z2 :=
  cond (decide (a4<a0))
  ((appI a3 [a4]).bind fun xq1 =>
  rec a0 xq1 (IntKind.i64.wrap (a4+1)))
  (k a3)
def who (a3:Y4):Z2 :=
  some (a3,(()))
def xby (L3:T67) (n_0:Int):Z2 :=
  L3 n_0 [] 0
def w1y (N:Nat) (k:T14):=itN (fun r=>wlz r k) fun _ _ _=>none
def w1x (N:Nat):=w1y N (who) N
def V70 (N:Nat) (n_0:Int):Z2:=xby (w1x N) n_0
def S_V70:Sig:=⟨Q15,[0],[],.unit,Q3,O2,fun x=>V70 big x.1⟩
def A_V70:Cfg:=mkCfg tab [] [(6,[B0,D0,D0,B1,B0]),(13,(dr 3 [B1]))]
noncomputable def wly (N n:Nat) (K:T13) (a0:Int) (a3:Y4) (a4:Int):Z2:=itr A_V70 N 6 Tryz.f120 [1,1,0,1,0,0] n ([W0 a0,.u,.u,W1 a3,W0 a4]++us 11) K
noncomputable def xbz:Ex→St→Z2:=finish A_V70 S_V70 Tryz.f120.results.toList
noncomputable def xjz (kX:T4) (a3:Y4):Z2:=kX ((ud 3 [W1 a3])++us 12)
noncomputable def xjy (kX:T4) (kO:T3):=exK xbz 0 (A_V70.shape 13) kX kO
theorem xj0 (N kX kO):∀n,wly N n (xjy kX kO)=w1y N (xjz kX) n :=
 itE rfl fun m=>by kernel_rfl
noncomputable def ws3 (N:Nat):=(blockK 0 (sqK A_V70 N 13 500006 Tryz.f120 [1,1,1] xbz))
noncomputable def xj1 (N:Nat) (st':St):Z2:=rn A_V70 N Tryz.f120 [1,1,1] st' xbz
theorem xtu (N):wly N N (ws3 N)=w1x N:=by
 rw[show wly N N (ws3 N)=wly N N (xjy (xj1 N) fun j=>(ws3 N) (.exit j)) from(by funext _ _ _;exact jk7),xj0,show xjz (xj1 N)=who by kernel_rfl];rfl
theorem run_V70 (N x):runF A_V70 N Tryz.f120 S_V70 x=V70 N x.1:=(show _=(xby (wly N N (ws3 N)) x.1) by kernel_rfl).trans (by rw[xtu N];rfl)
theorem ok_V70:OK 120 S_V70:=gdR (A:=A_V70) tc Tryz.func120 (jed trivial) (run_V70 big)
def xp9 (a_0 b_1:Int):Z5 :=
  cond (decide (a_0<b_1))
  (some (a_0,(())))
  (some (b_1,(())))
def V71 (a_0 b_1:Int):Z5:=xp9 a_0 b_1
def S_V71:Sig:=⟨Q22,[0,0],[],.unit,I,.i,fun x=>V71 x.1 x.2.1⟩
def A_V71:Cfg:=mkCfg tab [] []
theorem run_V71 (N x):runF A_V71 N Tryz.f158 S_V71 x=V71 x.1 x.2.1:=by kernel_rfl
theorem ok_V71:OK 158 S_V71:=gdR (A:=A_V71) tc Tryz.func158 (jed trivial) (run_V71 big)
def xqa (a_0 b_1:Int):Z5 :=
  cond (decide (b_1<a_0))
  (some (a_0,(())))
  (some (b_1,(())))
def V72 (a_0 b_1:Int):Z5:=xqa a_0 b_1
def S_V72:Sig:=⟨Q22,[0,0],[],.unit,I,.i,fun x=>V72 x.1 x.2.1⟩
def A_V72:Cfg:=mkCfg tab [] []
theorem run_V72 (N x):runF A_V72 N Tryz.f159 S_V72 x=V72 x.1 x.2.1:=by kernel_rfl
theorem ok_V72:OK 159 S_V72:=gdR (A:=A_V72) tc Tryz.func159 (jed trivial) (run_V72 big)
def wl1 (rec:T99) (k:T14) (a0:Y4) (a7 a8:Int) (a9:Y4) (a10:Int):Z2 :=
  cond (decide (a10<(a0.length:Int)))
  ((atI a0 a10).bind fun xq7 =>
  cond (decide (xq7=a8))
  ((appI a9 [a7]).bind fun xq8 =>
  rec a0 a7 a8 xq8 (IntKind.i64.wrap (a10+1)))
  ((atI a0 a10).bind fun xq9 =>
  (appI a9 [xq9]).bind fun xq10 =>
  rec a0 a7 a8 xq10 (IntKind.i64.wrap (a10+1))))
  (k a9)
def whp (a9:Y4):Z2 :=
  some (a9,(()))
def xb0 (L4:T99) (p_0:Y4) (x_1 y_2:Int):Z2 :=
  (atI p_0 x_1).bind fun xq1 =>
  (atI p_0 y_2).bind fun xq2 =>
  (V71 xq1 xq2).bind fun rq3 =>
  (atI p_0 x_1).bind fun xq4 =>
  (atI p_0 y_2).bind fun xq5 =>
  (V72 xq4 xq5).bind fun rq6 =>
  L4 p_0 rq3.1 rq6.1 [] 0
def w10 (N:Nat) (k:T14):=itN (fun r=>wl1 r k) fun _ _ _ _ _=>none
def w1z (N:Nat):=w10 N (whp) N
def V73 (N:Nat) (p_0:Y4) (x_1 y_2:Int):Z2:=xb0 (w1z N) p_0 x_1 y_2
def S_V73:Sig:=⟨(.pair Q3 Q22),[0,0,0],[],.unit,Q3,O2,fun x=>V73 big x.1 x.2.1 x.2.2.1⟩
def A_V73:Cfg:=mkCfg tab [(158,S_V71),(159,S_V72)] [(8,([B2]++dr 6 [B0,B0,B1,B0])),(19,(dr 9 [B1]))]
noncomputable def wl0 (N n:Nat) (K:T13) (a0:Y4) (a7 a8:Int) (a9:Y4) (a10:Int):Z2:=itr A_V73 N 8 Tryz.f133 [1,1,1,0,1,0,0] n (([W2 a0]++ud 6 [W0 a7,W0 a8,W1 a9,W0 a10])++us 43) K
noncomputable def xb1:Ex→St→Z2:=finish A_V73 S_V73 Tryz.f133.results.toList
noncomputable def xj3 (kX:T4) (a9:Y4):Z2:=kX ((ud 9 [W1 a9])++us 44)
noncomputable def xj2 (kX:T4) (kO:T3):=exK xb1 0 (A_V73.shape 19) kX kO
theorem xj4 (N kX kO):∀n,wl0 N n (xj2 kX kO)=w10 N (xj3 kX) n :=
 itE rfl fun m=>by kernel_rfl
noncomputable def ws4 (N:Nat):=(blockK 0 (sqK A_V73 N 19 500009 Tryz.f133 [1,1,1,1] xb1))
noncomputable def xj5 (N:Nat) (st':St):Z2:=rn A_V73 N Tryz.f133 [1,1,1,1] st' xb1
theorem xtv (N):wl0 N N (ws4 N)=w1z N:=by
 rw[show wl0 N N (ws4 N)=wl0 N N (xj2 (xj5 N) fun j=>(ws4 N) (.exit j)) from(by funext _ _ _ _ _;exact jk7),xj4,show xj3 (xj5 N)=whp by kernel_rfl];rfl
theorem run_V73 (N x):runF A_V73 N Tryz.f133 S_V73 x=V73 N x.1 x.2.1 x.2.2.1:=(show _=(xb0 (wl0 N N (ws4 N)) x.1 x.2.1 x.2.2.1) by kernel_rfl).trans (by rw[xtv N];rfl)
theorem ok_V73:OK 133 S_V73:=gdR (A:=A_V73) tc Tryz.func133 (jed ⟨ok_V71,ok_V72,trivial⟩) (run_V73 big)
def wxt (l_0:Y4):Z2 :=
  (appI [] l_0).bind fun xq1 =>
  some (xq1,(()))
def V74 (l_0:Y4):Z2:=wxt l_0
def S_V74:Sig:=⟨Q14,[0],[],.unit,Q3,O2,fun x=>V74 x.1⟩
def A_V74:Cfg:=mkCfg tab [] []
theorem run_V74 (N x):runF A_V74 N Tryz.f132 S_V74 x=V74 x.1:=by kernel_rfl
theorem ok_V74:OK 132 S_V74:=gdR (A:=A_V74) tc Tryz.func132 (jed trivial) (run_V74 big)
def wl4 (rec:T139) (k:T14) (a0 a2:Int) (a7:Y4) (a8:Int):Z2 :=
  cond (decide (0≤a8))
  ((remI a2 a0).bind fun xq3 =>
  (atI a7 a8).bind fun _ =>
  (a7[a8.toNat]?).bind fun xq4 =>
  (quoI IntKind.i64 a2 a0).bind fun xq5 =>
  rec a0 xq5 (a7.set a8.toNat xq3) (IntKind.i64.wrap (a8-1)))
  (k a7)
def wl3 (a7:Y4):Z2 :=
  some (a7,(()))
def xb2 (L3:T139) (n_0 arity_1 at_2:Int):Z2 :=
  (mkI (0:Int) arity_1).bind fun xq1=>(mkI (0:Int) arity_1).bind fun xq2=>cond (decide (arity_1≤arity_1))
  (L3 n_0 at_2 xq2 (IntKind.i64.wrap (arity_1-1)))
  none
def w12 (N:Nat) (k:T14):=itN (fun r=>wl4 r k) fun _ _ _ _=>none
def w11 (N:Nat):=w12 N (wl3) N
def V75 (N:Nat) (n_0 arity_1 at_2:Int):Z2:=xb2 (w11 N) n_0 arity_1 at_2
def S_V75:Sig:=⟨(.pair I Q22),[0,0,0],[],.unit,Q3,O2,fun x=>V75 big x.1 x.2.1 x.2.2.1⟩
def A_V75:Cfg:=mkCfg tab [] [(6,([B0,D0,B0]++dr 4 [B1,B0])),(15,(dr 7 [B1]))]
noncomputable def wl2 (N n:Nat) (K:T13) (a0 a2:Int) (a7:Y4) (a8:Int):Z2:=itr A_V75 N 6 Tryz.f164 [1,1,0,1,0,0] n (([W0 a0,.u,W0 a2]++ud 4 [W1 a7,W0 a8])++us 18) K
noncomputable def xb3:Ex→St→Z2:=finish A_V75 S_V75 Tryz.f164.results.toList
noncomputable def xj7 (kX:T4) (a7:Y4):Z2:=kX ((ud 7 [W1 a7])++us 19)
noncomputable def xj6 (kX:T4) (kO:T3):=exK xb3 0 (A_V75.shape 15) kX kO
theorem xj8 (N kX kO):∀n,wl2 N n (xj6 kX kO)=w12 N (xj7 kX) n :=
 itE rfl fun m=>by kernel_rfl
noncomputable def ws5 (N:Nat):=(blockK 0 (sqK A_V75 N 15 500007 Tryz.f164 [1,1,1] xb3))
noncomputable def xj9 (N:Nat) (st':St):Z2:=rn A_V75 N Tryz.f164 [1,1,1] st' xb3
theorem xtw (N):wl2 N N (ws5 N)=w11 N:=by
 rw[show wl2 N N (ws5 N)=wl2 N N (xj6 (xj9 N) fun j=>(ws5 N) (.exit j)) from(by funext _ _ _ _;exact jk7),xj8,show xj7 (xj9 N)=wl3 by kernel_rfl];rfl
theorem run_V75 (N x):runF A_V75 N Tryz.f164 S_V75 x=V75 N x.1 x.2.1 x.2.2.1:=(show _=(xb2 (wl2 N N (ws5 N)) x.1 x.2.1 x.2.2.1) by kernel_rfl).trans (by rw[xtw N];rfl)
theorem ok_V75:OK 164 S_V75:=gdR (A:=A_V75) tc Tryz.func164 (jed trivial) (run_V75 big)
def wl6 (rec:T100) (k:Int→Y7→Int→Z5) (a1:Int) (a2:Y4) (a3:Y7) (a7 a8:Int):Z5 :=
  cond (decide (a8<(a2.length:Int)))
  ((atI a2 a8).bind fun xq1 =>
  rec a1 a2 a3 (IntKind.i64.wrap ((IntKind.i64.wrap (a7*a3.1))+xq1)) (IntKind.i64.wrap (a8+1)))
  (k a1 a3 a7)
def whq (a1:Int) (a3:Y7) (a7:Int):Z5 :=
  (atI a3.2.1 a1).bind fun xq2 =>
  (atI xq2.2.1 a7).bind fun xq3 =>
  some (xq3,(()))
def xb4 (L3:T100) (a_0:Y7) (op_1:Int) (args_2:Y4):Z5 :=
  L3 op_1 args_2 a_0 0 0
def w14 (N:Nat) (k:Int→Y7→Int→Z5):=itN (fun r=>wl6 r k) fun _ _ _ _ _=>none
def w13 (N:Nat):=w14 N (whq) N
def V76 (N:Nat) (a_0:Y7) (op_1:Int) (args_2:Y4):Z5:=xb4 (w13 N) a_0 op_1 args_2
def S_V76:Sig:=⟨(.pair Q1 Q9),[0,0,0],[],.unit,I,.i,fun x=>V76 big x.1 x.2.1 x.2.2.1⟩
def A_V76:Cfg:=mkCfg tab [] [(6,([D0,B0,B2,B9]++dr 3 [B0,B0])),(13,([D0,B0,D0,B9]++dr 3 [B0]))]
noncomputable def wl5 (N n:Nat) (K:T87) (a1:Int) (a2:Y4) (a3:Y7) (a7 a8:Int):Z5:=itr A_V76 N 6 Tryz.f165 [1,1,0,1,0,0] n (([.u,W0 a1,W2 a2,W9 a3]++ud 3 [W0 a7,W0 a8])++us 24) K
noncomputable def xb5:Ex→St→Z5:=finish A_V76 S_V76 Tryz.f165.results.toList
noncomputable def xkb (kX:T56) (a1:Int) (a3:Y7) (a7:Int):Z5:=kX (([.u,W0 a1,.u,W9 a3]++ud 3 [W0 a7])++us 25)
noncomputable def xka (kX:T56) (kO:T47):=exK xb5 0 (A_V76.shape 13) kX kO
theorem xkc (N kX kO):∀n,wl5 N n (xka kX kO)=w14 N (xkb kX) n :=
 itE rfl fun m=>by kernel_rfl
noncomputable def ws6 (N:Nat):=(blockK 0 (sqK A_V76 N 13 500006 Tryz.f165 [1,1,1] xb5))
noncomputable def xkd (N:Nat) (st':St):Z5:=rn A_V76 N Tryz.f165 [1,1,1] st' xb5
theorem xtx (N):wl5 N N (ws6 N)=w13 N:=by
 rw[show wl5 N N (ws6 N)=wl5 N N (xka (xkd N) fun j=>(ws6 N) (.exit j)) from(by funext _ _ _ _ _;exact jk7),xkc,show xkb (xkd N)=whq by kernel_rfl];rfl
theorem run_V76 (N x):runF A_V76 N Tryz.f165 S_V76 x=V76 N x.1 x.2.1 x.2.2.1:=(show _=(xb4 (wl5 N N (ws6 N)) x.1 x.2.1 x.2.2.1) by kernel_rfl).trans (by rw[xtx N];rfl)
theorem ok_V76:OK 165 S_V76:=gdR (A:=A_V76) tc Tryz.func165 (jed trivial) (run_V76 big)
def whv (rec:T65) (k:T33) (a1:Y4) (a2:Y7) (a5:Y4) (a6 a7:Int) (a8:Y4) (a9:Int):Z2 :=
  cond (decide (a9<(a8.length:Int)))
  ((V74 a8).bind fun rq5 =>
  (atI a8 a9).bind fun _ =>
  (a8[a9.toNat]?).bind fun xq6 =>
  (atI a1 xq6).bind fun xq7 =>
  (atI rq5.1 a9).bind fun _ =>
  (rq5.1[a9.toNat]?).bind fun xq8 =>
  (atI a2.2.1 a6).bind fun xq9 =>
  (atI xq9.2.1 a7).bind fun xq10 =>
  (V76 big a2 a6 (rq5.1.set a9.toNat xq7)).bind fun rq11 =>
  (V73 big a5 xq10 rq11.1).bind fun rq12 =>
  rec a1 a2 rq12.1 a6 a7 a8 (IntKind.i64.wrap (a9+1)))
  (k a1 a2 a5 a6 a7)
def wb5 (rec:T33) (a1:Y4) (a2:Y7) (a5:Y4) (a6 a7:Int):Z2 :=
  rec a1 a2 a5 a6 (IntKind.i64.wrap (a7+1))
def whx (L10:T65) (k:T34) (a1:Y4) (a2:Y7) (a5:Y4) (a6 a7:Int):Z2 :=
  (atI a2.2.1 a6).bind fun xq2 =>
  cond (decide (a7<(xq2.2.1.length:Int)))
  ((atI a2.2.1 a6).bind fun xq3 =>
  (V75 big a2.1 xq3.1 a7).bind fun rq4 =>
  L10 a1 a2 a5 a6 a7 rq4.1 0)
  (k a1 a2 a5 a6)
def waa (rec:T34) (a1:Y4) (a2:Y7) (a5:Y4) (a6:Int):Z2 :=
  rec a1 a2 a5 (IntKind.i64.wrap (a6+1))
def whw (L6:T33) (k:T14) (a1:Y4) (a2:Y7) (a5:Y4) (a6:Int):Z2 :=
  cond (decide (a6<(a2.2.1.length:Int)))
  (L6 a1 a2 a5 a6 0)
  (k a5)
def z9 (a5:Y4):Z2 :=
  some (a5,(()))
def xb7 (L3:T34) (a_0:Y7) (p_1:Y4):Z2 :=
  (V74 p_1).bind fun rq1 =>
  L3 p_1 a_0 rq1.1 0
def wv9 (N:Nat) (k:T33):=itN (fun r=>whv r k) fun _ _ _ _ _ _ _=>none
def wht (N:Nat) (rec:T33) (k:T34):=wv9 N (wb5 rec) N
def w17 (N:Nat) (k:T34):=itN (fun r=>whx (wht N r k) k) fun _ _ _ _ _=>none
def wl7 (N:Nat) (rec:T34) (k:T14):=w17 N (waa rec) N
def w16 (N:Nat) (k:T14):=itN (fun r=>whw (wl7 N r k) k) fun _ _ _ _=>none
def w15 (N:Nat):=w16 N (z9) N
def V77 (N:Nat) (a_0:Y7) (p_1:Y4):Z2:=xb7 (w15 N) a_0 p_1
def S_V77:Sig:=⟨(.pair Q1 Q14),[0,0],[],.unit,Q3,O2,fun x=>V77 big x.1 x.2.1⟩
def A_V77:Cfg:=mkCfg tab [(132,S_V74),(164,S_V75),(165,S_V76),(133,S_V73)] [(6,[D0,B2,B9,D0,D0,B1,B0]),(12,[D0,B2,B9,D0,D0,B1,B0,B0]),(31,(dr 5 [B1])),(20,[D0,B2,B9,D0,D0,B1,B0,B0,B1,B0]),(9,[D0,B2,B9,D0,D0,B1,B0]),(15,[D0,B2,B9,D0,D0,B1,B0,B0])]
noncomputable def wdg (N n:Nat) (K:T13) (a1:Y4) (a2:Y7) (a5:Y4) (a6:Int):Z2:=itr A_V77 N 6 Tryz.f160 [1,1,0,1,0,0] n ([.u,W2 a1,W9 a2,.u,.u,W1 a5,W0 a6]++us 68) K
noncomputable def wdh (N n:Nat) (K:T13) (a1:Y4) (a2:Y7) (a5:Y4) (a6 a7:Int):Z2:=itr A_V77 N 12 Tryz.f160 [1,1,0,1,0,0,1,0,0,1,0,0] n ([.u,W2 a1,W9 a2,.u,.u,W1 a5,W0 a6,W0 a7]++us 67) K
noncomputable def whu (N n:Nat) (K:T13) (a1:Y4) (a2:Y7) (a5:Y4) (a6 a7:Int) (a8:Y4) (a9:Int):Z2:=itr A_V77 N 20 Tryz.f160 [1,1,0,1,0,0,1,0,0,1,0,0,1,0,0,1,1,0,0] n ([.u,W2 a1,W9 a2,.u,.u,W1 a5,W0 a6,W0 a7,W1 a8,W0 a9]++us 65) K
noncomputable def wtb:Ex→St→Z2:=finish A_V77 S_V77 Tryz.f160.results.toList
noncomputable def ws9 (kX:T4) (a5:Y4):Z2:=kX ((ud 5 [W1 a5])++us 69)
noncomputable def whr (kX:T4) (kO:T3):=exK wtb 0 (A_V77.shape 31) kX kO
noncomputable def wta (kX:T4) (a1:Y4) (a2:Y7) (a5:Y4) (a6:Int):Z2:=kX ([.u,W2 a1,W9 a2,.u,.u,W1 a5,W0 a6]++us 68)
noncomputable def whs (kX:T4) (kO:T3):=exK wtb 2 (A_V77.shape 9) kX kO
noncomputable def w7u (kX:T4) (a1:Y4) (a2:Y7) (a5:Y4) (a6 a7:Int):Z2:=kX ([.u,W2 a1,W9 a2,.u,.u,W1 a5,W0 a6,W0 a7]++us 67)
noncomputable def w7t (kX:T4) (kO:T3):=exK wtb 4 (A_V77.shape 15) kX kO
theorem xb6 (N kX kO):∀n,whu N n (w7t kX kO)=wv9 N (w7u kX) n :=
 itE rfl fun m=>by kernel_rfl
noncomputable def wpb (N m:Nat) (kX:T4) (kO:T3):=(blockK 4 (blockK 3 (sqK A_V77 N 15 500007 Tryz.f160 [1,1,0,1,0,0,1,0,0,1,0,0,1,1] (itK A_V77 N 12 Tryz.f160 [1,1,0,1,0,0,1,0,0,1,0,0] m (whs kX kO)))))
noncomputable def w7v (N m:Nat) (kX:T4) (kO:T3) (st':St):Z2:=rn A_V77 N Tryz.f160 [1,1,0,1,0,0,1,0,0,1,0,0,1,1] st' (itK A_V77 N 12 Tryz.f160 [1,1,0,1,0,0,1,0,0,1,0,0] m (whs kX kO))
theorem xon (N m kX kO) {r}(h:wdh N m (whs kX kO)=r):whu N N (wpb N m kX kO)=wht N r (wta kX):=by
 rw[show whu N N (wpb N m kX kO)=whu N N (w7t (w7v N m kX kO) fun j=>(wpb N m kX kO) (.exit j)) from(by funext _ _ _ _ _ _ _;exact jk7),xb6,show w7u (w7v N m kX kO)=wb5 (wdh N m (whs kX kO)) by kernel_rfl,h];rfl
theorem xkf (N kX kO):∀n,wdh N n (whs kX kO)=w17 N (wta kX) n :=
 itE rfl fun m=>(show _=whx (whu N N (wpb N m kX kO)) (wta kX) by kernel_rfl).trans (by rw[xon N m kX kO rfl]<;>rfl)
noncomputable def ws8 (N m:Nat) (kX:T4) (kO:T3):=(blockK 2 (blockK 1 (sqK A_V77 N 9 500004 Tryz.f160 [1,1,0,1,0,0,1,1] (itK A_V77 N 6 Tryz.f160 [1,1,0,1,0,0] m (whr kX kO)))))
noncomputable def xkh (N m:Nat) (kX:T4) (kO:T3) (st':St):Z2:=rn A_V77 N Tryz.f160 [1,1,0,1,0,0,1,1] st' (itK A_V77 N 6 Tryz.f160 [1,1,0,1,0,0] m (whr kX kO))
theorem xtz (N m kX kO) {r}(h:wdg N m (whr kX kO)=r):wdh N N (ws8 N m kX kO)=wl7 N r (ws9 kX):=by
 rw[show wdh N N (ws8 N m kX kO)=wdh N N (whs (xkh N m kX kO) fun j=>(ws8 N m kX kO) (.exit j)) from(by funext _ _ _ _ _;exact jk7),xkf,show wta (xkh N m kX kO)=waa (wdg N m (whr kX kO)) by kernel_rfl,h];rfl
theorem xke (N kX kO):∀n,wdg N n (whr kX kO)=w16 N (ws9 kX) n :=
 itE rfl fun m=>(show _=whw (wdh N N (ws8 N m kX kO)) (ws9 kX) by kernel_rfl).trans (by rw[xtz N m kX kO rfl]<;>rfl)
noncomputable def ws7 (N:Nat):=(blockK 0 (sqK A_V77 N 31 500015 Tryz.f160 [1,1,1] wtb))
noncomputable def xkg (N:Nat) (st':St):Z2:=rn A_V77 N Tryz.f160 [1,1,1] st' wtb
theorem xty (N):wdg N N (ws7 N)=w15 N:=by
 rw[show wdg N N (ws7 N)=wdg N N (whr (xkg N) fun j=>(ws7 N) (.exit j)) from(by funext _ _ _ _;exact jk7),xke,show ws9 (xkg N)=z9 by kernel_rfl];rfl
theorem run_V77 (N x):runF A_V77 N Tryz.f160 S_V77 x=V77 N x.1 x.2.1:=(show _=(xb7 (wdg N N (ws7 N)) x.1 x.2.1) by kernel_rfl).trans (by rw[xty N];rfl)
theorem ok_V77:OK 160 S_V77:=gdR (A:=A_V77) tc Tryz.func160 (jed ⟨ok_V74,ok_V75,ok_V76,ok_V73,trivial⟩) (run_V77 big)
def wl9 (rec:T141) (k:T14) (a1:Y4) (a2:Y7) (a5:Int):Z2 :=
  cond (decide (a5<a2.1))
  ((V77 big a2 a1).bind fun rq1 =>
  rec rq1.1 a2 (IntKind.i64.wrap (a5+1)))
  (k a1)
def why (a1:Y4):Z2 :=
  some (a1,(()))
def xb8 (L2:T141) (a_0:Y7) (p_1:Y4):Z2 :=
  L2 p_1 a_0 0
def w19 (N:Nat) (k:T14):=itN (fun r=>wl9 r k) fun _ _ _=>none
def w18 (N:Nat):=w19 N (why) N
def V78 (N:Nat) (a_0:Y7) (p_1:Y4):Z2:=xb8 (w18 N) a_0 p_1
def S_V78:Sig:=⟨(.pair Q1 Q14),[0,0],[],.unit,Q3,.i,fun x=>V78 big x.1 x.2.1⟩
def A_V78:Cfg:=mkCfg tab [(160,S_V77)] [(4,[D0,B2,B9,D0,D0,B0]),(11,[D0,B2])]
noncomputable def wl8 (N n:Nat) (K:T13) (a1:Y4) (a2:Y7) (a5:Int):Z2:=itr A_V78 N 4 Tryz.f135 [1,0,1,0,0] n ([.u,W2 a1,W9 a2,.u,.u,W0 a5]++us 10) K
noncomputable def xb9:Ex→St→Z2:=finish A_V78 S_V78 Tryz.f135.results.toList
noncomputable def xkj (kX:T4) (a1:Y4):Z2:=kX ([.u,W2 a1]++us 14)
noncomputable def xki (kX:T4) (kO:T3):=exK xb9 0 (A_V78.shape 11) kX kO
theorem xkk (N kX kO):∀n,wl8 N n (xki kX kO)=w19 N (xkj kX) n :=
 itE rfl fun m=>by kernel_rfl
noncomputable def wtc (N:Nat):=(blockK 0 (sqK A_V78 N 11 500005 Tryz.f135 [1,1] xb9))
noncomputable def xkl (N:Nat) (st':St):Z2:=rn A_V78 N Tryz.f135 [1,1] st' xb9
theorem xt1 (N):wl8 N N (wtc N)=w18 N:=by
 rw[show wl8 N N (wtc N)=wl8 N N (xki (xkl N) fun j=>(wtc N) (.exit j)) from(by funext _ _ _;exact jk7),xkk,show xkj (xkl N)=why by kernel_rfl];rfl
theorem run_V78 (N x):runF A_V78 N Tryz.f135 S_V78 x=V78 N x.1 x.2.1:=(show _=(xb8 (wl8 N N (wtc N)) x.1 x.2.1) by kernel_rfl).trans (by rw[xt1 N];rfl)
theorem ok_V78:OK 135 S_V78:=gdR (A:=A_V78) tc Tryz.func135 (jed ⟨ok_V77,trivial⟩) (run_V78 big)
def xca (a_0:Y7) (x_1 y_2:Int):Z2 :=
  (V70 big a_0.1).bind fun rq1 =>
  (V73 big rq1.1 x_1 y_2).bind fun rq2 =>
  (V78 big a_0 rq2.1).bind fun rq3 =>
  some (rq3.1,(()))
def V79 (a_0:Y7) (x_1 y_2:Int):Z2:=xca a_0 x_1 y_2
def S_V79:Sig:=⟨(.pair Q1 Q22),[0,0,0],[],.unit,Q3,.i,fun x=>V79 x.1 x.2.1 x.2.2.1⟩
def A_V79:Cfg:=mkCfg tab [(120,S_V70),(133,S_V73),(135,S_V78)] []
theorem run_V79 (N x):runF A_V79 N Tryz.f97 S_V79 x=V79 x.1 x.2.1 x.2.2.1:=by kernel_rfl
theorem ok_V79:OK 97 S_V79:=gdR (A:=A_V79) tc Tryz.func97 (jed ⟨ok_V70,ok_V73,ok_V78,trivial⟩) (run_V79 big)
def wmb (rec:T104) (k:T14) (a1:Y4) (a2:Y2) (a5 a6:Y4) (a7:Int):Z2 :=
  cond (decide (a7<(a6.length:Int)))
  ((atI a6 a7).bind fun _ =>
  (a6[a7.toNat]?).bind fun xq2 =>
  (atI a1 xq2).bind fun xq3 =>
  (atI a6 a7).bind fun _ =>
  (a6[a7.toNat]?).bind fun xq4 =>
  (V69 big a2 xq4).bind fun rq5 =>
  (atI a1 rq5.1).bind fun xq6 =>
  cond (decide (xq3=xq6))
  ((atI a6 a7).bind fun _ =>
  (a6[a7.toNat]?).bind fun xq7 =>
  (appI a5 [xq7]).bind fun xq8 =>
  rec a1 a2 xq8 a6 (IntKind.i64.wrap (a7+1)))
  (rec a1 a2 a5 a6 (IntKind.i64.wrap (a7+1))))
  (k a5)
def whz (a5:Y4):Z2 :=
  some (a5,(()))
def xcd (L4:T104) (p_0:Y2) (c_1:Y4):Z2 :=
  (V67 big p_0).bind fun rq1 =>
  L4 c_1 p_0 [] rq1.1 0
def w2b (N:Nat) (k:T14):=itN (fun r=>wmb r k) fun _ _ _ _ _=>none
def w2a (N:Nat):=w2b N (whz) N
def V80 (N:Nat) (p_0:Y2) (c_1:Y4):Z2:=xcd (w2a N) p_0 c_1
def S_V80:Sig:=⟨(.pair Q0 Q14),[0,0],[],.unit,Q3,O2,fun x=>V80 big x.1 x.2.1⟩
def A_V80:Cfg:=mkCfg tab [(57,S_V67),(98,S_V69)] [(8,[D0,B2,B6,D0,D0,B1,B1,B0]),(17,(dr 5 [B1]))]
noncomputable def wma (N n:Nat) (K:T13) (a1:Y4) (a2:Y2) (a5 a6:Y4) (a7:Int):Z2:=itr A_V80 N 8 Tryz.f96 [1,1,1,0,1,0,0] n ([.u,W2 a1,W6 a2,.u,.u,W1 a5,W1 a6,W0 a7]++us 34) K
noncomputable def xce:Ex→St→Z2:=finish A_V80 S_V80 Tryz.f96.results.toList
noncomputable def xkn (kX:T4) (a5:Y4):Z2:=kX ((ud 5 [W1 a5])++us 36)
noncomputable def xkm (kX:T4) (kO:T3):=exK xce 0 (A_V80.shape 17) kX kO
theorem xko (N kX kO):∀n,wma N n (xkm kX kO)=w2b N (xkn kX) n :=
 itE rfl fun m=>by kernel_rfl
noncomputable def wtf (N:Nat):=(blockK 0 (sqK A_V80 N 17 500008 Tryz.f96 [1,1,1,1] xce))
noncomputable def xkp (N:Nat) (st':St):Z2:=rn A_V80 N Tryz.f96 [1,1,1,1] st' xce
theorem xt2 (N):wma N N (wtf N)=w2a N:=by
 rw[show wma N N (wtf N)=wma N N (xkm (xkp N) fun j=>(wtf N) (.exit j)) from(by funext _ _ _ _ _;exact jk7),xko,show xkn (xkp N)=whz by kernel_rfl];rfl
theorem run_V80 (N x):runF A_V80 N Tryz.f96 S_V80 x=V80 N x.1 x.2.1:=(show _=(xcd (wma N N (wtf N)) x.1 x.2.1) by kernel_rfl).trans (by rw[xt2 N];rfl)
theorem ok_V80:OK 96 S_V80:=gdR (A:=A_V80) tc Tryz.func96 (jed ⟨ok_V67,ok_V69,trivial⟩) (run_V80 big)
def xqe (p_0:Y2) (j_1:Int):Z2 :=
  (V68 big p_0).bind fun rq1 =>
  (V69 big p_0 j_1).bind fun rq2 =>
  (V79 rq1.1 rq2.1 j_1).bind fun rq3 =>
  (V80 big p_0 rq3.1).bind fun rq4 =>
  some (rq4.1,(()))
def V81 (p_0:Y2) (j_1:Int):Z2:=xqe p_0 j_1
def S_V81:Sig:=⟨(.pair Q0 Q15),[0,0],[],.unit,Q3,O2,fun x=>V81 x.1 x.2.1⟩
def A_V81:Cfg:=mkCfg tab [(40,S_V68),(98,S_V69),(97,S_V79),(96,S_V80)] []
theorem run_V81 (N x):runF A_V81 N Tryz.f58 S_V81 x=V81 x.1 x.2.1:=by kernel_rfl
theorem ok_V81:OK 58 S_V81:=gdR (A:=A_V81) tc Tryz.func58 (jed ⟨ok_V68,ok_V69,ok_V79,ok_V80,trivial⟩) (run_V81 big)
def wmd (rec:T15) (k:Z0) (a0 a1:Y4) (a5:Int):Z0 :=
  cond (decide (a5<(a0.length:Int)))
  ((atI a0 a5).bind fun xq1 =>
  (atI a1 a5).bind fun xq2 =>
  cond (decide (xq1≠xq2))
  ((atI a0 a5).bind fun xq3 =>
  (atI a1 a5).bind fun xq4 =>
  some (decide (xq3<xq4),(())))
  (rec a0 a1 (IntKind.i64.wrap (a5+1))))
  (k)
def wh0:Z0 :=
  some (false,(()))
def xcf (L2:T15) (a_0 b_1:Y4):Z0 :=
  L2 a_0 b_1 0
def w2d (N:Nat) (k:Z0):=itN (fun r=>wmd r k) fun _ _ _=>none
def w2c (N:Nat):=w2d N (wh0) N
def V82 (N:Nat) (a_0 b_1:Y4):Z0:=xcf (w2c N) a_0 b_1
def S_V82:Sig:=⟨(.pair Q3 Q14),[0,0],[],.unit,.bool,.i,fun x=>V82 big x.1 x.2.1⟩
def A_V82:Cfg:=mkCfg tab [] [(4,([B2,B2]++dr 3 [B0])),(13,[])]
noncomputable def wmc (N n:Nat) (K:T8) (a0 a1:Y4) (a5:Int):Z0:=itr A_V82 N 4 Tryz.f116 [1,0,1,0,0] n (([W2 a0,W2 a1]++ud 3 [W0 a5])++us 24) K
noncomputable def xcg:Ex→St→Z0:=finish A_V82 S_V82 Tryz.f116.results.toList
noncomputable def xkr (kX:T1):Z0:=kX ([]++us 30)
noncomputable def xkq (kX:T1) (kO:T0):=exK xcg 0 (A_V82.shape 13) kX kO
theorem xks (N kX kO):∀n,wmc N n (xkq kX kO)=w2d N (xkr kX) n :=
 itE rfl fun m=>by kernel_rfl
noncomputable def wtg (N:Nat):=(blockK 0 (sqK A_V82 N 13 500006 Tryz.f116 [1,1] xcg))
noncomputable def xkt (N:Nat) (st':St):Z0:=rn A_V82 N Tryz.f116 [1,1] st' xcg
theorem xt3 (N):wmc N N (wtg N)=w2c N:=by
 rw[show wmc N N (wtg N)=wmc N N (xkq (xkt N) fun j=>(wtg N) (.exit j)) from(by funext _ _ _;exact jk7),xks,show xkr (xkt N)=wh0 by kernel_rfl];rfl
theorem run_V82 (N x):runF A_V82 N Tryz.f116 S_V82 x=V82 N x.1 x.2.1:=(show _=(xcf (wmc N N (wtg N)) x.1 x.2.1) by kernel_rfl).trans (by rw[xt3 N];rfl)
theorem ok_V82:OK 116 S_V82:=gdR (A:=A_V82) tc Tryz.func116 (jed trivial) (run_V82 big)
def w2f (rec k:Y3→Y4→Int→Option Y2) (a0:Y3) (a1:Y4) (a5:Int):Option Y2 :=
  cond (decide (0<a5))
  ((atI a0 (IntKind.i64.wrap (a5-1))).bind fun xq1 =>
  cond (decide ((a1.length:Int)<(xq1.length:Int)))
  (rec a0 a1 (IntKind.i64.wrap (a5-1)))
  ((atI a0 (IntKind.i64.wrap (a5-1))).bind fun xq2 =>
  cond (decide ((a1.length:Int)=(xq2.length:Int)))
  ((atI a0 (IntKind.i64.wrap (a5-1))).bind fun xq3 =>
  (V82 big a1 xq3).bind fun rq4 =>
  cond rq4.1
  (rec a0 a1 (IntKind.i64.wrap (a5-1)))
  (k a0 a1 a5))
  (k a0 a1 a5)))
  (k a0 a1 a5)
def wdi (a0:Y3) (a1:Y4) (a5:Int):Option Y2 :=
  (slI a0 0 a5).bind fun xq5 =>
  (appI [] xq5).bind fun xq6 =>
  (appI xq6 [a1]).bind fun xq7 =>
  (slI a0 a5 a0.length).bind fun xq8 =>
  (appI xq7 xq8).bind fun xq9 =>
  some (xq9,(()))
def xch (L2:Y3→Y4→Int→Option Y2) (lists_0:Y3) (l_1:Y4):Option Y2 :=
  L2 lists_0 l_1 (lists_0.length:Int)
def w2g (N:Nat) (k:Y3→Y4→Int→Option Y2):=itN (fun r=>w2f r k) fun _ _ _=>none
def w2e (N:Nat):=w2g N (wdi) N
def V83 (N:Nat) (lists_0:Y3) (l_1:Y4):Option Y2:=xch (w2e N) lists_0 l_1
def S_V83:Sig:=⟨(.pair Q11 Q14),[0,0],[],.unit,Q11,.i,fun x=>V83 big x.1 x.2.1⟩
def A_V83:Cfg:=mkCfg tab [(116,S_V82)] [(4,([B4,B2]++dr 3 [B0])),(9,([B4,B2]++dr 3 [B0]))]
noncomputable def wme (N n:Nat) (K:Ex→St→Option Y2) (a0:Y3) (a1:Y4) (a5:Int):Option Y2:=itr A_V83 N 4 Tryz.f70 [1,1,0,0,0] n (([W4 a0,W2 a1]++ud 3 [W0 a5])++us 49) K
noncomputable def xci:Ex→St→Option Y2:=finish A_V83 S_V83 Tryz.f70.results.toList
noncomputable def xkv (kX:St→Option Y2) (a0:Y3) (a1:Y4) (a5:Int):Option Y2:=kX (([W4 a0,W2 a1]++ud 3 [W0 a5])++us 49)
noncomputable def xku (kX:St→Option Y2) (kO:Nat→St→Option Y2):Ex→St→Option Y2:=exK xci 0 (A_V83.shape 9) kX kO
theorem xkw (N kX kO):∀n,wme N n (xku kX kO)=w2g N (xkv kX) n :=
 itE rfl fun m=>by kernel_rfl
noncomputable def wth (N:Nat):Ex→St→Option Y2:=(blockK 0 (sqK A_V83 N 9 500004 Tryz.f70 [1,1,1] xci))
noncomputable def xkx (N:Nat) (st':St):Option Y2:=rn A_V83 N Tryz.f70 [1,1,1] st' xci
theorem xt4 (N):wme N N (wth N)=w2e N:=by
 rw[show wme N N (wth N)=wme N N (xku (xkx N) fun j=>(wth N) (.exit j)) from(by funext _ _ _;exact jk7),xkw,show xkv (xkx N)=wdi by kernel_rfl];rfl
theorem run_V83 (N x):runF A_V83 N Tryz.f70 S_V83 x=V83 N x.1 x.2.1:=(show _=(xch (wme N N (wth N)) x.1 x.2.1) by kernel_rfl).trans (by rw[xt4 N];rfl)
theorem ok_V83:OK 70 S_V83:=gdR (A:=A_V83) tc Tryz.func70 (jed ⟨ok_V82,trivial⟩) (run_V83 big)
def wh7 (rec:Y4→Y3→Y3→Int→Y4→Bool→Int→Option Y2) (k:Y4→Y3→Y3→Int→Y4→Bool→Option Y2) (a3:Y4) (a4 a6:Y3) (a7:Int) (a8:Y4) (a9:Bool) (a11:Int):Option Y2 :=
  cond (decide (a11<(a3.length:Int)))
  (cond a9
  ((shrI IntKind.i64 a7 a11).bind fun xq9 =>
  cond (decide ((bitI .and IntKind.i64 xq9 1)=0))
  (rec a3 a4 a6 a7 a8 true (IntKind.i64.wrap (a11+1)))
  ((atI a4 a11).bind fun _ =>
  (a4[a11.toNat]?).bind fun xq10 =>
  (a4[a11.toNat]?).bind fun xq11 =>
  (V61 big xq11 a8).bind fun rq12 =>
  rec a3 a4 a6 a7 a8 rq12.1 (IntKind.i64.wrap (a11+1))))
  (rec a3 a4 a6 a7 a8 false (IntKind.i64.wrap (a11+1))))
  (k a3 a4 a6 a7 a8 a9)
def wb8 (rec:Y4→Y3→Y3→Int→Option Y2) (a3:Y4) (a4 a6:Y3) (a7:Int) (a8:Y4) (a9:Bool):Option Y2 :=
  cond a9
  ((V83 big a6 a8).bind fun rq13 =>
  rec a3 a4 rq13.1 (IntKind.i64.wrap (a7+1)))
  (rec a3 a4 a6 (IntKind.i64.wrap (a7+1)))
def wh6 (rec:Y4→Y3→Y3→Int→Y4→Bool→Int→Option Y2) (k:Y4→Y3→Y3→Int→Y4→Bool→Option Y2) (a3:Y4) (a4 a6:Y3) (a7:Int) (a8:Y4) (a9:Bool) (a10:Int):Option Y2 :=
  cond (decide (a10<(a3.length:Int)))
  ((shrI IntKind.i64 a7 a10).bind fun xq6 =>
  cond (decide ((bitI .and IntKind.i64 xq6 1)=1))
  ((atI a3 a10).bind fun _ =>
  (a3[a10.toNat]?).bind fun xq7 =>
  (appI a8 [xq7]).bind fun xq8 =>
  rec a3 a4 a6 a7 xq8 a9 (IntKind.i64.wrap (a10+1)))
  (rec a3 a4 a6 a7 a8 a9 (IntKind.i64.wrap (a10+1))))
  (k a3 a4 a6 a7 a8 a9)
def wb7 (L18:Y4→Y3→Y3→Int→Y4→Bool→Int→Option Y2) (a3:Y4) (a4 a6:Y3) (a7:Int) (a8:Y4) (a9:Bool):Option Y2 :=
  L18 a3 a4 a6 a7 a8 a9 0
def wh8 (L13:Y4→Y3→Y3→Int→Y4→Bool→Int→Option Y2) (k:Y3→Option Y2) (a3:Y4) (a4 a6:Y3) (a7:Int):Option Y2 :=
  (shlI IntKind.i64 1 (a3.length:Int)).bind fun xq5 =>
  cond (decide (a7<xq5))
  (L13 a3 a4 a6 a7 [] true 0)
  (k a6)
def wac (a6:Y3):Option Y2 :=
  some (a6,(()))
def wmh (rec:Y2→Y4→Y3→Int→Option Y2) (k:Y4→Y3→Option Y2) (a1:Y2) (a3:Y4) (a4:Y3) (a5:Int):Option Y2 :=
  cond (decide (a5<(a3.length:Int)))
  ((atI a3 a5).bind fun _ =>
  (a3[a5.toNat]?).bind fun xq2 =>
  (V81 a1 xq2).bind fun rq3 =>
  (appI a4 [rq3.1]).bind fun xq4 =>
  rec a1 a3 xq4 (IntKind.i64.wrap (a5+1)))
  (k a3 a4)
def wh5 (L9:Y4→Y3→Y3→Int→Option Y2) (a3:Y4) (a4:Y3):Option Y2 :=
  L9 a3 a4 [] 0
def xcl (L4:Y2→Y4→Y3→Int→Option Y2) (p_0:Y2):Option Y2 :=
  (V67 big p_0).bind fun rq1 =>
  L4 p_0 rq1.1 [] 0
def wwa (N:Nat) (k:Y4→Y3→Y3→Int→Y4→Bool→Option Y2):=itN (fun r=>wh6 r k) fun _ _ _ _ _ _ _=>none
def wwb (N:Nat) (k:Y4→Y3→Y3→Int→Y4→Bool→Option Y2):=itN (fun r=>wh7 r k) fun _ _ _ _ _ _ _=>none
def wb6 (N:Nat) (rec:Y4→Y3→Y3→Int→Option Y2) (k:Y3→Option Y2):=wwb N (wb8 rec) N
def wh1 (N:Nat) (rec:Y4→Y3→Y3→Int→Option Y2) (k:Y3→Option Y2):=wwa N (wb7 (wb6 N rec k)) N
def w2i (N:Nat) (k:Y4→Y3→Option Y2):=itN (fun r=>wmh r k) fun _ _ _ _=>none
def w2j (N:Nat) (k:Y3→Option Y2):=itN (fun r=>wh8 (wh1 N r k) k) fun _ _ _ _=>none
def wh2 (N:Nat):=w2j N (wac) N
def w2h (N:Nat):=w2i N (wh5 (wh2 N)) N
def V84 (N:Nat) (p_0:Y2):Option Y2:=xcl (w2h N) p_0
def S_V84:Sig:=⟨Q18,[0],[],.unit,Q11,.i,fun x=>V84 big x.1⟩
def A_V84:Cfg:=mkCfg tab [(57,S_V67),(58,S_V81),(69,S_V61),(70,S_V83)] [(8,[D0,B6,D0,B1,B7,B0]),(15,(dr 3 [B1,B7])),(18,(dr 3 [B1,B7,D0,B4,B0])),(26,(dr 3 [B1,B7,D0,B4,B0,B1,B5,B0])),(47,(dr 6 [B4])),(35,(dr 3 [B1,B7,D0,B4,B0,B1,B5])),(36,(dr 3 [B1,B7,D0,B4,B0,B1,B5,D0,B0])),(43,(dr 3 [B1,B7,D0,B4,B0,B1,B5]))]
noncomputable def wmf (N n:Nat) (K:Ex→St→Option Y2) (a1:Y2) (a3:Y4) (a4:Y3) (a5:Int):Option Y2:=itr A_V84 N 8 Tryz.f36 [1,1,1,0,1,0,0] n ([.u,W6 a1,.u,W1 a3,W7 a4,W0 a5]++us 78) K
noncomputable def wab (N n:Nat) (K:Ex→St→Option Y2) (a3:Y4) (a4 a6:Y3) (a7:Int):Option Y2:=itr A_V84 N 18 Tryz.f36 [1,1,1,1,1,0,1,0,0] n ((ud 3 [W1 a3,W7 a4,.u,W4 a6,W0 a7])++us 76) K
noncomputable def wh3 (N n:Nat) (K:Ex→St→Option Y2) (a3:Y4) (a4 a6:Y3) (a7:Int) (a8:Y4) (a9:Bool) (a10:Int):Option Y2:=itr A_V84 N 26 Tryz.f36 [1,1,1,1,1,0,1,0,0,1,0,0,1,0,1,0,0] n ((ud 3 [W1 a3,W7 a4,.u,W4 a6,W0 a7,W1 a8,W5 a9,W0 a10])++us 73) K
noncomputable def wh4 (N n:Nat) (K:Ex→St→Option Y2) (a3:Y4) (a4 a6:Y3) (a7:Int) (a8:Y4) (a9:Bool) (a11:Int):Option Y2:=itr A_V84 N 36 Tryz.f36 [1,1,1,1,1,0,1,0,0,1,0,0,1,1,0,1,0,0] n ((ud 3 [W1 a3,W7 a4,.u,W4 a6,W0 a7,W1 a8,W5 a9,.u,W0 a11])++us 72) K
noncomputable def wdt:Ex→St→Option Y2:=finish A_V84 S_V84 Tryz.f36.results.toList
noncomputable def xkz (kX:St→Option Y2) (a3:Y4) (a4:Y3):Option Y2:=kX ((ud 3 [W1 a3,W7 a4])++us 79)
noncomputable def xky (kX:St→Option Y2) (kO:Nat→St→Option Y2):Ex→St→Option Y2:=exK wdt 0 (A_V84.shape 15) kX kO
noncomputable def wmg (kX:St→Option Y2) (a6:Y3):Option Y2:=kX ((ud 6 [W4 a6])++us 77)
noncomputable def yd (kX:St→Option Y2) (kO:Nat→St→Option Y2):Ex→St→Option Y2:=exK wdt 2 (A_V84.shape 47) kX kO
noncomputable def w7y (kX:St→Option Y2) (a3:Y4) (a4 a6:Y3) (a7:Int) (a8:Y4) (a9:Bool):Option Y2:=kX ((ud 3 [W1 a3,W7 a4,.u,W4 a6,W0 a7,W1 a8,W5 a9])++us 74)
noncomputable def w7w (kX:St→Option Y2) (kO:Nat→St→Option Y2):Ex→St→Option Y2:=exK wdt 4 (A_V84.shape 35) kX kO
noncomputable def w7z (kX:St→Option Y2) (a3:Y4) (a4 a6:Y3) (a7:Int) (a8:Y4) (a9:Bool):Option Y2:=kX ((ud 3 [W1 a3,W7 a4,.u,W4 a6,W0 a7,W1 a8,W5 a9])++us 74)
noncomputable def w7x (kX:St→Option Y2) (kO:Nat→St→Option Y2):Ex→St→Option Y2:=exK wdt 6 (A_V84.shape 43) kX kO
theorem xk0 (N kX kO):∀n,wmf N n (xky kX kO)=w2i N (xkz kX) n :=
 itE rfl fun m=>by kernel_rfl
noncomputable def wti (N:Nat):Ex→St→Option Y2:=(blockK 0 (sqK A_V84 N 15 500007 Tryz.f36 [1,1,1,1] wdt))
theorem xcj (N kX kO):∀n,wh3 N n (w7w kX kO)=wwa N (w7y kX) n :=
 itE rfl fun m=>by kernel_rfl
noncomputable def wpd (N m:Nat) (kX:St→Option Y2) (kO:Nat→St→Option Y2):Ex→St→Option Y2:=(blockK 4 (sqK A_V84 N 35 500017 Tryz.f36 [1,1,1,1,1,0,1,0,0,1,0,0,1,1] (blockK 3 (sqK A_V84 N 21 500010 Tryz.f36 [1,1,1,1,1,0,1,0,0,1,1] (itK A_V84 N 18 Tryz.f36 [1,1,1,1,1,0,1,0,0] m (yd kX kO))))))
theorem xck (N kX kO):∀n,wh4 N n (w7x kX kO)=wwb N (w7z kX) n :=
 itE rfl fun m=>by kernel_rfl
noncomputable def wpe (N m:Nat) (kX:St→Option Y2) (kO:Nat→St→Option Y2):Ex→St→Option Y2:=(blockK 6 (sqK A_V84 N 43 500021 Tryz.f36 [1,1,1,1,1,0,1,0,0,1,0,0,1,1,1] (blockK 3 (sqK A_V84 N 21 500010 Tryz.f36 [1,1,1,1,1,0,1,0,0,1,1] (itK A_V84 N 18 Tryz.f36 [1,1,1,1,1,0,1,0,0] m (yd kX kO))))))
noncomputable def w71 (N m:Nat) (kX:St→Option Y2) (kO:Nat→St→Option Y2) (st':St):Option Y2:=rn A_V84 N Tryz.f36 [1,1,1,1,1,0,1,0,0,1,0,0,1,1,1] st' (blockK 3 (sqK A_V84 N 21 500010 Tryz.f36 [1,1,1,1,1,0,1,0,0,1,1] (itK A_V84 N 18 Tryz.f36 [1,1,1,1,1,0,1,0,0] m (yd kX kO))))
theorem xoq (N m kX kO) {r}(h:wab N m (yd kX kO)=r):wh4 N N (wpe N m kX kO)=wb6 N r (wmg kX):=by
 rw[show wh4 N N (wpe N m kX kO)=wh4 N N (w7x (w71 N m kX kO) fun j=>(wpe N m kX kO) (.exit j)) from(by funext _ _ _ _ _ _ _;exact jk7),xck,show w7z (w71 N m kX kO)=wb8 (wab N m (yd kX kO)) by kernel_rfl,h];rfl
noncomputable def w70 (N m:Nat) (kX:St→Option Y2) (kO:Nat→St→Option Y2) (st':St):Option Y2:=rn A_V84 N Tryz.f36 [1,1,1,1,1,0,1,0,0,1,0,0,1,1] st' (blockK 3 (sqK A_V84 N 21 500010 Tryz.f36 [1,1,1,1,1,0,1,0,0,1,1] (itK A_V84 N 18 Tryz.f36 [1,1,1,1,1,0,1,0,0] m (yd kX kO))))
theorem xop (N m kX kO) {r}(h:wab N m (yd kX kO)=r):wh3 N N (wpd N m kX kO)=wh1 N r (wmg kX):=by
 rw[show wh3 N N (wpd N m kX kO)=wh3 N N (w7w (w70 N m kX kO) fun j=>(wpd N m kX kO) (.exit j)) from(by funext _ _ _ _ _ _ _;exact jk7),xcj,show w7y (w70 N m kX kO)=wb7 (wh4 N N (wpe N m kX kO)) by kernel_rfl,xoq N m kX kO h];rfl
theorem xk1 (N kX kO):∀n,wab N n (yd kX kO)=w2j N (wmg kX) n :=
 itE rfl fun m=>(show _=wh8 (wh3 N N (wpd N m kX kO)) (wmg kX) by kernel_rfl).trans (by rw[xop N m kX kO rfl]<;>rfl)
noncomputable def wtj (N:Nat):Ex→St→Option Y2:=(blockK 2 (sqK A_V84 N 47 500023 Tryz.f36 [1,1,1,1,1,1] wdt))
noncomputable def xk3 (N:Nat) (st':St):Option Y2:=rn A_V84 N Tryz.f36 [1,1,1,1,1,1] st' wdt
theorem xt8 (N):wab N N (wtj N)=wh2 N:=by
 rw[show wab N N (wtj N)=wab N N (yd (xk3 N) fun j=>(wtj N) (.exit j)) from(by funext _ _ _ _;exact jk7),xk1,show wmg (xk3 N)=wac by kernel_rfl];rfl
noncomputable def xk2 (N:Nat) (st':St):Option Y2:=rn A_V84 N Tryz.f36 [1,1,1,1] st' wdt
theorem xt7 (N):wmf N N (wti N)=w2h N:=by
 rw[show wmf N N (wti N)=wmf N N (xky (xk2 N) fun j=>(wti N) (.exit j)) from(by funext _ _ _ _;exact jk7),xk0,show xkz (xk2 N)=wh5 (wab N N (wtj N)) by kernel_rfl,xt8 N];rfl
theorem run_V84 (N x):runF A_V84 N Tryz.f36 S_V84 x=V84 N x.1:=(show _=(xcl (wmf N N (wti N)) x.1) by kernel_rfl).trans (by rw[xt7 N];rfl)
theorem ok_V84:OK 36 S_V84:=gdR (A:=A_V84) tc Tryz.func36 (jed ⟨ok_V67,ok_V81,ok_V61,ok_V83,trivial⟩) (run_V84 big)
def xcm (p_0:Y2):Z3 :=
  (V66 p_0).bind fun rq1 =>
  cond (!rq1.1)
  (some (([],false,()),(())))
  ((V84 big p_0).bind fun rq2 =>
  some ((rq2.1,true,()),(())))
def V85 (p_0:Y2):Z3:=xcm p_0
def S_V85:Sig:=⟨Q18,[0],[],.unit,Q21,.i,fun x=>V85 x.1⟩
def A_V85:Cfg:=mkCfg tab [(35,S_V66),(36,S_V84)] []
theorem run_V85 (N x):runF A_V85 N Tryz.f7 S_V85 x=V85 x.1:=by kernel_rfl
theorem ok_V85:OK 7 S_V85:=gdR (A:=A_V85) tc Tryz.func7 (jed ⟨ok_V66,ok_V84,trivial⟩) (run_V85 big)
def wmj (rec:T15) (k:Z0) (a0 a1:Y4) (a5:Int):Z0 :=
  cond (decide (a5<(a0.length:Int)))
  ((atI a0 a5).bind fun xq1 =>
  (atI a1 a5).bind fun xq2 =>
  cond (decide (xq1≠xq2))
  (some (false,(())))
  (rec a0 a1 (IntKind.i64.wrap (a5+1))))
  (k)
def wh9:Z0 :=
  some (true,(()))
def xcn (L4:T15) (a_0 b_1:Y4):Z0 :=
  cond (decide ((a_0.length:Int)≠(b_1.length:Int)))
  (some (false,(())))
  (L4 a_0 b_1 0)
def w2l (N:Nat) (k:Z0):=itN (fun r=>wmj r k) fun _ _ _=>none
def w2k (N:Nat):=w2l N (wh9) N
def V86 (N:Nat) (a_0 b_1:Y4):Z0:=xcn (w2k N) a_0 b_1
def S_V86:Sig:=⟨(.pair Q3 Q14),[0,0],[],.unit,.bool,.i,fun x=>V86 big x.1 x.2.1⟩
def A_V86:Cfg:=mkCfg tab [] [(8,([B2,B2]++dr 3 [B0])),(17,[])]
noncomputable def wmi (N n:Nat) (K:T8) (a0 a1:Y4) (a5:Int):Z0:=itr A_V86 N 8 Tryz.f14 [1,1,0,1,0,0] n (([W2 a0,W2 a1]++ud 3 [W0 a5])++us 20) K
noncomputable def xco:Ex→St→Z0:=finish A_V86 S_V86 Tryz.f14.results.toList
noncomputable def xk5 (kX:T1):Z0:=kX ([]++us 26)
noncomputable def xk4 (kX:T1) (kO:T0):=exK xco 0 (A_V86.shape 17) kX kO
theorem xk6 (N kX kO):∀n,wmi N n (xk4 kX kO)=w2l N (xk5 kX) n :=
 itE rfl fun m=>by kernel_rfl
noncomputable def wtk (N:Nat):=(blockK 0 (sqK A_V86 N 17 500008 Tryz.f14 [1,1,1] xco))
noncomputable def xk7 (N:Nat) (st':St):Z0:=rn A_V86 N Tryz.f14 [1,1,1] st' xco
theorem xt9 (N):wmi N N (wtk N)=w2k N:=by
 rw[show wmi N N (wtk N)=wmi N N (xk4 (xk7 N) fun j=>(wtk N) (.exit j)) from(by funext _ _ _;exact jk7),xk6,show xk5 (xk7 N)=wh9 by kernel_rfl];rfl
theorem run_V86 (N x):runF A_V86 N Tryz.f14 S_V86 x=V86 N x.1 x.2.1:=(show _=(xcn (wmi N N (wtk N)) x.1 x.2.1) by kernel_rfl).trans (by rw[xt9 N];rfl)
theorem ok_V86:OK 14 S_V86:=gdR (A:=A_V86) tc Tryz.func14 (jed trivial) (run_V86 big)
def wml (rec:T142) (k:Z0) (a0 a1:Y3) (a5:Int):Z0 :=
  cond (decide (a5<(a0.length:Int)))
  ((atI a0 a5).bind fun xq1 =>
  (atI a1 a5).bind fun xq2 =>
  (V86 big xq1 xq2).bind fun rq3 =>
  cond (!rq3.1)
  (some (false,(())))
  (rec a0 a1 (IntKind.i64.wrap (a5+1))))
  (k)
def wia:Z0 :=
  some (true,(()))
def xcp (L4:T142) (a_0 b_1:Y3):Z0 :=
  cond (decide ((a_0.length:Int)≠(b_1.length:Int)))
  (some (false,(())))
  (L4 a_0 b_1 0)
def w2n (N:Nat) (k:Z0):=itN (fun r=>wml r k) fun _ _ _=>none
def w2m (N:Nat):=w2n N (wia) N
def V87 (N:Nat) (a_0 b_1:Y3):Z0:=xcp (w2m N) a_0 b_1
def S_V87:Sig:=⟨(.pair Q11 Q0),[0,0],[],.unit,.bool,.i,fun x=>V87 big x.1 x.2.1⟩
def A_V87:Cfg:=mkCfg tab [(14,S_V86)] [(8,([B4,B4]++dr 3 [B0])),(17,[])]
noncomputable def wmk (N n:Nat) (K:T8) (a0 a1:Y3) (a5:Int):Z0:=itr A_V87 N 8 Tryz.f8 [1,1,0,1,0,0] n (([W4 a0,W4 a1]++ud 3 [W0 a5])++us 21) K
noncomputable def xcq:Ex→St→Z0:=finish A_V87 S_V87 Tryz.f8.results.toList
noncomputable def xk9 (kX:T1):Z0:=kX ([]++us 27)
noncomputable def xk8 (kX:T1) (kO:T0):=exK xcq 0 (A_V87.shape 17) kX kO
theorem xla (N kX kO):∀n,wmk N n (xk8 kX kO)=w2n N (xk9 kX) n :=
 itE rfl fun m=>by kernel_rfl
noncomputable def wtl (N:Nat):=(blockK 0 (sqK A_V87 N 17 500008 Tryz.f8 [1,1,1] xcq))
noncomputable def xlb (N:Nat) (st':St):Z0:=rn A_V87 N Tryz.f8 [1,1,1] st' xcq
theorem xua (N):wmk N N (wtl N)=w2m N:=by
 rw[show wmk N N (wtl N)=wmk N N (xk8 (xlb N) fun j=>(wtl N) (.exit j)) from(by funext _ _ _;exact jk7),xla,show xk9 (xlb N)=wia by kernel_rfl];rfl
theorem run_V87 (N x):runF A_V87 N Tryz.f8 S_V87 x=V87 N x.1 x.2.1:=(show _=(xcp (wmk N N (wtl N)) x.1 x.2.1) by kernel_rfl).trans (by rw[xua N];rfl)
theorem ok_V87:OK 8 S_V87:=gdR (A:=A_V87) tc Tryz.func8 (jed ⟨ok_V86,trivial⟩) (run_V87 big)
def w2p (rec:T102) (k:Int→Z5) (a0 a1 a5:Int):Z5 :=
  cond (decide (0<a1))
  (rec a0 (IntKind.i64.wrap (a1-1)) (IntKind.i64.wrap (a5*a0)))
  (k a5)
def wmn (a5:Int):Z5 :=
  some (a5,(()))
def xcr (L2:T102) (n_0 k_1:Int):Z5 :=
  L2 n_0 k_1 1
def w2q (N:Nat) (k:Int→Z5):=itN (fun r=>w2p r k) fun _ _ _=>none
def w2o (N:Nat):=w2q N (wmn) N
def V88 (N:Nat) (n_0 k_1:Int):Z5:=xcr (w2o N) n_0 k_1
def S_V88:Sig:=⟨Q22,[0,0],[],.unit,I,.i,fun x=>V88 big x.1 x.2.1⟩
def A_V88:Cfg:=mkCfg tab [] [(4,([B0,B0]++dr 3 [B0])),(11,(dr 5 [B0]))]
noncomputable def wmm (N n:Nat) (K:T87) (a0 a1 a5:Int):Z5:=itr A_V88 N 4 Tryz.f162 [1,1,0,0,0] n (([W0 a0,W0 a1]++ud 3 [W0 a5])++us 8) K
noncomputable def xcs:Ex→St→Z5:=finish A_V88 S_V88 Tryz.f162.results.toList
noncomputable def xld (kX:T56) (a5:Int):Z5:=kX ((ud 5 [W0 a5])++us 8)
noncomputable def xlc (kX:T56) (kO:T47):=exK xcs 0 (A_V88.shape 11) kX kO
theorem xle (N kX kO):∀n,wmm N n (xlc kX kO)=w2q N (xld kX) n :=
 itE rfl fun m=>by kernel_rfl
noncomputable def wtm (N:Nat):=(blockK 0 (sqK A_V88 N 11 500005 Tryz.f162 [1,1,1] xcs))
noncomputable def xlf (N:Nat) (st':St):Z5:=rn A_V88 N Tryz.f162 [1,1,1] st' xcs
theorem xub (N):wmm N N (wtm N)=w2o N:=by
 rw[show wmm N N (wtm N)=wmm N N (xlc (xlf N) fun j=>(wtm N) (.exit j)) from(by funext _ _ _;exact jk7),xle,show xld (xlf N)=wmn by kernel_rfl];rfl
theorem run_V88 (N x):runF A_V88 N Tryz.f162 S_V88 x=V88 N x.1 x.2.1:=(show _=(xcr (wmm N N (wtm N)) x.1 x.2.1) by kernel_rfl).trans (by rw[xub N];rfl)
theorem ok_V88:OK 162 S_V88:=gdR (A:=A_V88) tc Tryz.func162 (jed trivial) (run_V88 big)
def xqf (f_0:Y6) (n_1:Int):Z0 :=
  cond (decide (0≤f_0.1))
  (cond (decide (f_0.1≤3))
  ((V88 big n_1 f_0.1).bind fun rq1 =>
  cond (decide ((f_0.2.1.length:Int)=rq1.1))
  ((V24 big f_0.2.1 n_1).bind fun rq2 =>
  some (rq2.1,(())))
  (some (false,(()))))
  (some (false,(()))))
  (some (false,(())))
def V89 (f_0:Y6) (n_1:Int):Z0:=xqf f_0 n_1
def S_V89:Sig:=⟨(.pair Q9 Q15),[0,0],[],.unit,.bool,.i,fun x=>V89 x.1 x.2.1⟩
def A_V89:Cfg:=mkCfg tab [(162,S_V88),(124,S_V24)] []
theorem run_V89 (N x):runF A_V89 N Tryz.f153 S_V89 x=V89 x.1 x.2.1:=by kernel_rfl
theorem ok_V89:OK 153 S_V89:=gdR (A:=A_V89) tc Tryz.func153 (jed ⟨ok_V88,ok_V24,trivial⟩) (run_V89 big)
def wmp (rec:T116) (k:Z0) (a1:Y7) (a20:Z21) (a21 a22:Int):Z0 :=
  cond (decide (a22<a21))
  ((atI a20 a22).bind fun xq1 =>
  (V89 xq1 a1.1).bind fun rq2 =>
  cond (!rq2.1)
  (some (false,(())))
  (rec a1 a20 a21 (IntKind.i64.wrap (a22+1))))
  (k)
def wib:Z0 :=
  some (true,(()))
def xcv (L4:T116) (a_0:Y7):Z0 :=
  cond (decide (a_0.1<1))
  (some (false,(())))
  (cond (decide (8<a_0.1))
  (some (false,(())))
  (cond (decide (4<(a_0.2.1.length:Int)))
  (some (false,(())))
  (L4 a_0 a_0.2.1 (a_0.2.1.length:Int) 0)))
def w2s (N:Nat) (k:Z0):=itN (fun r=>wmp r k) fun _ _ _ _=>none
def w2r (N:Nat):=w2s N (wib) N
def V90 (N:Nat) (a_0:Y7):Z0:=xcv (w2r N) a_0
def S_V90:Sig:=⟨Q24,[0],[],.unit,.bool,.i,fun x=>V90 big x.1⟩
def A_V90:Cfg:=mkCfg tab [(153,S_V89)] [(8,([D0,B9]++dr 18 [.as (.sl Q9) .i,B0,B0])),(19,[])]
noncomputable def wmo (N n:Nat) (K:T8) (a1:Y7) (a20:Z21) (a21 a22:Int):Z0:=itr A_V90 N 8 Tryz.f117 [1,1,0,1,0,0] n (([.u,W9 a1]++ud 18 [.val (.sl Q9) .i a20,W0 a21,W0 a22])++us 9) K
noncomputable def xcw:Ex→St→Z0:=finish A_V90 S_V90 Tryz.f117.results.toList
noncomputable def xlh (kX:T1):Z0:=kX ([]++us 32)
noncomputable def xlg (kX:T1) (kO:T0):=exK xcw 0 (A_V90.shape 19) kX kO
theorem xli (N kX kO):∀n,wmo N n (xlg kX kO)=w2s N (xlh kX) n :=
 itE rfl fun m=>by kernel_rfl
noncomputable def wtp (N:Nat):=(blockK 0 (sqK A_V90 N 19 500009 Tryz.f117 [1,1,1] xcw))
noncomputable def xlj (N:Nat) (st':St):Z0:=rn A_V90 N Tryz.f117 [1,1,1] st' xcw
theorem xuc (N):wmo N N (wtp N)=w2r N:=by
 rw[show wmo N N (wtp N)=wmo N N (xlg (xlj N) fun j=>(wtp N) (.exit j)) from(by funext _ _ _ _;exact jk7),xli,show xlh (xlj N)=wib by kernel_rfl];rfl
theorem run_V90 (N x):runF A_V90 N Tryz.f117 S_V90 x=V90 N x.1:=(show _=(xcv (wmo N N (wtp N)) x.1) by kernel_rfl).trans (by rw[xuc N];rfl)
theorem ok_V90:OK 117 S_V90:=gdR (A:=A_V90) tc Tryz.func117 (jed ⟨ok_V89,trivial⟩) (run_V90 big)
def wmr (rec:T117) (k:Y4→Z19) (a3 a10:Y4) (a11 a12:Int):Z19 :=
  cond (decide (a12<a11))
  ((atI a10 a12).bind fun xq3 =>
  (shrI IntKind.i64 xq3 8).bind fun xq4 =>
  (appI a3 [IntKind.u8.wrap xq4,IntKind.u8.wrap xq3]).bind fun xq5 =>
  rec xq5 a10 a11 (IntKind.i64.wrap (a12+1)))
  (k a3)
def wic (a3:Y4):Z19 :=
  some ((a3.map fun n=>UInt8.ofNat n.toNat),(()))
def xcx (L3:T117) (list_0:Y4):Z19 :=
  (mkI (0:Int) (IntKind.i64.wrap (2*(list_0.length:Int)))).bind fun xq1=>(mkI (0:Int) 0).bind fun xq2=>cond (decide (0≤(IntKind.i64.wrap (2*(list_0.length:Int)))))
  (L3 xq2 list_0 (list_0.length:Int) 0)
  none
def w2u (N:Nat) (k:Y4→Z19):=itN (fun r=>wmr r k) fun _ _ _ _=>none
def w2t (N:Nat):=w2u N (wic) N
def V91 (N:Nat) (list_0:Y4):Z19:=xcx (w2t N) list_0
def S_V91:Sig:=⟨Q14,[0],[],.unit,.str,.i,fun x=>V91 big x.1⟩
def A_V91:Cfg:=mkCfg tab [] [(6,(dr 3 ([.as (.sl (.int .u8)) O2]++dr 6 [B2,B0,B0]))),(15,(dr 3 [.as (.sl (.int .u8)) O2]))]
noncomputable def wmq (N n:Nat) (K:Ex→St→Z19) (a3 a10:Y4) (a11 a12:Int):Z19:=itr A_V91 N 6 Tryz.f154 [1,1,0,1,0,0] n ((ud 3 ([.val (.sl (.int .u8)) O2 a3]++ud 6 [W2 a10,W0 a11,W0 a12]))++us 14) K
noncomputable def xcy:Ex→St→Z19:=finish A_V91 S_V91 Tryz.f154.results.toList
noncomputable def xll (kX:St→Z19) (a3:Y4):Z19:=kX ((ud 3 [.val (.sl (.int .u8)) O2 a3])++us 23)
noncomputable def xlk (kX:St→Z19) (kO:Nat→St→Z19):=exK xcy 0 (A_V91.shape 15) kX kO
theorem xlm (N kX kO):∀n,wmq N n (xlk kX kO)=w2u N (xll kX) n :=
 itE rfl fun m=>by kernel_rfl
noncomputable def wtq (N:Nat):=(blockK 0 (sqK A_V91 N 15 500007 Tryz.f154 [1,1,1] xcy))
noncomputable def xln (N:Nat) (st':St):Z19:=rn A_V91 N Tryz.f154 [1,1,1] st' xcy
theorem xud (N):wmq N N (wtq N)=w2t N:=by
 rw[show wmq N N (wtq N)=wmq N N (xlk (xln N) fun j=>(wtq N) (.exit j)) from(by funext _ _ _ _;exact jk7),xlm,show xll (xln N)=wic by kernel_rfl];rfl
theorem run_V91 (N x):runF A_V91 N Tryz.f154 S_V91 x=V91 N x.1:=(show _=(xcx (wmq N N (wtq N)) x.1) by kernel_rfl).trans (by rw[xud N];rfl)
theorem ok_V91:OK 154 S_V91:=gdR (A:=A_V91) tc Tryz.func154 (jed trivial) (run_V91 big)
def xcz (list_0:Y4):Z2 :=
  (appI [] list_0).bind fun xq1 =>
  some (xq1,(()))
def V92 (list_0:Y4):Z2:=xcz list_0
def S_V92:Sig:=⟨Q14,[0],[],.unit,Q3,O2,fun x=>V92 x.1⟩
def A_V92:Cfg:=mkCfg tab [] []
theorem run_V92 (N x):runF A_V92 N Tryz.f80 S_V92 x=V92 x.1:=by kernel_rfl
theorem ok_V92:OK 80 S_V92:=gdR (A:=A_V92) tc Tryz.func80 (jed trivial) (run_V92 big)
def wmt (rec:T11) (k:T14) (a5 a10:Y4) (a11 a12:Int):Z2 :=
  cond (decide (a12<a11))
  ((atI a10 a12).bind fun xq2 =>
  (V50 big a5 a12 xq2).bind fun rq3 =>
  rec rq3.2.1 a10 a11 (IntKind.i64.wrap (a12+1)))
  (k a5)
def wid (a5:Y4):Z2 :=
  some (a5,(()))
def xc0 (L3:T11) (p_0 q_1:Y4):Z2 :=
  (V92 p_0).bind fun rq1 =>
  L3 rq1.1 q_1 (q_1.length:Int) 0
def w2w (N:Nat) (k:T14):=itN (fun r=>wmt r k) fun _ _ _ _=>none
def w2v (N:Nat):=w2w N (wid) N
def V93 (N:Nat) (p_0 q_1:Y4):Z2:=xc0 (w2v N) p_0 q_1
def S_V93:Sig:=⟨(.pair Q3 Q14),[0,0],[],.unit,Q3,O2,fun x=>V93 big x.1 x.2.1⟩
def A_V93:Cfg:=mkCfg tab [(80,S_V92),(123,S_V50)] [(6,(dr 5 ([B1]++dr 4 [B2,B0,B0]))),(15,(dr 5 [B1]))]
noncomputable def wms (N n:Nat) (K:T13) (a5 a10:Y4) (a11 a12:Int):Z2:=itr A_V93 N 6 Tryz.f89 [1,1,0,1,0,0] n ((ud 5 ([W1 a5]++ud 4 [W2 a10,W0 a11,W0 a12]))++us 10) K
noncomputable def xc1:Ex→St→Z2:=finish A_V93 S_V93 Tryz.f89.results.toList
noncomputable def xlp (kX:T4) (a5:Y4):Z2:=kX ((ud 5 [W1 a5])++us 17)
noncomputable def xlo (kX:T4) (kO:T3):=exK xc1 0 (A_V93.shape 15) kX kO
theorem xlq (N kX kO):∀n,wms N n (xlo kX kO)=w2w N (xlp kX) n :=
 itE rfl fun m=>by kernel_rfl
noncomputable def wtr (N:Nat):=(blockK 0 (sqK A_V93 N 15 500007 Tryz.f89 [1,1,1] xc1))
noncomputable def xlr (N:Nat) (st':St):Z2:=rn A_V93 N Tryz.f89 [1,1,1] st' xc1
theorem xue (N):wms N N (wtr N)=w2v N:=by
 rw[show wms N N (wtr N)=wms N N (xlo (xlr N) fun j=>(wtr N) (.exit j)) from(by funext _ _ _ _;exact jk7),xlq,show xlp (xlr N)=wid by kernel_rfl];rfl
theorem run_V93 (N x):runF A_V93 N Tryz.f89 S_V93 x=V93 N x.1 x.2.1:=(show _=(xc0 (wms N N (wtr N)) x.1 x.2.1) by kernel_rfl).trans (by rw[xue N];rfl)
theorem ok_V93:OK 89 S_V93:=gdR (A:=A_V93) tc Tryz.func89 (jed ⟨ok_V92,ok_V50,trivial⟩) (run_V93 big)
def wii (rec:T76) (k:T45) (a4 a7:Y3) (a8:Z16) (a9 a55 a56:Int):Z3 :=
  cond (decide (a56<a55))
  ((atI a4 a56).bind fun _ =>
  (a4[a56.toNat]?).bind fun xq8 =>
  (atI a7 a9).bind fun _ =>
  (a7[a9.toNat]?).bind fun xq9 =>
  (a7[a9.toNat]?).bind fun xq10 =>
  (a4[a56.toNat]?).bind fun xq11 =>
  (V93 big xq10 xq11).bind fun rq12 =>
  (V91 big rq12.1).bind fun rq13 =>
  cond (!(Option.getD (mget .str .bool a8 rq13.1) false))
  ((appI a7 [rq12.1]).bind fun xq14 =>
  cond (decide (200<(xq14.length:Int)))
  (some (([],false,()),(())))
  (rec a4 xq14 (mput .str .bool a8 rq13.1 true) a9 a55 (IntKind.i64.wrap (a56+1))))
  (cond (decide (200<(a7.length:Int)))
  (some (([],false,()),(())))
  (rec a4 a7 a8 a9 a55 (IntKind.i64.wrap (a56+1)))))
  (k a4 a7 a8 a9)
def wca (rec:T45) (a4 a7:Y3) (a8:Z16) (a9:Int):Z3 :=
  rec a4 a7 a8 (IntKind.i64.wrap (a9+1))
def wcb (L15:T76) (k:Y3→Z3) (a4 a7:Y3) (a8:Z16) (a9:Int):Z3 :=
  cond (decide (a9<(a7.length:Int)))
  (L15 a4 a7 a8 a9 (a4.length:Int) 0)
  (k a7)
def w8 (a7:Y3):Z3 :=
  (qz a7 ()).bind fun rq7 =>
  some ((rq7.2.1,true,()),(()))
def wmw (rec:T121) (k:T77) (a1:Y7) (a4:Y3) (a5 a6:Int):Z3 :=
  cond (decide (a6<a1.1))
  ((V52 big a1 [(a5,(a6,()))]).bind fun rq5 =>
  (appI a4 [rq5.1]).bind fun xq6 =>
  rec a1 xq6 a5 (IntKind.i64.wrap (a6+1)))
  (k a1 a4 a5)
def wih (rec:T77) (a1:Y7) (a4:Y3) (a5:Int):Z3 :=
  rec a1 a4 (IntKind.i64.wrap (a5+1))
def wij (L6:T121) (k:Y7→Y3→Z3) (a1:Y7) (a4:Y3) (a5:Int):Z3 :=
  cond (decide (a5<a1.1))
  (L6 a1 a4 a5 (IntKind.i64.wrap (a5+1)))
  (k a1 a4)
def wad (L12:T45) (a1:Y7) (a4:Y3):Z3 :=
  (V49 big a1.1).bind fun rq1 =>
  (atI [rq1.1] 0).bind fun _ =>
  ([rq1.1][(0:Int).toNat]?).bind fun xq2 =>
  ([rq1.1][(0:Int).toNat]?).bind fun xq3 =>
  (V91 big xq3).bind fun rq4 =>
  L12 a4 [rq1.1] (mput .str .bool [] rq4.1 true) 0
def xc4 (L3:T77) (a_0:Y7):Z3 :=
  L3 a_0 [] 0
def w2z (N:Nat) (k:T77):=itN (fun r=>wmw r k) fun _ _ _ _=>none
def wmu (N:Nat) (rec:T77) (k:Y7→Y3→Z3):=w2z N (wih rec) N
def wwd (N:Nat) (k:T45):=itN (fun r=>wii r k) fun _ _ _ _ _ _=>none
def wif (N:Nat) (rec:T45) (k:Y3→Z3):=wwd N (wca rec) N
def w2y (N:Nat) (k:Y7→Y3→Z3):=itN (fun r=>wij (wmu N r k) k) fun _ _ _=>none
def wwc (N:Nat) (k:Y3→Z3):=itN (fun r=>wcb (wif N r k) k) fun _ _ _ _=>none
def xc (N:Nat):=wwc N (w8) N
def w2x (N:Nat):=w2y N (wad (xc N)) N
def V94 (N:Nat) (a_0:Y7):Z3:=xc4 (w2x N) a_0
def S_V94:Sig:=⟨Q24,[0],[],.unit,Q21,(.p O13 .i),fun x=>V94 big x.1⟩
def A_V94:Cfg:=mkCfg tab [(122,S_V49),(154,S_V91),(77,S_V52),(33,wn),(89,S_V93)] [(6,[D0,B9,D0,D0,B7,B0]),(12,[D0,B9,D0,D0,B7,B0,B0]),(19,[D0,B9,D0,D0,B7]),(24,(dr 4 [B7,D0,D0,B7,.as (.map .str .bool) O2,B0])),(9,[D0,B9,D0,D0,B7,B0]),(30,(dr 4 ([B7,D0,D0,B7,.as (.map .str .bool) O2,B0]++dr 44 [.keep,B0,B0]))),(51,(dr 7 [B7])),(27,(dr 4 [B7,D0,D0,B7,.as (.map .str .bool) O2,B0]))]
noncomputable def wdj (N n:Nat) (K:T130) (a1:Y7) (a4:Y3) (a5:Int):Z3:=itr A_V94 N 6 Tryz.f118 [1,1,0,1,0,0] n ([.u,W9 a1,.u,.u,W7 a4,W0 a5]++us 79) K
noncomputable def wmv (N n:Nat) (K:T130) (a1:Y7) (a4:Y3) (a5 a6:Int):Z3:=itr A_V94 N 12 Tryz.f118 [1,1,0,1,0,0,1,0,0,1,0,0] n ([.u,W9 a1,.u,.u,W7 a4,W0 a5,W0 a6]++us 78) K
noncomputable def zg (N n:Nat) (K:T130) (a4 a7:Y3) (a8:Z16) (a9:Int):Z3:=itr A_V94 N 24 Tryz.f118 [1,1,1,1,1,0,1,0,0] n ((ud 4 [W7 a4,.u,.u,W7 a7,.val (.map .str .bool) O2 a8,W0 a9])++us 75) K
noncomputable def wig (N n:Nat) (K:T130) (a4 a7:Y3) (a8:Z16) (a9 a55 a56:Int):Z3:=itr A_V94 N 30 Tryz.f118 [1,1,1,1,1,0,1,0,0,1,0,0,1,0,0] n ([.u,.u,.u,.u,W7 a4,.u,.u,W7 a7,.val (.map .str .bool) O2 a8,W0 a9,.u,.u,.u,.u,.u,.u,.u,.u,.u,.u,.u,.u,.u,.u,.u,.u,.u,.u,.u,.u,.u,.u,.u,.u,.u,.u,.u,.u,.u,.u,.u,.u,.u,.u,.u,.u,.u,.u,.u,.u,.u,.u,.u,.u,.ref 4 [] .val,W0 a55,W0 a56]++us 28) K
noncomputable def wdu:Ex→St→Z3:=finish A_V94 S_V94 Tryz.f118.results.toList
noncomputable def wtu (kX:T86) (a1:Y7) (a4:Y3):Z3:=kX ([.u,W9 a1,.u,.u,W7 a4]++us 80)
noncomputable def wie (kX:T86) (kO:T61):=exK wdu 0 (A_V94.shape 19) kX kO
noncomputable def xlt (kX:T86) (a1:Y7) (a4:Y3) (a5:Int):Z3:=kX ([.u,W9 a1,.u,.u,W7 a4,W0 a5]++us 79)
noncomputable def xls (kX:T86) (kO:T61):=exK wdu 2 (A_V94.shape 9) kX kO
noncomputable def wpi (kX:T86) (a7:Y3):Z3:=kX ((ud 7 [W7 a7])++us 77)
noncomputable def wb9 (kX:T86) (kO:T61):=exK wdu 4 (A_V94.shape 51) kX kO
noncomputable def w73 (kX:T86) (a4 a7:Y3) (a8:Z16) (a9:Int):Z3:=kX ((ud 4 [W7 a4,.u,.u,W7 a7,.val (.map .str .bool) O2 a8,W0 a9])++us 75)
noncomputable def w72 (kX:T86) (kO:T61):=exK wdu 6 (A_V94.shape 27) kX kO
theorem xlv (N kX kO):∀n,wmv N n (xls kX kO)=w2z N (xlt kX) n :=
 itE rfl fun m=>by kernel_rfl
noncomputable def wtt (N m:Nat) (kX:T86) (kO:T61):=(blockK 2 (blockK 1 (sqK A_V94 N 9 500004 Tryz.f118 [1,1,0,1,0,0,1,1] (itK A_V94 N 6 Tryz.f118 [1,1,0,1,0,0] m (wie kX kO)))))
noncomputable def xlx (N m:Nat) (kX:T86) (kO:T61) (st':St):Z3:=rn A_V94 N Tryz.f118 [1,1,0,1,0,0,1,1] st' (itK A_V94 N 6 Tryz.f118 [1,1,0,1,0,0] m (wie kX kO))
theorem xui (N m kX kO) {r}(h:wdj N m (wie kX kO)=r):wmv N N (wtt N m kX kO)=wmu N r (wtu kX):=by
 rw[show wmv N N (wtt N m kX kO)=wmv N N (xls (xlx N m kX kO) fun j=>(wtt N m kX kO) (.exit j)) from(by funext _ _ _ _;exact jk7),xlv,show xlt (xlx N m kX kO)=wih (wdj N m (wie kX kO)) by kernel_rfl,h];rfl
theorem xlu (N kX kO):∀n,wdj N n (wie kX kO)=w2y N (wtu kX) n :=
 itE rfl fun m=>(show _=wij (wmv N N (wtt N m kX kO)) (wtu kX) by kernel_rfl).trans (by rw[xui N m kX kO rfl]<;>rfl)
noncomputable def wts (N:Nat):=(blockK 0 (sqK A_V94 N 19 500009 Tryz.f118 [1,1,1] wdu))
theorem xc3 (N kX kO):∀n,wig N n (w72 kX kO)=wwd N (w73 kX) n :=
 itE rfl fun m=>by kernel_rfl
noncomputable def wph (N m:Nat) (kX:T86) (kO:T61):=(blockK 6 (blockK 5 (sqK A_V94 N 27 500013 Tryz.f118 [1,1,1,1,1,0,1,0,0,1,1] (itK A_V94 N 24 Tryz.f118 [1,1,1,1,1,0,1,0,0] m (wb9 kX kO)))))
noncomputable def w75 (N m:Nat) (kX:T86) (kO:T61) (st':St):Z3:=rn A_V94 N Tryz.f118 [1,1,1,1,1,0,1,0,0,1,1] st' (itK A_V94 N 24 Tryz.f118 [1,1,1,1,1,0,1,0,0] m (wb9 kX kO))
theorem xou (N m kX kO) {r}(h:zg N m (wb9 kX kO)=r):wig N N (wph N m kX kO)=wif N r (wpi kX):=by
 rw[show wig N N (wph N m kX kO)=wig N N (w72 (w75 N m kX kO) fun j=>(wph N m kX kO) (.exit j)) from(by funext _ _ _ _ _ _;exact jk7),xc3,show w73 (w75 N m kX kO)=wca (zg N m (wb9 kX kO)) by kernel_rfl,h];rfl
theorem xc2 (N kX kO):∀n,zg N n (wb9 kX kO)=wwc N (wpi kX) n :=
 itE rfl fun m=>(show _=wcb (wig N N (wph N m kX kO)) (wpi kX) by kernel_rfl).trans (by rw[xou N m kX kO rfl]<;>rfl)
noncomputable def wpg (N:Nat):=(blockK 4 (sqK A_V94 N 51 500025 Tryz.f118 [1,1,1,1,1,1] wdu))
noncomputable def w74 (N:Nat) (st':St):Z3:=rn A_V94 N Tryz.f118 [1,1,1,1,1,1] st' wdu
theorem xot (N):zg N N (wpg N)=xc N:=by
 rw[show zg N N (wpg N)=zg N N (wb9 (w74 N) fun j=>(wpg N) (.exit j)) from(by funext _ _ _ _;exact jk7),xc2,show wpi (w74 N)=w8 by kernel_rfl];rfl
noncomputable def xlw (N:Nat) (st':St):Z3:=rn A_V94 N Tryz.f118 [1,1,1] st' wdu
theorem xuh (N):wdj N N (wts N)=w2x N:=by
 rw[show wdj N N (wts N)=wdj N N (wie (xlw N) fun j=>(wts N) (.exit j)) from(by funext _ _ _;exact jk7),xlu,show wtu (xlw N)=wad (zg N N (wpg N)) by kernel_rfl,xot N];rfl
theorem run_V94 (N x):runF A_V94 N Tryz.f118 S_V94 x=V94 N x.1:=(show _=(xc4 (wdj N N (wts N)) x.1) by kernel_rfl).trans (by rw[xuh N];rfl)
theorem ok_V94:OK 118 S_V94:=gdR (A:=A_V94) tc Tryz.func118 (jed ⟨ok_V49,ok_V91,ok_V52,⟨w9,w6⟩,ok_V93,trivial⟩) (run_V94 big)
def xqj (a_0:Y7):Z3 :=
  (V90 big a_0).bind fun rq1 =>
  cond (!rq1.1)
  (some (([],false,()),(())))
  ((V94 big a_0).bind fun rq2 =>
  some ((rq2.1.1,(((),rq2.1.2).2).1,()),(())))
def V95 (a_0:Y7):Z3:=xqj a_0
def S_V95:Sig:=⟨Q24,[0],[],.unit,Q21,(.p O13 .i),fun x=>V95 x.1⟩
def A_V95:Cfg:=mkCfg tab [(117,S_V90),(118,S_V94)] []
theorem run_V95 (N x):runF A_V95 N Tryz.f71 S_V95 x=V95 x.1:=by kernel_rfl
theorem ok_V95:OK 71 S_V95:=gdR (A:=A_V95) tc Tryz.func71 (jed ⟨ok_V90,ok_V94,trivial⟩) (run_V95 big)
def xqk (a_0:Y7):Z3 :=
  (V95 a_0).bind fun rq1 =>
  cond (!((((),rq1.1.2).2).1))
  (some (([],false,()),(())))
  (some ((rq1.1.1,true,()),(())))
def V96 (a_0:Y7):Z3:=xqk a_0
def S_V96:Sig:=⟨Q24,[0],[],.unit,Q21,(.p O13 .i),fun x=>V96 x.1⟩
def A_V96:Cfg:=mkCfg tab [(71,S_V95)] []
theorem run_V96 (N x):runF A_V96 N Tryz.f37 S_V96 x=V96 x.1:=by kernel_rfl
theorem ok_V96:OK 37 S_V96:=gdR (A:=A_V96) tc Tryz.func37 (jed ⟨ok_V95,trivial⟩) (run_V96 big)
def xc5 (p_0:Y2):Z3 :=
  (V33 p_0).bind fun rq1 =>
  cond (!rq1.1.2.1)
  (some (([],false,()),(())))
  ((V48 rq1.1.1).bind fun rq2 =>
  (V96 rq2.1).bind fun rq3 =>
  some ((rq3.1.1,(((),rq3.1.2).2).1,()),(())))
def V97 (p_0:Y2):Z3:=xc5 p_0
def S_V97:Sig:=⟨Q18,[0],[],.unit,Q21,(.p O13 .i),fun x=>V97 x.1⟩
def A_V97:Cfg:=mkCfg tab [(28,S_V33),(38,S_V48),(37,S_V96)] []
theorem run_V97 (N x):runF A_V97 N Tryz.f9 S_V97 x=V97 x.1:=by kernel_rfl
theorem ok_V97:OK 9 S_V97:=gdR (A:=A_V97) tc Tryz.func9 (jed ⟨ok_V33,ok_V48,ok_V96,trivial⟩) (run_V97 big)
def wmy (rec:T136) (k:Int→Z5) (a0:Y4) (a3 a4:Int):Z5 :=
  cond (decide (a4<(a0.length:Int)))
  ((atI a0 a4).bind fun xq1 =>
  cond (decide (xq1=a4))
  (rec a0 (IntKind.i64.wrap (a3+1)) (IntKind.i64.wrap (a4+1)))
  (rec a0 a3 (IntKind.i64.wrap (a4+1))))
  (k a3)
def wik (a3:Int):Z5 :=
  some (a3,(()))
def xc6 (L3:T136) (p_0:Y4):Z5 :=
  L3 p_0 0 0
def w21 (N:Nat) (k:Int→Z5):=itN (fun r=>wmy r k) fun _ _ _=>none
def w20 (N:Nat):=w21 N (wik) N
def V98 (N:Nat) (p_0:Y4):Z5:=xc6 (w20 N) p_0
def S_V98:Sig:=⟨Q14,[0],[],.unit,I,.i,fun x=>V98 big x.1⟩
def A_V98:Cfg:=mkCfg tab [] [(6,[B2,D0,D0,B0,B0]),(15,(dr 3 [B0]))]
noncomputable def wmx (N n:Nat) (K:T87) (a0:Y4) (a3 a4:Int):Z5:=itr A_V98 N 6 Tryz.f156 [1,1,0,1,0,0] n ([W2 a0,.u,.u,W0 a3,W0 a4]++us 15) K
noncomputable def xc7:Ex→St→Z5:=finish A_V98 S_V98 Tryz.f156.results.toList
noncomputable def xlz (kX:T56) (a3:Int):Z5:=kX ((ud 3 [W0 a3])++us 16)
noncomputable def xly (kX:T56) (kO:T47):=exK xc7 0 (A_V98.shape 15) kX kO
theorem xl0 (N kX kO):∀n,wmx N n (xly kX kO)=w21 N (xlz kX) n :=
 itE rfl fun m=>by kernel_rfl
noncomputable def wtv (N:Nat):=(blockK 0 (sqK A_V98 N 15 500007 Tryz.f156 [1,1,1] xc7))
noncomputable def xl1 (N:Nat) (st':St):Z5:=rn A_V98 N Tryz.f156 [1,1,1] st' xc7
theorem xuj (N):wmx N N (wtv N)=w20 N:=by
 rw[show wmx N N (wtv N)=wmx N N (xly (xl1 N) fun j=>(wtv N) (.exit j)) from(by funext _ _ _;exact jk7),xl0,show xlz (xl1 N)=wik by kernel_rfl];rfl
theorem run_V98 (N x):runF A_V98 N Tryz.f156 S_V98 x=V98 N x.1:=(show _=(xc6 (wmx N N (wtv N)) x.1) by kernel_rfl).trans (by rw[xuj N];rfl)
theorem ok_V98:OK 156 S_V98:=gdR (A:=A_V98) tc Tryz.func156 (jed trivial) (run_V98 big)
def wm0 (rec:T15) (k:Z0) (a0 a1:Y4) (a5:Int):Z0 :=
  cond (decide (a5<(a0.length:Int)))
  ((atI a0 a5).bind fun xq1 =>
  (atI a1 a5).bind fun xq2 =>
  cond (decide (xq1≠xq2))
  (some (false,(())))
  (rec a0 a1 (IntKind.i64.wrap (a5+1))))
  (k)
def wil:Z0 :=
  some (true,(()))
def xc8 (L4:T15) (a_0 b_1:Y4):Z0 :=
  cond (decide ((a_0.length:Int)≠(b_1.length:Int)))
  (some (false,(())))
  (L4 a_0 b_1 0)
def w23 (N:Nat) (k:Z0):=itN (fun r=>wm0 r k) fun _ _ _=>none
def w22 (N:Nat):=w23 N (wil) N
def V99 (N:Nat) (a_0 b_1:Y4):Z0:=xc8 (w22 N) a_0 b_1
def S_V99:Sig:=⟨(.pair Q3 Q14),[0,0],[],.unit,.bool,.i,fun x=>V99 big x.1 x.2.1⟩
def A_V99:Cfg:=mkCfg tab [] [(8,([B2,B2]++dr 3 [B0])),(17,[])]
noncomputable def wmz (N n:Nat) (K:T8) (a0 a1:Y4) (a5:Int):Z0:=itr A_V99 N 8 Tryz.f92 [1,1,0,1,0,0] n (([W2 a0,W2 a1]++ud 3 [W0 a5])++us 20) K
noncomputable def xc9:Ex→St→Z0:=finish A_V99 S_V99 Tryz.f92.results.toList
noncomputable def xl3 (kX:T1):Z0:=kX ([]++us 26)
noncomputable def xl2 (kX:T1) (kO:T0):=exK xc9 0 (A_V99.shape 17) kX kO
theorem xl4 (N kX kO):∀n,wmz N n (xl2 kX kO)=w23 N (xl3 kX) n :=
 itE rfl fun m=>by kernel_rfl
noncomputable def wtw (N:Nat):=(blockK 0 (sqK A_V99 N 17 500008 Tryz.f92 [1,1,1] xc9))
noncomputable def xl5 (N:Nat) (st':St):Z0:=rn A_V99 N Tryz.f92 [1,1,1] st' xc9
theorem xuk (N):wmz N N (wtw N)=w22 N:=by
 rw[show wmz N N (wtw N)=wmz N N (xl2 (xl5 N) fun j=>(wtw N) (.exit j)) from(by funext _ _ _;exact jk7),xl4,show xl3 (xl5 N)=wil by kernel_rfl];rfl
theorem run_V99 (N x):runF A_V99 N Tryz.f92 S_V99 x=V99 N x.1 x.2.1:=(show _=(xc8 (wmz N N (wtw N)) x.1 x.2.1) by kernel_rfl).trans (by rw[xuk N];rfl)
theorem ok_V99:OK 92 S_V99:=gdR (A:=A_V99) tc Tryz.func92 (jed trivial) (run_V99 big)
def wd2 (rec k:Y3→Y4→Int→Option Y2) (a0:Y3) (a1:Y4) (a5:Int):Option Y2 :=
  cond (decide (a5<(a0.length:Int)))
  ((atI a0 a5).bind fun xq1 =>
  (V98 big xq1).bind fun rq2 =>
  (V98 big a1).bind fun rq3 =>
  cond (decide (rq3.1<rq2.1))
  (rec a0 a1 (IntKind.i64.wrap (a5+1)))
  ((atI a0 a5).bind fun xq4 =>
  (V98 big xq4).bind fun rq5 =>
  (V98 big a1).bind fun rq6 =>
  cond (decide (rq5.1=rq6.1))
  ((atI a0 a5).bind fun xq7 =>
  (V82 big xq7 a1).bind fun rq8 =>
  cond rq8.1
  (rec a0 a1 (IntKind.i64.wrap (a5+1)))
  (k a0 a1 a5))
  (k a0 a1 a5)))
  (k a0 a1 a5)
def yo (a0:Y3) (a1:Y4) (a5:Int):Option Y2 :=
  cond (decide (a5<(a0.length:Int)))
  ((atI a0 a5).bind fun xq9 =>
  (V99 big xq9 a1).bind fun rq10 =>
  cond rq10.1
  (some (a0,(())))
  ((slI a0 0 a5).bind fun xq11 =>
  (appI [] xq11).bind fun xq12 =>
  (appI xq12 [a1]).bind fun xq13 =>
  (slI a0 a5 a0.length).bind fun xq14 =>
  (appI xq13 xq14).bind fun xq15 =>
  some (xq15,(()))))
  ((slI a0 0 a5).bind fun xq16 =>
  (appI [] xq16).bind fun xq17 =>
  (appI xq17 [a1]).bind fun xq18 =>
  (slI a0 a5 a0.length).bind fun xq19 =>
  (appI xq18 xq19).bind fun xq20 =>
  some (xq20,(())))
def wx2 (L2:Y3→Y4→Int→Option Y2) (list_0:Y3) (p_1:Y4):Option Y2 :=
  L2 list_0 p_1 0
def wun (N:Nat) (k:Y3→Y4→Int→Option Y2):=itN (fun r=>wd2 r k) fun _ _ _=>none
def wum (N:Nat):=wun N (yo) N
def V100 (N:Nat) (list_0:Y3) (p_1:Y4):Option Y2:=wx2 (wum N) list_0 p_1
def S_V100:Sig:=⟨(.pair Q11 Q14),[0,0],[],.unit,Q11,.i,fun x=>V100 big x.1 x.2.1⟩
def A_V100:Cfg:=mkCfg tab [(156,S_V98),(116,S_V82),(92,S_V99)] [(4,([B4,B2]++dr 3 [B0])),(9,([B4,B2]++dr 3 [B0]))]
noncomputable def wd1 (N n:Nat) (K:Ex→St→Option Y2) (a0:Y3) (a1:Y4) (a5:Int):Option Y2:=itr A_V100 N 4 Tryz.f119 [1,1,0,0,0] n (([W4 a0,W2 a1]++ud 3 [W0 a5])++us 59) K
noncomputable def wx3:Ex→St→Option Y2:=finish A_V100 S_V100 Tryz.f119.results.toList
noncomputable def w4o (kX:St→Option Y2) (a0:Y3) (a1:Y4) (a5:Int):Option Y2:=kX (([W4 a0,W2 a1]++ud 3 [W0 a5])++us 59)
noncomputable def w4n (kX:St→Option Y2) (kO:Nat→St→Option Y2):Ex→St→Option Y2:=exK wx3 0 (A_V100.shape 9) kX kO
theorem w8z (N kX kO):∀n,wd1 N n (w4n kX kO)=wun N (w4o kX) n :=
 itE rfl fun m=>by kernel_rfl
noncomputable def wnk (N:Nat):Ex→St→Option Y2:=(blockK 0 (sqK A_V100 N 9 500004 Tryz.f119 [1,1,1] wx3))
noncomputable def w4p (N:Nat) (st':St):Option Y2:=rn A_V100 N Tryz.f119 [1,1,1] st' wx3
theorem xnc (N):wd1 N N (wnk N)=wum N:=by
 rw[show wd1 N N (wnk N)=wd1 N N (w4n (w4p N) fun j=>(wnk N) (.exit j)) from(by funext _ _ _;exact jk7),w8z,show w4o (w4p N)=yo by kernel_rfl];rfl
theorem run_V100 (N x):runF A_V100 N Tryz.f119 S_V100 x=V100 N x.1 x.2.1:=(show _=(wx2 (wd1 N N (wnk N)) x.1 x.2.1) by kernel_rfl).trans (by rw[xnc N];rfl)
theorem ok_V100:OK 119 S_V100:=gdR (A:=A_V100) tc Tryz.func119 (jed ⟨ok_V98,ok_V82,ok_V99,trivial⟩) (run_V100 big)
def wd4 (rec:T143) (k:T14) (a1 a5:Y4) (a6:Int):Z2 :=
  cond (decide (a6<(a1.length:Int)))
  ((atI a1 a6).bind fun xq2 =>
  (V73 big a5 a6 xq2).bind fun rq3 =>
  rec a1 rq3.1 (IntKind.i64.wrap (a6+1)))
  (k a5)
def waq (a5:Y4):Z2 :=
  some (a5,(()))
def wx4 (L3:T143) (p_0 q_1:Y4):Z2 :=
  (V74 p_0).bind fun rq1 =>
  L3 q_1 rq1.1 0
def wup (N:Nat) (k:T14):=itN (fun r=>wd4 r k) fun _ _ _=>none
def wuo (N:Nat):=wup N (waq) N
def V101 (N:Nat) (p_0 q_1:Y4):Z2:=wx4 (wuo N) p_0 q_1
def S_V101:Sig:=⟨(.pair Q3 Q14),[0,0],[],.unit,Q3,O2,fun x=>V101 big x.1 x.2.1⟩
def A_V101:Cfg:=mkCfg tab [(132,S_V74),(133,S_V73)] [(6,([D0,B2]++dr 3 [B1,B0])),(13,(dr 5 [B1]))]
noncomputable def wd3 (N n:Nat) (K:T13) (a1 a5:Y4) (a6:Int):Z2:=itr A_V101 N 6 Tryz.f94 [1,1,0,1,0,0] n (([.u,W2 a1]++ud 3 [W1 a5,W0 a6])++us 16) K
noncomputable def wx5:Ex→St→Z2:=finish A_V101 S_V101 Tryz.f94.results.toList
noncomputable def w4r (kX:T4) (a5:Y4):Z2:=kX ((ud 5 [W1 a5])++us 17)
noncomputable def w4q (kX:T4) (kO:T3):=exK wx5 0 (A_V101.shape 13) kX kO
theorem w80 (N kX kO):∀n,wd3 N n (w4q kX kO)=wup N (w4r kX) n :=
 itE rfl fun m=>by kernel_rfl
noncomputable def wnl (N:Nat):=(blockK 0 (sqK A_V101 N 13 500006 Tryz.f94 [1,1,1] wx5))
noncomputable def w4s (N:Nat) (st':St):Z2:=rn A_V101 N Tryz.f94 [1,1,1] st' wx5
theorem xnd (N):wd3 N N (wnl N)=wuo N:=by
 rw[show wd3 N N (wnl N)=wd3 N N (w4q (w4s N) fun j=>(wnl N) (.exit j)) from(by funext _ _ _;exact jk7),w80,show w4r (w4s N)=waq by kernel_rfl];rfl
theorem run_V101 (N x):runF A_V101 N Tryz.f94 S_V101 x=V101 N x.1 x.2.1:=(show _=(wx4 (wd3 N N (wnl N)) x.1 x.2.1) by kernel_rfl).trans (by rw[xnd N];rfl)
theorem ok_V101:OK 94 S_V101:=gdR (A:=A_V101) tc Tryz.func94 (jed ⟨ok_V74,ok_V73,trivial⟩) (run_V101 big)
def wcm (rec:Int→Y3→Y3→Y3→Int→Int→Int→Int→Bool→Option Y2) (k:Int→Y3→Y3→Y3→Int→Int→Int→Bool→Option Y2) (a1:Int) (a5 a8 a9:Y3) (a10 a11 a46 a47:Int) (a48:Bool):Option Y2 :=
  cond (decide (a11<(a5.length:Int)))
  (cond (decide ((a8.length:Int)≤a1))
  ((atI a9 a10).bind fun _ =>
  (a9[a10.toNat]?).bind fun xq5 =>
  (atI a5 a11).bind fun xq6 =>
  (V101 big xq5 xq6).bind fun rq7 =>
  (V100 big a8 rq7.1).bind fun rq8 =>
  cond (decide ((a8.length:Int)<(rq8.1.length:Int)))
  ((appI a9 [rq7.1]).bind fun xq9 =>
  rec a1 a5 rq8.1 xq9 a10 (IntKind.i64.wrap (a11+1)) a46 a47 a48)
  (rec a1 a5 a8 a9 a10 (IntKind.i64.wrap (a11+1)) a46 a47 a48))
  (k a1 a5 a8 a9 a10 a46 a47 a48))
  (k a1 a5 a8 a9 a10 a46 a47 a48)
def xm (rec:Int→Y3→Y3→Y3→Int→Option Y2) (a1:Int) (a5 a8 a9:Y3) (a10 a46 a47:Int) (a48:Bool):Option Y2 :=
  rec a1 a5 a8 a9 (IntKind.i64.wrap (a10+1))
def yr (L15:Int→Y3→Y3→Y3→Int→Int→Int→Int→Bool→Option Y2) (k:Y3→Option Y2) (a1:Int) (a5 a8 a9:Y3) (a10:Int):Option Y2 :=
  cond (decide (a10<(a9.length:Int)))
  (cond (decide ((a8.length:Int)≤a1))
  (L15 a1 a5 a8 a9 a10 0 (a8.length:Int) a1 (decide ((a8.length:Int)≤a1)))
  (k a8))
  (k a8)
def w5 (a8:Y3):Option Y2 :=
  some (a8,(()))
def wd7 (rec:Int→Y7→Y3→Int→Int→Option Y2) (k:Int→Y7→Y3→Int→Option Y2) (a1:Int) (a2:Y7) (a5:Y3) (a6 a7:Int):Option Y2 :=
  cond (decide (a7<a6))
  ((V79 a2 a6 a7).bind fun rq3 =>
  (V100 big a5 rq3.1).bind fun rq4 =>
  rec a1 a2 rq4.1 a6 (IntKind.i64.wrap (a7+1)))
  (k a1 a2 a5 a6)
def wat (rec:Int→Y7→Y3→Int→Option Y2) (a1:Int) (a2:Y7) (a5:Y3) (a6:Int):Option Y2 :=
  rec a1 a2 a5 (IntKind.i64.wrap (a6+1))
def wau (L6:Int→Y7→Y3→Int→Int→Option Y2) (k:Int→Y7→Y3→Option Y2) (a1:Int) (a2:Y7) (a5:Y3) (a6:Int):Option Y2 :=
  cond (decide (a6<a2.1))
  (L6 a1 a2 a5 a6 0)
  (k a1 a2 a5)
def xn (L12:Int→Y3→Y3→Y3→Int→Option Y2) (a1:Int) (a2:Y7) (a5:Y3):Option Y2 :=
  (V70 big a2.1).bind fun rq1 =>
  (V70 big a2.1).bind fun rq2 =>
  L12 a1 a5 [rq1.1] [rq2.1] 0
def wya (L3:Int→Y7→Y3→Int→Option Y2) (a_0:Y7) (most_1:Int):Option Y2 :=
  L3 most_1 a_0 [] 0
def wus (N:Nat) (k:Int→Y7→Y3→Int→Option Y2):=itN (fun r=>wd7 r k) fun _ _ _ _ _=>none
def wd5 (N:Nat) (rec:Int→Y7→Y3→Int→Option Y2) (k:Int→Y7→Y3→Option Y2):=wus N (wat rec) N
def wp7 (N:Nat) (k:Int→Y3→Y3→Y3→Int→Int→Int→Bool→Option Y2):=itN (fun r=>wcm r k) fun _ _ _ _ _ _ _ _ _=>none
def wck (N:Nat) (rec:Int→Y3→Y3→Y3→Int→Option Y2) (k:Y3→Option Y2):=wp7 N (xm rec) N
def wur (N:Nat) (k:Int→Y7→Y3→Option Y2):=itN (fun r=>wau (wd5 N r k) k) fun _ _ _ _=>none
def wp6 (N:Nat) (k:Y3→Option Y2):=itN (fun r=>yr (wck N r k) k) fun _ _ _ _ _=>none
def wz (N:Nat):=wp6 N (w5) N
def wuq (N:Nat):=wur N (xn (wz N)) N
def V102 (N:Nat) (a_0:Y7) (most_1:Int):Option Y2:=wya (wuq N) a_0 most_1
def S_V102:Sig:=⟨(.pair Q1 Q15),[0,0],[],.unit,Q11,.i,fun x=>V102 big x.1 x.2.1⟩
def A_V102:Cfg:=mkCfg tab [(120,S_V70),(97,S_V79),(119,S_V100),(94,S_V101)] [(6,[D0,B0,B9,D0,D0,B4,B0]),(12,[D0,B0,B9,D0,D0,B4,B0,B0]),(19,[D0,B0,B9,D0,D0,B4]),(24,([D0,B0]++dr 3 [B4,D0,D0,B4,.as Q11 O2,B0])),(9,[D0,B0,B9,D0,D0,B4,B0]),(30,([D0,B0]++dr 3 ([B4,D0,D0,B4,.as Q11 O2,B0,B0]++dr 34 [B0,B0,B5]))),(45,(dr 8 [B4])),(27,([D0,B0]++dr 3 ([B4,D0,D0,B4,.as Q11 O2,B0]++dr 35 [B0,B0,B5])))]
noncomputable def yq (N n:Nat) (K:Ex→St→Option Y2) (a1:Int) (a2:Y7) (a5:Y3) (a6:Int):Option Y2:=itr A_V102 N 6 Tryz.f73 [1,1,0,1,0,0] n ([.u,W0 a1,W9 a2,.u,.u,W4 a5,W0 a6]++us 80) K
noncomputable def wd6 (N n:Nat) (K:Ex→St→Option Y2) (a1:Int) (a2:Y7) (a5:Y3) (a6 a7:Int):Option Y2:=itr A_V102 N 12 Tryz.f73 [1,1,0,1,0,0,1,0,0,1,0,0] n ([.u,W0 a1,W9 a2,.u,.u,W4 a5,W0 a6,W0 a7]++us 79) K
noncomputable def xl (N n:Nat) (K:Ex→St→Option Y2) (a1:Int) (a5 a8 a9:Y3) (a10:Int):Option Y2:=itr A_V102 N 24 Tryz.f73 [1,1,1,1,1,0,1,0,0] n (([.u,W0 a1]++ud 3 [W4 a5,.u,.u,W4 a8,.val Q11 O2 a9,W0 a10])++us 76) K
noncomputable def wcl (N n:Nat) (K:Ex→St→Option Y2) (a1:Int) (a5 a8 a9:Y3) (a10 a11 a46 a47:Int) (a48:Bool):Option Y2:=itr A_V102 N 30 Tryz.f73 [1,1,1,1,1,0,1,0,0,1,0,0,1,0,0] n (([.u,W0 a1]++ud 3 ([W4 a5,.u,.u,W4 a8,.val Q11 O2 a9,W0 a10,W0 a11]++ud 34 [W0 a46,W0 a47,W5 a48]))++us 38) K
noncomputable def zp:Ex→St→Option Y2:=finish A_V102 S_V102 Tryz.f73.results.toList
noncomputable def wno (kX:St→Option Y2) (a1:Int) (a2:Y7) (a5:Y3):Option Y2:=kX ([.u,W0 a1,W9 a2,.u,.u,W4 a5]++us 81)
noncomputable def war (kX:St→Option Y2) (kO:Nat→St→Option Y2):Ex→St→Option Y2:=exK zp 0 (A_V102.shape 19) kX kO
noncomputable def w4u (kX:St→Option Y2) (a1:Int) (a2:Y7) (a5:Y3) (a6:Int):Option Y2:=kX ([.u,W0 a1,W9 a2,.u,.u,W4 a5,W0 a6]++us 80)
noncomputable def w4t (kX:St→Option Y2) (kO:Nat→St→Option Y2):Ex→St→Option Y2:=exK zp 2 (A_V102.shape 9) kX kO
noncomputable def wi7 (kX:St→Option Y2) (a8:Y3):Option Y2:=kX ((ud 8 [W4 a8])++us 78)
noncomputable def yp (kX:St→Option Y2) (kO:Nat→St→Option Y2):Ex→St→Option Y2:=exK zp 4 (A_V102.shape 45) kX kO
noncomputable def wx7 (kX:St→Option Y2) (a1:Int) (a5 a8 a9:Y3) (a10 a46 a47:Int) (a48:Bool):Option Y2:=kX (([.u,W0 a1]++ud 3 ([W4 a5,.u,.u,W4 a8,.val Q11 O2 a9,W0 a10]++ud 35 [W0 a46,W0 a47,W5 a48]))++us 38)
noncomputable def wx6 (kX:St→Option Y2) (kO:Nat→St→Option Y2):Ex→St→Option Y2:=exK zp 6 (A_V102.shape 27) kX kO
theorem w82 (N kX kO):∀n,wd6 N n (w4t kX kO)=wus N (w4u kX) n :=
 itE rfl fun m=>by kernel_rfl
noncomputable def wnn (N m:Nat) (kX:St→Option Y2) (kO:Nat→St→Option Y2):Ex→St→Option Y2:=(blockK 2 (blockK 1 (sqK A_V102 N 9 500004 Tryz.f73 [1,1,0,1,0,0,1,1] (itK A_V102 N 6 Tryz.f73 [1,1,0,1,0,0] m (war kX kO)))))
noncomputable def w4w (N m:Nat) (kX:St→Option Y2) (kO:Nat→St→Option Y2) (st':St):Option Y2:=rn A_V102 N Tryz.f73 [1,1,0,1,0,0,1,1] st' (itK A_V102 N 6 Tryz.f73 [1,1,0,1,0,0] m (war kX kO))
theorem xnf (N m kX kO) {r}(h:yq N m (war kX kO)=r):wd6 N N (wnn N m kX kO)=wd5 N r (wno kX):=by
 rw[show wd6 N N (wnn N m kX kO)=wd6 N N (w4t (w4w N m kX kO) fun j=>(wnn N m kX kO) (.exit j)) from(by funext _ _ _ _ _;exact jk7),w82,show w4u (w4w N m kX kO)=wat (yq N m (war kX kO)) by kernel_rfl,h];rfl
theorem w81 (N kX kO):∀n,yq N n (war kX kO)=wur N (wno kX) n :=
 itE rfl fun m=>(show _=wau (wd6 N N (wnn N m kX kO)) (wno kX) by kernel_rfl).trans (by rw[xnf N m kX kO rfl]<;>rfl)
noncomputable def wnm (N:Nat):Ex→St→Option Y2:=(blockK 0 (sqK A_V102 N 19 500009 Tryz.f73 [1,1,1] zp))
theorem w39 (N kX kO):∀n,wcl N n (wx6 kX kO)=wp7 N (wx7 kX) n :=
 itE rfl fun m=>by kernel_rfl
noncomputable def wi6 (N m:Nat) (kX:St→Option Y2) (kO:Nat→St→Option Y2):Ex→St→Option Y2:=(blockK 6 (blockK 5 (sqK A_V102 N 27 500013 Tryz.f73 [1,1,1,1,1,0,1,0,0,1,1] (itK A_V102 N 24 Tryz.f73 [1,1,1,1,1,0,1,0,0] m (yp kX kO)))))
noncomputable def wx9 (N m:Nat) (kX:St→Option Y2) (kO:Nat→St→Option Y2) (st':St):Option Y2:=rn A_V102 N Tryz.f73 [1,1,1,1,1,0,1,0,0,1,1] st' (itK A_V102 N 24 Tryz.f73 [1,1,1,1,1,0,1,0,0] m (yp kX kO))
theorem xd3 (N m kX kO) {r}(h:xl N m (yp kX kO)=r):wcl N N (wi6 N m kX kO)=wck N r (wi7 kX):=by
 rw[show wcl N N (wi6 N m kX kO)=wcl N N (wx6 (wx9 N m kX kO) fun j=>(wi6 N m kX kO) (.exit j)) from(by funext _ _ _ _ _ _ _ _ _;exact jk7),w39,show wx7 (wx9 N m kX kO)=xm (xl N m (yp kX kO)) by kernel_rfl,h];rfl
theorem w38 (N kX kO):∀n,xl N n (yp kX kO)=wp6 N (wi7 kX) n :=
 itE rfl fun m=>(show _=yr (wcl N N (wi6 N m kX kO)) (wi7 kX) by kernel_rfl).trans (by rw[xd3 N m kX kO rfl]<;>rfl)
noncomputable def wi5 (N:Nat):Ex→St→Option Y2:=(blockK 4 (sqK A_V102 N 45 500022 Tryz.f73 [1,1,1,1,1,1] zp))
noncomputable def wx8 (N:Nat) (st':St):Option Y2:=rn A_V102 N Tryz.f73 [1,1,1,1,1,1] st' zp
theorem xd2 (N):xl N N (wi5 N)=wz N:=by
 rw[show xl N N (wi5 N)=xl N N (yp (wx8 N) fun j=>(wi5 N) (.exit j)) from(by funext _ _ _ _ _;exact jk7),w38,show wi7 (wx8 N)=w5 by kernel_rfl];rfl
noncomputable def w4v (N:Nat) (st':St):Option Y2:=rn A_V102 N Tryz.f73 [1,1,1] st' zp
theorem xne (N):yq N N (wnm N)=wuq N:=by
 rw[show yq N N (wnm N)=yq N N (war (w4v N) fun j=>(wnm N) (.exit j)) from(by funext _ _ _ _;exact jk7),w81,show wno (w4v N)=xn (xl N N (wi5 N)) by kernel_rfl,xd2 N];rfl
theorem run_V102 (N x):runF A_V102 N Tryz.f73 S_V102 x=V102 N x.1 x.2.1:=(show _=(wya (yq N N (wnm N)) x.1 x.2.1) by kernel_rfl).trans (by rw[xne N];rfl)
theorem ok_V102:OK 73 S_V102:=gdR (A:=A_V102) tc Tryz.func73 (jed ⟨ok_V70,ok_V79,ok_V100,ok_V101,trivial⟩) (run_V102 big)
def xd4 (a_0:Y7):Option Y2 :=
  (V102 big a_0 5000).bind fun rq1 =>
  some (rq1.1,(()))
def V103 (a_0:Y7):Option Y2:=xd4 a_0
def S_V103:Sig:=⟨Q24,[0],[],.unit,Q11,.i,fun x=>V103 x.1⟩
def A_V103:Cfg:=mkCfg tab [(73,S_V102)] []
theorem run_V103 (N x):runF A_V103 N Tryz.f39 S_V103 x=V103 x.1:=by kernel_rfl
theorem ok_V103:OK 39 S_V103:=gdR (A:=A_V103) tc Tryz.func39 (jed ⟨ok_V102,trivial⟩) (run_V103 big)
def wyb (p_0:Y2):Z3 :=
  (V66 p_0).bind fun rq1 =>
  cond (!rq1.1)
  (some (([],false,()),(())))
  ((V68 big p_0).bind fun rq2 =>
  (V103 rq2.1).bind fun rq3 =>
  some ((rq3.1,true,()),(())))
def V104 (p_0:Y2):Z3:=wyb p_0
def S_V104:Sig:=⟨Q18,[0],[],.unit,Q21,.i,fun x=>V104 x.1⟩
def A_V104:Cfg:=mkCfg tab [(35,S_V66),(40,S_V68),(39,S_V103)] []
theorem run_V104 (N x):runF A_V104 N Tryz.f10 S_V104 x=V104 x.1:=by kernel_rfl
theorem ok_V104:OK 10 S_V104:=gdR (A:=A_V104) tc Tryz.func10 (jed ⟨ok_V66,ok_V68,ok_V103,trivial⟩) (run_V104 big)
def xd5 (p_0:Y2) (set_1:Y4):Z9 :=
  (V33 p_0).bind fun rq1 =>
  cond (!rq1.1.2.1)
  (some (([],false,()),(())))
  ((V58 big rq1.1.1 set_1).bind fun rq2 =>
  cond (!rq2.1)
  (some (([],false,()),(())))
  ((V53 big rq1.1.1 set_1).bind fun rq3 =>
  some ((rq3.1,true,()),(()))))
def V105 (p_0:Y2) (set_1:Y4):Z9:=xd5 p_0 set_1
def S_V105:Sig:=⟨(.pair Q0 Q14),[0,0],[],.unit,(.tup (.pair Q3 Q16)),(.p O2 .i),fun x=>V105 x.1 x.2.1⟩
def A_V105:Cfg:=mkCfg tab [(28,S_V33),(32,S_V58),(41,S_V53)] []
theorem run_V105 (N x):runF A_V105 N Tryz.f11 S_V105 x=V105 x.1 x.2.1:=by kernel_rfl
theorem ok_V105:OK 11 S_V105:=gdR (A:=A_V105) tc Tryz.func11 (jed ⟨ok_V33,ok_V58,ok_V53,trivial⟩) (run_V105 big)
def wd9 (rec:T24) (k:Z0) (a1 a11:Y4) (a12 a13:Int):Z0 :=
  cond (decide (a13<a12))
  ((atI a11 a13).bind fun xq1 =>
  cond (decide (xq1<0))
  (some (false,(())))
  (cond (decide (a13<xq1))
  (some (false,(())))
  ((atI a1 xq1).bind fun xq2 =>
  cond (decide (xq2≠xq1))
  (some (false,(())))
  (rec a1 a11 a12 (IntKind.i64.wrap (a13+1))))))
  (k)
def wav:Z0 :=
  some (true,(()))
def wyc (L4:T24) (n_0:Int) (p_1:Y4):Z0 :=
  cond (decide ((p_1.length:Int)≠n_0))
  (some (false,(())))
  (L4 p_1 p_1 (p_1.length:Int) 0)
def wuu (N:Nat) (k:Z0):=itN (fun r=>wd9 r k) fun _ _ _ _=>none
def wut (N:Nat):=wuu N (wav) N
def V106 (N:Nat) (n_0:Int) (p_1:Y4):Z0:=wyc (wut N) n_0 p_1
def S_V106:Sig:=⟨Q9,[0,0],[],.unit,.bool,.i,fun x=>V106 big x.1 x.2.1⟩
def A_V106:Cfg:=mkCfg tab [] [(8,([D0,B2]++dr 9 [B2,B0,B0])),(19,[])]
noncomputable def wd8 (N n:Nat) (K:T8) (a1 a11:Y4) (a12 a13:Int):Z0:=itr A_V106 N 8 Tryz.f78 [1,1,0,1,0,0] n (([.u,W2 a1]++ud 9 [W2 a11,W0 a12,W0 a13])++us 20) K
noncomputable def wyd:Ex→St→Z0:=finish A_V106 S_V106 Tryz.f78.results.toList
noncomputable def w4y (kX:T1):Z0:=kX ([]++us 34)
noncomputable def w4x (kX:T1) (kO:T0):=exK wyd 0 (A_V106.shape 19) kX kO
theorem w83 (N kX kO):∀n,wd8 N n (w4x kX kO)=wuu N (w4y kX) n :=
 itE rfl fun m=>by kernel_rfl
noncomputable def wnp (N:Nat):=(blockK 0 (sqK A_V106 N 19 500009 Tryz.f78 [1,1,1] wyd))
noncomputable def w4z (N:Nat) (st':St):Z0:=rn A_V106 N Tryz.f78 [1,1,1] st' wyd
theorem xni (N):wd8 N N (wnp N)=wut N:=by
 rw[show wd8 N N (wnp N)=wd8 N N (w4x (w4z N) fun j=>(wnp N) (.exit j)) from(by funext _ _ _ _;exact jk7),w83,show w4y (w4z N)=wav by kernel_rfl];rfl
theorem run_V106 (N x):runF A_V106 N Tryz.f78 S_V106 x=V106 N x.1 x.2.1:=(show _=(wyc (wd8 N N (wnp N)) x.1 x.2.1) by kernel_rfl).trans (by rw[xni N];rfl)
theorem ok_V106:OK 78 S_V106:=gdR (A:=A_V106) tc Tryz.func78 (jed trivial) (run_V106 big)
def xd6 (a_0:Y7) (p_1:Y4):Z0 :=
  (V106 big a_0.1 p_1).bind fun rq1 =>
  cond rq1.1
  ((V92 p_1).bind fun rq2 =>
  (V51 big a_0 rq2.1).bind fun rq3 =>
  some (!rq3.1,(())))
  (some (false,(())))
def V107 (a_0:Y7) (p_1:Y4):Z0:=xd6 a_0 p_1
def S_V107:Sig:=⟨(.pair Q1 Q14),[0,0],[],.unit,.bool,.i,fun x=>V107 x.1 x.2.1⟩
def A_V107:Cfg:=mkCfg tab [(78,S_V106),(80,S_V92),(79,S_V51)] []
theorem run_V107 (N x):runF A_V107 N Tryz.f42 S_V107 x=V107 x.1 x.2.1:=by kernel_rfl
theorem ok_V107:OK 42 S_V107:=gdR (A:=A_V107) tc Tryz.func42 (jed ⟨ok_V106,ok_V92,ok_V51,trivial⟩) (run_V107 big)
def xd7 (p_0:Y2) (c_1:Y4):Z9 :=
  (V33 p_0).bind fun rq1 =>
  cond (!rq1.1.2.1)
  (some (([],false,()),(())))
  ((V48 rq1.1.1).bind fun rq2 =>
  (V107 rq2.1 c_1).bind fun rq3 =>
  cond (!rq3.1)
  (some (([],false,()),(())))
  ((V54 big rq1.1.1 c_1).bind fun rq4 =>
  some ((rq4.1,true,()),(()))))
def V108 (p_0:Y2) (c_1:Y4):Z9:=xd7 p_0 c_1
def S_V108:Sig:=⟨(.pair Q0 Q14),[0,0],[],.unit,(.tup (.pair Q3 Q16)),(.p O2 .i),fun x=>V108 x.1 x.2.1⟩
def A_V108:Cfg:=mkCfg tab [(28,S_V33),(38,S_V48),(42,S_V107),(43,S_V54)] []
theorem run_V108 (N x):runF A_V108 N Tryz.f12 S_V108 x=V108 x.1 x.2.1:=by kernel_rfl
theorem ok_V108:OK 12 S_V108:=gdR (A:=A_V108) tc Tryz.func12 (jed ⟨ok_V33,ok_V48,ok_V107,ok_V54,trivial⟩) (run_V108 big)
def wnr (rec:T144) (k:Z5) (a0:Y3) (a1:Y4) (a5:Int):Z5 :=
  cond (decide (a5<(a0.length:Int)))
  ((atI a0 a5).bind fun xq1 =>
  (V86 big xq1 a1).bind fun rq2 =>
  cond rq2.1
  (some (a5,(())))
  (rec a0 a1 (IntKind.i64.wrap (a5+1))))
  (k)
def web:Z5 :=
  some ((-1:Int),(()))
def wye (L2:T144) (tables_0:Y3) (t_1:Y4):Z5 :=
  L2 tables_0 t_1 0
def wuw (N:Nat) (k:Z5):=itN (fun r=>wnr r k) fun _ _ _=>none
def wuv (N:Nat):=wuw N (web) N
def V109 (N:Nat) (tables_0:Y3) (t_1:Y4):Z5:=wye (wuv N) tables_0 t_1
def S_V109:Sig:=⟨(.pair Q11 Q14),[0,0],[],.unit,I,.i,fun x=>V109 big x.1 x.2.1⟩
def A_V109:Cfg:=mkCfg tab [(14,S_V86)] [(4,([B4,B2]++dr 3 [B0])),(13,[])]
noncomputable def wea (N n:Nat) (K:T87) (a0:Y3) (a1:Y4) (a5:Int):Z5:=itr A_V109 N 4 Tryz.f13 [1,0,1,0,0] n (([W4 a0,W2 a1]++ud 3 [W0 a5])++us 13) K
noncomputable def wyf:Ex→St→Z5:=finish A_V109 S_V109 Tryz.f13.results.toList
noncomputable def w41 (kX:T56):Z5:=kX ([]++us 19)
noncomputable def w40 (kX:T56) (kO:T47):=exK wyf 0 (A_V109.shape 13) kX kO
theorem w84 (N kX kO):∀n,wea N n (w40 kX kO)=wuw N (w41 kX) n :=
 itE rfl fun m=>by kernel_rfl
noncomputable def wnq (N:Nat):=(blockK 0 (sqK A_V109 N 13 500006 Tryz.f13 [1,1] wyf))
noncomputable def w42 (N:Nat) (st':St):Z5:=rn A_V109 N Tryz.f13 [1,1] st' wyf
theorem xnj (N):wea N N (wnq N)=wuv N:=by
 rw[show wea N N (wnq N)=wea N N (w40 (w42 N) fun j=>(wnq N) (.exit j)) from(by funext _ _ _;exact jk7),w84,show w41 (w42 N)=web by kernel_rfl];rfl
theorem run_V109 (N x):runF A_V109 N Tryz.f13 S_V109 x=V109 N x.1 x.2.1:=(show _=(wye (wea N N (wnq N)) x.1 x.2.1) by kernel_rfl).trans (by rw[xnj N];rfl)
theorem ok_V109:OK 13 S_V109:=gdR (A:=A_V109) tc Tryz.func13 (jed ⟨ok_V86,trivial⟩) (run_V109 big)
def wed (rec:T11) (k:T14) (a3 a7:Y4) (a8 a9:Int):Z2 :=
  cond (decide (a9<a8))
  ((atI a7 a9).bind fun xq1 =>
  cond (decide (xq1=a9))
  ((appI a3 [xq1]).bind fun xq2 =>
  rec xq2 a7 a8 (IntKind.i64.wrap (a9+1)))
  (rec a3 a7 a8 (IntKind.i64.wrap (a9+1))))
  (k a3)
def waw (a3:Y4):Z2 :=
  some (a3,(()))
def wyi (L3:T11) (p_0:Y4):Z2 :=
  L3 [] p_0 (p_0.length:Int) 0
def wuy (N:Nat) (k:T14):=itN (fun r=>wed r k) fun _ _ _ _=>none
def wux (N:Nat):=wuy N (waw) N
def V110 (N:Nat) (p_0:Y4):Z2:=wyi (wux N) p_0
def S_V110:Sig:=⟨Q14,[0],[],.unit,Q3,O2,fun x=>V110 big x.1⟩
def A_V110:Cfg:=mkCfg tab [] [(6,(dr 3 ([B1]++dr 3 [B2,B0,B0]))),(17,(dr 3 [B1]))]
noncomputable def wec (N n:Nat) (K:T13) (a3 a7:Y4) (a8 a9:Int):Z2:=itr A_V110 N 6 Tryz.f44 [1,1,0,1,0,0] n ((ud 3 ([W1 a3]++ud 3 [W2 a7,W0 a8,W0 a9]))++us 13) K
noncomputable def wyj:Ex→St→Z2:=finish A_V110 S_V110 Tryz.f44.results.toList
noncomputable def w44 (kX:T4) (a3:Y4):Z2:=kX ((ud 3 [W1 a3])++us 19)
noncomputable def w43 (kX:T4) (kO:T3):=exK wyj 0 (A_V110.shape 17) kX kO
theorem w87 (N kX kO):∀n,wec N n (w43 kX kO)=wuy N (w44 kX) n :=
 itE rfl fun m=>by kernel_rfl
noncomputable def wns (N:Nat):=(blockK 0 (sqK A_V110 N 17 500008 Tryz.f44 [1,1,1] wyj))
noncomputable def w45 (N:Nat) (st':St):Z2:=rn A_V110 N Tryz.f44 [1,1,1] st' wyj
theorem xnk (N):wec N N (wns N)=wux N:=by
 rw[show wec N N (wns N)=wec N N (w43 (w45 N) fun j=>(wns N) (.exit j)) from(by funext _ _ _ _;exact jk7),w87,show w44 (w45 N)=waw by kernel_rfl];rfl
theorem run_V110 (N x):runF A_V110 N Tryz.f44 S_V110 x=V110 N x.1:=(show _=(wyi (wec N N (wns N)) x.1) by kernel_rfl).trans (by rw[xnk N];rfl)
theorem ok_V110:OK 44 S_V110:=gdR (A:=A_V110) tc Tryz.func44 (jed trivial) (run_V110 big)
def weg (rec:T39) (k:Y5→Y2→Y2→Y4→Int→Int→Z4) (a0:Y5) (a2 a3:Y2) (a4:Int) (a5:Y4) (a10 a11 a16 a17:Int):Z4 :=
  cond (decide (a17<a16))
  ((atI a0 a17).bind fun xq1 =>
  (atI xq1 a4).bind fun xq2 =>
  cond xq2
  ((appI a5 [a17]).bind fun xq3 =>
  rec a0 a2 a3 a4 xq3 a10 a11 a16 (IntKind.i64.wrap (a17+1)))
  (rec a0 a2 a3 a4 a5 a10 a11 a16 (IntKind.i64.wrap (a17+1))))
  (k a0 a2 a3 a5 a10 a11)
def way (rec:T57) (a0:Y5) (a2 a3:Y2) (a5:Y4) (a10 a11:Int):Z4 :=
  (appI a3.1 [a5]).bind fun xq4 =>
  rec a0 a2 (xq4,((),a3.2).2) a10 (IntKind.i64.wrap (a11+1))
def waz (L7:T39) (k:T52) (a0:Y5) (a2 a3:Y2) (a10 a11:Int):Z4 :=
  cond (decide (a11<a10))
  (L7 a0 a2 a3 a11 [] a10 a11 (a0.length:Int) 0)
  (k a2 a3)
def xo (a2 a3:Y2):Z4 :=
  some (a3,(()))
def wyk (L3:T57) (o_0:Y5):Z4 :=
  L3 o_0 (([]:Y3),()) ([],()) (o_0.length:Int) 0
def wu1 (N:Nat) (k:Y5→Y2→Y2→Y4→Int→Int→Z4):=itN (fun r=>weg r k) fun _ _ _ _ _ _ _ _ _=>none
def wee (N:Nat) (rec:T57) (k:T52):=wu1 N (way rec) N
def wu0 (N:Nat) (k:T52):=itN (fun r=>waz (wee N r k) k) fun _ _ _ _ _=>none
def wuz (N:Nat):=wu0 N (xo) N
def V111 (N:Nat) (o_0:Y5):Z4:=wyk (wuz N) o_0
def S_V111:Sig:=⟨(.pair Q6 .unit),[0],[],.unit,Q0,(.p O13 .i),fun x=>V111 big x.1⟩
def A_V111:Cfg:=mkCfg tab [] [(6,([.as Q6 .i,D0,B3,B3]++dr 6 [B0,B0])),(14,([.as Q6 .i,D0,B3,B3,B0,B1]++dr 4 ([B0,B0]++dr 4 [B0,B0]))),(29,[D0,D0,B3,B3]),(25,([.as Q6 .i,D0,B3,B3,D0,B1]++dr 4 [B0,B0]))]
noncomputable def yt (N n:Nat) (K:T53) (a0:Y5) (a2 a3:Y2) (a10 a11:Int):Z4:=itr A_V111 N 6 Tryz.f46 [1,1,0,1,0,0] n (([.val Q6 .i a0,.u,W3 a2,W3 a3]++ud 6 [W0 a10,W0 a11])++us 28) K
noncomputable def wef (N n:Nat) (K:T53) (a0:Y5) (a2 a3:Y2) (a4:Int) (a5:Y4) (a10 a11 a16 a17:Int):Z4:=itr A_V111 N 14 Tryz.f46 [1,1,0,1,0,0,1,1,0,0,1,1,0,1,0,0] n (([.val Q6 .i a0,.u,W3 a2,W3 a3,W0 a4,W1 a5]++ud 4 ([W0 a10,W0 a11]++ud 4 [W0 a16,W0 a17]))++us 22) K
noncomputable def wqn:Ex→St→Z4:=finish A_V111 S_V111 Tryz.f46.results.toList
noncomputable def wnv (kX:T21) (a2 a3:Y2):Z4:=kX ([.u,.u,W3 a2,W3 a3]++us 36)
noncomputable def wax (kX:T21) (kO:T9):=exK wqn 0 (A_V111.shape 29) kX kO
noncomputable def w47 (kX:T21) (a0:Y5) (a2 a3:Y2) (a5:Y4) (a10 a11:Int):Z4:=kX (([.val Q6 .i a0,.u,W3 a2,W3 a3,.u,W1 a5]++ud 4 [W0 a10,W0 a11])++us 28)
noncomputable def w46 (kX:T21) (kO:T9):=exK wqn 2 (A_V111.shape 25) kX kO
theorem w89 (N kX kO):∀n,wef N n (w46 kX kO)=wu1 N (w47 kX) n :=
 itE rfl fun m=>by kernel_rfl
noncomputable def wnu (N m:Nat) (kX:T21) (kO:T9):=(blockK 2 (sqK A_V111 N 25 500012 Tryz.f46 [1,1,0,1,0,0,1,1,0,0,1,1,1] (blockK 1 (sqK A_V111 N 27 500013 Tryz.f46 [1,1,0,1,0,0,1,1,1] (itK A_V111 N 6 Tryz.f46 [1,1,0,1,0,0] m (wax kX kO))))))
noncomputable def w49 (N m:Nat) (kX:T21) (kO:T9) (st':St):Z4:=rn A_V111 N Tryz.f46 [1,1,0,1,0,0,1,1,0,0,1,1,1] st' (blockK 1 (sqK A_V111 N 27 500013 Tryz.f46 [1,1,0,1,0,0,1,1,1] (itK A_V111 N 6 Tryz.f46 [1,1,0,1,0,0] m (wax kX kO))))
theorem xnm (N m kX kO) {r}(h:yt N m (wax kX kO)=r):wef N N (wnu N m kX kO)=wee N r (wnv kX):=by
 rw[show wef N N (wnu N m kX kO)=wef N N (w46 (w49 N m kX kO) fun j=>(wnu N m kX kO) (.exit j)) from(by funext _ _ _ _ _ _ _ _ _;exact jk7),w89,show w47 (w49 N m kX kO)=way (yt N m (wax kX kO)) by kernel_rfl,h];rfl
theorem w88 (N kX kO):∀n,yt N n (wax kX kO)=wu0 N (wnv kX) n :=
 itE rfl fun m=>(show _=waz (wef N N (wnu N m kX kO)) (wnv kX) by kernel_rfl).trans (by rw[xnm N m kX kO rfl]<;>rfl)
noncomputable def wnt (N:Nat):=(blockK 0 (sqK A_V111 N 29 500014 Tryz.f46 [1,1,1] wqn))
noncomputable def w48 (N:Nat) (st':St):Z4:=rn A_V111 N Tryz.f46 [1,1,1] st' wqn
theorem xnl (N):yt N N (wnt N)=wuz N:=by
 rw[show yt N N (wnt N)=yt N N (wax (w48 N) fun j=>(wnt N) (.exit j)) from(by funext _ _ _ _ _;exact jk7),w88,show wnv (w48 N)=xo by kernel_rfl];rfl
theorem run_V111 (N x):runF A_V111 N Tryz.f46 S_V111 x=V111 N x.1:=(show _=(wyk (yt N N (wnt N)) x.1) by kernel_rfl).trans (by rw[xnl N];rfl)
theorem ok_V111:OK 46 S_V111:=gdR (A:=A_V111) tc Tryz.func46 (jed trivial) (run_V111 big)
def wcq (rec:T26) (k:T17) (a1:Y4) (a4:Y2) (a6:Y1) (a8:Y4) (a9:Y5) (a10 a11 a35 a36 a42 a43:Int):Z13 :=
  cond (decide (a43<a42))
  ((atI a8 a43).bind fun _ =>
  (a8[a43.toNat]?).bind fun xq8 =>
  (atI a9 a10).bind fun _ =>
  (a9[a10.toNat]?).bind fun xq9 =>
  (a6).bind fun xq10 =>
  (atI xq10.2.1 a11).bind fun xq11 =>
  (atI xq11 xq8).bind fun xq12 =>
  (atI a1 xq12).bind fun xq13 =>
  (a9[a10.toNat]?).bind fun xq14 =>
  (atI xq14 a43).bind fun _ =>
  (a9[a10.toNat]?).bind fun xq15 =>
  (xq15[a43.toNat]?).bind fun xq16 =>
  rec a1 a4 a6 a8 (a9.set a10.toNat (xq15.set a43.toNat (decide (xq13=a11)))) a10 a11 a35 a36 a42 (IntKind.i64.wrap (a43+1)))
  (k a1 a4 a6 a8 a9 a35 a36)
def yv (rec:T17) (a1:Y4) (a4:Y2) (a6:Y1) (a8:Y4) (a9:Y5) (a35 a36:Int):Z13 :=
  rec a1 a4 a6 a8 a9 a35 (IntKind.i64.wrap (a36+1))
def wa1 (L10:T26) (k:Y2→Y5→Z13) (a1:Y4) (a4:Y2) (a6:Y1) (a8:Y4) (a9:Y5) (a35 a36:Int):Z13 :=
  cond (decide (a36<a35))
  ((atI a8 a36).bind fun _ =>
  (a8[a36.toNat]?).bind fun xq6 =>
  L10 a1 a4 a6 a8 a9 a36 xq6 a35 a36 (a8.length:Int) 0)
  (k a4 a9)
def xp (a4:Y2) (a9:Y5):Z13 :=
  (V111 big a9).bind fun rq7 =>
  some ((rq7.1,true,()),(()))
def wyo (L7:T17) (p_0:Y2) (c_1:Y4):Z13 :=
  (V33 p_0).bind fun rq1 =>
  cond (!rq1.1.2.1)
  (some (((([]:Y3),()),false,()),(())))
  ((V48 rq1.1.1).bind fun rq2 =>
  (V107 rq2.1 c_1).bind fun rq3 =>
  cond (!rq3.1)
  (some (((([]:Y3),()),false,()),(())))
  ((V110 big c_1).bind fun rq4 =>
  (V22 big (rq4.1.length:Int)).bind fun rq5 =>
  L7 c_1 (([]:Y3),()) rq1.1.1 rq4.1 rq5.1 (rq4.1.length:Int) 0))
def wp8 (N:Nat) (k:T17):=itN (fun r=>wcq r k) fun _ _ _ _ _ _ _ _ _ _ _=>none
def wco (N:Nat) (rec:T17) (k:Y2→Y5→Z13):=wp8 N (yv rec) N
def wu2 (N:Nat) (k:Y2→Y5→Z13):=itN (fun r=>wa1 (wco N r k) k) fun _ _ _ _ _ _ _=>none
def wnw (N:Nat):=wu2 N (xp) N
def V112 (N:Nat) (p_0:Y2) (c_1:Y4):Z13:=wyo (wnw N) p_0 c_1
def S_V112:Sig:=⟨(.pair Q0 Q14),[0,0],[],.unit,(.tup (.pair Q0 Q16)),(.p (.p O13 .i) .i),fun x=>V112 big x.1 x.2.1⟩
def A_V112:Cfg:=mkCfg tab [(28,S_V33),(38,S_V48),(42,S_V107),(44,S_V110),(45,S_V22),(46,S_V111)] [(14,([D0,B2,D0,D0,B3,D0,.as Q10 .i,D0,B1,B8]++dr 24 [.keep,B0,B0])),(20,([D0,B2,D0,D0,B3,D0,.as Q10 .i,D0,B1,B8,B0,B0]++dr 22 ([.keep,B0,B0]++dr 4 [.keep,B0,B0]))),(31,(dr 4 ([B3]++dr 4 [B8]))),(29,([D0,B2,D0,D0,B3,D0,.as Q10 .i,D0,B1,B8]++dr 24 [.keep,B0,B0]))]
noncomputable def yu (N n:Nat) (K:Ex→St→Z13) (a1:Y4) (a4:Y2) (a6:Y1) (a8:Y4) (a9:Y5) (a35 a36:Int):Z13:=itr A_V112 N 14 Tryz.f15 [1,1,1,1,1,0,1,0,0] n ([.u,W2 a1,.u,.u,W3 a4,.u,.val Q10 .i a6,.u,W1 a8,W8 a9,.u,.u,.u,.u,.u,.u,.u,.u,.u,.u,.u,.u,.u,.u,.u,.u,.u,.u,.u,.u,.u,.u,.u,.u,.ref 8 [] .val,W0 a35,W0 a36]++us 36) K
noncomputable def wcp (N n:Nat) (K:Ex→St→Z13) (a1:Y4) (a4:Y2) (a6:Y1) (a8:Y4) (a9:Y5) (a10 a11 a35 a36 a42 a43:Int):Z13:=itr A_V112 N 20 Tryz.f15 [1,1,1,1,1,0,1,0,0,1,1,0,0,1,1,0,0] n ([.u,W2 a1,.u,.u,W3 a4,.u,.val Q10 .i a6,.u,W1 a8,W8 a9,W0 a10,W0 a11,.u,.u,.u,.u,.u,.u,.u,.u,.u,.u,.u,.u,.u,.u,.u,.u,.u,.u,.u,.u,.u,.u,.ref 8 [] .val,W0 a35,W0 a36,.u,.u,.u,.u,.ref 8 [] .val,W0 a42,W0 a43]++us 29) K
noncomputable def wqo:Ex→St→Z13:=finish A_V112 S_V112 Tryz.f15.results.toList
noncomputable def wny (kX:St→Z13) (a4:Y2) (a9:Y5):Z13:=kX ((ud 4 ([W3 a4]++ud 4 [W8 a9]))++us 63)
noncomputable def wa0 (kX:St→Z13) (kO:Nat→St→Z13):=exK wqo 0 (A_V112.shape 31) kX kO
noncomputable def wym (kX:St→Z13) (a1:Y4) (a4:Y2) (a6:Y1) (a8:Y4) (a9:Y5) (a35 a36:Int):Z13:=kX ([.u,W2 a1,.u,.u,W3 a4,.u,.val Q10 .i a6,.u,W1 a8,W8 a9,.u,.u,.u,.u,.u,.u,.u,.u,.u,.u,.u,.u,.u,.u,.u,.u,.u,.u,.u,.u,.u,.u,.u,.u,.ref 8 [] .val,W0 a35,W0 a36]++us 36)
noncomputable def wyl (kX:St→Z13) (kO:Nat→St→Z13):=exK wqo 2 (A_V112.shape 29) kX kO
theorem w4a (N kX kO):∀n,wcp N n (wyl kX kO)=wp8 N (wym kX) n :=
 itE rfl fun m=>by kernel_rfl
noncomputable def wi8 (N m:Nat) (kX:St→Z13) (kO:Nat→St→Z13):=(blockK 2 (blockK 1 (sqK A_V112 N 29 500014 Tryz.f15 [1,1,1,1,1,0,1,0,0,1,1,1] (itK A_V112 N 14 Tryz.f15 [1,1,1,1,1,0,1,0,0] m (wa0 kX kO)))))
noncomputable def wyn (N m:Nat) (kX:St→Z13) (kO:Nat→St→Z13) (st':St):Z13:=rn A_V112 N Tryz.f15 [1,1,1,1,1,0,1,0,0,1,1,1] st' (itK A_V112 N 14 Tryz.f15 [1,1,1,1,1,0,1,0,0] m (wa0 kX kO))
theorem xec (N m kX kO) {r}(h:yu N m (wa0 kX kO)=r):wcp N N (wi8 N m kX kO)=wco N r (wny kX):=by
 rw[show wcp N N (wi8 N m kX kO)=wcp N N (wyl (wyn N m kX kO) fun j=>(wi8 N m kX kO) (.exit j)) from(by funext _ _ _ _ _ _ _ _ _ _ _;exact jk7),w4a,show wym (wyn N m kX kO)=yv (yu N m (wa0 kX kO)) by kernel_rfl,h];rfl
theorem w9a (N kX kO):∀n,yu N n (wa0 kX kO)=wu2 N (wny kX) n :=
 itE rfl fun m=>(show _=wa1 (wcp N N (wi8 N m kX kO)) (wny kX) by kernel_rfl).trans (by rw[xec N m kX kO rfl]<;>rfl)
noncomputable def wnx (N:Nat):=(blockK 0 (sqK A_V112 N 31 500015 Tryz.f15 [1,1,1,1,1,1] wqo))
noncomputable def w5a (N:Nat) (st':St):Z13:=rn A_V112 N Tryz.f15 [1,1,1,1,1,1] st' wqo
theorem xno (N):yu N N (wnx N)=wnw N:=by
 rw[show yu N N (wnx N)=yu N N (wa0 (w5a N) fun j=>(wnx N) (.exit j)) from(by funext _ _ _ _ _ _ _;exact jk7),w9a,show wny (w5a N)=xp by kernel_rfl];rfl
theorem run_V112 (N x):runF A_V112 N Tryz.f15 S_V112 x=V112 N x.1 x.2.1:=(show _=(wyo (yu N N (wnx N)) x.1 x.2.1) by kernel_rfl).trans (by rw[xno N];rfl)
theorem ok_V112:OK 15 S_V112:=gdR (A:=A_V112) tc Tryz.func15 (jed ⟨ok_V33,ok_V48,ok_V107,ok_V110,ok_V22,ok_V111,trivial⟩) (run_V112 big)
def xed (p_0:Y2):Z0 :=
  (V32 p_0).bind fun rq1 =>
  some (rq1.1.2.1,(()))
def V113 (p_0:Y2):Z0:=xed p_0
def S_V113:Sig:=⟨Q18,[0],[],.unit,.bool,.i,fun x=>V113 x.1⟩
def A_V113:Cfg:=mkCfg tab [(47,S_V32)] []
theorem run_V113 (N x):runF A_V113 N Tryz.f16 S_V113 x=V113 x.1:=by kernel_rfl
theorem ok_V113:OK 16 S_V113:=gdR (A:=A_V113) tc Tryz.func16 (jed ⟨ok_V32,trivial⟩) (run_V113 big)
end
end Go.Proofs.YtaehhdpcmfagjaaGreat
