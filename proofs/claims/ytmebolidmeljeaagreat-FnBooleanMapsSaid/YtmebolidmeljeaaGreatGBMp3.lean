import Derived.Test.YtmebolidmeljeaaGreatGBMp2
set_option maxRecDepth 100000
set_option linter.unusedVariables false
namespace Go.Proofs.YtmebolidmeljeaaGreat
open Go Go.Gx Go.Proofs
def wjb (rec:T31) (k:T16) (a0:Y1) (a3 a4 a10 a11 a18 a19 a26 a27:Int):Z10 :=
  cond (decide (a27<a26))
  ((a0).bind fun xq4 =>
  (atI xq4.2.1 a3).bind fun xq5 =>
  (a0).bind fun xq6 =>
  (atI xq6.2.2.1 a4).bind fun xq7 =>
  (atI xq7 a27).bind fun xq8 =>
  (atI xq5 xq8).bind fun xq9 =>
  (a0).bind fun xq10 =>
  (a0).bind fun xq11 =>
  (atI xq11.2.1 a3).bind fun xq12 =>
  (atI xq12 a4).bind fun xq13 =>
  (atI xq10.2.2.1 xq13).bind fun xq14 =>
  (a0).bind fun xq15 =>
  (atI xq15.2.1 a3).bind fun xq16 =>
  (atI xq16 a27).bind fun xq17 =>
  (atI xq14 xq17).bind fun xq18 =>
  cond (decide (xq9≠xq18))
  (some ((some [a3,a4,a27]),(())))
  (rec a0 a3 a4 a10 a11 a18 a19 a26 (IntKind.i64.wrap (a27+1))))
  (k a0 a3 a10 a11 a18 a19)
def wez (rec:T16) (a0:Y1) (a3 a10 a11 a18 a19:Int):Z10 :=
  rec a0 a3 a10 a11 a18 (IntKind.i64.wrap (a19+1))
def we1 (L8:T31) (k:T41) (a0:Y1) (a3 a10 a11 a18 a19:Int):Z10 :=
  cond (decide (a19<a18))
  ((a0).bind fun xq3 =>
  L8 a0 a3 a19 a10 a11 a18 a19 (xq3.1.length:Int) 0)
  (k a0 a10 a11)
def za (rec:T41) (a0:Y1) (a10 a11:Int):Z10 :=
  rec a0 a10 (IntKind.i64.wrap (a11+1))
def we0 (L5:T16) (k:Z10) (a0:Y1) (a10 a11:Int):Z10 :=
  cond (decide (a11<a10))
  ((a0).bind fun xq2 =>
  L5 a0 a11 a10 a11 (xq2.1.length:Int) 0)
  (k)
def y9:Z10 :=
  some (none,(()))
def w3r (L2:T41) (l_0:Y1):Z10 :=
  (l_0).bind fun xq1 =>
  L2 l_0 (xq1.1.length:Int) 0
def wwm (N:Nat) (k:T16):=itN (fun r=>wjb r k) fun _ _ _ _ _ _ _ _ _=>none
def wi9 (N:Nat) (rec:T16) (k:T41):=wwm N (wez rec) N
def wwl (N:Nat) (k:T41):=itN (fun r=>we1 (wi9 N r k) k) fun _ _ _ _ _ _=>none
def wi8 (N:Nat) (rec:T41) (k:Z10):=wwl N (za rec) N
def wwk (N:Nat) (k:Z10):=itN (fun r=>we0 (wi8 N r k) k) fun _ _ _=>none
def wwj (N:Nat):=wwk N (y9) N
def V52 (N:Nat) (l_0:Y1):Z10:=w3r (wwj N) l_0
def S_V52:Sig:=⟨(.pair Q1 .unit),[0],[],.unit,(.ns I),.i,fun x=>V52 big x.1⟩
def A_V52:Cfg:=mkCfg tab [] [(4,([B5]++dr 9 [B0,B0])),(10,([B5,D0,D0,B0]++dr 6 ([B0,B0]++dr 6 [B0,B0]))),(31,[]),(16,([B5,D0,D0,B0,B0]++dr 5 ([B0,B0]++dr 6 ([B0,B0]++dr 6 [B0,B0])))),(29,([B5]++dr 9 [B0,B0])),(27,([B5,D0,D0,B0]++dr 6 ([B0,B0]++dr 6 [B0,B0])))]
noncomputable def wbl (N n:Nat) (K:Ex→St→Z10) (a0:Y1) (a10 a11:Int):Z10:=itr A_V52 N 4 Tryz.f105 [1,0,1,0,0] n (([W5 a0]++ud 9 [W0 a10,W0 a11])++us 73) K
noncomputable def wbm (N n:Nat) (K:Ex→St→Z10) (a0:Y1) (a3 a10 a11 a18 a19:Int):Z10:=itr A_V52 N 10 Tryz.f105 [1,0,1,0,0,1,1,0,0,1,1,0,0] n (([W5 a0,.u,.u,W0 a3]++ud 6 ([W0 a10,W0 a11]++ud 6 [W0 a18,W0 a19]))++us 65) K
noncomputable def wja (N n:Nat) (K:Ex→St→Z10) (a0:Y1) (a3 a4 a10 a11 a18 a19 a26 a27:Int):Z10:=itr A_V52 N 16 Tryz.f105 [1,0,1,0,0,1,1,0,0,1,1,0,0,1,1,0,0,1,1,0,0] n (([W5 a0,.u,.u,W0 a3,W0 a4]++ud 5 ([W0 a10,W0 a11]++ud 6 ([W0 a18,W0 a19]++ud 6 [W0 a26,W0 a27])))++us 57) K
noncomputable def wo1:Ex→St→Z10:=finish A_V52 S_V52 Tryz.f105.results.toList
noncomputable def woz (kX:T107):Z10:=kX ([]++us 85)
noncomputable def wex (kX:T107) (kO:T96):=exK wo1 0 (A_V52.shape 31) kX kO
noncomputable def wo0 (kX:T107) (a0:Y1) (a10 a11:Int):Z10:=kX (([W5 a0]++ud 9 [W0 a10,W0 a11])++us 73)
noncomputable def wey (kX:T107) (kO:T96):=exK wo1 2 (A_V52.shape 29) kX kO
noncomputable def xad (kX:T107) (a0:Y1) (a3 a10 a11 a18 a19:Int):Z10:=kX (([W5 a0,.u,.u,W0 a3]++ud 6 ([W0 a10,W0 a11]++ud 6 [W0 a18,W0 a19]))++us 65)
noncomputable def xac (kX:T107) (kO:T96):=exK wo1 4 (A_V52.shape 27) kX kO
theorem xag (N kX kO):∀n,wja N n (xac kX kO)=wwm N (xad kX) n :=
 itE rfl fun m=>by kernel_rfl
noncomputable def woy (N m:Nat) (kX:T107) (kO:T96):=(blockK 4 (blockK 3 (sqK A_V52 N 27 500013 Tryz.f105 [1,0,1,0,0,1,1,0,0,1,1,0,0,1,1,1] (itK A_V52 N 10 Tryz.f105 [1,0,1,0,0,1,1,0,0,1,1,0,0] m (wey kX kO)))))
noncomputable def xaj (N m:Nat) (kX:T107) (kO:T96) (st':St):Z10:=rn A_V52 N Tryz.f105 [1,0,1,0,0,1,1,0,0,1,1,0,0,1,1,1] st' (itK A_V52 N 10 Tryz.f105 [1,0,1,0,0,1,1,0,0,1,1,0,0] m (wey kX kO))
theorem xja (N m kX kO) {r}(h:wbm N m (wey kX kO)=r):wja N N (woy N m kX kO)=wi9 N r (wo0 kX):=by
 rw[show wja N N (woy N m kX kO)=wja N N (xac (xaj N m kX kO) fun j=>(woy N m kX kO) (.exit j)) from(by funext _ _ _ _ _ _ _ _ _;exact jlo),xag,show xad (xaj N m kX kO)=wez (wbm N m (wey kX kO)) by kernel_rfl,h];rfl
theorem xaf (N kX kO):∀n,wbm N n (wey kX kO)=wwl N (wo0 kX) n :=
 itE rfl fun m=>(show _=we1 (wja N N (woy N m kX kO)) (wo0 kX) by kernel_rfl).trans (by rw[xja N m kX kO rfl]<;>rfl)
noncomputable def wox (N m:Nat) (kX:T107) (kO:T96):=(blockK 2 (blockK 1 (sqK A_V52 N 29 500014 Tryz.f105 [1,0,1,0,0,1,1,1] (itK A_V52 N 4 Tryz.f105 [1,0,1,0,0] m (wex kX kO)))))
noncomputable def xai (N m:Nat) (kX:T107) (kO:T96) (st':St):Z10:=rn A_V52 N Tryz.f105 [1,0,1,0,0,1,1,1] st' (itK A_V52 N 4 Tryz.f105 [1,0,1,0,0] m (wex kX kO))
theorem xi9 (N m kX kO) {r}(h:wbl N m (wex kX kO)=r):wbm N N (wox N m kX kO)=wi8 N r (woz kX):=by
 rw[show wbm N N (wox N m kX kO)=wbm N N (wey (xai N m kX kO) fun j=>(wox N m kX kO) (.exit j)) from(by funext _ _ _ _ _ _;exact jlo),xaf,show wo0 (xai N m kX kO)=za (wbl N m (wex kX kO)) by kernel_rfl,h];rfl
theorem xae (N kX kO):∀n,wbl N n (wex kX kO)=wwk N (woz kX) n :=
 itE rfl fun m=>(show _=we0 (wbm N N (wox N m kX kO)) (woz kX) by kernel_rfl).trans (by rw[xi9 N m kX kO rfl]<;>rfl)
noncomputable def wow (N:Nat):=(blockK 0 (sqK A_V52 N 31 500015 Tryz.f105 [1,1] wo1))
noncomputable def xah (N:Nat) (st':St):Z10:=rn A_V52 N Tryz.f105 [1,1] st' wo1
theorem xi8 (N):wbl N N (wow N)=wwj N:=by
 rw[show wbl N N (wow N)=wbl N N (wex (xah N) fun j=>(wow N) (.exit j)) from(by funext _ _ _;exact jlo),xae,show woz (xah N)=y9 by kernel_rfl];rfl
theorem run_V52 (N x):runF A_V52 N Tryz.f105 S_V52 x=V52 N x.1:=(show _=(w3r (wbl N N (wow N)) x.1) by kernel_rfl).trans (by rw[xi8 N];rfl)
theorem ok_V52:OK 105 S_V52:=gdR (A:=A_V52) tc Tryz.func105 (jeq trivial) (run_V52 big)
def w3s (p_0:Y2):Option ((Y1×Z1)×Unit) :=
  (V51 p_0).bind fun rq1 =>
  cond rq1.1.2.1
  ((V52 big rq1.1.1).bind fun rq2 =>
  some ((rq1.1.1,rq2.1.isNone,()),(())))
  (some ((rq1.1.1,false,()),(())))
def V53 (p_0:Y2):Option ((Y1×Z1)×Unit):=w3s p_0
def S_V53:Sig:=⟨Q10,[0],[],.unit,(.tup (.pair Q1 Q12)),.i,fun x=>V53 x.1⟩
def A_V53:Cfg:=mkCfg tab [(72,S_V51),(105,S_V52)] []
theorem run_V53 (N x):runF A_V53 N Tryz.f81 S_V53 x=V53 x.1:=by kernel_rfl
theorem ok_V53:OK 81 S_V53:=gdR (A:=A_V53) tc Tryz.func81 (jeq ⟨ok_V51,ok_V52,trivial⟩) (run_V53 big)
def wjd (rec:T40) (k:Int→Z7) (a0:Y1) (a3 a9 a10:Int):Z7 :=
  cond (decide (a10<a9))
  ((a0).bind fun xq2 =>
  (atI xq2.2.1 a3).bind fun xq3 =>
  (atI xq3 a10).bind fun xq4 =>
  rec a0 xq4 a9 (IntKind.i64.wrap (a10+1)))
  (k a3)
def we2 (a3:Int):Z7 :=
  some (a3,(()))
def w3t (L3:T40) (l_0:Y1):Z7 :=
  (l_0).bind fun xq1 =>
  L3 l_0 0 (xq1.1.length:Int) 0
def wwo (N:Nat) (k:Int→Z7):=itN (fun r=>wjd r k) fun _ _ _ _=>none
def wwn (N:Nat):=wwo N (we2) N
def V54 (N:Nat) (l_0:Y1):Z7:=w3t (wwn N) l_0
def S_V54:Sig:=⟨(.pair Q1 .unit),[0],[],.unit,I,.i,fun x=>V54 big x.1⟩
def A_V54:Cfg:=mkCfg tab [] [(6,([B5,D0,D0,B0]++dr 5 [B0,B0])),(15,(dr 3 [B0]))]
noncomputable def wjc (N n:Nat) (K:T88) (a0:Y1) (a3 a9 a10:Int):Z7:=itr A_V54 N 6 Tryz.f45 [1,1,0,1,0,0] n (([W5 a0,.u,.u,W0 a3]++ud 5 [W0 a9,W0 a10])++us 14) K
noncomputable def w3u:Ex→St→Z7:=finish A_V54 S_V54 Tryz.f45.results.toList
noncomputable def xal (kX:T58) (a3:Int):Z7:=kX ((ud 3 [W0 a3])++us 21)
noncomputable def xak (kX:T58) (kO:T53):=exK w3u 0 (A_V54.shape 15) kX kO
theorem xam (N kX kO):∀n,wjc N n (xak kX kO)=wwo N (xal kX) n :=
 itE rfl fun m=>by kernel_rfl
noncomputable def wo2 (N:Nat):=(blockK 0 (sqK A_V54 N 15 500007 Tryz.f45 [1,1,1] w3u))
noncomputable def xan (N:Nat) (st':St):Z7:=rn A_V54 N Tryz.f45 [1,1,1] st' w3u
theorem xjb (N):wjc N N (wo2 N)=wwn N:=by
 rw[show wjc N N (wo2 N)=wjc N N (xak (xan N) fun j=>(wo2 N) (.exit j)) from(by funext _ _ _ _;exact jlo),xam,show xal (xan N)=we2 by kernel_rfl];rfl
theorem run_V54 (N x):runF A_V54 N Tryz.f45 S_V54 x=V54 N x.1:=(show _=(w3t (wjc N N (wo2 N)) x.1) by kernel_rfl).trans (by rw[xjb N];rfl)
theorem ok_V54:OK 45 S_V54:=gdR (A:=A_V54) tc Tryz.func45 (jeq trivial) (run_V54 big)
def wjf (rec:T40) (k:Int→Z7) (a0:Y1) (a3 a9 a10:Int):Z7 :=
  cond (decide (a10<a9))
  ((a0).bind fun xq2 =>
  (atI xq2.2.2.1 a3).bind fun xq3 =>
  (atI xq3 a10).bind fun xq4 =>
  rec a0 xq4 a9 (IntKind.i64.wrap (a10+1)))
  (k a3)
def we3 (a3:Int):Z7 :=
  some (a3,(()))
def w3v (L3:T40) (l_0:Y1):Z7 :=
  (l_0).bind fun xq1 =>
  L3 l_0 0 (xq1.1.length:Int) 0
def wwq (N:Nat) (k:Int→Z7):=itN (fun r=>wjf r k) fun _ _ _ _=>none
def wwp (N:Nat):=wwq N (we3) N
def V55 (N:Nat) (l_0:Y1):Z7:=w3v (wwp N) l_0
def S_V55:Sig:=⟨(.pair Q1 .unit),[0],[],.unit,I,.i,fun x=>V55 big x.1⟩
def A_V55:Cfg:=mkCfg tab [] [(6,([B5,D0,D0,B0]++dr 5 [B0,B0])),(15,(dr 3 [B0]))]
noncomputable def wje (N n:Nat) (K:T88) (a0:Y1) (a3 a9 a10:Int):Z7:=itr A_V55 N 6 Tryz.f74 [1,1,0,1,0,0] n (([W5 a0,.u,.u,W0 a3]++ud 5 [W0 a9,W0 a10])++us 14) K
noncomputable def w3w:Ex→St→Z7:=finish A_V55 S_V55 Tryz.f74.results.toList
noncomputable def xap (kX:T58) (a3:Int):Z7:=kX ((ud 3 [W0 a3])++us 21)
noncomputable def xao (kX:T58) (kO:T53):=exK w3w 0 (A_V55.shape 15) kX kO
theorem xaq (N kX kO):∀n,wje N n (xao kX kO)=wwq N (xap kX) n :=
 itE rfl fun m=>by kernel_rfl
noncomputable def wo3 (N:Nat):=(blockK 0 (sqK A_V55 N 15 500007 Tryz.f74 [1,1,1] w3w))
noncomputable def xar (N:Nat) (st':St):Z7:=rn A_V55 N Tryz.f74 [1,1,1] st' w3w
theorem xjc (N):wje N N (wo3 N)=wwp N:=by
 rw[show wje N N (wo3 N)=wje N N (xao (xar N) fun j=>(wo3 N) (.exit j)) from(by funext _ _ _ _;exact jlo),xaq,show xap (xar N)=we3 by kernel_rfl];rfl
theorem run_V55 (N x):runF A_V55 N Tryz.f74 S_V55 x=V55 N x.1:=(show _=(w3v (wje N N (wo3 N)) x.1) by kernel_rfl).trans (by rw[xjc N];rfl)
theorem ok_V55:OK 74 S_V55:=gdR (A:=A_V55) tc Tryz.func74 (jeq trivial) (run_V55 big)
def xgh (c_0:Int) (p_1:Y1) (p_2 p_3 p_4:Int):Option Z1 :=
  (p_1).bind fun xq1 =>
  (atI xq1.2.1 c_0).bind fun xq2 =>
  (atI xq2 p_2).bind fun xq3 =>
  cond (decide (xq3=p_3))
  ((p_1).bind fun xq4 =>
  (atI xq4.2.2.1 c_0).bind fun xq5 =>
  (atI xq5 p_2).bind fun xq6 =>
  some (decide (xq6=p_4),(())))
  (some (false,(())))
def V56 (c_0:Int) (p_1:Y1) (p_2 p_3 p_4:Int):Option Z1:=xgh c_0 p_1 p_2 p_3 p_4
def S_V56:Sig:=⟨(.pair I (.pair (.ptr Q1) (.pair (.ptr I) Q13))),[0,0,0,0,0],[],.unit,.bool,.i,fun x=>V56 x.1 x.2.1 x.2.2.1 x.2.2.2.1 x.2.2.2.2.1⟩
def A_V56:Cfg:=mkCfg tab [] []
theorem run_V56 (N x):runF A_V56 N Tryz.f123 S_V56 x=V56 x.1 x.2.1 x.2.2.1 x.2.2.2.1 x.2.2.2.2.1:=by kernel_rfl
theorem ok_V56:OK 123 S_V56:=gdR (A:=A_V56) tc Tryz.func123 (jeq trivial) (run_V56 big)
def wjh (rec:(Y1×(Int×Z16))→Y4→Int→Int→Z3) (k:T35) (a1:(Y1×(Int×Z16))) (a5:Y4) (a9 a10:Int):Z3 :=
  cond (decide (a10<a9))
  ((V56 a10 a1.1 a1.2.1 a1.2.2.1 a1.2.2.2.1).bind fun rq1 =>
  cond rq1.1
  ((appI a5 [a10]).bind fun xq2 =>
  rec a1 xq2 a9 (IntKind.i64.wrap (a10+1)))
  (rec a1 a5 a9 (IntKind.i64.wrap (a10+1))))
  (k a5)
def we4 (a5:Y4):Z3 :=
  some (a5,(()))
def w3x (L3:(Y1×(Int×Z16))→Y4→Int→Int→Z3) (o_0:Y5) (so_1:(Y1×(Int×Z16))):Z3 :=
  L3 so_1 [] (o_0.length:Int) 0
def wws (N:Nat) (k:T35):=itN (fun r=>wjh r k) fun _ _ _ _=>none
def wwr (N:Nat):=wws N (we4) N
def V57 (N:Nat) (o_0:Y5) (so_1:(Y1×(Int×Z16))):Z3:=w3x (wwr N) o_0 so_1
def S_V57:Sig:=⟨(.pair Q7 (.pair (.clo 123 0 (.pair (.ptr Q1) (.pair (.ptr I) Q13))) .unit)),[0,0],[],.unit,Q6,O4,fun x=>V57 big x.1 x.2.1⟩
def A_V57:Cfg:=mkCfg tab [(123,S_V56)] [(6,([D0,.as (.clo 123 0 (.pair (.ptr Q1) (.pair (.ptr I) Q13))) .i]++dr 3 ([B1]++dr 3 [B0,B0]))),(17,(dr 5 [B1]))]
noncomputable def wjg (N n:Nat) (K:T26) (a1:(Y1×(Int×Z16))) (a5:Y4) (a9 a10:Int):Z3:=itr A_V57 N 6 Tryz.f95 [1,1,0,1,0,0] n (([.u,.val (.clo 123 0 (.pair (.ptr Q1) (.pair (.ptr I) Q13))) .i a1]++ud 3 ([W1 a5]++ud 3 [W0 a9,W0 a10]))++us 11) K
noncomputable def w3y:Ex→St→Z3:=finish A_V57 S_V57 Tryz.f95.results.toList
noncomputable def xat (kX:T11) (a5:Y4):Z3:=kX ((ud 5 [W1 a5])++us 16)
noncomputable def xas (kX:T11) (kO:T6):=exK w3y 0 (A_V57.shape 17) kX kO
theorem xau (N kX kO):∀n,wjg N n (xas kX kO)=wws N (xat kX) n :=
 itE rfl fun m=>by kernel_rfl
noncomputable def wo4 (N:Nat):=(blockK 0 (sqK A_V57 N 17 500008 Tryz.f95 [1,1,1] w3y))
noncomputable def xav (N:Nat) (st':St):Z3:=rn A_V57 N Tryz.f95 [1,1,1] st' w3y
theorem xjd (N):wjg N N (wo4 N)=wwr N:=by
 rw[show wjg N N (wo4 N)=wjg N N (xas (xav N) fun j=>(wo4 N) (.exit j)) from(by funext _ _ _ _;exact jlo),xau,show xat (xav N)=we4 by kernel_rfl];rfl
theorem run_V57 (N x):runF A_V57 N Tryz.f95 S_V57 x=V57 N x.1 x.2.1:=(show _=(w3x (wjg N N (wo4 N)) x.1 x.2.1) by kernel_rfl).trans (by rw[xjd N];rfl)
theorem ok_V57:OK 95 S_V57:=gdR (A:=A_V57) tc Tryz.func95 (jeq ⟨ok_V56,trivial⟩) (run_V57 big)
def xgi (l_0:Y1) (x_1 y_2 z_3:Int):Z3 :=
  (l_0).bind fun xq1 =>
  (V57 big xq1.1 (l_0,y_2,x_1,z_3,())).bind fun rq2 =>
  some (rq2.1,(()))
def V58 (l_0:Y1) (x_1 y_2 z_3:Int):Z3:=xgi l_0 x_1 y_2 z_3
def S_V58:Sig:=⟨(.pair Q1 (.pair I Q8)),[0,0,0,0],[],.unit,Q6,O4,fun x=>V58 x.1 x.2.1 x.2.2.1 x.2.2.2.1⟩
def A_V58:Cfg:=mkCfg tab [(95,S_V57)] [(3,(dr 4 [.as (.ptr Q1) .i,.as (.ptr I) .i,.as (.ptr I) .i,.as (.ptr I) .i]))]
theorem run_V58 (N x):runF A_V58 N Tryz.f108 S_V58 x=V58 x.1 x.2.1 x.2.2.1 x.2.2.2.1:=by kernel_rfl
theorem ok_V58:OK 108 S_V58:=gdR (A:=A_V58) tc Tryz.func108 (jeq ⟨ok_V57,trivial⟩) (run_V58 big)
def xgj (l_0:Y1) (x_1:Int):Z3 :=
  (V54 big l_0).bind fun rq1 =>
  (V55 big l_0).bind fun rq2 =>
  (V58 l_0 rq1.1 x_1 rq2.1).bind fun rq3 =>
  some (rq3.1,(()))
def V59 (l_0:Y1) (x_1:Int):Z3:=xgj l_0 x_1
def S_V59:Sig:=⟨(.pair Q1 Q17),[0,0],[],.unit,Q6,O4,fun x=>V59 x.1 x.2.1⟩
def A_V59:Cfg:=mkCfg tab [(45,S_V54),(74,S_V55),(108,S_V58)] []
theorem run_V59 (N x):runF A_V59 N Tryz.f83 S_V59 x=V59 x.1 x.2.1:=by kernel_rfl
theorem ok_V59:OK 83 S_V59:=gdR (A:=A_V59) tc Tryz.func83 (jeq ⟨ok_V54,ok_V55,ok_V58,trivial⟩) (run_V59 big)
def xgn (x_0:Int) (p_1:Y1):Option Z1 :=
  (V59 p_1 x_0).bind fun rq1 =>
  some (decide ((rq1.1.length:Int)=0),(()))
def V60 (x_0:Int) (p_1:Y1):Option Z1:=xgn x_0 p_1
def S_V60:Sig:=⟨(.pair I (.pair (.ptr Q1) .unit)),[0,0],[],.unit,.bool,.i,fun x=>V60 x.1 x.2.1⟩
def A_V60:Cfg:=mkCfg tab [(83,S_V59)] []
theorem run_V60 (N x):runF A_V60 N Tryz.f107 S_V60 x=V60 x.1 x.2.1:=by kernel_rfl
theorem ok_V60:OK 107 S_V60:=gdR (A:=A_V60) tc Tryz.func107 (jeq ⟨ok_V59,trivial⟩) (run_V60 big)
def wjj (rec:T76) (k:T35) (a1:(Y1×Unit)) (a5:Y4) (a9 a10:Int):Z3 :=
  cond (decide (a10<a9))
  ((V60 a10 a1.1).bind fun rq1 =>
  cond rq1.1
  ((appI a5 [a10]).bind fun xq2 =>
  rec a1 xq2 a9 (IntKind.i64.wrap (a10+1)))
  (rec a1 a5 a9 (IntKind.i64.wrap (a10+1))))
  (k a5)
def we5 (a5:Y4):Z3 :=
  some (a5,(()))
def w31 (L3:T76) (o_0:Y5) (so_1:(Y1×Unit)):Z3 :=
  L3 so_1 [] (o_0.length:Int) 0
def wwu (N:Nat) (k:T35):=itN (fun r=>wjj r k) fun _ _ _ _=>none
def wwt (N:Nat):=wwu N (we5) N
def V61 (N:Nat) (o_0:Y5) (so_1:(Y1×Unit)):Z3:=w31 (wwt N) o_0 so_1
def S_V61:Sig:=⟨(.pair Q7 (.pair (.clo 107 0 (.pair (.ptr Q1) .unit)) .unit)),[0,0],[],.unit,Q6,O4,fun x=>V61 big x.1 x.2.1⟩
def A_V61:Cfg:=mkCfg tab [(107,S_V60)] [(6,([D0,.as (.clo 107 0 (.pair (.ptr Q1) .unit)) .i]++dr 3 ([B1]++dr 3 [B0,B0]))),(17,(dr 5 [B1]))]
noncomputable def wji (N n:Nat) (K:T26) (a1:(Y1×Unit)) (a5:Y4) (a9 a10:Int):Z3:=itr A_V61 N 6 Tryz.f95 [1,1,0,1,0,0] n (([.u,.val (.clo 107 0 (.pair (.ptr Q1) .unit)) .i a1]++ud 3 ([W1 a5]++ud 3 [W0 a9,W0 a10]))++us 11) K
noncomputable def w32:Ex→St→Z3:=finish A_V61 S_V61 Tryz.f95.results.toList
noncomputable def xax (kX:T11) (a5:Y4):Z3:=kX ((ud 5 [W1 a5])++us 16)
noncomputable def xaw (kX:T11) (kO:T6):=exK w32 0 (A_V61.shape 17) kX kO
theorem xay (N kX kO):∀n,wji N n (xaw kX kO)=wwu N (xax kX) n :=
 itE rfl fun m=>by kernel_rfl
noncomputable def wo7 (N:Nat):=(blockK 0 (sqK A_V61 N 17 500008 Tryz.f95 [1,1,1] w32))
noncomputable def xaz (N:Nat) (st':St):Z3:=rn A_V61 N Tryz.f95 [1,1,1] st' w32
theorem xje (N):wji N N (wo7 N)=wwt N:=by
 rw[show wji N N (wo7 N)=wji N N (xaw (xaz N) fun j=>(wo7 N) (.exit j)) from(by funext _ _ _ _;exact jlo),xay,show xax (xaz N)=we5 by kernel_rfl];rfl
theorem run_V61 (N x):runF A_V61 N Tryz.f95 S_V61 x=V61 N x.1 x.2.1:=(show _=(w31 (wji N N (wo7 N)) x.1 x.2.1) by kernel_rfl).trans (by rw[xje N];rfl)
theorem ok_V61:OK 95 S_V61:=gdR (A:=A_V61) tc Tryz.func95 (jeq ⟨ok_V60,trivial⟩) (run_V61 big)
def xgo (o_0:Y5) (so_1:(Y1×Unit)):Option Z1 :=
  (V61 big o_0 so_1).bind fun rq1 =>
  some (decide ((rq1.1.length:Int)=0),(()))
def V62 (o_0:Y5) (so_1:(Y1×Unit)):Option Z1:=xgo o_0 so_1
def S_V62:Sig:=⟨(.pair Q7 (.pair (.clo 107 0 (.pair (.ptr Q1) .unit)) .unit)),[0,0],[],.unit,.bool,.i,fun x=>V62 x.1 x.2.1⟩
def A_V62:Cfg:=mkCfg tab [(95,S_V61)] []
theorem run_V62 (N x):runF A_V62 N Tryz.f106 S_V62 x=V62 x.1 x.2.1:=by kernel_rfl
theorem ok_V62:OK 106 S_V62:=gdR (A:=A_V62) tc Tryz.func106 (jeq ⟨ok_V61,trivial⟩) (run_V62 big)
def xgp (l_0:Y1):Option Z1 :=
  (l_0).bind fun xq1 =>
  (V62 xq1.1 (l_0,())).bind fun rq2 =>
  some (rq2.1,(()))
def V63 (l_0:Y1):Option Z1:=xgp l_0
def S_V63:Sig:=⟨(.pair Q1 .unit),[0],[],.unit,.bool,.i,fun x=>V63 x.1⟩
def A_V63:Cfg:=mkCfg tab [(106,S_V62)] [(3,[D0,.as (.ptr Q1) .i])]
theorem run_V63 (N x):runF A_V63 N Tryz.f82 S_V63 x=V63 x.1:=by kernel_rfl
theorem ok_V63:OK 82 S_V63:=gdR (A:=A_V63) tc Tryz.func82 (jeq ⟨ok_V62,trivial⟩) (run_V63 big)
def w33 (p_0:Y2):Option ((Y1×Z1)×Unit) :=
  (V53 p_0).bind fun rq1 =>
  cond rq1.1.2.1
  ((V63 rq1.1.1).bind fun rq2 =>
  some ((rq1.1.1,rq2.1,()),(())))
  (some ((rq1.1.1,false,()),(())))
def V64 (p_0:Y2):Option ((Y1×Z1)×Unit):=w33 p_0
def S_V64:Sig:=⟨Q10,[0],[],.unit,(.tup (.pair Q1 Q12)),.i,fun x=>V64 x.1⟩
def A_V64:Cfg:=mkCfg tab [(81,S_V53),(82,S_V63)] []
theorem run_V64 (N x):runF A_V64 N Tryz.f40 S_V64 x=V64 x.1:=by kernel_rfl
theorem ok_V64:OK 40 S_V64:=gdR (A:=A_V64) tc Tryz.func40 (jeq ⟨ok_V53,ok_V63,trivial⟩) (run_V64 big)
def xgq (p_0 q_1:Y2):Option ((Y1×(Y1×Z1))×Unit) :=
  (V64 p_0).bind fun rq1 =>
  (V64 q_1).bind fun rq2 =>
  cond rq1.1.2.1
  (some ((rq1.1.1,rq2.1.1,rq2.1.2.1,()),(())))
  (some ((rq1.1.1,rq2.1.1,false,()),(())))
def V65 (p_0 q_1:Y2):Option ((Y1×(Y1×Z1))×Unit):=xgq p_0 q_1
def S_V65:Sig:=⟨(.pair Q0 Q10),[0,0],[],.unit,(.tup (.pair Q1 (.pair Q1 Q12))),.i,fun x=>V65 x.1 x.2.1⟩
def A_V65:Cfg:=mkCfg tab [(40,S_V64)] []
theorem run_V65 (N x):runF A_V65 N Tryz.f26 S_V65 x=V65 x.1 x.2.1:=by kernel_rfl
theorem ok_V65:OK 26 S_V65:=gdR (A:=A_V65) tc Tryz.func26 (jeq ⟨ok_V64,trivial⟩) (run_V65 big)
def xgr (o_0:Y5) (x_1 y_2:Int):Option Z1 :=
  cond (decide (x_1≠y_2))
  ((atI o_0 x_1).bind fun xq1 =>
  (atI xq1 y_2).bind fun xq2 =>
  some (xq2,(())))
  (some (false,(())))
def V66 (o_0:Y5) (x_1 y_2:Int):Option Z1:=xgr o_0 x_1 y_2
def S_V66:Sig:=⟨(.pair Q7 Q8),[0,0,0],[],.unit,.bool,.i,fun x=>V66 x.1 x.2.1 x.2.2.1⟩
def A_V66:Cfg:=mkCfg tab [] []
theorem run_V66 (N x):runF A_V66 N Tryz.f117 S_V66 x=V66 x.1 x.2.1 x.2.2.1:=by kernel_rfl
theorem ok_V66:OK 117 S_V66:=gdR (A:=A_V66) tc Tryz.func117 (jeq trivial) (run_V66 big)
def wjl (rec:Y5→Int→Int→Int→Int→Option Z1) (k:Option Z1) (a0:Y5) (a1 a2 a14 a15:Int):Option Z1 :=
  cond (decide (a15<a14))
  ((V66 a0 a1 a15).bind fun rq2 =>
  cond rq2.1
  ((V66 a0 a15 a2).bind fun rq3 =>
  cond rq3.1
  (some (false,(())))
  (rec a0 a1 a2 a14 (IntKind.i64.wrap (a15+1))))
  (rec a0 a1 a2 a14 (IntKind.i64.wrap (a15+1))))
  (k)
def we6:Option Z1 :=
  some (true,(()))
def w34 (L4:Y5→Int→Int→Int→Int→Option Z1) (o_0:Y5) (x_1 y_2:Int):Option Z1 :=
  (V66 o_0 x_1 y_2).bind fun rq1 =>
  cond (!rq1.1)
  (some (false,(())))
  (L4 o_0 x_1 y_2 (o_0.length:Int) 0)
def www (N:Nat) (k:Option Z1):=itN (fun r=>wjl r k) fun _ _ _ _ _=>none
def wwv (N:Nat):=www N (we6) N
def V67 (N:Nat) (o_0:Y5) (x_1 y_2:Int):Option Z1:=w34 (wwv N) o_0 x_1 y_2
def S_V67:Sig:=⟨(.pair Q7 Q8),[0,0,0],[],.unit,.bool,.i,fun x=>V67 big x.1 x.2.1 x.2.2.1⟩
def A_V67:Cfg:=mkCfg tab [(117,S_V66)] [(8,([.as Q7 .i,B0,B0]++dr 11 [B0,B0])),(19,[])]
noncomputable def wjk (N n:Nat) (K:Ex→St→Option Z1) (a0:Y5) (a1 a2 a14 a15:Int):Option Z1:=itr A_V67 N 8 Tryz.f97 [1,1,0,1,0,0] n (([.val Q7 .i a0,W0 a1,W0 a2]++ud 11 [W0 a14,W0 a15])++us 13) K
noncomputable def w35:Ex→St→Option Z1:=finish A_V67 S_V67 Tryz.f97.results.toList
noncomputable def xa1 (kX:St→Option Z1):Option Z1:=kX ([]++us 29)
noncomputable def xa0 (kX:St→Option Z1) (kO:Nat→St→Option Z1):Ex→St→Option Z1:=exK w35 0 (A_V67.shape 19) kX kO
theorem xa2 (N kX kO):∀n,wjk N n (xa0 kX kO)=www N (xa1 kX) n :=
 itE rfl fun m=>by kernel_rfl
noncomputable def wo8 (N:Nat):Ex→St→Option Z1:=(blockK 0 (sqK A_V67 N 19 500009 Tryz.f97 [1,1,1] w35))
noncomputable def xa3 (N:Nat) (st':St):Option Z1:=rn A_V67 N Tryz.f97 [1,1,1] st' w35
theorem xjf (N):wjk N N (wo8 N)=wwv N:=by
 rw[show wjk N N (wo8 N)=wjk N N (xa0 (xa3 N) fun j=>(wo8 N) (.exit j)) from(by funext _ _ _ _ _;exact jlo),xa2,show xa1 (xa3 N)=we6 by kernel_rfl];rfl
theorem run_V67 (N x):runF A_V67 N Tryz.f97 S_V67 x=V67 N x.1 x.2.1 x.2.2.1:=(show _=(w34 (wjk N N (wo8 N)) x.1 x.2.1 x.2.2.1) by kernel_rfl).trans (by rw[xjf N];rfl)
theorem ok_V67:OK 97 S_V67:=gdR (A:=A_V67) tc Tryz.func97 (jeq ⟨ok_V66,trivial⟩) (run_V67 big)
def xgs (y_0:Int) (p_1:Y5) (p_2:Int):Option Z1 :=
  (V67 big p_1 p_2 y_0).bind fun rq1 =>
  some (rq1.1,(()))
def V68 (y_0:Int) (p_1:Y5) (p_2:Int):Option Z1:=xgs y_0 p_1 p_2
def S_V68:Sig:=⟨(.pair I (.pair (.ptr Q7) (.pair (.ptr I) .unit))),[0,0,0],[],.unit,.bool,.i,fun x=>V68 x.1 x.2.1 x.2.2.1⟩
def A_V68:Cfg:=mkCfg tab [(97,S_V67)] []
theorem run_V68 (N x):runF A_V68 N Tryz.f96 S_V68 x=V68 x.1 x.2.1 x.2.2.1:=by kernel_rfl
theorem ok_V68:OK 96 S_V68:=gdR (A:=A_V68) tc Tryz.func96 (jeq ⟨ok_V67,trivial⟩) (run_V68 big)
def wjn (rec:(Y5×(Int×Unit))→Y4→Int→Int→Z3) (k:T35) (a1:(Y5×(Int×Unit))) (a5:Y4) (a9 a10:Int):Z3 :=
  cond (decide (a10<a9))
  ((V68 a10 a1.1 a1.2.1).bind fun rq1 =>
  cond rq1.1
  ((appI a5 [a10]).bind fun xq2 =>
  rec a1 xq2 a9 (IntKind.i64.wrap (a10+1)))
  (rec a1 a5 a9 (IntKind.i64.wrap (a10+1))))
  (k a5)
def we7 (a5:Y4):Z3 :=
  some (a5,(()))
def w36 (L3:(Y5×(Int×Unit))→Y4→Int→Int→Z3) (o_0:Y5) (so_1:(Y5×(Int×Unit))):Z3 :=
  L3 so_1 [] (o_0.length:Int) 0
def wwy (N:Nat) (k:T35):=itN (fun r=>wjn r k) fun _ _ _ _=>none
def wwx (N:Nat):=wwy N (we7) N
def V69 (N:Nat) (o_0:Y5) (so_1:(Y5×(Int×Unit))):Z3:=w36 (wwx N) o_0 so_1
def S_V69:Sig:=⟨(.pair Q7 (.pair (.clo 96 0 (.pair (.ptr Q7) (.pair (.ptr I) .unit))) .unit)),[0,0],[],.unit,Q6,O4,fun x=>V69 big x.1 x.2.1⟩
def A_V69:Cfg:=mkCfg tab [(96,S_V68)] [(6,([D0,.as (.clo 96 0 (.pair (.ptr Q7) (.pair (.ptr I) .unit))) .i]++dr 3 ([B1]++dr 3 [B0,B0]))),(17,(dr 5 [B1]))]
noncomputable def wjm (N n:Nat) (K:T26) (a1:(Y5×(Int×Unit))) (a5:Y4) (a9 a10:Int):Z3:=itr A_V69 N 6 Tryz.f95 [1,1,0,1,0,0] n (([.u,.val (.clo 96 0 (.pair (.ptr Q7) (.pair (.ptr I) .unit))) .i a1]++ud 3 ([W1 a5]++ud 3 [W0 a9,W0 a10]))++us 11) K
noncomputable def w37:Ex→St→Z3:=finish A_V69 S_V69 Tryz.f95.results.toList
noncomputable def xa5 (kX:T11) (a5:Y4):Z3:=kX ((ud 5 [W1 a5])++us 16)
noncomputable def xa4 (kX:T11) (kO:T6):=exK w37 0 (A_V69.shape 17) kX kO
theorem xa6 (N kX kO):∀n,wjm N n (xa4 kX kO)=wwy N (xa5 kX) n :=
 itE rfl fun m=>by kernel_rfl
noncomputable def wo9 (N:Nat):=(blockK 0 (sqK A_V69 N 17 500008 Tryz.f95 [1,1,1] w37))
noncomputable def xa7 (N:Nat) (st':St):Z3:=rn A_V69 N Tryz.f95 [1,1,1] st' w37
theorem xjg (N):wjm N N (wo9 N)=wwx N:=by
 rw[show wjm N N (wo9 N)=wjm N N (xa4 (xa7 N) fun j=>(wo9 N) (.exit j)) from(by funext _ _ _ _;exact jlo),xa6,show xa5 (xa7 N)=we7 by kernel_rfl];rfl
theorem run_V69 (N x):runF A_V69 N Tryz.f95 S_V69 x=V69 N x.1 x.2.1:=(show _=(w36 (wjm N N (wo9 N)) x.1 x.2.1) by kernel_rfl).trans (by rw[xjg N];rfl)
theorem ok_V69:OK 95 S_V69:=gdR (A:=A_V69) tc Tryz.func95 (jeq ⟨ok_V68,trivial⟩) (run_V69 big)
def xgt (o_0:Y5) (x_1:Int):Z3 :=
  (V69 big o_0 (o_0,x_1,())).bind fun rq1 =>
  some (rq1.1,(()))
def V70 (o_0:Y5) (x_1:Int):Z3:=xgt o_0 x_1
def S_V70:Sig:=⟨(.pair Q7 Q17),[0,0],[],.unit,Q6,O4,fun x=>V70 x.1 x.2.1⟩
def A_V70:Cfg:=mkCfg tab [(95,S_V69)] [(3,[D0,D0,.as (.ptr Q7) .i,.as (.ptr I) .i])]
theorem run_V70 (N x):runF A_V70 N Tryz.f69 S_V70 x=V70 x.1 x.2.1:=by kernel_rfl
theorem ok_V70:OK 69 S_V70:=gdR (A:=A_V70) tc Tryz.func69 (jeq ⟨ok_V69,trivial⟩) (run_V70 big)
def xgu (l_0:Y1):Z3 :=
  (l_0).bind fun xq1 =>
  (V54 big l_0).bind fun rq2 =>
  (V70 xq1.1 rq2.1).bind fun rq3 =>
  some (rq3.1,(()))
def V71 (l_0:Y1):Z3:=xgu l_0
def S_V71:Sig:=⟨(.pair Q1 .unit),[0],[],.unit,Q6,O4,fun x=>V71 x.1⟩
def A_V71:Cfg:=mkCfg tab [(45,S_V54),(69,S_V70)] []
theorem run_V71 (N x):runF A_V71 N Tryz.f27 S_V71 x=V71 x.1:=by kernel_rfl
theorem ok_V71:OK 27 S_V71:=gdR (A:=A_V71) tc Tryz.func27 (jeq ⟨ok_V54,ok_V70,trivial⟩) (run_V71 big)
def wjp (rec:T81) (k:Int→Z7) (a0:Y1) (a5:Int) (a10:Y4) (a11 a12:Int):Z7 :=
  cond (decide (a12<a11))
  ((atI a10 a12).bind fun xq2 =>
  (a0).bind fun xq3 =>
  (atI xq3.2.2.1 a5).bind fun xq4 =>
  (atI xq4 xq2).bind fun xq5 =>
  rec a0 xq5 a10 a11 (IntKind.i64.wrap (a12+1)))
  (k a5)
def we8 (a5:Int):Z7 :=
  some (a5,(()))
def w38 (L3:T81) (l_0:Y1) (list_1:Y4):Z7 :=
  (V54 big l_0).bind fun rq1 =>
  L3 l_0 rq1.1 list_1 (list_1.length:Int) 0
def ww0 (N:Nat) (k:Int→Z7):=itN (fun r=>wjp r k) fun _ _ _ _ _=>none
def wwz (N:Nat):=ww0 N (we8) N
def V72 (N:Nat) (l_0:Y1) (list_1:Y4):Z7:=w38 (wwz N) l_0 list_1
def S_V72:Sig:=⟨(.pair Q1 Q9),[0,0],[],.unit,I,.i,fun x=>V72 big x.1 x.2.1⟩
def A_V72:Cfg:=mkCfg tab [(45,S_V54)] [(6,([B5]++dr 4 ([B0]++dr 4 [B4,B0,B0]))),(15,(dr 5 [B0]))]
noncomputable def wjo (N n:Nat) (K:T88) (a0:Y1) (a5:Int) (a10:Y4) (a11 a12:Int):Z7:=itr A_V72 N 6 Tryz.f29 [1,1,0,1,0,0] n (([W5 a0]++ud 4 ([W0 a5]++ud 4 [W4 a10,W0 a11,W0 a12]))++us 15) K
noncomputable def w39:Ex→St→Z7:=finish A_V72 S_V72 Tryz.f29.results.toList
noncomputable def xa9 (kX:T58) (a5:Int):Z7:=kX ((ud 5 [W0 a5])++us 22)
noncomputable def xa8 (kX:T58) (kO:T53):=exK w39 0 (A_V72.shape 15) kX kO
theorem xba (N kX kO):∀n,wjo N n (xa8 kX kO)=ww0 N (xa9 kX) n :=
 itE rfl fun m=>by kernel_rfl
noncomputable def wpa (N:Nat):=(blockK 0 (sqK A_V72 N 15 500007 Tryz.f29 [1,1,1] w39))
noncomputable def xbb (N:Nat) (st':St):Z7:=rn A_V72 N Tryz.f29 [1,1,1] st' w39
theorem xjh (N):wjo N N (wpa N)=wwz N:=by
 rw[show wjo N N (wpa N)=wjo N N (xa8 (xbb N) fun j=>(wpa N) (.exit j)) from(by funext _ _ _ _ _;exact jlo),xba,show xa9 (xbb N)=we8 by kernel_rfl];rfl
theorem run_V72 (N x):runF A_V72 N Tryz.f29 S_V72 x=V72 N x.1 x.2.1:=(show _=(w38 (wjo N N (wpa N)) x.1 x.2.1) by kernel_rfl).trans (by rw[xjh N];rfl)
theorem ok_V72:OK 29 S_V72:=gdR (A:=A_V72) tc Tryz.func29 (jeq ⟨ok_V54,trivial⟩) (run_V72 big)
def wfc (rec:T18) (k:T91) (a2:Y4) (a8 a9:Y1) (a11 a12 a13:Y4) (a14:Int) (a15:Y4) (a53 a54 a59 a60:Int):Z2 :=
  cond (decide (a60<a59))
  ((atI a12 a60).bind fun _ =>
  (a12[a60.toNat]?).bind fun xq8 =>
  (a8).bind fun xq9 =>
  (atI a2 a60).bind fun xq10 =>
  (atI a11 xq10).bind fun _ =>
  (a11[xq10.toNat]?).bind fun xq11 =>
  (atI xq9.1 xq11).bind fun xq12 =>
  (atI xq12 a14).bind fun xq13 =>
  cond xq13
  ((appI a15 [xq8]).bind fun xq14 =>
  rec a2 a8 a9 a11 a12 a13 a14 xq14 a53 a54 a59 (IntKind.i64.wrap (a60+1)))
  (rec a2 a8 a9 a11 a12 a13 a14 a15 a53 a54 a59 (IntKind.i64.wrap (a60+1))))
  (k a2 a8 a9 a11 a12 a13 a15 a53 a54)
def wan (rec:T20) (a2:Y4) (a8 a9:Y1) (a11 a12 a13 a15:Y4) (a53 a54:Int):Z2 :=
  (V72 big a9 a15).bind fun rq15 =>
  (appI a13 [rq15.1]).bind fun xq16 =>
  rec a2 a8 a9 a11 a12 xq16 a53 (IntKind.i64.wrap (a54+1))
def wfd (L11:T18) (k:T75) (a2:Y4) (a8 a9:Y1) (a11 a12 a13:Y4) (a53 a54:Int):Z2 :=
  cond (decide (a54<a53))
  (L11 a2 a8 a9 a11 a12 a13 a54 [] a53 a54 (a12.length:Int) 0)
  (k a13)
def zb (a13:Y4):Z2 :=
  some ((a13,true,()),(()))
def wpe (L7:T20) (p_0 q_1:Y2) (g_2:Y4):Z2 :=
  (V65 p_0 q_1).bind fun rq1 =>
  cond (!rq1.1.2.2.1)
  (some (([],false,()),(())))
  ((V71 rq1.1.2.1).bind fun rq2 =>
  cond (decide ((g_2.length:Int)≠(rq2.1.length:Int)))
  (some (([],false,()),(())))
  ((V71 rq1.1.1).bind fun rq3 =>
  (V43 big g_2 (rq3.1.length:Int)).bind fun rq4 =>
  cond (!rq4.1)
  (some (([],false,()),(())))
  ((V71 rq1.1.1).bind fun rq5 =>
  (V71 rq1.1.2.1).bind fun rq6 =>
  (rq1.1.1).bind fun xq7 =>
  L7 g_2 rq1.1.1 rq1.1.2.1 rq5.1 rq6.1 [] (xq7.1.length:Int) 0)))
def wsi (N:Nat) (k:T91):=itN (fun r=>wfc r k) fun _ _ _ _ _ _ _ _ _ _ _ _=>none
def wfa (N:Nat) (rec:T20) (k:T75):=wsi N (wan rec) N
def ww1 (N:Nat) (k:T75):=itN (fun r=>wfd (wfa N r k) k) fun _ _ _ _ _ _ _ _=>none
def wpb (N:Nat):=ww1 N (zb) N
def V73 (N:Nat) (p_0 q_1:Y2) (g_2:Y4):Z2:=wpe (wpb N) p_0 q_1 g_2
def S_V73:Sig:=⟨Q18,[0,0,0],[],.unit,(.tup (.pair Q6 Q12)),(.p O4 .i),fun x=>V73 big x.1 x.2.1 x.2.2.1⟩
def A_V73:Cfg:=mkCfg tab [(26,S_V65),(27,S_V71),(28,S_V43),(29,S_V72)] [(14,([D0,D0,B4]++dr 5 ([B5,B5,D0,B1,B1,B1]++dr 39 [B0,B0]))),(22,([D0,D0,B4]++dr 5 ([B5,B5,D0,B1,B1,B1,B0,B1]++dr 37 ([B0,B0]++dr 3 [.keep,B0,B0])))),(37,(dr 13 [B1])),(33,([D0,D0,B4]++dr 5 ([B5,B5,D0,B1,B1,B1,D0,B1]++dr 37 [B0,B0])))]
noncomputable def wbn (N n:Nat) (K:T56) (a2:Y4) (a8 a9:Y1) (a11 a12 a13:Y4) (a53 a54:Int):Z2:=itr A_V73 N 14 Tryz.f6 [1,1,1,1,1,0,1,0,0] n (([.u,.u,W4 a2]++ud 5 ([W5 a8,W5 a9,.u,W1 a11,W1 a12,W1 a13]++ud 39 [W0 a53,W0 a54]))++us 39) K
noncomputable def wfb (N n:Nat) (K:T56) (a2:Y4) (a8 a9:Y1) (a11 a12 a13:Y4) (a14:Int) (a15:Y4) (a53 a54 a59 a60:Int):Z2:=itr A_V73 N 22 Tryz.f6 [1,1,1,1,1,0,1,0,0,1,1,0,0,1,1,0,1,0,0] n ([.u,.u,W4 a2,.u,.u,.u,.u,.u,W5 a8,W5 a9,.u,W1 a11,W1 a12,W1 a13,W0 a14,W1 a15,.u,.u,.u,.u,.u,.u,.u,.u,.u,.u,.u,.u,.u,.u,.u,.u,.u,.u,.u,.u,.u,.u,.u,.u,.u,.u,.u,.u,.u,.u,.u,.u,.u,.u,.u,.u,.u,W0 a53,W0 a54,.u,.u,.u,.ref 12 [] .val,W0 a59,W0 a60]++us 33) K
noncomputable def wtp:Ex→St→Z2:=finish A_V73 S_V73 Tryz.f6.results.toList
noncomputable def wpd (kX:T19) (a13:Y4):Z2:=kX ((ud 13 [W1 a13])++us 80)
noncomputable def we9 (kX:T19) (kO:T9):=exK wtp 0 (A_V73.shape 37) kX kO
noncomputable def w09 (kX:T19) (a2:Y4) (a8 a9:Y1) (a11 a12 a13 a15:Y4) (a53 a54:Int):Z2:=kX (([.u,.u,W4 a2]++ud 5 ([W5 a8,W5 a9,.u,W1 a11,W1 a12,W1 a13,.u,W1 a15]++ud 37 [W0 a53,W0 a54]))++us 39)
noncomputable def w08 (kX:T19) (kO:T9):=exK wtp 2 (A_V73.shape 33) kX kO
theorem w4a (N kX kO):∀n,wfb N n (w08 kX kO)=wsi N (w09 kX) n :=
 itE rfl fun m=>by kernel_rfl
noncomputable def wl2 (N m:Nat) (kX:T19) (kO:T9):=(blockK 2 (sqK A_V73 N 33 500016 Tryz.f6 [1,1,1,1,1,0,1,0,0,1,1,0,0,1,1,1] (blockK 1 (sqK A_V73 N 35 500017 Tryz.f6 [1,1,1,1,1,0,1,0,0,1,1,1] (itK A_V73 N 14 Tryz.f6 [1,1,1,1,1,0,1,0,0] m (we9 kX kO))))))
noncomputable def w1a (N m:Nat) (kX:T19) (kO:T9) (st':St):Z2:=rn A_V73 N Tryz.f6 [1,1,1,1,1,0,1,0,0,1,1,0,0,1,1,1] st' (blockK 1 (sqK A_V73 N 35 500017 Tryz.f6 [1,1,1,1,1,0,1,0,0,1,1,1] (itK A_V73 N 14 Tryz.f6 [1,1,1,1,1,0,1,0,0] m (we9 kX kO))))
theorem xfa (N m kX kO) {r}(h:wbn N m (we9 kX kO)=r):wfb N N (wl2 N m kX kO)=wfa N r (wpd kX):=by
 rw[show wfb N N (wl2 N m kX kO)=wfb N N (w08 (w1a N m kX kO) fun j=>(wl2 N m kX kO) (.exit j)) from(by funext _ _ _ _ _ _ _ _ _ _ _ _;exact jlo),w4a,show w09 (w1a N m kX kO)=wan (wbn N m (we9 kX kO)) by kernel_rfl,h];rfl
theorem xbc (N kX kO):∀n,wbn N n (we9 kX kO)=ww1 N (wpd kX) n :=
 itE rfl fun m=>(show _=wfd (wfb N N (wl2 N m kX kO)) (wpd kX) by kernel_rfl).trans (by rw[xfa N m kX kO rfl]<;>rfl)
noncomputable def wpc (N:Nat):=(blockK 0 (sqK A_V73 N 37 500018 Tryz.f6 [1,1,1,1,1,1] wtp))
noncomputable def xbd (N:Nat) (st':St):Z2:=rn A_V73 N Tryz.f6 [1,1,1,1,1,1] st' wtp
theorem xjj (N):wbn N N (wpc N)=wpb N:=by
 rw[show wbn N N (wpc N)=wbn N N (we9 (xbd N) fun j=>(wpc N) (.exit j)) from(by funext _ _ _ _ _ _ _ _;exact jlo),xbc,show wpd (xbd N)=zb by kernel_rfl];rfl
theorem run_V73 (N x):runF A_V73 N Tryz.f6 S_V73 x=V73 N x.1 x.2.1 x.2.2.1:=(show _=(wpe (wbn N N (wpc N)) x.1 x.2.1 x.2.2.1) by kernel_rfl).trans (by rw[xjj N];rfl)
theorem ok_V73:OK 6 S_V73:=gdR (A:=A_V73) tc Tryz.func6 (jeq ⟨ok_V65,ok_V71,ok_V43,ok_V72,trivial⟩) (run_V73 big)
def wfh (rec:T4) (k:T47) (a2:Y4) (a3 a4:Y2) (a8 a9 a10:Y4) (a11 a12 a13:Int):Z2 :=
  cond (decide (a13<(a2.length:Int)))
  ((atI a2 a13).bind fun xq7 =>
  (atI a10 xq7).bind fun _ =>
  (a10[xq7.toNat]?).bind fun xq8 =>
  (V15 a3 xq8 a11).bind fun rq9 =>
  cond rq9.1
  ((atI a9 a13).bind fun _ =>
  (a9[a13.toNat]?).bind fun xq10 =>
  (V29 a4 a12 xq10).bind fun rq11 =>
  rec a2 a3 a4 a8 a9 a10 a11 rq11.1 (IntKind.i64.wrap (a13+1)))
  (rec a2 a3 a4 a8 a9 a10 a11 a12 (IntKind.i64.wrap (a13+1))))
  (k a2 a3 a4 a8 a9 a10 a11 a12)
def wao (rec:T0) (a2:Y4) (a3 a4:Y2) (a8 a9 a10:Y4) (a11 a12:Int):Z2 :=
  (appI a8 [a12]).bind fun xq12 =>
  rec a2 a3 a4 xq12 a9 a10 (IntKind.i64.wrap (a11+1))
def wfi (L12:T4) (k:T75) (a2:Y4) (a3 a4:Y2) (a8 a9 a10:Y4) (a11:Int):Z2 :=
  cond (decide (a11<(a3.1.length:Int)))
  ((V33 a4).bind fun rq6 =>
  L12 a2 a3 a4 a8 a9 a10 a11 rq6.1 0)
  (k a8)
def zd (a8:Y4):Z2 :=
  some ((a8,true,()),(()))
def w4c (L8:T0) (p_0 q_1:Y2) (g_2:Y4):Z2 :=
  (V37 p_0).bind fun rq1 =>
  cond (!rq1.1)
  (some (([],false,()),(())))
  ((V37 q_1).bind fun rq2 =>
  cond (!rq2.1)
  (some (([],false,()),(())))
  ((V38 big q_1).bind fun rq3 =>
  (V38 big p_0).bind fun rq4 =>
  cond (decide ((g_2.length:Int)≠(rq3.1.length:Int)))
  (some (([],false,()),(())))
  ((V7 big (rq4.1.length:Int) g_2).bind fun rq5 =>
  cond (!rq5.1)
  (some (([],false,()),(())))
  (L8 g_2 p_0 q_1 [] rq3.1 rq4.1 0))))
def wsj (N:Nat) (k:T47):=itN (fun r=>wfh r k) fun _ _ _ _ _ _ _ _ _=>none
def wff (N:Nat) (rec:T0) (k:T75):=wsj N (wao rec) N
def ww2 (N:Nat) (k:T75):=itN (fun r=>wfi (wff N r k) k) fun _ _ _ _ _ _ _=>none
def wpf (N:Nat):=ww2 N (zd) N
def V74 (N:Nat) (p_0 q_1:Y2) (g_2:Y4):Z2:=w4c (wpf N) p_0 q_1 g_2
def S_V74:Sig:=⟨Q18,[0,0,0],[],.unit,(.tup (.pair Q6 Q12)),(.p O4 .i),fun x=>V74 big x.1 x.2.1 x.2.2.1⟩
def A_V74:Cfg:=mkCfg tab [(22,S_V37),(23,S_V38),(30,S_V7),(31,S_V33),(32,S_V15),(33,S_V29)] [(16,([D0,D0,B4,B3,B3]++dr 3 [B1,B1,B1,B0])),(24,([D0,D0,B4,B3,B3]++dr 3 [B1,B1,B1,B0,B0,B0])),(35,(dr 8 [B1])),(33,([D0,D0,B4,B3,B3]++dr 3 [B1,B1,B1,B0,B0]))]
noncomputable def wbo (N n:Nat) (K:T56) (a2:Y4) (a3 a4:Y2) (a8 a9 a10:Y4) (a11:Int):Z2:=itr A_V74 N 16 Tryz.f7 [1,1,1,1,1,0,1,0,0] n (([.u,.u,W4 a2,W3 a3,W3 a4]++ud 3 [W1 a8,W1 a9,W1 a10,W0 a11])++us 66) K
noncomputable def wfg (N n:Nat) (K:T56) (a2:Y4) (a3 a4:Y2) (a8 a9 a10:Y4) (a11 a12 a13:Int):Z2:=itr A_V74 N 24 Tryz.f7 [1,1,1,1,1,0,1,0,0,1,0,0,1,0,1,0,0] n (([.u,.u,W4 a2,W3 a3,W3 a4]++ud 3 [W1 a8,W1 a9,W1 a10,W0 a11,W0 a12,W0 a13])++us 64) K
noncomputable def wtq:Ex→St→Z2:=finish A_V74 S_V74 Tryz.f7.results.toList
noncomputable def wph (kX:T19) (a8:Y4):Z2:=kX ((ud 8 [W1 a8])++us 69)
noncomputable def wfe (kX:T19) (kO:T9):=exK wtq 0 (A_V74.shape 35) kX kO
noncomputable def w1c (kX:T19) (a2:Y4) (a3 a4:Y2) (a8 a9 a10:Y4) (a11 a12:Int):Z2:=kX (([.u,.u,W4 a2,W3 a3,W3 a4]++ud 3 [W1 a8,W1 a9,W1 a10,W0 a11,W0 a12])++us 65)
noncomputable def w1b (kX:T19) (kO:T9):=exK wtq 2 (A_V74.shape 33) kX kO
theorem w4b (N kX kO):∀n,wfg N n (w1b kX kO)=wsj N (w1c kX) n :=
 itE rfl fun m=>by kernel_rfl
noncomputable def wl3 (N m:Nat) (kX:T19) (kO:T9):=(blockK 2 (sqK A_V74 N 33 500016 Tryz.f7 [1,1,1,1,1,0,1,0,0,1,0,0,1,1] (blockK 1 (sqK A_V74 N 19 500009 Tryz.f7 [1,1,1,1,1,0,1,0,0,1,1] (itK A_V74 N 16 Tryz.f7 [1,1,1,1,1,0,1,0,0] m (wfe kX kO))))))
noncomputable def w1d (N m:Nat) (kX:T19) (kO:T9) (st':St):Z2:=rn A_V74 N Tryz.f7 [1,1,1,1,1,0,1,0,0,1,0,0,1,1] st' (blockK 1 (sqK A_V74 N 19 500009 Tryz.f7 [1,1,1,1,1,0,1,0,0,1,1] (itK A_V74 N 16 Tryz.f7 [1,1,1,1,1,0,1,0,0] m (wfe kX kO))))
theorem xfb (N m kX kO) {r}(h:wbo N m (wfe kX kO)=r):wfg N N (wl3 N m kX kO)=wff N r (wph kX):=by
 rw[show wfg N N (wl3 N m kX kO)=wfg N N (w1b (w1d N m kX kO) fun j=>(wl3 N m kX kO) (.exit j)) from(by funext _ _ _ _ _ _ _ _ _;exact jlo),w4b,show w1c (w1d N m kX kO)=wao (wbo N m (wfe kX kO)) by kernel_rfl,h];rfl
theorem xbe (N kX kO):∀n,wbo N n (wfe kX kO)=ww2 N (wph kX) n :=
 itE rfl fun m=>(show _=wfi (wfg N N (wl3 N m kX kO)) (wph kX) by kernel_rfl).trans (by rw[xfb N m kX kO rfl]<;>rfl)
noncomputable def wpg (N:Nat):=(blockK 0 (sqK A_V74 N 35 500017 Tryz.f7 [1,1,1,1,1,1] wtq))
noncomputable def xbf (N:Nat) (st':St):Z2:=rn A_V74 N Tryz.f7 [1,1,1,1,1,1] st' wtq
theorem xjl (N):wbo N N (wpg N)=wpf N:=by
 rw[show wbo N N (wpg N)=wbo N N (wfe (xbf N) fun j=>(wpg N) (.exit j)) from(by funext _ _ _ _ _ _ _;exact jlo),xbe,show wph (xbf N)=zd by kernel_rfl];rfl
theorem run_V74 (N x):runF A_V74 N Tryz.f7 S_V74 x=V74 N x.1 x.2.1 x.2.2.1:=(show _=(w4c (wbo N N (wpg N)) x.1 x.2.1 x.2.2.1) by kernel_rfl).trans (by rw[xjl N];rfl)
theorem ok_V74:OK 7 S_V74:=gdR (A:=A_V74) tc Tryz.func7 (jeq ⟨ok_V37,ok_V38,ok_V7,ok_V33,ok_V15,ok_V29,trivial⟩) (run_V74 big)
def wjr (rec:Y4→Y4→Int→Option Z1) (k:Option Z1) (a0 a1:Y4) (a5:Int):Option Z1 :=
  cond (decide (a5<(a0.length:Int)))
  ((atI a0 a5).bind fun xq1 =>
  (atI a1 a5).bind fun xq2 =>
  cond (decide (xq1≠xq2))
  (some (false,(())))
  (rec a0 a1 (IntKind.i64.wrap (a5+1))))
  (k)
def wfj:Option Z1 :=
  some (true,(()))
def w4d (L4:Y4→Y4→Int→Option Z1) (a_0 b_1:Y4):Option Z1 :=
  cond (decide ((a_0.length:Int)≠(b_1.length:Int)))
  (some (false,(())))
  (L4 a_0 b_1 0)
def ww4 (N:Nat) (k:Option Z1):=itN (fun r=>wjr r k) fun _ _ _=>none
def ww3 (N:Nat):=ww4 N (wfj) N
def V75 (N:Nat) (a_0 b_1:Y4):Option Z1:=w4d (ww3 N) a_0 b_1
def S_V75:Sig:=⟨(.pair Q6 Q9),[0,0],[],.unit,.bool,.i,fun x=>V75 big x.1 x.2.1⟩
def A_V75:Cfg:=mkCfg tab [] [(8,([B4,B4]++dr 3 [B0])),(17,[])]
noncomputable def wjq (N n:Nat) (K:Ex→St→Option Z1) (a0 a1:Y4) (a5:Int):Option Z1:=itr A_V75 N 8 Tryz.f8 [1,1,0,1,0,0] n (([W4 a0,W4 a1]++ud 3 [W0 a5])++us 20) K
noncomputable def w4e:Ex→St→Option Z1:=finish A_V75 S_V75 Tryz.f8.results.toList
noncomputable def xbh (kX:St→Option Z1):Option Z1:=kX ([]++us 26)
noncomputable def xbg (kX:St→Option Z1) (kO:Nat→St→Option Z1):Ex→St→Option Z1:=exK w4e 0 (A_V75.shape 17) kX kO
theorem xbi (N kX kO):∀n,wjq N n (xbg kX kO)=ww4 N (xbh kX) n :=
 itE rfl fun m=>by kernel_rfl
noncomputable def wpi (N:Nat):Ex→St→Option Z1:=(blockK 0 (sqK A_V75 N 17 500008 Tryz.f8 [1,1,1] w4e))
noncomputable def xbj (N:Nat) (st':St):Option Z1:=rn A_V75 N Tryz.f8 [1,1,1] st' w4e
theorem xjm (N):wjq N N (wpi N)=ww3 N:=by
 rw[show wjq N N (wpi N)=wjq N N (xbg (xbj N) fun j=>(wpi N) (.exit j)) from(by funext _ _ _;exact jlo),xbi,show xbh (xbj N)=wfj by kernel_rfl];rfl
theorem run_V75 (N x):runF A_V75 N Tryz.f8 S_V75 x=V75 N x.1 x.2.1:=(show _=(w4d (wjq N N (wpi N)) x.1 x.2.1) by kernel_rfl).trans (by rw[xjm N];rfl)
theorem ok_V75:OK 8 S_V75:=gdR (A:=A_V75) tc Tryz.func8 (jeq trivial) (run_V75 big)
def xgv (p_0 q_1:Y2):Option ((Y1×(Y1×Z1))×Unit) :=
  (V51 p_0).bind fun rq1 =>
  (V51 q_1).bind fun rq2 =>
  cond rq1.1.2.1
  (some ((rq1.1.1,rq2.1.1,rq2.1.2.1,()),(())))
  (some ((rq1.1.1,rq2.1.1,false,()),(())))
def V76 (p_0 q_1:Y2):Option ((Y1×(Y1×Z1))×Unit):=xgv p_0 q_1
def S_V76:Sig:=⟨(.pair Q0 Q10),[0,0],[],.unit,(.tup (.pair Q1 (.pair Q1 Q12))),.i,fun x=>V76 x.1 x.2.1⟩
def A_V76:Cfg:=mkCfg tab [(72,S_V51)] []
theorem run_V76 (N x):runF A_V76 N Tryz.f34 S_V76 x=V76 x.1 x.2.1:=by kernel_rfl
theorem ok_V76:OK 34 S_V76:=gdR (A:=A_V76) tc Tryz.func34 (jeq ⟨ok_V51,trivial⟩) (run_V76 big)
def xgw (o_0:Y5) (list_1:Y4):Option Z1 :=
  (V43 big list_1 (o_0.length:Int)).bind fun rq1 =>
  some (rq1.1,(()))
def V77 (o_0:Y5) (list_1:Y4):Option Z1:=xgw o_0 list_1
def S_V77:Sig:=⟨(.pair Q7 Q9),[0,0],[],.unit,.bool,.i,fun x=>V77 x.1 x.2.1⟩
def A_V77:Cfg:=mkCfg tab [(28,S_V43)] []
theorem run_V77 (N x):runF A_V77 N Tryz.f73 S_V77 x=V77 x.1 x.2.1:=by kernel_rfl
theorem ok_V77:OK 73 S_V77:=gdR (A:=A_V77) tc Tryz.func73 (jeq ⟨ok_V43,trivial⟩) (run_V77 big)
def wju (rec:Y1→Y1→Y4→Int→Int→Int→Int→Int→Option Z1) (k:Y1→Y1→Y4→Int→Int→Option Z1) (a0 a1:Y1) (a2:Y4) (a7 a47 a48 a52 a53:Int):Option Z1 :=
  cond (decide (a53<a52))
  ((a0).bind fun xq10 =>
  (atI xq10.2.1 a7).bind fun xq11 =>
  (atI xq11 a53).bind fun xq12 =>
  (atI a2 xq12).bind fun xq13 =>
  (a1).bind fun xq14 =>
  (atI a2 a7).bind fun xq15 =>
  (atI xq14.2.1 xq15).bind fun xq16 =>
  (atI a2 a53).bind fun xq17 =>
  (atI xq16 xq17).bind fun xq18 =>
  cond (decide (xq13≠xq18))
  (some (false,(())))
  ((a0).bind fun xq19 =>
  (atI xq19.2.2.1 a7).bind fun xq20 =>
  (atI xq20 a53).bind fun xq21 =>
  (atI a2 xq21).bind fun xq22 =>
  (a1).bind fun xq23 =>
  (atI a2 a7).bind fun xq24 =>
  (atI xq23.2.2.1 xq24).bind fun xq25 =>
  (atI a2 a53).bind fun xq26 =>
  (atI xq25 xq26).bind fun xq27 =>
  cond (decide (xq22≠xq27))
  (some (false,(())))
  (rec a0 a1 a2 a7 a47 a48 a52 (IntKind.i64.wrap (a53+1)))))
  (k a0 a1 a2 a47 a48)
def wfl (rec:Y1→Y1→Y4→Int→Int→Option Z1) (a0 a1:Y1) (a2:Y4) (a47 a48:Int):Option Z1 :=
  rec a0 a1 a2 a47 (IntKind.i64.wrap (a48+1))
def wfm (L7:Y1→Y1→Y4→Int→Int→Int→Int→Int→Option Z1) (k:Option Z1) (a0 a1:Y1) (a2:Y4) (a47 a48:Int):Option Z1 :=
  cond (decide (a48<a47))
  (L7 a0 a1 a2 a48 a47 a48 (a2.length:Int) 0)
  (k)
def ze:Option Z1 :=
  some (true,(()))
def wg7 (L4:Y1→Y1→Y4→Int→Int→Option Z1) (l_0 m_1:Y1) (f_2:Y4):Option Z1 :=
  (l_0).bind fun xq1 =>
  cond (decide ((f_2.length:Int)≠(xq1.1.length:Int)))
  (some (false,(())))
  ((m_1).bind fun xq2 =>
  (V77 xq2.1 f_2).bind fun rq3 =>
  cond (!rq3.1)
  (some (false,(())))
  ((V54 big l_0).bind fun rq4 =>
  (atI f_2 rq4.1).bind fun xq5 =>
  (V54 big m_1).bind fun rq6 =>
  cond (decide (xq5≠rq6.1))
  (some (false,(())))
  ((V55 big l_0).bind fun rq7 =>
  (atI f_2 rq7.1).bind fun xq8 =>
  (V55 big m_1).bind fun rq9 =>
  cond (decide (xq8≠rq9.1))
  (some (false,(())))
  (L4 l_0 m_1 f_2 (f_2.length:Int) 0))))
def ww7 (N:Nat) (k:Y1→Y1→Y4→Int→Int→Option Z1):=itN (fun r=>wju r k) fun _ _ _ _ _ _ _ _=>none
def wjs (N:Nat) (rec:Y1→Y1→Y4→Int→Int→Option Z1) (k:Option Z1):=ww7 N (wfl rec) N
def ww6 (N:Nat) (k:Option Z1):=itN (fun r=>wfm (wjs N r k) k) fun _ _ _ _ _=>none
def ww5 (N:Nat):=ww6 N (ze) N
def V78 (N:Nat) (l_0 m_1:Y1) (f_2:Y4):Option Z1:=wg7 (ww5 N) l_0 m_1 f_2
def S_V78:Sig:=⟨(.pair Q1 (.pair Q1 Q9)),[0,0,0],[],.unit,.bool,.i,fun x=>V78 big x.1 x.2.1 x.2.2.1⟩
def A_V78:Cfg:=mkCfg tab [(73,S_V77),(45,S_V54),(74,S_V55)] [(8,([B5,B5,B4]++dr 44 [B0,B0])),(14,([B5,B5,B4]++dr 4 ([B0]++dr 39 ([B0,B0]++dr 3 [B0,B0])))),(27,[]),(25,([B5,B5,B4]++dr 44 [B0,B0]))]
noncomputable def wbp (N n:Nat) (K:Ex→St→Option Z1) (a0 a1:Y1) (a2:Y4) (a47 a48:Int):Option Z1:=itr A_V78 N 8 Tryz.f35 [1,1,0,1,0,0] n (([W5 a0,W5 a1,W4 a2]++ud 44 [W0 a47,W0 a48])++us 71) K
noncomputable def wjt (N n:Nat) (K:Ex→St→Option Z1) (a0 a1:Y1) (a2:Y4) (a7 a47 a48 a52 a53:Int):Option Z1:=itr A_V78 N 14 Tryz.f35 [1,1,0,1,0,0,1,1,0,0,1,1,0,0] n (([W5 a0,W5 a1,W4 a2]++ud 4 ([W0 a7]++ud 39 ([W0 a47,W0 a48]++ud 3 [W0 a52,W0 a53])))++us 66) K
noncomputable def wtr:Ex→St→Option Z1:=finish A_V78 S_V78 Tryz.f35.results.toList
noncomputable def wpl (kX:St→Option Z1):Option Z1:=kX ([]++us 120)
noncomputable def wfk (kX:St→Option Z1) (kO:Nat→St→Option Z1):Ex→St→Option Z1:=exK wtr 0 (A_V78.shape 27) kX kO
noncomputable def xbl (kX:St→Option Z1) (a0 a1:Y1) (a2:Y4) (a47 a48:Int):Option Z1:=kX (([W5 a0,W5 a1,W4 a2]++ud 44 [W0 a47,W0 a48])++us 71)
noncomputable def xbk (kX:St→Option Z1) (kO:Nat→St→Option Z1):Ex→St→Option Z1:=exK wtr 2 (A_V78.shape 25) kX kO
theorem xbn (N kX kO):∀n,wjt N n (xbk kX kO)=ww7 N (xbl kX) n :=
 itE rfl fun m=>by kernel_rfl
noncomputable def wpk (N m:Nat) (kX:St→Option Z1) (kO:Nat→St→Option Z1):Ex→St→Option Z1:=(blockK 2 (blockK 1 (sqK A_V78 N 25 500012 Tryz.f35 [1,1,0,1,0,0,1,1,1] (itK A_V78 N 8 Tryz.f35 [1,1,0,1,0,0] m (wfk kX kO)))))
noncomputable def xbp (N m:Nat) (kX:St→Option Z1) (kO:Nat→St→Option Z1) (st':St):Option Z1:=rn A_V78 N Tryz.f35 [1,1,0,1,0,0,1,1,1] st' (itK A_V78 N 8 Tryz.f35 [1,1,0,1,0,0] m (wfk kX kO))
theorem xjo (N m kX kO) {r}(h:wbp N m (wfk kX kO)=r):wjt N N (wpk N m kX kO)=wjs N r (wpl kX):=by
 rw[show wjt N N (wpk N m kX kO)=wjt N N (xbk (xbp N m kX kO) fun j=>(wpk N m kX kO) (.exit j)) from(by funext _ _ _ _ _ _ _ _;exact jlo),xbn,show xbl (xbp N m kX kO)=wfl (wbp N m (wfk kX kO)) by kernel_rfl,h];rfl
theorem xbm (N kX kO):∀n,wbp N n (wfk kX kO)=ww6 N (wpl kX) n :=
 itE rfl fun m=>(show _=wfm (wjt N N (wpk N m kX kO)) (wpl kX) by kernel_rfl).trans (by rw[xjo N m kX kO rfl]<;>rfl)
noncomputable def wpj (N:Nat):Ex→St→Option Z1:=(blockK 0 (sqK A_V78 N 27 500013 Tryz.f35 [1,1,1] wtr))
noncomputable def xbo (N:Nat) (st':St):Option Z1:=rn A_V78 N Tryz.f35 [1,1,1] st' wtr
theorem xjn (N):wbp N N (wpj N)=ww5 N:=by
 rw[show wbp N N (wpj N)=wbp N N (wfk (xbo N) fun j=>(wpj N) (.exit j)) from(by funext _ _ _ _ _;exact jlo),xbm,show wpl (xbo N)=ze by kernel_rfl];rfl
theorem run_V78 (N x):runF A_V78 N Tryz.f35 S_V78 x=V78 N x.1 x.2.1 x.2.2.1:=(show _=(wg7 (wbp N N (wpj N)) x.1 x.2.1 x.2.2.1) by kernel_rfl).trans (by rw[xjn N];rfl)
theorem ok_V78:OK 35 S_V78:=gdR (A:=A_V78) tc Tryz.func35 (jeq ⟨ok_V77,ok_V54,ok_V55,trivial⟩) (run_V78 big)
def xgx (p_0 q_1:Y2) (f_2:Y4):Option ((Bool×Z1)×Unit) :=
  (V76 p_0 q_1).bind fun rq1 =>
  cond (!rq1.1.2.2.1)
  (some ((false,false,()),(())))
  ((V78 big rq1.1.1 rq1.1.2.1 f_2).bind fun rq2 =>
  some ((rq2.1,true,()),(())))
def V79 (p_0 q_1:Y2) (f_2:Y4):Option ((Bool×Z1)×Unit):=xgx p_0 q_1 f_2
def S_V79:Sig:=⟨Q18,[0,0,0],[],.unit,(.tup (.pair .bool Q12)),.i,fun x=>V79 x.1 x.2.1 x.2.2.1⟩
def A_V79:Cfg:=mkCfg tab [(34,S_V76),(35,S_V78)] []
theorem run_V79 (N x):runF A_V79 N Tryz.f9 S_V79 x=V79 x.1 x.2.1 x.2.2.1:=by kernel_rfl
theorem ok_V79:OK 9 S_V79:=gdR (A:=A_V79) tc Tryz.func9 (jeq ⟨ok_V76,ok_V78,trivial⟩) (run_V79 big)
def wpr (k:T14) (rec:T23) (a2:Y4) (a8 a9:Y1) (a11:Y4) (a13:Int) (a35:Y4) (a36 a37:Int) (a42:Y4) (a43 a44:Int):Z2 :=
  cond (decide (a44<a43))
  ((atI a42 a44).bind fun _ =>
  (a42[a44.toNat]?).bind fun xq6 =>
  (a9).bind fun xq7 =>
  (atI xq7.1 a13).bind fun xq8 =>
  (atI a2 xq6).bind fun xq9 =>
  (atI xq8 xq9).bind fun xq10 =>
  cond xq10
  ((appI a11 [a44]).bind fun xq11 =>
  k a2 a8 a9 xq11 a35 a36 a37)
  (rec a2 a8 a9 a11 a13 a35 a36 a37 a42 a43 (IntKind.i64.wrap (a44+1))))
  (k a2 a8 a9 a11 a35 a36 a37)
def wfo (rec:T14) (a2:Y4) (a8 a9:Y1) (a11 a35:Y4) (a36 a37:Int):Z2 :=
  rec a2 a8 a9 a11 a35 a36 (IntKind.i64.wrap (a37+1))
def wfp (L9:T23) (k:T75) (a2:Y4) (a8 a9:Y1) (a11 a35:Y4) (a36 a37:Int):Z2 :=
  cond (decide (a37<a36))
  ((atI a35 a37).bind fun _ =>
  (a35[a37.toNat]?).bind fun xq4 =>
  (V71 a8).bind fun rq5 =>
  L9 a2 a8 a9 a11 xq4 a35 a36 a37 rq5.1 (rq5.1.length:Int) 0)
  (k a11)
def zf (a11:Y4):Z2 :=
  some ((a11,true,()),(()))
def wps (L6:T14) (p_0 q_1:Y2) (f_2:Y4):Z2 :=
  (V65 p_0 q_1).bind fun rq1 =>
  cond (!rq1.1.2.2.1)
  (some (([],false,()),(())))
  ((V78 big rq1.1.1 rq1.1.2.1 f_2).bind fun rq2 =>
  cond (!rq2.1)
  (some (([],false,()),(())))
  ((V71 rq1.1.2.1).bind fun rq3 =>
  L6 f_2 rq1.1.1 rq1.1.2.1 [] rq3.1 (rq3.1.length:Int) 0))
def ww9 (N:Nat) (k:T14):=itN (fun r=>wpr k r) fun _ _ _ _ _ _ _ _ _ _ _=>none
def wjv (N:Nat) (rec:T14) (k:T75):=ww9 N (wfo rec) N
def ww8 (N:Nat) (k:T75):=itN (fun r=>wfp (wjv N r k) k) fun _ _ _ _ _ _ _=>none
def wpn (N:Nat):=ww8 N (zf) N
def V80 (N:Nat) (p_0 q_1:Y2) (f_2:Y4):Z2:=wps (wpn N) p_0 q_1 f_2
def S_V80:Sig:=⟨Q18,[0,0,0],[],.unit,(.tup (.pair Q6 Q12)),(.p O4 .i),fun x=>V80 big x.1 x.2.1 x.2.2.1⟩
def A_V80:Cfg:=mkCfg tab [(26,S_V65),(35,S_V78),(27,S_V71)] [(12,([D0,D0,B4]++dr 5 ([B5,B5,D0,B1]++dr 23 [B1,B0,B0]))),(18,([D0,D0,B4]++dr 5 ([B5,B5,D0,B1,D0,B0]++dr 21 ([B1,B0,B0]++dr 4 [B1,B0,B0])))),(31,(dr 11 [B1])),(29,([D0,D0,B4]++dr 5 ([B5,B5,D0,B1]++dr 23 [B1,B0,B0])))]
noncomputable def wbq (N n:Nat) (K:T56) (a2:Y4) (a8 a9:Y1) (a11 a35:Y4) (a36 a37:Int):Z2:=itr A_V80 N 12 Tryz.f10 [1,1,1,1,0,1,0,0] n (([.u,.u,W4 a2]++ud 5 ([W5 a8,W5 a9,.u,W1 a11]++ud 23 [W1 a35,W0 a36,W0 a37]))++us 31) K
noncomputable def wjw (N n:Nat) (K:T56) (a2:Y4) (a8 a9:Y1) (a11:Y4) (a13:Int) (a35:Y4) (a36 a37:Int) (a42:Y4) (a43 a44:Int):Z2:=itr A_V80 N 18 Tryz.f10 [1,1,1,1,0,1,0,0,1,1,0,0,1,1,0,0] n (([.u,.u,W4 a2]++ud 5 ([W5 a8,W5 a9,.u,W1 a11,.u,W0 a13]++ud 21 ([W1 a35,W0 a36,W0 a37]++ud 4 [W1 a42,W0 a43,W0 a44])))++us 24) K
noncomputable def wtv:Ex→St→Z2:=finish A_V80 S_V80 Tryz.f10.results.toList
noncomputable def wpq (kX:T19) (a11:Y4):Z2:=kX ((ud 11 [W1 a11])++us 57)
noncomputable def wfn (kX:T19) (kO:T9):=exK wtv 0 (A_V80.shape 31) kX kO
noncomputable def xbr (kX:T19) (a2:Y4) (a8 a9:Y1) (a11 a35:Y4) (a36 a37:Int):Z2:=kX (([.u,.u,W4 a2]++ud 5 ([W5 a8,W5 a9,.u,W1 a11]++ud 23 [W1 a35,W0 a36,W0 a37]))++us 31)
noncomputable def xbq (kX:T19) (kO:T9):=exK wtv 2 (A_V80.shape 29) kX kO
theorem xbt (N kX kO):∀n,wjw N n (xbq kX kO)=ww9 N (xbr kX) n :=
 itE rfl fun m=>by kernel_rfl
noncomputable def wpp (N m:Nat) (kX:T19) (kO:T9):=(blockK 2 (blockK 1 (sqK A_V80 N 29 500014 Tryz.f10 [1,1,1,1,0,1,0,0,1,1,1] (itK A_V80 N 12 Tryz.f10 [1,1,1,1,0,1,0,0] m (wfn kX kO)))))
noncomputable def xbv (N m:Nat) (kX:T19) (kO:T9) (st':St):Z2:=rn A_V80 N Tryz.f10 [1,1,1,1,0,1,0,0,1,1,1] st' (itK A_V80 N 12 Tryz.f10 [1,1,1,1,0,1,0,0] m (wfn kX kO))
theorem xjq (N m kX kO) {r}(h:wbq N m (wfn kX kO)=r):wjw N N (wpp N m kX kO)=wjv N r (wpq kX):=by
 rw[show wjw N N (wpp N m kX kO)=wjw N N (xbq (xbv N m kX kO) fun j=>(wpp N m kX kO) (.exit j)) from(by funext _ _ _ _ _ _ _ _ _ _ _;exact jlo),xbt,show xbr (xbv N m kX kO)=wfo (wbq N m (wfn kX kO)) by kernel_rfl,h];rfl
theorem xbs (N kX kO):∀n,wbq N n (wfn kX kO)=ww8 N (wpq kX) n :=
 itE rfl fun m=>(show _=wfp (wjw N N (wpp N m kX kO)) (wpq kX) by kernel_rfl).trans (by rw[xjq N m kX kO rfl]<;>rfl)
noncomputable def wpo (N:Nat):=(blockK 0 (sqK A_V80 N 31 500015 Tryz.f10 [1,1,1,1,1] wtv))
noncomputable def xbu (N:Nat) (st':St):Z2:=rn A_V80 N Tryz.f10 [1,1,1,1,1] st' wtv
theorem xjp (N):wbq N N (wpo N)=wpn N:=by
 rw[show wbq N N (wpo N)=wbq N N (wfn (xbu N) fun j=>(wpo N) (.exit j)) from(by funext _ _ _ _ _ _ _;exact jlo),xbs,show wpq (xbu N)=zf by kernel_rfl];rfl
theorem run_V80 (N x):runF A_V80 N Tryz.f10 S_V80 x=V80 N x.1 x.2.1 x.2.2.1:=(show _=(wps (wbq N N (wpo N)) x.1 x.2.1 x.2.2.1) by kernel_rfl).trans (by rw[xjp N];rfl)
theorem ok_V80:OK 10 S_V80:=gdR (A:=A_V80) tc Tryz.func10 (jeq ⟨ok_V65,ok_V78,ok_V71,trivial⟩) (run_V80 big)
def wjz (rec:T82) (k:T62) (a1:Y2) (a3:Y4) (a4 a5 a6:Int):Z3 :=
  cond (decide (a6<(a1.1.length:Int)))
  ((V17 big a1 a6 a4).bind fun rq1 =>
  cond rq1.1
  (rec a1 a3 a4 (IntKind.i64.wrap (a5+1)) (IntKind.i64.wrap (a6+1)))
  (rec a1 a3 a4 a5 (IntKind.i64.wrap (a6+1))))
  (k a1 a3 a4 a5)
def wfr (rec:T22) (a1:Y2) (a3:Y4) (a4 a5:Int):Z3 :=
  cond (decide (a5=1))
  ((appI a3 [a4]).bind fun xq2 =>
  rec a1 xq2 (IntKind.i64.wrap (a4+1)))
  (rec a1 a3 (IntKind.i64.wrap (a4+1)))
def wfs (L7:T82) (k:T35) (a1:Y2) (a3:Y4) (a4:Int):Z3 :=
  cond (decide (a4<(a1.1.length:Int)))
  (L7 a1 a3 a4 0 0)
  (k a3)
def zg (a3:Y4):Z3 :=
  some (a3,(()))
def w4f (L3:T22) (p_0:Y2):Z3 :=
  L3 p_0 [] 0
def wxc (N:Nat) (k:T62):=itN (fun r=>wjz r k) fun _ _ _ _ _=>none
def wjx (N:Nat) (rec:T22) (k:T35):=wxc N (wfr rec) N
def wxb (N:Nat) (k:T35):=itN (fun r=>wfs (wjx N r k) k) fun _ _ _=>none
def wxa (N:Nat):=wxb N (zg) N
def V81 (N:Nat) (p_0:Y2):Z3:=w4f (wxa N) p_0
def S_V81:Sig:=⟨Q10,[0],[],.unit,Q6,O4,fun x=>V81 big x.1⟩
def A_V81:Cfg:=mkCfg tab [(67,S_V17)] [(6,[D0,B3,D0,B1,B0]),(14,[D0,B3,D0,B1,B0,B0,B0]),(27,(dr 3 [B1])),(23,[D0,B3,D0,B1,B0,B0])]
noncomputable def wbr (N n:Nat) (K:T26) (a1:Y2) (a3:Y4) (a4:Int):Z3:=itr A_V81 N 6 Tryz.f77 [1,1,0,1,0,0] n ([.u,W3 a1,.u,W1 a3,W0 a4]++us 30) K
noncomputable def wjy (N n:Nat) (K:T26) (a1:Y2) (a3:Y4) (a4 a5 a6:Int):Z3:=itr A_V81 N 14 Tryz.f77 [1,1,0,1,0,0,1,0,0,1,0,1,0,0] n ([.u,W3 a1,.u,W1 a3,W0 a4,W0 a5,W0 a6]++us 28) K
noncomputable def wtw:Ex→St→Z3:=finish A_V81 S_V81 Tryz.f77.results.toList
noncomputable def wpv (kX:T11) (a3:Y4):Z3:=kX ((ud 3 [W1 a3])++us 31)
noncomputable def wfq (kX:T11) (kO:T6):=exK wtw 0 (A_V81.shape 27) kX kO
noncomputable def xbx (kX:T11) (a1:Y2) (a3:Y4) (a4 a5:Int):Z3:=kX ([.u,W3 a1,.u,W1 a3,W0 a4,W0 a5]++us 29)
noncomputable def xbw (kX:T11) (kO:T6):=exK wtw 2 (A_V81.shape 23) kX kO
theorem xbz (N kX kO):∀n,wjy N n (xbw kX kO)=wxc N (xbx kX) n :=
 itE rfl fun m=>by kernel_rfl
noncomputable def wpu (N m:Nat) (kX:T11) (kO:T6):=(blockK 2 (sqK A_V81 N 23 500011 Tryz.f77 [1,1,0,1,0,0,1,0,0,1,1] (blockK 1 (sqK A_V81 N 9 500004 Tryz.f77 [1,1,0,1,0,0,1,1] (itK A_V81 N 6 Tryz.f77 [1,1,0,1,0,0] m (wfq kX kO))))))
noncomputable def xb1 (N m:Nat) (kX:T11) (kO:T6) (st':St):Z3:=rn A_V81 N Tryz.f77 [1,1,0,1,0,0,1,0,0,1,1] st' (blockK 1 (sqK A_V81 N 9 500004 Tryz.f77 [1,1,0,1,0,0,1,1] (itK A_V81 N 6 Tryz.f77 [1,1,0,1,0,0] m (wfq kX kO))))
theorem xjs (N m kX kO) {r}(h:wbr N m (wfq kX kO)=r):wjy N N (wpu N m kX kO)=wjx N r (wpv kX):=by
 rw[show wjy N N (wpu N m kX kO)=wjy N N (xbw (xb1 N m kX kO) fun j=>(wpu N m kX kO) (.exit j)) from(by funext _ _ _ _ _;exact jlo),xbz,show xbx (xb1 N m kX kO)=wfr (wbr N m (wfq kX kO)) by kernel_rfl,h];rfl
theorem xby (N kX kO):∀n,wbr N n (wfq kX kO)=wxb N (wpv kX) n :=
 itE rfl fun m=>(show _=wfs (wjy N N (wpu N m kX kO)) (wpv kX) by kernel_rfl).trans (by rw[xjs N m kX kO rfl]<;>rfl)
noncomputable def wpt (N:Nat):=(blockK 0 (sqK A_V81 N 27 500013 Tryz.f77 [1,1,1] wtw))
noncomputable def xb0 (N:Nat) (st':St):Z3:=rn A_V81 N Tryz.f77 [1,1,1] st' wtw
theorem xjr (N):wbr N N (wpt N)=wxa N:=by
 rw[show wbr N N (wpt N)=wbr N N (wfq (xb0 N) fun j=>(wpt N) (.exit j)) from(by funext _ _ _;exact jlo),xby,show wpv (xb0 N)=zg by kernel_rfl];rfl
theorem run_V81 (N x):runF A_V81 N Tryz.f77 S_V81 x=V81 N x.1:=(show _=(w4f (wbr N N (wpt N)) x.1) by kernel_rfl).trans (by rw[xjr N];rfl)
theorem ok_V81:OK 77 S_V81:=gdR (A:=A_V81) tc Tryz.func77 (jeq ⟨ok_V17,trivial⟩) (run_V81 big)
def wj2 (rec:T55) (k:Y2→Y2→Y4→Y2→Int→Y4→Z4) (a1 a2:Y2) (a3:Y4) (a4:Y2) (a5:Int) (a6:Y4) (a7:Int):Z4 :=
  cond (decide (a7<(a3.length:Int)))
  ((atI a3 a7).bind fun _ =>
  (a3[a7.toNat]?).bind fun xq2 =>
  (atI a3 a5).bind fun _ =>
  (a3[a5.toNat]?).bind fun xq3 =>
  (V15 a1 xq2 xq3).bind fun rq4 =>
  cond rq4.1
  ((appI a6 [a7]).bind fun xq5 =>
  rec a1 a2 a3 a4 a5 xq5 (IntKind.i64.wrap (a7+1)))
  (rec a1 a2 a3 a4 a5 a6 (IntKind.i64.wrap (a7+1))))
  (k a1 a2 a3 a4 a5 a6)
def wfu (rec:T52) (a1 a2:Y2) (a3:Y4) (a4:Y2) (a5:Int) (a6:Y4):Z4 :=
  (appI a4.1 [a6]).bind fun xq6 =>
  rec a1 a2 a3 (xq6,((),a4.2).2) (IntKind.i64.wrap (a5+1))
def wfv (L8:T55) (k:T32) (a1 a2:Y2) (a3:Y4) (a4:Y2) (a5:Int):Z4 :=
  cond (decide (a5<(a3.length:Int)))
  (L8 a1 a2 a3 a4 a5 [] 0)
  (k a2 a4)
def zh (a2 a4:Y2):Z4 :=
  some (a4,(()))
def w4g (L4:T52) (p_0:Y2):Z4 :=
  (V81 big p_0).bind fun rq1 =>
  L4 p_0 (([]:Y3),()) rq1.1 ([],()) 0
def wxe (N:Nat) (k:Y2→Y2→Y4→Y2→Int→Y4→Z4):=itN (fun r=>wj2 r k) fun _ _ _ _ _ _ _=>none
def wj0 (N:Nat) (rec:T52) (k:T32):=wxe N (wfu rec) N
def wxd (N:Nat) (k:T32):=itN (fun r=>wfv (wj0 N r k) k) fun _ _ _ _ _=>none
def wpw (N:Nat):=wxd N (zh) N
def V82 (N:Nat) (p_0:Y2):Z4:=w4g (wpw N) p_0
def S_V82:Sig:=⟨Q10,[0],[],.unit,Q0,(.p O11 .i),fun x=>V82 big x.1⟩
def A_V82:Cfg:=mkCfg tab [(77,S_V81),(32,S_V15)] [(8,[D0,B3,B2,B1,B2,B0]),(16,[D0,B3,B2,B1,B2,B0,B1,B0]),(27,[D0,D0,B2,D0,B2]),(25,[D0,B3,B2,B1,B2,B0,B1])]
noncomputable def wbs (N n:Nat) (K:T34) (a1 a2:Y2) (a3:Y4) (a4:Y2) (a5:Int):Z4:=itr A_V82 N 8 Tryz.f104 [1,1,1,0,1,0,0] n ([.u,W3 a1,W2 a2,W1 a3,W2 a4,W0 a5]++us 40) K
noncomputable def wj1 (N n:Nat) (K:T34) (a1 a2:Y2) (a3:Y4) (a4:Y2) (a5:Int) (a6:Y4) (a7:Int):Z4:=itr A_V82 N 16 Tryz.f104 [1,1,1,0,1,0,0,1,0,0,1,0,1,0,0] n ([.u,W3 a1,W2 a2,W1 a3,W2 a4,W0 a5,W1 a6,W0 a7]++us 38) K
noncomputable def wtx:Ex→St→Z4:=finish A_V82 S_V82 Tryz.f104.results.toList
noncomputable def wpz (kX:T7) (a2 a4:Y2):Z4:=kX ([.u,.u,W2 a2,.u,W2 a4]++us 41)
noncomputable def wft (kX:T7) (kO:T1):=exK wtx 0 (A_V82.shape 27) kX kO
noncomputable def xb3 (kX:T7) (a1 a2:Y2) (a3:Y4) (a4:Y2) (a5:Int) (a6:Y4):Z4:=kX ([.u,W3 a1,W2 a2,W1 a3,W2 a4,W0 a5,W1 a6]++us 39)
noncomputable def xb2 (kX:T7) (kO:T1):=exK wtx 2 (A_V82.shape 25) kX kO
theorem xb5 (N kX kO):∀n,wj1 N n (xb2 kX kO)=wxe N (xb3 kX) n :=
 itE rfl fun m=>by kernel_rfl
noncomputable def wpy (N m:Nat) (kX:T7) (kO:T1):=(blockK 2 (sqK A_V82 N 25 500012 Tryz.f104 [1,1,1,0,1,0,0,1,0,0,1,1] (blockK 1 (sqK A_V82 N 11 500005 Tryz.f104 [1,1,1,0,1,0,0,1,1] (itK A_V82 N 8 Tryz.f104 [1,1,1,0,1,0,0] m (wft kX kO))))))
noncomputable def xb7 (N m:Nat) (kX:T7) (kO:T1) (st':St):Z4:=rn A_V82 N Tryz.f104 [1,1,1,0,1,0,0,1,0,0,1,1] st' (blockK 1 (sqK A_V82 N 11 500005 Tryz.f104 [1,1,1,0,1,0,0,1,1] (itK A_V82 N 8 Tryz.f104 [1,1,1,0,1,0,0] m (wft kX kO))))
theorem xju (N m kX kO) {r}(h:wbs N m (wft kX kO)=r):wj1 N N (wpy N m kX kO)=wj0 N r (wpz kX):=by
 rw[show wj1 N N (wpy N m kX kO)=wj1 N N (xb2 (xb7 N m kX kO) fun j=>(wpy N m kX kO) (.exit j)) from(by funext _ _ _ _ _ _ _;exact jlo),xb5,show xb3 (xb7 N m kX kO)=wfu (wbs N m (wft kX kO)) by kernel_rfl,h];rfl
theorem xb4 (N kX kO):∀n,wbs N n (wft kX kO)=wxd N (wpz kX) n :=
 itE rfl fun m=>(show _=wfv (wj1 N N (wpy N m kX kO)) (wpz kX) by kernel_rfl).trans (by rw[xju N m kX kO rfl]<;>rfl)
noncomputable def wpx (N:Nat):=(blockK 0 (sqK A_V82 N 27 500013 Tryz.f104 [1,1,1,1] wtx))
noncomputable def xb6 (N:Nat) (st':St):Z4:=rn A_V82 N Tryz.f104 [1,1,1,1] st' wtx
theorem xjt (N):wbs N N (wpx N)=wpw N:=by
 rw[show wbs N N (wpx N)=wbs N N (wft (xb6 N) fun j=>(wpx N) (.exit j)) from(by funext _ _ _ _ _;exact jlo),xb4,show wpz (xb6 N)=zh by kernel_rfl];rfl
theorem run_V82 (N x):runF A_V82 N Tryz.f104 S_V82 x=V82 N x.1:=(show _=(w4g (wbs N N (wpx N)) x.1) by kernel_rfl).trans (by rw[xjt N];rfl)
theorem ok_V82:OK 104 S_V82:=gdR (A:=A_V82) tc Tryz.func104 (jeq ⟨ok_V81,ok_V15,trivial⟩) (run_V82 big)
def wf0 (rec:T44) (k:T12) (a0:Z0) (a7:Y4) (a8:Int) (a9 a11:Y2) (a12 a13 a14:Int):Z6 :=
  cond (decide (a14<(a7.length:Int)))
  ((V15 a9 a13 a14).bind fun rq25 =>
  cond rq25.1
  ((atI a7 a13).bind fun _ =>
  (a7[a13.toNat]?).bind fun xq26 =>
  (atI a7 a14).bind fun _ =>
  (a7[a14.toNat]?).bind fun xq27 =>
  (V15 a11 xq26 xq27).bind fun rq28 =>
  cond (!rq28.1)
  ((atI a7 a14).bind fun _ =>
  (a7[a14.toNat]?).bind fun xq29 =>
  (atI a7 a13).bind fun _ =>
  (a7[a13.toNat]?).bind fun xq30 =>
  rec a0 (a7.set a13.toNat xq29) a8 a9 a11 a12 a13 (IntKind.i64.wrap (a14+1)))
  (rec a0 a7 a8 a9 a11 a12 a13 (IntKind.i64.wrap (a14+1))))
  (rec a0 a7 a8 a9 a11 a12 a13 (IntKind.i64.wrap (a14+1))))
  (k a0 a7 a8 a9 a11 a12 a13)
def was (rec:T12) (a0:Z0) (a7:Y4) (a8:Int) (a9 a11:Y2) (a12 a13:Int):Z6 :=
  rec a0 a7 a8 a9 a11 a12 (IntKind.i64.wrap (a13+1))
def wau (L19:T44) (k:T8) (a0:Z0) (a7:Y4) (a8:Int) (a9 a11:Y2) (a12 a13:Int):Z6 :=
  cond (decide (a13<(a7.length:Int)))
  (L19 a0 a7 a8 a9 a11 a12 a13 0)
  (k a0 a7 a8 a9 a11 a12)
def xu (rec:T8) (a0:Z0) (a7:Y4) (a8:Int) (a9 a11:Y2) (a12:Int):Z6 :=
  rec a0 a7 a8 a9 a11 (IntKind.i64.wrap (a12+1))
def wat (L16:T12) (k:T111) (a0:Z0) (a7:Y4) (a8:Int) (a9 a11:Y2) (a12:Int):Z6 :=
  cond (decide (a12<10))
  (L16 a0 a7 a8 a9 a11 a12 0)
  (k a0 a7 a8)
def xt (a0:Z0) (a7:Y4) (a8:Int):Z6 :=
  (V2 a0 32).bind fun rq20 =>
  cond (decide (rq20.1=0))
  ((appI a7 [(0:Int)]).bind fun xq21 =>
  some (xq21,(rq20.2.1,())))
  (cond (decide (rq20.1=1))
  (cond (decide (0<(a7.length:Int)))
  ((V2 rq20.2.1 (a7.length:Int)).bind fun rq22 =>
  (V4 rq22.2.1 [(-1:Int),a8,0]).bind fun rq23 =>
  (atI a7 rq22.1).bind fun _ =>
  (a7[rq22.1.toNat]?).bind fun xq24 =>
  some (a7.set rq22.1.toNat rq23.1,(rq23.2.1,())))
  (some (a7,(rq20.2.1,()))))
  (some (a7,(rq20.2.1,()))))
def wj4 (rec:T73) (k:Z0→Y2→Y4→Int→Y2→Z6) (a0:Z0) (a5:Y2) (a7:Y4) (a8:Int) (a9:Y2) (a10:Int):Z6 :=
  cond (decide (a10<(a9.1.length:Int)))
  ((V39 1 a8).bind fun rq5 =>
  (V2 a0 rq5.1).bind fun rq6 =>
  (appI a7 [rq6.1]).bind fun xq7 =>
  rec rq6.2.1 a5 xq7 a8 a9 (IntKind.i64.wrap (a10+1)))
  (k a0 a5 a7 a8 a9)
def wfz (L13:T8) (a0:Z0) (a5:Y2) (a7:Y4) (a8:Int) (a9:Y2):Z6 :=
  cond (decide (0<a8))
  ((V3 a0 4).bind fun rq8 =>
  cond (!rq8.1)
  ((V82 big a5).bind fun rq9 =>
  L13 rq8.2.1 a7 a8 a9 rq9.1 0)
  ((V2 rq8.2.1 32).bind fun rq10 =>
  cond (decide (rq10.1=0))
  ((appI a7 [(0:Int)]).bind fun xq11 =>
  some (xq11,(rq10.2.1,())))
  (cond (decide (rq10.1=1))
  (cond (decide (0<(a7.length:Int)))
  ((V2 rq10.2.1 (a7.length:Int)).bind fun rq12 =>
  (V4 rq12.2.1 [(-1:Int),a8,0]).bind fun rq13 =>
  (atI a7 rq12.1).bind fun _ =>
  (a7[rq12.1.toNat]?).bind fun xq14 =>
  some (a7.set rq12.1.toNat rq13.1,(rq13.2.1,())))
  (some (a7,(rq10.2.1,()))))
  (some (a7,(rq10.2.1,()))))))
  ((V2 a0 32).bind fun rq15 =>
  cond (decide (rq15.1=0))
  ((appI a7 [(0:Int)]).bind fun xq16 =>
  some (xq16,(rq15.2.1,())))
  (cond (decide (rq15.1=1))
  (cond (decide (0<(a7.length:Int)))
  ((V2 rq15.2.1 (a7.length:Int)).bind fun rq17 =>
  (V4 rq17.2.1 [(-1:Int),a8,0]).bind fun rq18 =>
  (atI a7 rq17.1).bind fun _ =>
  (a7[rq17.1.toNat]?).bind fun xq19 =>
  some (a7.set rq17.1.toNat rq18.1,(rq18.2.1,())))
  (some (a7,(rq15.2.1,()))))
  (some (a7,(rq15.2.1,())))))
def w4k (L7:T73) (c_0:Z0) (p_1 q_2:Y2):Z6 :=
  (V28 big p_1).bind fun rq1 =>
  cond (!rq1.1)
  (some ([],(c_0,())))
  ((V28 big q_2).bind fun rq2 =>
  cond (!rq2.1)
  (some ([],(c_0,())))
  ((V81 big q_2).bind fun rq3 =>
  (V82 big p_1).bind fun rq4 =>
  L7 c_0 q_2 [] (rq3.1.length:Int) rq4.1 0))
def wsm (N:Nat) (k:T12):=itN (fun r=>wf0 r k) fun _ _ _ _ _ _ _ _=>none
def wfx (N:Nat) (rec:T12) (k:T8):=wsm N (was rec) N
def wsl (N:Nat) (k:T8):=itN (fun r=>wau (wfx N r k) k) fun _ _ _ _ _ _ _=>none
def wfw (N:Nat) (rec:T8) (k:T111):=wsl N (xu rec) N
def wxf (N:Nat) (k:Z0→Y2→Y4→Int→Y2→Z6):=itN (fun r=>wj4 r k) fun _ _ _ _ _ _=>none
def wsk (N:Nat) (k:T111):=itN (fun r=>wat (wfw N r k) k) fun _ _ _ _ _ _=>none
def war (N:Nat):=wsk N (xt) N
def wp0 (N:Nat):=wxf N (wfz (war N)) N
def V83 (N:Nat) (c_0:Z0) (p_1 q_2:Y2):Z6:=w4k (wp0 N) c_0 p_1 q_2
def S_V83:Sig:=⟨(.pair Q2 (.pair Q0 Q10)),[1,0,0],[O4],Q20,Q6,O4,fun x=>V83 big x.1 x.2.1 x.2.2.1⟩
def A_V83:Cfg:=mkCfg tab [(75,S_V28),(77,S_V81),(104,S_V82),(25,S_V39),(24,S_V2),(36,S_V3),(55,S_V4),(32,S_V15)] [(14,([B6]++dr 4 [B3,D0,B1,B0,B2,B0])),(21,([B6]++dr 4 [B3,D0,B1,B0,B2])),(26,([B6]++dr 6 [B1,B0,B2,D0,B2,B0])),(32,([B6]++dr 6 [B1,B0,B2,D0,B2,B0,B0])),(47,([B6]++dr 6 [B1,B0])),(38,([B6]++dr 6 [B1,B0,B2,D0,B2,B0,B0,B0])),(29,([B6]++dr 6 [B1,B0,B2,D0,B2,B0])),(35,([B6]++dr 6 [B1,B0,B2,D0,B2,B0,B0]))]
noncomputable def wj3 (N n:Nat) (K:T103) (a0:Z0) (a5:Y2) (a7:Y4) (a8:Int) (a9:Y2) (a10:Int):Z6:=itr A_V83 N 14 Tryz.f79 [1,1,1,1,1,0,1,0,0] n (([W6 a0]++ud 4 [W3 a5,.u,W1 a7,W0 a8,W2 a9,W0 a10])++us 105) K
noncomputable def yg (N n:Nat) (K:T103) (a0:Z0) (a7:Y4) (a8:Int) (a9 a11:Y2) (a12:Int):Z6:=itr A_V83 N 26 Tryz.f79 [1,1,1,1,1,1,0,1,0,1,1,0,0] n (([W6 a0]++ud 6 [W1 a7,W0 a8,W2 a9,.u,W2 a11,W0 a12])++us 103) K
noncomputable def yh (N n:Nat) (K:T103) (a0:Z0) (a7:Y4) (a8:Int) (a9 a11:Y2) (a12 a13:Int):Z6:=itr A_V83 N 32 Tryz.f79 [1,1,1,1,1,1,0,1,0,1,1,0,0,1,0,0,1,0,0] n (([W6 a0]++ud 6 [W1 a7,W0 a8,W2 a9,.u,W2 a11,W0 a12,W0 a13])++us 102) K
noncomputable def wfy (N n:Nat) (K:T103) (a0:Z0) (a7:Y4) (a8:Int) (a9 a11:Y2) (a12 a13 a14:Int):Z6:=itr A_V83 N 38 Tryz.f79 [1,1,1,1,1,1,0,1,0,1,1,0,0,1,0,0,1,0,0,1,0,0,1,0,0] n (([W6 a0]++ud 6 [W1 a7,W0 a8,W2 a9,.u,W2 a11,W0 a12,W0 a13,W0 a14])++us 101) K
noncomputable def wcb:Ex→St→Z6:=finish A_V83 S_V83 Tryz.f79.results.toList
noncomputable def xb9 (kX:T79) (a0:Z0) (a5:Y2) (a7:Y4) (a8:Int) (a9:Y2):Z6:=kX (([W6 a0]++ud 4 [W3 a5,.u,W1 a7,W0 a8,W2 a9])++us 106)
noncomputable def xb8 (kX:T79) (kO:T67):=exK wcb 0 (A_V83.shape 21) kX kO
noncomputable def wl7 (kX:T79) (a0:Z0) (a7:Y4) (a8:Int):Z6:=kX (([W6 a0]++ud 6 [W1 a7,W0 a8])++us 107)
noncomputable def wap (kX:T79) (kO:T67):=exK wcb 2 (A_V83.shape 47) kX kO
noncomputable def wl8 (kX:T79) (a0:Z0) (a7:Y4) (a8:Int) (a9 a11:Y2) (a12:Int):Z6:=kX (([W6 a0]++ud 6 [W1 a7,W0 a8,W2 a9,.u,W2 a11,W0 a12])++us 103)
noncomputable def waq (kX:T79) (kO:T67):=exK wcb 4 (A_V83.shape 29) kX kO
noncomputable def w1f (kX:T79) (a0:Z0) (a7:Y4) (a8:Int) (a9 a11:Y2) (a12 a13:Int):Z6:=kX (([W6 a0]++ud 6 [W1 a7,W0 a8,W2 a9,.u,W2 a11,W0 a12,W0 a13])++us 102)
noncomputable def w1e (kX:T79) (kO:T67):=exK wcb 6 (A_V83.shape 35) kX kO
theorem xca (N kX kO):∀n,wj3 N n (xb8 kX kO)=wxf N (xb9 kX) n :=
 itE rfl fun m=>by kernel_rfl
noncomputable def wp1 (N:Nat):=(blockK 0 (sqK A_V83 N 21 500010 Tryz.f79 [1,1,1,1,1,1] wcb))
theorem w4j (N kX kO):∀n,wfy N n (w1e kX kO)=wsm N (w1f kX) n :=
 itE rfl fun m=>by kernel_rfl
noncomputable def wl6 (N m:Nat) (kX:T79) (kO:T67):=(blockK 6 (blockK 5 (sqK A_V83 N 35 500017 Tryz.f79 [1,1,1,1,1,1,0,1,0,1,1,0,0,1,0,0,1,0,0,1,1] (itK A_V83 N 32 Tryz.f79 [1,1,1,1,1,1,0,1,0,1,1,0,0,1,0,0,1,0,0] m (waq kX kO)))))
noncomputable def w1i (N m:Nat) (kX:T79) (kO:T67) (st':St):Z6:=rn A_V83 N Tryz.f79 [1,1,1,1,1,1,0,1,0,1,1,0,0,1,0,0,1,0,0,1,1] st' (itK A_V83 N 32 Tryz.f79 [1,1,1,1,1,1,0,1,0,1,1,0,0,1,0,0,1,0,0] m (waq kX kO))
theorem xff (N m kX kO) {r}(h:yh N m (waq kX kO)=r):wfy N N (wl6 N m kX kO)=wfx N r (wl8 kX):=by
 rw[show wfy N N (wl6 N m kX kO)=wfy N N (w1e (w1i N m kX kO) fun j=>(wl6 N m kX kO) (.exit j)) from(by funext _ _ _ _ _ _ _ _;exact jlo),w4j,show w1f (w1i N m kX kO)=was (yh N m (waq kX kO)) by kernel_rfl,h];rfl
theorem w4i (N kX kO):∀n,yh N n (waq kX kO)=wsl N (wl8 kX) n :=
 itE rfl fun m=>(show _=wau (wfy N N (wl6 N m kX kO)) (wl8 kX) by kernel_rfl).trans (by rw[xff N m kX kO rfl]<;>rfl)
noncomputable def wl5 (N m:Nat) (kX:T79) (kO:T67):=(blockK 4 (blockK 3 (sqK A_V83 N 29 500014 Tryz.f79 [1,1,1,1,1,1,0,1,0,1,1,0,0,1,1] (itK A_V83 N 26 Tryz.f79 [1,1,1,1,1,1,0,1,0,1,1,0,0] m (wap kX kO)))))
noncomputable def w1h (N m:Nat) (kX:T79) (kO:T67) (st':St):Z6:=rn A_V83 N Tryz.f79 [1,1,1,1,1,1,0,1,0,1,1,0,0,1,1] st' (itK A_V83 N 26 Tryz.f79 [1,1,1,1,1,1,0,1,0,1,1,0,0] m (wap kX kO))
theorem xfe (N m kX kO) {r}(h:yg N m (wap kX kO)=r):yh N N (wl5 N m kX kO)=wfw N r (wl7 kX):=by
 rw[show yh N N (wl5 N m kX kO)=yh N N (waq (w1h N m kX kO) fun j=>(wl5 N m kX kO) (.exit j)) from(by funext _ _ _ _ _ _ _;exact jlo),w4i,show wl8 (w1h N m kX kO)=xu (yg N m (wap kX kO)) by kernel_rfl,h];rfl
theorem w4h (N kX kO):∀n,yg N n (wap kX kO)=wsk N (wl7 kX) n :=
 itE rfl fun m=>(show _=wat (yh N N (wl5 N m kX kO)) (wl7 kX) by kernel_rfl).trans (by rw[xfe N m kX kO rfl]<;>rfl)
noncomputable def wl4 (N:Nat):=(blockK 2 (sqK A_V83 N 47 500023 Tryz.f79 [1,1,1,1,1,1,1] wcb))
noncomputable def w1g (N:Nat) (st':St):Z6:=rn A_V83 N Tryz.f79 [1,1,1,1,1,1,1] st' wcb
theorem xfd (N):yg N N (wl4 N)=war N:=by
 rw[show yg N N (wl4 N)=yg N N (wap (w1g N) fun j=>(wl4 N) (.exit j)) from(by funext _ _ _ _ _ _;exact jlo),w4h,show wl7 (w1g N)=xt by kernel_rfl];rfl
noncomputable def xcb (N:Nat) (st':St):Z6:=rn A_V83 N Tryz.f79 [1,1,1,1,1,1] st' wcb
theorem xjv (N):wj3 N N (wp1 N)=wp0 N:=by
 rw[show wj3 N N (wp1 N)=wj3 N N (xb8 (xcb N) fun j=>(wp1 N) (.exit j)) from(by funext _ _ _ _ _ _;exact jlo),xca,show xb9 (xcb N)=wfz (yg N N (wl4 N)) by kernel_rfl,xfd N];rfl
theorem run_V83 (N x):runF A_V83 N Tryz.f79 S_V83 x=V83 N x.1 x.2.1 x.2.2.1:=(show _=(w4k (wj3 N N (wp1 N)) x.1 x.2.1 x.2.2.1) by kernel_rfl).trans (by rw[xjv N];rfl)
theorem ok_V83:OK 79 S_V83:=gdR (A:=A_V83) tc Tryz.func79 (jeq ⟨ok_V28,ok_V81,ok_V82,ok_V39,ok_V2,ok_V3,ok_V4,ok_V15,trivial⟩) (run_V83 big)
def wj7 (rec:Y4→Y2→Y2→Int→Int→Option Z1) (k:Y4→Y2→Y2→Int→Option Z1) (a2:Y4) (a7 a8:Y2) (a9 a10:Int):Option Z1 :=
  cond (decide (a10<(a2.length:Int)))
  ((V15 a7 a9 a10).bind fun rq4 =>
  cond rq4.1
  ((atI a2 a9).bind fun xq5 =>
  (atI a2 a10).bind fun xq6 =>
  (V15 a8 xq5 xq6).bind fun rq7 =>
  cond (!rq7.1)
  (some (false,(())))
  (rec a2 a7 a8 a9 (IntKind.i64.wrap (a10+1))))
  (rec a2 a7 a8 a9 (IntKind.i64.wrap (a10+1))))
  (k a2 a7 a8 a9)
def wf2 (rec:Y4→Y2→Y2→Int→Option Z1) (a2:Y4) (a7 a8:Y2) (a9:Int):Option Z1 :=
  rec a2 a7 a8 (IntKind.i64.wrap (a9+1))
def wf3 (L8:Y4→Y2→Y2→Int→Int→Option Z1) (k:Option Z1) (a2:Y4) (a7 a8:Y2) (a9:Int):Option Z1 :=
  cond (decide (a9<(a2.length:Int)))
  (L8 a2 a7 a8 a9 0)
  (k)
def wbu:Option Z1 :=
  some (true,(()))
def w4l (L5:Y4→Y2→Y2→Int→Option Z1) (p_0 q_1:Y2) (g_2:Y4):Option Z1 :=
  (V82 big p_0).bind fun rq1 =>
  (V82 big q_1).bind fun rq2 =>
  cond (decide ((g_2.length:Int)≠(rq1.1.1.length:Int)))
  (some (false,(())))
  ((V7 big (rq2.1.1.length:Int) g_2).bind fun rq3 =>
  cond (!rq3.1)
  (some (false,(())))
  (L5 g_2 rq1.1 rq2.1 0))
def wxh (N:Nat) (k:Y4→Y2→Y2→Int→Option Z1):=itN (fun r=>wj7 r k) fun _ _ _ _ _=>none
def wj5 (N:Nat) (rec:Y4→Y2→Y2→Int→Option Z1) (k:Option Z1):=wxh N (wf2 rec) N
def wxg (N:Nat) (k:Option Z1):=itN (fun r=>wf3 (wj5 N r k) k) fun _ _ _ _=>none
def wp2 (N:Nat):=wxg N (wbu) N
def V84 (N:Nat) (p_0 q_1:Y2) (g_2:Y4):Option Z1:=w4l (wp2 N) p_0 q_1 g_2
def S_V84:Sig:=⟨Q18,[0,0,0],[],.unit,.bool,.i,fun x=>V84 big x.1 x.2.1 x.2.2.1⟩
def A_V84:Cfg:=mkCfg tab [(104,S_V82),(30,S_V7),(32,S_V15)] [(10,([D0,D0,B4]++dr 4 [B2,B2,B0])),(16,([D0,D0,B4]++dr 4 [B2,B2,B0,B0])),(25,[]),(13,([D0,D0,B4]++dr 4 [B2,B2,B0]))]
noncomputable def wbt (N n:Nat) (K:Ex→St→Option Z1) (a2:Y4) (a7 a8:Y2) (a9:Int):Option Z1:=itr A_V84 N 10 Tryz.f103 [1,1,1,0,1,0,0] n (([.u,.u,W4 a2]++ud 4 [W2 a7,W2 a8,W0 a9])++us 48) K
noncomputable def wj6 (N n:Nat) (K:Ex→St→Option Z1) (a2:Y4) (a7 a8:Y2) (a9 a10:Int):Option Z1:=itr A_V84 N 16 Tryz.f103 [1,1,1,0,1,0,0,1,0,0,1,0,0] n (([.u,.u,W4 a2]++ud 4 [W2 a7,W2 a8,W0 a9,W0 a10])++us 47) K
noncomputable def wty:Ex→St→Option Z1:=finish A_V84 S_V84 Tryz.f103.results.toList
noncomputable def wp5 (kX:St→Option Z1):Option Z1:=kX ([]++us 58)
noncomputable def wf1 (kX:St→Option Z1) (kO:Nat→St→Option Z1):Ex→St→Option Z1:=exK wty 0 (A_V84.shape 25) kX kO
noncomputable def xcd (kX:St→Option Z1) (a2:Y4) (a7 a8:Y2) (a9:Int):Option Z1:=kX (([.u,.u,W4 a2]++ud 4 [W2 a7,W2 a8,W0 a9])++us 48)
noncomputable def xcc (kX:St→Option Z1) (kO:Nat→St→Option Z1):Ex→St→Option Z1:=exK wty 2 (A_V84.shape 13) kX kO
theorem xcf (N kX kO):∀n,wj6 N n (xcc kX kO)=wxh N (xcd kX) n :=
 itE rfl fun m=>by kernel_rfl
noncomputable def wp4 (N m:Nat) (kX:St→Option Z1) (kO:Nat→St→Option Z1):Ex→St→Option Z1:=(blockK 2 (blockK 1 (sqK A_V84 N 13 500006 Tryz.f103 [1,1,1,0,1,0,0,1,1] (itK A_V84 N 10 Tryz.f103 [1,1,1,0,1,0,0] m (wf1 kX kO)))))
noncomputable def xch (N m:Nat) (kX:St→Option Z1) (kO:Nat→St→Option Z1) (st':St):Option Z1:=rn A_V84 N Tryz.f103 [1,1,1,0,1,0,0,1,1] st' (itK A_V84 N 10 Tryz.f103 [1,1,1,0,1,0,0] m (wf1 kX kO))
theorem xj0 (N m kX kO) {r}(h:wbt N m (wf1 kX kO)=r):wj6 N N (wp4 N m kX kO)=wj5 N r (wp5 kX):=by
 rw[show wj6 N N (wp4 N m kX kO)=wj6 N N (xcc (xch N m kX kO) fun j=>(wp4 N m kX kO) (.exit j)) from(by funext _ _ _ _ _;exact jlo),xcf,show xcd (xch N m kX kO)=wf2 (wbt N m (wf1 kX kO)) by kernel_rfl,h];rfl
theorem xce (N kX kO):∀n,wbt N n (wf1 kX kO)=wxg N (wp5 kX) n :=
 itE rfl fun m=>(show _=wf3 (wj6 N N (wp4 N m kX kO)) (wp5 kX) by kernel_rfl).trans (by rw[xj0 N m kX kO rfl]<;>rfl)
noncomputable def wp3 (N:Nat):Ex→St→Option Z1:=(blockK 0 (sqK A_V84 N 25 500012 Tryz.f103 [1,1,1,1] wty))
noncomputable def xcg (N:Nat) (st':St):Option Z1:=rn A_V84 N Tryz.f103 [1,1,1,1] st' wty
theorem xjz (N):wbt N N (wp3 N)=wp2 N:=by
 rw[show wbt N N (wp3 N)=wbt N N (wf1 (xcg N) fun j=>(wp3 N) (.exit j)) from(by funext _ _ _ _;exact jlo),xce,show wp5 (xcg N)=wbu by kernel_rfl];rfl
theorem run_V84 (N x):runF A_V84 N Tryz.f103 S_V84 x=V84 N x.1 x.2.1 x.2.2.1:=(show _=(w4l (wbt N N (wp3 N)) x.1 x.2.1 x.2.2.1) by kernel_rfl).trans (by rw[xjz N];rfl)
theorem ok_V84:OK 103 S_V84:=gdR (A:=A_V84) tc Tryz.func103 (jeq ⟨ok_V82,ok_V7,ok_V15,trivial⟩) (run_V84 big)
def wf7 (rec:T4) (k:T47) (a2:Y4) (a3 a4:Y2) (a8 a9 a10:Y4) (a11 a12 a13:Int):Z2 :=
  cond (decide (a13<(a2.length:Int)))
  ((atI a2 a13).bind fun xq7 =>
  (atI a10 xq7).bind fun _ =>
  (a10[xq7.toNat]?).bind fun xq8 =>
  (V15 a3 xq8 a11).bind fun rq9 =>
  cond rq9.1
  ((atI a9 a13).bind fun _ =>
  (a9[a13.toNat]?).bind fun xq10 =>
  (V29 a4 a12 xq10).bind fun rq11 =>
  rec a2 a3 a4 a8 a9 a10 a11 rq11.1 (IntKind.i64.wrap (a13+1)))
  (rec a2 a3 a4 a8 a9 a10 a11 a12 (IntKind.i64.wrap (a13+1))))
  (k a2 a3 a4 a8 a9 a10 a11 a12)
def wav (rec:T0) (a2:Y4) (a3 a4:Y2) (a8 a9 a10:Y4) (a11 a12:Int):Z2 :=
  (appI a8 [a12]).bind fun xq12 =>
  rec a2 a3 a4 xq12 a9 a10 (IntKind.i64.wrap (a11+1))
def wf8 (L10:T4) (k:T75) (a2:Y4) (a3 a4:Y2) (a8 a9 a10:Y4) (a11:Int):Z2 :=
  cond (decide (a11<(a3.1.length:Int)))
  ((V33 a4).bind fun rq6 =>
  L10 a2 a3 a4 a8 a9 a10 a11 rq6.1 0)
  (k a8)
def wbw (a8:Y4):Z2 :=
  some ((a8,true,()),(()))
def w4n (L6:T0) (p_0 q_1:Y2) (g_2:Y4):Z2 :=
  (V32 p_0).bind fun rq1 =>
  cond (!rq1.1)
  (some (([],false,()),(())))
  ((V32 q_1).bind fun rq2 =>
  cond (!rq2.1)
  (some (([],false,()),(())))
  ((V84 big q_1 p_0 g_2).bind fun rq3 =>
  cond (!rq3.1)
  (some (([],false,()),(())))
  ((V81 big q_1).bind fun rq4 =>
  (V81 big p_0).bind fun rq5 =>
  L6 g_2 p_0 q_1 [] rq4.1 rq5.1 0)))
def wsn (N:Nat) (k:T47):=itN (fun r=>wf7 r k) fun _ _ _ _ _ _ _ _ _=>none
def wf5 (N:Nat) (rec:T0) (k:T75):=wsn N (wav rec) N
def wxi (N:Nat) (k:T75):=itN (fun r=>wf8 (wf5 N r k) k) fun _ _ _ _ _ _ _=>none
def wp6 (N:Nat):=wxi N (wbw) N
def V85 (N:Nat) (p_0 q_1:Y2) (g_2:Y4):Z2:=w4n (wp6 N) p_0 q_1 g_2
def S_V85:Sig:=⟨Q18,[0,0,0],[],.unit,(.tup (.pair Q6 Q12)),(.p O4 .i),fun x=>V85 big x.1 x.2.1 x.2.2.1⟩
def A_V85:Cfg:=mkCfg tab [(64,S_V32),(103,S_V84),(77,S_V81),(31,S_V33),(32,S_V15),(33,S_V29)] [(12,([D0,D0,B4,B3,B3]++dr 3 [B1,B1,B1,B0])),(20,([D0,D0,B4,B3,B3]++dr 3 [B1,B1,B1,B0,B0,B0])),(31,(dr 8 [B1])),(29,([D0,D0,B4,B3,B3]++dr 3 [B1,B1,B1,B0,B0]))]
noncomputable def wbv (N n:Nat) (K:T56) (a2:Y4) (a3 a4:Y2) (a8 a9 a10:Y4) (a11:Int):Z2:=itr A_V85 N 12 Tryz.f78 [1,1,1,1,0,1,0,0] n (([.u,.u,W4 a2,W3 a3,W3 a4]++ud 3 [W1 a8,W1 a9,W1 a10,W0 a11])++us 60) K
noncomputable def wf6 (N n:Nat) (K:T56) (a2:Y4) (a3 a4:Y2) (a8 a9 a10:Y4) (a11 a12 a13:Int):Z2:=itr A_V85 N 20 Tryz.f78 [1,1,1,1,0,1,0,0,1,0,0,1,0,1,0,0] n (([.u,.u,W4 a2,W3 a3,W3 a4]++ud 3 [W1 a8,W1 a9,W1 a10,W0 a11,W0 a12,W0 a13])++us 58) K
noncomputable def wtz:Ex→St→Z2:=finish A_V85 S_V85 Tryz.f78.results.toList
noncomputable def wp8 (kX:T19) (a8:Y4):Z2:=kX ((ud 8 [W1 a8])++us 63)
noncomputable def wf4 (kX:T19) (kO:T9):=exK wtz 0 (A_V85.shape 31) kX kO
noncomputable def w1k (kX:T19) (a2:Y4) (a3 a4:Y2) (a8 a9 a10:Y4) (a11 a12:Int):Z2:=kX (([.u,.u,W4 a2,W3 a3,W3 a4]++ud 3 [W1 a8,W1 a9,W1 a10,W0 a11,W0 a12])++us 59)
noncomputable def w1j (kX:T19) (kO:T9):=exK wtz 2 (A_V85.shape 29) kX kO
theorem w4m (N kX kO):∀n,wf6 N n (w1j kX kO)=wsn N (w1k kX) n :=
 itE rfl fun m=>by kernel_rfl
noncomputable def wl9 (N m:Nat) (kX:T19) (kO:T9):=(blockK 2 (sqK A_V85 N 29 500014 Tryz.f78 [1,1,1,1,0,1,0,0,1,0,0,1,1] (blockK 1 (sqK A_V85 N 15 500007 Tryz.f78 [1,1,1,1,0,1,0,0,1,1] (itK A_V85 N 12 Tryz.f78 [1,1,1,1,0,1,0,0] m (wf4 kX kO))))))
noncomputable def w1l (N m:Nat) (kX:T19) (kO:T9) (st':St):Z2:=rn A_V85 N Tryz.f78 [1,1,1,1,0,1,0,0,1,0,0,1,1] st' (blockK 1 (sqK A_V85 N 15 500007 Tryz.f78 [1,1,1,1,0,1,0,0,1,1] (itK A_V85 N 12 Tryz.f78 [1,1,1,1,0,1,0,0] m (wf4 kX kO))))
theorem xfg (N m kX kO) {r}(h:wbv N m (wf4 kX kO)=r):wf6 N N (wl9 N m kX kO)=wf5 N r (wp8 kX):=by
 rw[show wf6 N N (wl9 N m kX kO)=wf6 N N (w1j (w1l N m kX kO) fun j=>(wl9 N m kX kO) (.exit j)) from(by funext _ _ _ _ _ _ _ _ _;exact jlo),w4m,show w1k (w1l N m kX kO)=wav (wbv N m (wf4 kX kO)) by kernel_rfl,h];rfl
theorem xci (N kX kO):∀n,wbv N n (wf4 kX kO)=wxi N (wp8 kX) n :=
 itE rfl fun m=>(show _=wf8 (wf6 N N (wl9 N m kX kO)) (wp8 kX) by kernel_rfl).trans (by rw[xfg N m kX kO rfl]<;>rfl)
noncomputable def wp7 (N:Nat):=(blockK 0 (sqK A_V85 N 31 500015 Tryz.f78 [1,1,1,1,1] wtz))
noncomputable def xcj (N:Nat) (st':St):Z2:=rn A_V85 N Tryz.f78 [1,1,1,1,1] st' wtz
theorem xj1 (N):wbv N N (wp7 N)=wp6 N:=by
 rw[show wbv N N (wp7 N)=wbv N N (wf4 (xcj N) fun j=>(wp7 N) (.exit j)) from(by funext _ _ _ _ _ _ _;exact jlo),xci,show wp8 (xcj N)=wbw by kernel_rfl];rfl
theorem run_V85 (N x):runF A_V85 N Tryz.f78 S_V85 x=V85 N x.1 x.2.1 x.2.2.1:=(show _=(w4n (wbv N N (wp7 N)) x.1 x.2.1 x.2.2.1) by kernel_rfl).trans (by rw[xj1 N];rfl)
theorem ok_V85:OK 78 S_V85:=gdR (A:=A_V85) tc Tryz.func78 (jeq ⟨ok_V32,ok_V84,ok_V81,ok_V33,ok_V15,ok_V29,trivial⟩) (run_V85 big)
def wga (rec:T30) (k:Z0→Y2→Y4→Z6) (a0:Z0) (a4 a5:Y2) (a7:Y4) (a9 a10 a12 a13:Int):Z6 :=
  cond (decide (a13<(a7.length:Int)))
  ((atI a7 a13).bind fun _ =>
  (a7[a13.toNat]?).bind fun xq76 =>
  (V15 a4 a12 a13).bind fun rq77 =>
  cond rq77.1
  ((atI (a7.set a13.toNat a9) a13).bind fun _ =>
  ((a7.set a13.toNat a9)[a13.toNat]?).bind fun xq78 =>
  rec a0 a4 a5 ((a7.set a13.toNat a9).set a13.toNat a10) a9 a10 a12 (IntKind.i64.wrap (a13+1)))
  (rec a0 a4 a5 (a7.set a13.toNat a9) a9 a10 a12 (IntKind.i64.wrap (a13+1))))
  (k a0 a5 a7)
def wf9 (a0:Z0) (a5:Y2) (a7:Y4):Z6 :=
  (V2 a0 32).bind fun rq79 =>
  cond (decide (rq79.1=0))
  ((appI a7 [(0:Int)]).bind fun xq80 =>
  some (xq80,(rq79.2.1,())))
  (cond (decide (rq79.1=1))
  (cond (decide (0<(a7.length:Int)))
  ((V2 rq79.2.1 (a7.length:Int)).bind fun rq81 =>
  (V4 rq81.2.1 [(-1:Int),(a5.1.length:Int),0]).bind fun rq82 =>
  (atI a7 rq81.1).bind fun _ =>
  (a7[rq81.1.toNat]?).bind fun xq83 =>
  some (a7.set rq81.1.toNat rq82.1,(rq82.2.1,())))
  (some (a7,(rq79.2.1,()))))
  (some (a7,(rq79.2.1,()))))
def wj9 (rec:T64) (k:Z0→Y2→Y2→Y4→Z6) (a0:Z0) (a4 a5:Y2) (a7:Y4) (a8:Int):Z6 :=
  cond (decide (a8<(a4.1.length:Int)))
  ((V39 1 (a5.1.length:Int)).bind fun rq1 =>
  (V2 a0 rq1.1).bind fun rq2 =>
  (appI a7 [rq2.1]).bind fun xq3 =>
  rec rq2.2.1 a4 a5 xq3 (IntKind.i64.wrap (a8+1)))
  (k a0 a4 a5 a7)
def wj8 (L12:T30) (a0:Z0) (a4 a5:Y2) (a7:Y4):Z6 :=
  (V28 big a4).bind fun rq4 =>
  cond rq4.1
  ((V28 big a5).bind fun rq5 =>
  cond rq5.1
  ((V3 a0 4).bind fun rq6 =>
  cond (!rq6.1)
  ((V33 a5).bind fun rq7 =>
  (V34 a5).bind fun rq8 =>
  (V81 big a4).bind fun rq9 =>
  cond (decide (0<(rq9.1.length:Int)))
  ((V3 rq6.2.1 2).bind fun rq10 =>
  cond rq10.1
  ((V2 rq10.2.1 (rq9.1.length:Int)).bind fun rq11 =>
  (atI rq9.1 rq11.1).bind fun _ =>
  (rq9.1[rq11.1.toNat]?).bind fun xq12 =>
  L12 rq11.2.1 a4 a5 a7 rq7.1 rq8.1 xq12 0)
  ((V32 a4).bind fun rq13 =>
  cond rq13.1
  ((V32 a5).bind fun rq14 =>
  cond rq14.1
  ((V83 big rq10.2.1 a5 a4).bind fun rq15 =>
  (V85 big a4 a5 rq15.1).bind fun rq16 =>
  cond ((((),rq16.1.2).2).1)
  ((V2 rq15.2.1 32).bind fun rq17 =>
  cond (decide (rq17.1=0))
  ((appI rq16.1.1 [(0:Int)]).bind fun xq18 =>
  some (xq18,(rq17.2.1,())))
  (cond (decide (rq17.1=1))
  (cond (decide (0<(rq16.1.1.length:Int)))
  ((V2 rq17.2.1 (rq16.1.1.length:Int)).bind fun rq19 =>
  (V4 rq19.2.1 [(-1:Int),(a5.1.length:Int),0]).bind fun rq20 =>
  (atI rq16.1.1 rq19.1).bind fun _ =>
  (rq16.1.1[rq19.1.toNat]?).bind fun xq21 =>
  some (rq16.1.1.set rq19.1.toNat rq20.1,(rq20.2.1,())))
  (some (rq16.1.1,(rq17.2.1,()))))
  (some (rq16.1.1,(rq17.2.1,())))))
  ((V2 rq15.2.1 32).bind fun rq22 =>
  cond (decide (rq22.1=0))
  ((appI a7 [(0:Int)]).bind fun xq23 =>
  some (xq23,(rq22.2.1,())))
  (cond (decide (rq22.1=1))
  (cond (decide (0<(a7.length:Int)))
  ((V2 rq22.2.1 (a7.length:Int)).bind fun rq24 =>
  (V4 rq24.2.1 [(-1:Int),(a5.1.length:Int),0]).bind fun rq25 =>
  (atI a7 rq24.1).bind fun _ =>
  (a7[rq24.1.toNat]?).bind fun xq26 =>
  some (a7.set rq24.1.toNat rq25.1,(rq25.2.1,())))
  (some (a7,(rq22.2.1,()))))
  (some (a7,(rq22.2.1,()))))))
  ((V2 rq10.2.1 32).bind fun rq27 =>
  cond (decide (rq27.1=0))
  ((appI a7 [(0:Int)]).bind fun xq28 =>
  some (xq28,(rq27.2.1,())))
  (cond (decide (rq27.1=1))
  (cond (decide (0<(a7.length:Int)))
  ((V2 rq27.2.1 (a7.length:Int)).bind fun rq29 =>
  (V4 rq29.2.1 [(-1:Int),(a5.1.length:Int),0]).bind fun rq30 =>
  (atI a7 rq29.1).bind fun _ =>
  (a7[rq29.1.toNat]?).bind fun xq31 =>
  some (a7.set rq29.1.toNat rq30.1,(rq30.2.1,())))
  (some (a7,(rq27.2.1,()))))
  (some (a7,(rq27.2.1,()))))))
  ((V2 rq10.2.1 32).bind fun rq32 =>
  cond (decide (rq32.1=0))
  ((appI a7 [(0:Int)]).bind fun xq33 =>
  some (xq33,(rq32.2.1,())))
  (cond (decide (rq32.1=1))
  (cond (decide (0<(a7.length:Int)))
  ((V2 rq32.2.1 (a7.length:Int)).bind fun rq34 =>
  (V4 rq34.2.1 [(-1:Int),(a5.1.length:Int),0]).bind fun rq35 =>
  (atI a7 rq34.1).bind fun _ =>
  (a7[rq34.1.toNat]?).bind fun xq36 =>
  some (a7.set rq34.1.toNat rq35.1,(rq35.2.1,())))
  (some (a7,(rq32.2.1,()))))
  (some (a7,(rq32.2.1,())))))))
  ((V32 a4).bind fun rq37 =>
  cond rq37.1
  ((V32 a5).bind fun rq38 =>
  cond rq38.1
  ((V83 big rq6.2.1 a5 a4).bind fun rq39 =>
  (V85 big a4 a5 rq39.1).bind fun rq40 =>
  cond ((((),rq40.1.2).2).1)
  ((V2 rq39.2.1 32).bind fun rq41 =>
  cond (decide (rq41.1=0))
  ((appI rq40.1.1 [(0:Int)]).bind fun xq42 =>
  some (xq42,(rq41.2.1,())))
  (cond (decide (rq41.1=1))
  (cond (decide (0<(rq40.1.1.length:Int)))
  ((V2 rq41.2.1 (rq40.1.1.length:Int)).bind fun rq43 =>
  (V4 rq43.2.1 [(-1:Int),(a5.1.length:Int),0]).bind fun rq44 =>
  (atI rq40.1.1 rq43.1).bind fun _ =>
  (rq40.1.1[rq43.1.toNat]?).bind fun xq45 =>
  some (rq40.1.1.set rq43.1.toNat rq44.1,(rq44.2.1,())))
  (some (rq40.1.1,(rq41.2.1,()))))
  (some (rq40.1.1,(rq41.2.1,())))))
  ((V2 rq39.2.1 32).bind fun rq46 =>
  cond (decide (rq46.1=0))
  ((appI a7 [(0:Int)]).bind fun xq47 =>
  some (xq47,(rq46.2.1,())))
  (cond (decide (rq46.1=1))
  (cond (decide (0<(a7.length:Int)))
  ((V2 rq46.2.1 (a7.length:Int)).bind fun rq48 =>
  (V4 rq48.2.1 [(-1:Int),(a5.1.length:Int),0]).bind fun rq49 =>
  (atI a7 rq48.1).bind fun _ =>
  (a7[rq48.1.toNat]?).bind fun xq50 =>
  some (a7.set rq48.1.toNat rq49.1,(rq49.2.1,())))
  (some (a7,(rq46.2.1,()))))
  (some (a7,(rq46.2.1,()))))))
  ((V2 rq6.2.1 32).bind fun rq51 =>
  cond (decide (rq51.1=0))
  ((appI a7 [(0:Int)]).bind fun xq52 =>
  some (xq52,(rq51.2.1,())))
  (cond (decide (rq51.1=1))
  (cond (decide (0<(a7.length:Int)))
  ((V2 rq51.2.1 (a7.length:Int)).bind fun rq53 =>
  (V4 rq53.2.1 [(-1:Int),(a5.1.length:Int),0]).bind fun rq54 =>
  (atI a7 rq53.1).bind fun _ =>
  (a7[rq53.1.toNat]?).bind fun xq55 =>
  some (a7.set rq53.1.toNat rq54.1,(rq54.2.1,())))
  (some (a7,(rq51.2.1,()))))
  (some (a7,(rq51.2.1,()))))))
  ((V2 rq6.2.1 32).bind fun rq56 =>
  cond (decide (rq56.1=0))
  ((appI a7 [(0:Int)]).bind fun xq57 =>
  some (xq57,(rq56.2.1,())))
  (cond (decide (rq56.1=1))
  (cond (decide (0<(a7.length:Int)))
  ((V2 rq56.2.1 (a7.length:Int)).bind fun rq58 =>
  (V4 rq58.2.1 [(-1:Int),(a5.1.length:Int),0]).bind fun rq59 =>
  (atI a7 rq58.1).bind fun _ =>
  (a7[rq58.1.toNat]?).bind fun xq60 =>
  some (a7.set rq58.1.toNat rq59.1,(rq59.2.1,())))
  (some (a7,(rq56.2.1,()))))
  (some (a7,(rq56.2.1,())))))))
  ((V2 rq6.2.1 32).bind fun rq61 =>
  cond (decide (rq61.1=0))
  ((appI a7 [(0:Int)]).bind fun xq62 =>
  some (xq62,(rq61.2.1,())))
  (cond (decide (rq61.1=1))
  (cond (decide (0<(a7.length:Int)))
  ((V2 rq61.2.1 (a7.length:Int)).bind fun rq63 =>
  (V4 rq63.2.1 [(-1:Int),(a5.1.length:Int),0]).bind fun rq64 =>
  (atI a7 rq63.1).bind fun _ =>
  (a7[rq63.1.toNat]?).bind fun xq65 =>
  some (a7.set rq63.1.toNat rq64.1,(rq64.2.1,())))
  (some (a7,(rq61.2.1,()))))
  (some (a7,(rq61.2.1,()))))))
  ((V2 a0 32).bind fun rq66 =>
  cond (decide (rq66.1=0))
  ((appI a7 [(0:Int)]).bind fun xq67 =>
  some (xq67,(rq66.2.1,())))
  (cond (decide (rq66.1=1))
  (cond (decide (0<(a7.length:Int)))
  ((V2 rq66.2.1 (a7.length:Int)).bind fun rq68 =>
  (V4 rq68.2.1 [(-1:Int),(a5.1.length:Int),0]).bind fun rq69 =>
  (atI a7 rq68.1).bind fun _ =>
  (a7[rq68.1.toNat]?).bind fun xq70 =>
  some (a7.set rq68.1.toNat rq69.1,(rq69.2.1,())))
  (some (a7,(rq66.2.1,()))))
  (some (a7,(rq66.2.1,()))))))
  ((V2 a0 32).bind fun rq71 =>
  cond (decide (rq71.1=0))
  ((appI a7 [(0:Int)]).bind fun xq72 =>
  some (xq72,(rq71.2.1,())))
  (cond (decide (rq71.1=1))
  (cond (decide (0<(a7.length:Int)))
  ((V2 rq71.2.1 (a7.length:Int)).bind fun rq73 =>
  (V4 rq73.2.1 [(-1:Int),(a5.1.length:Int),0]).bind fun rq74 =>
  (atI a7 rq73.1).bind fun _ =>
  (a7[rq73.1.toNat]?).bind fun xq75 =>
  some (a7.set rq73.1.toNat rq74.1,(rq74.2.1,())))
  (some (a7,(rq71.2.1,()))))
  (some (a7,(rq71.2.1,())))))
def xg1 (L3:T64) (c_0:Z0) (p_1 q_2:Y2):Z6 :=
  L3 c_0 p_1 q_2 [] 0
def wqa (N:Nat) (k:Z0→Y2→Y2→Y4→Z6):=itN (fun r=>wj9 r k) fun _ _ _ _ _=>none
def wma (N:Nat) (k:Z0→Y2→Y4→Z6):=itN (fun r=>wga r k) fun _ _ _ _ _ _ _ _=>none
def waw (N:Nat):=wma N (wf9) N
def xck (N:Nat):=wqa N (wj8 (waw N)) N
def V86 (N:Nat) (c_0:Z0) (p_1 q_2:Y2):Z6:=xg1 (xck N) c_0 p_1 q_2
def S_V86:Sig:=⟨(.pair Q2 (.pair Q0 Q10)),[1,0,0],[O4],Q20,Q6,O4,fun x=>V86 big x.1 x.2.1 x.2.2.1⟩
def ws1 (J22:Z0→Y2→Y4→Int→Z6) (a0:Z0) (a5:Y2) (a7:Y4):Z6 :=
  (V2 a0 32).bind fun rq35 =>
  J22 rq35.2.1 a5 a7 rq35.1
def wxm (L12:T30) (J22:Z0→Y2→Y4→Int→Z6) (a0:Z0) (a4 a5:Y2) (a7:Y4):Z6 :=
  (V28 big a4).bind fun rq4 =>
  cond rq4.1
  ((V28 big a5).bind fun rq5 =>
  cond rq5.1
  ((V3 a0 4).bind fun rq6 =>
  cond (!rq6.1)
  ((V33 a5).bind fun rq7 =>
  (V34 a5).bind fun rq8 =>
  (V81 big a4).bind fun rq9 =>
  cond (decide (0<(rq9.1.length:Int)))
  ((V3 rq6.2.1 2).bind fun rq10 =>
  cond rq10.1
  ((V2 rq10.2.1 (rq9.1.length:Int)).bind fun rq11 =>
  (atI rq9.1 rq11.1).bind fun _ =>
  (rq9.1[rq11.1.toNat]?).bind fun xq12 =>
  L12 rq11.2.1 a4 a5 a7 rq7.1 rq8.1 xq12 0)
  ((V32 a4).bind fun rq13 =>
  cond rq13.1
  ((V32 a5).bind fun rq14 =>
  cond rq14.1
  ((V83 big rq10.2.1 a5 a4).bind fun rq15 =>
  (V85 big a4 a5 rq15.1).bind fun rq16 =>
  cond ((((),rq16.1.2).2).1)
  ((V2 rq15.2.1 32).bind fun rq17 =>
  J22 rq17.2.1 a5 rq16.1.1 rq17.1)
  ((V2 rq15.2.1 32).bind fun rq18 =>
  J22 rq18.2.1 a5 a7 rq18.1))
  ((V2 rq10.2.1 32).bind fun rq19 =>
  J22 rq19.2.1 a5 a7 rq19.1))
  ((V2 rq10.2.1 32).bind fun rq20 =>
  J22 rq20.2.1 a5 a7 rq20.1)))
  ((V32 a4).bind fun rq21 =>
  cond rq21.1
  ((V32 a5).bind fun rq22 =>
  cond rq22.1
  ((V83 big rq6.2.1 a5 a4).bind fun rq23 =>
  (V85 big a4 a5 rq23.1).bind fun rq24 =>
  cond ((((),rq24.1.2).2).1)
  ((V2 rq23.2.1 32).bind fun rq25 =>
  J22 rq25.2.1 a5 rq24.1.1 rq25.1)
  ((V2 rq23.2.1 32).bind fun rq26 =>
  J22 rq26.2.1 a5 a7 rq26.1))
  ((V2 rq6.2.1 32).bind fun rq27 =>
  J22 rq27.2.1 a5 a7 rq27.1))
  ((V2 rq6.2.1 32).bind fun rq28 =>
  J22 rq28.2.1 a5 a7 rq28.1)))
  ((V2 rq6.2.1 32).bind fun rq29 =>
  J22 rq29.2.1 a5 a7 rq29.1))
  ((V2 a0 32).bind fun rq30 =>
  J22 rq30.2.1 a5 a7 rq30.1))
  ((V2 a0 32).bind fun rq31 =>
  J22 rq31.2.1 a5 a7 rq31.1)
def wcd (a0:Z0) (a5:Y2) (a7:Y4) (a101:Int):Z6 :=
  cond (decide (a101=0))
  ((appI a7 [(0:Int)]).bind fun xq36 =>
  some (xq36,(a0,())))
  (cond (decide (a101=1))
  (cond (decide (0<(a7.length:Int)))
  ((V2 a0 (a7.length:Int)).bind fun rq37 =>
  (V4 rq37.2.1 [(-1:Int),(a5.1.length:Int),0]).bind fun rq38 =>
  (atI a7 rq37.1).bind fun _ =>
  (a7[rq37.1.toNat]?).bind fun xq39 =>
  some (a7.set rq37.1.toNat rq38.1,(rq38.2.1,())))
  (some (a7,(a0,()))))
  (some (a7,(a0,()))))
def w1m (L3:T64) (c_0:Z0) (p_1 q_2:Y2):Z6 :=
  L3 c_0 p_1 q_2 [] 0
def wka (N:Nat) (a0:Z0) (a5:Y2) (a7:Y4) (a101:Int):Z6:=gate true N (wcd a0 a5 a7 a101)
def wsz (N:Nat):=wma N (ws1 (wka N)) N
def wxk (N:Nat):=wqa N (wxm (wsz N) (wka N)) N
def xns (N:Nat) (c_0:Z0) (p_1 q_2:Y2):Z6:=w1m (wxk N) c_0 p_1 q_2
def A_V86_c:Cfg:=mkCfg tab [(25,S_V39),(24,S_V2),(75,S_V28),(36,S_V3),(31,S_V33),(76,S_V34),(77,S_V81),(64,S_V32),(79,S_V83),(78,S_V85),(32,S_V15),(55,S_V4)] [(6,([B6]++dr 3 [B3,B3,D0,B1,B0])),(13,([B6]++dr 3 [B3,B3,D0,B1])),(24,([B6]++dr 3 [B3,B3,D0,B1,D0,B0,B0,D0,B0,B0])),(45,([B6]++dr 4 ([B3,D0,B1]++dr 93 [B0]))),(43,([B6]++dr 4 [B3,D0,B1])),(500022,[]),(2000018,[])]
noncomputable def wbx (N n:Nat) (K:T103) (a0:Z0) (a4 a5:Y2) (a7:Y4) (a8:Int):Z6:=itr A_V86_c N 6 Tryz.f37 [1,1,0,1,0,0] n (([W6 a0]++ud 3 [W3 a4,W3 a5,.u,W1 a7,W0 a8])++us 116) K
noncomputable def zi (N n:Nat) (K:T103) (a0:Z0) (a4 a5:Y2) (a7:Y4) (a9 a10 a12 a13:Int):Z6:=itr A_V86_c N 24 Tryz.f37 [1,1,1,0,1,0,1,1,1,0,1,1,0,0] n (([W6 a0]++ud 3 [W3 a4,W3 a5,.u,W1 a7,.u,W0 a9,W0 a10,.u,W0 a12,W0 a13])++us 111) K
noncomputable def yi:Ex→St→Z6:=finish A_V86_c S_V86 Tryz.f37.results.toList
noncomputable def wxl (kX:T79) (a0:Z0) (a4 a5:Y2) (a7:Y4):Z6:=kX (([W6 a0]++ud 3 [W3 a4,W3 a5,.u,W1 a7])++us 117)
noncomputable def wxj (kX:T79) (kO:T67):=exK yi 0 (A_V86_c.shape 13) kX kO
noncomputable def ws0 (kX:T79) (a0:Z0) (a5:Y2) (a7:Y4):Z6:=kX (([W6 a0]++ud 4 [W3 a5,.u,W1 a7])++us 117)
noncomputable def wsy (kX:T79) (kO:T67):=exK yi 2 (A_V86_c.shape 43) kX kO
noncomputable def wp9 (N:Nat):Ex→St→Z6:=(sqK A_V86_c N 55 500027 Tryz.f37 [1,1,1,1,1] yi)
noncomputable def wkb (N:Nat) (a0:Z0) (a5:Y2) (a7:Y4) (a101:Int):Z6:=gated true N (run A_V86_c N (codeAt Tryz.f37 [1,1,1,1,0,1])) (([W6 a0]++ud 4 ([W3 a5,.u,W1 a7]++ud 93 [W0 a101]))++us 23) (wp9 N)
theorem wy6 (N kX kO):∀n,wbx N n (wxj kX kO)=wqa N (wxl kX) n :=
 itE rfl fun m=>by kernel_rfl
noncomputable def wg8 (N:Nat):=(blockK 0 (sqK A_V86_c N 13 500006 Tryz.f37 [1,1,1] yi))
theorem wxn (N kX kO):∀n,zi N n (wsy kX kO)=wma N (ws0 kX) n :=
 itE rfl fun m=>by kernel_rfl
noncomputable def wcc (N:Nat):=(blockK 2 (sqK A_V86_c N 43 500021 Tryz.f37 [1,1,1,1] yi))
theorem w4p (N:Nat) (a0:Z0) (a5:Y2) (a7:Y4) (a101:Int):run A_V86_c N (codeAt Tryz.f37 [1,1,1,1,0,1]) (([W6 a0]++ud 4 ([W3 a5,.u,W1 a7]++ud 93 [W0 a101]))++us 23) (wp9 N)=wcd a0 a5 a7 a101:=by kernel_rfl
theorem wmn (N:Nat):wkb N=wka N:=by
 funext a0 a5 a7 a101
 exact congrArg (gate true N) ((w4p N a0 a5 a7 a101).trans (show wcd a0 a5 a7 a101=wcd a0 a5 a7 a101 from rfl))
noncomputable def ws2 (N:Nat) (st':St):Z6:=rn A_V86_c N Tryz.f37 [1,1,1,1] st' yi
theorem w4o (N):zi N N (wcc N)=wsz N:=by
 rw[show zi N N (wcc N)=zi N N (wsy (ws2 N) fun j=>(wcc N) (.exit j)) from(by funext _ _ _ _ _ _ _ _;exact jlo),wxn,show ws0 (ws2 N)=ws1 (wkb N) by kernel_rfl,wmn N];rfl
noncomputable def wxo (N:Nat) (st':St):Z6:=rn A_V86_c N Tryz.f37 [1,1,1] st' yi
theorem xcl (N):wbx N N (wg8 N)=wxk N:=by
 rw[show wbx N N (wg8 N)=wbx N N (wxj (wxo N) fun j=>(wg8 N) (.exit j)) from(by funext _ _ _ _ _;exact jlo),wy6,show wxl (wxo N)=wxm (zi N N (wcc N)) (wkb N) by kernel_rfl,w4o N,wmn N];rfl
theorem run_V86_c (N x):runF A_V86_c N Tryz.f37 S_V86 x=xns N x.1 x.2.1 x.2.2.1:=(show _=(w1m (wbx N N (wg8 N)) x.1 x.2.1 x.2.2.1) by kernel_rfl).trans (by rw[xcl N];rfl)
theorem run_V86 (x:(S_V86).a.den):runF A_V86_c big Tryz.f37 S_V86 x=V86 big x.1 x.2.1 x.2.2.1:=(run_V86_c big x).trans (by kernel_rfl)
theorem ok_V86:OK 37 S_V86:=gdR (A:=A_V86_c) tc Tryz.func37 (jeq ⟨ok_V39,ok_V2,ok_V28,ok_V3,ok_V33,ok_V34,ok_V81,ok_V32,ok_V83,ok_V85,ok_V15,ok_V4,trivial⟩) run_V86
def xg2 (code_0:Y4):Z14 :=
  (V40 big code_0).bind fun rq1 =>
  (V74 big rq1.1.1 rq1.1.2.1 rq1.1.2.2.1).bind fun rq2 =>
  cond (!((((),rq2.1.2).2).1))
  ((V86 big (code_0,(0,(0,()))) rq1.1.1 rq1.1.2.1).bind fun rq3 =>
  some ((rq1.1.1,rq1.1.2.1,rq3.1,()),(())))
  ((V3 (code_0,(0,(0,()))) 4).bind fun rq4 =>
  cond rq4.1
  ((V86 big rq4.2.1 rq1.1.1 rq1.1.2.1).bind fun rq5 =>
  some ((rq1.1.1,rq1.1.2.1,rq5.1,()),(())))
  (some ((rq1.1.1,rq1.1.2.1,rq2.1.1,()),(()))))
def V87 (code_0:Y4):Z14:=xg2 code_0
def S_V87:Sig:=⟨(.pair Q14 .unit),[0],[],.unit,(.tup Q18),.i,fun x=>V87 x.1⟩
def A_V87:Cfg:=mkCfg tab [(5,S_V40),(7,S_V74),(37,S_V86),(36,S_V3)] []
theorem run_V87 (N x):runF A_V87 N Tryz.f11 S_V87 x=V87 x.1:=by kernel_rfl
theorem ok_V87:OK 11 S_V87:=gdR (A:=A_V87) tc Tryz.func11 (jeq ⟨ok_V40,ok_V74,ok_V86,ok_V3,trivial⟩) (run_V87 big)
def wke (rec:Y4→Y2→Y2→Int→Int→Option Z1) (k:Y4→Y2→Y2→Int→Option Z1) (a2:Y4) (a3 a4:Y2) (a7 a8:Int):Option Z1 :=
  cond (decide (a8<a7))
  ((V30 a3 a7 a8).bind fun rq8 =>
  (atI a2 rq8.1).bind fun xq9 =>
  (atI a2 a7).bind fun xq10 =>
  (atI a2 a8).bind fun xq11 =>
  (V30 a4 xq10 xq11).bind fun rq12 =>
  cond (decide (xq9≠rq12.1))
  (some (false,(())))
  ((V29 a3 a7 a8).bind fun rq13 =>
  (atI a2 rq13.1).bind fun xq14 =>
  (atI a2 a7).bind fun xq15 =>
  (atI a2 a8).bind fun xq16 =>
  (V29 a4 xq15 xq16).bind fun rq17 =>
  cond (decide (xq14≠rq17.1))
  (some (false,(())))
  (rec a2 a3 a4 a7 (IntKind.i64.wrap (a8+1)))))
  (k a2 a3 a4 a7)
def wgc (rec:Y4→Y2→Y2→Int→Option Z1) (a2:Y4) (a3 a4:Y2) (a7:Int):Option Z1 :=
  rec a2 a3 a4 (IntKind.i64.wrap (a7+1))
def wgd (L7:Y4→Y2→Y2→Int→Int→Option Z1) (k:Option Z1) (a2:Y4) (a3 a4:Y2) (a7:Int):Option Z1 :=
  cond (decide (a7<(a2.length:Int)))
  (L7 a2 a3 a4 a7 0)
  (k)
def zj:Option Z1 :=
  some (true,(()))
def wqe (L4:Y4→Y2→Y2→Int→Option Z1) (p_0 q_1:Y2) (f_2:Y4):Option Z1 :=
  cond (decide ((f_2.length:Int)≠(p_0.1.length:Int)))
  (some (false,(())))
  ((V7 big (q_1.1.length:Int) f_2).bind fun rq1 =>
  cond (!rq1.1)
  (some (false,(())))
  ((V33 p_0).bind fun rq2 =>
  (atI f_2 rq2.1).bind fun xq3 =>
  (V33 q_1).bind fun rq4 =>
  cond (decide (xq3≠rq4.1))
  (some (false,(())))
  ((V34 p_0).bind fun rq5 =>
  (atI f_2 rq5.1).bind fun xq6 =>
  (V34 q_1).bind fun rq7 =>
  cond (decide (xq6≠rq7.1))
  (some (false,(())))
  (L4 f_2 p_0 q_1 0))))
def wxr (N:Nat) (k:Y4→Y2→Y2→Int→Option Z1):=itN (fun r=>wke r k) fun _ _ _ _ _=>none
def wkc (N:Nat) (rec:Y4→Y2→Y2→Int→Option Z1) (k:Option Z1):=wxr N (wgc rec) N
def wxq (N:Nat) (k:Option Z1):=itN (fun r=>wgd (wkc N r k) k) fun _ _ _ _=>none
def wxp (N:Nat):=wxq N (zj) N
def V88 (N:Nat) (p_0 q_1:Y2) (f_2:Y4):Option Z1:=wqe (wxp N) p_0 q_1 f_2
def S_V88:Sig:=⟨Q18,[0,0,0],[],.unit,.bool,.i,fun x=>V88 big x.1 x.2.1 x.2.2.1⟩
def A_V88:Cfg:=mkCfg tab [(30,S_V7),(31,S_V33),(76,S_V34),(80,S_V30),(33,S_V29)] [(8,[D0,D0,B4,B3,B3,D0,D0,B0]),(14,[D0,D0,B4,B3,B3,D0,D0,B0,B0]),(23,[]),(11,[D0,D0,B4,B3,B3,D0,D0,B0])]
noncomputable def wby (N n:Nat) (K:Ex→St→Option Z1) (a2:Y4) (a3 a4:Y2) (a7:Int):Option Z1:=itr A_V88 N 8 Tryz.f38 [1,1,0,1,0,0] n ([.u,.u,W4 a2,W3 a3,W3 a4,.u,.u,W0 a7]++us 84) K
noncomputable def wkd (N n:Nat) (K:Ex→St→Option Z1) (a2:Y4) (a3 a4:Y2) (a7 a8:Int):Option Z1:=itr A_V88 N 14 Tryz.f38 [1,1,0,1,0,0,1,0,0,1,0,0] n ([.u,.u,W4 a2,W3 a3,W3 a4,.u,.u,W0 a7,W0 a8]++us 83) K
noncomputable def wt0:Ex→St→Option Z1:=finish A_V88 S_V88 Tryz.f38.results.toList
noncomputable def wqd (kX:St→Option Z1):Option Z1:=kX ([]++us 92)
noncomputable def wgb (kX:St→Option Z1) (kO:Nat→St→Option Z1):Ex→St→Option Z1:=exK wt0 0 (A_V88.shape 23) kX kO
noncomputable def xcn (kX:St→Option Z1) (a2:Y4) (a3 a4:Y2) (a7:Int):Option Z1:=kX ([.u,.u,W4 a2,W3 a3,W3 a4,.u,.u,W0 a7]++us 84)
noncomputable def xcm (kX:St→Option Z1) (kO:Nat→St→Option Z1):Ex→St→Option Z1:=exK wt0 2 (A_V88.shape 11) kX kO
theorem xcp (N kX kO):∀n,wkd N n (xcm kX kO)=wxr N (xcn kX) n :=
 itE rfl fun m=>by kernel_rfl
noncomputable def wqc (N m:Nat) (kX:St→Option Z1) (kO:Nat→St→Option Z1):Ex→St→Option Z1:=(blockK 2 (blockK 1 (sqK A_V88 N 11 500005 Tryz.f38 [1,1,0,1,0,0,1,1] (itK A_V88 N 8 Tryz.f38 [1,1,0,1,0,0] m (wgb kX kO)))))
noncomputable def xcr (N m:Nat) (kX:St→Option Z1) (kO:Nat→St→Option Z1) (st':St):Option Z1:=rn A_V88 N Tryz.f38 [1,1,0,1,0,0,1,1] st' (itK A_V88 N 8 Tryz.f38 [1,1,0,1,0,0] m (wgb kX kO))
theorem xj5 (N m kX kO) {r}(h:wby N m (wgb kX kO)=r):wkd N N (wqc N m kX kO)=wkc N r (wqd kX):=by
 rw[show wkd N N (wqc N m kX kO)=wkd N N (xcm (xcr N m kX kO) fun j=>(wqc N m kX kO) (.exit j)) from(by funext _ _ _ _ _;exact jlo),xcp,show xcn (xcr N m kX kO)=wgc (wby N m (wgb kX kO)) by kernel_rfl,h];rfl
theorem xco (N kX kO):∀n,wby N n (wgb kX kO)=wxq N (wqd kX) n :=
 itE rfl fun m=>(show _=wgd (wkd N N (wqc N m kX kO)) (wqd kX) by kernel_rfl).trans (by rw[xj5 N m kX kO rfl]<;>rfl)
noncomputable def wqb (N:Nat):Ex→St→Option Z1:=(blockK 0 (sqK A_V88 N 23 500011 Tryz.f38 [1,1,1] wt0))
noncomputable def xcq (N:Nat) (st':St):Option Z1:=rn A_V88 N Tryz.f38 [1,1,1] st' wt0
theorem xj4 (N):wby N N (wqb N)=wxp N:=by
 rw[show wby N N (wqb N)=wby N N (wgb (xcq N) fun j=>(wqb N) (.exit j)) from(by funext _ _ _ _;exact jlo),xco,show wqd (xcq N)=zj by kernel_rfl];rfl
theorem run_V88 (N x):runF A_V88 N Tryz.f38 S_V88 x=V88 N x.1 x.2.1 x.2.2.1:=(show _=(wqe (wby N N (wqb N)) x.1 x.2.1 x.2.2.1) by kernel_rfl).trans (by rw[xj4 N];rfl)
theorem ok_V88:OK 38 S_V88:=gdR (A:=A_V88) tc Tryz.func38 (jeq ⟨ok_V7,ok_V33,ok_V34,ok_V30,ok_V29,trivial⟩) (run_V88 big)
def wqj (rec k:T37) (a2:Y4) (a4:Y2) (a8 a9 a10:Y4) (a11 a12:Int):Z2 :=
  (atI a9 a11).bind fun _ =>
  (a9[a11.toNat]?).bind fun xq6 =>
  (atI a10 a12).bind fun _ =>
  (a10[a12.toNat]?).bind fun xq7 =>
  (atI a2 xq7).bind fun xq8 =>
  (V15 a4 xq6 xq8).bind fun rq9 =>
  cond (!rq9.1)
  (rec a2 a4 a8 a9 a10 a11 (IntKind.i64.wrap (a12+1)))
  (k a2 a4 a8 a9 a10 a11 a12)
def wgf (rec:T36) (a2:Y4) (a4:Y2) (a8 a9 a10:Y4) (a11 a12:Int):Z2 :=
  (appI a8 [a12]).bind fun xq10 =>
  rec a2 a4 xq10 a9 a10 (IntKind.i64.wrap (a11+1))
def wgg (L9:T37) (k:T75) (a2:Y4) (a4:Y2) (a8 a9 a10:Y4) (a11:Int):Z2 :=
  cond (decide (a11<(a9.length:Int)))
  (L9 a2 a4 a8 a9 a10 a11 0)
  (k a8)
def zk (a8:Y4):Z2 :=
  some ((a8,true,()),(()))
def w4q (L6:T36) (p_0 q_1:Y2) (f_2:Y4):Z2 :=
  (V37 p_0).bind fun rq1 =>
  cond (!rq1.1)
  (some (([],false,()),(())))
  ((V37 q_1).bind fun rq2 =>
  cond (!rq2.1)
  (some (([],false,()),(())))
  ((V88 big p_0 q_1 f_2).bind fun rq3 =>
  cond (!rq3.1)
  (some (([],false,()),(())))
  ((V38 big q_1).bind fun rq4 =>
  (V38 big p_0).bind fun rq5 =>
  L6 f_2 q_1 [] rq4.1 rq5.1 0)))
def wxt (N:Nat) (k:T37):=itN (fun r=>wqj r k) fun _ _ _ _ _ _ _=>none
def wkf (N:Nat) (rec:T36) (k:T75):=wxt N (wgf rec) N
def wxs (N:Nat) (k:T75):=itN (fun r=>wgg (wkf N r k) k) fun _ _ _ _ _ _=>none
def wqf (N:Nat):=wxs N (zk) N
def V89 (N:Nat) (p_0 q_1:Y2) (f_2:Y4):Z2:=w4q (wqf N) p_0 q_1 f_2
def S_V89:Sig:=⟨Q18,[0,0,0],[],.unit,(.tup (.pair Q6 Q12)),(.p O4 .i),fun x=>V89 big x.1 x.2.1 x.2.2.1⟩
def A_V89:Cfg:=mkCfg tab [(22,S_V37),(38,S_V88),(23,S_V38),(32,S_V15)] [(12,([D0,D0,B4,D0,B3]++dr 3 [B1,B1,B1,B0])),(18,([D0,D0,B4,D0,B3]++dr 3 [B1,B1,B1,B0,B0])),(25,(dr 8 [B1])),(23,([D0,D0,B4,D0,B3]++dr 3 [B1,B1,B1,B0,B0]))]
noncomputable def wbz (N n:Nat) (K:T56) (a2:Y4) (a4:Y2) (a8 a9 a10:Y4) (a11:Int):Z2:=itr A_V89 N 12 Tryz.f12 [1,1,1,1,0,1,0,0] n (([.u,.u,W4 a2,.u,W3 a4]++ud 3 [W1 a8,W1 a9,W1 a10,W0 a11])++us 49) K
noncomputable def wkg (N n:Nat) (K:T56) (a2:Y4) (a4:Y2) (a8 a9 a10:Y4) (a11 a12:Int):Z2:=itr A_V89 N 18 Tryz.f12 [1,1,1,1,0,1,0,0,1,0,0,1,0,0,0] n (([.u,.u,W4 a2,.u,W3 a4]++ud 3 [W1 a8,W1 a9,W1 a10,W0 a11,W0 a12])++us 48) K
noncomputable def wt1:Ex→St→Z2:=finish A_V89 S_V89 Tryz.f12.results.toList
noncomputable def wqi (kX:T19) (a8:Y4):Z2:=kX ((ud 8 [W1 a8])++us 52)
noncomputable def wge (kX:T19) (kO:T9):=exK wt1 0 (A_V89.shape 25) kX kO
noncomputable def xct (kX:T19) (a2:Y4) (a4:Y2) (a8 a9 a10:Y4) (a11 a12:Int):Z2:=kX (([.u,.u,W4 a2,.u,W3 a4]++ud 3 [W1 a8,W1 a9,W1 a10,W0 a11,W0 a12])++us 48)
noncomputable def xcs (kX:T19) (kO:T9):=exK wt1 2 (A_V89.shape 23) kX kO
theorem xcv (N kX kO):∀n,wkg N n (xcs kX kO)=wxt N (xct kX) n :=
 itE rfl fun m=>by kernel_rfl
noncomputable def wqh (N m:Nat) (kX:T19) (kO:T9):=(blockK 2 (sqK A_V89 N 23 500011 Tryz.f12 [1,1,1,1,0,1,0,0,1,0,0,1,1] (blockK 1 (sqK A_V89 N 15 500007 Tryz.f12 [1,1,1,1,0,1,0,0,1,1] (itK A_V89 N 12 Tryz.f12 [1,1,1,1,0,1,0,0] m (wge kX kO))))))
noncomputable def xcx (N m:Nat) (kX:T19) (kO:T9) (st':St):Z2:=rn A_V89 N Tryz.f12 [1,1,1,1,0,1,0,0,1,0,0,1,1] st' (blockK 1 (sqK A_V89 N 15 500007 Tryz.f12 [1,1,1,1,0,1,0,0,1,1] (itK A_V89 N 12 Tryz.f12 [1,1,1,1,0,1,0,0] m (wge kX kO))))
theorem xj7 (N m kX kO) {r}(h:wbz N m (wge kX kO)=r):wkg N N (wqh N m kX kO)=wkf N r (wqi kX):=by
 rw[show wkg N N (wqh N m kX kO)=wkg N N (xcs (xcx N m kX kO) fun j=>(wqh N m kX kO) (.exit j)) from(by funext _ _ _ _ _ _ _;exact jlo),xcv,show xct (xcx N m kX kO)=wgf (wbz N m (wge kX kO)) by kernel_rfl,h];rfl
theorem xcu (N kX kO):∀n,wbz N n (wge kX kO)=wxs N (wqi kX) n :=
 itE rfl fun m=>(show _=wgg (wkg N N (wqh N m kX kO)) (wqi kX) by kernel_rfl).trans (by rw[xj7 N m kX kO rfl]<;>rfl)
noncomputable def wqg (N:Nat):=(blockK 0 (sqK A_V89 N 25 500012 Tryz.f12 [1,1,1,1,1] wt1))
noncomputable def xcw (N:Nat) (st':St):Z2:=rn A_V89 N Tryz.f12 [1,1,1,1,1] st' wt1
theorem xj6 (N):wbz N N (wqg N)=wqf N:=by
 rw[show wbz N N (wqg N)=wbz N N (wge (xcw N) fun j=>(wqg N) (.exit j)) from(by funext _ _ _ _ _ _;exact jlo),xcu,show wqi (xcw N)=zk by kernel_rfl];rfl
theorem run_V89 (N x):runF A_V89 N Tryz.f12 S_V89 x=V89 N x.1 x.2.1 x.2.2.1:=(show _=(w4q (wbz N N (wqg N)) x.1 x.2.1 x.2.2.1) by kernel_rfl).trans (by rw[xj6 N];rfl)
theorem ok_V89:OK 12 S_V89:=gdR (A:=A_V89) tc Tryz.func12 (jeq ⟨ok_V37,ok_V88,ok_V38,ok_V15,trivial⟩) (run_V89 big)
def xg6 (code_0:Y4):Z4 :=
  (V22 big (code_0,(0,(0,())))).bind fun rq1 =>
  some (rq1.1,(()))
def V90 (code_0:Y4):Z4:=xg6 code_0
def S_V90:Sig:=⟨(.pair Q14 .unit),[0],[],.unit,Q0,.i,fun x=>V90 x.1⟩
def A_V90:Cfg:=mkCfg tab [(21,S_V22)] []
theorem run_V90 (N x):runF A_V90 N Tryz.f39 S_V90 x=V90 x.1:=by kernel_rfl
theorem ok_V90:OK 39 S_V90:=gdR (A:=A_V90) tc Tryz.func39 (jeq ⟨ok_V22,trivial⟩) (run_V90 big)
def xg7 (code_0:Y4):Z4 :=
  (V90 code_0).bind fun rq1 =>
  some (rq1.1,(()))
def V91 (code_0:Y4):Z4:=xg7 code_0
def S_V91:Sig:=⟨(.pair Q14 .unit),[0],[],.unit,Q0,.i,fun x=>V91 x.1⟩
def A_V91:Cfg:=mkCfg tab [(39,S_V90)] []
theorem run_V91 (N x):runF A_V91 N Tryz.f13 S_V91 x=V91 x.1:=by kernel_rfl
theorem ok_V91:OK 13 S_V91:=gdR (A:=A_V91) tc Tryz.func13 (jeq ⟨ok_V90,trivial⟩) (run_V91 big)
def wki (rec:T94) (k:T35) (a0:Y1) (a3:Y4) (a10 a11:Int):Z3 :=
  cond (decide (a11<a10))
  ((V59 a0 a11).bind fun rq2 =>
  (atI rq2.1 0).bind fun _ =>
  (rq2.1[(0:Int).toNat]?).bind fun xq3 =>
  (appI a3 [xq3]).bind fun xq4 =>
  rec a0 xq4 a10 (IntKind.i64.wrap (a11+1)))
  (k a3)
def wgh (a3:Y4):Z3 :=
  some (a3,(()))
def w4t (L3:T94) (l_0:Y1):Z3 :=
  (l_0).bind fun xq1 =>
  L3 l_0 [] (xq1.1.length:Int) 0
def wxv (N:Nat) (k:T35):=itN (fun r=>wki r k) fun _ _ _ _=>none
def wxu (N:Nat):=wxv N (wgh) N
def V92 (N:Nat) (l_0:Y1):Z3:=w4t (wxu N) l_0
def S_V92:Sig:=⟨(.pair Q1 .unit),[0],[],.unit,Q6,O4,fun x=>V92 big x.1⟩
def A_V92:Cfg:=mkCfg tab [(83,S_V59)] [(6,([B5,D0,D0,B1]++dr 6 [B0,B0])),(15,(dr 3 [B1]))]
noncomputable def wkh (N n:Nat) (K:T26) (a0:Y1) (a3:Y4) (a10 a11:Int):Z3:=itr A_V92 N 6 Tryz.f41 [1,1,0,1,0,0] n (([W5 a0,.u,.u,W1 a3]++ud 6 [W0 a10,W0 a11])++us 12) K
noncomputable def w4u:Ex→St→Z3:=finish A_V92 S_V92 Tryz.f41.results.toList
noncomputable def xcz (kX:T11) (a3:Y4):Z3:=kX ((ud 3 [W1 a3])++us 20)
noncomputable def xcy (kX:T11) (kO:T6):=exK w4u 0 (A_V92.shape 15) kX kO
theorem xc0 (N kX kO):∀n,wkh N n (xcy kX kO)=wxv N (xcz kX) n :=
 itE rfl fun m=>by kernel_rfl
noncomputable def wqm (N:Nat):=(blockK 0 (sqK A_V92 N 15 500007 Tryz.f41 [1,1,1] w4u))
noncomputable def xc1 (N:Nat) (st':St):Z3:=rn A_V92 N Tryz.f41 [1,1,1] st' w4u
theorem xj8 (N):wkh N N (wqm N)=wxu N:=by
 rw[show wkh N N (wqm N)=wkh N N (xcy (xc1 N) fun j=>(wqm N) (.exit j)) from(by funext _ _ _ _;exact jlo),xc0,show xcz (xc1 N)=wgh by kernel_rfl];rfl
theorem run_V92 (N x):runF A_V92 N Tryz.f41 S_V92 x=V92 N x.1:=(show _=(w4t (wkh N N (wqm N)) x.1) by kernel_rfl).trans (by rw[xj8 N];rfl)
theorem ok_V92:OK 41 S_V92:=gdR (A:=A_V92) tc Tryz.func41 (jeq ⟨ok_V59,trivial⟩) (run_V92 big)
def wkk (rec:T57) (k:T35) (a0:Int) (a3:Y4) (a4:Int):Z3 :=
  (shrI IntKind.i64 a0 a4).bind fun xq1 =>
  cond (decide (0<xq1))
  ((shrI IntKind.i64 a0 a4).bind fun xq2 =>
  cond (decide ((bitI .and IntKind.i64 xq2 1)=1))
  ((appI a3 [a4]).bind fun xq3 =>
  rec a0 xq3 (IntKind.i64.wrap (a4+1)))
  (rec a0 a3 (IntKind.i64.wrap (a4+1))))
  (k a3)
def wgi (a3:Y4):Z3 :=
  some (a3,(()))
def w4v (L3:T57) (mask_0:Int):Z3 :=
  L3 mask_0 [] 0
def wxx (N:Nat) (k:T35):=itN (fun r=>wkk r k) fun _ _ _=>none
def wxw (N:Nat):=wxx N (wgi) N
def V93 (N:Nat) (mask_0:Int):Z3:=w4v (wxw N) mask_0
def S_V93:Sig:=⟨Q17,[0],[],.unit,Q6,O4,fun x=>V93 big x.1⟩
def A_V93:Cfg:=mkCfg tab [] [(6,[B0,D0,D0,B1,B0]),(15,(dr 3 [B1]))]
noncomputable def wkj (N n:Nat) (K:T26) (a0:Int) (a3:Y4) (a4:Int):Z3:=itr A_V93 N 6 Tryz.f42 [1,1,0,1,0,0] n ([W0 a0,.u,.u,W1 a3,W0 a4]++us 17) K
noncomputable def w4w:Ex→St→Z3:=finish A_V93 S_V93 Tryz.f42.results.toList
noncomputable def xc3 (kX:T11) (a3:Y4):Z3:=kX ((ud 3 [W1 a3])++us 18)
noncomputable def xc2 (kX:T11) (kO:T6):=exK w4w 0 (A_V93.shape 15) kX kO
theorem xc4 (N kX kO):∀n,wkj N n (xc2 kX kO)=wxx N (xc3 kX) n :=
 itE rfl fun m=>by kernel_rfl
noncomputable def wqn (N:Nat):=(blockK 0 (sqK A_V93 N 15 500007 Tryz.f42 [1,1,1] w4w))
noncomputable def xc5 (N:Nat) (st':St):Z3:=rn A_V93 N Tryz.f42 [1,1,1] st' w4w
theorem xj9 (N):wkj N N (wqn N)=wxw N:=by
 rw[show wkj N N (wqn N)=wkj N N (xc2 (xc5 N) fun j=>(wqn N) (.exit j)) from(by funext _ _ _;exact jlo),xc4,show xc3 (xc5 N)=wgi by kernel_rfl];rfl
theorem run_V93 (N x):runF A_V93 N Tryz.f42 S_V93 x=V93 N x.1:=(show _=(w4v (wkj N N (wqn N)) x.1) by kernel_rfl).trans (by rw[xj9 N];rfl)
theorem ok_V93:OK 42 S_V93:=gdR (A:=A_V93) tc Tryz.func42 (jeq trivial) (run_V93 big)
def wkm (rec:Z12→Y4→Int→Int→Option (Z12×Unit)) (k:Z12→Option (Z12×Unit)) (a5:Z12) (a10:Y4) (a11 a12:Int):Option (Z12×Unit) :=
  cond (decide (a12<a11))
  ((atI a10 a12).bind fun xq3 =>
  (atI a5 xq3).bind fun _ =>
  (a5[xq3.toNat]?).bind fun xq4 =>
  rec (a5.set xq3.toNat true) a10 a11 (IntKind.i64.wrap (a12+1)))
  (k a5)
def wgj (a5:Z12):Option (Z12×Unit) :=
  some (a5,(()))
def w4x (L3:Z12→Y4→Int→Int→Option (Z12×Unit)) (list_0:Y4) (n_1:Int):Option (Z12×Unit) :=
  (mkI false n_1).bind fun xq1=>(mkI false n_1).bind fun xq2=>cond (decide (n_1≤n_1))
  (L3 xq2 list_0 (list_0.length:Int) 0)
  none
def wxz (N:Nat) (k:Z12→Option (Z12×Unit)):=itN (fun r=>wkm r k) fun _ _ _ _=>none
def wxy (N:Nat):=wxz N (wgj) N
def V94 (N:Nat) (list_0:Y4) (n_1:Int):Option (Z12×Unit):=w4x (wxy N) list_0 n_1
def S_V94:Sig:=⟨(.pair Q6 Q17),[0,0],[],.unit,Q16,O4,fun x=>V94 big x.1 x.2.1⟩
def A_V94:Cfg:=mkCfg tab [] [(6,(dr 5 ([.as Q16 O4]++dr 4 [B4,B0,B0]))),(15,(dr 5 [.as Q16 O4]))]
noncomputable def wkl (N n:Nat) (K:Ex→St→Option (Z12×Unit)) (a5:Z12) (a10:Y4) (a11 a12:Int):Option (Z12×Unit):=itr A_V94 N 6 Tryz.f109 [1,1,0,1,0,0] n ((ud 5 ([.val Q16 O4 a5]++ud 4 [W4 a10,W0 a11,W0 a12]))++us 8) K
noncomputable def w4y:Ex→St→Option (Z12×Unit):=finish A_V94 S_V94 Tryz.f109.results.toList
noncomputable def xc7 (kX:St→Option (Z12×Unit)) (a5:Z12):Option (Z12×Unit):=kX ((ud 5 [.val Q16 O4 a5])++us 15)
noncomputable def xc6 (kX:St→Option (Z12×Unit)) (kO:Nat→St→Option (Z12×Unit)):Ex→St→Option (Z12×Unit):=exK w4y 0 (A_V94.shape 15) kX kO
theorem xc8 (N kX kO):∀n,wkl N n (xc6 kX kO)=wxz N (xc7 kX) n :=
 itE rfl fun m=>by kernel_rfl
noncomputable def wqo (N:Nat):Ex→St→Option (Z12×Unit):=(blockK 0 (sqK A_V94 N 15 500007 Tryz.f109 [1,1,1] w4y))
noncomputable def xc9 (N:Nat) (st':St):Option (Z12×Unit):=rn A_V94 N Tryz.f109 [1,1,1] st' w4y
theorem xka (N):wkl N N (wqo N)=wxy N:=by
 rw[show wkl N N (wqo N)=wkl N N (xc6 (xc9 N) fun j=>(wqo N) (.exit j)) from(by funext _ _ _ _;exact jlo),xc8,show xc7 (xc9 N)=wgj by kernel_rfl];rfl
theorem run_V94 (N x):runF A_V94 N Tryz.f109 S_V94 x=V94 N x.1 x.2.1:=(show _=(w4x (wkl N N (wqo N)) x.1 x.2.1) by kernel_rfl).trans (by rw[xka N];rfl)
theorem ok_V94:OK 109 S_V94:=gdR (A:=A_V94) tc Tryz.func109 (jeq trivial) (run_V94 big)
def wko (rec:T92) (k:T35) (a3:Y4) (a7:Z12) (a8 a9:Int):Z3 :=
  cond (decide (a9<a8))
  ((atI a7 a9).bind fun xq1 =>
  cond xq1
  ((appI a3 [a9]).bind fun xq2 =>
  rec xq2 a7 a8 (IntKind.i64.wrap (a9+1)))
  (rec a3 a7 a8 (IntKind.i64.wrap (a9+1))))
  (k a3)
def wgk (a3:Y4):Z3 :=
  some (a3,(()))
def w4z (L3:T92) (have_0:Z12):Z3 :=
  L3 [] have_0 (have_0.length:Int) 0
def wx1 (N:Nat) (k:T35):=itN (fun r=>wko r k) fun _ _ _ _=>none
def wx0 (N:Nat):=wx1 N (wgk) N
def V95 (N:Nat) (have_0:Z12):Z3:=w4z (wx0 N) have_0
def S_V95:Sig:=⟨(.pair Q16 .unit),[0],[],.unit,Q6,O4,fun x=>V95 big x.1⟩
def A_V95:Cfg:=mkCfg tab [] [(6,(dr 3 ([B1]++dr 3 [.as Q16 .i,B0,B0]))),(17,(dr 3 [B1]))]
noncomputable def wkn (N n:Nat) (K:T26) (a3:Y4) (a7:Z12) (a8 a9:Int):Z3:=itr A_V95 N 6 Tryz.f110 [1,1,0,1,0,0] n ((ud 3 ([W1 a3]++ud 3 [.val Q16 .i a7,W0 a8,W0 a9]))++us 11) K
noncomputable def w40:Ex→St→Z3:=finish A_V95 S_V95 Tryz.f110.results.toList
noncomputable def xdb (kX:T11) (a3:Y4):Z3:=kX ((ud 3 [W1 a3])++us 17)
noncomputable def xda (kX:T11) (kO:T6):=exK w40 0 (A_V95.shape 17) kX kO
theorem xdc (N kX kO):∀n,wkn N n (xda kX kO)=wx1 N (xdb kX) n :=
 itE rfl fun m=>by kernel_rfl
noncomputable def wqp (N:Nat):=(blockK 0 (sqK A_V95 N 17 500008 Tryz.f110 [1,1,1] w40))
noncomputable def xdd (N:Nat) (st':St):Z3:=rn A_V95 N Tryz.f110 [1,1,1] st' w40
theorem xkb (N):wkn N N (wqp N)=wx0 N:=by
 rw[show wkn N N (wqp N)=wkn N N (xda (xdd N) fun j=>(wqp N) (.exit j)) from(by funext _ _ _ _;exact jlo),xdc,show xdb (xdd N)=wgk by kernel_rfl];rfl
theorem run_V95 (N x):runF A_V95 N Tryz.f110 S_V95 x=V95 N x.1:=(show _=(w4z (wkn N N (wqp N)) x.1) by kernel_rfl).trans (by rw[xkb N];rfl)
theorem ok_V95:OK 110 S_V95:=gdR (A:=A_V95) tc Tryz.func110 (jeq trivial) (run_V95 big)
end Go.Proofs.YtmebolidmeljeaaGreat
