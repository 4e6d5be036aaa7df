import Derived.Test.YtclaienmkbpkaaaGreatGBCp2
set_option maxRecDepth 100000
set_option linter.unusedVariables false
namespace Go.Proofs.YtclaienmkbpkaaaGreat
open Go Go.Gx Go.Proofs
def wes (rec:T125) (k:Z6) (a2:Y2) (a5:Y4) (a9:Int):Z6 :=
  cond (decide (a9<(a5.length:Int)))
  ((atI a5 a9).bind fun _ =>
  (a5[a9.toNat]?).bind fun xq4 =>
  (atI a2.1 xq4).bind fun xq5 =>
  (V55 big a5 xq5).bind fun rq6 =>
  cond rq6.1
  ((atI a5 a9).bind fun _ =>
  (a5[a9.toNat]?).bind fun xq7 =>
  some (xq7,(())))
  (rec a2 a5 (IntKind.i64.wrap (a9+1))))
  (k)
def wav:Z6 :=
  some ((-1:Int),(()))
def wii (rec:T63) (k:Y4→Y2→Y4→Int→Bool→Z6) (a1:Y4) (a2:Y2) (a5:Y4) (a6:Int) (a7:Bool) (a8:Int):Z6 :=
  cond (decide (a8<(a1.length:Int)))
  (cond a7
  ((atI a1 a8).bind fun xq1 =>
  (V15 a2 a6 xq1).bind fun rq2 =>
  rec a1 a2 a5 a6 rq2.1 (IntKind.i64.wrap (a8+1)))
  (rec a1 a2 a5 a6 false (IntKind.i64.wrap (a8+1))))
  (k a1 a2 a5 a6 a7)
def wer (rec:T73) (a1:Y4) (a2:Y2) (a5:Y4) (a6:Int) (a7:Bool):Z6 :=
  cond a7
  ((appI a5 [a6]).bind fun xq3 =>
  rec a1 a2 xq3 (IntKind.i64.wrap (a6+1)))
  (rec a1 a2 a5 (IntKind.i64.wrap (a6+1)))
def wet (L7:T63) (k:Y2→Y4→Z6) (a1:Y4) (a2:Y2) (a5:Y4) (a6:Int):Z6 :=
  cond (decide (a6<(a2.1.length:Int)))
  (L7 a1 a2 a5 a6 true 0)
  (k a2 a5)
def za (L13:T125) (a2:Y2) (a5:Y4):Z6 :=
  L13 a2 a5 0
def w3l (L3:T73) (p_0:Y2) (some_1:Y4):Z6 :=
  L3 some_1 p_0 [] 0
def wvu (N:Nat) (k:Y4→Y2→Y4→Int→Bool→Z6):=itN (fun r=>wii r k) fun _ _ _ _ _ _=>none
def wig (N:Nat) (rec:T73) (k:Y2→Y4→Z6):=wvu N (wer rec) N
def wvt (N:Nat) (k:Y2→Y4→Z6):=itN (fun r=>wet (wig N r k) k) fun _ _ _ _=>none
def wre (N:Nat) (k:Z6):=itN (fun r=>wes r k) fun _ _ _=>none
def xt (N:Nat):=wre N (wav) N
def wvs (N:Nat):=wvt N (za (xt N)) N
def V58 (N:Nat) (p_0:Y2) (some_1:Y4):Z6:=w3l (wvs N) p_0 some_1
def S_V58:Sig:=⟨(.pair Q0 Q10),[0,0],[],.unit,I,.i,fun x=>V58 big x.1 x.2.1⟩
def A_V58:Cfg:=mkCfg tab [(76,S_V15),(100,S_V55)] [(6,[D0,B4,B3,D0,D0,B1,B0]),(14,[D0,B4,B3,D0,D0,B1,B0,B5,B0]),(25,[D0,D0,B3,D0,D0,B1]),(26,([D0,D0,B3,D0,D0,B1]++dr 3 [B0])),(21,[D0,B4,B3,D0,D0,B1,B0,B5]),(35,[])]
noncomputable def wbn (N n:Nat) (K:T83) (a1:Y4) (a2:Y2) (a5:Y4) (a6:Int):Z6:=itr A_V58 N 6 Tryz.f55 [1,1,0,1,0,0] n ([.u,W4 a1,W3 a2,.u,.u,W1 a5,W0 a6]++us 52) K
noncomputable def wih (N n:Nat) (K:T83) (a1:Y4) (a2:Y2) (a5:Y4) (a6:Int) (a7:Bool) (a8:Int):Z6:=itr A_V58 N 14 Tryz.f55 [1,1,0,1,0,0,1,0,0,1,0,1,0,0] n ([.u,W4 a1,W3 a2,.u,.u,W1 a5,W0 a6,W5 a7,W0 a8]++us 50) K
noncomputable def weq (N n:Nat) (K:T83) (a2:Y2) (a5:Y4) (a9:Int):Z6:=itr A_V58 N 26 Tryz.f55 [1,1,1,0,1,0,0] n (([.u,.u,W3 a2,.u,.u,W1 a5]++ud 3 [W0 a9])++us 49) K
noncomputable def wge:Ex→St→Z6:=finish A_V58 S_V58 Tryz.f55.results.toList
noncomputable def wn7 (kX:T55) (a2:Y2) (a5:Y4):Z6:=kX ([.u,.u,W3 a2,.u,.u,W1 a5]++us 53)
noncomputable def wep (kX:T55) (kO:T45):=exK wge 0 (A_V58.shape 25) kX kO
noncomputable def xaf (kX:T55) (a1:Y4) (a2:Y2) (a5:Y4) (a6:Int) (a7:Bool):Z6:=kX ([.u,W4 a1,W3 a2,.u,.u,W1 a5,W0 a6,W5 a7]++us 51)
noncomputable def xae (kX:T55) (kO:T45):=exK wge 2 (A_V58.shape 21) kX kO
noncomputable def w0t (kX:T55):Z6:=kX ([]++us 59)
noncomputable def w0s (kX:T55) (kO:T45):=exK wge 4 (A_V58.shape 35) kX kO
theorem xah (N kX kO):∀n,wih N n (xae kX kO)=wvu N (xaf kX) n :=
 itE rfl fun m=>by kernel_rfl
noncomputable def wn6 (N m:Nat) (kX:T55) (kO:T45):=(blockK 2 (sqK A_V58 N 21 500010 Tryz.f55 [1,1,0,1,0,0,1,0,0,1,1] (blockK 1 (sqK A_V58 N 9 500004 Tryz.f55 [1,1,0,1,0,0,1,1] (itK A_V58 N 6 Tryz.f55 [1,1,0,1,0,0] m (wep kX kO))))))
noncomputable def xaj (N m:Nat) (kX:T55) (kO:T45) (st':St):Z6:=rn A_V58 N Tryz.f55 [1,1,0,1,0,0,1,0,0,1,1] st' (blockK 1 (sqK A_V58 N 9 500004 Tryz.f55 [1,1,0,1,0,0,1,1] (itK A_V58 N 6 Tryz.f55 [1,1,0,1,0,0] m (wep kX kO))))
theorem xjr (N m kX kO) {r}(h:wbn N m (wep kX kO)=r):wih N N (wn6 N m kX kO)=wig N r (wn7 kX):=by
 rw[show wih N N (wn6 N m kX kO)=wih N N (xae (xaj N m kX kO) fun j=>(wn6 N m kX kO) (.exit j)) from(by funext _ _ _ _ _ _;exact jll),xah,show xaf (xaj N m kX kO)=wer (wbn N m (wep kX kO)) by kernel_rfl,h];rfl
theorem xag (N kX kO):∀n,wbn N n (wep kX kO)=wvt N (wn7 kX) n :=
 itE rfl fun m=>(show _=wet (wih N N (wn6 N m kX kO)) (wn7 kX) by kernel_rfl).trans (by rw[xjr N m kX kO rfl]<;>rfl)
noncomputable def wn5 (N:Nat):=(blockK 0 (sqK A_V58 N 25 500012 Tryz.f55 [1,1,1] wge))
theorem w3k (N kX kO):∀n,weq N n (w0s kX kO)=wre N (w0t kX) n :=
 itE rfl fun m=>by kernel_rfl
noncomputable def wk7 (N:Nat):=(blockK 4 (sqK A_V58 N 35 500017 Tryz.f55 [1,1,1,1] wge))
noncomputable def w0u (N:Nat) (st':St):Z6:=rn A_V58 N Tryz.f55 [1,1,1,1] st' wge
theorem xfd (N):weq N N (wk7 N)=xt N:=by
 rw[show weq N N (wk7 N)=weq N N (w0s (w0u N) fun j=>(wk7 N) (.exit j)) from(by funext _ _ _;exact jll),w3k,show w0t (w0u N)=wav by kernel_rfl];rfl
noncomputable def xai (N:Nat) (st':St):Z6:=rn A_V58 N Tryz.f55 [1,1,1] st' wge
theorem xjq (N):wbn N N (wn5 N)=wvs N:=by
 rw[show wbn N N (wn5 N)=wbn N N (wep (xai N) fun j=>(wn5 N) (.exit j)) from(by funext _ _ _ _;exact jll),xag,show wn7 (xai N)=za (weq N N (wk7 N)) by kernel_rfl,xfd N];rfl
theorem run_V58 (N x):runF A_V58 N Tryz.f55 S_V58 x=V58 N x.1 x.2.1:=(show _=(w3l (wbn N N (wn5 N)) x.1 x.2.1) by kernel_rfl).trans (by rw[xjq N];rfl)
theorem ok_V58:OK 55 S_V58:=gdR (A:=A_V58) tc Tryz.func55 (jeq ⟨ok_V15,ok_V55,trivial⟩) (run_V58 big)
def wil (rec:T105) (k:T64) (a1 a3:Y2) (a4 a5:Int):Z0 :=
  cond (decide (a5<a4))
  ((V58 big a1 [a4,a5]).bind fun rq3 =>
  cond (decide (rq3.1<0))
  (some (false,(())))
  ((V58 big a3 [a4,a5]).bind fun rq4 =>
  cond (decide (rq4.1<0))
  (some (false,(())))
  (rec a1 a3 a4 (IntKind.i64.wrap (a5+1)))))
  (k a1 a3 a4)
def wev (rec:T64) (a1 a3:Y2) (a4:Int):Z0 :=
  rec a1 a3 (IntKind.i64.wrap (a4+1))
def wew (L8:T105) (k:Z0) (a1 a3:Y2) (a4:Int):Z0 :=
  cond (decide (a4<(a1.1.length:Int)))
  (L8 a1 a3 a4 0)
  (k)
def zb:Z0 :=
  some (true,(()))
def w3m (L5:T64) (p_0:Y2):Z0 :=
  (V56 big p_0).bind fun rq1 =>
  cond (!rq1.1)
  (some (false,(())))
  (cond (decide ((p_0.1.length:Int)=0))
  (some (false,(())))
  ((V57 big p_0).bind fun rq2 =>
  L5 p_0 rq2.1 0))
def wvx (N:Nat) (k:T64):=itN (fun r=>wil r k) fun _ _ _ _=>none
def wij (N:Nat) (rec:T64) (k:Z0):=wvx N (wev rec) N
def wvw (N:Nat) (k:Z0):=itN (fun r=>wew (wij N r k) k) fun _ _ _=>none
def wvv (N:Nat):=wvw N (zb) N
def V59 (N:Nat) (p_0:Y2):Z0:=w3m (wvv N) p_0
def S_V59:Sig:=⟨Q15,[0],[],.unit,.bool,.i,fun x=>V59 big x.1⟩
def A_V59:Cfg:=mkCfg tab [(89,S_V56),(90,S_V57),(55,S_V58)] [(10,[D0,B3,D0,B2,B0]),(16,[D0,B3,D0,B2,B0,B0]),(25,[]),(13,[D0,B3,D0,B2,B0])]
noncomputable def wbo (N n:Nat) (K:T12) (a1 a3:Y2) (a4:Int):Z0:=itr A_V59 N 10 Tryz.f46 [1,1,1,0,1,0,0] n ([.u,W3 a1,.u,W2 a3,W0 a4]++us 38) K
noncomputable def wik (N n:Nat) (K:T12) (a1 a3:Y2) (a4 a5:Int):Z0:=itr A_V59 N 16 Tryz.f46 [1,1,1,0,1,0,0,1,0,0,1,0,0] n ([.u,W3 a1,.u,W2 a3,W0 a4,W0 a5]++us 37) K
noncomputable def wsk:Ex→St→Z0:=finish A_V59 S_V59 Tryz.f46.results.toList
noncomputable def woa (kX:T3):Z0:=kX ([]++us 43)
noncomputable def weu (kX:T3) (kO:T2):=exK wsk 0 (A_V59.shape 25) kX kO
noncomputable def xal (kX:T3) (a1 a3:Y2) (a4:Int):Z0:=kX ([.u,W3 a1,.u,W2 a3,W0 a4]++us 38)
noncomputable def xak (kX:T3) (kO:T2):=exK wsk 2 (A_V59.shape 13) kX kO
theorem xan (N kX kO):∀n,wik N n (xak kX kO)=wvx N (xal kX) n :=
 itE rfl fun m=>by kernel_rfl
noncomputable def wn9 (N m:Nat) (kX:T3) (kO:T2):=(blockK 2 (blockK 1 (sqK A_V59 N 13 500006 Tryz.f46 [1,1,1,0,1,0,0,1,1] (itK A_V59 N 10 Tryz.f46 [1,1,1,0,1,0,0] m (weu kX kO)))))
noncomputable def xap (N m:Nat) (kX:T3) (kO:T2) (st':St):Z0:=rn A_V59 N Tryz.f46 [1,1,1,0,1,0,0,1,1] st' (itK A_V59 N 10 Tryz.f46 [1,1,1,0,1,0,0] m (weu kX kO))
theorem xjt (N m kX kO) {r}(h:wbo N m (weu kX kO)=r):wik N N (wn9 N m kX kO)=wij N r (woa kX):=by
 rw[show wik N N (wn9 N m kX kO)=wik N N (xak (xap N m kX kO) fun j=>(wn9 N m kX kO) (.exit j)) from(by funext _ _ _ _;exact jll),xan,show xal (xap N m kX kO)=wev (wbo N m (weu kX kO)) by kernel_rfl,h];rfl
theorem xam (N kX kO):∀n,wbo N n (weu kX kO)=wvw N (woa kX) n :=
 itE rfl fun m=>(show _=wew (wik N N (wn9 N m kX kO)) (woa kX) by kernel_rfl).trans (by rw[xjt N m kX kO rfl]<;>rfl)
noncomputable def wn8 (N:Nat):=(blockK 0 (sqK A_V59 N 25 500012 Tryz.f46 [1,1,1,1] wsk))
noncomputable def xao (N:Nat) (st':St):Z0:=rn A_V59 N Tryz.f46 [1,1,1,1] st' wsk
theorem xjs (N):wbo N N (wn8 N)=wvv N:=by
 rw[show wbo N N (wn8 N)=wbo N N (weu (xao N) fun j=>(wn8 N) (.exit j)) from(by funext _ _ _;exact jll),xam,show woa (xao N)=zb by kernel_rfl];rfl
theorem run_V59 (N x):runF A_V59 N Tryz.f46 S_V59 x=V59 N x.1:=(show _=(w3m (wbo N N (wn8 N)) x.1) by kernel_rfl).trans (by rw[xjs N];rfl)
theorem ok_V59:OK 46 S_V59:=gdR (A:=A_V59) tc Tryz.func46 (jeq ⟨ok_V56,ok_V57,ok_V58,trivial⟩) (run_V59 big)
def xg0 (p_0:Y2) (x_1 y_2:Int):Z6 :=
  (V57 big p_0).bind fun rq1 =>
  (V58 big rq1.1 [x_1,y_2]).bind fun rq2 =>
  some (rq2.1,(()))
def V60 (p_0:Y2) (x_1 y_2:Int):Z6:=xg0 p_0 x_1 y_2
def S_V60:Sig:=⟨(.pair Q0 Q9),[0,0,0],[],.unit,I,.i,fun x=>V60 x.1 x.2.1 x.2.2.1⟩
def A_V60:Cfg:=mkCfg tab [(90,S_V57),(55,S_V58)] []
theorem run_V60 (N x):runF A_V60 N Tryz.f116 S_V60 x=V60 x.1 x.2.1 x.2.2.1:=by kernel_rfl
theorem ok_V60:OK 116 S_V60:=gdR (A:=A_V60) tc Tryz.func116 (jeq ⟨ok_V57,ok_V58,trivial⟩) (run_V60 big)
def xg1 (p_0:Y2) (x_1 y_2:Int):Z6 :=
  (V58 big p_0 [x_1,y_2]).bind fun rq1 =>
  some (rq1.1,(()))
def V61 (p_0:Y2) (x_1 y_2:Int):Z6:=xg1 p_0 x_1 y_2
def S_V61:Sig:=⟨(.pair Q0 Q9),[0,0,0],[],.unit,I,.i,fun x=>V61 x.1 x.2.1 x.2.2.1⟩
def A_V61:Cfg:=mkCfg tab [(55,S_V58)] []
theorem run_V61 (N x):runF A_V61 N Tryz.f98 S_V61 x=V61 x.1 x.2.1 x.2.2.1:=by kernel_rfl
theorem ok_V61:OK 98 S_V61:=gdR (A:=A_V61) tc Tryz.func98 (jeq ⟨ok_V58,trivial⟩) (run_V61 big)
def wiq (rec:T78) (k:T36) (a1:Y2) (a4 a5 a6 a7:Int):Z8 :=
  cond (decide (a7<a4))
  ((V60 a1 a6 a7).bind fun rq1 =>
  (V61 a1 a5 rq1.1).bind fun rq2 =>
  (V61 a1 a5 a6).bind fun rq3 =>
  (V61 a1 a5 a7).bind fun rq4 =>
  (V60 a1 rq3.1 rq4.1).bind fun rq5 =>
  cond (decide (rq2.1≠rq5.1))
  (some (([a5,a6,a7],true,()),(())))
  (rec a1 a4 a5 a6 (IntKind.i64.wrap (a7+1))))
  (k a1 a4 a5 a6)
def wez (rec:T36) (a1:Y2) (a4 a5 a6:Int):Z8 :=
  rec a1 a4 a5 (IntKind.i64.wrap (a6+1))
def we1 (L9:T78) (k:T42) (a1:Y2) (a4 a5 a6:Int):Z8 :=
  cond (decide (a6<a4))
  (L9 a1 a4 a5 a6 0)
  (k a1 a4 a5)
def ze (rec:T42) (a1:Y2) (a4 a5:Int):Z8 :=
  rec a1 a4 (IntKind.i64.wrap (a5+1))
def we0 (L6:T36) (k:Z8) (a1:Y2) (a4 a5:Int):Z8 :=
  cond (decide (a5<a4))
  (L6 a1 a4 a5 0)
  (k)
def zd:Z8 :=
  some (([],false,()),(()))
def w3p (L3:T42) (p_0:Y2):Z8 :=
  L3 p_0 (p_0.1.length:Int) 0
def wv1 (N:Nat) (k:T36):=itN (fun r=>wiq r k) fun _ _ _ _ _=>none
def wio (N:Nat) (rec:T36) (k:T42):=wv1 N (wez rec) N
def wv0 (N:Nat) (k:T42):=itN (fun r=>we1 (wio N r k) k) fun _ _ _ _=>none
def wim (N:Nat) (rec:T42) (k:Z8):=wv0 N (ze rec) N
def wvz (N:Nat) (k:Z8):=itN (fun r=>we0 (wim N r k) k) fun _ _ _=>none
def wvy (N:Nat):=wvz N (zd) N
def V62 (N:Nat) (p_0:Y2):Z8:=w3p (wvy N) p_0
def S_V62:Sig:=⟨Q15,[0],[],.unit,(.tup (.pair Q6 Q12)),(.p O4 .i),fun x=>V62 big x.1⟩
def A_V62:Cfg:=mkCfg tab [(116,S_V60),(98,S_V61)] [(6,[D0,B3,D0,D0,B0,B0]),(12,[D0,B3,D0,D0,B0,B0,B0]),(27,[]),(18,[D0,B3,D0,D0,B0,B0,B0,B0]),(9,[D0,B3,D0,D0,B0,B0]),(15,[D0,B3,D0,D0,B0,B0,B0])]
noncomputable def wbp (N n:Nat) (K:Ex→St→Z8) (a1:Y2) (a4 a5:Int):Z8:=itr A_V62 N 6 Tryz.f113 [1,1,0,1,0,0] n ([.u,W3 a1,.u,.u,W0 a4,W0 a5]++us 43) K
noncomputable def wbq (N n:Nat) (K:Ex→St→Z8) (a1:Y2) (a4 a5 a6:Int):Z8:=itr A_V62 N 12 Tryz.f113 [1,1,0,1,0,0,1,0,0,1,0,0] n ([.u,W3 a1,.u,.u,W0 a4,W0 a5,W0 a6]++us 42) K
noncomputable def wip (N n:Nat) (K:Ex→St→Z8) (a1:Y2) (a4 a5 a6 a7:Int):Z8:=itr A_V62 N 18 Tryz.f113 [1,1,0,1,0,0,1,0,0,1,0,0,1,0,0,1,0,0] n ([.u,W3 a1,.u,.u,W0 a4,W0 a5,W0 a6,W0 a7]++us 41) K
noncomputable def woi:Ex→St→Z8:=finish A_V62 S_V62 Tryz.f113.results.toList
noncomputable def wog (kX:St→Z8):Z8:=kX ([]++us 49)
noncomputable def wex (kX:St→Z8) (kO:T116):=exK woi 0 (A_V62.shape 27) kX kO
noncomputable def woh (kX:St→Z8) (a1:Y2) (a4 a5:Int):Z8:=kX ([.u,W3 a1,.u,.u,W0 a4,W0 a5]++us 43)
noncomputable def wey (kX:St→Z8) (kO:T116):=exK woi 2 (A_V62.shape 9) kX kO
noncomputable def xar (kX:St→Z8) (a1:Y2) (a4 a5 a6:Int):Z8:=kX ([.u,W3 a1,.u,.u,W0 a4,W0 a5,W0 a6]++us 42)
noncomputable def xaq (kX:St→Z8) (kO:T116):=exK woi 4 (A_V62.shape 15) kX kO
theorem xau (N kX kO):∀n,wip N n (xaq kX kO)=wv1 N (xar kX) n :=
 itE rfl fun m=>by kernel_rfl
noncomputable def wof (N m:Nat) (kX:St→Z8) (kO:T116):=(blockK 4 (blockK 3 (sqK A_V62 N 15 500007 Tryz.f113 [1,1,0,1,0,0,1,0,0,1,0,0,1,1] (itK A_V62 N 12 Tryz.f113 [1,1,0,1,0,0,1,0,0,1,0,0] m (wey kX kO)))))
noncomputable def xax (N m:Nat) (kX:St→Z8) (kO:T116) (st':St):Z8:=rn A_V62 N Tryz.f113 [1,1,0,1,0,0,1,0,0,1,0,0,1,1] st' (itK A_V62 N 12 Tryz.f113 [1,1,0,1,0,0,1,0,0,1,0,0] m (wey kX kO))
theorem xjw (N m kX kO) {r}(h:wbq N m (wey kX kO)=r):wip N N (wof N m kX kO)=wio N r (woh kX):=by
 rw[show wip N N (wof N m kX kO)=wip N N (xaq (xax N m kX kO) fun j=>(wof N m kX kO) (.exit j)) from(by funext _ _ _ _ _;exact jll),xau,show xar (xax N m kX kO)=wez (wbq N m (wey kX kO)) by kernel_rfl,h];rfl
theorem xat (N kX kO):∀n,wbq N n (wey kX kO)=wv0 N (woh kX) n :=
 itE rfl fun m=>(show _=we1 (wip N N (wof N m kX kO)) (woh kX) by kernel_rfl).trans (by rw[xjw N m kX kO rfl]<;>rfl)
noncomputable def woe (N m:Nat) (kX:St→Z8) (kO:T116):=(blockK 2 (blockK 1 (sqK A_V62 N 9 500004 Tryz.f113 [1,1,0,1,0,0,1,1] (itK A_V62 N 6 Tryz.f113 [1,1,0,1,0,0] m (wex kX kO)))))
noncomputable def xaw (N m:Nat) (kX:St→Z8) (kO:T116) (st':St):Z8:=rn A_V62 N Tryz.f113 [1,1,0,1,0,0,1,1] st' (itK A_V62 N 6 Tryz.f113 [1,1,0,1,0,0] m (wex kX kO))
theorem xjv (N m kX kO) {r}(h:wbp N m (wex kX kO)=r):wbq N N (woe N m kX kO)=wim N r (wog kX):=by
 rw[show wbq N N (woe N m kX kO)=wbq N N (wey (xaw N m kX kO) fun j=>(woe N m kX kO) (.exit j)) from(by funext _ _ _ _;exact jll),xat,show woh (xaw N m kX kO)=ze (wbp N m (wex kX kO)) by kernel_rfl,h];rfl
theorem xas (N kX kO):∀n,wbp N n (wex kX kO)=wvz N (wog kX) n :=
 itE rfl fun m=>(show _=we0 (wbq N N (woe N m kX kO)) (wog kX) by kernel_rfl).trans (by rw[xjv N m kX kO rfl]<;>rfl)
noncomputable def wod (N:Nat):=(blockK 0 (sqK A_V62 N 27 500013 Tryz.f113 [1,1,1] woi))
noncomputable def xav (N:Nat) (st':St):Z8:=rn A_V62 N Tryz.f113 [1,1,1] st' woi
theorem xju (N):wbp N N (wod N)=wvy N:=by
 rw[show wbp N N (wod N)=wbp N N (wex (xav N) fun j=>(wod N) (.exit j)) from(by funext _ _ _;exact jll),xas,show wog (xav N)=zd by kernel_rfl];rfl
theorem run_V62 (N x):runF A_V62 N Tryz.f113 S_V62 x=V62 N x.1:=(show _=(w3p (wbp N N (wod N)) x.1) by kernel_rfl).trans (by rw[xju N];rfl)
theorem ok_V62:OK 113 S_V62:=gdR (A:=A_V62) tc Tryz.func113 (jeq ⟨ok_V60,ok_V61,trivial⟩) (run_V62 big)
def w3q (p_0:Y2):Z0 :=
  (V59 big p_0).bind fun rq1 =>
  cond (!rq1.1)
  (some (false,(())))
  ((V62 big p_0).bind fun rq2 =>
  some (!((((),rq2.1.2).2).1),(())))
def V63 (p_0:Y2):Z0:=w3q p_0
def S_V63:Sig:=⟨Q15,[0],[],.unit,.bool,.i,fun x=>V63 x.1⟩
def A_V63:Cfg:=mkCfg tab [(46,S_V59),(113,S_V62)] []
theorem run_V63 (N x):runF A_V63 N Tryz.f72 S_V63 x=V63 x.1:=by kernel_rfl
theorem ok_V63:OK 72 S_V63:=gdR (A:=A_V63) tc Tryz.func72 (jeq ⟨ok_V59,ok_V62,trivial⟩) (run_V63 big)
def xg2 (p_0:Y2):Z6 :=
  (V57 big p_0).bind fun rq1 =>
  (V58 big rq1.1 []).bind fun rq2 =>
  some (rq2.1,(()))
def V64 (p_0:Y2):Z6:=xg2 p_0
def S_V64:Sig:=⟨Q15,[0],[],.unit,I,.i,fun x=>V64 x.1⟩
def A_V64:Cfg:=mkCfg tab [(90,S_V57),(55,S_V58)] []
theorem run_V64 (N x):runF A_V64 N Tryz.f106 S_V64 x=V64 x.1:=by kernel_rfl
theorem ok_V64:OK 106 S_V64:=gdR (A:=A_V64) tc Tryz.func106 (jeq ⟨ok_V57,ok_V58,trivial⟩) (run_V64 big)
def xg3 (p_0:Y2):Z6 :=
  (V58 big p_0 []).bind fun rq1 =>
  some (rq1.1,(()))
def V65 (p_0:Y2):Z6:=xg3 p_0
def S_V65:Sig:=⟨Q15,[0],[],.unit,I,.i,fun x=>V65 x.1⟩
def A_V65:Cfg:=mkCfg tab [(55,S_V58)] []
theorem run_V65 (N x):runF A_V65 N Tryz.f115 S_V65 x=V65 x.1:=by kernel_rfl
theorem ok_V65:OK 115 S_V65:=gdR (A:=A_V65) tc Tryz.func115 (jeq ⟨ok_V58,trivial⟩) (run_V65 big)
def wis (rec:T65) (k:T21) (a1 a2 a3:Int) (a4:Y2) (a9:Y4) (a10:Int):Z2 :=
  cond (decide (a10<(a4.1.length:Int)))
  ((V61 a4 a2 a10).bind fun rq1 =>
  cond (decide (rq1.1=a1))
  ((V60 a4 a2 a10).bind fun rq2 =>
  cond (decide (rq2.1=a3))
  ((appI a9 [a10]).bind fun xq3 =>
  rec a1 a2 a3 a4 xq3 (IntKind.i64.wrap (a10+1)))
  (rec a1 a2 a3 a4 a9 (IntKind.i64.wrap (a10+1))))
  (rec a1 a2 a3 a4 a9 (IntKind.i64.wrap (a10+1))))
  (k a9)
def we2 (a9:Y4):Z2 :=
  some (a9,(()))
def w3r (L3:T65) (p_0:Y2) (x_1 y_2 z_3:Int):Z2 :=
  L3 x_1 y_2 z_3 p_0 [] 0
def wv3 (N:Nat) (k:T21):=itN (fun r=>wis r k) fun _ _ _ _ _ _=>none
def wv2 (N:Nat):=wv3 N (we2) N
def V66 (N:Nat) (p_0:Y2) (x_1 y_2 z_3:Int):Z2:=w3r (wv2 N) p_0 x_1 y_2 z_3
def S_V66:Sig:=⟨(.pair Q0 (.pair I Q9)),[0,0,0,0],[],.unit,Q6,O4,fun x=>V66 big x.1 x.2.1 x.2.2.1 x.2.2.2.1⟩
def A_V66:Cfg:=mkCfg tab [(98,S_V61),(116,S_V60)] [(6,([D0,B0,B0,B0,B3]++dr 4 [B1,B0])),(15,(dr 9 [B1]))]
noncomputable def wir (N n:Nat) (K:T18) (a1 a2 a3:Int) (a4:Y2) (a9:Y4) (a10:Int):Z2:=itr A_V66 N 6 Tryz.f114 [1,1,0,1,0,0] n (([.u,W0 a1,W0 a2,W0 a3,W3 a4]++ud 4 [W1 a9,W0 a10])++us 27) K
noncomputable def w3s:Ex→St→Z2:=finish A_V66 S_V66 Tryz.f114.results.toList
noncomputable def xaz (kX:T7) (a9:Y4):Z2:=kX ((ud 9 [W1 a9])++us 28)
noncomputable def xay (kX:T7) (kO:T5):=exK w3s 0 (A_V66.shape 15) kX kO
theorem xa0 (N kX kO):∀n,wir N n (xay kX kO)=wv3 N (xaz kX) n :=
 itE rfl fun m=>by kernel_rfl
noncomputable def woj (N:Nat):=(blockK 0 (sqK A_V66 N 15 500007 Tryz.f114 [1,1,1] w3s))
noncomputable def xa1 (N:Nat) (st':St):Z2:=rn A_V66 N Tryz.f114 [1,1,1] st' w3s
theorem xjx (N):wir N N (woj N)=wv2 N:=by
 rw[show wir N N (woj N)=wir N N (xay (xa1 N) fun j=>(woj N) (.exit j)) from(by funext _ _ _ _ _ _;exact jll),xa0,show xaz (xa1 N)=we2 by kernel_rfl];rfl
theorem run_V66 (N x):runF A_V66 N Tryz.f114 S_V66 x=V66 N x.1 x.2.1 x.2.2.1 x.2.2.2.1:=(show _=(w3r (wir N N (woj N)) x.1 x.2.1 x.2.2.1 x.2.2.2.1) by kernel_rfl).trans (by rw[xjx N];rfl)
theorem ok_V66:OK 114 S_V66:=gdR (A:=A_V66) tc Tryz.func114 (jeq ⟨ok_V61,ok_V60,trivial⟩) (run_V66 big)
def wiu (rec:T66) (k:T21) (a1:Y2) (a3:Y4) (a4:Int):Z2 :=
  cond (decide (a4<(a1.1.length:Int)))
  ((V64 a1).bind fun rq1 =>
  (V65 a1).bind fun rq2 =>
  (V66 big a1 rq1.1 a4 rq2.1).bind fun rq3 =>
  (appI a3 [(rq3.1.length:Int)]).bind fun xq4 =>
  rec a1 xq4 (IntKind.i64.wrap (a4+1)))
  (k a3)
def we3 (a3:Y4):Z2 :=
  some (a3,(()))
def w3t (L3:T66) (p_0:Y2):Z2 :=
  L3 p_0 [] 0
def wv5 (N:Nat) (k:T21):=itN (fun r=>wiu r k) fun _ _ _=>none
def wv4 (N:Nat):=wv5 N (we3) N
def V67 (N:Nat) (p_0:Y2):Z2:=w3t (wv4 N) p_0
def S_V67:Sig:=⟨Q15,[0],[],.unit,Q6,O4,fun x=>V67 big x.1⟩
def A_V67:Cfg:=mkCfg tab [(106,S_V64),(115,S_V65),(114,S_V66)] [(6,[D0,B3,D0,B1,B0]),(13,(dr 3 [B1]))]
noncomputable def wit (N n:Nat) (K:T18) (a1:Y2) (a3:Y4) (a4:Int):Z2:=itr A_V67 N 6 Tryz.f74 [1,1,0,1,0,0] n ([.u,W3 a1,.u,W1 a3,W0 a4]++us 20) K
noncomputable def w3u:Ex→St→Z2:=finish A_V67 S_V67 Tryz.f74.results.toList
noncomputable def xa3 (kX:T7) (a3:Y4):Z2:=kX ((ud 3 [W1 a3])++us 21)
noncomputable def xa2 (kX:T7) (kO:T5):=exK w3u 0 (A_V67.shape 13) kX kO
theorem xa4 (N kX kO):∀n,wit N n (xa2 kX kO)=wv5 N (xa3 kX) n :=
 itE rfl fun m=>by kernel_rfl
noncomputable def wok (N:Nat):=(blockK 0 (sqK A_V67 N 13 500006 Tryz.f74 [1,1,1] w3u))
noncomputable def xa5 (N:Nat) (st':St):Z2:=rn A_V67 N Tryz.f74 [1,1,1] st' w3u
theorem xjy (N):wit N N (wok N)=wv4 N:=by
 rw[show wit N N (wok N)=wit N N (xa2 (xa5 N) fun j=>(wok N) (.exit j)) from(by funext _ _ _;exact jll),xa4,show xa3 (xa5 N)=we3 by kernel_rfl];rfl
theorem run_V67 (N x):runF A_V67 N Tryz.f74 S_V67 x=V67 N x.1:=(show _=(w3t (wit N N (wok N)) x.1) by kernel_rfl).trans (by rw[xjy N];rfl)
theorem ok_V67:OK 74 S_V67:=gdR (A:=A_V67) tc Tryz.func74 (jeq ⟨ok_V64,ok_V65,ok_V66,trivial⟩) (run_V67 big)
def w3v (p_0:Y2):Z0 :=
  (V63 p_0).bind fun rq1 =>
  cond rq1.1
  ((V67 big p_0).bind fun rq2 =>
  (V14 big rq2.1 0).bind fun rq3 =>
  some (!rq3.1,(())))
  (some (false,(())))
def V68 (p_0:Y2):Z0:=w3v p_0
def S_V68:Sig:=⟨Q15,[0],[],.unit,.bool,.i,fun x=>V68 x.1⟩
def A_V68:Cfg:=mkCfg tab [(72,S_V63),(74,S_V67),(73,S_V14)] []
theorem run_V68 (N x):runF A_V68 N Tryz.f31 S_V68 x=V68 x.1:=by kernel_rfl
theorem ok_V68:OK 31 S_V68:=gdR (A:=A_V68) tc Tryz.func31 (jeq ⟨ok_V63,ok_V67,ok_V14,trivial⟩) (run_V68 big)
def xg4 (p_0:Y2) (x_1:Int):Z0 :=
  cond (decide (0≤x_1))
  (some (decide (x_1<(p_0.1.length:Int)),(())))
  (some (false,(())))
def V69 (p_0:Y2) (x_1:Int):Z0:=xg4 p_0 x_1
def S_V69:Sig:=⟨(.pair Q0 Q17),[0,0],[],.unit,.bool,.i,fun x=>V69 x.1 x.2.1⟩
def A_V69:Cfg:=mkCfg tab [] []
theorem run_V69 (N x):runF A_V69 N Tryz.f32 S_V69 x=V69 x.1 x.2.1:=by kernel_rfl
theorem ok_V69:OK 32 S_V69:=gdR (A:=A_V69) tc Tryz.func32 (jeq trivial) (run_V69 big)
def wiw (rec:T66) (k:T21) (a1:Y2) (a3:Y4) (a4:Int):Z2 :=
  cond (decide (a4<(a1.1.length:Int)))
  ((V64 a1).bind fun rq1 =>
  (V65 a1).bind fun rq2 =>
  (V66 big a1 rq1.1 a4 rq2.1).bind fun rq3 =>
  (atI rq3.1 0).bind fun _ =>
  (rq3.1[(0:Int).toNat]?).bind fun xq4 =>
  (appI a3 [xq4]).bind fun xq5 =>
  rec a1 xq5 (IntKind.i64.wrap (a4+1)))
  (k a3)
def we4 (a3:Y4):Z2 :=
  some (a3,(()))
def w3w (L3:T66) (p_0:Y2):Z2 :=
  L3 p_0 [] 0
def wv7 (N:Nat) (k:T21):=itN (fun r=>wiw r k) fun _ _ _=>none
def wv6 (N:Nat):=wv7 N (we4) N
def V70 (N:Nat) (p_0:Y2):Z2:=w3w (wv6 N) p_0
def S_V70:Sig:=⟨Q15,[0],[],.unit,Q6,O4,fun x=>V70 big x.1⟩
def A_V70:Cfg:=mkCfg tab [(106,S_V64),(115,S_V65),(114,S_V66)] [(6,[D0,B3,D0,B1,B0]),(13,(dr 3 [B1]))]
noncomputable def wiv (N n:Nat) (K:T18) (a1:Y2) (a3:Y4) (a4:Int):Z2:=itr A_V70 N 6 Tryz.f75 [1,1,0,1,0,0] n ([.u,W3 a1,.u,W1 a3,W0 a4]++us 21) K
noncomputable def w3x:Ex→St→Z2:=finish A_V70 S_V70 Tryz.f75.results.toList
noncomputable def xa7 (kX:T7) (a3:Y4):Z2:=kX ((ud 3 [W1 a3])++us 22)
noncomputable def xa6 (kX:T7) (kO:T5):=exK w3x 0 (A_V70.shape 13) kX kO
theorem xa8 (N kX kO):∀n,wiv N n (xa6 kX kO)=wv7 N (xa7 kX) n :=
 itE rfl fun m=>by kernel_rfl
noncomputable def wol (N:Nat):=(blockK 0 (sqK A_V70 N 13 500006 Tryz.f75 [1,1,1] w3x))
noncomputable def xa9 (N:Nat) (st':St):Z2:=rn A_V70 N Tryz.f75 [1,1,1] st' w3x
theorem xjz (N):wiv N N (wol N)=wv6 N:=by
 rw[show wiv N N (wol N)=wiv N N (xa6 (xa9 N) fun j=>(wol N) (.exit j)) from(by funext _ _ _;exact jll),xa8,show xa7 (xa9 N)=we4 by kernel_rfl];rfl
theorem run_V70 (N x):runF A_V70 N Tryz.f75 S_V70 x=V70 N x.1:=(show _=(w3w (wiv N N (wol N)) x.1) by kernel_rfl).trans (by rw[xjz N];rfl)
theorem ok_V70:OK 75 S_V70:=gdR (A:=A_V70) tc Tryz.func75 (jeq ⟨ok_V64,ok_V65,ok_V66,trivial⟩) (run_V70 big)
def xg5 (p_0:Y2) (not_1:Y4) (x_2 y_3:Int):Z6 :=
  (atI not_1 y_3).bind fun xq1 =>
  (V61 p_0 x_2 xq1).bind fun rq2 =>
  (atI not_1 x_2).bind fun xq3 =>
  (V61 p_0 xq3 y_3).bind fun rq4 =>
  (V60 p_0 rq2.1 rq4.1).bind fun rq5 =>
  some (rq5.1,(()))
def V71 (p_0:Y2) (not_1:Y4) (x_2 y_3:Int):Z6:=xg5 p_0 not_1 x_2 y_3
def S_V71:Sig:=⟨(.pair Q0 (.pair Q6 Q9)),[0,0,0,0],[],.unit,I,.i,fun x=>V71 x.1 x.2.1 x.2.2.1 x.2.2.2.1⟩
def A_V71:Cfg:=mkCfg tab [(98,S_V61),(116,S_V60)] []
theorem run_V71 (N x):runF A_V71 N Tryz.f77 S_V71 x=V71 x.1 x.2.1 x.2.2.1 x.2.2.2.1:=by kernel_rfl
theorem ok_V71:OK 77 S_V71:=gdR (A:=A_V71) tc Tryz.func77 (jeq ⟨ok_V61,ok_V60,trivial⟩) (run_V71 big)
def wiz (rec k:T47) (a1:Int) (a2:Y2) (a5 a6:Y4) (a7 a8:Int):Z2 :=
  (V71 a2 a6 a7 a8).bind fun rq2 =>
  (V15 a2 rq2.1 a1).bind fun rq3 =>
  cond (!rq3.1)
  (rec a1 a2 a5 a6 a7 (IntKind.i64.wrap (a8+1)))
  (k a1 a2 a5 a6 a7 a8)
def we6 (rec:T50) (a1:Int) (a2:Y2) (a5 a6:Y4) (a7 a8:Int):Z2 :=
  (appI a5 [a8]).bind fun xq4 =>
  rec a1 a2 xq4 a6 (IntKind.i64.wrap (a7+1))
def we7 (L6:T47) (k:T21) (a1:Int) (a2:Y2) (a5 a6:Y4) (a7:Int):Z2 :=
  cond (decide (a7<(a2.1.length:Int)))
  (L6 a1 a2 a5 a6 a7 0)
  (k a5)
def zf (a5:Y4):Z2 :=
  some (a5,(()))
def w3y (L3:T50) (p_0:Y2) (x_1:Int):Z2 :=
  (V70 big p_0).bind fun rq1 =>
  L3 x_1 p_0 [] rq1.1 0
def wwa (N:Nat) (k:T47):=itN (fun r=>wiz r k) fun _ _ _ _ _ _=>none
def wix (N:Nat) (rec:T50) (k:T21):=wwa N (we6 rec) N
def wv9 (N:Nat) (k:T21):=itN (fun r=>we7 (wix N r k) k) fun _ _ _ _ _=>none
def wv8 (N:Nat):=wv9 N (zf) N
def V72 (N:Nat) (p_0:Y2) (x_1:Int):Z2:=w3y (wv8 N) p_0 x_1
def S_V72:Sig:=⟨(.pair Q0 Q17),[0,0],[],.unit,Q6,O4,fun x=>V72 big x.1 x.2.1⟩
def A_V72:Cfg:=mkCfg tab [(75,S_V70),(77,S_V71),(76,S_V15)] [(6,[D0,B0,B3,D0,D0,B1,B1,B0]),(12,[D0,B0,B3,D0,D0,B1,B1,B0,B0]),(19,(dr 5 [B1])),(17,[D0,B0,B3,D0,D0,B1,B1,B0,B0])]
noncomputable def wbr (N n:Nat) (K:T18) (a1:Int) (a2:Y2) (a5 a6:Y4) (a7:Int):Z2:=itr A_V72 N 6 Tryz.f33 [1,1,0,1,0,0] n ([.u,W0 a1,W3 a2,.u,.u,W1 a5,W1 a6,W0 a7]++us 27) K
noncomputable def wiy (N n:Nat) (K:T18) (a1:Int) (a2:Y2) (a5 a6:Y4) (a7 a8:Int):Z2:=itr A_V72 N 12 Tryz.f33 [1,1,0,1,0,0,1,0,0,1,0,0,0] n ([.u,W0 a1,W3 a2,.u,.u,W1 a5,W1 a6,W0 a7,W0 a8]++us 26) K
noncomputable def wsm:Ex→St→Z2:=finish A_V72 S_V72 Tryz.f33.results.toList
noncomputable def woo (kX:T7) (a5:Y4):Z2:=kX ((ud 5 [W1 a5])++us 29)
noncomputable def we5 (kX:T7) (kO:T5):=exK wsm 0 (A_V72.shape 19) kX kO
noncomputable def xbb (kX:T7) (a1:Int) (a2:Y2) (a5 a6:Y4) (a7 a8:Int):Z2:=kX ([.u,W0 a1,W3 a2,.u,.u,W1 a5,W1 a6,W0 a7,W0 a8]++us 26)
noncomputable def xba (kX:T7) (kO:T5):=exK wsm 2 (A_V72.shape 17) kX kO
theorem xbd (N kX kO):∀n,wiy N n (xba kX kO)=wwa N (xbb kX) n :=
 itE rfl fun m=>by kernel_rfl
noncomputable def won (N m:Nat) (kX:T7) (kO:T5):=(blockK 2 (sqK A_V72 N 17 500008 Tryz.f33 [1,1,0,1,0,0,1,0,0,1,1] (blockK 1 (sqK A_V72 N 9 500004 Tryz.f33 [1,1,0,1,0,0,1,1] (itK A_V72 N 6 Tryz.f33 [1,1,0,1,0,0] m (we5 kX kO))))))
noncomputable def xbf (N m:Nat) (kX:T7) (kO:T5) (st':St):Z2:=rn A_V72 N Tryz.f33 [1,1,0,1,0,0,1,0,0,1,1] st' (blockK 1 (sqK A_V72 N 9 500004 Tryz.f33 [1,1,0,1,0,0,1,1] (itK A_V72 N 6 Tryz.f33 [1,1,0,1,0,0] m (we5 kX kO))))
theorem xj1 (N m kX kO) {r}(h:wbr N m (we5 kX kO)=r):wiy N N (won N m kX kO)=wix N r (woo kX):=by
 rw[show wiy N N (won N m kX kO)=wiy N N (xba (xbf N m kX kO) fun j=>(won N m kX kO) (.exit j)) from(by funext _ _ _ _ _ _;exact jll),xbd,show xbb (xbf N m kX kO)=we6 (wbr N m (we5 kX kO)) by kernel_rfl,h];rfl
theorem xbc (N kX kO):∀n,wbr N n (we5 kX kO)=wv9 N (woo kX) n :=
 itE rfl fun m=>(show _=we7 (wiy N N (won N m kX kO)) (woo kX) by kernel_rfl).trans (by rw[xj1 N m kX kO rfl]<;>rfl)
noncomputable def wom (N:Nat):=(blockK 0 (sqK A_V72 N 19 500009 Tryz.f33 [1,1,1] wsm))
noncomputable def xbe (N:Nat) (st':St):Z2:=rn A_V72 N Tryz.f33 [1,1,1] st' wsm
theorem xj0 (N):wbr N N (wom N)=wv8 N:=by
 rw[show wbr N N (wom N)=wbr N N (we5 (xbe N) fun j=>(wom N) (.exit j)) from(by funext _ _ _ _ _;exact jll),xbc,show woo (xbe N)=zf by kernel_rfl];rfl
theorem run_V72 (N x):runF A_V72 N Tryz.f33 S_V72 x=V72 N x.1 x.2.1:=(show _=(w3y (wbr N N (wom N)) x.1 x.2.1) by kernel_rfl).trans (by rw[xj0 N];rfl)
theorem ok_V72:OK 33 S_V72:=gdR (A:=A_V72) tc Tryz.func33 (jeq ⟨ok_V70,ok_V71,ok_V15,trivial⟩) (run_V72 big)
def xg6 (p_0:Y2) (x_1:Int):Z8 :=
  (V68 p_0).bind fun rq1 =>
  cond (!rq1.1)
  (some (([],false,()),(())))
  ((V69 p_0 x_1).bind fun rq2 =>
  cond (!rq2.1)
  (some (([],false,()),(())))
  ((V72 big p_0 x_1).bind fun rq3 =>
  some ((rq3.1,true,()),(()))))
def V73 (p_0:Y2) (x_1:Int):Z8:=xg6 p_0 x_1
def S_V73:Sig:=⟨(.pair Q0 Q17),[0,0],[],.unit,(.tup (.pair Q6 Q12)),(.p O4 .i),fun x=>V73 x.1 x.2.1⟩
def A_V73:Cfg:=mkCfg tab [(31,S_V68),(32,S_V69),(33,S_V72)] []
theorem run_V73 (N x):runF A_V73 N Tryz.f7 S_V73 x=V73 x.1 x.2.1:=by kernel_rfl
theorem ok_V73:OK 7 S_V73:=gdR (A:=A_V73) tc Tryz.func7 (jeq ⟨ok_V68,ok_V69,ok_V72,trivial⟩) (run_V73 big)
def wi1 (rec:T17) (k:Z0) (a0 a1:Y4) (a5:Int):Z0 :=
  cond (decide (a5<(a0.length:Int)))
  ((atI a0 a5).bind fun xq1 =>
  (atI a1 a5).bind fun xq2 =>
  cond (decide (xq1≠xq2))
  (some (false,(())))
  (rec a0 a1 (IntKind.i64.wrap (a5+1))))
  (k)
def we8:Z0 :=
  some (true,(()))
def w3z (L4:T17) (a_0 b_1:Y4):Z0 :=
  cond (decide ((a_0.length:Int)≠(b_1.length:Int)))
  (some (false,(())))
  (L4 a_0 b_1 0)
def wwc (N:Nat) (k:Z0):=itN (fun r=>wi1 r k) fun _ _ _=>none
def wwb (N:Nat):=wwc N (we8) N
def V74 (N:Nat) (a_0 b_1:Y4):Z0:=w3z (wwb N) a_0 b_1
def S_V74:Sig:=⟨(.pair Q6 Q10),[0,0],[],.unit,.bool,.i,fun x=>V74 big x.1 x.2.1⟩
def A_V74:Cfg:=mkCfg tab [] [(8,([B4,B4]++dr 3 [B0])),(17,[])]
noncomputable def wi0 (N n:Nat) (K:T12) (a0 a1:Y4) (a5:Int):Z0:=itr A_V74 N 8 Tryz.f8 [1,1,0,1,0,0] n (([W4 a0,W4 a1]++ud 3 [W0 a5])++us 20) K
noncomputable def w30:Ex→St→Z0:=finish A_V74 S_V74 Tryz.f8.results.toList
noncomputable def xbh (kX:T3):Z0:=kX ([]++us 26)
noncomputable def xbg (kX:T3) (kO:T2):=exK w30 0 (A_V74.shape 17) kX kO
theorem xbi (N kX kO):∀n,wi0 N n (xbg kX kO)=wwc N (xbh kX) n :=
 itE rfl fun m=>by kernel_rfl
noncomputable def wop (N:Nat):=(blockK 0 (sqK A_V74 N 17 500008 Tryz.f8 [1,1,1] w30))
noncomputable def xbj (N:Nat) (st':St):Z0:=rn A_V74 N Tryz.f8 [1,1,1] st' w30
theorem xj2 (N):wi0 N N (wop N)=wwb N:=by
 rw[show wi0 N N (wop N)=wi0 N N (xbg (xbj N) fun j=>(wop N) (.exit j)) from(by funext _ _ _;exact jll),xbi,show xbh (xbj N)=we8 by kernel_rfl];rfl
theorem run_V74 (N x):runF A_V74 N Tryz.f8 S_V74 x=V74 N x.1 x.2.1:=(show _=(w3z (wi0 N N (wop N)) x.1 x.2.1) by kernel_rfl).trans (by rw[xj2 N];rfl)
theorem ok_V74:OK 8 S_V74:=gdR (A:=A_V74) tc Tryz.func8 (jeq trivial) (run_V74 big)
def wi3 (rec:T38) (k:Z0) (a1 a12:Y4) (a13 a14:Int):Z0 :=
  cond (decide (a14<a13))
  ((atI a12 a14).bind fun xq1 =>
  (atI a1 a14).bind fun xq2 =>
  cond (decide (xq2≠xq1))
  (some (false,(())))
  (rec a1 a12 a13 (IntKind.i64.wrap (a14+1))))
  (k)
def we9:Z0 :=
  some (true,(()))
def w31 (L4:T38) (a_0 b_1:Y4):Z0 :=
  cond (decide ((a_0.length:Int)≠(b_1.length:Int)))
  (some (false,(())))
  (L4 b_1 a_0 (a_0.length:Int) 0)
def wwe (N:Nat) (k:Z0):=itN (fun r=>wi3 r k) fun _ _ _ _=>none
def wwd (N:Nat):=wwe N (we9) N
def V75 (N:Nat) (a_0 b_1:Y4):Z0:=w31 (wwd N) a_0 b_1
def S_V75:Sig:=⟨(.pair Q6 Q10),[0,0],[],.unit,.bool,.i,fun x=>V75 big x.1 x.2.1⟩
def A_V75:Cfg:=mkCfg tab [] [(8,([D0,B4]++dr 10 [B4,B0,B0])),(19,[])]
noncomputable def wi2 (N n:Nat) (K:T12) (a1 a12:Y4) (a13 a14:Int):Z0:=itr A_V75 N 8 Tryz.f34 [1,1,0,1,0,0] n (([.u,W4 a1]++ud 10 [W4 a12,W0 a13,W0 a14])++us 11) K
noncomputable def w32:Ex→St→Z0:=finish A_V75 S_V75 Tryz.f34.results.toList
noncomputable def xbl (kX:T3):Z0:=kX ([]++us 26)
noncomputable def xbk (kX:T3) (kO:T2):=exK w32 0 (A_V75.shape 19) kX kO
theorem xbm (N kX kO):∀n,wi2 N n (xbk kX kO)=wwe N (xbl kX) n :=
 itE rfl fun m=>by kernel_rfl
noncomputable def woq (N:Nat):=(blockK 0 (sqK A_V75 N 19 500009 Tryz.f34 [1,1,1] w32))
noncomputable def xbn (N:Nat) (st':St):Z0:=rn A_V75 N Tryz.f34 [1,1,1] st' w32
theorem xj3 (N):wi2 N N (woq N)=wwd N:=by
 rw[show wi2 N N (woq N)=wi2 N N (xbk (xbn N) fun j=>(woq N) (.exit j)) from(by funext _ _ _ _;exact jll),xbm,show xbl (xbn N)=we9 by kernel_rfl];rfl
theorem run_V75 (N x):runF A_V75 N Tryz.f34 S_V75 x=V75 N x.1 x.2.1:=(show _=(w31 (wi2 N N (woq N)) x.1 x.2.1) by kernel_rfl).trans (by rw[xj3 N];rfl)
theorem ok_V75:OK 34 S_V75:=gdR (A:=A_V75) tc Tryz.func34 (jeq trivial) (run_V75 big)
def x6 (rec:T98) (k:Z12) (a1:Y4) (a6:Y1) (a20 a21:Int):Z12 :=
  cond (decide (a21<a20))
  ((V52 a6 a21).bind fun rq3 =>
  (V75 big rq3.1 a1).bind fun rq4 =>
  cond rq4.1
  (some ((a21,true,()),(())))
  (rec a1 a6 a20 (IntKind.i64.wrap (a21+1))))
  (k)
def wfa:Z12 :=
  some ((0,false,()),(()))
def wsn (L5:T98) (p_0:Y2) (partition_1:Y4):Z12 :=
  (V48 p_0).bind fun rq1 =>
  cond (!rq1.1.2.1)
  (some ((0,false,()),(())))
  ((rq1.1.1).bind fun xq2 =>
  L5 partition_1 rq1.1.1 (xq2.1.length:Int) 0)
def wwh (N:Nat) (k:Z12):=itN (fun r=>x6 r k) fun _ _ _ _=>none
def wwf (N:Nat):=wwh N (wfa) N
def V76 (N:Nat) (p_0:Y2) (partition_1:Y4):Z12:=wsn (wwf N) p_0 partition_1
def S_V76:Sig:=⟨(.pair Q0 Q10),[0,0],[],.unit,(.tup (.pair I Q12)),.i,fun x=>V76 big x.1 x.2.1⟩
def A_V76:Cfg:=mkCfg tab [(28,S_V48),(30,S_V52),(34,S_V75)] [(10,([D0,B4]++dr 4 ([.as Q3 .i]++dr 13 [B0,B0]))),(21,[])]
noncomputable def wi4 (N n:Nat) (K:Ex→St→Z12) (a1:Y4) (a6:Y1) (a20 a21:Int):Z12:=itr A_V76 N 10 Tryz.f9 [1,1,1,0,1,0,0] n (([.u,W4 a1]++ud 4 ([.val Q3 .i a6]++ud 13 [W0 a20,W0 a21]))++us 9) K
noncomputable def w33:Ex→St→Z12:=finish A_V76 S_V76 Tryz.f9.results.toList
noncomputable def xbp (kX:St→Z12):Z12:=kX ([]++us 31)
noncomputable def xbo (kX:St→Z12) (kO:Nat→St→Z12):=exK w33 0 (A_V76.shape 21) kX kO
theorem xbq (N kX kO):∀n,wi4 N n (xbo kX kO)=wwh N (xbp kX) n :=
 itE rfl fun m=>by kernel_rfl
noncomputable def wor (N:Nat):=(blockK 0 (sqK A_V76 N 21 500010 Tryz.f9 [1,1,1,1] w33))
noncomputable def xbr (N:Nat) (st':St):Z12:=rn A_V76 N Tryz.f9 [1,1,1,1] st' w33
theorem xj4 (N):wi4 N N (wor N)=wwf N:=by
 rw[show wi4 N N (wor N)=wi4 N N (xbo (xbr N) fun j=>(wor N) (.exit j)) from(by funext _ _ _ _;exact jll),xbq,show xbp (xbr N)=wfa by kernel_rfl];rfl
theorem run_V76 (N x):runF A_V76 N Tryz.f9 S_V76 x=V76 N x.1 x.2.1:=(show _=(wsn (wi4 N N (wor N)) x.1 x.2.1) by kernel_rfl).trans (by rw[xj4 N];rfl)
theorem ok_V76:OK 9 S_V76:=gdR (A:=A_V76) tc Tryz.func9 (jeq ⟨ok_V48,ok_V52,ok_V75,trivial⟩) (run_V76 big)
def wi6 (rec:Y6→Y6→Y3→Int→Int→Option (Y6×Unit)) (k:Y6→Y6→Option (Y6×Unit)) (a2 a3:Y6) (a7:Y3) (a8 a9:Int):Option (Y6×Unit) :=
  cond (decide (a9<a8))
  ((atI a7 a9).bind fun xq1 =>
  (appI a3.2.1 xq1).bind fun xq2 =>
  rec a2 ((a3.1,((),a3.2.2)).1,(xq2,((a3.1,((),a3.2.2)).2).2)) a7 a8 (IntKind.i64.wrap (a9+1)))
  (k a2 a3)
def wfb (a2 a3:Y6):Option (Y6×Unit) :=
  some (a3,(()))
def w34 (L3:Y6→Y6→Y3→Int→Int→Option (Y6×Unit)) (table_0:Y3):Option (Y6×Unit) :=
  L3 (0,(([]:Y4),())) (2,(([]:Y4),())) table_0 (table_0.length:Int) 0
def wwj (N:Nat) (k:Y6→Y6→Option (Y6×Unit)):=itN (fun r=>wi6 r k) fun _ _ _ _ _=>none
def wwi (N:Nat):=wwj N (wfb) N
def V77 (N:Nat) (table_0:Y3):Option (Y6×Unit):=w34 (wwi N) table_0
def S_V77:Sig:=⟨Q0,[0],[],.unit,Q14,(.p .i (.p O4 .i)),fun x=>V77 big x.1⟩
def A_V77:Cfg:=mkCfg tab [] [(6,([D0,D0,.as (.ptr Q14) O18,.as (.ptr Q14) O18]++dr 3 [.as Q13 .i,B0,B0])),(15,[D0,D0,.as (.ptr Q14) O18,.as (.ptr Q14) O18])]
noncomputable def wi5 (N n:Nat) (K:Ex→St→Option (Y6×Unit)) (a2 a3:Y6) (a7:Y3) (a8 a9:Int):Option (Y6×Unit):=itr A_V77 N 6 Tryz.f78 [1,1,0,1,0,0] n (([.u,.u,.val (.ptr Q14) O18 a2,.val (.ptr Q14) O18 a3]++ud 3 [.val Q13 .i a7,W0 a8,W0 a9])++us 10) K
noncomputable def w35:Ex→St→Option (Y6×Unit):=finish A_V77 S_V77 Tryz.f78.results.toList
noncomputable def xbt (kX:St→Option (Y6×Unit)) (a2 a3:Y6):Option (Y6×Unit):=kX ([.u,.u,.val (.ptr Q14) O18 a2,.val (.ptr Q14) O18 a3]++us 16)
noncomputable def xbs (kX:St→Option (Y6×Unit)) (kO:Nat→St→Option (Y6×Unit)):Ex→St→Option (Y6×Unit):=exK w35 0 (A_V77.shape 15) kX kO
theorem xbu (N kX kO):∀n,wi5 N n (xbs kX kO)=wwj N (xbt kX) n :=
 itE rfl fun m=>by kernel_rfl
noncomputable def wos (N:Nat):Ex→St→Option (Y6×Unit):=(blockK 0 (sqK A_V77 N 15 500007 Tryz.f78 [1,1,1] w35))
noncomputable def xbv (N:Nat) (st':St):Option (Y6×Unit):=rn A_V77 N Tryz.f78 [1,1,1] st' w35
theorem xj5 (N):wi5 N N (wos N)=wwi N:=by
 rw[show wi5 N N (wos N)=wi5 N N (xbs (xbv N) fun j=>(wos N) (.exit j)) from(by funext _ _ _ _ _;exact jll),xbu,show xbt (xbv N)=wfb by kernel_rfl];rfl
theorem run_V77 (N x):runF A_V77 N Tryz.f78 S_V77 x=V77 N x.1:=(show _=(w34 (wi5 N N (wos N)) x.1) by kernel_rfl).trans (by rw[xj5 N];rfl)
theorem ok_V77:OK 78 S_V77:=gdR (A:=A_V77) tc Tryz.func78 (jeq trivial) (run_V77 big)
def xg7 (l_0:Y1):Option (Y7×Unit) :=
  (l_0).bind fun xq1 =>
  (l_0).bind fun xq2 =>
  (V77 big xq2.2.1).bind fun rq3 =>
  (l_0).bind fun xq4 =>
  (V77 big xq4.2.2.1).bind fun rq5 =>
  some (((xq1.1.length:Int),([rq3.1,rq5.1],())),(()))
def V78 (l_0:Y1):Option (Y7×Unit):=xg7 l_0
def S_V78:Sig:=⟨(.pair Q3 .unit),[0],[],.unit,Q5,(.p .i (.p O18 .i)),fun x=>V78 x.1⟩
def A_V78:Cfg:=mkCfg tab [(78,S_V77)] []
theorem run_V78 (N x):runF A_V78 N Tryz.f35 S_V78 x=V78 x.1:=by kernel_rfl
theorem ok_V78:OK 35 S_V78:=gdR (A:=A_V78) tc Tryz.func35 (jeq ⟨ok_V77,trivial⟩) (run_V78 big)
def xg8 (p_0:Y2):Option ((Y7×(Bool×Unit))×Unit) :=
  (V48 p_0).bind fun rq1 =>
  cond (!rq1.1.2.1)
  (some (((0,(([]:(List Y6)),())),false,()),(())))
  ((V78 rq1.1.1).bind fun rq2 =>
  (V50 big rq1.1.1).bind fun rq3 =>
  (appI rq2.1.2.1 [(1,(rq3.1,()))]).bind fun xq4 =>
  some ((((rq2.1.1,((),rq2.1.2.2)).1,(xq4,((rq2.1.1,((),rq2.1.2.2)).2).2)),true,()),(())))
def V79 (p_0:Y2):Option ((Y7×(Bool×Unit))×Unit):=xg8 p_0
def S_V79:Sig:=⟨Q15,[0],[],.unit,(.tup (.pair Q5 Q12)),(.p (.p .i (.p O18 .i)) .i),fun x=>V79 x.1⟩
def A_V79:Cfg:=mkCfg tab [(28,S_V48),(35,S_V78),(36,S_V50)] []
theorem run_V79 (N x):runF A_V79 N Tryz.f10 S_V79 x=V79 x.1:=by kernel_rfl
theorem ok_V79:OK 10 S_V79:=gdR (A:=A_V79) tc Tryz.func10 (jeq ⟨ok_V48,ok_V78,ok_V50,trivial⟩) (run_V79 big)
def wwl (rec:T101) (k:T120) (a0 a1 a5:Int):Z6 :=
  cond (decide (0<a1))
  (rec a0 (IntKind.i64.wrap (a1-1)) (IntKind.i64.wrap (a5*a0)))
  (k a5)
def wi8 (a5:Int):Z6 :=
  some (a5,(()))
def w36 (L2:T101) (n_0 k_1:Int):Z6 :=
  L2 n_0 k_1 1
def wwm (N:Nat) (k:T120):=itN (fun r=>wwl r k) fun _ _ _=>none
def wwk (N:Nat):=wwm N (wi8) N
def V80 (N:Nat) (n_0 k_1:Int):Z6:=w36 (wwk N) n_0 k_1
def S_V80:Sig:=⟨Q9,[0,0],[],.unit,I,.i,fun x=>V80 big x.1 x.2.1⟩
def A_V80:Cfg:=mkCfg tab [] [(4,([B0,B0]++dr 3 [B0])),(11,(dr 5 [B0]))]
noncomputable def wi7 (N n:Nat) (K:T83) (a0 a1 a5:Int):Z6:=itr A_V80 N 4 Tryz.f118 [1,1,0,0,0] n (([W0 a0,W0 a1]++ud 3 [W0 a5])++us 8) K
noncomputable def w37:Ex→St→Z6:=finish A_V80 S_V80 Tryz.f118.results.toList
noncomputable def xbx (kX:T55) (a5:Int):Z6:=kX ((ud 5 [W0 a5])++us 8)
noncomputable def xbw (kX:T55) (kO:T45):=exK w37 0 (A_V80.shape 11) kX kO
theorem xby (N kX kO):∀n,wi7 N n (xbw kX kO)=wwm N (xbx kX) n :=
 itE rfl fun m=>by kernel_rfl
noncomputable def wou (N:Nat):=(blockK 0 (sqK A_V80 N 11 500005 Tryz.f118 [1,1,1] w37))
noncomputable def xbz (N:Nat) (st':St):Z6:=rn A_V80 N Tryz.f118 [1,1,1] st' w37
theorem xj6 (N):wi7 N N (wou N)=wwk N:=by
 rw[show wi7 N N (wou N)=wi7 N N (xbw (xbz N) fun j=>(wou N) (.exit j)) from(by funext _ _ _;exact jll),xby,show xbx (xbz N)=wi8 by kernel_rfl];rfl
theorem run_V80 (N x):runF A_V80 N Tryz.f118 S_V80 x=V80 N x.1 x.2.1:=(show _=(w36 (wi7 N N (wou N)) x.1 x.2.1) by kernel_rfl).trans (by rw[xj6 N];rfl)
theorem ok_V80:OK 118 S_V80:=gdR (A:=A_V80) tc Tryz.func118 (jeq trivial) (run_V80 big)
def xhc (f_0:Y6) (n_1:Int):Z0 :=
  cond (decide (0≤f_0.1))
  (cond (decide (f_0.1≤3))
  ((V80 big n_1 f_0.1).bind fun rq1 =>
  cond (decide ((f_0.2.1.length:Int)=rq1.1))
  ((V27 big f_0.2.1 n_1).bind fun rq2 =>
  some (rq2.1,(())))
  (some (false,(()))))
  (some (false,(()))))
  (some (false,(())))
def V81 (f_0:Y6) (n_1:Int):Z0:=xhc f_0 n_1
def S_V81:Sig:=⟨(.pair Q14 Q17),[0,0],[],.unit,.bool,.i,fun x=>V81 x.1 x.2.1⟩
def A_V81:Cfg:=mkCfg tab [(118,S_V80),(70,S_V27)] []
theorem run_V81 (N x):runF A_V81 N Tryz.f80 S_V81 x=V81 x.1 x.2.1:=by kernel_rfl
theorem ok_V81:OK 80 S_V81:=gdR (A:=A_V81) tc Tryz.func80 (jeq ⟨ok_V80,ok_V27,trivial⟩) (run_V81 big)
def wja (rec:T87) (k:Z0) (a1:Y7) (a20:(List Y6)) (a21 a22:Int):Z0 :=
  cond (decide (a22<a21))
  ((atI a20 a22).bind fun xq1 =>
  (V81 xq1 a1.1).bind fun rq2 =>
  cond (!rq2.1)
  (some (false,(())))
  (rec a1 a20 a21 (IntKind.i64.wrap (a22+1))))
  (k)
def wfc:Z0 :=
  some (true,(()))
def w38 (L4:T87) (a_0:Y7):Z0 :=
  cond (decide (a_0.1<1))
  (some (false,(())))
  (cond (decide (8<a_0.1))
  (some (false,(())))
  (cond (decide (4<(a_0.2.1.length:Int)))
  (some (false,(())))
  (L4 a_0 a_0.2.1 (a_0.2.1.length:Int) 0)))
def wwo (N:Nat) (k:Z0):=itN (fun r=>wja r k) fun _ _ _ _=>none
def wwn (N:Nat):=wwo N (wfc) N
def V82 (N:Nat) (a_0:Y7):Z0:=w38 (wwn N) a_0
def S_V82:Sig:=⟨(.pair Q5 .unit),[0],[],.unit,.bool,.i,fun x=>V82 big x.1⟩
def A_V82:Cfg:=mkCfg tab [(80,S_V81)] [(8,([D0,.as Q23 O4]++dr 18 [.as (.sl Q14) .i,B0,B0])),(19,[])]
noncomputable def wi9 (N n:Nat) (K:T12) (a1:Y7) (a20:(List Y6)) (a21 a22:Int):Z0:=itr A_V82 N 8 Tryz.f37 [1,1,0,1,0,0] n (([.u,.val Q23 O4 a1]++ud 18 [.val (.sl Q14) .i a20,W0 a21,W0 a22])++us 9) K
noncomputable def w39:Ex→St→Z0:=finish A_V82 S_V82 Tryz.f37.results.toList
noncomputable def xb1 (kX:T3):Z0:=kX ([]++us 32)
noncomputable def xb0 (kX:T3) (kO:T2):=exK w39 0 (A_V82.shape 19) kX kO
theorem xb2 (N kX kO):∀n,wi9 N n (xb0 kX kO)=wwo N (xb1 kX) n :=
 itE rfl fun m=>by kernel_rfl
noncomputable def wov (N:Nat):=(blockK 0 (sqK A_V82 N 19 500009 Tryz.f37 [1,1,1] w39))
noncomputable def xb3 (N:Nat) (st':St):Z0:=rn A_V82 N Tryz.f37 [1,1,1] st' w39
theorem xj7 (N):wi9 N N (wov N)=wwn N:=by
 rw[show wi9 N N (wov N)=wi9 N N (xb0 (xb3 N) fun j=>(wov N) (.exit j)) from(by funext _ _ _ _;exact jll),xb2,show xb1 (xb3 N)=wfc by kernel_rfl];rfl
theorem run_V82 (N x):runF A_V82 N Tryz.f37 S_V82 x=V82 N x.1:=(show _=(w38 (wi9 N N (wov N)) x.1) by kernel_rfl).trans (by rw[xj7 N];rfl)
theorem ok_V82:OK 37 S_V82:=gdR (A:=A_V82) tc Tryz.func37 (jeq ⟨ok_V81,trivial⟩) (run_V82 big)
def wjc (rec:T38) (k:Z0) (a1 a11:Y4) (a12 a13:Int):Z0 :=
  cond (decide (a13<a12))
  ((atI a11 a13).bind fun xq1 =>
  cond (decide (xq1<0))
  (some (false,(())))
  (cond (decide (a13<xq1))
  (some (false,(())))
  ((atI a1 xq1).bind fun xq2 =>
  cond (decide (xq2≠xq1))
  (some (false,(())))
  (rec a1 a11 a12 (IntKind.i64.wrap (a13+1))))))
  (k)
def wfd:Z0 :=
  some (true,(()))
def w4a (L4:T38) (n_0:Int) (p_1:Y4):Z0 :=
  cond (decide ((p_1.length:Int)≠n_0))
  (some (false,(())))
  (L4 p_1 p_1 (p_1.length:Int) 0)
def wwq (N:Nat) (k:Z0):=itN (fun r=>wjc r k) fun _ _ _ _=>none
def wwp (N:Nat):=wwq N (wfd) N
def V83 (N:Nat) (n_0:Int) (p_1:Y4):Z0:=w4a (wwp N) n_0 p_1
def S_V83:Sig:=⟨Q14,[0,0],[],.unit,.bool,.i,fun x=>V83 big x.1 x.2.1⟩
def A_V83:Cfg:=mkCfg tab [] [(8,([D0,B4]++dr 9 [B4,B0,B0])),(19,[])]
noncomputable def wjb (N n:Nat) (K:T12) (a1 a11:Y4) (a12 a13:Int):Z0:=itr A_V83 N 8 Tryz.f81 [1,1,0,1,0,0] n (([.u,W4 a1]++ud 9 [W4 a11,W0 a12,W0 a13])++us 20) K
noncomputable def w4b:Ex→St→Z0:=finish A_V83 S_V83 Tryz.f81.results.toList
noncomputable def xb5 (kX:T3):Z0:=kX ([]++us 34)
noncomputable def xb4 (kX:T3) (kO:T2):=exK w4b 0 (A_V83.shape 19) kX kO
theorem xb6 (N kX kO):∀n,wjb N n (xb4 kX kO)=wwq N (xb5 kX) n :=
 itE rfl fun m=>by kernel_rfl
noncomputable def wow (N:Nat):=(blockK 0 (sqK A_V83 N 19 500009 Tryz.f81 [1,1,1] w4b))
noncomputable def xb7 (N:Nat) (st':St):Z0:=rn A_V83 N Tryz.f81 [1,1,1] st' w4b
theorem xj8 (N):wjb N N (wow N)=wwp N:=by
 rw[show wjb N N (wow N)=wjb N N (xb4 (xb7 N) fun j=>(wow N) (.exit j)) from(by funext _ _ _ _;exact jll),xb6,show xb5 (xb7 N)=wfd by kernel_rfl];rfl
theorem run_V83 (N x):runF A_V83 N Tryz.f81 S_V83 x=V83 N x.1 x.2.1:=(show _=(w4a (wjb N N (wow N)) x.1 x.2.1) by kernel_rfl).trans (by rw[xj8 N];rfl)
theorem ok_V83:OK 81 S_V83:=gdR (A:=A_V83) tc Tryz.func81 (jeq trivial) (run_V83 big)
def w4c (list_0:Y4):Z2 :=
  (appI [] list_0).bind fun xq1 =>
  some (xq1,(()))
def V84 (list_0:Y4):Z2:=w4c list_0
def S_V84:Sig:=⟨Q10,[0],[],.unit,Q6,O4,fun x=>V84 x.1⟩
def A_V84:Cfg:=mkCfg tab [] []
theorem run_V84 (N x):runF A_V84 N Tryz.f83 S_V84 x=V84 x.1:=by kernel_rfl
theorem ok_V84:OK 83 S_V84:=gdR (A:=A_V84) tc Tryz.func83 (jeq trivial) (run_V84 big)
def wje (rec:T79) (k:Y4→Z7) (a0:Y4) (a1 a2 a25 a26:Int):Z7 :=
  cond (decide (a26<a25))
  ((atI a0 a26).bind fun _ =>
  (a0[a26.toNat]?).bind fun xq3 =>
  cond (decide (xq3=a2))
  ((atI a0 a26).bind fun _ =>
  (a0[a26.toNat]?).bind fun xq4 =>
  rec (a0.set a26.toNat a1) a1 a2 a25 (IntKind.i64.wrap (a26+1)))
  (rec a0 a1 a2 a25 (IntKind.i64.wrap (a26+1))))
  (k a0)
def wfe (a0:Y4):Z7 :=
  some (true,(a0,()))
def w4d (L7:T79) (p_0:Y4) (x_1 y_2:Int):Z7 :=
  (atI p_0 x_1).bind fun _ =>
  (p_0[x_1.toNat]?).bind fun xq1 =>
  (atI p_0 y_2).bind fun _ =>
  (p_0[y_2.toNat]?).bind fun xq2 =>
  cond (decide (xq1=xq2))
  (some (false,(p_0,())))
  (cond (decide (xq2<xq1))
  (L7 p_0 xq2 xq1 (p_0.length:Int) 0)
  (L7 p_0 xq1 xq2 (p_0.length:Int) 0))
def wwr (N:Nat) (k:Y4→Z7):=itN (fun r=>wje r k) fun _ _ _ _ _=>none
def wox (N:Nat):=wwr N (wfe) N
def V85 (N:Nat) (p_0:Y4) (x_1 y_2:Int):Z7:=w4d (wox N) p_0 x_1 y_2
def S_V85:Sig:=⟨(.pair Q6 Q9),[1,0,0],[O4],Q10,.bool,.i,fun x=>V85 big x.1 x.2.1 x.2.2.1⟩
def A_V85:Cfg:=mkCfg tab [] [(14,([B1,B0,B0]++dr 22 [B0,B0])),(25,[B1])]
noncomputable def wjd (N n:Nat) (K:Ex→St→Z7) (a0:Y4) (a1 a2 a25 a26:Int):Z7:=itr A_V85 N 14 Tryz.f119 [1,1,1,1,0,1,0,0] n (([W1 a0,W0 a1,W0 a2]++ud 22 [W0 a25,W0 a26])++us 13) K
noncomputable def w4e:Ex→St→Z7:=finish A_V85 S_V85 Tryz.f119.results.toList
noncomputable def xb9 (kX:T93) (a0:Y4):Z7:=kX ([W1 a0]++us 39)
noncomputable def xb8 (kX:T93) (kO:T71):=exK w4e 0 (A_V85.shape 25) kX kO
theorem xca (N kX kO):∀n,wjd N n (xb8 kX kO)=wwr N (xb9 kX) n :=
 itE rfl fun m=>by kernel_rfl
noncomputable def woy (N:Nat):=(blockK 0 (sqK A_V85 N 25 500012 Tryz.f119 [1,1,1,1,1] w4e))
noncomputable def xcb (N:Nat) (st':St):Z7:=rn A_V85 N Tryz.f119 [1,1,1,1,1] st' w4e
theorem xj9 (N):wjd N N (woy N)=wox N:=by
 rw[show wjd N N (woy N)=wjd N N (xb8 (xcb N) fun j=>(woy N) (.exit j)) from(by funext _ _ _ _ _;exact jll),xca,show xb9 (xcb N)=wfe by kernel_rfl];rfl
theorem run_V85 (N x):runF A_V85 N Tryz.f119 S_V85 x=V85 N x.1 x.2.1 x.2.2.1:=(show _=(w4d (wjd N N (woy N)) x.1 x.2.1 x.2.2.1) by kernel_rfl).trans (by rw[xj9 N];rfl)
theorem ok_V85:OK 119 S_V85:=gdR (A:=A_V85) tc Tryz.func119 (jeq trivial) (run_V85 big)
def xf (rec:T9) (k:T0) (a1:Y4) (a2:Y7) (a5 a6:Bool) (a8:Y6) (a9 a10:Int) (a16:(List Y6)) (a17 a18:Int) (a29:Y4) (a30 a31:Int):Z7 :=
  cond (decide (a31<a30))
  ((atI a29 a31).bind fun xq2 =>
  (quoI IntKind.i64 a31 a9).bind fun xq3 =>
  (remI xq3 a2.1).bind fun xq4 =>
  (atI a1 xq4).bind fun _ =>
  (a1[xq4.toNat]?).bind fun xq5 =>
  (atI a8.2.1 (IntKind.i64.wrap (a31+(IntKind.i64.wrap ((IntKind.i64.wrap (xq5-xq4))*a9))))).bind fun xq6 =>
  (V85 big a1 xq2 xq6).bind fun rq7 =>
  cond rq7.1
  (rec rq7.2.1 a2 true true a8 a9 a10 a16 a17 a18 a29 a30 (IntKind.i64.wrap (a31+1)))
  (rec rq7.2.1 a2 a5 a6 a8 a9 a10 a16 a17 a18 a29 a30 (IntKind.i64.wrap (a31+1))))
  (k a1 a2 a5 a6 a8 a9 a10 a16 a17 a18)
def xu (rec:T0) (a1:Y4) (a2:Y7) (a5 a6:Bool) (a8:Y6) (a9 a10:Int) (a16:(List Y6)) (a17 a18:Int):Z7 :=
  rec a1 a2 a5 a6 a8 (IntKind.i64.wrap (a9*a2.1)) (IntKind.i64.wrap (a10+1)) a16 a17 a18
def w5 (L13:T9) (k:T1) (a1:Y4) (a2:Y7) (a5 a6:Bool) (a8:Y6) (a9 a10:Int) (a16:(List Y6)) (a17 a18:Int):Z7 :=
  cond (decide (a10<a8.1))
  (L13 a1 a2 a5 a6 a8 a9 a10 a16 a17 a18 a8.2.1 (a8.2.1.length:Int) 0)
  (k a1 a2 a5 a6 a16 a17 a18)
def wz (rec:T1) (a1:Y4) (a2:Y7) (a5 a6:Bool) (a16:(List Y6)) (a17 a18:Int):Z7 :=
  rec a1 a2 a5 a6 a16 a17 (IntKind.i64.wrap (a18+1))
def zg (L10:T0) (k:T28) (a1:Y4) (a2:Y7) (a5 a6:Bool) (a16:(List Y6)) (a17 a18:Int):Z7 :=
  cond (decide (a18<a17))
  ((atI a16 a18).bind fun xq1 =>
  L10 a1 a2 a5 a6 xq1 1 0 a16 a17 a18)
  (k a1 a2 a5 a6)
def x7 (rec:T28) (a1:Y4) (a2:Y7) (a5 a6:Bool):Z7 :=
  rec a1 a2 a5 a6
def wjg (L6:T1) (k:Y4→Bool→Z7) (a1:Y4) (a2:Y7) (a5 a6:Bool):Z7 :=
  cond a6
  (L6 a1 a2 a5 false a2.2.1 (a2.2.1.length:Int) 0)
  (k a1 a5)
def wjf (a1:Y4) (a5:Bool):Z7 :=
  some (a5,(a1,()))
def wsr (L3:T28) (a_0:Y7) (p_1:Y4):Z7 :=
  L3 p_1 a_0 false true
def wrg (N:Nat) (k:T0):=itN (fun r=>xf r k) fun _ _ _ _ _ _ _ _ _ _ _ _ _=>none
def wfi (N:Nat) (rec:T0) (k:T1):=wrg N (xu rec) N
def wrf (N:Nat) (k:T1):=itN (fun r=>w5 (wfi N r k) k) fun _ _ _ _ _ _ _ _ _ _=>none
def wfh (N:Nat) (rec:T1) (k:T28):=wrf N (wz rec) N
def wwu (N:Nat) (k:T28):=itN (fun r=>zg (wfh N r k) k) fun _ _ _ _ _ _ _=>none
def woz (N:Nat) (rec:T28) (k:Y4→Bool→Z7):=wwu N (x7 rec) N
def wwt (N:Nat) (k:Y4→Bool→Z7):=itN (fun r=>wjg (woz N r k) k) fun _ _ _ _=>none
def wws (N:Nat):=wwt N (wjf) N
def V86 (N:Nat) (a_0:Y7) (p_1:Y4):Z7:=wsr (wws N) a_0 p_1
def S_V86:Sig:=⟨(.pair Q5 Q10),[0,1],[O4],Q10,.bool,.i,fun x=>V86 big x.1 x.2.1⟩
def A_V86:Cfg:=mkCfg tab [(119,S_V85)] [(6,[D0,B1,.as Q23 O4,D0,D0,B5,B5]),(12,([D0,B1,.as Q23 O4,D0,D0,B5,B5]++dr 9 [.as (.sl Q14) .i,B0,B0])),(43,([D0,B1]++dr 3 [B5])),(20,([D0,B1,.as Q23 O4,D0,D0,B5,B5,D0,.as (.ptr Q14) O4,B0,B0]++dr 5 [.as (.sl Q14) .i,B0,B0])),(26,([D0,B1,.as Q23 O4,D0,D0,B5,B5,D0,.as (.ptr Q14) O4,B0,B0]++dr 5 ([.as (.sl Q14) .i,B0,B0]++dr 10 [B4,B0,B0]))),(41,([D0,B1,.as Q23 O4,D0,D0,B5,B5]++dr 9 [.as (.sl Q14) .i,B0,B0])),(39,([D0,B1,.as Q23 O4,D0,D0,B5,B5,D0,.as (.ptr Q14) O4,B0,B0]++dr 5 [.as (.sl Q14) .i,B0,B0]))]
noncomputable def wbs (N n:Nat) (K:Ex→St→Z7) (a1:Y4) (a2:Y7) (a5 a6:Bool):Z7:=itr A_V86 N 6 Tryz.f82 [1,1,0,1,0,0] n ([.u,W1 a1,.val Q23 O4 a2,.u,.u,W5 a5,W5 a6]++us 59) K
noncomputable def wbt (N n:Nat) (K:Ex→St→Z7) (a1:Y4) (a2:Y7) (a5 a6:Bool) (a16:(List Y6)) (a17 a18:Int):Z7:=itr A_V86 N 12 Tryz.f82 [1,1,0,1,0,0,1,0,1,1,0,0] n (([.u,W1 a1,.val Q23 O4 a2,.u,.u,W5 a5,W5 a6]++ud 9 [.val (.sl Q14) .i a16,W0 a17,W0 a18])++us 47) K
noncomputable def yn (N n:Nat) (K:Ex→St→Z7) (a1:Y4) (a2:Y7) (a5 a6:Bool) (a8:Y6) (a9 a10:Int) (a16:(List Y6)) (a17 a18:Int):Z7:=itr A_V86 N 20 Tryz.f82 [1,1,0,1,0,0,1,0,1,1,0,0,1,1,0,0,1,1,1,0,0] n (([.u,W1 a1,.val Q23 O4 a2,.u,.u,W5 a5,W5 a6,.u,.val (.ptr Q14) O4 a8,W0 a9,W0 a10]++ud 5 [.val (.sl Q14) .i a16,W0 a17,W0 a18])++us 47) K
noncomputable def wfj (N n:Nat) (K:Ex→St→Z7) (a1:Y4) (a2:Y7) (a5 a6:Bool) (a8:Y6) (a9 a10:Int) (a16:(List Y6)) (a17 a18:Int) (a29:Y4) (a30 a31:Int):Z7:=itr A_V86 N 26 Tryz.f82 [1,1,0,1,0,0,1,0,1,1,0,0,1,1,0,0,1,1,1,0,0,1,0,0,0,1,0,0] n (([.u,W1 a1,.val Q23 O4 a2,.u,.u,W5 a5,W5 a6,.u,.val (.ptr Q14) O4 a8,W0 a9,W0 a10]++ud 5 ([.val (.sl Q14) .i a16,W0 a17,W0 a18]++ud 10 [W4 a29,W0 a30,W0 a31]))++us 34) K
noncomputable def wlc:Ex→St→Z7:=finish A_V86 S_V86 Tryz.f82.results.toList
noncomputable def wo2 (kX:T93) (a1:Y4) (a5:Bool):Z7:=kX (([.u,W1 a1]++ud 3 [W5 a5])++us 60)
noncomputable def wff (kX:T93) (kO:T71):=exK wlc 0 (A_V86.shape 43) kX kO
noncomputable def wo3 (kX:T93) (a1:Y4) (a2:Y7) (a5 a6:Bool):Z7:=kX ([.u,W1 a1,.val Q23 O4 a2,.u,.u,W5 a5,W5 a6]++us 59)
noncomputable def wfg (kX:T93) (kO:T71):=exK wlc 2 (A_V86.shape 6) kX kO
noncomputable def wlb (kX:T93) (a1:Y4) (a2:Y7) (a5 a6:Bool) (a16:(List Y6)) (a17 a18:Int):Z7:=kX (([.u,W1 a1,.val Q23 O4 a2,.u,.u,W5 a5,W5 a6]++ud 9 [.val (.sl Q14) .i a16,W0 a17,W0 a18])++us 47)
noncomputable def waw (kX:T93) (kO:T71):=exK wlc 4 (A_V86.shape 41) kX kO
noncomputable def w0w (kX:T93) (a1:Y4) (a2:Y7) (a5 a6:Bool) (a8:Y6) (a9 a10:Int) (a16:(List Y6)) (a17 a18:Int):Z7:=kX (([.u,W1 a1,.val Q23 O4 a2,.u,.u,W5 a5,W5 a6,.u,.val (.ptr Q14) O4 a8,W0 a9,W0 a10]++ud 5 [.val (.sl Q14) .i a16,W0 a17,W0 a18])++us 47)
noncomputable def w0v (kX:T93) (kO:T71):=exK wlc 6 (A_V86.shape 39) kX kO
theorem w4g (N kX kO):∀n,wfj N n (w0v kX kO)=wrg N (w0w kX) n :=
 itE rfl fun m=>by kernel_rfl
noncomputable def wla (N m:Nat) (kX:T93) (kO:T71):=(blockK 6 (sqK A_V86 N 39 500019 Tryz.f82 [1,1,0,1,0,0,1,0,1,1,0,0,1,1,0,0,1,1,1,0,0,1,0,0,1] (blockK 5 (sqK A_V86 N 23 500011 Tryz.f82 [1,1,0,1,0,0,1,0,1,1,0,0,1,1,0,0,1,1,1,0,0,1,1] (itK A_V86 N 20 Tryz.f82 [1,1,0,1,0,0,1,0,1,1,0,0,1,1,0,0,1,1,1,0,0] m (waw kX kO))))))
noncomputable def w0y (N m:Nat) (kX:T93) (kO:T71) (st':St):Z7:=rn A_V86 N Tryz.f82 [1,1,0,1,0,0,1,0,1,1,0,0,1,1,0,0,1,1,1,0,0,1,0,0,1] st' (blockK 5 (sqK A_V86 N 23 500011 Tryz.f82 [1,1,0,1,0,0,1,0,1,1,0,0,1,1,0,0,1,1,1,0,0,1,1] (itK A_V86 N 20 Tryz.f82 [1,1,0,1,0,0,1,0,1,1,0,0,1,1,0,0,1,1,1,0,0] m (waw kX kO))))
theorem xfh (N m kX kO) {r}(h:yn N m (waw kX kO)=r):wfj N N (wla N m kX kO)=wfi N r (wlb kX):=by
 rw[show wfj N N (wla N m kX kO)=wfj N N (w0v (w0y N m kX kO) fun j=>(wla N m kX kO) (.exit j)) from(by funext _ _ _ _ _ _ _ _ _ _ _ _ _;exact jll),w4g,show w0w (w0y N m kX kO)=xu (yn N m (waw kX kO)) by kernel_rfl,h];rfl
theorem w4f (N kX kO):∀n,yn N n (waw kX kO)=wrf N (wlb kX) n :=
 itE rfl fun m=>(show _=w5 (wfj N N (wla N m kX kO)) (wlb kX) by kernel_rfl).trans (by rw[xfh N m kX kO rfl]<;>rfl)
noncomputable def wk9 (N m:Nat) (kX:T93) (kO:T71):=(blockK 4 (blockK 3 (sqK A_V86 N 41 500020 Tryz.f82 [1,1,0,1,0,0,1,0,1,1,0,0,1,1,1] (itK A_V86 N 12 Tryz.f82 [1,1,0,1,0,0,1,0,1,1,0,0] m (wfg kX kO)))))
noncomputable def w0x (N m:Nat) (kX:T93) (kO:T71) (st':St):Z7:=rn A_V86 N Tryz.f82 [1,1,0,1,0,0,1,0,1,1,0,0,1,1,1] st' (itK A_V86 N 12 Tryz.f82 [1,1,0,1,0,0,1,0,1,1,0,0] m (wfg kX kO))
theorem xfg (N m kX kO) {r}(h:wbt N m (wfg kX kO)=r):yn N N (wk9 N m kX kO)=wfh N r (wo3 kX):=by
 rw[show yn N N (wk9 N m kX kO)=yn N N (waw (w0x N m kX kO) fun j=>(wk9 N m kX kO) (.exit j)) from(by funext _ _ _ _ _ _ _ _ _ _;exact jll),w4f,show wlb (w0x N m kX kO)=wz (wbt N m (wfg kX kO)) by kernel_rfl,h];rfl
theorem xcd (N kX kO):∀n,wbt N n (wfg kX kO)=wwu N (wo3 kX) n :=
 itE rfl fun m=>(show _=zg (yn N N (wk9 N m kX kO)) (wo3 kX) by kernel_rfl).trans (by rw[xfg N m kX kO rfl]<;>rfl)
noncomputable def wo1 (N m:Nat) (kX:T93) (kO:T71):=(blockK 2 (blockK 1 (itK A_V86 N 6 Tryz.f82 [1,1,0,1,0,0] m (wff kX kO))))
noncomputable def xcf (N m:Nat) (kX:T93) (kO:T71) (st':St):Z7:=itr A_V86 N 6 Tryz.f82 [1,1,0,1,0,0] m st' (wff kX kO)
theorem xkb (N m kX kO) {r}(h:wbs N m (wff kX kO)=r):wbt N N (wo1 N m kX kO)=woz N r (wo2 kX):=by
 rw[show wbt N N (wo1 N m kX kO)=wbt N N (wfg (xcf N m kX kO) fun j=>(wo1 N m kX kO) (.exit j)) from(by funext _ _ _ _ _ _ _;exact jll),xcd,show wo3 (xcf N m kX kO)=x7 (wbs N m (wff kX kO)) by kernel_rfl,h];rfl
theorem xcc (N kX kO):∀n,wbs N n (wff kX kO)=wwt N (wo2 kX) n :=
 itE rfl fun m=>(show _=wjg (wbt N N (wo1 N m kX kO)) (wo2 kX) by kernel_rfl).trans (by rw[xkb N m kX kO rfl]<;>rfl)
noncomputable def wo0 (N:Nat):=(blockK 0 (sqK A_V86 N 43 500021 Tryz.f82 [1,1,1] wlc))
noncomputable def xce (N:Nat) (st':St):Z7:=rn A_V86 N Tryz.f82 [1,1,1] st' wlc
theorem xka (N):wbs N N (wo0 N)=wws N:=by
 rw[show wbs N N (wo0 N)=wbs N N (wff (xce N) fun j=>(wo0 N) (.exit j)) from(by funext _ _ _ _;exact jll),xcc,show wo2 (xce N)=wjf by kernel_rfl];rfl
theorem run_V86 (N x):runF A_V86 N Tryz.f82 S_V86 x=V86 N x.1 x.2.1:=(show _=(wsr (wbs N N (wo0 N)) x.1 x.2.1) by kernel_rfl).trans (by rw[xka N];rfl)
theorem ok_V86:OK 82 S_V86:=gdR (A:=A_V86) tc Tryz.func82 (jeq ⟨ok_V85,trivial⟩) (run_V86 big)
def xhd (a_0:Y7) (p_1:Y4):Z0 :=
  (V83 big a_0.1 p_1).bind fun rq1 =>
  cond rq1.1
  ((V84 p_1).bind fun rq2 =>
  (V86 big a_0 rq2.1).bind fun rq3 =>
  some (!rq3.1,(())))
  (some (false,(())))
def V87 (a_0:Y7) (p_1:Y4):Z0:=xhd a_0 p_1
def S_V87:Sig:=⟨(.pair Q5 Q10),[0,0],[],.unit,.bool,.i,fun x=>V87 x.1 x.2.1⟩
def A_V87:Cfg:=mkCfg tab [(81,S_V83),(83,S_V84),(82,S_V86)] []
theorem run_V87 (N x):runF A_V87 N Tryz.f38 S_V87 x=V87 x.1 x.2.1:=by kernel_rfl
theorem ok_V87:OK 38 S_V87:=gdR (A:=A_V87) tc Tryz.func38 (jeq ⟨ok_V83,ok_V84,ok_V86,trivial⟩) (run_V87 big)
def xhe (a_0:Y7) (p_1:Y4):Option ((Bool×(Bool×Unit))×Unit) :=
  (V82 big a_0).bind fun rq1 =>
  cond (!rq1.1)
  (some ((false,false,()),(())))
  ((V87 a_0 p_1).bind fun rq2 =>
  some ((rq2.1,true,()),(())))
def V88 (a_0:Y7) (p_1:Y4):Option ((Bool×(Bool×Unit))×Unit):=xhe a_0 p_1
def S_V88:Sig:=⟨(.pair Q5 Q10),[0,0],[],.unit,(.tup (.pair .bool Q12)),.i,fun x=>V88 x.1 x.2.1⟩
def A_V88:Cfg:=mkCfg tab [(37,S_V82),(38,S_V87)] []
theorem run_V88 (N x):runF A_V88 N Tryz.f11 S_V88 x=V88 x.1 x.2.1:=by kernel_rfl
theorem ok_V88:OK 11 S_V88:=gdR (A:=A_V88) tc Tryz.func11 (jeq ⟨ok_V82,ok_V87,trivial⟩) (run_V88 big)
def wji (rec:T52) (k:T21) (a3:Y4) (a8 a9:Int):Z2 :=
  cond (decide (a9<a8))
  ((atI a3 a9).bind fun _ =>
  (a3[a9.toNat]?).bind fun xq3 =>
  rec (a3.set a9.toNat a9) a8 (IntKind.i64.wrap (a9+1)))
  (k a3)
def wfk (a3:Y4):Z2 :=
  some (a3,(()))
def w4h (L3:T52) (n_0:Int):Z2 :=
  (mkI (0:Int) n_0).bind fun xq1=>(mkI (0:Int) n_0).bind fun xq2=>cond (decide (n_0≤n_0))
  (L3 xq2 (xq2.length:Int) 0)
  none
def www (N:Nat) (k:T21):=itN (fun r=>wji r k) fun _ _ _=>none
def wwv (N:Nat):=www N (wfk) N
def V89 (N:Nat) (n_0:Int):Z2:=w4h (wwv N) n_0
def S_V89:Sig:=⟨Q17,[0],[],.unit,Q6,O4,fun x=>V89 big x.1⟩
def A_V89:Cfg:=mkCfg tab [] [(6,(dr 3 ([B1]++dr 4 [B0,B0]))),(15,(dr 3 [B1]))]
noncomputable def wjh (N n:Nat) (K:T18) (a3:Y4) (a8 a9:Int):Z2:=itr A_V89 N 6 Tryz.f121 [1,1,0,1,0,0] n ((ud 3 ([W1 a3]++ud 4 [W0 a8,W0 a9]))++us 8) K
noncomputable def w4i:Ex→St→Z2:=finish A_V89 S_V89 Tryz.f121.results.toList
noncomputable def xcj (kX:T7) (a3:Y4):Z2:=kX ((ud 3 [W1 a3])++us 14)
noncomputable def xci (kX:T7) (kO:T5):=exK w4i 0 (A_V89.shape 15) kX kO
theorem xck (N kX kO):∀n,wjh N n (xci kX kO)=www N (xcj kX) n :=
 itE rfl fun m=>by kernel_rfl
noncomputable def wo4 (N:Nat):=(blockK 0 (sqK A_V89 N 15 500007 Tryz.f121 [1,1,1] w4i))
noncomputable def xcl (N:Nat) (st':St):Z2:=rn A_V89 N Tryz.f121 [1,1,1] st' w4i
theorem xkc (N):wjh N N (wo4 N)=wwv N:=by
 rw[show wjh N N (wo4 N)=wjh N N (xci (xcl N) fun j=>(wo4 N) (.exit j)) from(by funext _ _ _;exact jll),xck,show xcj (xcl N)=wfk by kernel_rfl];rfl
theorem run_V89 (N x):runF A_V89 N Tryz.f121 S_V89 x=V89 N x.1:=(show _=(w4h (wjh N N (wo4 N)) x.1) by kernel_rfl).trans (by rw[xkc N];rfl)
theorem ok_V89:OK 121 S_V89:=gdR (A:=A_V89) tc Tryz.func121 (jeq trivial) (run_V89 big)
def wjk (rec:T85) (k:Y7→Y4→Z2) (a2:Y7) (a5:Y4) (a11:Z15) (a12 a13:Int):Z2 :=
  cond (decide (a13<a12))
  ((atI a11 a13).bind fun xq2 =>
  (V85 big a5 xq2.1 xq2.2.1).bind fun rq3 =>
  rec a2 rq3.2.1 a11 a12 (IntKind.i64.wrap (a13+1)))
  (k a2 a5)
def wfl (a2:Y7) (a5:Y4):Z2 :=
  (V86 big a2 a5).bind fun rq4 =>
  some (rq4.2.1,(()))
def w4l (L3:T85) (a_0:Y7) (pairs_1:Z15):Z2 :=
  (V89 big a_0.1).bind fun rq1 =>
  L3 a_0 rq1.1 pairs_1 (pairs_1.length:Int) 0
def wwy (N:Nat) (k:Y7→Y4→Z2):=itN (fun r=>wjk r k) fun _ _ _ _ _=>none
def wwx (N:Nat):=wwy N (wfl) N
def V90 (N:Nat) (a_0:Y7) (pairs_1:Z15):Z2:=w4l (wwx N) a_0 pairs_1
def S_V90:Sig:=⟨(.pair Q5 (.pair Q22 .unit)),[0,0],[],.unit,Q6,O4,fun x=>V90 big x.1 x.2.1⟩
def A_V90:Cfg:=mkCfg tab [(121,S_V89),(119,S_V85),(82,S_V86)] [(6,([D0,D0,.as Q23 O4,D0,D0,B1]++dr 5 [.as Q22 .i,B0,B0])),(15,[D0,D0,.as Q23 O4,D0,D0,B1])]
noncomputable def wjj (N n:Nat) (K:T18) (a2:Y7) (a5:Y4) (a11:Z15) (a12 a13:Int):Z2:=itr A_V90 N 6 Tryz.f120 [1,1,0,1,0,0] n (([.u,.u,.val Q23 O4 a2,.u,.u,W1 a5]++ud 5 [.val Q22 .i a11,W0 a12,W0 a13])++us 14) K
noncomputable def w4m:Ex→St→Z2:=finish A_V90 S_V90 Tryz.f120.results.toList
noncomputable def xcn (kX:T7) (a2:Y7) (a5:Y4):Z2:=kX ([.u,.u,.val Q23 O4 a2,.u,.u,W1 a5]++us 22)
noncomputable def xcm (kX:T7) (kO:T5):=exK w4m 0 (A_V90.shape 15) kX kO
theorem xco (N kX kO):∀n,wjj N n (xcm kX kO)=wwy N (xcn kX) n :=
 itE rfl fun m=>by kernel_rfl
noncomputable def wo7 (N:Nat):=(blockK 0 (sqK A_V90 N 15 500007 Tryz.f120 [1,1,1] w4m))
noncomputable def xcp (N:Nat) (st':St):Z2:=rn A_V90 N Tryz.f120 [1,1,1] st' w4m
theorem xkd (N):wjj N N (wo7 N)=wwx N:=by
 rw[show wjj N N (wo7 N)=wjj N N (xcm (xcp N) fun j=>(wo7 N) (.exit j)) from(by funext _ _ _ _ _;exact jll),xco,show xcn (xcp N)=wfl by kernel_rfl];rfl
theorem run_V90 (N x):runF A_V90 N Tryz.f120 S_V90 x=V90 N x.1 x.2.1:=(show _=(w4l (wjj N N (wo7 N)) x.1 x.2.1) by kernel_rfl).trans (by rw[xkd N];rfl)
theorem ok_V90:OK 120 S_V90:=gdR (A:=A_V90) tc Tryz.func120 (jeq ⟨ok_V89,ok_V85,ok_V86,trivial⟩) (run_V90 big)
def wjm (rec:T99) (k:Y4→Z19) (a3 a10:Y4) (a11 a12:Int):Z19 :=
  cond (decide (a12<a11))
  ((atI a10 a12).bind fun xq3 =>
  (shrI IntKind.i64 xq3 8).bind fun xq4 =>
  (appI a3 [IntKind.u8.wrap xq4,IntKind.u8.wrap xq3]).bind fun xq5 =>
  rec xq5 a10 a11 (IntKind.i64.wrap (a12+1)))
  (k a3)
def wfm (a3:Y4):Z19 :=
  some ((a3.map fun n=>UInt8.ofNat n.toNat),(()))
def w4n (L3:T99) (list_0:Y4):Z19 :=
  (mkI (0:Int) (IntKind.i64.wrap (2*(list_0.length:Int)))).bind fun xq1=>(mkI (0:Int) 0).bind fun xq2=>cond (decide (0≤(IntKind.i64.wrap (2*(list_0.length:Int)))))
  (L3 xq2 list_0 (list_0.length:Int) 0)
  none
def ww0 (N:Nat) (k:Y4→Z19):=itN (fun r=>wjm r k) fun _ _ _ _=>none
def wwz (N:Nat):=ww0 N (wfm) N
def V91 (N:Nat) (list_0:Y4):Z19:=w4n (wwz N) list_0
def S_V91:Sig:=⟨Q10,[0],[],.unit,.str,.i,fun x=>V91 big x.1⟩
def A_V91:Cfg:=mkCfg tab [] [(6,(dr 3 ([.as (.sl (.int .u8)) O4]++dr 6 [B4,B0,B0]))),(15,(dr 3 [.as (.sl (.int .u8)) O4]))]
noncomputable def wjl (N n:Nat) (K:Ex→St→Z19) (a3 a10:Y4) (a11 a12:Int):Z19:=itr A_V91 N 6 Tryz.f122 [1,1,0,1,0,0] n ((ud 3 ([.val (.sl (.int .u8)) O4 a3]++ud 6 [W4 a10,W0 a11,W0 a12]))++us 14) K
noncomputable def w4o:Ex→St→Z19:=finish A_V91 S_V91 Tryz.f122.results.toList
noncomputable def xcr (kX:St→Z19) (a3:Y4):Z19:=kX ((ud 3 [.val (.sl (.int .u8)) O4 a3])++us 23)
noncomputable def xcq (kX:St→Z19) (kO:Nat→St→Z19):=exK w4o 0 (A_V91.shape 15) kX kO
theorem xcs (N kX kO):∀n,wjl N n (xcq kX kO)=ww0 N (xcr kX) n :=
 itE rfl fun m=>by kernel_rfl
noncomputable def wo8 (N:Nat):=(blockK 0 (sqK A_V91 N 15 500007 Tryz.f122 [1,1,1] w4o))
noncomputable def xct (N:Nat) (st':St):Z19:=rn A_V91 N Tryz.f122 [1,1,1] st' w4o
theorem xke (N):wjl N N (wo8 N)=wwz N:=by
 rw[show wjl N N (wo8 N)=wjl N N (xcq (xct N) fun j=>(wo8 N) (.exit j)) from(by funext _ _ _ _;exact jll),xcs,show xcr (xct N)=wfm by kernel_rfl];rfl
theorem run_V91 (N x):runF A_V91 N Tryz.f122 S_V91 x=V91 N x.1:=(show _=(w4n (wjl N N (wo8 N)) x.1) by kernel_rfl).trans (by rw[xke N];rfl)
theorem ok_V91:OK 122 S_V91:=gdR (A:=A_V91) tc Tryz.func122 (jeq trivial) (run_V91 big)
def wjo (rec:T16) (k:T21) (a5 a10:Y4) (a11 a12:Int):Z2 :=
  cond (decide (a12<a11))
  ((atI a10 a12).bind fun xq2 =>
  (V85 big a5 a12 xq2).bind fun rq3 =>
  rec rq3.2.1 a10 a11 (IntKind.i64.wrap (a12+1)))
  (k a5)
def wfn (a5:Y4):Z2 :=
  some (a5,(()))
def w4p (L3:T16) (p_0 q_1:Y4):Z2 :=
  (V84 p_0).bind fun rq1 =>
  L3 rq1.1 q_1 (q_1.length:Int) 0
def ww2 (N:Nat) (k:T21):=itN (fun r=>wjo r k) fun _ _ _ _=>none
def ww1 (N:Nat):=ww2 N (wfn) N
def V92 (N:Nat) (p_0 q_1:Y4):Z2:=w4p (ww1 N) p_0 q_1
def S_V92:Sig:=⟨(.pair Q6 Q10),[0,0],[],.unit,Q6,O4,fun x=>V92 big x.1 x.2.1⟩
def A_V92:Cfg:=mkCfg tab [(83,S_V84),(119,S_V85)] [(6,(dr 5 ([B1]++dr 4 [B4,B0,B0]))),(15,(dr 5 [B1]))]
noncomputable def wjn (N n:Nat) (K:T18) (a5 a10:Y4) (a11 a12:Int):Z2:=itr A_V92 N 6 Tryz.f123 [1,1,0,1,0,0] n ((ud 5 ([W1 a5]++ud 4 [W4 a10,W0 a11,W0 a12]))++us 10) K
noncomputable def w4q:Ex→St→Z2:=finish A_V92 S_V92 Tryz.f123.results.toList
noncomputable def xcv (kX:T7) (a5:Y4):Z2:=kX ((ud 5 [W1 a5])++us 17)
noncomputable def xcu (kX:T7) (kO:T5):=exK w4q 0 (A_V92.shape 15) kX kO
theorem xcw (N kX kO):∀n,wjn N n (xcu kX kO)=ww2 N (xcv kX) n :=
 itE rfl fun m=>by kernel_rfl
noncomputable def wo9 (N:Nat):=(blockK 0 (sqK A_V92 N 15 500007 Tryz.f123 [1,1,1] w4q))
noncomputable def xcx (N:Nat) (st':St):Z2:=rn A_V92 N Tryz.f123 [1,1,1] st' w4q
theorem xkf (N):wjn N N (wo9 N)=ww1 N:=by
 rw[show wjn N N (wo9 N)=wjn N N (xcu (xcx N) fun j=>(wo9 N) (.exit j)) from(by funext _ _ _ _;exact jll),xcw,show xcv (xcx N)=wfn by kernel_rfl];rfl
theorem run_V92 (N x):runF A_V92 N Tryz.f123 S_V92 x=V92 N x.1 x.2.1:=(show _=(w4p (wjn N N (wo9 N)) x.1 x.2.1) by kernel_rfl).trans (by rw[xkf N];rfl)
theorem ok_V92:OK 123 S_V92:=gdR (A:=A_V92) tc Tryz.func123 (jeq ⟨ok_V84,ok_V85,trivial⟩) (run_V92 big)
end Go.Proofs.YtclaienmkbpkaaaGreat
