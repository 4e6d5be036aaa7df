import Derived.Test.YteanfidobhpchaaGreatWLB
set_option maxRecDepth 100000
set_option linter.unusedVariables false
namespace Go.Proofs.YteanfidobhpchaaGreat
open Go Go.Gx Go.Proofs
noncomputable section
def whv (rec:T31) (k:T102) (a0:Y1) (a3 a9 a10:Int):Z4 :=
  cond (decide (a10<a9))
  ((a0).bind fun xq2 =>
  (atI xq2.2.2.1 a3).bind fun xq3 =>
  (atI xq3 a10).bind fun xq4 =>
  rec a0 xq4 a9 (IntKind.i64.wrap (a10+1)))
  (k a3)
def wdv (a3:Int):Z4 :=
  some (a3,(()))
def wza (L3:T31) (l_0:Y1):Z4 :=
  (l_0).bind fun xq1 =>
  L3 l_0 0 (xq1.1.length:Int) 0
def ws9 (N:Nat) (k:T102):=itN (fun r=>whv r k) fun _ _ _ _=>none
def ws8 (N:Nat):=ws9 N (wdv) N
def V71 (N:Nat) (l_0:Y1):Z4:=wza (ws8 N) l_0
def S_V71:Sig:=⟨(.pair Q10 .unit),[0],[],.unit,I,.i,fun x=>V71 big x.1⟩
def A_V71:Cfg:=mkCfg tab [] [(6,([.as Q10 .i,D0,D0,B0]++dr 5 [B0,B0])),(15,(dr 3 [B0]))]
noncomputable def whu (N n:Nat) (K:T61) (a0:Y1) (a3 a9 a10:Int):Z4:=itr A_V71 N 6 Tryz.f47 [1,1,0,1,0,0] n (([.val Q10 .i a0,.u,.u,W0 a3]++ud 5 [W0 a9,W0 a10])++us 14) K
noncomputable def wzb:Ex→St→Z4:=finish A_V71 S_V71 Tryz.f47.results.toList
noncomputable def w56 (kX:T36) (a3:Int):Z4:=kX ((ud 3 [W0 a3])++us 21)
noncomputable def w55 (kX:T36) (kO:T29):=exK wzb 0 (A_V71.shape 15) kX kO
theorem w57 (N kX kO):∀n,whu N n (w55 kX kO)=ws9 N (w56 kX) n :=
 itE rfl fun m=>by kernel_rfl
noncomputable def wm0 (N:Nat):=(blockK 0 (sqK A_V71 N 15 500007 Tryz.f47 [1,1,1] wzb))
noncomputable def w58 (N:Nat) (st':St):Z4:=rn A_V71 N Tryz.f47 [1,1,1] st' wzb
theorem xc8 (N):whu N N (wm0 N)=ws8 N:=by
 rw[show whu N N (wm0 N)=whu N N (w55 (w58 N) fun j=>(wm0 N) (.exit j)) from(by funext _ _ _ _;exact jky),w57,show w56 (w58 N)=wdv by kernel_rfl];rfl
theorem run_V71 (N x):runF A_V71 N Tryz.f47 S_V71 x=V71 N x.1:=(show _=(wza (whu N N (wm0 N)) x.1) by kernel_rfl).trans (by rw[xc8 N];rfl)
theorem ok_V71:OK 47 S_V71:=gdR (A:=A_V71) tc Tryz.func47 (jeb trivial) (run_V71 big)
def whx (rec:T19) (k:T102) (a0:Y1) (a5:Int) (a10:Y4) (a11 a12:Int):Z4 :=
  cond (decide (a12<a11))
  ((atI a10 a12).bind fun xq2 =>
  (a0).bind fun xq3 =>
  (atI xq3.2.1 a5).bind fun xq4 =>
  (atI xq4 xq2).bind fun xq5 =>
  rec a0 xq5 a10 a11 (IntKind.i64.wrap (a12+1)))
  (k a5)
def wdw (a5:Int):Z4 :=
  some (a5,(()))
def wzc (L3:T19) (l_0:Y1) (list_1:Y4):Z4 :=
  (V71 big l_0).bind fun rq1 =>
  L3 l_0 rq1.1 list_1 (list_1.length:Int) 0
def wtb (N:Nat) (k:T102):=itN (fun r=>whx r k) fun _ _ _ _ _=>none
def wta (N:Nat):=wtb N (wdw) N
def V72 (N:Nat) (l_0:Y1) (list_1:Y4):Z4:=wzc (wta N) l_0 list_1
def S_V72:Sig:=⟨(.pair Q10 Q14),[0,0],[],.unit,I,.i,fun x=>V72 big x.1 x.2.1⟩
def A_V72:Cfg:=mkCfg tab [(47,S_V71)] [(6,([.as Q10 .i]++dr 4 ([B0]++dr 4 [B2,B0,B0]))),(15,(dr 5 [B0]))]
noncomputable def whw (N n:Nat) (K:T61) (a0:Y1) (a5:Int) (a10:Y4) (a11 a12:Int):Z4:=itr A_V72 N 6 Tryz.f22 [1,1,0,1,0,0] n (([.val Q10 .i a0]++ud 4 ([W0 a5]++ud 4 [W2 a10,W0 a11,W0 a12]))++us 15) K
noncomputable def wzd:Ex→St→Z4:=finish A_V72 S_V72 Tryz.f22.results.toList
noncomputable def w6a (kX:T36) (a5:Int):Z4:=kX ((ud 5 [W0 a5])++us 22)
noncomputable def w59 (kX:T36) (kO:T29):=exK wzd 0 (A_V72.shape 15) kX kO
theorem w6b (N kX kO):∀n,whw N n (w59 kX kO)=wtb N (w6a kX) n :=
 itE rfl fun m=>by kernel_rfl
noncomputable def wm1 (N:Nat):=(blockK 0 (sqK A_V72 N 15 500007 Tryz.f22 [1,1,1] wzd))
noncomputable def w6c (N:Nat) (st':St):Z4:=rn A_V72 N Tryz.f22 [1,1,1] st' wzd
theorem xc9 (N):whw N N (wm1 N)=wta N:=by
 rw[show whw N N (wm1 N)=whw N N (w59 (w6c N) fun j=>(wm1 N) (.exit j)) from(by funext _ _ _ _ _;exact jky),w6b,show w6a (w6c N)=wdw by kernel_rfl];rfl
theorem run_V72 (N x):runF A_V72 N Tryz.f22 S_V72 x=V72 N x.1 x.2.1:=(show _=(wzc (whw N N (wm1 N)) x.1 x.2.1) by kernel_rfl).trans (by rw[xc9 N];rfl)
theorem ok_V72:OK 22 S_V72:=gdR (A:=A_V72) tc Tryz.func22 (jeb ⟨ok_V71,trivial⟩) (run_V72 big)
def whz (rec:T31) (k:T102) (a0:Y1) (a3 a9 a10:Int):Z4 :=
  cond (decide (a10<a9))
  ((a0).bind fun xq2 =>
  (atI xq2.2.1 a3).bind fun xq3 =>
  (atI xq3 a10).bind fun xq4 =>
  rec a0 xq4 a9 (IntKind.i64.wrap (a10+1)))
  (k a3)
def wdx (a3:Int):Z4 :=
  some (a3,(()))
def wze (L3:T31) (l_0:Y1):Z4 :=
  (l_0).bind fun xq1 =>
  L3 l_0 0 (xq1.1.length:Int) 0
def wtd (N:Nat) (k:T102):=itN (fun r=>whz r k) fun _ _ _ _=>none
def wtc (N:Nat):=wtd N (wdx) N
def V73 (N:Nat) (l_0:Y1):Z4:=wze (wtc N) l_0
def S_V73:Sig:=⟨(.pair Q10 .unit),[0],[],.unit,I,.i,fun x=>V73 big x.1⟩
def A_V73:Cfg:=mkCfg tab [] [(6,([.as Q10 .i,D0,D0,B0]++dr 5 [B0,B0])),(15,(dr 3 [B0]))]
noncomputable def why (N n:Nat) (K:T61) (a0:Y1) (a3 a9 a10:Int):Z4:=itr A_V73 N 6 Tryz.f48 [1,1,0,1,0,0] n (([.val Q10 .i a0,.u,.u,W0 a3]++ud 5 [W0 a9,W0 a10])++us 14) K
noncomputable def wzf:Ex→St→Z4:=finish A_V73 S_V73 Tryz.f48.results.toList
noncomputable def w6e (kX:T36) (a3:Int):Z4:=kX ((ud 3 [W0 a3])++us 21)
noncomputable def w6d (kX:T36) (kO:T29):=exK wzf 0 (A_V73.shape 15) kX kO
theorem w6f (N kX kO):∀n,why N n (w6d kX kO)=wtd N (w6e kX) n :=
 itE rfl fun m=>by kernel_rfl
noncomputable def wm2 (N:Nat):=(blockK 0 (sqK A_V73 N 15 500007 Tryz.f48 [1,1,1] wzf))
noncomputable def w6g (N:Nat) (st':St):Z4:=rn A_V73 N Tryz.f48 [1,1,1] st' wzf
theorem xda (N):why N N (wm2 N)=wtc N:=by
 rw[show why N N (wm2 N)=why N N (w6d (w6g N) fun j=>(wm2 N) (.exit j)) from(by funext _ _ _ _;exact jky),w6f,show w6e (w6g N)=wdx by kernel_rfl];rfl
theorem run_V73 (N x):runF A_V73 N Tryz.f48 S_V73 x=V73 N x.1:=(show _=(wze (why N N (wm2 N)) x.1) by kernel_rfl).trans (by rw[xda N];rfl)
theorem ok_V73:OK 48 S_V73:=gdR (A:=A_V73) tc Tryz.func48 (jeb trivial) (run_V73 big)
def wh1 (rec:T19) (k:T102) (a0:Y1) (a5:Int) (a10:Y4) (a11 a12:Int):Z4 :=
  cond (decide (a12<a11))
  ((atI a10 a12).bind fun xq2 =>
  (a0).bind fun xq3 =>
  (atI xq3.2.2.1 a5).bind fun xq4 =>
  (atI xq4 xq2).bind fun xq5 =>
  rec a0 xq5 a10 a11 (IntKind.i64.wrap (a12+1)))
  (k a5)
def wdy (a5:Int):Z4 :=
  some (a5,(()))
def wzg (L3:T19) (l_0:Y1) (list_1:Y4):Z4 :=
  (V73 big l_0).bind fun rq1 =>
  L3 l_0 rq1.1 list_1 (list_1.length:Int) 0
def wtf (N:Nat) (k:T102):=itN (fun r=>wh1 r k) fun _ _ _ _ _=>none
def wte (N:Nat):=wtf N (wdy) N
def V74 (N:Nat) (l_0:Y1) (list_1:Y4):Z4:=wzg (wte N) l_0 list_1
def S_V74:Sig:=⟨(.pair Q10 Q14),[0,0],[],.unit,I,.i,fun x=>V74 big x.1 x.2.1⟩
def A_V74:Cfg:=mkCfg tab [(48,S_V73)] [(6,([.as Q10 .i]++dr 4 ([B0]++dr 4 [B2,B0,B0]))),(15,(dr 5 [B0]))]
noncomputable def wh0 (N n:Nat) (K:T61) (a0:Y1) (a5:Int) (a10:Y4) (a11 a12:Int):Z4:=itr A_V74 N 6 Tryz.f23 [1,1,0,1,0,0] n (([.val Q10 .i a0]++ud 4 ([W0 a5]++ud 4 [W2 a10,W0 a11,W0 a12]))++us 15) K
noncomputable def wzh:Ex→St→Z4:=finish A_V74 S_V74 Tryz.f23.results.toList
noncomputable def w6i (kX:T36) (a5:Int):Z4:=kX ((ud 5 [W0 a5])++us 22)
noncomputable def w6h (kX:T36) (kO:T29):=exK wzh 0 (A_V74.shape 15) kX kO
theorem w6j (N kX kO):∀n,wh0 N n (w6h kX kO)=wtf N (w6i kX) n :=
 itE rfl fun m=>by kernel_rfl
noncomputable def wm3 (N:Nat):=(blockK 0 (sqK A_V74 N 15 500007 Tryz.f23 [1,1,1] wzh))
noncomputable def w6k (N:Nat) (st':St):Z4:=rn A_V74 N Tryz.f23 [1,1,1] st' wzh
theorem xdb (N):wh0 N N (wm3 N)=wte N:=by
 rw[show wh0 N N (wm3 N)=wh0 N N (w6h (w6k N) fun j=>(wm3 N) (.exit j)) from(by funext _ _ _ _ _;exact jky),w6j,show w6i (w6k N)=wdy by kernel_rfl];rfl
theorem run_V74 (N x):runF A_V74 N Tryz.f23 S_V74 x=V74 N x.1 x.2.1:=(show _=(wzg (wh0 N N (wm3 N)) x.1 x.2.1) by kernel_rfl).trans (by rw[xdb N];rfl)
theorem ok_V74:OK 23 S_V74:=gdR (A:=A_V74) tc Tryz.func23 (jeb ⟨ok_V73,trivial⟩) (run_V74 big)
def wh3 (rec:T80) (k:Z8→Z2) (a6:Y1) (a8:Z8) (a28:Y3) (a29 a30:Int):Z2 :=
  cond (decide (a30<a29))
  ((atI a28 a30).bind fun _ =>
  (a28[a30.toNat]?).bind fun xq5 =>
  (a28[a30.toNat]?).bind fun xq6 =>
  (V72 big a6 xq6).bind fun rq7 =>
  (a28[a30.toNat]?).bind fun xq8 =>
  (V74 big a6 xq8).bind fun rq9 =>
  (appI a8 [(rq7.1,(rq9.1,()))]).bind fun xq10 =>
  rec a6 xq10 a28 a29 (IntKind.i64.wrap (a30+1)))
  (k a8)
def wdz (a8:Z8):Z2 :=
  some ((a8,true,()),(()))
def wjo (L6:T80) (p_0:Y2) (c_1:Y4):Z2 :=
  (V63 p_0).bind fun rq1 =>
  cond (!rq1.1.2.1)
  (some (([],false,()),(())))
  ((V65 rq1.1.1).bind fun rq2 =>
  (V70 rq2.1 c_1).bind fun rq3 =>
  cond (!rq3.1)
  (some (([],false,()),(())))
  ((vn c_1).bind fun rq4 =>
  L6 rq1.1.1 [] rq4.1 (rq4.1.length:Int) 0))
def wtg (N:Nat) (k:Z8→Z2):=itN (fun r=>wh3 r k) fun _ _ _ _ _=>none
def wm4 (N:Nat):=wtg N (wdz) N
def V75 (N:Nat) (p_0:Y2) (c_1:Y4):Z2:=wjo (wm4 N) p_0 c_1
def S_V75:Sig:=⟨(.pair Q0 Q14),[0,0],[],.unit,(.tup (.pair Q12 Q19)),(.p O4 .i),fun x=>V75 big x.1 x.2.1⟩
def A_V75:Cfg:=mkCfg tab [(18,S_V63),(20,S_V65),(19,S_V70),(21,xi),(22,S_V72),(23,S_V74)] [(12,(dr 6 ([.as Q10 .i,D0,B4]++dr 19 [.as Q15 O16,B0,B0]))),(21,(dr 8 [B4]))]
noncomputable def wh2 (N n:Nat) (K:T106) (a6:Y1) (a8:Z8) (a28:Y3) (a29 a30:Int):Z2:=itr A_V75 N 12 Tryz.f6 [1,1,1,1,0,1,0,0] n ((ud 6 ([.val Q10 .i a6,.u,W4 a8]++ud 19 [.val Q15 O16 a28,W0 a29,W0 a30]))++us 15) K
noncomputable def wzi:Ex→St→Z2:=finish A_V75 S_V75 Tryz.f6.results.toList
noncomputable def w6m (kX:T88) (a8:Z8):Z2:=kX ((ud 8 [W4 a8])++us 37)
noncomputable def w6l (kX:T88) (kO:T83):=exK wzi 0 (A_V75.shape 21) kX kO
theorem w6n (N kX kO):∀n,wh2 N n (w6l kX kO)=wtg N (w6m kX) n :=
 itE rfl fun m=>by kernel_rfl
noncomputable def wm5 (N:Nat):=(blockK 0 (sqK A_V75 N 21 500010 Tryz.f6 [1,1,1,1,1] wzi))
noncomputable def w6o (N:Nat) (st':St):Z2:=rn A_V75 N Tryz.f6 [1,1,1,1,1] st' wzi
theorem xdc (N):wh2 N N (wm5 N)=wm4 N:=by
 rw[show wh2 N N (wm5 N)=wh2 N N (w6l (w6o N) fun j=>(wm5 N) (.exit j)) from(by funext _ _ _ _ _;exact jky),w6n,show w6m (w6o N)=wdz by kernel_rfl];rfl
theorem run_V75 (N x):runF A_V75 N Tryz.f6 S_V75 x=V75 N x.1 x.2.1:=(show _=(wjo (wh2 N N (wm5 N)) x.1 x.2.1) by kernel_rfl).trans (by rw[xdc N];rfl)
theorem ok_V75:OK 6 S_V75:=gdR (A:=A_V75) tc Tryz.func6 (jeb ⟨ok_V63,ok_V65,ok_V70,⟨way,yz⟩,ok_V72,ok_V74,trivial⟩) (run_V75 big)
def wh5 (rec:T55) (k:Z1) (a0:Int) (a1:Y4) (a5:Int):Z1 :=
  cond (decide (a5<a0))
  ((atI a1 a5).bind fun xq1 =>
  (V6 xq1 0 a5).bind fun rq2 =>
  cond (!rq2.1)
  (some (false,(())))
  ((atI a1 a5).bind fun xq3 =>
  (atI a1 xq3).bind fun xq4 =>
  (atI a1 a5).bind fun xq5 =>
  cond (decide (xq4≠xq5))
  (some (false,(())))
  (rec a0 a1 (IntKind.i64.wrap (a5+1)))))
  (k)
def wd0:Z1 :=
  some (true,(()))
def wzj (L4:T55) (n_0:Int) (p_1:Y4):Z1 :=
  cond (decide ((p_1.length:Int)≠n_0))
  (some (false,(())))
  (L4 n_0 p_1 0)
def wti (N:Nat) (k:Z1):=itN (fun r=>wh5 r k) fun _ _ _=>none
def wth (N:Nat):=wti N (wd0) N
def V76 (N:Nat) (n_0:Int) (p_1:Y4):Z1:=wzj (wth N) n_0 p_1
def S_V76:Sig:=⟨Q9,[0,0],[],.unit,.bool,.i,fun x=>V76 big x.1 x.2.1⟩
def A_V76:Cfg:=mkCfg tab [(78,S_V6)] [(8,([B0,B2]++dr 3 [B0])),(17,[])]
noncomputable def wh4 (N n:Nat) (K:T5) (a0:Int) (a1:Y4) (a5:Int):Z1:=itr A_V76 N 8 Tryz.f50 [1,1,0,1,0,0] n (([W0 a0,W2 a1]++ud 3 [W0 a5])++us 30) K
noncomputable def wzk:Ex→St→Z1:=finish A_V76 S_V76 Tryz.f50.results.toList
noncomputable def w6q (kX:T3):Z1:=kX ([]++us 36)
noncomputable def w6p (kX:T3) (kO:T1):=exK wzk 0 (A_V76.shape 17) kX kO
theorem w6r (N kX kO):∀n,wh4 N n (w6p kX kO)=wti N (w6q kX) n :=
 itE rfl fun m=>by kernel_rfl
noncomputable def wm6 (N:Nat):=(blockK 0 (sqK A_V76 N 17 500008 Tryz.f50 [1,1,1] wzk))
noncomputable def w6s (N:Nat) (st':St):Z1:=rn A_V76 N Tryz.f50 [1,1,1] st' wzk
theorem xdd (N):wh4 N N (wm6 N)=wth N:=by
 rw[show wh4 N N (wm6 N)=wh4 N N (w6p (w6s N) fun j=>(wm6 N) (.exit j)) from(by funext _ _ _;exact jky),w6r,show w6q (w6s N)=wd0 by kernel_rfl];rfl
theorem run_V76 (N x):runF A_V76 N Tryz.f50 S_V76 x=V76 N x.1 x.2.1:=(show _=(wzj (wh4 N N (wm6 N)) x.1 x.2.1) by kernel_rfl).trans (by rw[xdd N];rfl)
theorem ok_V76:OK 50 S_V76:=gdR (A:=A_V76) tc Tryz.func50 (jeb ⟨ok_V6,trivial⟩) (run_V76 big)
def xae (a_0:Y7) (p_1:Y4):Z1 :=
  (V76 big a_0.1 p_1).bind fun rq1 =>
  cond rq1.1
  ((V39 big a_0 p_1).bind fun rq2 =>
  (V44 big rq2.1 p_1).bind fun rq3 =>
  some (rq3.1,(())))
  (some (false,(())))
def V77 (a_0:Y7) (p_1:Y4):Z1:=xae a_0 p_1
def S_V77:Sig:=⟨(.pair Q2 Q14),[0,0],[],.unit,.bool,.i,fun x=>V77 x.1 x.2.1⟩
def A_V77:Cfg:=mkCfg tab [(50,S_V76),(52,S_V39),(51,S_V44)] []
theorem run_V77 (N x):runF A_V77 N Tryz.f25 S_V77 x=V77 x.1 x.2.1:=by kernel_rfl
theorem ok_V77:OK 25 S_V77:=gdR (A:=A_V77) tc Tryz.func25 (jeb ⟨ok_V76,ok_V39,ok_V44,trivial⟩) (run_V77 big)
def wh8 (rec:Y4→Y3→Int→Y4→Int→Option Y2) (k:Y4→Y3→Int→Y4→Option Y2) (a0:Y4) (a3:Y3) (a4:Int) (a5:Y4) (a6:Int):Option Y2 :=
  cond (decide (a6<(a0.length:Int)))
  ((atI a0 a6).bind fun xq2 =>
  cond (decide (xq2=a4))
  ((appI a5 [a6]).bind fun xq3 =>
  rec a0 a3 a4 xq3 (IntKind.i64.wrap (a6+1)))
  (rec a0 a3 a4 a5 (IntKind.i64.wrap (a6+1))))
  (k a0 a3 a4 a5)
def wd1 (rec:Y4→Y3→Int→Option Y2) (a0:Y4) (a3:Y3) (a4:Int) (a5:Y4):Option Y2 :=
  (appI a3 [a5]).bind fun xq4 =>
  rec a0 xq4 (IntKind.i64.wrap (a4+1))
def wd2 (rec:Y4→Y3→Int→Option Y2) (L8:Y4→Y3→Int→Y4→Int→Option Y2) (k:Y3→Option Y2) (a0:Y4) (a3:Y3) (a4:Int):Option Y2 :=
  cond (decide (a4<(a0.length:Int)))
  ((atI a0 a4).bind fun xq1 =>
  cond (decide (xq1≠a4))
  (rec a0 a3 (IntKind.i64.wrap (a4+1)))
  (L8 a0 a3 a4 [] a4))
  (k a3)
def yq (a3:Y3):Option Y2 :=
  some (a3,(()))
def wzl (L3:Y4→Y3→Int→Option Y2) (p_0:Y4):Option Y2 :=
  L3 p_0 [] 0
def wtl (N:Nat) (k:Y4→Y3→Int→Y4→Option Y2):=itN (fun r=>wh8 r k) fun _ _ _ _ _=>none
def wh6 (N:Nat) (rec:Y4→Y3→Int→Option Y2) (k:Y3→Option Y2):=wtl N (wd1 rec) N
def wtk (N:Nat) (k:Y3→Option Y2):=itN (fun r=>wd2 r (wh6 N r k) k) fun _ _ _=>none
def wtj (N:Nat):=wtk N (yq) N
def V78 (N:Nat) (p_0:Y4):Option Y2:=wzl (wtj N) p_0
def S_V78:Sig:=⟨Q14,[0],[],.unit,Q15,O16,fun x=>V78 big x.1⟩
def A_V78:Cfg:=mkCfg tab [] [(6,[B2,D0,D0,.as Q15 O16,B0]),(16,[B2,D0,D0,.as Q15 O16,B0,B3,B0]),(27,(dr 3 [.as Q15 O16])),(25,[B2,D0,D0,.as Q15 O16,B0,B3])]
noncomputable def yp (N n:Nat) (K:Ex→St→Option Y2) (a0:Y4) (a3:Y3) (a4:Int):Option Y2:=itr A_V78 N 6 Tryz.f27 [1,1,0,1,0,0] n ([W2 a0,.u,.u,.val Q15 O16 a3,W0 a4]++us 38) K
noncomputable def wh7 (N n:Nat) (K:Ex→St→Option Y2) (a0:Y4) (a3:Y3) (a4:Int) (a5:Y4) (a6:Int):Option Y2:=itr A_V78 N 16 Tryz.f27 [1,1,0,1,0,0,1,0,0,1,1,0,1,0,0] n ([W2 a0,.u,.u,.val Q15 O16 a3,W0 a4,W3 a5,W0 a6]++us 36) K
noncomputable def wp5:Ex→St→Option Y2:=finish A_V78 S_V78 Tryz.f27.results.toList
noncomputable def wm9 (kX:St→Option Y2) (a3:Y3):Option Y2:=kX ((ud 3 [.val Q15 O16 a3])++us 39)
noncomputable def waq (kX:St→Option Y2) (kO:Nat→St→Option Y2):Ex→St→Option Y2:=exK wp5 0 (A_V78.shape 27) kX kO
noncomputable def w6u (kX:St→Option Y2) (a0:Y4) (a3:Y3) (a4:Int) (a5:Y4):Option Y2:=kX ([W2 a0,.u,.u,.val Q15 O16 a3,W0 a4,W3 a5]++us 37)
noncomputable def w6t (kX:St→Option Y2) (kO:Nat→St→Option Y2):Ex→St→Option Y2:=exK wp5 2 (A_V78.shape 25) kX kO
theorem w6w (N kX kO):∀n,wh7 N n (w6t kX kO)=wtl N (w6u kX) n :=
 itE rfl fun m=>by kernel_rfl
noncomputable def wm8 (N m:Nat) (kX:St→Option Y2) (kO:Nat→St→Option Y2):Ex→St→Option Y2:=(blockK 2 (sqK A_V78 N 25 500012 Tryz.f27 [1,1,0,1,0,0,1,0,0,1,1,1] (blockK 1 (sqK A_V78 N 9 500004 Tryz.f27 [1,1,0,1,0,0,1,1] (itK A_V78 N 6 Tryz.f27 [1,1,0,1,0,0] m (waq kX kO))))))
noncomputable def w6y (N m:Nat) (kX:St→Option Y2) (kO:Nat→St→Option Y2) (st':St):Option Y2:=rn A_V78 N Tryz.f27 [1,1,0,1,0,0,1,0,0,1,1,1] st' (blockK 1 (sqK A_V78 N 9 500004 Tryz.f27 [1,1,0,1,0,0,1,1] (itK A_V78 N 6 Tryz.f27 [1,1,0,1,0,0] m (waq kX kO))))
theorem xdf (N m kX kO) {r}(h:yp N m (waq kX kO)=r):wh7 N N (wm8 N m kX kO)=wh6 N r (wm9 kX):=by
 rw[show wh7 N N (wm8 N m kX kO)=wh7 N N (w6t (w6y N m kX kO) fun j=>(wm8 N m kX kO) (.exit j)) from(by funext _ _ _ _ _;exact jky),w6w,show w6u (w6y N m kX kO)=wd1 (yp N m (waq kX kO)) by kernel_rfl,h];rfl
theorem w6v (N kX kO):∀n,yp N n (waq kX kO)=wtk N (wm9 kX) n :=
 itE rfl fun m=>(show _=wd2 (yp N m (waq kX kO)) (wh7 N N (wm8 N m kX kO)) (wm9 kX) by kernel_rfl).trans (by rw[xdf N m kX kO rfl]<;>rfl)
noncomputable def wm7 (N:Nat):Ex→St→Option Y2:=(blockK 0 (sqK A_V78 N 27 500013 Tryz.f27 [1,1,1] wp5))
noncomputable def w6x (N:Nat) (st':St):Option Y2:=rn A_V78 N Tryz.f27 [1,1,1] st' wp5
theorem xde (N):yp N N (wm7 N)=wtj N:=by
 rw[show yp N N (wm7 N)=yp N N (waq (w6x N) fun j=>(wm7 N) (.exit j)) from(by funext _ _ _;exact jky),w6v,show wm9 (w6x N)=yq by kernel_rfl];rfl
theorem run_V78 (N x):runF A_V78 N Tryz.f27 S_V78 x=V78 N x.1:=(show _=(wzl (yp N N (wm7 N)) x.1) by kernel_rfl).trans (by rw[xde N];rfl)
theorem ok_V78:OK 27 S_V78:=gdR (A:=A_V78) tc Tryz.func27 (jeb trivial) (run_V78 big)
def wia (rec:T98) (k:Z8→Z2) (a2:Y2) (a6:Z8) (a7:Y3) (a8:Int):Z2 :=
  cond (decide (a8<(a7.length:Int)))
  ((atI a7 a8).bind fun _ =>
  (a7[a8.toNat]?).bind fun xq5 =>
  (a7[a8.toNat]?).bind fun xq6 =>
  (V24 big a2 xq6).bind fun rq7 =>
  (V23 big a2).bind fun rq8 =>
  (atI a7 a8).bind fun _ =>
  (a7[a8.toNat]?).bind fun xq9 =>
  (a7[a8.toNat]?).bind fun xq10 =>
  (V24 big rq8.1 xq10).bind fun rq11 =>
  (appI a6 [(rq7.1,(rq11.1,()))]).bind fun xq12 =>
  rec a2 xq12 a7 (IntKind.i64.wrap (a8+1)))
  (k a6)
def wd3 (a6:Z8):Z2 :=
  some ((a6,true,()),(()))
def wp6 (L6:T98) (p_0:Y2) (c_1:Y4):Z2 :=
  (V26 p_0).bind fun rq1 =>
  cond (!rq1.1)
  (some (([],false,()),(())))
  ((V27 big p_0).bind fun rq2 =>
  (V77 rq2.1 c_1).bind fun rq3 =>
  cond (!rq3.1)
  (some (([],false,()),(())))
  ((V78 big c_1).bind fun rq4 =>
  L6 p_0 [] rq4.1 0))
def wtm (N:Nat) (k:Z8→Z2):=itN (fun r=>wia r k) fun _ _ _ _=>none
def wna (N:Nat):=wtm N (wd3) N
def V79 (N:Nat) (p_0:Y2) (c_1:Y4):Z2:=wp6 (wna N) p_0 c_1
def S_V79:Sig:=⟨(.pair Q0 Q14),[0,0],[],.unit,(.tup (.pair Q12 Q19)),(.p O4 .i),fun x=>V79 big x.1 x.2.1⟩
def A_V79:Cfg:=mkCfg tab [(24,S_V26),(26,S_V27),(25,S_V77),(27,S_V78),(28,S_V24),(29,S_V23)] [(12,([D0,D0,B5]++dr 3 [B4,.as Q15 O16,B0])),(19,(dr 6 [B4]))]
noncomputable def wh9 (N n:Nat) (K:T106) (a2:Y2) (a6:Z8) (a7:Y3) (a8:Int):Z2:=itr A_V79 N 12 Tryz.f7 [1,1,1,1,0,1,0,0] n (([.u,.u,W5 a2]++ud 3 [W4 a6,.val Q15 O16 a7,W0 a8])++us 38) K
noncomputable def wzm:Ex→St→Z2:=finish A_V79 S_V79 Tryz.f7.results.toList
noncomputable def w60 (kX:T88) (a6:Z8):Z2:=kX ((ud 6 [W4 a6])++us 40)
noncomputable def w6z (kX:T88) (kO:T83):=exK wzm 0 (A_V79.shape 19) kX kO
theorem w61 (N kX kO):∀n,wh9 N n (w6z kX kO)=wtm N (w60 kX) n :=
 itE rfl fun m=>by kernel_rfl
noncomputable def wnb (N:Nat):=(blockK 0 (sqK A_V79 N 19 500009 Tryz.f7 [1,1,1,1,1] wzm))
noncomputable def w62 (N:Nat) (st':St):Z2:=rn A_V79 N Tryz.f7 [1,1,1,1,1] st' wzm
theorem xdg (N):wh9 N N (wnb N)=wna N:=by
 rw[show wh9 N N (wnb N)=wh9 N N (w6z (w62 N) fun j=>(wnb N) (.exit j)) from(by funext _ _ _ _;exact jky),w61,show w60 (w62 N)=wd3 by kernel_rfl];rfl
theorem run_V79 (N x):runF A_V79 N Tryz.f7 S_V79 x=V79 N x.1 x.2.1:=(show _=(wp6 (wh9 N N (wnb N)) x.1 x.2.1) by kernel_rfl).trans (by rw[xdg N];rfl)
theorem ok_V79:OK 7 S_V79:=gdR (A:=A_V79) tc Tryz.func7 (jeb ⟨ok_V26,ok_V27,ok_V77,ok_V78,ok_V24,ok_V23,trivial⟩) (run_V79 big)
def xai (n_0:Int):Z1 :=
  cond (decide (1≤n_0))
  (some (decide (n_0≤8),(())))
  (some (false,(())))
def V80 (n_0:Int):Z1:=xai n_0
def S_V80:Sig:=⟨Q24,[0],[],.unit,.bool,.i,fun x=>V80 x.1⟩
def A_V80:Cfg:=mkCfg tab [] []
theorem run_V80 (N x):runF A_V80 N Tryz.f30 S_V80 x=V80 x.1:=by kernel_rfl
theorem ok_V80:OK 30 S_V80:=gdR (A:=A_V80) tc Tryz.func30 (jeb trivial) (run_V80 big)
def xaj (n_0:Int) (p_1:Y4):Z9 :=
  (V80 n_0).bind fun rq1 =>
  cond (!rq1.1)
  (some (([],false,()),(())))
  ((V66 big n_0 p_1).bind fun rq2 =>
  cond (!rq2.1)
  (some (([],false,()),(())))
  ((vn p_1).bind fun rq3 =>
  some ((rq3.1,true,()),(()))))
def V81 (n_0:Int) (p_1:Y4):Z9:=xaj n_0 p_1
def S_V81:Sig:=⟨Q9,[0,0],[],.unit,(.tup (.pair Q15 Q19)),(.p O16 .i),fun x=>V81 x.1 x.2.1⟩
def A_V81:Cfg:=mkCfg tab [(30,S_V80),(31,S_V66),(21,xi)] []
theorem run_V81 (N x):runF A_V81 N Tryz.f8 S_V81 x=V81 x.1 x.2.1:=by kernel_rfl
theorem ok_V81:OK 8 S_V81:=gdR (A:=A_V81) tc Tryz.func8 (jeb ⟨ok_V80,ok_V66,⟨way,yz⟩,trivial⟩) (run_V81 big)
def xak (o_0:Y5) (list_1:Y4):Z1 :=
  (V54 big list_1 (o_0.length:Int)).bind fun rq1 =>
  some (rq1.1,(()))
def V82 (o_0:Y5) (list_1:Y4):Z1:=xak o_0 list_1
def S_V82:Sig:=⟨(.pair Q6 Q14),[0,0],[],.unit,.bool,.i,fun x=>V82 x.1 x.2.1⟩
def A_V82:Cfg:=mkCfg tab [(58,S_V54)] []
theorem run_V82 (N x):runF A_V82 N Tryz.f33 S_V82 x=V82 x.1 x.2.1:=by kernel_rfl
theorem ok_V82:OK 33 S_V82:=gdR (A:=A_V82) tc Tryz.func33 (jeb ⟨ok_V54,trivial⟩) (run_V82 big)
def xal (z_0:Int) (p_1:Y5) (p_2 p_3:Int):Z1 :=
  (atI p_1 p_2).bind fun xq1 =>
  (atI xq1 z_0).bind fun xq2 =>
  cond xq2
  ((atI p_1 z_0).bind fun xq3 =>
  (atI xq3 p_3).bind fun xq4 =>
  some (xq4,(())))
  (some (false,(())))
def V83 (z_0:Int) (p_1:Y5) (p_2 p_3:Int):Z1:=xal z_0 p_1 p_2 p_3
def S_V83:Sig:=⟨(.pair I Q13),[0,0,0,0],[],.unit,.bool,.i,fun x=>V83 x.1 x.2.1 x.2.2.1 x.2.2.2.1⟩
def A_V83:Cfg:=mkCfg tab [] []
theorem run_V83 (N x):runF A_V83 N Tryz.f60 S_V83 x=V83 x.1 x.2.1 x.2.2.1 x.2.2.2.1:=by kernel_rfl
theorem ok_V83:OK 60 S_V83:=gdR (A:=A_V83) tc Tryz.func60 (jeb trivial) (run_V83 big)
def wic (rec:T18) (k:T77) (a1:(Y5×Z0)) (a5:Y4) (a9 a10:Int):Z5 :=
  cond (decide (a10<a9))
  ((V83 a10 a1.1 a1.2.1 a1.2.2.1).bind fun rq1 =>
  cond rq1.1
  ((appI a5 [a10]).bind fun xq2 =>
  rec a1 xq2 a9 (IntKind.i64.wrap (a10+1)))
  (rec a1 a5 a9 (IntKind.i64.wrap (a10+1))))
  (k a5)
def wd4 (a5:Y4):Z5 :=
  some (a5,(()))
def wzp (L3:T18) (o_0:Y5) (so_1:(Y5×Z0)):Z5 :=
  L3 so_1 [] (o_0.length:Int) 0
def wto (N:Nat) (k:T77):=itN (fun r=>wic r k) fun _ _ _ _=>none
def wtn (N:Nat):=wto N (wd4) N
def V84 (N:Nat) (o_0:Y5) (so_1:(Y5×Z0)):Z5:=wzp (wtn N) o_0 so_1
def S_V84:Sig:=⟨(.pair Q6 (.pair (.clo 60 0 Q13) .unit)),[0,0],[],.unit,Q7,O4,fun x=>V84 big x.1 x.2.1⟩
def A_V84:Cfg:=mkCfg tab [(60,S_V83)] [(6,([D0,.as (.clo 60 0 Q13) .i]++dr 3 ([B3]++dr 3 [B0,B0]))),(17,(dr 5 [B3]))]
noncomputable def wib (N n:Nat) (K:T72) (a1:(Y5×Z0)) (a5:Y4) (a9 a10:Int):Z5:=itr A_V84 N 6 Tryz.f59 [1,1,0,1,0,0] n (([.u,.val (.clo 60 0 Q13) .i a1]++ud 3 ([W3 a5]++ud 3 [W0 a9,W0 a10]))++us 11) K
noncomputable def wzq:Ex→St→Z5:=finish A_V84 S_V84 Tryz.f59.results.toList
noncomputable def w64 (kX:T44) (a5:Y4):Z5:=kX ((ud 5 [W3 a5])++us 16)
noncomputable def w63 (kX:T44) (kO:T34):=exK wzq 0 (A_V84.shape 17) kX kO
theorem w65 (N kX kO):∀n,wib N n (w63 kX kO)=wto N (w64 kX) n :=
 itE rfl fun m=>by kernel_rfl
noncomputable def wne (N:Nat):=(blockK 0 (sqK A_V84 N 17 500008 Tryz.f59 [1,1,1] wzq))
noncomputable def w66 (N:Nat) (st':St):Z5:=rn A_V84 N Tryz.f59 [1,1,1] st' wzq
theorem xdh (N):wib N N (wne N)=wtn N:=by
 rw[show wib N N (wne N)=wib N N (w63 (w66 N) fun j=>(wne N) (.exit j)) from(by funext _ _ _ _;exact jky),w65,show w64 (w66 N)=wd4 by kernel_rfl];rfl
theorem run_V84 (N x):runF A_V84 N Tryz.f59 S_V84 x=V84 N x.1 x.2.1:=(show _=(wzp (wib N N (wne N)) x.1 x.2.1) by kernel_rfl).trans (by rw[xdh N];rfl)
theorem ok_V84:OK 59 S_V84:=gdR (A:=A_V84) tc Tryz.func59 (jeb ⟨ok_V83,trivial⟩) (run_V84 big)
def xam (o_0:Y5) (x_1 y_2:Int):Z5 :=
  (V84 big o_0 (o_0,x_1,y_2,())).bind fun rq1 =>
  some (rq1.1,(()))
def V85 (o_0:Y5) (x_1 y_2:Int):Z5:=xam o_0 x_1 y_2
def S_V85:Sig:=⟨(.pair Q6 Q3),[0,0,0],[],.unit,Q7,O4,fun x=>V85 x.1 x.2.1 x.2.2.1⟩
def A_V85:Cfg:=mkCfg tab [(59,S_V84)] [(3,(dr 3 [.as (.ptr Q6) .i,.as (.ptr I) .i,.as (.ptr I) .i]))]
theorem run_V85 (N x):runF A_V85 N Tryz.f34 S_V85 x=V85 x.1 x.2.1 x.2.2.1:=by kernel_rfl
theorem ok_V85:OK 34 S_V85:=gdR (A:=A_V85) tc Tryz.func34 (jeb ⟨ok_V84,trivial⟩) (run_V85 big)
def xan (p_0:Y2) (x_1 y_2:Int):Option ((Y4×(Bool×Unit))×Unit) :=
  (V62 p_0).bind fun rq1 =>
  cond (!rq1.1.2.1)
  (some (([],false,()),(())))
  ((rq1.1.1).bind fun xq2 =>
  (V82 xq2.1 [x_1,y_2]).bind fun rq3 =>
  cond (!rq3.1)
  (some (([],false,()),(())))
  ((rq1.1.1).bind fun xq4 =>
  (atI xq4.1 x_1).bind fun xq5 =>
  (atI xq5 y_2).bind fun xq6 =>
  cond (!xq6)
  (some (([],false,()),(())))
  ((rq1.1.1).bind fun xq7 =>
  (V85 xq7.1 x_1 y_2).bind fun rq8 =>
  some ((rq8.1,true,()),(())))))
def V86 (p_0:Y2) (x_1 y_2:Int):Option ((Y4×(Bool×Unit))×Unit):=xan p_0 x_1 y_2
def S_V86:Sig:=⟨(.pair Q0 Q3),[0,0,0],[],.unit,(.tup (.pair Q7 Q19)),(.p O4 .i),fun x=>V86 x.1 x.2.1 x.2.2.1⟩
def A_V86:Cfg:=mkCfg tab [(32,S_V62),(33,S_V82),(34,S_V85)] []
theorem run_V86 (N x):runF A_V86 N Tryz.f9 S_V86 x=V86 x.1 x.2.1 x.2.2.1:=by kernel_rfl
theorem ok_V86:OK 9 S_V86:=gdR (A:=A_V86) tc Tryz.func9 (jeb ⟨ok_V62,ok_V82,ok_V85,trivial⟩) (run_V86 big)
def wie (rec:T10) (k:Z1) (a0 a1:Y4) (a5:Int):Z1 :=
  cond (decide (a5<(a0.length:Int)))
  ((atI a0 a5).bind fun xq1 =>
  (atI a1 a5).bind fun xq2 =>
  cond (decide (xq1≠xq2))
  (some (false,(())))
  (rec a0 a1 (IntKind.i64.wrap (a5+1))))
  (k)
def wd5:Z1 :=
  some (true,(()))
def wzr (L4:T10) (a_0 b_1:Y4):Z1 :=
  cond (decide ((a_0.length:Int)≠(b_1.length:Int)))
  (some (false,(())))
  (L4 a_0 b_1 0)
def wtq (N:Nat) (k:Z1):=itN (fun r=>wie r k) fun _ _ _=>none
def wtp (N:Nat):=wtq N (wd5) N
def V87 (N:Nat) (a_0 b_1:Y4):Z1:=wzr (wtp N) a_0 b_1
def S_V87:Sig:=⟨(.pair Q7 Q14),[0,0],[],.unit,.bool,.i,fun x=>V87 big x.1 x.2.1⟩
def A_V87:Cfg:=mkCfg tab [] [(8,([B2,B2]++dr 3 [B0])),(17,[])]
noncomputable def wid (N n:Nat) (K:T5) (a0 a1:Y4) (a5:Int):Z1:=itr A_V87 N 8 Tryz.f10 [1,1,0,1,0,0] n (([W2 a0,W2 a1]++ud 3 [W0 a5])++us 20) K
noncomputable def wzs:Ex→St→Z1:=finish A_V87 S_V87 Tryz.f10.results.toList
noncomputable def w68 (kX:T3):Z1:=kX ([]++us 26)
noncomputable def w67 (kX:T3) (kO:T1):=exK wzs 0 (A_V87.shape 17) kX kO
theorem w69 (N kX kO):∀n,wid N n (w67 kX kO)=wtq N (w68 kX) n :=
 itE rfl fun m=>by kernel_rfl
noncomputable def wnf (N:Nat):=(blockK 0 (sqK A_V87 N 17 500008 Tryz.f10 [1,1,1] wzs))
noncomputable def w7a (N:Nat) (st':St):Z1:=rn A_V87 N Tryz.f10 [1,1,1] st' wzs
theorem xdi (N):wid N N (wnf N)=wtp N:=by
 rw[show wid N N (wnf N)=wid N N (w67 (w7a N) fun j=>(wnf N) (.exit j)) from(by funext _ _ _;exact jky),w69,show w68 (w7a N)=wd5 by kernel_rfl];rfl
theorem run_V87 (N x):runF A_V87 N Tryz.f10 S_V87 x=V87 N x.1 x.2.1:=(show _=(wzr (wid N N (wnf N)) x.1 x.2.1) by kernel_rfl).trans (by rw[xdi N];rfl)
theorem ok_V87:OK 10 S_V87:=gdR (A:=A_V87) tc Tryz.func10 (jeb trivial) (run_V87 big)
def xao (o_0:Y5) (x_1 y_2:Int):Z1 :=
  cond (decide (x_1≠y_2))
  ((atI o_0 x_1).bind fun xq1 =>
  (atI xq1 y_2).bind fun xq2 =>
  some (xq2,(())))
  (some (false,(())))
def V88 (o_0:Y5) (x_1 y_2:Int):Z1:=xao o_0 x_1 y_2
def S_V88:Sig:=⟨(.pair Q6 Q3),[0,0,0],[],.unit,.bool,.i,fun x=>V88 x.1 x.2.1 x.2.2.1⟩
def A_V88:Cfg:=mkCfg tab [] []
theorem run_V88 (N x):runF A_V88 N Tryz.f89 S_V88 x=V88 x.1 x.2.1 x.2.2.1:=by kernel_rfl
theorem ok_V88:OK 89 S_V88:=gdR (A:=A_V88) tc Tryz.func89 (jeb trivial) (run_V88 big)
def wig (rec:T75) (k:Z1) (a0:Y5) (a1 a2 a14 a15:Int):Z1 :=
  cond (decide (a15<a14))
  ((V88 a0 a1 a15).bind fun rq2 =>
  cond rq2.1
  ((V88 a0 a15 a2).bind fun rq3 =>
  cond rq3.1
  (some (false,(())))
  (rec a0 a1 a2 a14 (IntKind.i64.wrap (a15+1))))
  (rec a0 a1 a2 a14 (IntKind.i64.wrap (a15+1))))
  (k)
def wd6:Z1 :=
  some (true,(()))
def wzt (L4:T75) (o_0:Y5) (x_1 y_2:Int):Z1 :=
  (V88 o_0 x_1 y_2).bind fun rq1 =>
  cond (!rq1.1)
  (some (false,(())))
  (L4 o_0 x_1 y_2 (o_0.length:Int) 0)
def wts (N:Nat) (k:Z1):=itN (fun r=>wig r k) fun _ _ _ _ _=>none
def wtr (N:Nat):=wts N (wd6) N
def V89 (N:Nat) (o_0:Y5) (x_1 y_2:Int):Z1:=wzt (wtr N) o_0 x_1 y_2
def S_V89:Sig:=⟨(.pair Q6 Q3),[0,0,0],[],.unit,.bool,.i,fun x=>V89 big x.1 x.2.1 x.2.2.1⟩
def A_V89:Cfg:=mkCfg tab [(89,S_V88)] [(8,([.as Q6 .i,B0,B0]++dr 11 [B0,B0])),(19,[])]
noncomputable def wif (N n:Nat) (K:T5) (a0:Y5) (a1 a2 a14 a15:Int):Z1:=itr A_V89 N 8 Tryz.f61 [1,1,0,1,0,0] n (([.val Q6 .i a0,W0 a1,W0 a2]++ud 11 [W0 a14,W0 a15])++us 13) K
noncomputable def wzu:Ex→St→Z1:=finish A_V89 S_V89 Tryz.f61.results.toList
noncomputable def w7c (kX:T3):Z1:=kX ([]++us 29)
noncomputable def w7b (kX:T3) (kO:T1):=exK wzu 0 (A_V89.shape 19) kX kO
theorem w7d (N kX kO):∀n,wif N n (w7b kX kO)=wts N (w7c kX) n :=
 itE rfl fun m=>by kernel_rfl
noncomputable def wng (N:Nat):=(blockK 0 (sqK A_V89 N 19 500009 Tryz.f61 [1,1,1] wzu))
noncomputable def w7e (N:Nat) (st':St):Z1:=rn A_V89 N Tryz.f61 [1,1,1] st' wzu
theorem xdj (N):wif N N (wng N)=wtr N:=by
 rw[show wif N N (wng N)=wif N N (w7b (w7e N) fun j=>(wng N) (.exit j)) from(by funext _ _ _ _ _;exact jky),w7d,show w7c (w7e N)=wd6 by kernel_rfl];rfl
theorem run_V89 (N x):runF A_V89 N Tryz.f61 S_V89 x=V89 N x.1 x.2.1 x.2.2.1:=(show _=(wzt (wif N N (wng N)) x.1 x.2.1 x.2.2.1) by kernel_rfl).trans (by rw[xdj N];rfl)
theorem ok_V89:OK 61 S_V89:=gdR (A:=A_V89) tc Tryz.func61 (jeb ⟨ok_V88,trivial⟩) (run_V89 big)
def wij (rec:T47) (k:T32) (a0:Y5) (a3:Z8) (a4 a8 a9 a13 a14:Int):Z11 :=
  cond (decide (a14<a13))
  ((V89 big a0 a4 a14).bind fun rq1 =>
  cond rq1.1
  ((appI a3 [(a4,(a14,()))]).bind fun xq2 =>
  rec a0 xq2 a4 a8 a9 a13 (IntKind.i64.wrap (a14+1)))
  (rec a0 a3 a4 a8 a9 a13 (IntKind.i64.wrap (a14+1))))
  (k a0 a3 a8 a9)
def wd8 (rec:T32) (a0:Y5) (a3:Z8) (a8 a9:Int):Z11 :=
  rec a0 a3 a8 (IntKind.i64.wrap (a9+1))
def wd9 (L6:T47) (k:Z8→Z11) (a0:Y5) (a3:Z8) (a8 a9:Int):Z11 :=
  cond (decide (a9<a8))
  (L6 a0 a3 a9 a8 a9 (a0.length:Int) 0)
  (k a3)
def yr (a3:Z8):Z11 :=
  some (a3,(()))
def wzx (L3:T32) (o_0:Y5):Z11 :=
  L3 o_0 [] (o_0.length:Int) 0
def wtv (N:Nat) (k:T32):=itN (fun r=>wij r k) fun _ _ _ _ _ _ _=>none
def wih (N:Nat) (rec:T32) (k:Z8→Z11):=wtv N (wd8 rec) N
def wtu (N:Nat) (k:Z8→Z11):=itN (fun r=>wd9 (wih N r k) k) fun _ _ _ _=>none
def wtt (N:Nat):=wtu N (yr) N
def V90 (N:Nat) (o_0:Y5):Z11:=wzx (wtt N) o_0
def S_V90:Sig:=⟨(.pair Q6 .unit),[0],[],.unit,Q12,O4,fun x=>V90 big x.1⟩
def A_V90:Cfg:=mkCfg tab [(61,S_V89)] [(6,([.as Q6 .i,D0,D0,B4]++dr 4 [B0,B0])),(12,([.as Q6 .i,D0,D0,B4,B0]++dr 3 ([B0,B0]++dr 3 [B0,B0]))),(25,(dr 3 [B4])),(23,([.as Q6 .i,D0,D0,B4]++dr 4 [B0,B0]))]
noncomputable def war (N n:Nat) (K:Ex→St→Z11) (a0:Y5) (a3:Z8) (a8 a9:Int):Z11:=itr A_V90 N 6 Tryz.f35 [1,1,0,1,0,0] n (([.val Q6 .i a0,.u,.u,W4 a3]++ud 4 [W0 a8,W0 a9])++us 20) K
noncomputable def wii (N n:Nat) (K:Ex→St→Z11) (a0:Y5) (a3:Z8) (a4 a8 a9 a13 a14:Int):Z11:=itr A_V90 N 12 Tryz.f35 [1,1,0,1,0,0,1,1,0,0,1,1,0,0] n (([.val Q6 .i a0,.u,.u,W4 a3,W0 a4]++ud 3 ([W0 a8,W0 a9]++ud 3 [W0 a13,W0 a14]))++us 15) K
noncomputable def wp9:Ex→St→Z11:=finish A_V90 S_V90 Tryz.f35.results.toList
noncomputable def wnl (kX:T101) (a3:Z8):Z11:=kX ((ud 3 [W4 a3])++us 26)
noncomputable def wd7 (kX:T101) (kO:T86):=exK wp9 0 (A_V90.shape 25) kX kO
noncomputable def w7g (kX:T101) (a0:Y5) (a3:Z8) (a8 a9:Int):Z11:=kX (([.val Q6 .i a0,.u,.u,W4 a3]++ud 4 [W0 a8,W0 a9])++us 20)
noncomputable def w7f (kX:T101) (kO:T86):=exK wp9 2 (A_V90.shape 23) kX kO
theorem w7i (N kX kO):∀n,wii N n (w7f kX kO)=wtv N (w7g kX) n :=
 itE rfl fun m=>by kernel_rfl
noncomputable def wnk (N m:Nat) (kX:T101) (kO:T86):=(blockK 2 (blockK 1 (sqK A_V90 N 23 500011 Tryz.f35 [1,1,0,1,0,0,1,1,1] (itK A_V90 N 6 Tryz.f35 [1,1,0,1,0,0] m (wd7 kX kO)))))
noncomputable def w7k (N m:Nat) (kX:T101) (kO:T86) (st':St):Z11:=rn A_V90 N Tryz.f35 [1,1,0,1,0,0,1,1,1] st' (itK A_V90 N 6 Tryz.f35 [1,1,0,1,0,0] m (wd7 kX kO))
theorem xdl (N m kX kO) {r}(h:war N m (wd7 kX kO)=r):wii N N (wnk N m kX kO)=wih N r (wnl kX):=by
 rw[show wii N N (wnk N m kX kO)=wii N N (w7f (w7k N m kX kO) fun j=>(wnk N m kX kO) (.exit j)) from(by funext _ _ _ _ _ _ _;exact jky),w7i,show w7g (w7k N m kX kO)=wd8 (war N m (wd7 kX kO)) by kernel_rfl,h];rfl
theorem w7h (N kX kO):∀n,war N n (wd7 kX kO)=wtu N (wnl kX) n :=
 itE rfl fun m=>(show _=wd9 (wii N N (wnk N m kX kO)) (wnl kX) by kernel_rfl).trans (by rw[xdl N m kX kO rfl]<;>rfl)
noncomputable def wnj (N:Nat):=(blockK 0 (sqK A_V90 N 25 500012 Tryz.f35 [1,1,1] wp9))
noncomputable def w7j (N:Nat) (st':St):Z11:=rn A_V90 N Tryz.f35 [1,1,1] st' wp9
theorem xdk (N):war N N (wnj N)=wtt N:=by
 rw[show war N N (wnj N)=war N N (wd7 (w7j N) fun j=>(wnj N) (.exit j)) from(by funext _ _ _ _;exact jky),w7h,show wnl (w7j N)=yr by kernel_rfl];rfl
theorem run_V90 (N x):runF A_V90 N Tryz.f35 S_V90 x=V90 N x.1:=(show _=(wzx (war N N (wnj N)) x.1) by kernel_rfl).trans (by rw[xdk N];rfl)
theorem ok_V90:OK 35 S_V90:=gdR (A:=A_V90) tc Tryz.func35 (jeb ⟨ok_V89,trivial⟩) (run_V90 big)
def wil (rec:T81) (k:Z8→Z2) (a1:Y4) (a8 a31:Z8) (a32 a33:Int):Z2 :=
  cond (decide (a33<a32))
  ((atI a31 a33).bind fun _ =>
  (a31[a33.toNat]?).bind fun xq6 =>
  (atI a1 xq6.1).bind fun xq7 =>
  (atI a1 xq6.2.1).bind fun xq8 =>
  cond (decide (xq7=xq8))
  ((appI a8 [xq6]).bind fun xq9 =>
  rec a1 xq9 a31 a32 (IntKind.i64.wrap (a33+1)))
  (rec a1 a8 a31 a32 (IntKind.i64.wrap (a33+1))))
  (k a8)
def wea (a8:Z8):Z2 :=
  some ((a8,true,()),(()))
def wzy (L6:T81) (p_0:Y2) (c_1:Y4):Z2 :=
  (V63 p_0).bind fun rq1 =>
  cond (!rq1.1.2.1)
  (some (([],false,()),(())))
  ((V65 rq1.1.1).bind fun rq2 =>
  (V70 rq2.1 c_1).bind fun rq3 =>
  cond (!rq3.1)
  (some (([],false,()),(())))
  ((rq1.1.1).bind fun xq4 =>
  (V90 big xq4.1).bind fun rq5 =>
  L6 c_1 [] rq5.1 (rq5.1.length:Int) 0))
def wtw (N:Nat) (k:Z8→Z2):=itN (fun r=>wil r k) fun _ _ _ _ _=>none
def wnm (N:Nat):=wtw N (wea) N
def V91 (N:Nat) (p_0:Y2) (c_1:Y4):Z2:=wzy (wnm N) p_0 c_1
def S_V91:Sig:=⟨(.pair Q0 Q14),[0,0],[],.unit,(.tup (.pair Q12 Q19)),(.p O4 .i),fun x=>V91 big x.1 x.2.1⟩
def A_V91:Cfg:=mkCfg tab [(18,S_V63),(20,S_V65),(19,S_V70),(35,S_V90)] [(12,([D0,B2]++dr 6 ([B4]++dr 22 [B4,B0,B0]))),(23,(dr 8 [B4]))]
noncomputable def wik (N n:Nat) (K:T106) (a1:Y4) (a8 a31:Z8) (a32 a33:Int):Z2:=itr A_V91 N 12 Tryz.f11 [1,1,1,1,0,1,0,0] n (([.u,W2 a1]++ud 6 ([W4 a8]++ud 22 [W4 a31,W0 a32,W0 a33]))++us 20) K
noncomputable def wzz:Ex→St→Z2:=finish A_V91 S_V91 Tryz.f11.results.toList
noncomputable def w7m (kX:T88) (a8:Z8):Z2:=kX ((ud 8 [W4 a8])++us 45)
noncomputable def w7l (kX:T88) (kO:T83):=exK wzz 0 (A_V91.shape 23) kX kO
theorem w7n (N kX kO):∀n,wik N n (w7l kX kO)=wtw N (w7m kX) n :=
 itE rfl fun m=>by kernel_rfl
noncomputable def wnn (N:Nat):=(blockK 0 (sqK A_V91 N 23 500011 Tryz.f11 [1,1,1,1,1] wzz))
noncomputable def w7o (N:Nat) (st':St):Z2:=rn A_V91 N Tryz.f11 [1,1,1,1,1] st' wzz
theorem xdm (N):wik N N (wnn N)=wnm N:=by
 rw[show wik N N (wnn N)=wik N N (w7l (w7o N) fun j=>(wnn N) (.exit j)) from(by funext _ _ _ _ _;exact jky),w7n,show w7m (w7o N)=wea by kernel_rfl];rfl
theorem run_V91 (N x):runF A_V91 N Tryz.f11 S_V91 x=V91 N x.1 x.2.1:=(show _=(wzy (wik N N (wnn N)) x.1 x.2.1) by kernel_rfl).trans (by rw[xdm N];rfl)
theorem ok_V91:OK 11 S_V91:=gdR (A:=A_V91) tc Tryz.func11 (jeb ⟨ok_V63,ok_V65,ok_V70,ok_V90,trivial⟩) (run_V91 big)
def wio (rec:T99) (k:Z8→Z2) (a1:Y4) (a6 a7:Z8) (a8:Int):Z2 :=
  cond (decide (a8<(a7.length:Int)))
  ((atI a7 a8).bind fun _ =>
  (a7[a8.toNat]?).bind fun xq5 =>
  (a7[a8.toNat]?).bind fun xq6 =>
  (atI a1 xq6.1).bind fun xq7 =>
  (atI a7 a8).bind fun _ =>
  (a7[a8.toNat]?).bind fun xq8 =>
  (a7[a8.toNat]?).bind fun xq9 =>
  (atI a1 xq9.2.1).bind fun xq10 =>
  cond (decide (xq7=xq10))
  ((atI a7 a8).bind fun _ =>
  (a7[a8.toNat]?).bind fun xq11 =>
  (appI a6 [xq11]).bind fun xq12 =>
  rec a1 xq12 a7 (IntKind.i64.wrap (a8+1)))
  (rec a1 a6 a7 (IntKind.i64.wrap (a8+1))))
  (k a6)
def web (a6:Z8):Z2 :=
  some ((a6,true,()),(()))
def wz0 (L6:T99) (p_0:Y2) (c_1:Y4):Z2 :=
  (V26 p_0).bind fun rq1 =>
  cond (!rq1.1)
  (some (([],false,()),(())))
  ((V27 big p_0).bind fun rq2 =>
  (V77 rq2.1 c_1).bind fun rq3 =>
  cond (!rq3.1)
  (some (([],false,()),(())))
  ((V18 big p_0).bind fun rq4 =>
  L6 c_1 [] rq4.1 0))
def wtx (N:Nat) (k:Z8→Z2):=itN (fun r=>wio r k) fun _ _ _ _=>none
def wno (N:Nat):=wtx N (web) N
def V92 (N:Nat) (p_0:Y2) (c_1:Y4):Z2:=wz0 (wno N) p_0 c_1
def S_V92:Sig:=⟨(.pair Q0 Q14),[0,0],[],.unit,(.tup (.pair Q12 Q19)),(.p O4 .i),fun x=>V92 big x.1 x.2.1⟩
def A_V92:Cfg:=mkCfg tab [(24,S_V26),(26,S_V27),(25,S_V77),(36,S_V18)] [(12,([D0,B2]++dr 4 [B4,B4,B0])),(21,(dr 6 [B4]))]
noncomputable def wim (N n:Nat) (K:T106) (a1:Y4) (a6 a7:Z8) (a8:Int):Z2:=itr A_V92 N 12 Tryz.f12 [1,1,1,1,0,1,0,0] n (([.u,W2 a1]++ud 4 [W4 a6,W4 a7,W0 a8])++us 45) K
noncomputable def wz1:Ex→St→Z2:=finish A_V92 S_V92 Tryz.f12.results.toList
noncomputable def w7q (kX:T88) (a6:Z8):Z2:=kX ((ud 6 [W4 a6])++us 47)
noncomputable def w7p (kX:T88) (kO:T83):=exK wz1 0 (A_V92.shape 21) kX kO
theorem w7r (N kX kO):∀n,wim N n (w7p kX kO)=wtx N (w7q kX) n :=
 itE rfl fun m=>by kernel_rfl
noncomputable def wnp (N:Nat):=(blockK 0 (sqK A_V92 N 21 500010 Tryz.f12 [1,1,1,1,1] wz1))
noncomputable def w7s (N:Nat) (st':St):Z2:=rn A_V92 N Tryz.f12 [1,1,1,1,1] st' wz1
theorem xdn (N):wim N N (wnp N)=wno N:=by
 rw[show wim N N (wnp N)=wim N N (w7p (w7s N) fun j=>(wnp N) (.exit j)) from(by funext _ _ _ _;exact jky),w7r,show w7q (w7s N)=web by kernel_rfl];rfl
theorem run_V92 (N x):runF A_V92 N Tryz.f12 S_V92 x=V92 N x.1 x.2.1:=(show _=(wz0 (wim N N (wnp N)) x.1 x.2.1) by kernel_rfl).trans (by rw[xdn N];rfl)
theorem ok_V92:OK 12 S_V92:=gdR (A:=A_V92) tc Tryz.func12 (jeb ⟨ok_V26,ok_V27,ok_V77,ok_V18,trivial⟩) (run_V92 big)
def xas (l_0:Y1) (x_1 y_2:Int):Z1 :=
  (l_0).bind fun xq1 =>
  (V82 xq1.1 [x_1,y_2]).bind fun rq2 =>
  cond rq2.1
  ((l_0).bind fun xq3 =>
  (V89 big xq3.1 x_1 y_2).bind fun rq4 =>
  some (rq4.1,(())))
  (some (false,(())))
def V93 (l_0:Y1) (x_1 y_2:Int):Z1:=xas l_0 x_1 y_2
def S_V93:Sig:=⟨(.pair Q10 Q3),[0,0,0],[],.unit,.bool,.i,fun x=>V93 x.1 x.2.1 x.2.2.1⟩
def A_V93:Cfg:=mkCfg tab [(33,S_V82),(61,S_V89)] []
theorem run_V93 (N x):runF A_V93 N Tryz.f37 S_V93 x=V93 x.1 x.2.1 x.2.2.1:=by kernel_rfl
theorem ok_V93:OK 37 S_V93:=gdR (A:=A_V93) tc Tryz.func37 (jeb ⟨ok_V82,ok_V89,trivial⟩) (run_V93 big)
def xat (l_0:Y1) (e_1 f_2:Z0):Z1 :=
  (l_0).bind fun xq1 =>
  (atI xq1.2.2.1 e_1.2.1).bind fun xq2 =>
  (atI xq2 f_2.1).bind fun xq3 =>
  cond (decide (xq3=f_2.2.1))
  ((l_0).bind fun xq4 =>
  (atI xq4.2.1 e_1.2.1).bind fun xq5 =>
  (atI xq5 f_2.1).bind fun xq6 =>
  some (decide (xq6=e_1.1),(())))
  (some (false,(())))
def V94 (l_0:Y1) (e_1 f_2:Z0):Z1:=xat l_0 e_1 f_2
def S_V94:Sig:=⟨(.pair Q10 (.pair Q3 (.pair Q3 .unit))),[0,0,0],[],.unit,.bool,.i,fun x=>V94 x.1 x.2.1 x.2.2.1⟩
def A_V94:Cfg:=mkCfg tab [] []
theorem run_V94 (N x):runF A_V94 N Tryz.f38 S_V94 x=V94 x.1 x.2.1 x.2.2.1:=by kernel_rfl
theorem ok_V94:OK 38 S_V94:=gdR (A:=A_V94) tc Tryz.func38 (jeb trivial) (run_V94 big)
def weg (rec:T79) (k:Z8→Z2) (a10:Z16) (a15 a92:Z8) (a93 a94:Int):Z2 :=
  cond (decide (a94<a93))
  ((atI a92 a94).bind fun _ =>
  (a92[a94.toNat]?).bind fun xq14 =>
  cond (Option.getD (mget Q3 .bool a10 xq14) false)
  ((appI a15 [xq14]).bind fun xq15 =>
  rec a10 xq15 a92 a93 (IntKind.i64.wrap (a94+1)))
  (rec a10 a15 a92 a93 (IntKind.i64.wrap (a94+1))))
  (k a15)
def zu (a15:Z8):Z2 :=
  some ((a15,true,()),(()))
def wef (rec:T48) (k:T33) (a8:Y1) (a10:Z16) (a11:Z8) (a12:Int) (a52:Z8) (a53 a54:Int):Z2 :=
  cond (decide (a54<a53))
  ((atI a52 a54).bind fun _ =>
  (a52[a54.toNat]?).bind fun xq7 =>
  cond (!(Option.getD (mget Q3 .bool a10 xq7) false))
  ((atI a11 a12).bind fun _ =>
  (a11[a12.toNat]?).bind fun xq8 =>
  (V94 a8 xq8 xq7).bind fun rq9 =>
  cond rq9.1
  ((appI a11 [xq7]).bind fun xq10 =>
  rec a8 (mput Q3 .bool a10 xq7 true) xq10 a12 a52 a53 (IntKind.i64.wrap (a54+1)))
  ((atI a11 a12).bind fun _ =>
  (a11[a12.toNat]?).bind fun xq11 =>
  (V94 a8 xq7 xq11).bind fun rq12 =>
  cond rq12.1
  ((appI a11 [xq7]).bind fun xq13 =>
  rec a8 (mput Q3 .bool a10 xq7 true) xq13 a12 a52 a53 (IntKind.i64.wrap (a54+1)))
  (rec a8 a10 a11 a12 a52 a53 (IntKind.i64.wrap (a54+1)))))
  (rec a8 a10 a11 a12 a52 a53 (IntKind.i64.wrap (a54+1))))
  (k a8 a10 a11 a12)
def zt (rec:T33) (a8:Y1) (a10:Z16) (a11:Z8) (a12:Int):Z2 :=
  rec a8 a10 a11 (IntKind.i64.wrap (a12+1))
def weh (L10:T48) (k:Y1→Z16→Z2) (a8:Y1) (a10:Z16) (a11:Z8) (a12:Int):Z2 :=
  cond (decide (a12<(a11.length:Int)))
  ((a8).bind fun xq3 =>
  (V90 big xq3.1).bind fun rq4 =>
  L10 a8 a10 a11 a12 rq4.1 (rq4.1.length:Int) 0)
  (k a8 a10)
def yt (L18:T79) (a8:Y1) (a10:Z16):Z2 :=
  (a8).bind fun xq5 =>
  (V90 big xq5.1).bind fun rq6 =>
  L18 a10 [] rq6.1 (rq6.1.length:Int) 0
def wz4 (L7:T33) (p_0:Y2) (x_1 y_2:Int):Z2 :=
  (V63 p_0).bind fun rq1 =>
  cond (!rq1.1.2.1)
  (some (([],false,()),(())))
  ((V93 rq1.1.1 x_1 y_2).bind fun rq2 =>
  cond (!rq2.1)
  (some (([],false,()),(())))
  (L7 rq1.1.1 (mput Q3 .bool [] (x_1,(y_2,())) true) [(x_1,(y_2,()))] 0))
def wos (N:Nat) (k:T33):=itN (fun r=>wef r k) fun _ _ _ _ _ _ _=>none
def zr (N:Nat) (rec:T33) (k:Y1→Z16→Z2):=wos N (zt rec) N
def wty (N:Nat) (k:Y1→Z16→Z2):=itN (fun r=>weh (zr N r k) k) fun _ _ _ _=>none
def wot (N:Nat) (k:Z8→Z2):=itN (fun r=>weg r k) fun _ _ _ _ _=>none
def wt (N:Nat):=wot N (zu) N
def wnq (N:Nat):=wty N (yt (wt N)) N
def V95 (N:Nat) (p_0:Y2) (x_1 y_2:Int):Z2:=wz4 (wnq N) p_0 x_1 y_2
def S_V95:Sig:=⟨(.pair Q0 Q3),[0,0,0],[],.unit,(.tup (.pair Q12 Q19)),(.p O4 .i),fun x=>V95 big x.1 x.2.1 x.2.2.1⟩
def A_V95:Cfg:=mkCfg tab [(18,S_V63),(37,S_V93),(35,S_V90),(38,S_V94)] [(14,(dr 8 [.as Q10 .i,D0,.as (.map Q3 .bool) O4,B4,B0])),(20,(dr 8 ([.as Q10 .i,D0,.as (.map Q3 .bool) O4,B4,B0]++dr 39 [B4,B0,B0]))),(33,(dr 8 [.as Q10 .i,D0,.as (.map Q3 .bool) O4])),(36,(dr 10 ([.as (.map Q3 .bool) O4]++dr 4 ([B4]++dr 76 [B4,B0,B0])))),(17,(dr 8 [.as Q10 .i,D0,.as (.map Q3 .bool) O4,B4,B0])),(47,(dr 15 [B4]))]
noncomputable def wat (N n:Nat) (K:T106) (a8:Y1) (a10:Z16) (a11:Z8) (a12:Int):Z2:=itr A_V95 N 14 Tryz.f13 [1,1,1,1,1,0,1,0,0] n ((ud 8 [.val Q10 .i a8,.u,.val (.map Q3 .bool) O4 a10,W4 a11,W0 a12])++us 94) K
noncomputable def wed (N n:Nat) (K:T106) (a8:Y1) (a10:Z16) (a11:Z8) (a12:Int) (a52:Z8) (a53 a54:Int):Z2:=itr A_V95 N 20 Tryz.f13 [1,1,1,1,1,0,1,0,0,1,0,0,1,0,0] n ((ud 8 ([.val Q10 .i a8,.u,.val (.map Q3 .bool) O4 a10,W4 a11,W0 a12]++ud 39 [W4 a52,W0 a53,W0 a54]))++us 52) K
noncomputable def wee (N n:Nat) (K:T106) (a10:Z16) (a15 a92:Z8) (a93 a94:Int):Z2:=itr A_V95 N 36 Tryz.f13 [1,1,1,1,1,1,1,0,1,0,0] n ((ud 10 ([.val (.map Q3 .bool) O4 a10]++ud 4 ([W4 a15]++ud 76 [W4 a92,W0 a93,W0 a94])))++us 12) K
noncomputable def we5:Ex→St→Z2:=finish A_V95 S_V95 Tryz.f13.results.toList
noncomputable def wns (kX:T88) (a8:Y1) (a10:Z16):Z2:=kX ((ud 8 [.val Q10 .i a8,.u,.val (.map Q3 .bool) O4 a10])++us 96)
noncomputable def wec (kX:T88) (kO:T83):=exK we5 0 (A_V95.shape 33) kX kO
noncomputable def wv7 (kX:T88) (a8:Y1) (a10:Z16) (a11:Z8) (a12:Int):Z2:=kX ((ud 8 [.val Q10 .i a8,.u,.val (.map Q3 .bool) O4 a10,W4 a11,W0 a12])++us 94)
noncomputable def wv5 (kX:T88) (kO:T83):=exK we5 2 (A_V95.shape 17) kX kO
noncomputable def wv8 (kX:T88) (a15:Z8):Z2:=kX ((ud 15 [W4 a15])++us 91)
noncomputable def wv6 (kX:T88) (kO:T83):=exK we5 4 (A_V95.shape 47) kX kO
theorem wz2 (N kX kO):∀n,wed N n (wv5 kX kO)=wos N (wv7 kX) n :=
 itE rfl fun m=>by kernel_rfl
noncomputable def wjr (N m:Nat) (kX:T88) (kO:T83):=(blockK 2 (blockK 1 (sqK A_V95 N 17 500008 Tryz.f13 [1,1,1,1,1,0,1,0,0,1,1] (itK A_V95 N 14 Tryz.f13 [1,1,1,1,1,0,1,0,0] m (wec kX kO)))))
noncomputable def wv9 (N m:Nat) (kX:T88) (kO:T83) (st':St):Z2:=rn A_V95 N Tryz.f13 [1,1,1,1,1,0,1,0,0,1,1] st' (itK A_V95 N 14 Tryz.f13 [1,1,1,1,1,0,1,0,0] m (wec kX kO))
theorem w9b (N m kX kO) {r}(h:wat N m (wec kX kO)=r):wed N N (wjr N m kX kO)=zr N r (wns kX):=by
 rw[show wed N N (wjr N m kX kO)=wed N N (wv5 (wv9 N m kX kO) fun j=>(wjr N m kX kO) (.exit j)) from(by funext _ _ _ _ _ _ _;exact jky),wz2,show wv7 (wv9 N m kX kO)=zt (wat N m (wec kX kO)) by kernel_rfl,h];rfl
theorem w7t (N kX kO):∀n,wat N n (wec kX kO)=wty N (wns kX) n :=
 itE rfl fun m=>(show _=weh (wed N N (wjr N m kX kO)) (wns kX) by kernel_rfl).trans (by rw[w9b N m kX kO rfl]<;>rfl)
noncomputable def wnr (N:Nat):=(blockK 0 (sqK A_V95 N 33 500016 Tryz.f13 [1,1,1,1,1,1] we5))
theorem wz3 (N kX kO):∀n,wee N n (wv6 kX kO)=wot N (wv8 kX) n :=
 itE rfl fun m=>by kernel_rfl
noncomputable def wjs (N:Nat):=(blockK 4 (sqK A_V95 N 47 500023 Tryz.f13 [1,1,1,1,1,1,1,1] we5))
noncomputable def wwa (N:Nat) (st':St):Z2:=rn A_V95 N Tryz.f13 [1,1,1,1,1,1,1,1] st' we5
theorem w9c (N):wee N N (wjs N)=wt N:=by
 rw[show wee N N (wjs N)=wee N N (wv6 (wwa N) fun j=>(wjs N) (.exit j)) from(by funext _ _ _ _ _;exact jky),wz3,show wv8 (wwa N)=zu by kernel_rfl];rfl
noncomputable def w7u (N:Nat) (st':St):Z2:=rn A_V95 N Tryz.f13 [1,1,1,1,1,1] st' we5
theorem xdq (N):wat N N (wnr N)=wnq N:=by
 rw[show wat N N (wnr N)=wat N N (wec (w7u N) fun j=>(wnr N) (.exit j)) from(by funext _ _ _ _;exact jky),w7t,show wns (w7u N)=yt (wee N N (wjs N)) by kernel_rfl,w9c N];rfl
theorem run_V95 (N x):runF A_V95 N Tryz.f13 S_V95 x=V95 N x.1 x.2.1 x.2.2.1:=(show _=(wz4 (wat N N (wnr N)) x.1 x.2.1 x.2.2.1) by kernel_rfl).trans (by rw[xdq N];rfl)
theorem ok_V95:OK 13 S_V95:=gdR (A:=A_V95) tc Tryz.func13 (jeb ⟨ok_V63,ok_V93,ok_V90,ok_V94,trivial⟩) (run_V95 big)
def xau (c_0:Z14) (p_1:Y2):Option (Int×(Z14×Unit)) :=
  cond (decide ((p_1.1.length:Int)=0))
  ((V4 c_0 [(-1:Int),(p_1.1.length:Int)]).bind fun rq1 =>
  some (rq1.1,(rq1.2.1,())))
  ((V3 c_0 24).bind fun rq2 =>
  cond rq2.1
  ((V4 rq2.2.1 [(-1:Int),(p_1.1.length:Int)]).bind fun rq3 =>
  some (rq3.1,(rq3.2.1,())))
  ((V2 rq2.2.1 (p_1.1.length:Int)).bind fun rq4 =>
  some (rq4.1,(rq4.2.1,()))))
def V96 (c_0:Z14) (p_1:Y2):Option (Int×(Z14×Unit)):=xau c_0 p_1
def S_V96:Sig:=⟨(.pair Q1 Q22),[1,0],[O4],Q20,I,.i,fun x=>V96 x.1 x.2.1⟩
def A_V96:Cfg:=mkCfg tab [(91,S_V4),(63,S_V3),(66,S_V2)] []
theorem run_V96 (N x):runF A_V96 N Tryz.f71 S_V96 x=V96 x.1 x.2.1:=by kernel_rfl
theorem ok_V96:OK 71 S_V96:=gdR (A:=A_V96) tc Tryz.func71 (jeb ⟨ok_V4,ok_V3,ok_V2,trivial⟩) (run_V96 big)
def xav (c_0:Z14) (p_1:Y2):Option (Z0×(Z14×Unit)) :=
  (V22 big p_1).bind fun rq1 =>
  cond rq1.1
  ((V3 c_0 10).bind fun rq2 =>
  cond (!rq2.1)
  ((V18 big p_1).bind fun rq3 =>
  cond (decide (0<(rq3.1.length:Int)))
  ((V2 rq2.2.1 (rq3.1.length:Int)).bind fun rq4 =>
  (atI rq3.1 rq4.1).bind fun _ =>
  (rq3.1[rq4.1.toNat]?).bind fun xq5 =>
  some (xq5,(rq4.2.1,())))
  ((V96 rq2.2.1 p_1).bind fun rq6 =>
  (V96 rq6.2.1 p_1).bind fun rq7 =>
  some ((rq6.1,(rq7.1,())),(rq7.2.1,()))))
  ((V96 rq2.2.1 p_1).bind fun rq8 =>
  (V96 rq8.2.1 p_1).bind fun rq9 =>
  some ((rq8.1,(rq9.1,())),(rq9.2.1,()))))
  ((V96 c_0 p_1).bind fun rq10 =>
  (V96 rq10.2.1 p_1).bind fun rq11 =>
  some ((rq10.1,(rq11.1,())),(rq11.2.1,())))
def V97 (c_0:Z14) (p_1:Y2):Option (Z0×(Z14×Unit)):=xav c_0 p_1
def S_V97:Sig:=⟨(.pair Q1 Q22),[1,0],[O4],Q20,Q3,.i,fun x=>V97 x.1 x.2.1⟩
def A_V97:Cfg:=mkCfg tab [(70,S_V22),(63,S_V3),(36,S_V18),(66,S_V2),(71,S_V96)] []
theorem run_V97 (N x):runF A_V97 N Tryz.f40 S_V97 x=V97 x.1 x.2.1:=by kernel_rfl
theorem ok_V97:OK 40 S_V97:=gdR (A:=A_V97) tc Tryz.func40 (jeb ⟨ok_V22,ok_V3,ok_V18,ok_V2,ok_V96,trivial⟩) (run_V97 big)
def xaw (code_0:Y4):Option ((Y2×(Int×(Int×Z0)))×Unit) :=
  (V19 big (code_0,(0,(0,())))).bind fun rq1 =>
  (V97 rq1.2.1 rq1.1).bind fun rq2 =>
  (V97 rq2.2.1 rq1.1).bind fun rq3 =>
  some ((rq1.1,rq2.1.1,rq2.1.2.1,rq3.1.1,rq3.1.2.1,()),(()))
def V98 (code_0:Y4):Option ((Y2×(Int×(Int×Z0)))×Unit):=xaw code_0
def S_V98:Sig:=⟨(.pair Q18 .unit),[0],[],.unit,(.tup (.pair Q0 (.pair I (.pair I Q3)))),.i,fun x=>V98 x.1⟩
def A_V98:Cfg:=mkCfg tab [(39,S_V19),(40,S_V97)] []
theorem run_V98 (N x):runF A_V98 N Tryz.f14 S_V98 x=V98 x.1:=by kernel_rfl
theorem ok_V98:OK 14 S_V98:=gdR (A:=A_V98) tc Tryz.func14 (jeb ⟨ok_V19,ok_V97,trivial⟩) (run_V98 big)
def wz5 (p_0:Y2) (x_1 y_2 u_3 v_4:Int):Option ((Bool×(Bool×Unit))×Unit) :=
  (V63 p_0).bind fun rq1 =>
  cond (!rq1.1.2.1)
  (some ((false,false,()),(())))
  ((V93 rq1.1.1 x_1 y_2).bind fun rq2 =>
  cond (!rq2.1)
  (some ((false,false,()),(())))
  ((V93 rq1.1.1 u_3 v_4).bind fun rq3 =>
  cond (!rq3.1)
  (some ((false,false,()),(())))
  ((V94 rq1.1.1 (x_1,(y_2,())) (u_3,(v_4,()))).bind fun rq4 =>
  some ((rq4.1,true,()),(())))))
def V99 (p_0:Y2) (x_1 y_2 u_3 v_4:Int):Option ((Bool×(Bool×Unit))×Unit):=wz5 p_0 x_1 y_2 u_3 v_4
def S_V99:Sig:=⟨(.pair Q0 (.pair I (.pair I Q3))),[0,0,0,0,0],[],.unit,(.tup (.pair .bool Q19)),.i,fun x=>V99 x.1 x.2.1 x.2.2.1 x.2.2.2.1 x.2.2.2.2.1⟩
def A_V99:Cfg:=mkCfg tab [(18,S_V63),(37,S_V93),(38,S_V94)] []
theorem run_V99 (N x):runF A_V99 N Tryz.f15 S_V99 x=V99 x.1 x.2.1 x.2.2.1 x.2.2.2.1 x.2.2.2.2.1:=by kernel_rfl
theorem ok_V99:OK 15 S_V99:=gdR (A:=A_V99) tc Tryz.func15 (jeb ⟨ok_V63,ok_V93,ok_V94,trivial⟩) (run_V99 big)
def w0q (p_0:Y2) (x_1:Int):Z1 :=
  cond (decide (0≤x_1))
  (some (decide (x_1<(p_0.1.length:Int)),(())))
  (some (false,(())))
def V100 (p_0:Y2) (x_1:Int):Z1:=w0q p_0 x_1
def S_V100:Sig:=⟨(.pair Q0 Q24),[0,0],[],.unit,.bool,.i,fun x=>V100 x.1 x.2.1⟩
def A_V100:Cfg:=mkCfg tab [] []
theorem run_V100 (N x):runF A_V100 N Tryz.f72 S_V100 x=V100 x.1 x.2.1:=by kernel_rfl
theorem ok_V100:OK 72 S_V100:=gdR (A:=A_V100) tc Tryz.func72 (jeb trivial) (run_V100 big)
def w0r (p_0:Y2) (x_1 y_2:Int):Z1 :=
  (V100 p_0 x_1).bind fun rq1 =>
  cond rq1.1
  ((V100 p_0 y_2).bind fun rq2 =>
  cond rq2.1
  ((V17 big p_0 x_1 y_2).bind fun rq3 =>
  some (rq3.1,(())))
  (some (false,(()))))
  (some (false,(())))
def V101 (p_0:Y2) (x_1 y_2:Int):Z1:=w0r p_0 x_1 y_2
def S_V101:Sig:=⟨(.pair Q0 Q3),[0,0,0],[],.unit,.bool,.i,fun x=>V101 x.1 x.2.1 x.2.2.1⟩
def A_V101:Cfg:=mkCfg tab [(72,S_V100),(62,S_V17)] []
theorem run_V101 (N x):runF A_V101 N Tryz.f41 S_V101 x=V101 x.1 x.2.1 x.2.2.1:=by kernel_rfl
theorem ok_V101:OK 41 S_V101:=gdR (A:=A_V101) tc Tryz.func41 (jeb ⟨ok_V100,ok_V17,trivial⟩) (run_V101 big)
def w0s (p_0:Y2) (x_1 y_2:Int):Z4 :=
  (V23 big p_0).bind fun rq1 =>
  (V24 big rq1.1 [x_1,y_2]).bind fun rq2 =>
  some (rq2.1,(()))
def V102 (p_0:Y2) (x_1 y_2:Int):Z4:=w0s p_0 x_1 y_2
def S_V102:Sig:=⟨(.pair Q0 Q3),[0,0,0],[],.unit,I,.i,fun x=>V102 x.1 x.2.1 x.2.2.1⟩
def A_V102:Cfg:=mkCfg tab [(29,S_V23),(28,S_V24)] []
theorem run_V102 (N x):runF A_V102 N Tryz.f73 S_V102 x=V102 x.1 x.2.1 x.2.2.1:=by kernel_rfl
theorem ok_V102:OK 73 S_V102:=gdR (A:=A_V102) tc Tryz.func73 (jeb ⟨ok_V23,ok_V24,trivial⟩) (run_V102 big)
def w0t (p_0:Y2) (x_1 y_2:Int):Z4 :=
  (V24 big p_0 [x_1,y_2]).bind fun rq1 =>
  some (rq1.1,(()))
def V103 (p_0:Y2) (x_1 y_2:Int):Z4:=w0t p_0 x_1 y_2
def S_V103:Sig:=⟨(.pair Q0 Q3),[0,0,0],[],.unit,I,.i,fun x=>V103 x.1 x.2.1 x.2.2.1⟩
def A_V103:Cfg:=mkCfg tab [(28,S_V24)] []
theorem run_V103 (N x):runF A_V103 N Tryz.f74 S_V103 x=V103 x.1 x.2.1 x.2.2.1:=by kernel_rfl
theorem ok_V103:OK 74 S_V103:=gdR (A:=A_V103) tc Tryz.func74 (jeb ⟨ok_V24,trivial⟩) (run_V103 big)
def w0u (p_0:Y2) (a_1 b_2:Z0):Z1 :=
  (V102 p_0 a_1.2.1 b_2.1).bind fun rq1 =>
  cond (decide (rq1.1=b_2.2.1))
  ((V103 p_0 a_1.2.1 b_2.1).bind fun rq2 =>
  some (decide (rq2.1=a_1.1),(())))
  (some (false,(())))
def V104 (p_0:Y2) (a_1 b_2:Z0):Z1:=w0u p_0 a_1 b_2
def S_V104:Sig:=⟨(.pair Q0 (.pair Q3 (.pair Q3 .unit))),[0,0,0],[],.unit,.bool,.i,fun x=>V104 x.1 x.2.1 x.2.2.1⟩
def A_V104:Cfg:=mkCfg tab [(73,S_V102),(74,S_V103)] []
theorem run_V104 (N x):runF A_V104 N Tryz.f42 S_V104 x=V104 x.1 x.2.1 x.2.2.1:=by kernel_rfl
theorem ok_V104:OK 42 S_V104:=gdR (A:=A_V104) tc Tryz.func42 (jeb ⟨ok_V102,ok_V103,trivial⟩) (run_V104 big)
def w0v (p_0:Y2) (x_1 y_2 u_3 v_4:Int):Option ((Bool×(Bool×Unit))×Unit) :=
  (V26 p_0).bind fun rq1 =>
  cond (!rq1.1)
  (some ((false,false,()),(())))
  ((V101 p_0 x_1 y_2).bind fun rq2 =>
  cond (!rq2.1)
  (some ((false,false,()),(())))
  ((V101 p_0 u_3 v_4).bind fun rq3 =>
  cond (!rq3.1)
  (some ((false,false,()),(())))
  ((V104 p_0 (x_1,(y_2,())) (u_3,(v_4,()))).bind fun rq4 =>
  some ((rq4.1,true,()),(())))))
def V105 (p_0:Y2) (x_1 y_2 u_3 v_4:Int):Option ((Bool×(Bool×Unit))×Unit):=w0v p_0 x_1 y_2 u_3 v_4
def S_V105:Sig:=⟨(.pair Q0 (.pair I (.pair I Q3))),[0,0,0,0,0],[],.unit,(.tup (.pair .bool Q19)),.i,fun x=>V105 x.1 x.2.1 x.2.2.1 x.2.2.2.1 x.2.2.2.2.1⟩
def A_V105:Cfg:=mkCfg tab [(24,S_V26),(41,S_V101),(42,S_V104)] []
theorem run_V105 (N x):runF A_V105 N Tryz.f16 S_V105 x=V105 x.1 x.2.1 x.2.2.1 x.2.2.2.1 x.2.2.2.2.1:=by kernel_rfl
theorem ok_V105:OK 16 S_V105:=gdR (A:=A_V105) tc Tryz.func16 (jeb ⟨ok_V26,ok_V101,ok_V104,trivial⟩) (run_V105 big)
def wew (rec:T42) (k:T13) (a0:Y4) (a3:Y2) (a4:Y4) (a14 a16:Z8) (a18:Int) (a19:Z8) (a21:Int):Z1 :=
  cond (decide (a21<(a19.length:Int)))
  ((atI a19 a21).bind fun xq34 =>
  (atI a19 a21).bind fun xq35 =>
  cond (decide (xq34.1<0))
  (some (false,(())))
  (cond (decide (xq35.2.1<0))
  (some (false,(())))
  (cond (decide ((a4.length:Int)≤xq34.1))
  (some (false,(())))
  (cond (decide ((a4.length:Int)≤xq35.2.1))
  (some (false,(())))
  ((atI a4 xq34.1).bind fun xq36 =>
  (atI a4 xq35.2.1).bind fun xq37 =>
  cond (decide (xq36≠xq37))
  (some (false,(())))
  (rec a0 a3 a4 a14 a16 a18 a19 (IntKind.i64.wrap (a21+1))))))))
  (k a0 a3 a4 a14 a16 a18)
def zx (rec:T13) (a0:Y4) (a3:Y2) (a4:Y4) (a14 a16:Z8) (a18:Int):Z1 :=
  rec a0 a3 a4 a14 a16 (IntKind.i64.wrap (a18+1))
def zy (L33:T42) (k:Y4→Z1) (a0:Y4) (a3:Y2) (a4:Y4) (a14 a16:Z8) (a18:Int):Z1 :=
  cond (decide (a18<(a14.length:Int)))
  ((atI a14 a18).bind fun _ =>
  (a14[a18.toNat]?).bind fun xq23 =>
  (atI a16 a18).bind fun _ =>
  (a16[a18.toNat]?).bind fun xq24 =>
  cond (!(eqD Q3 xq23 xq24))
  (some (false,(())))
  ((atI a14 a18).bind fun _ =>
  (a14[a18.toNat]?).bind fun xq25 =>
  (a14[a18.toNat]?).bind fun xq26 =>
  (atI a14 a18).bind fun _ =>
  (a14[a18.toNat]?).bind fun xq27 =>
  (a14[a18.toNat]?).bind fun xq28 =>
  (V95 big a3 xq26.1 xq28.2.1).bind fun rq29 =>
  cond (!rq29.1.2.1)
  (some (false,(())))
  (L33 a0 a3 a4 a14 a16 a18 rq29.1.1 0)))
  (k a0)
def wn (L47:T35) (a0:Y4):Z1 :=
  (V98 a0).bind fun rq30 =>
  (V99 rq30.1.1 rq30.1.2.1 rq30.1.2.2.1 rq30.1.2.2.2.1 rq30.1.2.2.2.2.1).bind fun rq31 =>
  (V105 rq30.1.1 rq30.1.2.1 rq30.1.2.2.1 rq30.1.2.2.2.1 rq30.1.2.2.2.2.1).bind fun rq32 =>
  cond (rq31.1.1 != rq32.1.1)
  (some (false,(())))
  (cond (rq31.1.2.1 != rq32.1.2.1)
  (some (false,(())))
  (cond rq31.1.2.1
  (cond rq31.1.1
  ((V95 big rq30.1.1 rq30.1.2.1 rq30.1.2.2.1).bind fun rq33 =>
  L47 rq30.1.2.2.2.1 rq30.1.2.2.2.2.1 rq33.1.1 ((((),rq33.1.2).2).1) false 0)
  (some (true,(()))))
  (some (true,(())))))
def wex (rec:T35) (k:Bool→Bool→Z1) (a27 a28:Int) (a33:Z8) (a34 a35:Bool) (a36:Int):Z1 :=
  cond (decide (a36<(a33.length:Int)))
  (cond a35
  (rec a27 a28 a33 a34 true (IntKind.i64.wrap (a36+1)))
  ((atI a33 a36).bind fun _ =>
  (a33[a36.toNat]?).bind fun xq22 =>
  rec a27 a28 a33 a34 (eqD Q3 xq22 (a27,(a28,()))) (IntKind.i64.wrap (a36+1))))
  (k a34 a35)
def weu (a34 a35:Bool):Z1 :=
  cond (!a34)
  (some (false,(())))
  (cond (!a35)
  (some (false,(())))
  (some (true,(()))))
def wev (rec:T54) (k:Y4→Y2→Y4→Z1) (a0:Y4) (a3:Y2) (a4:Y4) (a5 a7:Z8) (a9:Y3) (a11:Int):Z1 :=
  cond (decide (a11<(a5.length:Int)))
  ((atI a5 a11).bind fun _ =>
  (a5[a11.toNat]?).bind fun xq10 =>
  (atI a7 a11).bind fun _ =>
  (a7[a11.toNat]?).bind fun xq11 =>
  cond (!(eqD Q3 xq10 xq11))
  (some (false,(())))
  ((atI a5 a11).bind fun _ =>
  (a5[a11.toNat]?).bind fun xq12 =>
  (a5[a11.toNat]?).bind fun xq13 =>
  (atI a5 a11).bind fun _ =>
  (a5[a11.toNat]?).bind fun xq14 =>
  (a5[a11.toNat]?).bind fun xq15 =>
  (V86 a3 xq13.1 xq15.2.1).bind fun rq16 =>
  cond (!rq16.1.2.1)
  (some (false,(())))
  ((atI a9 a11).bind fun _ =>
  (a9[a11.toNat]?).bind fun xq17 =>
  (a9[a11.toNat]?).bind fun xq18 =>
  (V87 big rq16.1.1 xq18).bind fun rq19 =>
  cond (!rq19.1)
  (some (false,(())))
  (rec a0 a3 a4 a5 a7 a9 (IntKind.i64.wrap (a11+1))))))
  (k a0 a3 a4)
def x7 (L25:T13) (a0:Y4) (a3:Y2) (a4:Y4):Z1 :=
  (V91 big a3 a4).bind fun rq20 =>
  (V92 big a3 a4).bind fun rq21 =>
  cond (((((),rq20.1.2).2).1) != ((((),rq21.1.2).2).1))
  (some (false,(())))
  (cond (!((((),rq20.1.2).2).1))
  (some (false,(())))
  (cond (decide ((rq20.1.1.length:Int)≠(rq21.1.1.length:Int)))
  (some (false,(())))
  (L25 a0 a3 a4 rq20.1.1 rq21.1.1 0)))
def w0d (L13:T54) (L47:T35) (code_0:Y4):Z1 :=
  (V0 code_0).bind fun rq1 =>
  cond rq1.1
  (some (true,(())))
  ((V51 code_0).bind fun rq2 =>
  (V75 big rq2.1.1 rq2.1.2.1).bind fun rq3 =>
  (V79 big rq2.1.1 rq2.1.2.1).bind fun rq4 =>
  cond (((((),rq3.1.2).2).1) != ((((),rq4.1.2).2).1))
  (some (false,(())))
  (cond (decide ((rq3.1.1.length:Int)≠(rq4.1.1.length:Int)))
  (some (false,(())))
  (cond ((((),rq3.1.2).2).1)
  ((V81 (rq2.1.1.1.length:Int) rq2.1.2.1).bind fun rq5 =>
  cond (!((((),rq5.1.2).2).1))
  (some (false,(())))
  (cond (decide ((rq5.1.1.length:Int)≠(rq3.1.1.length:Int)))
  (some (false,(())))
  (L13 code_0 rq2.1.1 rq2.1.2.1 rq3.1.1 rq4.1.1 rq5.1.1 0)))
  ((V98 code_0).bind fun rq6 =>
  (V99 rq6.1.1 rq6.1.2.1 rq6.1.2.2.1 rq6.1.2.2.2.1 rq6.1.2.2.2.2.1).bind fun rq7 =>
  (V105 rq6.1.1 rq6.1.2.1 rq6.1.2.2.1 rq6.1.2.2.2.1 rq6.1.2.2.2.2.1).bind fun rq8 =>
  cond (rq7.1.1 != rq8.1.1)
  (some (false,(())))
  (cond (rq7.1.2.1 != rq8.1.2.1)
  (some (false,(())))
  (cond rq7.1.2.1
  (cond rq7.1.1
  ((V95 big rq6.1.1 rq6.1.2.1 rq6.1.2.2.1).bind fun rq9 =>
  L47 rq6.1.2.2.2.1 rq6.1.2.2.2.2.1 rq9.1.1 ((((),rq9.1.2).2).1) false 0)
  (some (true,(()))))
  (some (true,(())))))))))
def wow (N:Nat) (k:T13):=itN (fun r=>wew r k) fun _ _ _ _ _ _ _ _=>none
def weq (N:Nat) (rec:T13) (k:Y4→Z1):=wow N (zx rec) N
def wou (N:Nat) (k:Y4→Y2→Y4→Z1):=itN (fun r=>wev r k) fun _ _ _ _ _ _ _=>none
def wov (N:Nat) (k:Y4→Z1):=itN (fun r=>zy (weq N r k) k) fun _ _ _ _ _ _=>none
def wox (N:Nat) (k:Bool→Bool→Z1):=itN (fun r=>wex r k) fun _ _ _ _ _ _=>none
def wl (N:Nat):=wox N (weu) N
def x5 (N:Nat):=wov N (wn (wl N)) N
def wjw (N:Nat):=wou N (x7 (x5 N)) N
def laws_FnLatticeBlocks (N:Nat) (code_0:Y4):Z1:=w0d (wjw N) (wl N) code_0
def S_laws_FnLatticeBlocks:Sig:=⟨(.pair Q18 .unit),[0],[],.unit,.bool,.i,fun x=>laws_FnLatticeBlocks big x.1⟩
def A_Vx0:Cfg:=mkCfg tab [(4,S_V0),(5,S_V51),(6,S_V75),(7,S_V79),(8,S_V81),(14,S_V98),(15,S_V99),(16,S_V105),(13,S_V95),(9,S_V86),(10,S_V87),(11,S_V91),(12,S_V92)] [(26,[.as Q18 .i,D0,D0,B5,B2,B4,D0,B4,D0,.as Q15 O16,D0,B0]),(94,(dr 27 ([B0,B0]++dr 4 [B4,B6,B6,B0]))),(41,[.as Q18 .i,D0,D0,B5,B2]),(50,([.as Q18 .i,D0,D0,B5,B2]++dr 9 [B4,D0,B4,D0,B0])),(101,(dr 34 [B6,B6])),(66,([.as Q18 .i,D0,D0,B5,B2]++dr 9 [B4,D0,B4,D0,B0,.as Q12 .i,D0,B0])),(77,[.as Q18 .i]),(53,([.as Q18 .i,D0,D0,B5,B2]++dr 9 [B4,D0,B4,D0,B0]))]
noncomputable def wes (N n:Nat) (K:T5) (a0:Y4) (a3:Y2) (a4:Y4) (a5 a7:Z8) (a9:Y3) (a11:Int):Z1:=itr A_Vx0 N 26 Tryz.f3 [1,1,1,1,1,1,0,1,0,1,1,0,1,0,0] n ([.val Q18 .i a0,.u,.u,W5 a3,W2 a4,W4 a5,.u,W4 a7,.u,.val Q15 O16 a9,.u,W0 a11]++us 284) K
noncomputable def zw (N n:Nat) (K:T5) (a27 a28:Int) (a33:Z8) (a34 a35:Bool) (a36:Int):Z1:=itr A_Vx0 N 94 Tryz.f3 [1,1,1,1,1,1,1,1,1,1,0,1,0,1,1,0,1,0,0] n ((ud 27 ([W0 a27,W0 a28]++ud 4 [W4 a33,W6 a34,W6 a35,W0 a36]))++us 259) K
noncomputable def x6 (N n:Nat) (K:T5) (a0:Y4) (a3:Y2) (a4:Y4) (a14 a16:Z8) (a18:Int):Z1:=itr A_Vx0 N 50 Tryz.f3 [1,1,1,1,1,1,0,1,0,1,1,1,1,1,1,1,0,0] n (([.val Q18 .i a0,.u,.u,W5 a3,W2 a4]++ud 9 [W4 a14,.u,W4 a16,.u,W0 a18])++us 277) K
noncomputable def wet (N n:Nat) (K:T5) (a0:Y4) (a3:Y2) (a4:Y4) (a14 a16:Z8) (a18:Int) (a19:Z8) (a21:Int):Z1:=itr A_Vx0 N 66 Tryz.f3 [1,1,1,1,1,1,0,1,0,1,1,1,1,1,1,1,0,0,1,0,0,1,1,1,1,0,0] n (([.val Q18 .i a0,.u,.u,W5 a3,W2 a4]++ud 9 [W4 a14,.u,W4 a16,.u,W0 a18,.val Q12 .i a19,.u,W0 a21])++us 274) K
noncomputable def x9:Ex→St→Z1:=finish A_Vx0 S_laws_FnLatticeBlocks Tryz.f3.results.toList
noncomputable def wwe (kX:T3) (a0:Y4) (a3:Y2) (a4:Y4):Z1:=kX ([.val Q18 .i a0,.u,.u,W5 a3,W2 a4]++us 291)
noncomputable def wwb (kX:T3) (kO:T1):=exK x9 0 (A_Vx0.shape 41) kX kO
noncomputable def wwg (kX:T3) (a34 a35:Bool):Z1:=kX ((ud 34 [W6 a34,W6 a35])++us 260)
noncomputable def wwd (kX:T3) (kO:T1):=exK x9 6 (A_Vx0.shape 101) kX kO
noncomputable def wj0 (kX:T3) (a0:Y4):Z1:=kX ([.val Q18 .i a0]++us 295)
noncomputable def zv (kX:T3) (kO:T1):=exK x9 2 (A_Vx0.shape 77) kX kO
noncomputable def wwf (kX:T3) (a0:Y4) (a3:Y2) (a4:Y4) (a14 a16:Z8) (a18:Int):Z1:=kX (([.val Q18 .i a0,.u,.u,W5 a3,W2 a4]++ud 9 [W4 a14,.u,W4 a16,.u,W0 a18])++us 277)
noncomputable def wwc (kX:T3) (kO:T1):=exK x9 4 (A_Vx0.shape 53) kX kO
theorem wz9 (N kX kO):∀n,wes N n (wwb kX kO)=wou N (wwe kX) n :=
 itE rfl fun m=>by kernel_rfl
noncomputable def wjx (N:Nat):=(blockK 0 (sqK A_Vx0 N 41 500020 Tryz.f3 [1,1,1,1,1,1,0,1,0,1,1,1] (sqK A_Vx0 N 77 500038 Tryz.f3 [1,1,1,1,1,1,1] x9)))
theorem w0b (N kX kO):∀n,wet N n (wwc kX kO)=wow N (wwf kX) n :=
 itE rfl fun m=>by kernel_rfl
noncomputable def wjz (N m:Nat) (kX:T3) (kO:T1):=(blockK 4 (blockK 3 (sqK A_Vx0 N 53 500026 Tryz.f3 [1,1,1,1,1,1,0,1,0,1,1,1,1,1,1,1,0,0,1,1] (itK A_Vx0 N 50 Tryz.f3 [1,1,1,1,1,1,0,1,0,1,1,1,1,1,1,1,0,0] m (zv kX kO)))))
noncomputable def wwj (N m:Nat) (kX:T3) (kO:T1) (st':St):Z1:=rn A_Vx0 N Tryz.f3 [1,1,1,1,1,1,0,1,0,1,1,1,1,1,1,1,0,0,1,1] st' (itK A_Vx0 N 50 Tryz.f3 [1,1,1,1,1,1,0,1,0,1,1,1,1,1,1,1,0,0] m (zv kX kO))
theorem w9h (N m kX kO) {r}(h:x6 N m (zv kX kO)=r):wet N N (wjz N m kX kO)=weq N r (wj0 kX):=by
 rw[show wet N N (wjz N m kX kO)=wet N N (wwc (wwj N m kX kO) fun j=>(wjz N m kX kO) (.exit j)) from(by funext _ _ _ _ _ _ _ _;exact jky),w0b,show wwf (wwj N m kX kO)=zx (x6 N m (zv kX kO)) by kernel_rfl,h];rfl
theorem w0a (N kX kO):∀n,x6 N n (zv kX kO)=wov N (wj0 kX) n :=
 itE rfl fun m=>(show _=zy (wet N N (wjz N m kX kO)) (wj0 kX) by kernel_rfl).trans (by rw[w9h N m kX kO rfl]<;>rfl)
noncomputable def wjy (N:Nat):=(blockK 2 (sqK A_Vx0 N 77 500038 Tryz.f3 [1,1,1,1,1,1,1] x9))
theorem w0c (N kX kO):∀n,zw N n (wwd kX kO)=wox N (wwg kX) n :=
 itE rfl fun m=>by kernel_rfl
noncomputable def wer (N:Nat):=(blockK 6 (sqK A_Vx0 N 101 500050 Tryz.f3 [1,1,1,1,1,1,1,1,1,1,0,1,0,1,1,1] (sqK A_Vx0 N 105 500052 Tryz.f3 [1,1,1,1,1,1,1,1,1,1,1] x9)))
noncomputable def wwk (N:Nat) (st':St):Z1:=rn A_Vx0 N Tryz.f3 [1,1,1,1,1,1,1,1,1,1,0,1,0,1,1,1] st' (sqK A_Vx0 N 105 500052 Tryz.f3 [1,1,1,1,1,1,1,1,1,1,1] x9)
theorem wt4 (N):zw N N (wer N)=wl N:=by
 rw[show zw N N (wer N)=zw N N (wwd (wwk N) fun j=>(wer N) (.exit j)) from(by funext _ _ _ _ _ _;exact jky),w0c,show wwg (wwk N)=weu by kernel_rfl];rfl
noncomputable def wwi (N:Nat) (st':St):Z1:=rn A_Vx0 N Tryz.f3 [1,1,1,1,1,1,1] st' x9
theorem w9g (N):x6 N N (wjy N)=x5 N:=by
 rw[show x6 N N (wjy N)=x6 N N (zv (wwi N) fun j=>(wjy N) (.exit j)) from(by funext _ _ _ _ _ _;exact jky),w0a,show wj0 (wwi N)=wn (zw N N (wer N)) by kernel_rfl,wt4 N];rfl
noncomputable def wwh (N:Nat) (st':St):Z1:=rn A_Vx0 N Tryz.f3 [1,1,1,1,1,1,0,1,0,1,1,1] st' (sqK A_Vx0 N 77 500038 Tryz.f3 [1,1,1,1,1,1,1] x9)
theorem w9f (N):wes N N (wjx N)=wjw N:=by
 rw[show wes N N (wjx N)=wes N N (wwb (wwh N) fun j=>(wjx N) (.exit j)) from(by funext _ _ _ _ _ _ _;exact jky),wz9,show wwe (wwh N)=x7 (x6 N N (wjy N)) by kernel_rfl,w9g N];rfl
theorem run_laws_FnLatticeBlocks (N x):runF A_Vx0 N Tryz.f3 S_laws_FnLatticeBlocks x=laws_FnLatticeBlocks N x.1:=(show _=(w0d (wes N N (wjx N)) (zw N N (wer N)) x.1) by kernel_rfl).trans (by rw[w9f N,wt4 N];rfl)
theorem ok_laws_FnLatticeBlocks:OK 3 S_laws_FnLatticeBlocks:=gdR (A:=A_Vx0) tc Tryz.func3 (jeb ⟨ok_V0,ok_V51,ok_V75,ok_V79,ok_V81,ok_V98,ok_V99,ok_V105,ok_V95,ok_V86,ok_V87,ok_V91,ok_V92,trivial⟩) (run_laws_FnLatticeBlocks big)
theorem good_laws_FnLatticeBlocks:Gx.Good Tryz.prog 3 S_laws_FnLatticeBlocks:=ok_laws_FnLatticeBlocks.2
end
end Go.Proofs.YteanfidobhpchaaGreat
