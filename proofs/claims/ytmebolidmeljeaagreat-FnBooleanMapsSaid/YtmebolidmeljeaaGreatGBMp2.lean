import Derived.Test.YtmebolidmeljeaaGreatUBM
set_option maxRecDepth 100000
set_option linter.unusedVariables false
namespace Go.Proofs.YtmebolidmeljeaaGreat
open Go Go.Gx Go.Proofs
def wsa (rec k:T102) (a0:Z0) (a2 a9:Y2):Z8 :=
  (V2 a0 2).bind fun rq53 =>
  cond (decide ((a9.1.length:Int)<(IntKind.i64.wrap (10+rq53.1))))
  ((appI a9.1 [[(a9.1.length:Int)]]).bind fun xq54 =>
  rec rq53.2.1 a2 (xq54,((),a9.2).2))
  (k rq53.2.1 a2 a9)
def wc9 (a0:Z0) (a2 a9:Y2):Z8 :=
  some (a9,(a0,()))
def wdb (rec:T71) (k:T68) (a0:Z0) (a2:Y2) (a3:Int) (a4:Z5) (a7:Y4) (a8:Int):Z8 :=
  cond (decide (a8<(a4.length:Int)))
  ((atI a4 a8).bind fun _ =>
  (a4[a8.toNat]?).bind fun xq33 =>
  (a4[a8.toNat]?).bind fun xq34 =>
  (atI a7 xq34.1).bind fun _ =>
  (a7[xq34.1.toNat]?).bind fun xq35 =>
  (atI a4 a8).bind fun _ =>
  (a4[a8.toNat]?).bind fun xq36 =>
  (a4[a8.toNat]?).bind fun xq37 =>
  (atI a7 xq37.2.1).bind fun _ =>
  (a7[xq37.2.1.toNat]?).bind fun xq38 =>
  (atI a4 a8).bind fun _ =>
  (a4[a8.toNat]?).bind fun xq39 =>
  rec a0 a2 a3 (a4.set a8.toNat (xq35,(xq38,()))) a7 (IntKind.i64.wrap (a8+1)))
  (k a0 a2 a3 a4)
def yd (L29:T102) (a0:Z0) (a2:Y2) (a3:Int) (a4:Z5):Z8 :=
  (V9 big a3 a4).bind fun rq40 =>
  cond (decide (a3=0))
  (some (rq40.1,(a0,())))
  ((V3 a0 16).bind fun rq41 =>
  cond (!rq41.1)
  (some (rq40.1,(rq41.2.1,())))
  ((V2 rq41.2.1 a3).bind fun rq42 =>
  (V2 rq42.2.1 4).bind fun rq43 =>
  cond (decide (rq43.1=0))
  ((atI rq40.1.1 rq42.1).bind fun _ =>
  (rq40.1.1[rq42.1.toNat]?).bind fun xq44 =>
  (slI xq44 1 xq44.length).bind fun xq45 =>
  (atI rq40.1.1 rq42.1).bind fun _ =>
  (rq40.1.1[rq42.1.toNat]?).bind fun xq46 =>
  some ((rq40.1.1.set rq42.1.toNat xq45,rq40.1.2),(rq43.2.1,())))
  (cond (decide (rq43.1=1))
  ((atI rq40.1.1 rq42.1).bind fun xq47 =>
  (appI xq47 [a3]).bind fun xq48 =>
  some ((rq40.1.1.set (rq42.1).toNat xq48,rq40.1.2),(rq43.2.1,())))
  (cond (decide (rq43.1=2))
  ((atI rq40.1.1 rq42.1).bind fun _ =>
  (rq40.1.1[rq42.1.toNat]?).bind fun xq49 =>
  (V2 rq43.2.1 a3).bind fun rq50 =>
  (V10 big xq49 rq50.1).bind fun rq51 =>
  (atI rq40.1.1 rq42.1).bind fun _ =>
  (rq40.1.1[rq42.1.toNat]?).bind fun xq52 =>
  some ((rq40.1.1.set rq42.1.toNat rq51.1,rq40.1.2),(rq50.2.1,())))
  (cond (decide (rq43.1=3))
  (L29 rq43.2.1 a2 rq40.1)
  (some (rq40.1,(rq43.2.1,()))))))))
def who (rec:T66) (k:T29) (a0:Z0) (a2:Y2) (a3:Int) (a4:Z5) (a5 a6:Int):Z8 :=
  cond (decide (a6<a3))
  ((V3 a0 3).bind fun rq31 =>
  cond rq31.1
  ((appI a4 [(a5,(a6,()))]).bind fun xq32 =>
  rec rq31.2.1 a2 a3 xq32 a5 (IntKind.i64.wrap (a6+1)))
  (rec rq31.2.1 a2 a3 a4 a5 (IntKind.i64.wrap (a6+1))))
  (k a0 a2 a3 a4 a5)
def wda (rec:T29) (a0:Z0) (a2:Y2) (a3:Int) (a4:Z5) (a5:Int):Z8 :=
  rec a0 a2 a3 a4 (IntKind.i64.wrap (a5+1))
def wdc (L7:T66) (k:T68) (a0:Z0) (a2:Y2) (a3:Int) (a4:Z5) (a5:Int):Z8 :=
  cond (decide (a5<a3))
  (L7 a0 a2 a3 a4 a5 (IntKind.i64.wrap (a5+1)))
  (k a0 a2 a3 a4)
def yr (L14:T71) (L29:T102) (a0:Z0) (a2:Y2) (a3:Int) (a4:Z5):Z8 :=
  (V5 big a0 a3).bind fun rq2 =>
  (V8 big rq2.1 a3).bind fun rq3 =>
  cond rq3.1
  ((V3 rq2.2.1 2).bind fun rq4 =>
  cond rq4.1
  (L14 rq4.2.1 a2 a3 a4 rq2.1 0)
  ((V9 big a3 a4).bind fun rq5 =>
  cond (decide (a3=0))
  (some (rq5.1,(rq4.2.1,())))
  ((V3 rq4.2.1 16).bind fun rq6 =>
  cond (!rq6.1)
  (some (rq5.1,(rq6.2.1,())))
  ((V2 rq6.2.1 a3).bind fun rq7 =>
  (V2 rq7.2.1 4).bind fun rq8 =>
  cond (decide (rq8.1=0))
  ((atI rq5.1.1 rq7.1).bind fun _ =>
  (rq5.1.1[rq7.1.toNat]?).bind fun xq9 =>
  (slI xq9 1 xq9.length).bind fun xq10 =>
  (atI rq5.1.1 rq7.1).bind fun _ =>
  (rq5.1.1[rq7.1.toNat]?).bind fun xq11 =>
  some ((rq5.1.1.set rq7.1.toNat xq10,rq5.1.2),(rq8.2.1,())))
  (cond (decide (rq8.1=1))
  ((atI rq5.1.1 rq7.1).bind fun xq12 =>
  (appI xq12 [a3]).bind fun xq13 =>
  some ((rq5.1.1.set (rq7.1).toNat xq13,rq5.1.2),(rq8.2.1,())))
  (cond (decide (rq8.1=2))
  ((atI rq5.1.1 rq7.1).bind fun _ =>
  (rq5.1.1[rq7.1.toNat]?).bind fun xq14 =>
  (V2 rq8.2.1 a3).bind fun rq15 =>
  (V10 big xq14 rq15.1).bind fun rq16 =>
  (atI rq5.1.1 rq7.1).bind fun _ =>
  (rq5.1.1[rq7.1.toNat]?).bind fun xq17 =>
  some ((rq5.1.1.set rq7.1.toNat rq16.1,rq5.1.2),(rq15.2.1,())))
  (cond (decide (rq8.1=3))
  (L29 rq8.2.1 a2 rq5.1)
  (some (rq5.1,(rq8.2.1,()))))))))))
  ((V9 big a3 a4).bind fun rq18 =>
  cond (decide (a3=0))
  (some (rq18.1,(rq2.2.1,())))
  ((V3 rq2.2.1 16).bind fun rq19 =>
  cond (!rq19.1)
  (some (rq18.1,(rq19.2.1,())))
  ((V2 rq19.2.1 a3).bind fun rq20 =>
  (V2 rq20.2.1 4).bind fun rq21 =>
  cond (decide (rq21.1=0))
  ((atI rq18.1.1 rq20.1).bind fun _ =>
  (rq18.1.1[rq20.1.toNat]?).bind fun xq22 =>
  (slI xq22 1 xq22.length).bind fun xq23 =>
  (atI rq18.1.1 rq20.1).bind fun _ =>
  (rq18.1.1[rq20.1.toNat]?).bind fun xq24 =>
  some ((rq18.1.1.set rq20.1.toNat xq23,rq18.1.2),(rq21.2.1,())))
  (cond (decide (rq21.1=1))
  ((atI rq18.1.1 rq20.1).bind fun xq25 =>
  (appI xq25 [a3]).bind fun xq26 =>
  some ((rq18.1.1.set (rq20.1).toNat xq26,rq18.1.2),(rq21.2.1,())))
  (cond (decide (rq21.1=2))
  ((atI rq18.1.1 rq20.1).bind fun _ =>
  (rq18.1.1[rq20.1.toNat]?).bind fun xq27 =>
  (V2 rq21.2.1 a3).bind fun rq28 =>
  (V10 big xq27 rq28.1).bind fun rq29 =>
  (atI rq18.1.1 rq20.1).bind fun _ =>
  (rq18.1.1[rq20.1.toNat]?).bind fun xq30 =>
  some ((rq18.1.1.set rq20.1.toNat rq29.1,rq18.1.2),(rq28.2.1,())))
  (cond (decide (rq21.1=3))
  (L29 rq21.2.1 a2 rq18.1)
  (some (rq18.1,(rq21.2.1,())))))))))
def w2g (L4:T29) (c_0:Z0):Z8 :=
  (V4 c_0 [(0:Int),1,2,3,4,4,5,5,6,7]).bind fun rq1 =>
  L4 rq1.2.1 (([]:Y3),()) rq1.1 [] 0
def wus (N:Nat) (k:T29):=itN (fun r=>who r k) fun _ _ _ _ _ _=>none
def whm (N:Nat) (rec:T29) (k:T68):=wus N (wda rec) N
def wur (N:Nat) (k:T68):=itN (fun r=>wdc (whm N r k) k) fun _ _ _ _ _=>none
def wsb (N:Nat) (k:T68):=itN (fun r=>wdb r k) fun _ _ _ _ _ _=>none
def wsc (N:Nat) (k:T102):=itN (fun r=>wsa r k) fun _ _ _=>none
def wt (N:Nat):=wsc N (wc9) N
def xo (N:Nat):=wsb N (yd (wt N)) N
def wup (N:Nat):=wur N (yr (xo N) (wt N)) N
def V11 (N:Nat) (c_0:Z0):Z8:=w2g (wup N) c_0
def S_V11:Sig:=⟨Q20,[1],[O4],Q20,Q0,.i,fun x=>V11 big x.1⟩
def A_V11:Cfg:=hookCfg (fun i=>if i=25 then some PO.hook else none) (mkCfg tab [(55,S_V4),(60,S_V5),(61,S_V8),(36,S_V3),(63,S_V9),(24,S_V2),(115,S_V10)] [(8,[B6,D0,B2,B0,.as Q19 O4,B0]),(14,[B6,D0,B2,B0,.as Q19 O4,B0,B0]),(23,[B6,D0,B2,B0,.as Q19 O4]),(28,[B6,D0,B2,B0,.as Q19 O4,D0,D0,B1,B0]),(1000023,([B6,D0,B2]++dr 6 [.as Q5 (.o (.p O4 .i)),B0])),(1000027,([B6,D0,B2,B0]++dr 5 [.as Q5 (.o (.p O4 .i)),B0])),(58,([B6,D0,B2]++dr 6 [B2])),(11,[B6,D0,B2,B0,.as Q19 O4,B0]),(35,[B6,D0,B2,B0,.as Q19 O4]),(63,([B6,D0,B2]++dr 6 [.as Q5 (.o (.p O4 .i))]))])
noncomputable def wa2 (N n:Nat) (K:T108) (a0:Z0) (a2:Y2) (a3:Int) (a4:Z5) (a5:Int):Z8:=itr A_V11 N 8 Tryz.f91 [1,1,1,0,1,0,0] n ([W6 a0,.u,W2 a2,W0 a3,.val Q19 O4 a4,W0 a5]++us 141) K
noncomputable def whn (N n:Nat) (K:T108) (a0:Z0) (a2:Y2) (a3:Int) (a4:Z5) (a5 a6:Int):Z8:=itr A_V11 N 14 Tryz.f91 [1,1,1,0,1,0,0,1,0,0,1,0,0] n ([W6 a0,.u,W2 a2,W0 a3,.val Q19 O4 a4,W0 a5,W0 a6]++us 140) K
noncomputable def wc8 (N n:Nat) (K:T108) (a0:Z0) (a2:Y2) (a3:Int) (a4:Z5) (a7:Y4) (a8:Int):Z8:=itr A_V11 N 28 Tryz.f91 [1,1,1,1,0,1,1,0,1,0,0] n ([W6 a0,.u,W2 a2,W0 a3,.val Q19 O4 a4,.u,.u,W1 a7,W0 a8]++us 138) K
noncomputable def wad (N n:Nat) (K:T108) (a0:Z0) (a2 a9:Y2):Z8:=itr A_V11 N 58 Tryz.f91 [1,1,1,1,1,1,1,1,0,1,0,1,1,1,1,1,1,1,0,0,0] n (([W6 a0,.u,W2 a2]++ud 6 [W2 a9])++us 137) K
noncomputable def yo:Ex→St→Z8:=finish A_V11 S_V11 Tryz.f91.results.toList
noncomputable def wm7 (kX:T95) (a0:Z0) (a2:Y2) (a3:Int) (a4:Z5):Z8:=kX ([W6 a0,.u,W2 a2,W0 a3,.val Q19 O4 a4]++us 142)
noncomputable def wc6 (kX:T95) (kO:T89):=exK yo 0 (A_V11.shape 23) kX kO
noncomputable def w55 (kX:T95) (a0:Z0) (a2:Y2) (a3:Int) (a4:Z5) (a5:Int):Z8:=kX ([W6 a0,.u,W2 a2,W0 a3,.val Q19 O4 a4,W0 a5]++us 141)
noncomputable def w54 (kX:T95) (kO:T89):=exK yo 2 (A_V11.shape 11) kX kO
noncomputable def w0g (kX:T95) (a0:Z0) (a2:Y2) (a3:Int) (a4:Z5):Z8:=kX ([W6 a0,.u,W2 a2,W0 a3,.val Q19 O4 a4]++us 142)
noncomputable def w0e (kX:T95) (kO:T89):=exK yo 4 (A_V11.shape 35) kX kO
noncomputable def w0h (kX:T95) (a0:Z0) (a2 a9:Y2):Z8:=kX (([W6 a0,.u,W2 a2]++ud 6 [.val Q5 (.o (.p O4 .i)) a9])++us 137)
noncomputable def w0f (kX:T95) (kO:T89):=exK yo 7 (A_V11.shape 63) kX kO
theorem w57 (N kX kO):∀n,whn N n (w54 kX kO)=wus N (w55 kX) n :=
 itE rfl fun m=>by kernel_rfl
noncomputable def wm6 (N m:Nat) (kX:T95) (kO:T89):=(blockK 2 (blockK 1 (sqK A_V11 N 11 500005 Tryz.f91 [1,1,1,0,1,0,0,1,1] (itK A_V11 N 8 Tryz.f91 [1,1,1,0,1,0,0] m (wc6 kX kO)))))
noncomputable def w59 (N m:Nat) (kX:T95) (kO:T89) (st':St):Z8:=rn A_V11 N Tryz.f91 [1,1,1,0,1,0,0,1,1] st' (itK A_V11 N 8 Tryz.f91 [1,1,1,0,1,0,0] m (wc6 kX kO))
theorem xhv (N m kX kO) {r}(h:wa2 N m (wc6 kX kO)=r):whn N N (wm6 N m kX kO)=whm N r (wm7 kX):=by
 rw[show whn N N (wm6 N m kX kO)=whn N N (w54 (w59 N m kX kO) fun j=>(wm6 N m kX kO) (.exit j)) from(by funext _ _ _ _ _ _;exact jlo),w57,show w55 (w59 N m kX kO)=wda (wa2 N m (wc6 kX kO)) by kernel_rfl,h];rfl
theorem w56 (N kX kO):∀n,wa2 N n (wc6 kX kO)=wur N (wm7 kX) n :=
 itE rfl fun m=>(show _=wdc (whn N N (wm6 N m kX kO)) (wm7 kX) by kernel_rfl).trans (by rw[xhv N m kX kO rfl]<;>rfl)
noncomputable def wm5 (N:Nat):=(blockK 0 (sqK A_V11 N 23 500011 Tryz.f91 [1,1,1,1] yo))
theorem w2e (N kX kO):∀n,wc8 N n (w0e kX kO)=wsb N (w0g kX) n :=
 itE rfl fun m=>by kernel_rfl
noncomputable def wlq (N:Nat):=(blockK 4 (sqK A_V11 N 35 500017 Tryz.f91 [1,1,1,1,1] yo))
theorem w2f (N kX kO):∀n,wad N n (w0f kX kO)=wsc N (w0h kX) n :=
 itE rfl fun m=>by kernel_rfl
noncomputable def wc7 (N:Nat):=(blockK 7 (blockK 6 (sqK A_V11 N 63 500031 Tryz.f91 [1,1,1,1,1,1,1,1,1] yo)))
noncomputable def w0j (N:Nat) (st':St):Z8:=rn A_V11 N Tryz.f91 [1,1,1,1,1,1,1,1,1] st' yo
theorem wuq (N):wad N N (wc7 N)=wt N:=by
 rw[show wad N N (wc7 N)=wad N N (w0f (w0j N) fun j=>(wc7 N) (.exit j)) from(by funext _ _ _;exact jlo),w2f,show w0h (w0j N)=wc9 by kernel_rfl];rfl
noncomputable def w0i (N:Nat) (st':St):Z8:=rn A_V11 N Tryz.f91 [1,1,1,1,1] st' yo
theorem xe1 (N):wc8 N N (wlq N)=xo N:=by
 rw[show wc8 N N (wlq N)=wc8 N N (w0e (w0i N) fun j=>(wlq N) (.exit j)) from(by funext _ _ _ _ _ _;exact jlo),w2e,show w0g (w0i N)=yd (wad N N (wc7 N)) by kernel_rfl,wuq N];rfl
noncomputable def w58 (N:Nat) (st':St):Z8:=rn A_V11 N Tryz.f91 [1,1,1,1] st' yo
theorem xhu (N):wa2 N N (wm5 N)=wup N:=by
 rw[show wa2 N N (wm5 N)=wa2 N N (wc6 (w58 N) fun j=>(wm5 N) (.exit j)) from(by funext _ _ _ _ _;exact jlo),w56,show wm7 (w58 N)=yr (wc8 N N (wlq N)) (wad N N (wc7 N)) by kernel_rfl,xe1 N,wuq N];rfl
theorem run_V11 (N x):runF A_V11 N Tryz.f91 S_V11 x=V11 N x.1:=(show _=(w2g (wa2 N N (wm5 N)) x.1) by kernel_rfl).trans (by rw[xhu N];rfl)
theorem fn_V11:FnOk Tryz.prog 91:=⟨_,Tryz.func91,by kernel_rfl,by kernel_rfl⟩
theorem good_V11:Gx.Good Tryz.prog 91 S_V11:=jgv Tryz.func91 (of_decide_eq_true (by kernel_rfl)) fun x r h=>⟨A_V11,big,jir (vc tabOk),jhs (jeq (show SigsOk Tryz.prog [(55,S_V4),(60,S_V5),(61,S_V8),(36,S_V3),(63,S_V9),(24,S_V2),(115,S_V10)] from⟨ok_V4,ok_V5,ok_V8,ok_V3,ok_V9,ok_V2,ok_V10,trivial⟩)),fun code hc=>jao (ids:=[25]) (fun i hi=>by simp only[List.mem_cons,List.not_mem_nil,or_false]at hi;simp[A_V11,hookCfg,hi]) fun c hm=>PO.hooks_spec_l1Cur_poset A_V11 (by rfl) code hc c hm,(run_V11 big x).trans h⟩
def xhy (rec:T84) (k:T21) (a2 a3 a4 a5:Y2) (a6 a7 a8:Int) (a9:Y4) (a10 a11:Int):Z4 :=
  (atI a3.1 a8).bind fun xq3 =>
  cond (decide (a11<(xq3.length:Int)))
  ((atI a2.1 a7).bind fun xq4 =>
  (atI xq4 a10).bind fun xq5 =>
  (atI a3.1 a8).bind fun xq6 =>
  (atI xq6 a11).bind fun xq7 =>
  (appI a9 [IntKind.i64.wrap ((IntKind.i64.wrap (xq5*a6))+xq7)]).bind fun xq8 =>
  rec a2 a3 a4 a5 a6 a7 a8 xq8 a10 (IntKind.i64.wrap (a11+1)))
  (k a2 a3 a4 a5 a6 a7 a8 a9 a10)
def w0p (rec:T21) (a2 a3 a4 a5:Y2) (a6 a7 a8:Int) (a9:Y4) (a10:Int):Z4 :=
  rec a2 a3 a4 a5 a6 a7 a8 a9 (IntKind.i64.wrap (a10+1))
def w0q (L14:T84) (k:T74) (a2 a3 a4 a5:Y2) (a6 a7 a8:Int) (a9:Y4) (a10:Int):Z4 :=
  (atI a2.1 a7).bind fun xq1 =>
  cond (decide (a10<(xq1.length:Int)))
  (L14 a2 a3 a4 a5 a6 a7 a8 a9 a10 0)
  (k a2 a3 a4 a5 a6 a7 a8 a9)
def w0o (rec:T80) (a2 a3 a4 a5:Y2) (a6 a7 a8:Int) (a9:Y4):Z4 :=
  (appI a5.1 [a9]).bind fun xq2 =>
  rec a2 a3 a4 (xq2,((),a5.2).2) a6 a7 (IntKind.i64.wrap (a8+1))
def w6f (L11:T21) (k:T33) (a2 a3 a4 a5:Y2) (a6 a7 a8:Int):Z4 :=
  cond (decide (a8<a6))
  (L11 a2 a3 a4 a5 a6 a7 a8 [] 0)
  (k a2 a3 a4 a5 a6 a7)
def w6d (rec:T33) (a2 a3 a4 a5:Y2) (a6 a7:Int):Z4 :=
  rec a2 a3 a4 a5 a6 (IntKind.i64.wrap (a7+1))
def w6e (L7:T80) (k:T32) (a2 a3 a4 a5:Y2) (a6 a7:Int):Z4 :=
  cond (decide (a7<(a2.1.length:Int)))
  (L7 a2 a3 a4 a5 a6 a7 0)
  (k a4 a5)
def w6c (a4 a5:Y2):Z4 :=
  some (a5,(()))
def xf5 (L4:T33) (p_0 q_1:Y2):Z4 :=
  L4 p_0 q_1 (([]:Y3),()) ([],()) (q_1.1.length:Int) 0
def w0u (N:Nat) (k:T21):=itN (fun r=>xhy r k) fun _ _ _ _ _ _ _ _ _ _=>none
def w0m (N:Nat) (rec:T21) (k:T74):=w0u N (w0p rec) N
def w0t (N:Nat) (k:T74):=itN (fun r=>w0q (w0m N r k) k) fun _ _ _ _ _ _ _ _ _=>none
def w0l (N:Nat) (rec:T80) (k:T33):=w0t N (w0o rec) N
def w6l (N:Nat) (k:T33):=itN (fun r=>w6f (w0l N r k) k) fun _ _ _ _ _ _ _=>none
def w6b (N:Nat) (rec:T33) (k:T32):=w6l N (w6d rec) N
def w6k (N:Nat) (k:T32):=itN (fun r=>w6e (w6b N r k) k) fun _ _ _ _ _ _=>none
def w6a (N:Nat):=w6k N (w6c) N
def V12 (N:Nat) (p_0 q_1:Y2):Z4:=xf5 (w6a N) p_0 q_1
def S_V12:Sig:=⟨(.pair Q0 Q10),[0,0],[],.unit,Q0,(.p O11 .i),fun x=>V12 big x.1 x.2.1⟩
def A_V12:Cfg:=mkCfg tab [] [(8,[D0,D0,B3,B3,B2,B2,B0,B0]),(14,[D0,D0,B3,B3,B2,B2,B0,B0,B0]),(37,(dr 4 [B2,B2])),(22,[D0,D0,B3,B3,B2,B2,B0,B0,B0,B1,B0]),(11,[D0,D0,B3,B3,B2,B2,B0,B0]),(28,[D0,D0,B3,B3,B2,B2,B0,B0,B0,B1,B0,B0]),(35,[D0,D0,B3,B3,B2,B2,B0,B0,B0,B1]),(25,[D0,D0,B3,B3,B2,B2,B0,B0,B0,B1,B0])]
noncomputable def wa3 (N n:Nat) (K:T34) (a2 a3 a4 a5:Y2) (a6 a7:Int):Z4:=itr A_V12 N 8 Tryz.f116 [1,1,1,0,1,0,0] n ([.u,.u,W3 a2,W3 a3,W2 a4,W2 a5,W0 a6,W0 a7]++us 71) K
noncomputable def wa4 (N n:Nat) (K:T34) (a2 a3 a4 a5:Y2) (a6 a7 a8:Int):Z4:=itr A_V12 N 14 Tryz.f116 [1,1,1,0,1,0,0,1,0,0,1,0,0] n ([.u,.u,W3 a2,W3 a3,W2 a4,W2 a5,W0 a6,W0 a7,W0 a8]++us 70) K
noncomputable def ye (N n:Nat) (K:T34) (a2 a3 a4 a5:Y2) (a6 a7 a8:Int) (a9:Y4) (a10:Int):Z4:=itr A_V12 N 22 Tryz.f116 [1,1,1,0,1,0,0,1,0,0,1,0,0,1,0,0,1,0,1,0,0] n ([.u,.u,W3 a2,W3 a3,W2 a4,W2 a5,W0 a6,W0 a7,W0 a8,W1 a9,W0 a10]++us 68) K
noncomputable def wdf (N n:Nat) (K:T34) (a2 a3 a4 a5:Y2) (a6 a7 a8:Int) (a9:Y4) (a10 a11:Int):Z4:=itr A_V12 N 28 Tryz.f116 [1,1,1,0,1,0,0,1,0,0,1,0,0,1,0,0,1,0,1,0,0,1,0,0,1,0,0] n ([.u,.u,W3 a2,W3 a3,W2 a4,W2 a5,W0 a6,W0 a7,W0 a8,W1 a9,W0 a10,W0 a11]++us 67) K
noncomputable def wlu:Ex→St→Z4:=finish A_V12 S_V12 Tryz.f116.results.toList
noncomputable def wna (kX:T7) (a4 a5:Y2):Z4:=kX ((ud 4 [W2 a4,W2 a5])++us 73)
noncomputable def wdd (kX:T7) (kO:T1):=exK wlu 0 (A_V12.shape 37) kX kO
noncomputable def wnb (kX:T7) (a2 a3 a4 a5:Y2) (a6 a7:Int):Z4:=kX ([.u,.u,W3 a2,W3 a3,W2 a4,W2 a5,W0 a6,W0 a7]++us 71)
noncomputable def wde (kX:T7) (kO:T1):=exK wlu 2 (A_V12.shape 11) kX kO
noncomputable def wlt (kX:T7) (a2 a3 a4 a5:Y2) (a6 a7 a8:Int) (a9:Y4):Z4:=kX ([.u,.u,W3 a2,W3 a3,W2 a4,W2 a5,W0 a6,W0 a7,W0 a8,W1 a9]++us 69)
noncomputable def wae (kX:T7) (kO:T1):=exK wlu 4 (A_V12.shape 35) kX kO
noncomputable def w0n (kX:T7) (a2 a3 a4 a5:Y2) (a6 a7 a8:Int) (a9:Y4) (a10:Int):Z4:=kX ([.u,.u,W3 a2,W3 a3,W2 a4,W2 a5,W0 a6,W0 a7,W0 a8,W1 a9,W0 a10]++us 68)
noncomputable def w0k (kX:T7) (kO:T1):=exK wlu 6 (A_V12.shape 25) kX kO
theorem w2i (N kX kO):∀n,wdf N n (w0k kX kO)=w0u N (w0n kX) n :=
 itE rfl fun m=>by kernel_rfl
noncomputable def wls (N m:Nat) (kX:T7) (kO:T1):=(blockK 6 (blockK 5 (sqK A_V12 N 25 500012 Tryz.f116 [1,1,1,0,1,0,0,1,0,0,1,0,0,1,0,0,1,0,1,0,0,1,1] (itK A_V12 N 22 Tryz.f116 [1,1,1,0,1,0,0,1,0,0,1,0,0,1,0,0,1,0,1,0,0] m (wae kX kO)))))
noncomputable def w0s (N m:Nat) (kX:T7) (kO:T1) (st':St):Z4:=rn A_V12 N Tryz.f116 [1,1,1,0,1,0,0,1,0,0,1,0,0,1,0,0,1,0,1,0,0,1,1] st' (itK A_V12 N 22 Tryz.f116 [1,1,1,0,1,0,0,1,0,0,1,0,0,1,0,0,1,0,1,0,0] m (wae kX kO))
theorem xe3 (N m kX kO) {r}(h:ye N m (wae kX kO)=r):wdf N N (wls N m kX kO)=w0m N r (wlt kX):=by
 rw[show wdf N N (wls N m kX kO)=wdf N N (w0k (w0s N m kX kO) fun j=>(wls N m kX kO) (.exit j)) from(by funext _ _ _ _ _ _ _ _ _ _;exact jlo),w2i,show w0n (w0s N m kX kO)=w0p (ye N m (wae kX kO)) by kernel_rfl,h];rfl
theorem w2h (N kX kO):∀n,ye N n (wae kX kO)=w0t N (wlt kX) n :=
 itE rfl fun m=>(show _=w0q (wdf N N (wls N m kX kO)) (wlt kX) by kernel_rfl).trans (by rw[xe3 N m kX kO rfl]<;>rfl)
noncomputable def wlr (N m:Nat) (kX:T7) (kO:T1):=(blockK 4 (sqK A_V12 N 35 500017 Tryz.f116 [1,1,1,0,1,0,0,1,0,0,1,0,0,1,0,0,1,1] (blockK 3 (sqK A_V12 N 17 500008 Tryz.f116 [1,1,1,0,1,0,0,1,0,0,1,0,0,1,1] (itK A_V12 N 14 Tryz.f116 [1,1,1,0,1,0,0,1,0,0,1,0,0] m (wde kX kO))))))
noncomputable def w0r (N m:Nat) (kX:T7) (kO:T1) (st':St):Z4:=rn A_V12 N Tryz.f116 [1,1,1,0,1,0,0,1,0,0,1,0,0,1,0,0,1,1] st' (blockK 3 (sqK A_V12 N 17 500008 Tryz.f116 [1,1,1,0,1,0,0,1,0,0,1,0,0,1,1] (itK A_V12 N 14 Tryz.f116 [1,1,1,0,1,0,0,1,0,0,1,0,0] m (wde kX kO))))
theorem xe2 (N m kX kO) {r}(h:wa4 N m (wde kX kO)=r):ye N N (wlr N m kX kO)=w0l N r (wnb kX):=by
 rw[show ye N N (wlr N m kX kO)=ye N N (wae (w0r N m kX kO) fun j=>(wlr N m kX kO) (.exit j)) from(by funext _ _ _ _ _ _ _ _ _;exact jlo),w2h,show wlt (w0r N m kX kO)=w0o (wa4 N m (wde kX kO)) by kernel_rfl,h];rfl
theorem w6h (N kX kO):∀n,wa4 N n (wde kX kO)=w6l N (wnb kX) n :=
 itE rfl fun m=>(show _=w6f (ye N N (wlr N m kX kO)) (wnb kX) by kernel_rfl).trans (by rw[xe2 N m kX kO rfl]<;>rfl)
noncomputable def wm9 (N m:Nat) (kX:T7) (kO:T1):=(blockK 2 (blockK 1 (sqK A_V12 N 11 500005 Tryz.f116 [1,1,1,0,1,0,0,1,1] (itK A_V12 N 8 Tryz.f116 [1,1,1,0,1,0,0] m (wdd kX kO)))))
noncomputable def w6j (N m:Nat) (kX:T7) (kO:T1) (st':St):Z4:=rn A_V12 N Tryz.f116 [1,1,1,0,1,0,0,1,1] st' (itK A_V12 N 8 Tryz.f116 [1,1,1,0,1,0,0] m (wdd kX kO))
theorem xh0 (N m kX kO) {r}(h:wa3 N m (wdd kX kO)=r):wa4 N N (wm9 N m kX kO)=w6b N r (wna kX):=by
 rw[show wa4 N N (wm9 N m kX kO)=wa4 N N (wde (w6j N m kX kO) fun j=>(wm9 N m kX kO) (.exit j)) from(by funext _ _ _ _ _ _ _;exact jlo),w6h,show wnb (w6j N m kX kO)=w6d (wa3 N m (wdd kX kO)) by kernel_rfl,h];rfl
theorem w6g (N kX kO):∀n,wa3 N n (wdd kX kO)=w6k N (wna kX) n :=
 itE rfl fun m=>(show _=w6e (wa4 N N (wm9 N m kX kO)) (wna kX) by kernel_rfl).trans (by rw[xh0 N m kX kO rfl]<;>rfl)
noncomputable def wm8 (N:Nat):=(blockK 0 (sqK A_V12 N 37 500018 Tryz.f116 [1,1,1,1] wlu))
noncomputable def w6i (N:Nat) (st':St):Z4:=rn A_V12 N Tryz.f116 [1,1,1,1] st' wlu
theorem xhz (N):wa3 N N (wm8 N)=w6a N:=by
 rw[show wa3 N N (wm8 N)=wa3 N N (wdd (w6i N) fun j=>(wm8 N) (.exit j)) from(by funext _ _ _ _ _ _;exact jlo),w6g,show wna (w6i N)=w6c by kernel_rfl];rfl
theorem run_V12 (N x):runF A_V12 N Tryz.f116 S_V12 x=V12 N x.1 x.2.1:=(show _=(xf5 (wa3 N N (wm8 N)) x.1 x.2.1) by kernel_rfl).trans (by rw[xhz N];rfl)
theorem ok_V12:OK 116 S_V12:=gdR (A:=A_V12) tc Tryz.func116 (jeq trivial) (run_V12 big)
def xno (k_0:Int):Z4 :=
  cond (decide (k_0=0))
  ((V9 big 1 []).bind fun rq1 =>
  some (rq1.1,(())))
  (cond (decide (k_0=1))
  ((V9 big 2 [(0,(1,()))]).bind fun rq2 =>
  some (rq2.1,(())))
  (cond (decide (k_0=2))
  ((V9 big 4 [(0,(1,())),(1,(2,())),(2,(3,()))]).bind fun rq3 =>
  some (rq3.1,(())))
  (cond (decide (k_0=3))
  ((V9 big 4 [(0,(1,())),(0,(2,())),(1,(3,())),(2,(3,()))]).bind fun rq4 =>
  some (rq4.1,(())))
  (cond (decide (k_0=4))
  ((V9 big 5 [(0,(1,())),(0,(2,())),(0,(3,())),(1,(4,())),(2,(4,())),(3,(4,()))]).bind fun rq5 =>
  some (rq5.1,(())))
  (cond (decide (k_0=5))
  ((V9 big 5 [(0,(1,())),(1,(2,())),(0,(3,())),(2,(4,())),(3,(4,()))]).bind fun rq6 =>
  some (rq6.1,(())))
  (cond (decide (k_0=6))
  ((V9 big 8 [(0,(1,())),(0,(2,())),(0,(3,())),(1,(4,())),(1,(5,())),(2,(4,())),(2,(6,())),(3,(5,())),(3,(6,())),(4,(7,())),(5,(7,())),(6,(7,()))]).bind fun rq7 =>
  some (rq7.1,(())))
  (cond (decide (k_0=7))
  ((V9 big 6 [(0,(1,())),(0,(2,())),(1,(3,())),(2,(3,())),(2,(4,())),(3,(5,())),(4,(5,()))]).bind fun rq8 =>
  some (rq8.1,(())))
  (cond (decide (k_0=8))
  ((V9 big 6 [(0,(1,())),(0,(2,())),(1,(3,())),(2,(4,())),(3,(5,())),(4,(5,()))]).bind fun rq9 =>
  some (rq9.1,(())))
  (cond (decide (k_0=9))
  ((V9 big 7 [(0,(1,())),(0,(2,())),(0,(3,())),(1,(4,())),(2,(4,())),(3,(5,())),(2,(5,())),(4,(6,())),(5,(6,()))]).bind fun rq10 =>
  some (rq10.1,(())))
  (cond (decide (k_0=10))
  ((V9 big 3 [(0,(1,())),(1,(2,()))]).bind fun rq11 =>
  (V9 big 3 [(0,(1,())),(1,(2,()))]).bind fun rq12 =>
  (V12 big rq11.1 rq12.1).bind fun rq13 =>
  some (rq13.1,(())))
  ((V9 big 3 [(0,(1,())),(1,(2,()))]).bind fun rq14 =>
  some (rq14.1,(())))))))))))))
def V13 (k_0:Int):Z4:=xno k_0
def S_V13:Sig:=⟨Q17,[0],[],.unit,Q0,(.p O11 .i),fun x=>V13 x.1⟩
def A_V13:Cfg:=mkCfg tab [(63,S_V9),(116,S_V12)] []
theorem run_V13 (N x):runF A_V13 N Tryz.f92 S_V13 x=V13 x.1:=by kernel_rfl
theorem ok_V13:OK 92 S_V13:=gdR (A:=A_V13) tc Tryz.func92 (jeq ⟨ok_V9,ok_V12,trivial⟩) (run_V13 big)
def whq (rec:Y4→Int→Int→Option Z1) (k:Option Z1) (a0:Y4) (a1 a5:Int):Option Z1 :=
  cond (decide (a5<(a0.length:Int)))
  ((atI a0 a5).bind fun xq1 =>
  cond (decide (xq1=a1))
  (some (true,(())))
  (rec a0 a1 (IntKind.i64.wrap (a5+1))))
  (k)
def wdg:Option Z1 :=
  some (false,(()))
def w2j (L2:Y4→Int→Int→Option Z1) (l_0:Y4) (n_1:Int):Option Z1 :=
  L2 l_0 n_1 0
def wuu (N:Nat) (k:Option Z1):=itN (fun r=>whq r k) fun _ _ _=>none
def wut (N:Nat):=wuu N (wdg) N
def V14 (N:Nat) (l_0:Y4) (n_1:Int):Option Z1:=w2j (wut N) l_0 n_1
def S_V14:Sig:=⟨(.pair Q6 Q17),[0,0],[],.unit,.bool,.i,fun x=>V14 big x.1 x.2.1⟩
def A_V14:Cfg:=mkCfg tab [] [(4,([B4,B0]++dr 3 [B0])),(13,[])]
noncomputable def whp (N n:Nat) (K:Ex→St→Option Z1) (a0:Y4) (a1 a5:Int):Option Z1:=itr A_V14 N 4 Tryz.f65 [1,0,1,0,0] n (([W4 a0,W0 a1]++ud 3 [W0 a5])++us 12) K
noncomputable def w2k:Ex→St→Option Z1:=finish A_V14 S_V14 Tryz.f65.results.toList
noncomputable def w6n (kX:St→Option Z1):Option Z1:=kX ([]++us 18)
noncomputable def w6m (kX:St→Option Z1) (kO:Nat→St→Option Z1):Ex→St→Option Z1:=exK w2k 0 (A_V14.shape 13) kX kO
theorem w6o (N kX kO):∀n,whp N n (w6m kX kO)=wuu N (w6n kX) n :=
 itE rfl fun m=>by kernel_rfl
noncomputable def wnc (N:Nat):Ex→St→Option Z1:=(blockK 0 (sqK A_V14 N 13 500006 Tryz.f65 [1,1] w2k))
noncomputable def w6p (N:Nat) (st':St):Option Z1:=rn A_V14 N Tryz.f65 [1,1] st' w2k
theorem xh1 (N):whp N N (wnc N)=wut N:=by
 rw[show whp N N (wnc N)=whp N N (w6m (w6p N) fun j=>(wnc N) (.exit j)) from(by funext _ _ _;exact jlo),w6o,show w6n (w6p N)=wdg by kernel_rfl];rfl
theorem run_V14 (N x):runF A_V14 N Tryz.f65 S_V14 x=V14 N x.1 x.2.1:=(show _=(w2j (whp N N (wnc N)) x.1 x.2.1) by kernel_rfl).trans (by rw[xh1 N];rfl)
theorem ok_V14:OK 65 S_V14:=gdR (A:=A_V14) tc Tryz.func65 (jeq trivial) (run_V14 big)
def xf6 (p_0:Y2) (x_1 y_2:Int):Option Z1 :=
  (atI p_0.1 y_2).bind fun xq1 =>
  (V14 big xq1 x_1).bind fun rq2 =>
  some (rq2.1,(()))
def V15 (p_0:Y2) (x_1 y_2:Int):Option Z1:=xf6 p_0 x_1 y_2
def S_V15:Sig:=⟨(.pair Q0 Q8),[0,0,0],[],.unit,.bool,.i,fun x=>V15 x.1 x.2.1 x.2.2.1⟩
def A_V15:Cfg:=mkCfg tab [(65,S_V14)] []
theorem run_V15 (N x):runF A_V15 N Tryz.f32 S_V15 x=V15 x.1 x.2.1 x.2.2.1:=by kernel_rfl
theorem ok_V15:OK 32 S_V15:=gdR (A:=A_V15) tc Tryz.func32 (jeq ⟨ok_V14,trivial⟩) (run_V15 big)
def xf7 (p_0:Y2) (x_1 y_2:Int):Option Z1 :=
  cond (decide (x_1≠y_2))
  ((V15 p_0 x_1 y_2).bind fun rq1 =>
  some (rq1.1,(())))
  (some (false,(())))
def V16 (p_0:Y2) (x_1 y_2:Int):Option Z1:=xf7 p_0 x_1 y_2
def S_V16:Sig:=⟨(.pair Q0 Q8),[0,0,0],[],.unit,.bool,.i,fun x=>V16 x.1 x.2.1 x.2.2.1⟩
def A_V16:Cfg:=mkCfg tab [(32,S_V15)] []
theorem run_V16 (N x):runF A_V16 N Tryz.f94 S_V16 x=V16 x.1 x.2.1 x.2.2.1:=by kernel_rfl
theorem ok_V16:OK 94 S_V16:=gdR (A:=A_V16) tc Tryz.func94 (jeq ⟨ok_V15,trivial⟩) (run_V16 big)
def whs (rec:Int→Int→Y2→Int→Option Z1) (k:Option Z1) (a1 a2:Int) (a3:Y2) (a7:Int):Option Z1 :=
  cond (decide (a7<(a3.1.length:Int)))
  ((V16 a3 a1 a7).bind fun rq2 =>
  cond rq2.1
  ((V16 a3 a7 a2).bind fun rq3 =>
  cond rq3.1
  (some (false,(())))
  (rec a1 a2 a3 (IntKind.i64.wrap (a7+1))))
  (rec a1 a2 a3 (IntKind.i64.wrap (a7+1))))
  (k)
def wdh:Option Z1 :=
  some (true,(()))
def w2l (L4:Int→Int→Y2→Int→Option Z1) (p_0:Y2) (x_1 y_2:Int):Option Z1 :=
  (V16 p_0 x_1 y_2).bind fun rq1 =>
  cond (!rq1.1)
  (some (false,(())))
  (L4 x_1 y_2 p_0 0)
def wuw (N:Nat) (k:Option Z1):=itN (fun r=>whs r k) fun _ _ _ _=>none
def wuv (N:Nat):=wuw N (wdh) N
def V17 (N:Nat) (p_0:Y2) (x_1 y_2:Int):Option Z1:=w2l (wuv N) p_0 x_1 y_2
def S_V17:Sig:=⟨(.pair Q0 Q8),[0,0,0],[],.unit,.bool,.i,fun x=>V17 big x.1 x.2.1 x.2.2.1⟩
def A_V17:Cfg:=mkCfg tab [(94,S_V16)] [(8,([D0,B0,B0,B3]++dr 3 [B0])),(17,[])]
noncomputable def whr (N n:Nat) (K:Ex→St→Option Z1) (a1 a2:Int) (a3:Y2) (a7:Int):Option Z1:=itr A_V17 N 8 Tryz.f67 [1,1,0,1,0,0] n (([.u,W0 a1,W0 a2,W3 a3]++ud 3 [W0 a7])++us 22) K
noncomputable def w2m:Ex→St→Option Z1:=finish A_V17 S_V17 Tryz.f67.results.toList
noncomputable def w6r (kX:St→Option Z1):Option Z1:=kX ([]++us 30)
noncomputable def w6q (kX:St→Option Z1) (kO:Nat→St→Option Z1):Ex→St→Option Z1:=exK w2m 0 (A_V17.shape 17) kX kO
theorem w6s (N kX kO):∀n,whr N n (w6q kX kO)=wuw N (w6r kX) n :=
 itE rfl fun m=>by kernel_rfl
noncomputable def wnd (N:Nat):Ex→St→Option Z1:=(blockK 0 (sqK A_V17 N 17 500008 Tryz.f67 [1,1,1] w2m))
noncomputable def w6t (N:Nat) (st':St):Option Z1:=rn A_V17 N Tryz.f67 [1,1,1] st' w2m
theorem xh2 (N):whr N N (wnd N)=wuv N:=by
 rw[show whr N N (wnd N)=whr N N (w6q (w6t N) fun j=>(wnd N) (.exit j)) from(by funext _ _ _ _;exact jlo),w6s,show w6r (w6t N)=wdh by kernel_rfl];rfl
theorem run_V17 (N x):runF A_V17 N Tryz.f67 S_V17 x=V17 N x.1 x.2.1 x.2.2.1:=(show _=(w2l (whr N N (wnd N)) x.1 x.2.1 x.2.2.1) by kernel_rfl).trans (by rw[xh2 N];rfl)
theorem ok_V17:OK 67 S_V17:=gdR (A:=A_V17) tc Tryz.func67 (jeq ⟨ok_V16,trivial⟩) (run_V17 big)
def xld (rec:Y2→Z5→Int→Int→Z15) (k:T98) (a1:Y2) (a3:Z5) (a4 a5:Int):Z15 :=
  cond (decide (a5<(a1.1.length:Int)))
  ((V17 big a1 a4 a5).bind fun rq1 =>
  cond rq1.1
  ((appI a3 [(a4,(a5,()))]).bind fun xq2 =>
  rec a1 xq2 a4 (IntKind.i64.wrap (a5+1)))
  (rec a1 a3 a4 (IntKind.i64.wrap (a5+1))))
  (k a1 a3 a4)
def w6z (rec:T98) (a1:Y2) (a3:Z5) (a4:Int):Z15 :=
  rec a1 a3 (IntKind.i64.wrap (a4+1))
def w60 (L6:Y2→Z5→Int→Int→Z15) (k:Z5→Z15) (a1:Y2) (a3:Z5) (a4:Int):Z15 :=
  cond (decide (a4<(a1.1.length:Int)))
  (L6 a1 a3 a4 0)
  (k a3)
def w6y (a3:Z5):Z15 :=
  some (a3,(()))
def xf8 (L3:T98) (p_0:Y2):Z15 :=
  L3 p_0 [] 0
def w66 (N:Nat) (k:T98):=itN (fun r=>xld r k) fun _ _ _ _=>none
def w6w (N:Nat) (rec:T98) (k:Z5→Z15):=w66 N (w6z rec) N
def w65 (N:Nat) (k:Z5→Z15):=itN (fun r=>w60 (w6w N r k) k) fun _ _ _=>none
def w6v (N:Nat):=w65 N (w6y) N
def V18 (N:Nat) (p_0:Y2):Z15:=xf8 (w6v N) p_0
def S_V18:Sig:=⟨Q10,[0],[],.unit,Q19,O4,fun x=>V18 big x.1⟩
def A_V18:Cfg:=mkCfg tab [(67,S_V17)] [(6,[D0,B3,D0,.as Q19 O4,B0]),(12,[D0,B3,D0,.as Q19 O4,B0,B0]),(21,(dr 3 [.as Q19 O4])),(9,[D0,B3,D0,.as Q19 O4,B0])]
noncomputable def wa5 (N n:Nat) (K:Ex→St→Z15) (a1:Y2) (a3:Z5) (a4:Int):Z15:=itr A_V18 N 6 Tryz.f62 [1,1,0,1,0,0] n ([.u,W3 a1,.u,.val Q19 O4 a3,W0 a4]++us 27) K
noncomputable def wht (N n:Nat) (K:Ex→St→Z15) (a1:Y2) (a3:Z5) (a4 a5:Int):Z15:=itr A_V18 N 12 Tryz.f62 [1,1,0,1,0,0,1,0,0,1,0,0] n ([.u,W3 a1,.u,.val Q19 O4 a3,W0 a4,W0 a5]++us 26) K
noncomputable def wtd:Ex→St→Z15:=finish A_V18 S_V18 Tryz.f62.results.toList
noncomputable def wng (kX:St→Z15) (a3:Z5):Z15:=kX ((ud 3 [.val Q19 O4 a3])++us 28)
noncomputable def wdi (kX:St→Z15) (kO:Nat→St→Z15):=exK wtd 0 (A_V18.shape 21) kX kO
noncomputable def w6x (kX:St→Z15) (a1:Y2) (a3:Z5) (a4:Int):Z15:=kX ([.u,W3 a1,.u,.val Q19 O4 a3,W0 a4]++us 27)
noncomputable def w6u (kX:St→Z15) (kO:Nat→St→Z15):=exK wtd 2 (A_V18.shape 9) kX kO
theorem w62 (N kX kO):∀n,wht N n (w6u kX kO)=w66 N (w6x kX) n :=
 itE rfl fun m=>by kernel_rfl
noncomputable def wnf (N m:Nat) (kX:St→Z15) (kO:Nat→St→Z15):=(blockK 2 (blockK 1 (sqK A_V18 N 9 500004 Tryz.f62 [1,1,0,1,0,0,1,1] (itK A_V18 N 6 Tryz.f62 [1,1,0,1,0,0] m (wdi kX kO)))))
noncomputable def w64 (N m:Nat) (kX:St→Z15) (kO:Nat→St→Z15) (st':St):Z15:=rn A_V18 N Tryz.f62 [1,1,0,1,0,0,1,1] st' (itK A_V18 N 6 Tryz.f62 [1,1,0,1,0,0] m (wdi kX kO))
theorem xh4 (N m kX kO) {r}(h:wa5 N m (wdi kX kO)=r):wht N N (wnf N m kX kO)=w6w N r (wng kX):=by
 rw[show wht N N (wnf N m kX kO)=wht N N (w6u (w64 N m kX kO) fun j=>(wnf N m kX kO) (.exit j)) from(by funext _ _ _ _;exact jlo),w62,show w6x (w64 N m kX kO)=w6z (wa5 N m (wdi kX kO)) by kernel_rfl,h];rfl
theorem w61 (N kX kO):∀n,wa5 N n (wdi kX kO)=w65 N (wng kX) n :=
 itE rfl fun m=>(show _=w60 (wht N N (wnf N m kX kO)) (wng kX) by kernel_rfl).trans (by rw[xh4 N m kX kO rfl]<;>rfl)
noncomputable def wne (N:Nat):=(blockK 0 (sqK A_V18 N 21 500010 Tryz.f62 [1,1,1] wtd))
noncomputable def w63 (N:Nat) (st':St):Z15:=rn A_V18 N Tryz.f62 [1,1,1] st' wtd
theorem xh3 (N):wa5 N N (wne N)=w6v N:=by
 rw[show wa5 N N (wne N)=wa5 N N (wdi (w63 N) fun j=>(wne N) (.exit j)) from(by funext _ _ _;exact jlo),w61,show wng (w63 N)=w6y by kernel_rfl];rfl
theorem run_V18 (N x):runF A_V18 N Tryz.f62 S_V18 x=V18 N x.1:=(show _=(xf8 (wa5 N N (wne N)) x.1) by kernel_rfl).trans (by rw[xh3 N];rfl)
theorem ok_V18:OK 62 S_V18:=gdR (A:=A_V18) tc Tryz.func62 (jeq ⟨ok_V17,trivial⟩) (run_V18 big)
def whv (rec:T13) (k:T85) (a0:Z0) (a2 a3:Y2) (a4:Int) (a5:Y4) (a6:Z5) (a7:Int):Z8 :=
  cond (decide (a7<(a6.length:Int)))
  ((atI a6 a7).bind fun _ =>
  (a6[a7.toNat]?).bind fun xq9 =>
  (a6[a7.toNat]?).bind fun xq10 =>
  (atI a5 xq10.1).bind fun _ =>
  (a5[xq10.1.toNat]?).bind fun xq11 =>
  (atI a6 a7).bind fun _ =>
  (a6[a7.toNat]?).bind fun xq12 =>
  (a6[a7.toNat]?).bind fun xq13 =>
  (atI a5 xq13.2.1).bind fun _ =>
  (a5[xq13.2.1.toNat]?).bind fun xq14 =>
  (atI a6 a7).bind fun _ =>
  (a6[a7.toNat]?).bind fun xq15 =>
  rec a0 a2 a3 a4 a5 (a6.set a7.toNat (xq11,(xq14,()))) (IntKind.i64.wrap (a7+1)))
  (k a0 a2 a3 a4 a6)
def wdj (a0:Z0) (a2 a3:Y2) (a4:Int) (a6:Z5):Z8 :=
  (V9 big a4 a6).bind fun rq16 =>
  some (rq16.1,(a0,()))
def w2n (L9:T13) (c_0:Z0):Z8 :=
  (V3 c_0 10).bind fun rq1 =>
  cond rq1.1
  ((V11 big rq1.2.1).bind fun rq2 =>
  some (rq2.1,(rq2.2.1,())))
  ((V2 rq1.2.1 12).bind fun rq3 =>
  (V13 rq3.1).bind fun rq4 =>
  (V5 big rq3.2.1 (rq4.1.1.length:Int)).bind fun rq5 =>
  (V8 big rq5.1 (rq4.1.1.length:Int)).bind fun rq6 =>
  cond rq6.1
  ((V3 rq5.2.1 2).bind fun rq7 =>
  cond rq7.1
  ((V18 big rq4.1).bind fun rq8 =>
  L9 rq7.2.1 (([]:Y3),()) rq4.1 (rq4.1.1.length:Int) rq5.1 rq8.1 0)
  (some (rq4.1,(rq7.2.1,()))))
  (some (rq4.1,(rq5.2.1,()))))
def wuy (N:Nat) (k:T85):=itN (fun r=>whv r k) fun _ _ _ _ _ _ _=>none
def wux (N:Nat):=wuy N (wdj) N
def V19 (N:Nat) (c_0:Z0):Z8:=w2n (wux N) c_0
def S_V19:Sig:=⟨Q20,[1],[O4],Q20,Q0,.i,fun x=>V19 big x.1⟩
def A_V19:Cfg:=mkCfg tab [(36,S_V3),(91,S_V11),(24,S_V2),(92,S_V13),(60,S_V5),(61,S_V8),(62,S_V18),(63,S_V9)] [(18,[B6,D0,B2,B2,B0,B1,.as Q19 O4,B0]),(25,[B6,D0,B2,B2,B0,D0,.as Q19 O4])]
noncomputable def whu (N n:Nat) (K:T108) (a0:Z0) (a2 a3:Y2) (a4:Int) (a5:Y4) (a6:Z5) (a7:Int):Z8:=itr A_V19 N 18 Tryz.f58 [1,1,1,1,0,1,1,0,1,0,1,0,0] n ([W6 a0,.u,W2 a2,W2 a3,W0 a4,W1 a5,.val Q19 O4 a6,W0 a7]++us 52) K
noncomputable def w2o:Ex→St→Z8:=finish A_V19 S_V19 Tryz.f58.results.toList
noncomputable def w68 (kX:T95) (a0:Z0) (a2 a3:Y2) (a4:Int) (a6:Z5):Z8:=kX ([W6 a0,.u,W2 a2,W2 a3,W0 a4,.u,.val Q19 O4 a6]++us 53)
noncomputable def w67 (kX:T95) (kO:T89):=exK w2o 0 (A_V19.shape 25) kX kO
theorem w69 (N kX kO):∀n,whu N n (w67 kX kO)=wuy N (w68 kX) n :=
 itE rfl fun m=>by kernel_rfl
noncomputable def wnh (N:Nat):=(blockK 0 (sqK A_V19 N 25 500012 Tryz.f58 [1,1,1,1,0,1,1,0,1,1] (sqK A_V19 N 27 500013 Tryz.f58 [1,1,1,1,1] w2o)))
noncomputable def w7a (N:Nat) (st':St):Z8:=rn A_V19 N Tryz.f58 [1,1,1,1,0,1,1,0,1,1] st' (sqK A_V19 N 27 500013 Tryz.f58 [1,1,1,1,1] w2o)
theorem xh5 (N):whu N N (wnh N)=wux N:=by
 rw[show whu N N (wnh N)=whu N N (w67 (w7a N) fun j=>(wnh N) (.exit j)) from(by funext _ _ _ _ _ _ _;exact jlo),w69,show w68 (w7a N)=wdj by kernel_rfl];rfl
theorem run_V19 (N x):runF A_V19 N Tryz.f58 S_V19 x=V19 N x.1:=(show _=(w2n (whu N N (wnh N)) x.1) by kernel_rfl).trans (by rw[xh5 N];rfl)
theorem ok_V19:OK 58 S_V19:=gdR (A:=A_V19) tc Tryz.func58 (jeq ⟨ok_V3,⟨fn_V11,good_V11⟩,ok_V2,ok_V13,ok_V5,ok_V8,ok_V18,ok_V9,trivial⟩) (run_V19 big)
def xlf (rec:Int→Int→Int→Z7) (k:Int→Z7) (a0 a1 a5:Int):Z7 :=
  cond (decide (0<a1))
  (rec a0 (IntKind.i64.wrap (a1-1)) (IntKind.i64.wrap (a5*a0)))
  (k a5)
def w7e (a5:Int):Z7 :=
  some (a5,(()))
def xf9 (L2:Int→Int→Int→Z7) (n_0 k_1:Int):Z7 :=
  L2 n_0 k_1 1
def w7h (N:Nat) (k:Int→Z7):=itN (fun r=>xlf r k) fun _ _ _=>none
def w7c (N:Nat):=w7h N (w7e) N
def V20 (N:Nat) (n_0 k_1:Int):Z7:=xf9 (w7c N) n_0 k_1
def S_V20:Sig:=⟨Q8,[0,0],[],.unit,I,.i,fun x=>V20 big x.1 x.2.1⟩
def A_V20:Cfg:=mkCfg tab [] [(4,([B0,B0]++dr 3 [B0])),(11,(dr 5 [B0]))]
noncomputable def whw (N n:Nat) (K:T88) (a0 a1 a5:Int):Z7:=itr A_V20 N 4 Tryz.f57 [1,1,0,0,0] n (([W0 a0,W0 a1]++ud 3 [W0 a5])++us 8) K
noncomputable def w2p:Ex→St→Z7:=finish A_V20 S_V20 Tryz.f57.results.toList
noncomputable def w7d (kX:T58) (a5:Int):Z7:=kX ((ud 5 [W0 a5])++us 8)
noncomputable def w7b (kX:T58) (kO:T53):=exK w2p 0 (A_V20.shape 11) kX kO
theorem w7f (N kX kO):∀n,whw N n (w7b kX kO)=w7h N (w7d kX) n :=
 itE rfl fun m=>by kernel_rfl
noncomputable def wni (N:Nat):=(blockK 0 (sqK A_V20 N 11 500005 Tryz.f57 [1,1,1] w2p))
noncomputable def w7g (N:Nat) (st':St):Z7:=rn A_V20 N Tryz.f57 [1,1,1] st' w2p
theorem xh6 (N):whw N N (wni N)=w7c N:=by
 rw[show whw N N (wni N)=whw N N (w7b (w7g N) fun j=>(wni N) (.exit j)) from(by funext _ _ _;exact jlo),w7f,show w7d (w7g N)=w7e by kernel_rfl];rfl
theorem run_V20 (N x):runF A_V20 N Tryz.f57 S_V20 x=V20 N x.1 x.2.1:=(show _=(xf9 (whw N N (wni N)) x.1 x.2.1) by kernel_rfl).trans (by rw[xh6 N];rfl)
theorem ok_V20:OK 57 S_V20:=gdR (A:=A_V20) tc Tryz.func57 (jeq trivial) (run_V20 big)
def xlg (rec:Int→Y2→Y2→Int→Y4→Int→Z4) (k:Int→Y2→Y2→Int→Y4→Z4) (a0:Int) (a2 a3:Y2) (a4:Int) (a5:Y4) (a6:Int):Z4 :=
  cond (decide (a6≤a4))
  (cond (decide ((bitI .and IntKind.i64 a6 a4)=a6))
  ((appI a5 [a6]).bind fun xq2 =>
  rec a0 a2 a3 a4 xq2 (IntKind.i64.wrap (a6+1)))
  (rec a0 a2 a3 a4 a5 (IntKind.i64.wrap (a6+1))))
  (k a0 a2 a3 a4 a5)
def w7n (rec:T109) (a0:Int) (a2 a3:Y2) (a4:Int) (a5:Y4):Z4 :=
  (appI a3.1 [a5]).bind fun xq3 =>
  rec a0 a2 (xq3,((),a3.2).2) (IntKind.i64.wrap (a4+1))
def w7o (L7:Int→Y2→Y2→Int→Y4→Int→Z4) (k:T32) (a0:Int) (a2 a3:Y2) (a4:Int):Z4 :=
  (V20 big 2 a0).bind fun rq1 =>
  cond (decide (a4<rq1.1))
  (L7 a0 a2 a3 a4 [] 0)
  (k a2 a3)
def w7m (a2 a3:Y2):Z4 :=
  some (a3,(()))
def xga (L3:T109) (k_0:Int):Z4 :=
  L3 k_0 (([]:Y3),()) ([],()) 0
def w7u (N:Nat) (k:Int→Y2→Y2→Int→Y4→Z4):=itN (fun r=>xlg r k) fun _ _ _ _ _ _=>none
def w7k (N:Nat) (rec:T109) (k:T32):=w7u N (w7n rec) N
def w7t (N:Nat) (k:T32):=itN (fun r=>w7o (w7k N r k) k) fun _ _ _ _=>none
def w7j (N:Nat):=w7t N (w7m) N
def V21 (N:Nat) (k_0:Int):Z4:=xga (w7j N) k_0
def S_V21:Sig:=⟨Q17,[0],[],.unit,Q0,(.p O11 .i),fun x=>V21 big x.1⟩
def A_V21:Cfg:=mkCfg tab [(57,S_V20)] [(6,[B0,D0,B2,B2,B0]),(14,[B0,D0,B2,B2,B0,B1,B0]),(25,[D0,D0,B2,B2]),(23,[B0,D0,B2,B2,B0,B1])]
noncomputable def wa6 (N n:Nat) (K:T34) (a0:Int) (a2 a3:Y2) (a4:Int):Z4:=itr A_V21 N 6 Tryz.f59 [1,1,0,1,0,0] n ([W0 a0,.u,W2 a2,W2 a3,W0 a4]++us 32) K
noncomputable def whx (N n:Nat) (K:T34) (a0:Int) (a2 a3:Y2) (a4:Int) (a5:Y4) (a6:Int):Z4:=itr A_V21 N 14 Tryz.f59 [1,1,0,1,0,0,1,0,0,1,0,1,0,0] n ([W0 a0,.u,W2 a2,W2 a3,W0 a4,W1 a5,W0 a6]++us 30) K
noncomputable def wte:Ex→St→Z4:=finish A_V21 S_V21 Tryz.f59.results.toList
noncomputable def wnl (kX:T7) (a2 a3:Y2):Z4:=kX ([.u,.u,W2 a2,W2 a3]++us 33)
noncomputable def wdk (kX:T7) (kO:T1):=exK wte 0 (A_V21.shape 25) kX kO
noncomputable def w7l (kX:T7) (a0:Int) (a2 a3:Y2) (a4:Int) (a5:Y4):Z4:=kX ([W0 a0,.u,W2 a2,W2 a3,W0 a4,W1 a5]++us 31)
noncomputable def w7i (kX:T7) (kO:T1):=exK wte 2 (A_V21.shape 23) kX kO
theorem w7q (N kX kO):∀n,whx N n (w7i kX kO)=w7u N (w7l kX) n :=
 itE rfl fun m=>by kernel_rfl
noncomputable def wnk (N m:Nat) (kX:T7) (kO:T1):=(blockK 2 (sqK A_V21 N 23 500011 Tryz.f59 [1,1,0,1,0,0,1,0,0,1,1] (blockK 1 (sqK A_V21 N 9 500004 Tryz.f59 [1,1,0,1,0,0,1,1] (itK A_V21 N 6 Tryz.f59 [1,1,0,1,0,0] m (wdk kX kO))))))
noncomputable def w7s (N m:Nat) (kX:T7) (kO:T1) (st':St):Z4:=rn A_V21 N Tryz.f59 [1,1,0,1,0,0,1,0,0,1,1] st' (blockK 1 (sqK A_V21 N 9 500004 Tryz.f59 [1,1,0,1,0,0,1,1] (itK A_V21 N 6 Tryz.f59 [1,1,0,1,0,0] m (wdk kX kO))))
theorem xh8 (N m kX kO) {r}(h:wa6 N m (wdk kX kO)=r):whx N N (wnk N m kX kO)=w7k N r (wnl kX):=by
 rw[show whx N N (wnk N m kX kO)=whx N N (w7i (w7s N m kX kO) fun j=>(wnk N m kX kO) (.exit j)) from(by funext _ _ _ _ _ _;exact jlo),w7q,show w7l (w7s N m kX kO)=w7n (wa6 N m (wdk kX kO)) by kernel_rfl,h];rfl
theorem w7p (N kX kO):∀n,wa6 N n (wdk kX kO)=w7t N (wnl kX) n :=
 itE rfl fun m=>(show _=w7o (whx N N (wnk N m kX kO)) (wnl kX) by kernel_rfl).trans (by rw[xh8 N m kX kO rfl]<;>rfl)
noncomputable def wnj (N:Nat):=(blockK 0 (sqK A_V21 N 25 500012 Tryz.f59 [1,1,1] wte))
noncomputable def w7r (N:Nat) (st':St):Z4:=rn A_V21 N Tryz.f59 [1,1,1] st' wte
theorem xh7 (N):wa6 N N (wnj N)=w7j N:=by
 rw[show wa6 N N (wnj N)=wa6 N N (wdk (w7r N) fun j=>(wnj N) (.exit j)) from(by funext _ _ _ _;exact jlo),w7p,show wnl (w7r N)=w7m by kernel_rfl];rfl
theorem run_V21 (N x):runF A_V21 N Tryz.f59 S_V21 x=V21 N x.1:=(show _=(xga (wa6 N N (wnj N)) x.1) by kernel_rfl).trans (by rw[xh7 N];rfl)
theorem ok_V21:OK 59 S_V21:=gdR (A:=A_V21) tc Tryz.func59 (jeq ⟨ok_V20,trivial⟩) (run_V21 big)
def whz (rec:T13) (k:T85) (a0:Z0) (a2 a3:Y2) (a4:Int) (a5:Y4) (a6:Z5) (a7:Int):Z8 :=
  cond (decide (a7<(a6.length:Int)))
  ((atI a6 a7).bind fun _ =>
  (a6[a7.toNat]?).bind fun xq8 =>
  (a6[a7.toNat]?).bind fun xq9 =>
  (atI a5 xq9.1).bind fun _ =>
  (a5[xq9.1.toNat]?).bind fun xq10 =>
  (atI a6 a7).bind fun _ =>
  (a6[a7.toNat]?).bind fun xq11 =>
  (a6[a7.toNat]?).bind fun xq12 =>
  (atI a5 xq12.2.1).bind fun _ =>
  (a5[xq12.2.1.toNat]?).bind fun xq13 =>
  (atI a6 a7).bind fun _ =>
  (a6[a7.toNat]?).bind fun xq14 =>
  rec a0 a2 a3 a4 a5 (a6.set a7.toNat (xq10,(xq13,()))) (IntKind.i64.wrap (a7+1)))
  (k a0 a2 a3 a4 a6)
def wdl (a0:Z0) (a2 a3:Y2) (a4:Int) (a6:Z5):Z8 :=
  (V9 big a4 a6).bind fun rq15 =>
  some (rq15.1,(a0,()))
def w2q (L9:T13) (c_0:Z0):Z8 :=
  (V3 c_0 6).bind fun rq1 =>
  cond rq1.1
  ((V19 big rq1.2.1).bind fun rq2 =>
  some (rq2.1,(rq2.2.1,())))
  ((V4 rq1.2.1 [(2:Int),2,3,3,1,0]).bind fun rq3 =>
  (V21 big rq3.1).bind fun rq4 =>
  (V5 big rq3.2.1 (rq4.1.1.length:Int)).bind fun rq5 =>
  (V8 big rq5.1 (rq4.1.1.length:Int)).bind fun rq6 =>
  cond rq6.1
  ((V18 big rq4.1).bind fun rq7 =>
  L9 rq5.2.1 (([]:Y3),()) rq4.1 (rq4.1.1.length:Int) rq5.1 rq7.1 0)
  (some (rq4.1,(rq5.2.1,()))))
def wu0 (N:Nat) (k:T85):=itN (fun r=>whz r k) fun _ _ _ _ _ _ _=>none
def wuz (N:Nat):=wu0 N (wdl) N
def V22 (N:Nat) (c_0:Z0):Z8:=w2q (wuz N) c_0
def S_V22:Sig:=⟨Q20,[1],[O4],Q20,Q0,.i,fun x=>V22 big x.1⟩
def A_V22:Cfg:=mkCfg tab [(36,S_V3),(58,S_V19),(55,S_V4),(59,S_V21),(60,S_V5),(61,S_V8),(62,S_V18),(63,S_V9)] [(18,[B6,D0,B2,B2,B0,B1,.as Q19 O4,B0]),(25,[B6,D0,B2,B2,B0,D0,.as Q19 O4])]
noncomputable def why (N n:Nat) (K:T108) (a0:Z0) (a2 a3:Y2) (a4:Int) (a5:Y4) (a6:Z5) (a7:Int):Z8:=itr A_V22 N 18 Tryz.f21 [1,1,1,1,0,1,1,0,1,0,1,0,0] n ([W6 a0,.u,W2 a2,W2 a3,W0 a4,W1 a5,.val Q19 O4 a6,W0 a7]++us 49) K
noncomputable def w2r:Ex→St→Z8:=finish A_V22 S_V22 Tryz.f21.results.toList
noncomputable def w7w (kX:T95) (a0:Z0) (a2 a3:Y2) (a4:Int) (a6:Z5):Z8:=kX ([W6 a0,.u,W2 a2,W2 a3,W0 a4,.u,.val Q19 O4 a6]++us 50)
noncomputable def w7v (kX:T95) (kO:T89):=exK w2r 0 (A_V22.shape 25) kX kO
theorem w7x (N kX kO):∀n,why N n (w7v kX kO)=wu0 N (w7w kX) n :=
 itE rfl fun m=>by kernel_rfl
noncomputable def wnm (N:Nat):=(blockK 0 (sqK A_V22 N 25 500012 Tryz.f21 [1,1,1,1,0,1,1,0,1,1] (sqK A_V22 N 27 500013 Tryz.f21 [1,1,1,1,1] w2r)))
noncomputable def w7y (N:Nat) (st':St):Z8:=rn A_V22 N Tryz.f21 [1,1,1,1,0,1,1,0,1,1] st' (sqK A_V22 N 27 500013 Tryz.f21 [1,1,1,1,1] w2r)
theorem xh9 (N):why N N (wnm N)=wuz N:=by
 rw[show why N N (wnm N)=why N N (w7v (w7y N) fun j=>(wnm N) (.exit j)) from(by funext _ _ _ _ _ _ _;exact jlo),w7x,show w7w (w7y N)=wdl by kernel_rfl];rfl
theorem run_V22 (N x):runF A_V22 N Tryz.f21 S_V22 x=V22 N x.1:=(show _=(w2q (why N N (wnm N)) x.1) by kernel_rfl).trans (by rw[xh9 N];rfl)
theorem ok_V22:OK 21 S_V22:=gdR (A:=A_V22) tc Tryz.func21 (jeq ⟨ok_V3,ok_V19,ok_V4,ok_V21,ok_V5,ok_V8,ok_V18,ok_V9,trivial⟩) (run_V22 big)
def wu3 (rec:Y4→Int→Int→Int→Option Z1) (k:Option Z1) (a0:Y4) (a1 a2 a7:Int):Option Z1 :=
  cond (decide (a7<(a0.length:Int)))
  ((atI a0 a7).bind fun xq1 =>
  (V6 xq1 a1 a2).bind fun rq2 =>
  cond (!rq2.1)
  (some (false,(())))
  (cond (decide (0<a7))
  ((atI a0 (IntKind.i64.wrap (a7-1))).bind fun xq3 =>
  (atI a0 a7).bind fun xq4 =>
  cond (decide (xq4≤xq3))
  (some (false,(())))
  (rec a0 a1 a2 (IntKind.i64.wrap (a7+1))))
  (rec a0 a1 a2 (IntKind.i64.wrap (a7+1)))))
  (k)
def wh0:Option Z1 :=
  some (true,(()))
def w2s (L2:Y4→Int→Int→Int→Option Z1) (l_0:Y4) (lo_1 hi_2:Int):Option Z1 :=
  L2 l_0 lo_1 hi_2 0
def wdm (N:Nat) (k:Option Z1):Nat→Y4→Int→Int→Int→Option Z1
  | 0,_,_,_,_=>none
  | m+1,a0,a1,a2,a7=>wu3 (wdm N k m) k a0 a1 a2 a7
def wu1 (N:Nat):=wdm N (wh0) N
def V23 (N:Nat) (l_0:Y4) (lo_1 hi_2:Int):Option Z1:=w2s (wu1 N) l_0 lo_1 hi_2
def S_V23:Sig:=⟨(.pair Q6 Q8),[0,0,0],[],.unit,.bool,.i,fun x=>V23 big x.1 x.2.1 x.2.2.1⟩
def A_V23:Cfg:=mkCfg tab [(56,S_V6)] [(4,([B4,B0,B0]++dr 4 [B0])),(13,[])]
noncomputable def wa7 (N n:Nat) (K:Ex→St→Option Z1) (a0:Y4) (a1 a2 a7:Int):Option Z1:=itr A_V23 N 4 Tryz.f122 [1,0,1,0,0] n (([W4 a0,W0 a1,W0 a2]++ud 4 [W0 a7])++us 30) K
noncomputable def w2t:Ex→St→Option Z1:=finish A_V23 S_V23 Tryz.f122.results.toList
noncomputable def wu2 (kX:St→Option Z1):Option Z1:=kX ([]++us 38)
noncomputable def wnn (kX:St→Option Z1) (kO:Nat→St→Option Z1):Ex→St→Option Z1:=exK w2t 0 (A_V23.shape 13) kX kO
theorem wsv (N kX kO):∀n,wa7 N n (wnn kX kO)=wdm N (wu2 kX) n
 | 0=>rfl
 | m+1=>(show wa7 N (m+1) (wnn kX kO)=wu3 (wa7 N m (wnn kX kO)) (wu2 kX) by kernel_rfl).trans (by rw[wsv N kX kO m];funext _ _ _ _;rfl)
noncomputable def wno (N:Nat):Ex→St→Option Z1:=(blockK 0 (sqK A_V23 N 13 500006 Tryz.f122 [1,1] w2t))
noncomputable def w7z (N:Nat) (st':St):Option Z1:=rn A_V23 N Tryz.f122 [1,1] st' w2t
theorem xia (N):wa7 N N (wno N)=wu1 N:=by
 rw[show wa7 N N (wno N)=wa7 N N (wnn (w7z N) fun j=>(wno N) (.exit j)) from(by funext _ _ _ _;exact jlo),wsv,show wu2 (w7z N)=wh0 by kernel_rfl];rfl
theorem run_V23 (N x):runF A_V23 N Tryz.f122 S_V23 x=V23 N x.1 x.2.1 x.2.2.1:=(show _=(w2s (wa7 N N (wno N)) x.1 x.2.1 x.2.2.1) by kernel_rfl).trans (by rw[xia N];rfl)
theorem ok_V23:OK 122 S_V23:=gdR (A:=A_V23) tc Tryz.func122 (jeq ⟨ok_V6,trivial⟩) (run_V23 big)
def wh2 (rec:Y4→Y4→Int→Option Z1) (k:Option Z1) (a0 a1:Y4) (a5:Int):Option Z1 :=
  cond (decide (a5<(a0.length:Int)))
  ((atI a0 a5).bind fun xq1 =>
  (V14 big a1 xq1).bind fun rq2 =>
  cond (!rq2.1)
  (some (false,(())))
  (rec a0 a1 (IntKind.i64.wrap (a5+1))))
  (k)
def wdn:Option Z1 :=
  some (true,(()))
def w2u (L2:Y4→Y4→Int→Option Z1) (x_0 y_1:Y4):Option Z1 :=
  L2 x_0 y_1 0
def wu5 (N:Nat) (k:Option Z1):=itN (fun r=>wh2 r k) fun _ _ _=>none
def wu4 (N:Nat):=wu5 N (wdn) N
def V24 (N:Nat) (x_0 y_1:Y4):Option Z1:=w2u (wu4 N) x_0 y_1
def S_V24:Sig:=⟨(.pair Q6 Q9),[0,0],[],.unit,.bool,.i,fun x=>V24 big x.1 x.2.1⟩
def A_V24:Cfg:=mkCfg tab [(65,S_V14)] [(4,([B4,B4]++dr 3 [B0])),(13,[])]
noncomputable def wh1 (N n:Nat) (K:Ex→St→Option Z1) (a0 a1:Y4) (a5:Int):Option Z1:=itr A_V24 N 4 Tryz.f98 [1,0,1,0,0] n (([W4 a0,W4 a1]++ud 3 [W0 a5])++us 13) K
noncomputable def w2v:Ex→St→Option Z1:=finish A_V24 S_V24 Tryz.f98.results.toList
noncomputable def w71 (kX:St→Option Z1):Option Z1:=kX ([]++us 19)
noncomputable def w70 (kX:St→Option Z1) (kO:Nat→St→Option Z1):Ex→St→Option Z1:=exK w2v 0 (A_V24.shape 13) kX kO
theorem w72 (N kX kO):∀n,wh1 N n (w70 kX kO)=wu5 N (w71 kX) n :=
 itE rfl fun m=>by kernel_rfl
noncomputable def wnp (N:Nat):Ex→St→Option Z1:=(blockK 0 (sqK A_V24 N 13 500006 Tryz.f98 [1,1] w2v))
noncomputable def w73 (N:Nat) (st':St):Option Z1:=rn A_V24 N Tryz.f98 [1,1] st' w2v
theorem xib (N):wh1 N N (wnp N)=wu4 N:=by
 rw[show wh1 N N (wnp N)=wh1 N N (w70 (w73 N) fun j=>(wnp N) (.exit j)) from(by funext _ _ _;exact jlo),w72,show w71 (w73 N)=wdn by kernel_rfl];rfl
theorem run_V24 (N x):runF A_V24 N Tryz.f98 S_V24 x=V24 N x.1 x.2.1:=(show _=(w2u (wh1 N N (wnp N)) x.1 x.2.1) by kernel_rfl).trans (by rw[xib N];rfl)
theorem ok_V24:OK 98 S_V24:=gdR (A:=A_V24) tc Tryz.func98 (jeq ⟨ok_V14,trivial⟩) (run_V24 big)
def wdr (rec:Y2→Int→Int→Int→Option Z1) (k:Y2→Int→Int→Option Z1) (a1:Y2) (a3 a5 a6:Int):Option Z1 :=
  (atI a1.1 a5).bind fun xq5 =>
  cond (decide (a6<(xq5.length:Int)))
  ((atI a1.1 a5).bind fun xq6 =>
  (atI xq6 a6).bind fun xq7 =>
  cond (decide (xq7≠a5))
  ((atI a1.1 xq7).bind fun xq8 =>
  (V14 big xq8 a5).bind fun rq9 =>
  cond rq9.1
  (some (false,(())))
  ((atI a1.1 xq7).bind fun xq10 =>
  (atI a1.1 a5).bind fun xq11 =>
  (V24 big xq10 xq11).bind fun rq12 =>
  cond (!rq12.1)
  (some (false,(())))
  (rec a1 a3 a5 (IntKind.i64.wrap (a6+1)))))
  ((atI a1.1 xq7).bind fun xq13 =>
  (atI a1.1 a5).bind fun xq14 =>
  (V24 big xq13 xq14).bind fun rq15 =>
  cond (!rq15.1)
  (some (false,(())))
  (rec a1 a3 a5 (IntKind.i64.wrap (a6+1)))))
  (k a1 a3 a5)
def wah (rec:Y2→Int→Int→Option Z1) (a1:Y2) (a3 a5:Int):Option Z1 :=
  rec a1 a3 (IntKind.i64.wrap (a5+1))
def wai (L13:Y2→Int→Int→Int→Option Z1) (k:Option Z1) (a1:Y2) (a3 a5:Int):Option Z1 :=
  cond (decide (a5<a3))
  (L13 a1 a3 a5 0)
  (k)
def xp:Option Z1 :=
  some (true,(()))
def wh4 (rec:Y2→Int→Int→Option Z1) (k:Y2→Int→Option Z1) (a1:Y2) (a3 a4:Int):Option Z1 :=
  cond (decide (a4<a3))
  ((atI a1.1 a4).bind fun xq1 =>
  (V23 big xq1 0 (IntKind.i64.wrap (a3-1))).bind fun rq2 =>
  cond (!rq2.1)
  (some (false,(())))
  ((atI a1.1 a4).bind fun xq3 =>
  (V14 big xq3 a4).bind fun rq4 =>
  cond (!rq4.1)
  (some (false,(())))
  (rec a1 a3 (IntKind.i64.wrap (a4+1)))))
  (k a1 a3)
def wdq (L10:Y2→Int→Int→Option Z1) (a1:Y2) (a3:Int):Option Z1 :=
  L10 a1 a3 0
def w2y (L5:Y2→Int→Int→Option Z1) (p_0:Y2):Option Z1 :=
  cond (decide (10<(p_0.1.length:Int)))
  (some (false,(())))
  (L5 p_0 (p_0.1.length:Int) 0)
def wse (N:Nat) (k:Y2→Int→Int→Option Z1):=itN (fun r=>wdr r k) fun _ _ _ _=>none
def wdo (N:Nat) (rec:Y2→Int→Int→Option Z1) (k:Option Z1):=wse N (wah rec) N
def wu7 (N:Nat) (k:Y2→Int→Option Z1):=itN (fun r=>wh4 r k) fun _ _ _=>none
def wsd (N:Nat) (k:Option Z1):=itN (fun r=>wai (wdo N r k) k) fun _ _ _=>none
def wag (N:Nat):=wsd N (xp) N
def wu6 (N:Nat):=wu7 N (wdq (wag N)) N
def V25 (N:Nat) (p_0:Y2):Option Z1:=w2y (wu6 N) p_0
def S_V25:Sig:=⟨Q10,[0],[],.unit,.bool,.i,fun x=>V25 big x.1⟩
def A_V25:Cfg:=mkCfg tab [(122,S_V23),(65,S_V14),(98,S_V24)] [(10,[D0,B3,D0,B0,B0]),(19,[D0,B3,D0,B0]),(20,[D0,B3,D0,B0,D0,B0]),(26,[D0,B3,D0,B0,D0,B0,B0]),(37,[]),(23,[D0,B3,D0,B0,D0,B0])]
noncomputable def wh3 (N n:Nat) (K:Ex→St→Option Z1) (a1:Y2) (a3 a4:Int):Option Z1:=itr A_V25 N 10 Tryz.f102 [1,1,1,0,1,0,0] n ([.u,W3 a1,.u,W0 a3,W0 a4]++us 81) K
noncomputable def yf (N n:Nat) (K:Ex→St→Option Z1) (a1:Y2) (a3 a5:Int):Option Z1:=itr A_V25 N 20 Tryz.f102 [1,1,1,1,0,1,0,0] n ([.u,W3 a1,.u,W0 a3,.u,W0 a5]++us 80) K
noncomputable def wdp (N n:Nat) (K:Ex→St→Option Z1) (a1:Y2) (a3 a5 a6:Int):Option Z1:=itr A_V25 N 26 Tryz.f102 [1,1,1,1,0,1,0,0,1,0,0,1,0,0] n ([.u,W3 a1,.u,W0 a3,.u,W0 a5,W0 a6]++us 79) K
noncomputable def wg5:Ex→St→Option Z1:=finish A_V25 S_V25 Tryz.f102.results.toList
noncomputable def w75 (kX:St→Option Z1) (a1:Y2) (a3:Int):Option Z1:=kX ([.u,W3 a1,.u,W0 a3]++us 82)
noncomputable def w74 (kX:St→Option Z1) (kO:Nat→St→Option Z1):Ex→St→Option Z1:=exK wg5 0 (A_V25.shape 19) kX kO
noncomputable def wlx (kX:St→Option Z1):Option Z1:=kX ([]++us 86)
noncomputable def waf (kX:St→Option Z1) (kO:Nat→St→Option Z1):Ex→St→Option Z1:=exK wg5 2 (A_V25.shape 37) kX kO
noncomputable def w0w (kX:St→Option Z1) (a1:Y2) (a3 a5:Int):Option Z1:=kX ([.u,W3 a1,.u,W0 a3,.u,W0 a5]++us 80)
noncomputable def w0v (kX:St→Option Z1) (kO:Nat→St→Option Z1):Ex→St→Option Z1:=exK wg5 4 (A_V25.shape 23) kX kO
theorem w76 (N kX kO):∀n,wh3 N n (w74 kX kO)=wu7 N (w75 kX) n :=
 itE rfl fun m=>by kernel_rfl
noncomputable def wnq (N:Nat):Ex→St→Option Z1:=(blockK 0 (sqK A_V25 N 19 500009 Tryz.f102 [1,1,1,1] wg5))
theorem w2x (N kX kO):∀n,wdp N n (w0v kX kO)=wse N (w0w kX) n :=
 itE rfl fun m=>by kernel_rfl
noncomputable def wlw (N m:Nat) (kX:St→Option Z1) (kO:Nat→St→Option Z1):Ex→St→Option Z1:=(blockK 4 (blockK 3 (sqK A_V25 N 23 500011 Tryz.f102 [1,1,1,1,0,1,0,0,1,1] (itK A_V25 N 20 Tryz.f102 [1,1,1,1,0,1,0,0] m (waf kX kO)))))
noncomputable def w0y (N m:Nat) (kX:St→Option Z1) (kO:Nat→St→Option Z1) (st':St):Option Z1:=rn A_V25 N Tryz.f102 [1,1,1,1,0,1,0,0,1,1] st' (itK A_V25 N 20 Tryz.f102 [1,1,1,1,0,1,0,0] m (waf kX kO))
theorem xe5 (N m kX kO) {r}(h:yf N m (waf kX kO)=r):wdp N N (wlw N m kX kO)=wdo N r (wlx kX):=by
 rw[show wdp N N (wlw N m kX kO)=wdp N N (w0v (w0y N m kX kO) fun j=>(wlw N m kX kO) (.exit j)) from(by funext _ _ _ _;exact jlo),w2x,show w0w (w0y N m kX kO)=wah (yf N m (waf kX kO)) by kernel_rfl,h];rfl
theorem w2w (N kX kO):∀n,yf N n (waf kX kO)=wsd N (wlx kX) n :=
 itE rfl fun m=>(show _=wai (wdp N N (wlw N m kX kO)) (wlx kX) by kernel_rfl).trans (by rw[xe5 N m kX kO rfl]<;>rfl)
noncomputable def wlv (N:Nat):Ex→St→Option Z1:=(blockK 2 (sqK A_V25 N 37 500018 Tryz.f102 [1,1,1,1,1] wg5))
noncomputable def w0x (N:Nat) (st':St):Option Z1:=rn A_V25 N Tryz.f102 [1,1,1,1,1] st' wg5
theorem xe4 (N):yf N N (wlv N)=wag N:=by
 rw[show yf N N (wlv N)=yf N N (waf (w0x N) fun j=>(wlv N) (.exit j)) from(by funext _ _ _;exact jlo),w2w,show wlx (w0x N)=xp by kernel_rfl];rfl
noncomputable def w77 (N:Nat) (st':St):Option Z1:=rn A_V25 N Tryz.f102 [1,1,1,1] st' wg5
theorem xie (N):wh3 N N (wnq N)=wu6 N:=by
 rw[show wh3 N N (wnq N)=wh3 N N (w74 (w77 N) fun j=>(wnq N) (.exit j)) from(by funext _ _ _;exact jlo),w76,show w75 (w77 N)=wdq (yf N N (wlv N)) by kernel_rfl,xe4 N];rfl
theorem run_V25 (N x):runF A_V25 N Tryz.f102 S_V25 x=V25 N x.1:=(show _=(w2y (wh3 N N (wnq N)) x.1) by kernel_rfl).trans (by rw[xie N];rfl)
theorem ok_V25:OK 102 S_V25:=gdR (A:=A_V25) tc Tryz.func102 (jeq ⟨ok_V23,ok_V14,ok_V24,trivial⟩) (run_V25 big)
def wh7 (rec:T72) (k:Y2→Y2→Y2→Int→Y4→Z4) (a1 a2 a3:Y2) (a4:Int) (a5:Y4) (a6:Int):Z4 :=
  cond (decide (a6<(a1.1.length:Int)))
  ((V15 a1 a4 a6).bind fun rq1 =>
  cond rq1.1
  ((appI a5 [a6]).bind fun xq2 =>
  rec a1 a2 a3 a4 xq2 (IntKind.i64.wrap (a6+1)))
  (rec a1 a2 a3 a4 a5 (IntKind.i64.wrap (a6+1))))
  (k a1 a2 a3 a4 a5)
def wdt (rec:T69) (a1 a2 a3:Y2) (a4:Int) (a5:Y4):Z4 :=
  (appI a3.1 [a5]).bind fun xq3 =>
  rec a1 a2 (xq3,((),a3.2).2) (IntKind.i64.wrap (a4+1))
def wdu (L7:T72) (k:T32) (a1 a2 a3:Y2) (a4:Int):Z4 :=
  cond (decide (a4<(a1.1.length:Int)))
  (L7 a1 a2 a3 a4 [] 0)
  (k a2 a3)
def yt (a2 a3:Y2):Z4 :=
  some (a3,(()))
def w2z (L3:T69) (p_0:Y2):Z4 :=
  L3 p_0 (([]:Y3),()) ([],()) 0
def wva (N:Nat) (k:Y2→Y2→Y2→Int→Y4→Z4):=itN (fun r=>wh7 r k) fun _ _ _ _ _ _=>none
def wh5 (N:Nat) (rec:T69) (k:T32):=wva N (wdt rec) N
def wu9 (N:Nat) (k:T32):=itN (fun r=>wdu (wh5 N r k) k) fun _ _ _ _=>none
def wu8 (N:Nat):=wu9 N (yt) N
def V26 (N:Nat) (p_0:Y2):Z4:=w2z (wu8 N) p_0
def S_V26:Sig:=⟨Q10,[0],[],.unit,Q0,(.p O11 .i),fun x=>V26 big x.1⟩
def A_V26:Cfg:=mkCfg tab [(32,S_V15)] [(6,[D0,B3,B2,B2,B0]),(14,[D0,B3,B2,B2,B0,B1,B0]),(25,[D0,D0,B2,B2]),(23,[D0,B3,B2,B2,B0,B1])]
noncomputable def wa8 (N n:Nat) (K:T34) (a1 a2 a3:Y2) (a4:Int):Z4:=itr A_V26 N 6 Tryz.f71 [1,1,0,1,0,0] n ([.u,W3 a1,W2 a2,W2 a3,W0 a4]++us 34) K
noncomputable def wh6 (N n:Nat) (K:T34) (a1 a2 a3:Y2) (a4:Int) (a5:Y4) (a6:Int):Z4:=itr A_V26 N 14 Tryz.f71 [1,1,0,1,0,0,1,0,0,1,0,1,0,0] n ([.u,W3 a1,W2 a2,W2 a3,W0 a4,W1 a5,W0 a6]++us 32) K
noncomputable def wtf:Ex→St→Z4:=finish A_V26 S_V26 Tryz.f71.results.toList
noncomputable def wnt (kX:T7) (a2 a3:Y2):Z4:=kX ([.u,.u,W2 a2,W2 a3]++us 35)
noncomputable def wds (kX:T7) (kO:T1):=exK wtf 0 (A_V26.shape 25) kX kO
noncomputable def w79 (kX:T7) (a1 a2 a3:Y2) (a4:Int) (a5:Y4):Z4:=kX ([.u,W3 a1,W2 a2,W2 a3,W0 a4,W1 a5]++us 33)
noncomputable def w78 (kX:T7) (kO:T1):=exK wtf 2 (A_V26.shape 23) kX kO
theorem w8b (N kX kO):∀n,wh6 N n (w78 kX kO)=wva N (w79 kX) n :=
 itE rfl fun m=>by kernel_rfl
noncomputable def wns (N m:Nat) (kX:T7) (kO:T1):=(blockK 2 (sqK A_V26 N 23 500011 Tryz.f71 [1,1,0,1,0,0,1,0,0,1,1] (blockK 1 (sqK A_V26 N 9 500004 Tryz.f71 [1,1,0,1,0,0,1,1] (itK A_V26 N 6 Tryz.f71 [1,1,0,1,0,0] m (wds kX kO))))))
noncomputable def w8d (N m:Nat) (kX:T7) (kO:T1) (st':St):Z4:=rn A_V26 N Tryz.f71 [1,1,0,1,0,0,1,0,0,1,1] st' (blockK 1 (sqK A_V26 N 9 500004 Tryz.f71 [1,1,0,1,0,0,1,1] (itK A_V26 N 6 Tryz.f71 [1,1,0,1,0,0] m (wds kX kO))))
theorem xig (N m kX kO) {r}(h:wa8 N m (wds kX kO)=r):wh6 N N (wns N m kX kO)=wh5 N r (wnt kX):=by
 rw[show wh6 N N (wns N m kX kO)=wh6 N N (w78 (w8d N m kX kO) fun j=>(wns N m kX kO) (.exit j)) from(by funext _ _ _ _ _ _;exact jlo),w8b,show w79 (w8d N m kX kO)=wdt (wa8 N m (wds kX kO)) by kernel_rfl,h];rfl
theorem w8a (N kX kO):∀n,wa8 N n (wds kX kO)=wu9 N (wnt kX) n :=
 itE rfl fun m=>(show _=wdu (wh6 N N (wns N m kX kO)) (wnt kX) by kernel_rfl).trans (by rw[xig N m kX kO rfl]<;>rfl)
noncomputable def wnr (N:Nat):=(blockK 0 (sqK A_V26 N 25 500012 Tryz.f71 [1,1,1] wtf))
noncomputable def w8c (N:Nat) (st':St):Z4:=rn A_V26 N Tryz.f71 [1,1,1] st' wtf
theorem xif (N):wa8 N N (wnr N)=wu8 N:=by
 rw[show wa8 N N (wnr N)=wa8 N N (wds (w8c N) fun j=>(wnr N) (.exit j)) from(by funext _ _ _ _;exact jlo),w8a,show wnt (w8c N)=yt by kernel_rfl];rfl
theorem run_V26 (N x):runF A_V26 N Tryz.f71 S_V26 x=V26 N x.1:=(show _=(w2z (wa8 N N (wnr N)) x.1) by kernel_rfl).trans (by rw[xif N];rfl)
theorem ok_V26:OK 71 S_V26:=gdR (A:=A_V26) tc Tryz.func71 (jeq ⟨ok_V15,trivial⟩) (run_V26 big)
def wdy (rec:T110) (k:Z7) (a2:Y2) (a5:Y4) (a9:Int):Z7 :=
  cond (decide (a9<(a5.length:Int)))
  ((atI a5 a9).bind fun _ =>
  (a5[a9.toNat]?).bind fun xq4 =>
  (atI a2.1 xq4).bind fun xq5 =>
  (V24 big a5 xq5).bind fun rq6 =>
  cond rq6.1
  ((atI a5 a9).bind fun _ =>
  (a5[a9.toNat]?).bind fun xq7 =>
  some (xq7,(())))
  (rec a2 a5 (IntKind.i64.wrap (a9+1))))
  (k)
def waj:Z7 :=
  some ((-1:Int),(()))
def wia (rec:T60) (k:Y4→Y2→Y4→Int→Bool→Z7) (a1:Y4) (a2:Y2) (a5:Y4) (a6:Int) (a7:Bool) (a8:Int):Z7 :=
  cond (decide (a8<(a1.length:Int)))
  (cond a7
  ((atI a1 a8).bind fun xq1 =>
  (V15 a2 a6 xq1).bind fun rq2 =>
  rec a1 a2 a5 a6 rq2.1 (IntKind.i64.wrap (a8+1)))
  (rec a1 a2 a5 a6 false (IntKind.i64.wrap (a8+1))))
  (k a1 a2 a5 a6 a7)
def wdx (rec:T70) (a1:Y4) (a2:Y2) (a5:Y4) (a6:Int) (a7:Bool):Z7 :=
  cond a7
  ((appI a5 [a6]).bind fun xq3 =>
  rec a1 a2 xq3 (IntKind.i64.wrap (a6+1)))
  (rec a1 a2 a5 (IntKind.i64.wrap (a6+1)))
def wdz (L7:T60) (k:Y2→Y4→Z7) (a1:Y4) (a2:Y2) (a5:Y4) (a6:Int):Z7 :=
  cond (decide (a6<(a2.1.length:Int)))
  (L7 a1 a2 a5 a6 true 0)
  (k a2 a5)
def yu (L13:T110) (a2:Y2) (a5:Y4):Z7 :=
  L13 a2 a5 0
def w21 (L3:T70) (p_0:Y2) (some_1:Y4):Z7 :=
  L3 some_1 p_0 [] 0
def wvd (N:Nat) (k:Y4→Y2→Y4→Int→Bool→Z7):=itN (fun r=>wia r k) fun _ _ _ _ _ _=>none
def wh8 (N:Nat) (rec:T70) (k:Y2→Y4→Z7):=wvd N (wdx rec) N
def wvc (N:Nat) (k:Y2→Y4→Z7):=itN (fun r=>wdz (wh8 N r k) k) fun _ _ _ _=>none
def wsf (N:Nat) (k:Z7):=itN (fun r=>wdy r k) fun _ _ _=>none
def xr (N:Nat):=wsf N (waj) N
def wvb (N:Nat):=wvc N (yu (xr N)) N
def V27 (N:Nat) (p_0:Y2) (some_1:Y4):Z7:=w21 (wvb N) p_0 some_1
def S_V27:Sig:=⟨(.pair Q0 Q9),[0,0],[],.unit,I,.i,fun x=>V27 big x.1 x.2.1⟩
def A_V27:Cfg:=mkCfg tab [(32,S_V15),(98,S_V24)] [(6,[D0,B4,B3,D0,D0,B1,B0]),(14,[D0,B4,B3,D0,D0,B1,B0,B8,B0]),(25,[D0,D0,B3,D0,D0,B1]),(26,([D0,D0,B3,D0,D0,B1]++dr 3 [B0])),(21,[D0,B4,B3,D0,D0,B1,B0,B8]),(35,[])]
noncomputable def wa9 (N n:Nat) (K:T88) (a1:Y4) (a2:Y2) (a5:Y4) (a6:Int):Z7:=itr A_V27 N 6 Tryz.f70 [1,1,0,1,0,0] n ([.u,W4 a1,W3 a2,.u,.u,W1 a5,W0 a6]++us 52) K
noncomputable def wh9 (N n:Nat) (K:T88) (a1:Y4) (a2:Y2) (a5:Y4) (a6:Int) (a7:Bool) (a8:Int):Z7:=itr A_V27 N 14 Tryz.f70 [1,1,0,1,0,0,1,0,0,1,0,1,0,0] n ([.u,W4 a1,W3 a2,.u,.u,W1 a5,W0 a6,W8 a7,W0 a8]++us 50) K
noncomputable def wdw (N n:Nat) (K:T88) (a2:Y2) (a5:Y4) (a9:Int):Z7:=itr A_V27 N 26 Tryz.f70 [1,1,1,0,1,0,0] n (([.u,.u,W3 a2,.u,.u,W1 a5]++ud 3 [W0 a9])++us 49) K
noncomputable def wg6:Ex→St→Z7:=finish A_V27 S_V27 Tryz.f70.results.toList
noncomputable def wnw (kX:T58) (a2:Y2) (a5:Y4):Z7:=kX ([.u,.u,W3 a2,.u,.u,W1 a5]++us 53)
noncomputable def wdv (kX:T58) (kO:T53):=exK wg6 0 (A_V27.shape 25) kX kO
noncomputable def w8f (kX:T58) (a1:Y4) (a2:Y2) (a5:Y4) (a6:Int) (a7:Bool):Z7:=kX ([.u,W4 a1,W3 a2,.u,.u,W1 a5,W0 a6,W8 a7]++us 51)
noncomputable def w8e (kX:T58) (kO:T53):=exK wg6 2 (A_V27.shape 21) kX kO
noncomputable def w00 (kX:T58):Z7:=kX ([]++us 59)
noncomputable def w0z (kX:T58) (kO:T53):=exK wg6 4 (A_V27.shape 35) kX kO
theorem w8h (N kX kO):∀n,wh9 N n (w8e kX kO)=wvd N (w8f kX) n :=
 itE rfl fun m=>by kernel_rfl
noncomputable def wnv (N m:Nat) (kX:T58) (kO:T53):=(blockK 2 (sqK A_V27 N 21 500010 Tryz.f70 [1,1,0,1,0,0,1,0,0,1,1] (blockK 1 (sqK A_V27 N 9 500004 Tryz.f70 [1,1,0,1,0,0,1,1] (itK A_V27 N 6 Tryz.f70 [1,1,0,1,0,0] m (wdv kX kO))))))
noncomputable def w8j (N m:Nat) (kX:T58) (kO:T53) (st':St):Z7:=rn A_V27 N Tryz.f70 [1,1,0,1,0,0,1,0,0,1,1] st' (blockK 1 (sqK A_V27 N 9 500004 Tryz.f70 [1,1,0,1,0,0,1,1] (itK A_V27 N 6 Tryz.f70 [1,1,0,1,0,0] m (wdv kX kO))))
theorem xij (N m kX kO) {r}(h:wa9 N m (wdv kX kO)=r):wh9 N N (wnv N m kX kO)=wh8 N r (wnw kX):=by
 rw[show wh9 N N (wnv N m kX kO)=wh9 N N (w8e (w8j N m kX kO) fun j=>(wnv N m kX kO) (.exit j)) from(by funext _ _ _ _ _ _;exact jlo),w8h,show w8f (w8j N m kX kO)=wdx (wa9 N m (wdv kX kO)) by kernel_rfl,h];rfl
theorem w8g (N kX kO):∀n,wa9 N n (wdv kX kO)=wvc N (wnw kX) n :=
 itE rfl fun m=>(show _=wdz (wh9 N N (wnv N m kX kO)) (wnw kX) by kernel_rfl).trans (by rw[xij N m kX kO rfl]<;>rfl)
noncomputable def wnu (N:Nat):=(blockK 0 (sqK A_V27 N 25 500012 Tryz.f70 [1,1,1] wg6))
theorem w20 (N kX kO):∀n,wdw N n (w0z kX kO)=wsf N (w00 kX) n :=
 itE rfl fun m=>by kernel_rfl
noncomputable def wly (N:Nat):=(blockK 4 (sqK A_V27 N 35 500017 Tryz.f70 [1,1,1,1] wg6))
noncomputable def w01 (N:Nat) (st':St):Z7:=rn A_V27 N Tryz.f70 [1,1,1,1] st' wg6
theorem xe6 (N):wdw N N (wly N)=xr N:=by
 rw[show wdw N N (wly N)=wdw N N (w0z (w01 N) fun j=>(wly N) (.exit j)) from(by funext _ _ _;exact jlo),w20,show w00 (w01 N)=waj by kernel_rfl];rfl
noncomputable def w8i (N:Nat) (st':St):Z7:=rn A_V27 N Tryz.f70 [1,1,1] st' wg6
theorem xii (N):wa9 N N (wnu N)=wvb N:=by
 rw[show wa9 N N (wnu N)=wa9 N N (wdv (w8i N) fun j=>(wnu N) (.exit j)) from(by funext _ _ _ _;exact jlo),w8g,show wnw (w8i N)=yu (wdw N N (wly N)) by kernel_rfl,xe6 N];rfl
theorem run_V27 (N x):runF A_V27 N Tryz.f70 S_V27 x=V27 N x.1 x.2.1:=(show _=(w21 (wa9 N N (wnu N)) x.1 x.2.1) by kernel_rfl).trans (by rw[xii N];rfl)
theorem ok_V27:OK 70 S_V27:=gdR (A:=A_V27) tc Tryz.func70 (jeq ⟨ok_V15,ok_V24,trivial⟩) (run_V27 big)
def wid (rec:Y2→Y2→Int→Int→Option Z1) (k:Y2→Y2→Int→Option Z1) (a1 a3:Y2) (a4 a5:Int):Option Z1 :=
  cond (decide (a5<a4))
  ((V27 big a1 [a4,a5]).bind fun rq3 =>
  cond (decide (rq3.1<0))
  (some (false,(())))
  ((V27 big a3 [a4,a5]).bind fun rq4 =>
  cond (decide (rq4.1<0))
  (some (false,(())))
  (rec a1 a3 a4 (IntKind.i64.wrap (a5+1)))))
  (k a1 a3 a4)
def wd1 (rec:Y2→Y2→Int→Option Z1) (a1 a3:Y2) (a4:Int):Option Z1 :=
  rec a1 a3 (IntKind.i64.wrap (a4+1))
def wd2 (L8:Y2→Y2→Int→Int→Option Z1) (k:Option Z1) (a1 a3:Y2) (a4:Int):Option Z1 :=
  cond (decide (a4<(a1.1.length:Int)))
  (L8 a1 a3 a4 0)
  (k)
def yv:Option Z1 :=
  some (true,(()))
def w22 (L5:Y2→Y2→Int→Option Z1) (p_0:Y2):Option Z1 :=
  (V25 big p_0).bind fun rq1 =>
  cond (!rq1.1)
  (some (false,(())))
  (cond (decide ((p_0.1.length:Int)=0))
  (some (false,(())))
  ((V26 big p_0).bind fun rq2 =>
  L5 p_0 rq2.1 0))
def wvg (N:Nat) (k:Y2→Y2→Int→Option Z1):=itN (fun r=>wid r k) fun _ _ _ _=>none
def wib (N:Nat) (rec:Y2→Y2→Int→Option Z1) (k:Option Z1):=wvg N (wd1 rec) N
def wvf (N:Nat) (k:Option Z1):=itN (fun r=>wd2 (wib N r k) k) fun _ _ _=>none
def wve (N:Nat):=wvf N (yv) N
def V28 (N:Nat) (p_0:Y2):Option Z1:=w22 (wve N) p_0
def S_V28:Sig:=⟨Q10,[0],[],.unit,.bool,.i,fun x=>V28 big x.1⟩
def A_V28:Cfg:=mkCfg tab [(102,S_V25),(71,S_V26),(70,S_V27)] [(10,[D0,B3,D0,B2,B0]),(16,[D0,B3,D0,B2,B0,B0]),(25,[]),(13,[D0,B3,D0,B2,B0])]
noncomputable def wba (N n:Nat) (K:Ex→St→Option Z1) (a1 a3:Y2) (a4:Int):Option Z1:=itr A_V28 N 10 Tryz.f75 [1,1,1,0,1,0,0] n ([.u,W3 a1,.u,W2 a3,W0 a4]++us 38) K
noncomputable def wic (N n:Nat) (K:Ex→St→Option Z1) (a1 a3:Y2) (a4 a5:Int):Option Z1:=itr A_V28 N 16 Tryz.f75 [1,1,1,0,1,0,0,1,0,0,1,0,0] n ([.u,W3 a1,.u,W2 a3,W0 a4,W0 a5]++us 37) K
noncomputable def wtg:Ex→St→Option Z1:=finish A_V28 S_V28 Tryz.f75.results.toList
noncomputable def wnz (kX:St→Option Z1):Option Z1:=kX ([]++us 43)
noncomputable def wd0 (kX:St→Option Z1) (kO:Nat→St→Option Z1):Ex→St→Option Z1:=exK wtg 0 (A_V28.shape 25) kX kO
noncomputable def w8l (kX:St→Option Z1) (a1 a3:Y2) (a4:Int):Option Z1:=kX ([.u,W3 a1,.u,W2 a3,W0 a4]++us 38)
noncomputable def w8k (kX:St→Option Z1) (kO:Nat→St→Option Z1):Ex→St→Option Z1:=exK wtg 2 (A_V28.shape 13) kX kO
theorem w8n (N kX kO):∀n,wic N n (w8k kX kO)=wvg N (w8l kX) n :=
 itE rfl fun m=>by kernel_rfl
noncomputable def wny (N m:Nat) (kX:St→Option Z1) (kO:Nat→St→Option Z1):Ex→St→Option Z1:=(blockK 2 (blockK 1 (sqK A_V28 N 13 500006 Tryz.f75 [1,1,1,0,1,0,0,1,1] (itK A_V28 N 10 Tryz.f75 [1,1,1,0,1,0,0] m (wd0 kX kO)))))
noncomputable def w8p (N m:Nat) (kX:St→Option Z1) (kO:Nat→St→Option Z1) (st':St):Option Z1:=rn A_V28 N Tryz.f75 [1,1,1,0,1,0,0,1,1] st' (itK A_V28 N 10 Tryz.f75 [1,1,1,0,1,0,0] m (wd0 kX kO))
theorem xil (N m kX kO) {r}(h:wba N m (wd0 kX kO)=r):wic N N (wny N m kX kO)=wib N r (wnz kX):=by
 rw[show wic N N (wny N m kX kO)=wic N N (w8k (w8p N m kX kO) fun j=>(wny N m kX kO) (.exit j)) from(by funext _ _ _ _;exact jlo),w8n,show w8l (w8p N m kX kO)=wd1 (wba N m (wd0 kX kO)) by kernel_rfl,h];rfl
theorem w8m (N kX kO):∀n,wba N n (wd0 kX kO)=wvf N (wnz kX) n :=
 itE rfl fun m=>(show _=wd2 (wic N N (wny N m kX kO)) (wnz kX) by kernel_rfl).trans (by rw[xil N m kX kO rfl]<;>rfl)
noncomputable def wnx (N:Nat):Ex→St→Option Z1:=(blockK 0 (sqK A_V28 N 25 500012 Tryz.f75 [1,1,1,1] wtg))
noncomputable def w8o (N:Nat) (st':St):Option Z1:=rn A_V28 N Tryz.f75 [1,1,1,1] st' wtg
theorem xik (N):wba N N (wnx N)=wve N:=by
 rw[show wba N N (wnx N)=wba N N (wd0 (w8o N) fun j=>(wnx N) (.exit j)) from(by funext _ _ _;exact jlo),w8m,show wnz (w8o N)=yv by kernel_rfl];rfl
theorem run_V28 (N x):runF A_V28 N Tryz.f75 S_V28 x=V28 N x.1:=(show _=(w22 (wba N N (wnx N)) x.1) by kernel_rfl).trans (by rw[xik N];rfl)
theorem ok_V28:OK 75 S_V28:=gdR (A:=A_V28) tc Tryz.func75 (jeq ⟨ok_V25,ok_V26,ok_V27,trivial⟩) (run_V28 big)
def xgb (p_0:Y2) (x_1 y_2:Int):Z7 :=
  (V26 big p_0).bind fun rq1 =>
  (V27 big rq1.1 [x_1,y_2]).bind fun rq2 =>
  some (rq2.1,(()))
def V29 (p_0:Y2) (x_1 y_2:Int):Z7:=xgb p_0 x_1 y_2
def S_V29:Sig:=⟨(.pair Q0 Q8),[0,0,0],[],.unit,I,.i,fun x=>V29 x.1 x.2.1 x.2.2.1⟩
def A_V29:Cfg:=mkCfg tab [(71,S_V26),(70,S_V27)] []
theorem run_V29 (N x):runF A_V29 N Tryz.f33 S_V29 x=V29 x.1 x.2.1 x.2.2.1:=by kernel_rfl
theorem ok_V29:OK 33 S_V29:=gdR (A:=A_V29) tc Tryz.func33 (jeq ⟨ok_V26,ok_V27,trivial⟩) (run_V29 big)
def xgc (p_0:Y2) (x_1 y_2:Int):Z7 :=
  (V27 big p_0 [x_1,y_2]).bind fun rq1 =>
  some (rq1.1,(()))
def V30 (p_0:Y2) (x_1 y_2:Int):Z7:=xgc p_0 x_1 y_2
def S_V30:Sig:=⟨(.pair Q0 Q8),[0,0,0],[],.unit,I,.i,fun x=>V30 x.1 x.2.1 x.2.2.1⟩
def A_V30:Cfg:=mkCfg tab [(70,S_V27)] []
theorem run_V30 (N x):runF A_V30 N Tryz.f80 S_V30 x=V30 x.1 x.2.1 x.2.2.1:=by kernel_rfl
theorem ok_V30:OK 80 S_V30:=gdR (A:=A_V30) tc Tryz.func80 (jeq ⟨ok_V27,trivial⟩) (run_V30 big)
def wih (rec:T77) (k:T38) (a1:Y2) (a4 a5 a6 a7:Int):Z2 :=
  cond (decide (a7<a4))
  ((V29 a1 a6 a7).bind fun rq1 =>
  (V30 a1 a5 rq1.1).bind fun rq2 =>
  (V30 a1 a5 a6).bind fun rq3 =>
  (V30 a1 a5 a7).bind fun rq4 =>
  (V29 a1 rq3.1 rq4.1).bind fun rq5 =>
  cond (decide (rq2.1≠rq5.1))
  (some (([a5,a6,a7],true,()),(())))
  (rec a1 a4 a5 a6 (IntKind.i64.wrap (a7+1))))
  (k a1 a4 a5 a6)
def wd5 (rec:T38) (a1:Y2) (a4 a5 a6:Int):Z2 :=
  rec a1 a4 a5 (IntKind.i64.wrap (a6+1))
def wd7 (L9:T77) (k:T43) (a1:Y2) (a4 a5 a6:Int):Z2 :=
  cond (decide (a6<a4))
  (L9 a1 a4 a5 a6 0)
  (k a1 a4 a5)
def yx (rec:T43) (a1:Y2) (a4 a5:Int):Z2 :=
  rec a1 a4 (IntKind.i64.wrap (a5+1))
def wd6 (L6:T38) (k:Z2) (a1:Y2) (a4 a5:Int):Z2 :=
  cond (decide (a5<a4))
  (L6 a1 a4 a5 0)
  (k)
def yw:Z2 :=
  some (([],false,()),(()))
def w23 (L3:T43) (p_0:Y2):Z2 :=
  L3 p_0 (p_0.1.length:Int) 0
def wvk (N:Nat) (k:T38):=itN (fun r=>wih r k) fun _ _ _ _ _=>none
def wif (N:Nat) (rec:T38) (k:T43):=wvk N (wd5 rec) N
def wvj (N:Nat) (k:T43):=itN (fun r=>wd7 (wif N r k) k) fun _ _ _ _=>none
def wie (N:Nat) (rec:T43) (k:Z2):=wvj N (yx rec) N
def wvi (N:Nat) (k:Z2):=itN (fun r=>wd6 (wie N r k) k) fun _ _ _=>none
def wvh (N:Nat):=wvi N (yw) N
def V31 (N:Nat) (p_0:Y2):Z2:=w23 (wvh N) p_0
def S_V31:Sig:=⟨Q10,[0],[],.unit,(.tup (.pair Q6 Q12)),(.p O4 .i),fun x=>V31 big x.1⟩
def A_V31:Cfg:=mkCfg tab [(33,S_V29),(80,S_V30)] [(6,[D0,B3,D0,D0,B0,B0]),(12,[D0,B3,D0,D0,B0,B0,B0]),(27,[]),(18,[D0,B3,D0,D0,B0,B0,B0,B0]),(9,[D0,B3,D0,D0,B0,B0]),(15,[D0,B3,D0,D0,B0,B0,B0])]
noncomputable def wbb (N n:Nat) (K:T56) (a1:Y2) (a4 a5:Int):Z2:=itr A_V31 N 6 Tryz.f93 [1,1,0,1,0,0] n ([.u,W3 a1,.u,.u,W0 a4,W0 a5]++us 43) K
noncomputable def wbc (N n:Nat) (K:T56) (a1:Y2) (a4 a5 a6:Int):Z2:=itr A_V31 N 12 Tryz.f93 [1,1,0,1,0,0,1,0,0,1,0,0] n ([.u,W3 a1,.u,.u,W0 a4,W0 a5,W0 a6]++us 42) K
noncomputable def wig (N n:Nat) (K:T56) (a1:Y2) (a4 a5 a6 a7:Int):Z2:=itr A_V31 N 18 Tryz.f93 [1,1,0,1,0,0,1,0,0,1,0,0,1,0,0,1,0,0] n ([.u,W3 a1,.u,.u,W0 a4,W0 a5,W0 a6,W0 a7]++us 41) K
noncomputable def wn5:Ex→St→Z2:=finish A_V31 S_V31 Tryz.f93.results.toList
noncomputable def wn3 (kX:T19):Z2:=kX ([]++us 49)
noncomputable def wd3 (kX:T19) (kO:T9):=exK wn5 0 (A_V31.shape 27) kX kO
noncomputable def wn4 (kX:T19) (a1:Y2) (a4 a5:Int):Z2:=kX ([.u,W3 a1,.u,.u,W0 a4,W0 a5]++us 43)
noncomputable def wd4 (kX:T19) (kO:T9):=exK wn5 2 (A_V31.shape 9) kX kO
noncomputable def w8r (kX:T19) (a1:Y2) (a4 a5 a6:Int):Z2:=kX ([.u,W3 a1,.u,.u,W0 a4,W0 a5,W0 a6]++us 42)
noncomputable def w8q (kX:T19) (kO:T9):=exK wn5 4 (A_V31.shape 15) kX kO
theorem w8u (N kX kO):∀n,wig N n (w8q kX kO)=wvk N (w8r kX) n :=
 itE rfl fun m=>by kernel_rfl
noncomputable def wn2 (N m:Nat) (kX:T19) (kO:T9):=(blockK 4 (blockK 3 (sqK A_V31 N 15 500007 Tryz.f93 [1,1,0,1,0,0,1,0,0,1,0,0,1,1] (itK A_V31 N 12 Tryz.f93 [1,1,0,1,0,0,1,0,0,1,0,0] m (wd4 kX kO)))))
noncomputable def w8x (N m:Nat) (kX:T19) (kO:T9) (st':St):Z2:=rn A_V31 N Tryz.f93 [1,1,0,1,0,0,1,0,0,1,0,0,1,1] st' (itK A_V31 N 12 Tryz.f93 [1,1,0,1,0,0,1,0,0,1,0,0] m (wd4 kX kO))
theorem xio (N m kX kO) {r}(h:wbc N m (wd4 kX kO)=r):wig N N (wn2 N m kX kO)=wif N r (wn4 kX):=by
 rw[show wig N N (wn2 N m kX kO)=wig N N (w8q (w8x N m kX kO) fun j=>(wn2 N m kX kO) (.exit j)) from(by funext _ _ _ _ _;exact jlo),w8u,show w8r (w8x N m kX kO)=wd5 (wbc N m (wd4 kX kO)) by kernel_rfl,h];rfl
theorem w8t (N kX kO):∀n,wbc N n (wd4 kX kO)=wvj N (wn4 kX) n :=
 itE rfl fun m=>(show _=wd7 (wig N N (wn2 N m kX kO)) (wn4 kX) by kernel_rfl).trans (by rw[xio N m kX kO rfl]<;>rfl)
noncomputable def wn1 (N m:Nat) (kX:T19) (kO:T9):=(blockK 2 (blockK 1 (sqK A_V31 N 9 500004 Tryz.f93 [1,1,0,1,0,0,1,1] (itK A_V31 N 6 Tryz.f93 [1,1,0,1,0,0] m (wd3 kX kO)))))
noncomputable def w8w (N m:Nat) (kX:T19) (kO:T9) (st':St):Z2:=rn A_V31 N Tryz.f93 [1,1,0,1,0,0,1,1] st' (itK A_V31 N 6 Tryz.f93 [1,1,0,1,0,0] m (wd3 kX kO))
theorem xin (N m kX kO) {r}(h:wbb N m (wd3 kX kO)=r):wbc N N (wn1 N m kX kO)=wie N r (wn3 kX):=by
 rw[show wbc N N (wn1 N m kX kO)=wbc N N (wd4 (w8w N m kX kO) fun j=>(wn1 N m kX kO) (.exit j)) from(by funext _ _ _ _;exact jlo),w8t,show wn4 (w8w N m kX kO)=yx (wbb N m (wd3 kX kO)) by kernel_rfl,h];rfl
theorem w8s (N kX kO):∀n,wbb N n (wd3 kX kO)=wvi N (wn3 kX) n :=
 itE rfl fun m=>(show _=wd6 (wbc N N (wn1 N m kX kO)) (wn3 kX) by kernel_rfl).trans (by rw[xin N m kX kO rfl]<;>rfl)
noncomputable def wn0 (N:Nat):=(blockK 0 (sqK A_V31 N 27 500013 Tryz.f93 [1,1,1] wn5))
noncomputable def w8v (N:Nat) (st':St):Z2:=rn A_V31 N Tryz.f93 [1,1,1] st' wn5
theorem xim (N):wbb N N (wn0 N)=wvh N:=by
 rw[show wbb N N (wn0 N)=wbb N N (wd3 (w8v N) fun j=>(wn0 N) (.exit j)) from(by funext _ _ _;exact jlo),w8s,show wn3 (w8v N)=yw by kernel_rfl];rfl
theorem run_V31 (N x):runF A_V31 N Tryz.f93 S_V31 x=V31 N x.1:=(show _=(w23 (wbb N N (wn0 N)) x.1) by kernel_rfl).trans (by rw[xim N];rfl)
theorem ok_V31:OK 93 S_V31:=gdR (A:=A_V31) tc Tryz.func93 (jeq ⟨ok_V29,ok_V30,trivial⟩) (run_V31 big)
def wth (p_0:Y2):Option Z1 :=
  (V28 big p_0).bind fun rq1 =>
  cond (!rq1.1)
  (some (false,(())))
  ((V31 big p_0).bind fun rq2 =>
  some (!((((),rq2.1.2).2).1),(())))
def V32 (p_0:Y2):Option Z1:=wth p_0
def S_V32:Sig:=⟨Q10,[0],[],.unit,.bool,.i,fun x=>V32 x.1⟩
def A_V32:Cfg:=mkCfg tab [(75,S_V28),(93,S_V31)] []
theorem run_V32 (N x):runF A_V32 N Tryz.f64 S_V32 x=V32 x.1:=by kernel_rfl
theorem ok_V32:OK 64 S_V32:=gdR (A:=A_V32) tc Tryz.func64 (jeq ⟨ok_V28,ok_V31,trivial⟩) (run_V32 big)
def xgd (p_0:Y2):Z7 :=
  (V26 big p_0).bind fun rq1 =>
  (V27 big rq1.1 []).bind fun rq2 =>
  some (rq2.1,(()))
def V33 (p_0:Y2):Z7:=xgd p_0
def S_V33:Sig:=⟨Q10,[0],[],.unit,I,.i,fun x=>V33 x.1⟩
def A_V33:Cfg:=mkCfg tab [(71,S_V26),(70,S_V27)] []
theorem run_V33 (N x):runF A_V33 N Tryz.f31 S_V33 x=V33 x.1:=by kernel_rfl
theorem ok_V33:OK 31 S_V33:=gdR (A:=A_V33) tc Tryz.func31 (jeq ⟨ok_V26,ok_V27,trivial⟩) (run_V33 big)
def xge (p_0:Y2):Z7 :=
  (V27 big p_0 []).bind fun rq1 =>
  some (rq1.1,(()))
def V34 (p_0:Y2):Z7:=xge p_0
def S_V34:Sig:=⟨Q10,[0],[],.unit,I,.i,fun x=>V34 x.1⟩
def A_V34:Cfg:=mkCfg tab [(70,S_V27)] []
theorem run_V34 (N x):runF A_V34 N Tryz.f76 S_V34 x=V34 x.1:=by kernel_rfl
theorem ok_V34:OK 76 S_V34:=gdR (A:=A_V34) tc Tryz.func76 (jeq ⟨ok_V27,trivial⟩) (run_V34 big)
def wij (rec:T61) (k:T35) (a1 a2 a3:Int) (a4:Y2) (a9:Y4) (a10:Int):Z3 :=
  cond (decide (a10<(a4.1.length:Int)))
  ((V30 a4 a2 a10).bind fun rq1 =>
  cond (decide (rq1.1=a1))
  ((V29 a4 a2 a10).bind fun rq2 =>
  cond (decide (rq2.1=a3))
  ((appI a9 [a10]).bind fun xq3 =>
  rec a1 a2 a3 a4 xq3 (IntKind.i64.wrap (a10+1)))
  (rec a1 a2 a3 a4 a9 (IntKind.i64.wrap (a10+1))))
  (rec a1 a2 a3 a4 a9 (IntKind.i64.wrap (a10+1))))
  (k a9)
def wd8 (a9:Y4):Z3 :=
  some (a9,(()))
def w24 (L3:T61) (p_0:Y2) (x_1 y_2 z_3:Int):Z3 :=
  L3 x_1 y_2 z_3 p_0 [] 0
def wvm (N:Nat) (k:T35):=itN (fun r=>wij r k) fun _ _ _ _ _ _=>none
def wvl (N:Nat):=wvm N (wd8) N
def V35 (N:Nat) (p_0:Y2) (x_1 y_2 z_3:Int):Z3:=w24 (wvl N) p_0 x_1 y_2 z_3
def S_V35:Sig:=⟨(.pair Q0 (.pair I Q8)),[0,0,0,0],[],.unit,Q6,O4,fun x=>V35 big x.1 x.2.1 x.2.2.1 x.2.2.2.1⟩
def A_V35:Cfg:=mkCfg tab [(80,S_V30),(33,S_V29)] [(6,([D0,B0,B0,B0,B3]++dr 4 [B1,B0])),(15,(dr 9 [B1]))]
noncomputable def wii (N n:Nat) (K:T26) (a1 a2 a3:Int) (a4:Y2) (a9:Y4) (a10:Int):Z3:=itr A_V35 N 6 Tryz.f89 [1,1,0,1,0,0] n (([.u,W0 a1,W0 a2,W0 a3,W3 a4]++ud 4 [W1 a9,W0 a10])++us 27) K
noncomputable def w25:Ex→St→Z3:=finish A_V35 S_V35 Tryz.f89.results.toList
noncomputable def w8z (kX:T11) (a9:Y4):Z3:=kX ((ud 9 [W1 a9])++us 28)
noncomputable def w8y (kX:T11) (kO:T6):=exK w25 0 (A_V35.shape 15) kX kO
theorem w80 (N kX kO):∀n,wii N n (w8y kX kO)=wvm N (w8z kX) n :=
 itE rfl fun m=>by kernel_rfl
noncomputable def wn6 (N:Nat):=(blockK 0 (sqK A_V35 N 15 500007 Tryz.f89 [1,1,1] w25))
noncomputable def w81 (N:Nat) (st':St):Z3:=rn A_V35 N Tryz.f89 [1,1,1] st' w25
theorem xip (N):wii N N (wn6 N)=wvl N:=by
 rw[show wii N N (wn6 N)=wii N N (w8y (w81 N) fun j=>(wn6 N) (.exit j)) from(by funext _ _ _ _ _ _;exact jlo),w80,show w8z (w81 N)=wd8 by kernel_rfl];rfl
theorem run_V35 (N x):runF A_V35 N Tryz.f89 S_V35 x=V35 N x.1 x.2.1 x.2.2.1 x.2.2.2.1:=(show _=(w24 (wii N N (wn6 N)) x.1 x.2.1 x.2.2.1 x.2.2.2.1) by kernel_rfl).trans (by rw[xip N];rfl)
theorem ok_V35:OK 89 S_V35:=gdR (A:=A_V35) tc Tryz.func89 (jeq ⟨ok_V30,ok_V29,trivial⟩) (run_V35 big)
def wil (rec:T22) (k:T35) (a1:Y2) (a3:Y4) (a4:Int):Z3 :=
  cond (decide (a4<(a1.1.length:Int)))
  ((V33 a1).bind fun rq1 =>
  (V34 a1).bind fun rq2 =>
  (V35 big a1 rq1.1 a4 rq2.1).bind fun rq3 =>
  (appI a3 [(rq3.1.length:Int)]).bind fun xq4 =>
  rec a1 xq4 (IntKind.i64.wrap (a4+1)))
  (k a3)
def wd9 (a3:Y4):Z3 :=
  some (a3,(()))
def w26 (L3:T22) (p_0:Y2):Z3 :=
  L3 p_0 [] 0
def wvo (N:Nat) (k:T35):=itN (fun r=>wil r k) fun _ _ _=>none
def wvn (N:Nat):=wvo N (wd9) N
def V36 (N:Nat) (p_0:Y2):Z3:=w26 (wvn N) p_0
def S_V36:Sig:=⟨Q10,[0],[],.unit,Q6,O4,fun x=>V36 big x.1⟩
def A_V36:Cfg:=mkCfg tab [(31,S_V33),(76,S_V34),(89,S_V35)] [(6,[D0,B3,D0,B1,B0]),(13,(dr 3 [B1]))]
noncomputable def wik (N n:Nat) (K:T26) (a1:Y2) (a3:Y4) (a4:Int):Z3:=itr A_V36 N 6 Tryz.f66 [1,1,0,1,0,0] n ([.u,W3 a1,.u,W1 a3,W0 a4]++us 20) K
noncomputable def w27:Ex→St→Z3:=finish A_V36 S_V36 Tryz.f66.results.toList
noncomputable def w83 (kX:T11) (a3:Y4):Z3:=kX ((ud 3 [W1 a3])++us 21)
noncomputable def w82 (kX:T11) (kO:T6):=exK w27 0 (A_V36.shape 13) kX kO
theorem w84 (N kX kO):∀n,wik N n (w82 kX kO)=wvo N (w83 kX) n :=
 itE rfl fun m=>by kernel_rfl
noncomputable def wn7 (N:Nat):=(blockK 0 (sqK A_V36 N 13 500006 Tryz.f66 [1,1,1] w27))
noncomputable def w85 (N:Nat) (st':St):Z3:=rn A_V36 N Tryz.f66 [1,1,1] st' w27
theorem xiq (N):wik N N (wn7 N)=wvn N:=by
 rw[show wik N N (wn7 N)=wik N N (w82 (w85 N) fun j=>(wn7 N) (.exit j)) from(by funext _ _ _;exact jlo),w84,show w83 (w85 N)=wd9 by kernel_rfl];rfl
theorem run_V36 (N x):runF A_V36 N Tryz.f66 S_V36 x=V36 N x.1:=(show _=(w26 (wik N N (wn7 N)) x.1) by kernel_rfl).trans (by rw[xiq N];rfl)
theorem ok_V36:OK 66 S_V36:=gdR (A:=A_V36) tc Tryz.func66 (jeq ⟨ok_V33,ok_V34,ok_V35,trivial⟩) (run_V36 big)
def w28 (p_0:Y2):Option Z1 :=
  (V32 p_0).bind fun rq1 =>
  cond rq1.1
  ((V36 big p_0).bind fun rq2 =>
  (V14 big rq2.1 0).bind fun rq3 =>
  some (!rq3.1,(())))
  (some (false,(())))
def V37 (p_0:Y2):Option Z1:=w28 p_0
def S_V37:Sig:=⟨Q10,[0],[],.unit,.bool,.i,fun x=>V37 x.1⟩
def A_V37:Cfg:=mkCfg tab [(64,S_V32),(66,S_V36),(65,S_V14)] []
theorem run_V37 (N x):runF A_V37 N Tryz.f22 S_V37 x=V37 x.1:=by kernel_rfl
theorem ok_V37:OK 22 S_V37:=gdR (A:=A_V37) tc Tryz.func22 (jeq ⟨ok_V32,ok_V36,ok_V14,trivial⟩) (run_V37 big)
def wio (rec:T62) (k:T35) (a1:Y2) (a3:Y4) (a4 a5:Int):Z3 :=
  cond (decide (a5<(a1.1.length:Int)))
  ((V17 big a1 a4 a5).bind fun rq2 =>
  cond rq2.1
  ((appI a3 [a5]).bind fun xq3 =>
  rec a1 xq3 a4 (IntKind.i64.wrap (a5+1)))
  (rec a1 a3 a4 (IntKind.i64.wrap (a5+1))))
  (k a3)
def wea (a3:Y4):Z3 :=
  some (a3,(()))
def w29 (L4:T62) (p_0:Y2):Z3 :=
  (V33 p_0).bind fun rq1 =>
  L4 p_0 [] rq1.1 0
def wvq (N:Nat) (k:T35):=itN (fun r=>wio r k) fun _ _ _ _=>none
def wvp (N:Nat):=wvq N (wea) N
def V38 (N:Nat) (p_0:Y2):Z3:=w29 (wvp N) p_0
def S_V38:Sig:=⟨Q10,[0],[],.unit,Q6,O4,fun x=>V38 big x.1⟩
def A_V38:Cfg:=mkCfg tab [(31,S_V33),(67,S_V17)] [(8,[D0,B3,D0,B1,B0,B0]),(17,(dr 3 [B1]))]
noncomputable def wim (N n:Nat) (K:T26) (a1:Y2) (a3:Y4) (a4 a5:Int):Z3:=itr A_V38 N 8 Tryz.f23 [1,1,1,0,1,0,0] n ([.u,W3 a1,.u,W1 a3,W0 a4,W0 a5]++us 19) K
noncomputable def w3a:Ex→St→Z3:=finish A_V38 S_V38 Tryz.f23.results.toList
noncomputable def w87 (kX:T11) (a3:Y4):Z3:=kX ((ud 3 [W1 a3])++us 21)
noncomputable def w86 (kX:T11) (kO:T6):=exK w3a 0 (A_V38.shape 17) kX kO
theorem w88 (N kX kO):∀n,wim N n (w86 kX kO)=wvq N (w87 kX) n :=
 itE rfl fun m=>by kernel_rfl
noncomputable def wn8 (N:Nat):=(blockK 0 (sqK A_V38 N 17 500008 Tryz.f23 [1,1,1,1] w3a))
noncomputable def w89 (N:Nat) (st':St):Z3:=rn A_V38 N Tryz.f23 [1,1,1,1] st' w3a
theorem xir (N):wim N N (wn8 N)=wvp N:=by
 rw[show wim N N (wn8 N)=wim N N (w86 (w89 N) fun j=>(wn8 N) (.exit j)) from(by funext _ _ _ _;exact jlo),w88,show w87 (w89 N)=wea by kernel_rfl];rfl
theorem run_V38 (N x):runF A_V38 N Tryz.f23 S_V38 x=V38 N x.1:=(show _=(w29 (wim N N (wn8 N)) x.1) by kernel_rfl).trans (by rw[xir N];rfl)
theorem ok_V38:OK 23 S_V38:=gdR (A:=A_V38) tc Tryz.func23 (jeq ⟨ok_V33,ok_V17,trivial⟩) (run_V38 big)
def xgf (a_0 b_1:Int):Z7 :=
  cond (decide (b_1<a_0))
  (some (a_0,(())))
  (some (b_1,(())))
def V39 (a_0 b_1:Int):Z7:=xgf a_0 b_1
def S_V39:Sig:=⟨Q8,[0,0],[],.unit,I,.i,fun x=>V39 x.1 x.2.1⟩
def A_V39:Cfg:=mkCfg tab [] []
theorem run_V39 (N x):runF A_V39 N Tryz.f25 S_V39 x=V39 x.1 x.2.1:=by kernel_rfl
theorem ok_V39:OK 25 S_V39:=gdR (A:=A_V39) tc Tryz.func25 (jeq trivial) (run_V39 big)
def wir (rec:T46) (k:Y2→Y2→Y2→Y2→Y4→Z14) (a2 a3:Y2) (a5:Z0) (a6 a7:Y2) (a8:Y4) (a9 a10:Int):Z14 :=
  (V38 big a7).bind fun rq6 =>
  cond (decide (a10<(rq6.1.length:Int)))
  ((V39 1 a9).bind fun rq7 =>
  (V2 a5 24).bind fun rq8 =>
  (quoI IntKind.i64 rq8.1 23).bind fun xq9 =>
  (V2 rq8.2.1 (IntKind.i64.wrap (rq7.1+xq9))).bind fun rq10 =>
  (appI a8 [rq10.1]).bind fun xq11 =>
  rec a2 a3 rq10.2.1 a6 a7 xq11 a9 (IntKind.i64.wrap (a10+1)))
  (k a2 a3 a6 a7 a8)
def wiq (a2 a3 a6 a7:Y2) (a8:Y4):Z14 :=
  some ((a6,a7,a8,()),(()))
def w3b (L7:T46) (code_0:Y4):Z14 :=
  (V22 big (code_0,(0,(0,())))).bind fun rq1 =>
  (V22 big rq1.2.1).bind fun rq2 =>
  (V37 rq1.1).bind fun rq3 =>
  cond rq3.1
  ((V37 rq2.1).bind fun rq4 =>
  cond rq4.1
  ((V38 big rq1.1).bind fun rq5 =>
  L7 (([]:Y3),()) (([]:Y3),()) rq2.2.1 rq1.1 rq2.1 [] (rq5.1.length:Int) 0)
  (some ((rq1.1,rq2.1,[],()),(()))))
  (some ((rq1.1,rq2.1,[],()),(())))
def wvs (N:Nat) (k:Y2→Y2→Y2→Y2→Y4→Z14):=itN (fun r=>wir r k) fun _ _ _ _ _ _ _ _=>none
def wvr (N:Nat):=wvs N (wiq) N
def V40 (N:Nat) (code_0:Y4):Z14:=w3b (wvr N) code_0
def S_V40:Sig:=⟨(.pair Q14 .unit),[0],[],.unit,(.tup Q18),.i,fun x=>V40 big x.1⟩
def A_V40:Cfg:=mkCfg tab [(21,S_V22),(22,S_V37),(23,S_V38),(25,S_V39),(24,S_V2)] [(14,[D0,D0,B2,B2,D0,B6,B3,B3,B1,B0,B0]),(21,[D0,D0,B2,B2,D0,D0,B3,B3,B1])]
noncomputable def wip (N n:Nat) (K:Ex→St→Z14) (a2 a3:Y2) (a5:Z0) (a6 a7:Y2) (a8:Y4) (a9 a10:Int):Z14:=itr A_V40 N 14 Tryz.f5 [1,1,1,1,0,1,0,1,1,0,0] n ([.u,.u,W2 a2,W2 a3,.u,W6 a5,W3 a6,W3 a7,W1 a8,W0 a9,W0 a10]++us 38) K
noncomputable def w3c:Ex→St→Z14:=finish A_V40 S_V40 Tryz.f5.results.toList
noncomputable def w9b (kX:St→Z14) (a2 a3 a6 a7:Y2) (a8:Y4):Z14:=kX ([.u,.u,W2 a2,W2 a3,.u,.u,W3 a6,W3 a7,W1 a8]++us 40)
noncomputable def w9a (kX:St→Z14) (kO:Nat→St→Z14):=exK w3c 0 (A_V40.shape 21) kX kO
theorem w9c (N kX kO):∀n,wip N n (w9a kX kO)=wvs N (w9b kX) n :=
 itE rfl fun m=>by kernel_rfl
noncomputable def wn9 (N:Nat):=(blockK 0 (sqK A_V40 N 21 500010 Tryz.f5 [1,1,1,1,1] w3c))
noncomputable def w9d (N:Nat) (st':St):Z14:=rn A_V40 N Tryz.f5 [1,1,1,1,1] st' w3c
theorem xis (N):wip N N (wn9 N)=wvr N:=by
 rw[show wip N N (wn9 N)=wip N N (w9a (w9d N) fun j=>(wn9 N) (.exit j)) from(by funext _ _ _ _ _ _ _ _;exact jlo),w9c,show w9b (w9d N)=wiq by kernel_rfl];rfl
theorem run_V40 (N x):runF A_V40 N Tryz.f5 S_V40 x=V40 N x.1:=(show _=(w3b (wip N N (wn9 N)) x.1) by kernel_rfl).trans (by rw[xis N];rfl)
theorem ok_V40:OK 5 S_V40:=gdR (A:=A_V40) tc Tryz.func5 (jeq ⟨ok_V22,ok_V37,ok_V38,ok_V39,ok_V2,trivial⟩) (run_V40 big)
def wit (rec:T90) (k:Y5→Z13) (a0:Int) (a3:Y5) (a8 a9:Int):Z13 :=
  cond (decide (a9<a8))
  ((mkI false a0).bind fun xq3=>(mkI false a0).bind fun xq4=>cond (decide (a0≤a0))
  ((atI a3 a9).bind fun _ =>
  (a3[a9.toNat]?).bind fun xq5 =>
  rec a0 (a3.set a9.toNat xq4) a8 (IntKind.i64.wrap (a9+1)))
  none)
  (k a3)
def web (a3:Y5):Z13 :=
  some (a3,(()))
def w3d (L3:T90) (n_0:Int):Z13 :=
  (mkI ([]:Z12) n_0).bind fun xq1=>(mkI ([]:Z12) n_0).bind fun xq2=>cond (decide (n_0≤n_0))
  (L3 n_0 xq2 (xq2.length:Int) 0)
  none
def wvu (N:Nat) (k:Y5→Z13):=itN (fun r=>wit r k) fun _ _ _ _=>none
def wvt (N:Nat):=wvu N (web) N
def V41 (N:Nat) (n_0:Int):Z13:=w3d (wvt N) n_0
def S_V41:Sig:=⟨Q17,[0],[],.unit,Q7,O11,fun x=>V41 big x.1⟩
def A_V41:Cfg:=mkCfg tab [] [(6,([B0,D0,D0,B7]++dr 4 [B0,B0])),(15,(dr 3 [B7]))]
noncomputable def wis (N n:Nat) (K:Ex→St→Z13) (a0:Int) (a3:Y5) (a8 a9:Int):Z13:=itr A_V41 N 6 Tryz.f118 [1,1,0,1,0,0] n (([W0 a0,.u,.u,W7 a3]++ud 4 [W0 a8,W0 a9])++us 9) K
noncomputable def w3e:Ex→St→Z13:=finish A_V41 S_V41 Tryz.f118.results.toList
noncomputable def w9f (kX:St→Z13) (a3:Y5):Z13:=kX ((ud 3 [W7 a3])++us 15)
noncomputable def w9e (kX:St→Z13) (kO:T112):=exK w3e 0 (A_V41.shape 15) kX kO
theorem w9g (N kX kO):∀n,wis N n (w9e kX kO)=wvu N (w9f kX) n :=
 itE rfl fun m=>by kernel_rfl
noncomputable def woa (N:Nat):=(blockK 0 (sqK A_V41 N 15 500007 Tryz.f118 [1,1,1] w3e))
noncomputable def w9h (N:Nat) (st':St):Z13:=rn A_V41 N Tryz.f118 [1,1,1] st' w3e
theorem xit (N):wis N N (woa N)=wvt N:=by
 rw[show wis N N (woa N)=wis N N (w9e (w9h N) fun j=>(woa N) (.exit j)) from(by funext _ _ _ _;exact jlo),w9g,show w9f (w9h N)=web by kernel_rfl];rfl
theorem run_V41 (N x):runF A_V41 N Tryz.f118 S_V41 x=V41 N x.1:=(show _=(w3d (wis N N (woa N)) x.1) by kernel_rfl).trans (by rw[xit N];rfl)
theorem ok_V41:OK 118 S_V41:=gdR (A:=A_V41) tc Tryz.func118 (jeq trivial) (run_V41 big)
def wvy (rec:Y4→Int→Option Z1) (k:Option Z1) (a0:Y4) (a3:Int):Option Z1 :=
  cond (decide (a3<(a0.length:Int)))
  ((atI a0 (IntKind.i64.wrap (a3-1))).bind fun xq1 =>
  (atI a0 a3).bind fun xq2 =>
  cond (decide (xq2≤xq1))
  (some (false,(())))
  (rec a0 (IntKind.i64.wrap (a3+1))))
  (k)
def wvx:Option Z1 :=
  some (true,(()))
def w3f (L2:Y4→Int→Option Z1) (list_0:Y4):Option Z1 :=
  L2 list_0 1
def wiu (N:Nat) (k:Option Z1):Nat→Y4→Int→Option Z1
  | 0,_,_=>none
  | m+1,a0,a3=>wvy (wiu N k m) k a0 a3
def wvv (N:Nat):=wiu N (wvx) N
def V42 (N:Nat) (list_0:Y4):Option Z1:=w3f (wvv N) list_0
def S_V42:Sig:=⟨Q9,[0],[],.unit,.bool,.i,fun x=>V42 big x.1⟩
def A_V42:Cfg:=mkCfg tab [] [(4,[B4,D0,D0,B0]),(13,[])]
noncomputable def wbd (N n:Nat) (K:Ex→St→Option Z1) (a0:Y4) (a3:Int):Option Z1:=itr A_V42 N 4 Tryz.f84 [1,0,1,0,0] n ([W4 a0,.u,.u,W0 a3]++us 16) K
noncomputable def w3g:Ex→St→Option Z1:=finish A_V42 S_V42 Tryz.f84.results.toList
noncomputable def wvw (kX:St→Option Z1):Option Z1:=kX ([]++us 20)
noncomputable def wob (kX:St→Option Z1) (kO:Nat→St→Option Z1):Ex→St→Option Z1:=exK w3g 0 (A_V42.shape 13) kX kO
theorem wsw (N kX kO):∀n,wbd N n (wob kX kO)=wiu N (wvw kX) n
 | 0=>rfl
 | m+1=>(show wbd N (m+1) (wob kX kO)=wvy (wbd N m (wob kX kO)) (wvw kX) by kernel_rfl).trans (by rw[wsw N kX kO m];funext _ _;rfl)
noncomputable def woc (N:Nat):Ex→St→Option Z1:=(blockK 0 (sqK A_V42 N 13 500006 Tryz.f84 [1,1] w3g))
noncomputable def w9i (N:Nat) (st':St):Option Z1:=rn A_V42 N Tryz.f84 [1,1] st' w3g
theorem xiu (N):wbd N N (woc N)=wvv N:=by
 rw[show wbd N N (woc N)=wbd N N (wob (w9i N) fun j=>(woc N) (.exit j)) from(by funext _ _;exact jlo),wsw,show wvw (w9i N)=wvx by kernel_rfl];rfl
theorem run_V42 (N x):runF A_V42 N Tryz.f84 S_V42 x=V42 N x.1:=(show _=(w3f (wbd N N (woc N)) x.1) by kernel_rfl).trans (by rw[xiu N];rfl)
theorem ok_V42:OK 84 S_V42:=gdR (A:=A_V42) tc Tryz.func84 (jeq trivial) (run_V42 big)
def wv2 (rec:Int→Y4→Int→Int→Option Z1) (k:Option Z1) (a1:Int) (a7:Y4) (a8 a9:Int):Option Z1 :=
  cond (decide (a9<a8))
  ((atI a7 a9).bind fun xq1 =>
  cond (decide (xq1<0))
  (some (false,(())))
  (cond (decide (a1≤xq1))
  (some (false,(())))
  (rec a1 a7 a8 (IntKind.i64.wrap (a9+1)))))
  (k)
def wv1:Option Z1 :=
  some (true,(()))
def w3h (L2:Int→Y4→Int→Int→Option Z1) (list_0:Y4) (n_1:Int):Option Z1 :=
  L2 n_1 list_0 (list_0.length:Int) 0
def wiv (N:Nat) (k:Option Z1):Nat→Int→Y4→Int→Int→Option Z1
  | 0,_,_,_,_=>none
  | m+1,a1,a7,a8,a9=>wv2 (wiv N k m) k a1 a7 a8 a9
def wvz (N:Nat):=wiv N (wv1) N
def V43 (N:Nat) (list_0:Y4) (n_1:Int):Option Z1:=w3h (wvz N) list_0 n_1
def S_V43:Sig:=⟨(.pair Q6 Q17),[0,0],[],.unit,.bool,.i,fun x=>V43 big x.1 x.2.1⟩
def A_V43:Cfg:=mkCfg tab [] [(4,([D0,B0]++dr 5 [B4,B0,B0])),(15,[])]
noncomputable def wbe (N n:Nat) (K:Ex→St→Option Z1) (a1:Int) (a7:Y4) (a8 a9:Int):Option Z1:=itr A_V43 N 4 Tryz.f28 [1,0,1,0,0] n (([.u,W0 a1]++ud 5 [W4 a7,W0 a8,W0 a9])++us 11) K
noncomputable def w3i:Ex→St→Option Z1:=finish A_V43 S_V43 Tryz.f28.results.toList
noncomputable def wv0 (kX:St→Option Z1):Option Z1:=kX ([]++us 21)
noncomputable def wod (kX:St→Option Z1) (kO:Nat→St→Option Z1):Ex→St→Option Z1:=exK w3i 0 (A_V43.shape 15) kX kO
theorem wsx (N kX kO):∀n,wbe N n (wod kX kO)=wiv N (wv0 kX) n
 | 0=>rfl
 | m+1=>(show wbe N (m+1) (wod kX kO)=wv2 (wbe N m (wod kX kO)) (wv0 kX) by kernel_rfl).trans (by rw[wsx N kX kO m];funext _ _ _ _;rfl)
noncomputable def woe (N:Nat):Ex→St→Option Z1:=(blockK 0 (sqK A_V43 N 15 500007 Tryz.f28 [1,1] w3i))
noncomputable def w9j (N:Nat) (st':St):Option Z1:=rn A_V43 N Tryz.f28 [1,1] st' w3i
theorem xiv (N):wbe N N (woe N)=wvz N:=by
 rw[show wbe N N (woe N)=wbe N N (wod (w9j N) fun j=>(woe N) (.exit j)) from(by funext _ _ _ _;exact jlo),wsx,show wv0 (w9j N)=wv1 by kernel_rfl];rfl
theorem run_V43 (N x):runF A_V43 N Tryz.f28 S_V43 x=V43 N x.1 x.2.1:=(show _=(w3h (wbe N N (woe N)) x.1 x.2.1) by kernel_rfl).trans (by rw[xiv N];rfl)
theorem ok_V43:OK 28 S_V43:=gdR (A:=A_V43) tc Tryz.func28 (jeq trivial) (run_V43 big)
def wef (rec:Y5→Int→Int→Int→Int→Int→Int→Int→Int→Option Z1) (k:Y5→Int→Int→Int→Int→Int→Option Z1) (a0:Y5) (a3 a4 a7 a8 a20 a21 a46 a47:Int):Option Z1 :=
  cond (decide (a47<a46))
  ((atI a0 a3).bind fun xq7 =>
  (atI xq7 a4).bind fun xq8 =>
  cond xq8
  ((atI a0 a4).bind fun xq9 =>
  (atI xq9 a47).bind fun xq10 =>
  cond xq10
  ((atI a0 a3).bind fun xq11 =>
  (atI xq11 a47).bind fun xq12 =>
  cond (!xq12)
  (some (false,(())))
  (rec a0 a3 a4 a7 a8 a20 a21 a46 (IntKind.i64.wrap (a47+1))))
  (rec a0 a3 a4 a7 a8 a20 a21 a46 (IntKind.i64.wrap (a47+1))))
  (rec a0 a3 a4 a7 a8 a20 a21 a46 (IntKind.i64.wrap (a47+1))))
  (k a0 a3 a7 a8 a20 a21)
def wal (rec:Y5→Int→Int→Int→Int→Int→Option Z1) (a0:Y5) (a3 a7 a8 a20 a21:Int):Option Z1 :=
  rec a0 a3 a7 a8 a20 (IntKind.i64.wrap (a21+1))
def weh (L12:Y5→Int→Int→Int→Int→Int→Int→Int→Int→Option Z1) (k:Y5→Int→Int→Option Z1) (a0:Y5) (a3 a7 a8 a20 a21:Int):Option Z1 :=
  cond (decide (a21<a20))
  (cond (decide (a3≠a21))
  ((atI a0 a3).bind fun xq3 =>
  (atI xq3 a21).bind fun xq4 =>
  cond xq4
  ((atI a0 a21).bind fun xq5 =>
  (atI xq5 a3).bind fun xq6 =>
  cond xq6
  (some (false,(())))
  (L12 a0 a3 a21 a7 a8 a20 a21 (a0.length:Int) 0))
  (L12 a0 a3 a21 a7 a8 a20 a21 (a0.length:Int) 0))
  (L12 a0 a3 a21 a7 a8 a20 a21 (a0.length:Int) 0))
  (k a0 a7 a8)
def x6 (rec:Y5→Int→Int→Option Z1) (a0:Y5) (a7 a8:Int):Option Z1 :=
  rec a0 a7 (IntKind.i64.wrap (a8+1))
def weg (L7:Y5→Int→Int→Int→Int→Int→Option Z1) (k:Option Z1) (a0:Y5) (a7 a8:Int):Option Z1 :=
  cond (decide (a8<a7))
  ((atI a0 a8).bind fun xq1 =>
  (atI xq1 a8).bind fun xq2 =>
  cond (!xq2)
  (some (false,(())))
  (L7 a0 a8 a7 a8 (a0.length:Int) 0))
  (k)
def yz:Option Z1 :=
  some (true,(()))
def w3k (L2:Y5→Int→Int→Option Z1) (o_0:Y5):Option Z1 :=
  L2 o_0 (o_0.length:Int) 0
def wsg (N:Nat) (k:Y5→Int→Int→Int→Int→Int→Option Z1):=itN (fun r=>wef r k) fun _ _ _ _ _ _ _ _ _=>none
def wak (N:Nat) (rec:Y5→Int→Int→Int→Int→Int→Option Z1) (k:Y5→Int→Int→Option Z1):=wsg N (wal rec) N
def wv5 (N:Nat) (k:Y5→Int→Int→Option Z1):=itN (fun r=>weh (wak N r k) k) fun _ _ _ _ _ _=>none
def wiw (N:Nat) (rec:Y5→Int→Int→Option Z1) (k:Option Z1):=wv5 N (x6 rec) N
def wv4 (N:Nat) (k:Option Z1):=itN (fun r=>weg (wiw N r k) k) fun _ _ _=>none
def wv3 (N:Nat):=wv4 N (yz) N
def V44 (N:Nat) (o_0:Y5):Option Z1:=w3k (wv3 N) o_0
def S_V44:Sig:=⟨(.pair Q7 .unit),[0],[],.unit,.bool,.i,fun x=>V44 big x.1⟩
def A_V44:Cfg:=mkCfg tab [] [(4,([.as Q7 .i]++dr 6 [B0,B0])),(14,([.as Q7 .i,D0,D0,B0]++dr 3 ([B0,B0]++dr 11 [B0,B0]))),(39,[]),(24,([.as Q7 .i,D0,D0,B0,B0,D0,D0,B0,B0]++dr 11 ([B0,B0]++dr 24 [B0,B0]))),(37,([.as Q7 .i]++dr 6 [B0,B0])),(35,([.as Q7 .i,D0,D0,B0]++dr 3 ([B0,B0]++dr 11 [B0,B0])))]
noncomputable def wbf (N n:Nat) (K:Ex→St→Option Z1) (a0:Y5) (a7 a8:Int):Option Z1:=itr A_V44 N 4 Tryz.f119 [1,0,1,0,0] n (([.val Q7 .i a0]++ud 6 [W0 a7,W0 a8])++us 70) K
noncomputable def wbg (N n:Nat) (K:Ex→St→Option Z1) (a0:Y5) (a3 a7 a8 a20 a21:Int):Option Z1:=itr A_V44 N 14 Tryz.f119 [1,0,1,0,0,1,1,0,0,1,1,1,0,0] n (([.val Q7 .i a0,.u,.u,W0 a3]++ud 3 ([W0 a7,W0 a8]++ud 11 [W0 a20,W0 a21]))++us 57) K
noncomputable def wee (N n:Nat) (K:Ex→St→Option Z1) (a0:Y5) (a3 a4 a7 a8 a20 a21 a46 a47:Int):Option Z1:=itr A_V44 N 24 Tryz.f119 [1,0,1,0,0,1,1,0,0,1,1,1,0,0,1,1,0,0,1,1,1,0,0] n (([.val Q7 .i a0,.u,.u,W0 a3,W0 a4,.u,.u,W0 a7,W0 a8]++ud 11 ([W0 a20,W0 a21]++ud 24 [W0 a46,W0 a47]))++us 31) K
noncomputable def woj:Ex→St→Option Z1:=finish A_V44 S_V44 Tryz.f119.results.toList
noncomputable def woh (kX:St→Option Z1):Option Z1:=kX ([]++us 79)
noncomputable def wec (kX:St→Option Z1) (kO:Nat→St→Option Z1):Ex→St→Option Z1:=exK woj 0 (A_V44.shape 39) kX kO
noncomputable def woi (kX:St→Option Z1) (a0:Y5) (a7 a8:Int):Option Z1:=kX (([.val Q7 .i a0]++ud 6 [W0 a7,W0 a8])++us 70)
noncomputable def wed (kX:St→Option Z1) (kO:Nat→St→Option Z1):Ex→St→Option Z1:=exK woj 2 (A_V44.shape 37) kX kO
noncomputable def w03 (kX:St→Option Z1) (a0:Y5) (a3 a7 a8 a20 a21:Int):Option Z1:=kX (([.val Q7 .i a0,.u,.u,W0 a3]++ud 3 ([W0 a7,W0 a8]++ud 11 [W0 a20,W0 a21]))++us 57)
noncomputable def w02 (kX:St→Option Z1) (kO:Nat→St→Option Z1):Ex→St→Option Z1:=exK woj 4 (A_V44.shape 35) kX kO
theorem w3j (N kX kO):∀n,wee N n (w02 kX kO)=wsg N (w03 kX) n :=
 itE rfl fun m=>by kernel_rfl
noncomputable def wlz (N m:Nat) (kX:St→Option Z1) (kO:Nat→St→Option Z1):Ex→St→Option Z1:=(blockK 4 (blockK 3 (sqK A_V44 N 35 500017 Tryz.f119 [1,0,1,0,0,1,1,0,0,1,1,1,0,0,1,1,1] (itK A_V44 N 14 Tryz.f119 [1,0,1,0,0,1,1,0,0,1,1,1,0,0] m (wed kX kO)))))
noncomputable def w04 (N m:Nat) (kX:St→Option Z1) (kO:Nat→St→Option Z1) (st':St):Option Z1:=rn A_V44 N Tryz.f119 [1,0,1,0,0,1,1,0,0,1,1,1,0,0,1,1,1] st' (itK A_V44 N 14 Tryz.f119 [1,0,1,0,0,1,1,0,0,1,1,1,0,0] m (wed kX kO))
theorem xe7 (N m kX kO) {r}(h:wbg N m (wed kX kO)=r):wee N N (wlz N m kX kO)=wak N r (woi kX):=by
 rw[show wee N N (wlz N m kX kO)=wee N N (w02 (w04 N m kX kO) fun j=>(wlz N m kX kO) (.exit j)) from(by funext _ _ _ _ _ _ _ _ _;exact jlo),w3j,show w03 (w04 N m kX kO)=wal (wbg N m (wed kX kO)) by kernel_rfl,h];rfl
theorem w9l (N kX kO):∀n,wbg N n (wed kX kO)=wv5 N (woi kX) n :=
 itE rfl fun m=>(show _=weh (wee N N (wlz N m kX kO)) (woi kX) by kernel_rfl).trans (by rw[xe7 N m kX kO rfl]<;>rfl)
noncomputable def wog (N m:Nat) (kX:St→Option Z1) (kO:Nat→St→Option Z1):Ex→St→Option Z1:=(blockK 2 (blockK 1 (sqK A_V44 N 37 500018 Tryz.f119 [1,0,1,0,0,1,1,1] (itK A_V44 N 4 Tryz.f119 [1,0,1,0,0] m (wec kX kO)))))
noncomputable def w9n (N m:Nat) (kX:St→Option Z1) (kO:Nat→St→Option Z1) (st':St):Option Z1:=rn A_V44 N Tryz.f119 [1,0,1,0,0,1,1,1] st' (itK A_V44 N 4 Tryz.f119 [1,0,1,0,0] m (wec kX kO))
theorem xiy (N m kX kO) {r}(h:wbf N m (wec kX kO)=r):wbg N N (wog N m kX kO)=wiw N r (woh kX):=by
 rw[show wbg N N (wog N m kX kO)=wbg N N (wed (w9n N m kX kO) fun j=>(wog N m kX kO) (.exit j)) from(by funext _ _ _ _ _ _;exact jlo),w9l,show woi (w9n N m kX kO)=x6 (wbf N m (wec kX kO)) by kernel_rfl,h];rfl
theorem w9k (N kX kO):∀n,wbf N n (wec kX kO)=wv4 N (woh kX) n :=
 itE rfl fun m=>(show _=weg (wbg N N (wog N m kX kO)) (woh kX) by kernel_rfl).trans (by rw[xiy N m kX kO rfl]<;>rfl)
noncomputable def wof (N:Nat):Ex→St→Option Z1:=(blockK 0 (sqK A_V44 N 39 500019 Tryz.f119 [1,1] woj))
noncomputable def w9m (N:Nat) (st':St):Option Z1:=rn A_V44 N Tryz.f119 [1,1] st' woj
theorem xix (N):wbf N N (wof N)=wv3 N:=by
 rw[show wbf N N (wof N)=wbf N N (wec (w9m N) fun j=>(wof N) (.exit j)) from(by funext _ _ _;exact jlo),w9k,show woh (w9m N)=yz by kernel_rfl];rfl
theorem run_V44 (N x):runF A_V44 N Tryz.f119 S_V44 x=V44 N x.1:=(show _=(w3k (wbf N N (wof N)) x.1) by kernel_rfl).trans (by rw[xix N];rfl)
theorem ok_V44:OK 119 S_V44:=gdR (A:=A_V44) tc Tryz.func119 (jeq trivial) (run_V44 big)
def wel (rec:T15) (k:T86) (a4:Int) (a5:Y5) (a6:Int) (a18:Y3) (a19 a20:Int) (a29:Y4) (a30:Int) (a31 a32:Bool) (a34:Y4) (a35 a36:Int):Z11 :=
  cond (decide (a36<a35))
  ((atI a34 a36).bind fun xq6 =>
  (atI a5 xq6).bind fun _ =>
  (a5[xq6.toNat]?).bind fun xq7 =>
  (a5[xq6.toNat]?).bind fun xq8 =>
  (atI xq8 a6).bind fun _ =>
  (a5[xq6.toNat]?).bind fun xq9 =>
  (xq9[a6.toNat]?).bind fun xq10 =>
  rec a4 (a5.set xq6.toNat (xq9.set a6.toNat true)) a6 a18 a19 a20 a29 a30 a31 a32 a34 a35 (IntKind.i64.wrap (a36+1)))
  (k a4 a5 a18 a19 a20 a29 a30 a31 a32)
def wam (rec:T45) (a4:Int) (a5:Y5) (a18:Y3) (a19 a20:Int) (a29:Y4) (a30:Int) (a31 a32:Bool):Z11 :=
  rec a4 a5 a18 a19 (IntKind.i64.wrap (a20+1))
def wem (L11:T15) (k:Y5→Z11) (a4:Int) (a5:Y5) (a18:Y3) (a19 a20:Int):Z11 :=
  cond (decide (a20<a19))
  ((atI a18 a20).bind fun xq2 =>
  (V42 big xq2).bind fun rq3 =>
  cond (!rq3.1)
  (some (([],false,()),(())))
  ((V43 big xq2 a4).bind fun rq4 =>
  cond (!rq4.1)
  (some (([],false,()),(())))
  (L11 a4 a5 a20 a18 a19 a20 xq2 a4 rq4.1 (!rq4.1) xq2 (xq2.length:Int) 0)))
  (k a5)
def y5 (a5:Y5):Z11 :=
  (V44 big a5).bind fun rq5 =>
  some ((a5,rq5.1,()),(()))
def wti (L6:T45) (p_0:Y2):Z11 :=
  cond (decide (10<(p_0.1.length:Int)))
  (some (([],false,()),(())))
  ((V41 big (p_0.1.length:Int)).bind fun rq1 =>
  L6 (p_0.1.length:Int) rq1.1 p_0.1 (p_0.1.length:Int) 0)
def wsh (N:Nat) (k:T86):=itN (fun r=>wel r k) fun _ _ _ _ _ _ _ _ _ _ _ _ _=>none
def wej (N:Nat) (rec:T45) (k:Y5→Z11):=wsh N (wam rec) N
def wv7 (N:Nat) (k:Y5→Z11):=itN (fun r=>wem (wej N r k) k) fun _ _ _ _ _=>none
def wv6 (N:Nat):=wv7 N (y5) N
def V45 (N:Nat) (p_0:Y2):Z11:=wti (wv6 N) p_0
def S_V45:Sig:=⟨Q10,[0],[],.unit,(.tup (.pair Q7 Q12)),(.p O11 .i),fun x=>V45 big x.1⟩
def A_V45:Cfg:=mkCfg tab [(118,S_V41),(84,S_V42),(28,S_V43),(119,S_V44)] [(12,(dr 4 ([B0,B7]++dr 12 [.as Q15 .i,B0,B0]))),(22,(dr 4 ([B0,B7,B0]++dr 11 ([.as Q15 .i,B0,B0]++dr 8 [B4,B0,B8,B8,D0,B4,B0,B0])))),(33,(dr 5 [B7])),(31,(dr 4 ([B0,B7]++dr 12 ([.as Q15 .i,B0,B0]++dr 8 [B4,B0,B8,B8]))))]
noncomputable def wbh (N n:Nat) (K:Ex→St→Z11) (a4:Int) (a5:Y5) (a18:Y3) (a19 a20:Int):Z11:=itr A_V45 N 12 Tryz.f99 [1,1,1,1,0,1,0,0] n ((ud 4 ([W0 a4,W7 a5]++ud 12 [.val Q15 .i a18,W0 a19,W0 a20]))++us 30) K
noncomputable def wek (N n:Nat) (K:Ex→St→Z11) (a4:Int) (a5:Y5) (a6:Int) (a18:Y3) (a19 a20:Int) (a29:Y4) (a30:Int) (a31 a32:Bool) (a34:Y4) (a35 a36:Int):Z11:=itr A_V45 N 22 Tryz.f99 [1,1,1,1,0,1,0,0,1,1,0,0,1,1,1,0,0] n ((ud 4 ([W0 a4,W7 a5,W0 a6]++ud 11 ([.val Q15 .i a18,W0 a19,W0 a20]++ud 8 [W4 a29,W0 a30,W8 a31,W8 a32,.u,W4 a34,W0 a35,W0 a36])))++us 14) K
noncomputable def wtj:Ex→St→Z11:=finish A_V45 S_V45 Tryz.f99.results.toList
noncomputable def wol (kX:St→Z11) (a5:Y5):Z11:=kX ((ud 5 [W7 a5])++us 45)
noncomputable def wei (kX:St→Z11) (kO:Nat→St→Z11):=exK wtj 0 (A_V45.shape 33) kX kO
noncomputable def w06 (kX:St→Z11) (a4:Int) (a5:Y5) (a18:Y3) (a19 a20:Int) (a29:Y4) (a30:Int) (a31 a32:Bool):Z11:=kX ((ud 4 ([W0 a4,W7 a5]++ud 12 ([.val Q15 .i a18,W0 a19,W0 a20]++ud 8 [W4 a29,W0 a30,W8 a31,W8 a32])))++us 18)
noncomputable def w05 (kX:St→Z11) (kO:Nat→St→Z11):=exK wtj 2 (A_V45.shape 31) kX kO
theorem w3l (N kX kO):∀n,wek N n (w05 kX kO)=wsh N (w06 kX) n :=
 itE rfl fun m=>by kernel_rfl
noncomputable def wl0 (N m:Nat) (kX:St→Z11) (kO:Nat→St→Z11):=(blockK 2 (blockK 1 (sqK A_V45 N 31 500015 Tryz.f99 [1,1,1,1,0,1,0,0,1,1,1] (itK A_V45 N 12 Tryz.f99 [1,1,1,1,0,1,0,0] m (wei kX kO)))))
noncomputable def w07 (N m:Nat) (kX:St→Z11) (kO:Nat→St→Z11) (st':St):Z11:=rn A_V45 N Tryz.f99 [1,1,1,1,0,1,0,0,1,1,1] st' (itK A_V45 N 12 Tryz.f99 [1,1,1,1,0,1,0,0] m (wei kX kO))
theorem xe8 (N m kX kO) {r}(h:wbh N m (wei kX kO)=r):wek N N (wl0 N m kX kO)=wej N r (wol kX):=by
 rw[show wek N N (wl0 N m kX kO)=wek N N (w05 (w07 N m kX kO) fun j=>(wl0 N m kX kO) (.exit j)) from(by funext _ _ _ _ _ _ _ _ _ _ _ _ _;exact jlo),w3l,show w06 (w07 N m kX kO)=wam (wbh N m (wei kX kO)) by kernel_rfl,h];rfl
theorem w9o (N kX kO):∀n,wbh N n (wei kX kO)=wv7 N (wol kX) n :=
 itE rfl fun m=>(show _=wem (wek N N (wl0 N m kX kO)) (wol kX) by kernel_rfl).trans (by rw[xe8 N m kX kO rfl]<;>rfl)
noncomputable def wok (N:Nat):=(blockK 0 (sqK A_V45 N 33 500016 Tryz.f99 [1,1,1,1,1] wtj))
noncomputable def w9p (N:Nat) (st':St):Z11:=rn A_V45 N Tryz.f99 [1,1,1,1,1] st' wtj
theorem xi0 (N):wbh N N (wok N)=wv6 N:=by
 rw[show wbh N N (wok N)=wbh N N (wei (w9p N) fun j=>(wok N) (.exit j)) from(by funext _ _ _ _ _;exact jlo),w9o,show wol (w9p N)=y5 by kernel_rfl];rfl
theorem run_V45 (N x):runF A_V45 N Tryz.f99 S_V45 x=V45 N x.1:=(show _=(wti (wbh N N (wok N)) x.1) by kernel_rfl).trans (by rw[xi0 N];rfl)
theorem ok_V45:OK 99 S_V45:=gdR (A:=A_V45) tc Tryz.func99 (jeq ⟨ok_V41,ok_V42,ok_V43,ok_V44,trivial⟩) (run_V45 big)
def wiz (rec:T27) (k:T104) (a0:Y5) (a1:Y4) (a6:Int) (a7:Bool) (a10:Y4) (a11 a12:Int) (a16:Y4) (a17 a18:Int):Z7 :=
  cond (decide (a18<a17))
  ((atI a16 a18).bind fun xq2 =>
  cond a7
  ((atI a0 xq2).bind fun xq3 =>
  (atI xq3 a6).bind fun xq4 =>
  rec a0 a1 a6 xq4 a10 a11 a12 a16 a17 (IntKind.i64.wrap (a18+1)))
  (rec a0 a1 a6 false a10 a11 a12 a16 a17 (IntKind.i64.wrap (a18+1))))
  (k a0 a1 a6 a7 a10 a11 a12)
def weo (rec:T49) (a0:Y5) (a1:Y4) (a6:Int) (a7:Bool) (a10:Y4) (a11 a12:Int):Z7 :=
  cond a7
  (some (a6,(())))
  (rec a0 a1 a10 a11 (IntKind.i64.wrap (a12+1)))
def wep (L6:T27) (k:Z7) (a0:Y5) (a1 a10:Y4) (a11 a12:Int):Z7 :=
  cond (decide (a12<a11))
  ((atI a10 a12).bind fun xq1 =>
  L6 a0 a1 xq1 true a10 a11 a12 a1 (a1.length:Int) 0)
  (k)
def y6:Z7 :=
  some ((-1:Int),(()))
def w3m (L2:T49) (o_0:Y5) (list_1:Y4):Z7 :=
  L2 o_0 list_1 list_1 (list_1.length:Int) 0
def wwa (N:Nat) (k:T104):=itN (fun r=>wiz r k) fun _ _ _ _ _ _ _ _ _ _=>none
def wix (N:Nat) (rec:T49) (k:Z7):=wwa N (weo rec) N
def wv9 (N:Nat) (k:Z7):=itN (fun r=>wep (wix N r k) k) fun _ _ _ _ _=>none
def wv8 (N:Nat):=wv9 N (y6) N
def V46 (N:Nat) (o_0:Y5) (list_1:Y4):Z7:=w3m (wv8 N) o_0 list_1
def S_V46:Sig:=⟨(.pair Q7 Q9),[0,0],[],.unit,I,.i,fun x=>V46 big x.1 x.2.1⟩
def A_V46:Cfg:=mkCfg tab [] [(4,([.as Q7 .i,B4]++dr 8 [B4,B0,B0])),(12,([.as Q7 .i,B4]++dr 4 ([B0,B8,D0,D0,B4,B0,B0]++dr 3 [B4,B0,B0]))),(27,[]),(21,([.as Q7 .i,B4]++dr 4 [B0,B8,D0,D0,B4,B0,B0]))]
noncomputable def wbi (N n:Nat) (K:T88) (a0:Y5) (a1 a10:Y4) (a11 a12:Int):Z7:=itr A_V46 N 4 Tryz.f120 [1,0,1,0,0] n (([.val Q7 .i a0,W4 a1]++ud 8 [W4 a10,W0 a11,W0 a12])++us 23) K
noncomputable def wiy (N n:Nat) (K:T88) (a0:Y5) (a1:Y4) (a6:Int) (a7:Bool) (a10:Y4) (a11 a12:Int) (a16:Y4) (a17 a18:Int):Z7:=itr A_V46 N 12 Tryz.f120 [1,0,1,0,0,1,1,0,0,1,1,0,1,0,0] n (([.val Q7 .i a0,W4 a1]++ud 4 ([W0 a6,W8 a7,.u,.u,W4 a10,W0 a11,W0 a12]++ud 3 [W4 a16,W0 a17,W0 a18]))++us 17) K
noncomputable def wtk:Ex→St→Z7:=finish A_V46 S_V46 Tryz.f120.results.toList
noncomputable def woo (kX:T58):Z7:=kX ([]++us 36)
noncomputable def wen (kX:T58) (kO:T53):=exK wtk 0 (A_V46.shape 27) kX kO
noncomputable def w9r (kX:T58) (a0:Y5) (a1:Y4) (a6:Int) (a7:Bool) (a10:Y4) (a11 a12:Int):Z7:=kX (([.val Q7 .i a0,W4 a1]++ud 4 [W0 a6,W8 a7,.u,.u,W4 a10,W0 a11,W0 a12])++us 23)
noncomputable def w9q (kX:T58) (kO:T53):=exK wtk 2 (A_V46.shape 21) kX kO
theorem w9t (N kX kO):∀n,wiy N n (w9q kX kO)=wwa N (w9r kX) n :=
 itE rfl fun m=>by kernel_rfl
noncomputable def won (N m:Nat) (kX:T58) (kO:T53):=(blockK 2 (sqK A_V46 N 21 500010 Tryz.f120 [1,0,1,0,0,1,1,0,0,1,1,1] (blockK 1 (sqK A_V46 N 25 500012 Tryz.f120 [1,0,1,0,0,1,1,1] (itK A_V46 N 4 Tryz.f120 [1,0,1,0,0] m (wen kX kO))))))
noncomputable def w9v (N m:Nat) (kX:T58) (kO:T53) (st':St):Z7:=rn A_V46 N Tryz.f120 [1,0,1,0,0,1,1,0,0,1,1,1] st' (blockK 1 (sqK A_V46 N 25 500012 Tryz.f120 [1,0,1,0,0,1,1,1] (itK A_V46 N 4 Tryz.f120 [1,0,1,0,0] m (wen kX kO))))
theorem xi2 (N m kX kO) {r}(h:wbi N m (wen kX kO)=r):wiy N N (won N m kX kO)=wix N r (woo kX):=by
 rw[show wiy N N (won N m kX kO)=wiy N N (w9q (w9v N m kX kO) fun j=>(won N m kX kO) (.exit j)) from(by funext _ _ _ _ _ _ _ _ _ _;exact jlo),w9t,show w9r (w9v N m kX kO)=weo (wbi N m (wen kX kO)) by kernel_rfl,h];rfl
theorem w9s (N kX kO):∀n,wbi N n (wen kX kO)=wv9 N (woo kX) n :=
 itE rfl fun m=>(show _=wep (wiy N N (won N m kX kO)) (woo kX) by kernel_rfl).trans (by rw[xi2 N m kX kO rfl]<;>rfl)
noncomputable def wom (N:Nat):=(blockK 0 (sqK A_V46 N 27 500013 Tryz.f120 [1,1] wtk))
noncomputable def w9u (N:Nat) (st':St):Z7:=rn A_V46 N Tryz.f120 [1,1] st' wtk
theorem xi1 (N):wbi N N (wom N)=wv8 N:=by
 rw[show wbi N N (wom N)=wbi N N (wen (w9u N) fun j=>(wom N) (.exit j)) from(by funext _ _ _ _ _;exact jlo),w9s,show woo (w9u N)=y6 by kernel_rfl];rfl
theorem run_V46 (N x):runF A_V46 N Tryz.f120 S_V46 x=V46 N x.1 x.2.1:=(show _=(w3m (wbi N N (wom N)) x.1 x.2.1) by kernel_rfl).trans (by rw[xi1 N];rfl)
theorem ok_V46:OK 120 S_V46:=gdR (A:=A_V46) tc Tryz.func120 (jeq trivial) (run_V46 big)
def xgg (z_0:Int) (p_1:Y5) (p_2 p_3:Int):Option Z1 :=
  (atI p_1 z_0).bind fun xq1 =>
  (atI xq1 p_2).bind fun xq2 =>
  cond xq2
  ((atI p_1 z_0).bind fun xq3 =>
  (atI xq3 p_3).bind fun xq4 =>
  some (xq4,(())))
  (some (false,(())))
def V47 (z_0:Int) (p_1:Y5) (p_2 p_3:Int):Option Z1:=xgg z_0 p_1 p_2 p_3
def S_V47:Sig:=⟨(.pair I (.pair (.ptr Q7) Q13)),[0,0,0,0],[],.unit,.bool,.i,fun x=>V47 x.1 x.2.1 x.2.2.1 x.2.2.2.1⟩
def A_V47:Cfg:=mkCfg tab [] []
theorem run_V47 (N x):runF A_V47 N Tryz.f121 S_V47 x=V47 x.1 x.2.1 x.2.2.1 x.2.2.2.1:=by kernel_rfl
theorem ok_V47:OK 121 S_V47:=gdR (A:=A_V47) tc Tryz.func121 (jeq trivial) (run_V47 big)
def wi1 (rec:T78) (k:T35) (a1:(Y5×Z16)) (a5:Y4) (a9 a10:Int):Z3 :=
  cond (decide (a10<a9))
  ((V47 a10 a1.1 a1.2.1 a1.2.2.1).bind fun rq1 =>
  cond rq1.1
  ((appI a5 [a10]).bind fun xq2 =>
  rec a1 xq2 a9 (IntKind.i64.wrap (a10+1)))
  (rec a1 a5 a9 (IntKind.i64.wrap (a10+1))))
  (k a5)
def weq (a5:Y4):Z3 :=
  some (a5,(()))
def w3n (L3:T78) (o_0:Y5) (so_1:(Y5×Z16)):Z3 :=
  L3 so_1 [] (o_0.length:Int) 0
def wwc (N:Nat) (k:T35):=itN (fun r=>wi1 r k) fun _ _ _ _=>none
def wwb (N:Nat):=wwc N (weq) N
def V48 (N:Nat) (o_0:Y5) (so_1:(Y5×Z16)):Z3:=w3n (wwb N) o_0 so_1
def S_V48:Sig:=⟨(.pair Q7 (.pair (.clo 121 0 (.pair (.ptr Q7) Q13)) .unit)),[0,0],[],.unit,Q6,O4,fun x=>V48 big x.1 x.2.1⟩
def A_V48:Cfg:=mkCfg tab [(121,S_V47)] [(6,([D0,.as (.clo 121 0 (.pair (.ptr Q7) Q13)) .i]++dr 3 ([B1]++dr 3 [B0,B0]))),(17,(dr 5 [B1]))]
noncomputable def wi0 (N n:Nat) (K:T26) (a1:(Y5×Z16)) (a5:Y4) (a9 a10:Int):Z3:=itr A_V48 N 6 Tryz.f95 [1,1,0,1,0,0] n (([.u,.val (.clo 121 0 (.pair (.ptr Q7) Q13)) .i a1]++ud 3 ([W1 a5]++ud 3 [W0 a9,W0 a10]))++us 11) K
noncomputable def w3o:Ex→St→Z3:=finish A_V48 S_V48 Tryz.f95.results.toList
noncomputable def w9x (kX:T11) (a5:Y4):Z3:=kX ((ud 5 [W1 a5])++us 16)
noncomputable def w9w (kX:T11) (kO:T6):=exK w3o 0 (A_V48.shape 17) kX kO
theorem w9y (N kX kO):∀n,wi0 N n (w9w kX kO)=wwc N (w9x kX) n :=
 itE rfl fun m=>by kernel_rfl
noncomputable def wop (N:Nat):=(blockK 0 (sqK A_V48 N 17 500008 Tryz.f95 [1,1,1] w3o))
noncomputable def w9z (N:Nat) (st':St):Z3:=rn A_V48 N Tryz.f95 [1,1,1] st' w3o
theorem xi3 (N):wi0 N N (wop N)=wwb N:=by
 rw[show wi0 N N (wop N)=wi0 N N (w9w (w9z N) fun j=>(wop N) (.exit j)) from(by funext _ _ _ _;exact jlo),w9y,show w9x (w9z N)=weq by kernel_rfl];rfl
theorem run_V48 (N x):runF A_V48 N Tryz.f95 S_V48 x=V48 N x.1 x.2.1:=(show _=(w3n (wi0 N N (wop N)) x.1 x.2.1) by kernel_rfl).trans (by rw[xi3 N];rfl)
theorem ok_V48:OK 95 S_V48:=gdR (A:=A_V48) tc Tryz.func95 (jeq ⟨ok_V47,trivial⟩) (run_V48 big)
def wi4 (rec:T42) (k:Y5→Y3→Y4→Int→Int→Z9) (a1:Y5) (a4:Y3) (a5:Int) (a6:Y4) (a11 a12 a17 a18:Int):Z9 :=
  cond (decide (a18<a17))
  ((V48 big a1 (a1,a5,a18,())).bind fun rq1 =>
  (V46 big a1 rq1.1).bind fun rq2 =>
  cond (decide (rq2.1<0))
  (some (([],false,()),(())))
  ((appI a6 [rq2.1]).bind fun xq3 =>
  rec a1 a4 a5 xq3 a11 a12 a17 (IntKind.i64.wrap (a18+1))))
  (k a1 a4 a6 a11 a12)
def wes (rec:T63) (a1:Y5) (a4:Y3) (a6:Y4) (a11 a12:Int):Z9 :=
  (appI a4 [a6]).bind fun xq4 =>
  rec a1 xq4 a11 (IntKind.i64.wrap (a12+1))
def wet (L7:T42) (k:Y3→Z9) (a1:Y5) (a4:Y3) (a11 a12:Int):Z9 :=
  cond (decide (a12<a11))
  (L7 a1 a4 a12 [] a11 a12 (a1.length:Int) 0)
  (k a4)
def y7 (a4:Y3):Z9 :=
  some ((a4,true,()),(()))
def w3p (L3:T63) (o_0:Y5):Z9 :=
  L3 o_0 [] (o_0.length:Int) 0
def wwf (N:Nat) (k:Y5→Y3→Y4→Int→Int→Z9):=itN (fun r=>wi4 r k) fun _ _ _ _ _ _ _ _=>none
def wi2 (N:Nat) (rec:T63) (k:Y3→Z9):=wwf N (wes rec) N
def wwe (N:Nat) (k:Y3→Z9):=itN (fun r=>wet (wi2 N r k) k) fun _ _ _ _=>none
def wwd (N:Nat):=wwe N (y7) N
def V49 (N:Nat) (o_0:Y5):Z9:=w3p (wwd N) o_0
def S_V49:Sig:=⟨(.pair Q7 .unit),[0],[],.unit,(.tup (.pair Q15 Q12)),(.p O11 .i),fun x=>V49 big x.1⟩
def A_V49:Cfg:=mkCfg tab [(95,S_V48),(120,S_V46)] [(6,([D0,.as (.ptr Q7) .i,D0,D0,.as Q15 O11]++dr 6 [B0,B0])),(14,([D0,.as (.ptr Q7) .i,D0,D0,.as Q15 O11,.as (.ptr I) .i,B1]++dr 4 ([B0,B0]++dr 4 [B0,B0]))),(33,(dr 4 [.as Q15 O11])),(19,([D0,.as (.ptr Q7) .i,D0,D0,.as Q15 O11,.as (.ptr I) .i,B1,.as (.ptr I) .i]++dr 3 ([B0,B0]++dr 4 [B0,B0]))),(29,([D0,.as (.ptr Q7) .i,D0,D0,.as Q15 O11,D0,B1]++dr 4 [B0,B0]))]
noncomputable def wbj (N n:Nat) (K:Ex→St→Z9) (a1:Y5) (a4:Y3) (a11 a12:Int):Z9:=itr A_V49 N 6 Tryz.f100 [1,1,0,1,0,0] n (([.u,.val (.ptr Q7) .i a1,.u,.u,.val Q15 O11 a4]++ud 6 [W0 a11,W0 a12])++us 26) K
noncomputable def wi3 (N n:Nat) (K:Ex→St→Z9) (a1:Y5) (a4:Y3) (a5:Int) (a6:Y4) (a11 a12 a17 a18:Int):Z9:=itr A_V49 N 14 Tryz.f100 [1,1,0,1,0,0,1,1,0,0,1,1,0,1,0,0] n (([.u,.val (.ptr Q7) .i a1,.u,.u,.val Q15 O11 a4,.val (.ptr I) .i a5,W1 a6]++ud 4 ([W0 a11,W0 a12]++ud 4 [W0 a17,W0 a18]))++us 20) K
noncomputable def wtl:Ex→St→Z9:=finish A_V49 S_V49 Tryz.f100.results.toList
noncomputable def wos (kX:St→Z9) (a4:Y3):Z9:=kX ((ud 4 [.val Q15 O11 a4])++us 34)
noncomputable def wer (kX:St→Z9) (kO:T106):=exK wtl 0 (A_V49.shape 33) kX kO
noncomputable def w91 (kX:St→Z9) (a1:Y5) (a4:Y3) (a6:Y4) (a11 a12:Int):Z9:=kX (([.u,.val (.ptr Q7) .i a1,.u,.u,.val Q15 O11 a4,.u,W1 a6]++ud 4 [W0 a11,W0 a12])++us 26)
noncomputable def w90 (kX:St→Z9) (kO:T106):=exK wtl 2 (A_V49.shape 29) kX kO
theorem w93 (N kX kO):∀n,wi3 N n (w90 kX kO)=wwf N (w91 kX) n :=
 itE rfl fun m=>by kernel_rfl
noncomputable def wor (N m:Nat) (kX:St→Z9) (kO:T106):=(blockK 2 (sqK A_V49 N 29 500014 Tryz.f100 [1,1,0,1,0,0,1,1,0,0,1,1,1] (blockK 1 (sqK A_V49 N 31 500015 Tryz.f100 [1,1,0,1,0,0,1,1,1] (itK A_V49 N 6 Tryz.f100 [1,1,0,1,0,0] m (wer kX kO))))))
noncomputable def w95 (N m:Nat) (kX:St→Z9) (kO:T106) (st':St):Z9:=rn A_V49 N Tryz.f100 [1,1,0,1,0,0,1,1,0,0,1,1,1] st' (blockK 1 (sqK A_V49 N 31 500015 Tryz.f100 [1,1,0,1,0,0,1,1,1] (itK A_V49 N 6 Tryz.f100 [1,1,0,1,0,0] m (wer kX kO))))
theorem xi5 (N m kX kO) {r}(h:wbj N m (wer kX kO)=r):wi3 N N (wor N m kX kO)=wi2 N r (wos kX):=by
 rw[show wi3 N N (wor N m kX kO)=wi3 N N (w90 (w95 N m kX kO) fun j=>(wor N m kX kO) (.exit j)) from(by funext _ _ _ _ _ _ _ _;exact jlo),w93,show w91 (w95 N m kX kO)=wes (wbj N m (wer kX kO)) by kernel_rfl,h];rfl
theorem w92 (N kX kO):∀n,wbj N n (wer kX kO)=wwe N (wos kX) n :=
 itE rfl fun m=>(show _=wet (wi3 N N (wor N m kX kO)) (wos kX) by kernel_rfl).trans (by rw[xi5 N m kX kO rfl]<;>rfl)
noncomputable def woq (N:Nat):=(blockK 0 (sqK A_V49 N 33 500016 Tryz.f100 [1,1,1] wtl))
noncomputable def w94 (N:Nat) (st':St):Z9:=rn A_V49 N Tryz.f100 [1,1,1] st' wtl
theorem xi4 (N):wbj N N (woq N)=wwd N:=by
 rw[show wbj N N (woq N)=wbj N N (wer (w94 N) fun j=>(woq N) (.exit j)) from(by funext _ _ _ _;exact jlo),w92,show wos (w94 N)=y7 by kernel_rfl];rfl
theorem run_V49 (N x):runF A_V49 N Tryz.f100 S_V49 x=V49 N x.1:=(show _=(w3p (wbj N N (woq N)) x.1) by kernel_rfl).trans (by rw[xi4 N];rfl)
theorem ok_V49:OK 100 S_V49:=gdR (A:=A_V49) tc Tryz.func100 (jeq ⟨ok_V48,ok_V46,trivial⟩) (run_V49 big)
def wi7 (rec:T51) (k:T39) (a0 a3:Y5) (a4 a10 a11 a15 a16:Int):Z13 :=
  cond (decide (a16<a15))
  ((atI a3 a4).bind fun _ =>
  (a3[a4.toNat]?).bind fun xq2 =>
  (atI a0 a16).bind fun xq3 =>
  (atI xq3 a4).bind fun xq4 =>
  (a3[a4.toNat]?).bind fun xq5 =>
  (atI xq5 a16).bind fun _ =>
  (a3[a4.toNat]?).bind fun xq6 =>
  (xq6[a16.toNat]?).bind fun xq7 =>
  rec a0 (a3.set a4.toNat (xq6.set a16.toNat xq4)) a4 a10 a11 a15 (IntKind.i64.wrap (a16+1)))
  (k a0 a3 a10 a11)
def wev (rec:T39) (a0 a3:Y5) (a10 a11:Int):Z13 :=
  rec a0 a3 a10 (IntKind.i64.wrap (a11+1))
def wew (L6:T51) (k:Y5→Z13) (a0 a3:Y5) (a10 a11:Int):Z13 :=
  cond (decide (a11<a10))
  (L6 a0 a3 a11 a10 a11 (a0.length:Int) 0)
  (k a3)
def y8 (a3:Y5):Z13 :=
  some (a3,(()))
def w3q (L3:T39) (o_0:Y5):Z13 :=
  (V41 big (o_0.length:Int)).bind fun rq1 =>
  L3 o_0 rq1.1 (o_0.length:Int) 0
def wwi (N:Nat) (k:T39):=itN (fun r=>wi7 r k) fun _ _ _ _ _ _ _=>none
def wi5 (N:Nat) (rec:T39) (k:Y5→Z13):=wwi N (wev rec) N
def wwh (N:Nat) (k:Y5→Z13):=itN (fun r=>wew (wi5 N r k) k) fun _ _ _ _=>none
def wwg (N:Nat):=wwh N (y8) N
def V50 (N:Nat) (o_0:Y5):Z13:=w3q (wwg N) o_0
def S_V50:Sig:=⟨(.pair Q7 .unit),[0],[],.unit,Q7,O11,fun x=>V50 big x.1⟩
def A_V50:Cfg:=mkCfg tab [(118,S_V41)] [(6,([.as Q7 .i,D0,D0,B7]++dr 6 [B0,B0])),(12,([.as Q7 .i,D0,D0,B7,B0]++dr 5 ([B0,B0]++dr 3 [B0,B0]))),(23,(dr 3 [B7])),(21,([.as Q7 .i,D0,D0,B7]++dr 6 [B0,B0]))]
noncomputable def wbk (N n:Nat) (K:Ex→St→Z13) (a0 a3:Y5) (a10 a11:Int):Z13:=itr A_V50 N 6 Tryz.f101 [1,1,0,1,0,0] n (([.val Q7 .i a0,.u,.u,W7 a3]++ud 6 [W0 a10,W0 a11])++us 23) K
noncomputable def wi6 (N n:Nat) (K:Ex→St→Z13) (a0 a3:Y5) (a4 a10 a11 a15 a16:Int):Z13:=itr A_V50 N 12 Tryz.f101 [1,1,0,1,0,0,1,1,0,0,1,1,0,0] n (([.val Q7 .i a0,.u,.u,W7 a3,W0 a4]++ud 5 ([W0 a10,W0 a11]++ud 3 [W0 a15,W0 a16]))++us 18) K
noncomputable def wtm:Ex→St→Z13:=finish A_V50 S_V50 Tryz.f101.results.toList
noncomputable def wov (kX:St→Z13) (a3:Y5):Z13:=kX ((ud 3 [W7 a3])++us 31)
noncomputable def weu (kX:St→Z13) (kO:T112):=exK wtm 0 (A_V50.shape 23) kX kO
noncomputable def w97 (kX:St→Z13) (a0 a3:Y5) (a10 a11:Int):Z13:=kX (([.val Q7 .i a0,.u,.u,W7 a3]++ud 6 [W0 a10,W0 a11])++us 23)
noncomputable def w96 (kX:St→Z13) (kO:T112):=exK wtm 2 (A_V50.shape 21) kX kO
theorem w99 (N kX kO):∀n,wi6 N n (w96 kX kO)=wwi N (w97 kX) n :=
 itE rfl fun m=>by kernel_rfl
noncomputable def wou (N m:Nat) (kX:St→Z13) (kO:T112):=(blockK 2 (blockK 1 (sqK A_V50 N 21 500010 Tryz.f101 [1,1,0,1,0,0,1,1,1] (itK A_V50 N 6 Tryz.f101 [1,1,0,1,0,0] m (weu kX kO)))))
noncomputable def xab (N m:Nat) (kX:St→Z13) (kO:T112) (st':St):Z13:=rn A_V50 N Tryz.f101 [1,1,0,1,0,0,1,1,1] st' (itK A_V50 N 6 Tryz.f101 [1,1,0,1,0,0] m (weu kX kO))
theorem xi7 (N m kX kO) {r}(h:wbk N m (weu kX kO)=r):wi6 N N (wou N m kX kO)=wi5 N r (wov kX):=by
 rw[show wi6 N N (wou N m kX kO)=wi6 N N (w96 (xab N m kX kO) fun j=>(wou N m kX kO) (.exit j)) from(by funext _ _ _ _ _ _ _;exact jlo),w99,show w97 (xab N m kX kO)=wev (wbk N m (weu kX kO)) by kernel_rfl,h];rfl
theorem w98 (N kX kO):∀n,wbk N n (weu kX kO)=wwh N (wov kX) n :=
 itE rfl fun m=>(show _=wew (wi6 N N (wou N m kX kO)) (wov kX) by kernel_rfl).trans (by rw[xi7 N m kX kO rfl]<;>rfl)
noncomputable def wot (N:Nat):=(blockK 0 (sqK A_V50 N 23 500011 Tryz.f101 [1,1,1] wtm))
noncomputable def xaa (N:Nat) (st':St):Z13:=rn A_V50 N Tryz.f101 [1,1,1] st' wtm
theorem xi6 (N):wbk N N (wot N)=wwg N:=by
 rw[show wbk N N (wot N)=wbk N N (weu (xaa N) fun j=>(wot N) (.exit j)) from(by funext _ _ _ _;exact jlo),w98,show wov (xaa N)=y8 by kernel_rfl];rfl
theorem run_V50 (N x):runF A_V50 N Tryz.f101 S_V50 x=V50 N x.1:=(show _=(w3q (wbk N N (wot N)) x.1) by kernel_rfl).trans (by rw[xi6 N];rfl)
theorem ok_V50:OK 101 S_V50:=gdR (A:=A_V50) tc Tryz.func101 (jeq ⟨ok_V41,trivial⟩) (run_V50 big)
def wtn (p_0:Y2):Option ((Y1×Z1)×Unit) :=
  (V45 big p_0).bind fun rq1 =>
  cond (!((((),rq1.1.2).2).1))
  (some ((none,false,()),(())))
  (cond (decide ((rq1.1.1.length:Int)=0))
  (some ((none,false,()),(())))
  ((V49 big rq1.1.1).bind fun rq2 =>
  (V50 big rq1.1.1).bind fun rq3 =>
  (V49 big rq3.1).bind fun rq4 =>
  cond ((((),rq2.1.2).2).1)
  (some ((some (rq1.1.1,(rq2.1.1,(rq4.1.1,()))),(((),rq4.1.2).2).1,()),(())))
  (some ((some (rq1.1.1,(rq2.1.1,(rq4.1.1,()))),false,()),(())))))
def V51 (p_0:Y2):Option ((Y1×Z1)×Unit):=wtn p_0
def S_V51:Sig:=⟨Q10,[0],[],.unit,(.tup (.pair Q1 Q12)),.i,fun x=>V51 x.1⟩
def A_V51:Cfg:=mkCfg tab [(99,S_V45),(100,S_V49),(101,S_V50)] []
theorem run_V51 (N x):runF A_V51 N Tryz.f72 S_V51 x=V51 x.1:=by kernel_rfl
theorem ok_V51:OK 72 S_V51:=gdR (A:=A_V51) tc Tryz.func72 (jeq ⟨ok_V45,ok_V49,ok_V50,trivial⟩) (run_V51 big)
end Go.Proofs.YtmebolidmeljeaaGreat
