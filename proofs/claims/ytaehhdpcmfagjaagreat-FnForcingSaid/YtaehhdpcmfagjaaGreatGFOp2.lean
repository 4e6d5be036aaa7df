import Derived.Test.YtaehhdpcmfagjaaGreatUFO
set_option maxRecDepth 100000
set_option linter.unusedVariables false
namespace Go.Proofs.YtaehhdpcmfagjaaGreat
open Go Go.Gx Go.Proofs
def wu5 (rec k:T125) (a0:Z15) (a2 a9:Y2):Z7 :=
  (V2 a0 2).bind fun rq53 =>
  cond (decide ((a9.1.length:Int)<(IntKind.i64.wrap (10+rq53.1))))
  ((appI a9.1 [[(a9.1.length:Int)]]).bind fun xq54 =>
  rec rq53.2.1 a2 (xq54,((),a9.2).2))
  (k rq53.2.1 a2 a9)
def wem (a0:Z15) (a2 a9:Y2):Z7 :=
  some (a9,(a0,()))
def weo (rec:T72) (k:T68) (a0:Z15) (a2:Y2) (a3:Int) (a4:Z11) (a7:Y4) (a8:Int):Z7 :=
  cond (decide (a8<(a4.length:Int)))
  ((atI a4 a8).bind fun _ =>
  (a4[a8.toNat]?).bind fun xq33 =>
  (a4[a8.toNat]?).bind fun xq34 =>
  (atI a7 xq34.1).bind fun _ =>
  (a7[xq34.1.toNat]?).bind fun xq35 =>
  (atI a4 a8).bind fun _ =>
  (a4[a8.toNat]?).bind fun xq36 =>
  (a4[a8.toNat]?).bind fun xq37 =>
  (atI a7 xq37.2.1).bind fun _ =>
  (a7[xq37.2.1.toNat]?).bind fun xq38 =>
  (atI a4 a8).bind fun _ =>
  (a4[a8.toNat]?).bind fun xq39 =>
  rec a0 a2 a3 (a4.set a8.toNat (xq35,(xq38,()))) a7 (IntKind.i64.wrap (a8+1)))
  (k a0 a2 a3 a4)
def yw (L29:T125) (a0:Z15) (a2:Y2) (a3:Int) (a4:Z11):Z7 :=
  (V9 big a3 a4).bind fun rq40 =>
  cond (decide (a3=0))
  (some (rq40.1,(a0,())))
  ((V3 a0 16).bind fun rq41 =>
  cond (!rq41.1)
  (some (rq40.1,(rq41.2.1,())))
  ((V2 rq41.2.1 a3).bind fun rq42 =>
  (V2 rq42.2.1 4).bind fun rq43 =>
  cond (decide (rq43.1=0))
  ((atI rq40.1.1 rq42.1).bind fun _ =>
  (rq40.1.1[rq42.1.toNat]?).bind fun xq44 =>
  (slI xq44 1 xq44.length).bind fun xq45 =>
  (atI rq40.1.1 rq42.1).bind fun _ =>
  (rq40.1.1[rq42.1.toNat]?).bind fun xq46 =>
  some ((rq40.1.1.set rq42.1.toNat xq45,rq40.1.2),(rq43.2.1,())))
  (cond (decide (rq43.1=1))
  ((atI rq40.1.1 rq42.1).bind fun xq47 =>
  (appI xq47 [a3]).bind fun xq48 =>
  some ((rq40.1.1.set (rq42.1).toNat xq48,rq40.1.2),(rq43.2.1,())))
  (cond (decide (rq43.1=2))
  ((atI rq40.1.1 rq42.1).bind fun _ =>
  (rq40.1.1[rq42.1.toNat]?).bind fun xq49 =>
  (V2 rq43.2.1 a3).bind fun rq50 =>
  (V10 big xq49 rq50.1).bind fun rq51 =>
  (atI rq40.1.1 rq42.1).bind fun _ =>
  (rq40.1.1[rq42.1.toNat]?).bind fun xq52 =>
  some ((rq40.1.1.set rq42.1.toNat rq51.1,rq40.1.2),(rq50.2.1,())))
  (cond (decide (rq43.1=3))
  (L29 rq43.2.1 a2 rq40.1)
  (some (rq40.1,(rq43.2.1,()))))))))
def wjs (rec:T70) (k:T27) (a0:Z15) (a2:Y2) (a3:Int) (a4:Z11) (a5 a6:Int):Z7 :=
  cond (decide (a6<a3))
  ((V3 a0 3).bind fun rq31 =>
  cond rq31.1
  ((appI a4 [(a5,(a6,()))]).bind fun xq32 =>
  rec rq31.2.1 a2 a3 xq32 a5 (IntKind.i64.wrap (a6+1)))
  (rec rq31.2.1 a2 a3 a4 a5 (IntKind.i64.wrap (a6+1))))
  (k a0 a2 a3 a4 a5)
def wen (rec:T27) (a0:Z15) (a2:Y2) (a3:Int) (a4:Z11) (a5:Int):Z7 :=
  rec a0 a2 a3 a4 (IntKind.i64.wrap (a5+1))
def wep (L7:T70) (k:T68) (a0:Z15) (a2:Y2) (a3:Int) (a4:Z11) (a5:Int):Z7 :=
  cond (decide (a5<a3))
  (L7 a0 a2 a3 a4 a5 (IntKind.i64.wrap (a5+1)))
  (k a0 a2 a3 a4)
def zq (L14:T72) (L29:T125) (a0:Z15) (a2:Y2) (a3:Int) (a4:Z11):Z7 :=
  (V5 big a0 a3).bind fun rq2 =>
  (V8 big rq2.1 a3).bind fun rq3 =>
  cond rq3.1
  ((V3 rq2.2.1 2).bind fun rq4 =>
  cond rq4.1
  (L14 rq4.2.1 a2 a3 a4 rq2.1 0)
  ((V9 big a3 a4).bind fun rq5 =>
  cond (decide (a3=0))
  (some (rq5.1,(rq4.2.1,())))
  ((V3 rq4.2.1 16).bind fun rq6 =>
  cond (!rq6.1)
  (some (rq5.1,(rq6.2.1,())))
  ((V2 rq6.2.1 a3).bind fun rq7 =>
  (V2 rq7.2.1 4).bind fun rq8 =>
  cond (decide (rq8.1=0))
  ((atI rq5.1.1 rq7.1).bind fun _ =>
  (rq5.1.1[rq7.1.toNat]?).bind fun xq9 =>
  (slI xq9 1 xq9.length).bind fun xq10 =>
  (atI rq5.1.1 rq7.1).bind fun _ =>
  (rq5.1.1[rq7.1.toNat]?).bind fun xq11 =>
  some ((rq5.1.1.set rq7.1.toNat xq10,rq5.1.2),(rq8.2.1,())))
  (cond (decide (rq8.1=1))
  ((atI rq5.1.1 rq7.1).bind fun xq12 =>
  (appI xq12 [a3]).bind fun xq13 =>
  some ((rq5.1.1.set (rq7.1).toNat xq13,rq5.1.2),(rq8.2.1,())))
  (cond (decide (rq8.1=2))
  ((atI rq5.1.1 rq7.1).bind fun _ =>
  (rq5.1.1[rq7.1.toNat]?).bind fun xq14 =>
  (V2 rq8.2.1 a3).bind fun rq15 =>
  (V10 big xq14 rq15.1).bind fun rq16 =>
  (atI rq5.1.1 rq7.1).bind fun _ =>
  (rq5.1.1[rq7.1.toNat]?).bind fun xq17 =>
  some ((rq5.1.1.set rq7.1.toNat rq16.1,rq5.1.2),(rq15.2.1,())))
  (cond (decide (rq8.1=3))
  (L29 rq8.2.1 a2 rq5.1)
  (some (rq5.1,(rq8.2.1,()))))))))))
  ((V9 big a3 a4).bind fun rq18 =>
  cond (decide (a3=0))
  (some (rq18.1,(rq2.2.1,())))
  ((V3 rq2.2.1 16).bind fun rq19 =>
  cond (!rq19.1)
  (some (rq18.1,(rq19.2.1,())))
  ((V2 rq19.2.1 a3).bind fun rq20 =>
  (V2 rq20.2.1 4).bind fun rq21 =>
  cond (decide (rq21.1=0))
  ((atI rq18.1.1 rq20.1).bind fun _ =>
  (rq18.1.1[rq20.1.toNat]?).bind fun xq22 =>
  (slI xq22 1 xq22.length).bind fun xq23 =>
  (atI rq18.1.1 rq20.1).bind fun _ =>
  (rq18.1.1[rq20.1.toNat]?).bind fun xq24 =>
  some ((rq18.1.1.set rq20.1.toNat xq23,rq18.1.2),(rq21.2.1,())))
  (cond (decide (rq21.1=1))
  ((atI rq18.1.1 rq20.1).bind fun xq25 =>
  (appI xq25 [a3]).bind fun xq26 =>
  some ((rq18.1.1.set (rq20.1).toNat xq26,rq18.1.2),(rq21.2.1,())))
  (cond (decide (rq21.1=2))
  ((atI rq18.1.1 rq20.1).bind fun _ =>
  (rq18.1.1[rq20.1.toNat]?).bind fun xq27 =>
  (V2 rq21.2.1 a3).bind fun rq28 =>
  (V10 big xq27 rq28.1).bind fun rq29 =>
  (atI rq18.1.1 rq20.1).bind fun _ =>
  (rq18.1.1[rq20.1.toNat]?).bind fun xq30 =>
  some ((rq18.1.1.set rq20.1.toNat rq29.1,rq18.1.2),(rq28.2.1,())))
  (cond (decide (rq21.1=3))
  (L29 rq21.2.1 a2 rq18.1)
  (some (rq18.1,(rq21.2.1,())))))))))
def w9e (L4:T27) (c_0:Z15):Z7 :=
  (V4 c_0 [0,1,2,3,4,4,5,5,6,7]).bind fun rq1 =>
  L4 rq1.2.1 (([]:Y3),()) rq1.1 [] 0
def wyu (N:Nat) (k:T27):=itN (fun r=>wjs r k) fun _ _ _ _ _ _=>none
def wjq (N:Nat) (rec:T27) (k:T68):=wyu N (wen rec) N
def wyt (N:Nat) (k:T68):=itN (fun r=>wep (wjq N r k) k) fun _ _ _ _ _=>none
def wu6 (N:Nat) (k:T68):=itN (fun r=>weo r k) fun _ _ _ _ _ _=>none
def wu7 (N:Nat) (k:T125):=itN (fun r=>wu5 r k) fun _ _ _=>none
def wo (N:Nat):=wu7 N (wem) N
def xr (N:Nat):=wu6 N (yw (wo N)) N
def wyr (N:Nat):=wyt N (zq (xr N) (wo N)) N
def V11 (N:Nat) (c_0:Z15):Z7:=w9e (wyr N) c_0
def S_V11:Sig:=⟨(.pair Q4 .unit),[1],[O2],(.pair Q4 .unit),Q0,.i,fun x=>V11 big x.1⟩
def A_V11:Cfg:=hookCfg (fun i=>if i=25 then some PO.hook else none) (mkCfg tab [(136,S_V4),(103,S_V5),(104,S_V8),(99,S_V3),(106,S_V9),(102,S_V2),(137,S_V10)] [(8,[.as Q4 O2,D0,B3,B0,B10,B0]),(14,[.as Q4 O2,D0,B3,B0,B10,B0,B0]),(23,[.as Q4 O2,D0,B3,B0,B10]),(28,[.as Q4 O2,D0,B3,B0,B10,D0,D0,B1,B0]),(1000023,([.as Q4 O2,D0,B3]++dr 6 [.as Q8 (.o (.p O2 .i)),B0])),(1000027,([.as Q4 O2,D0,B3,B0]++dr 5 [.as Q8 (.o (.p O2 .i)),B0])),(58,([.as Q4 O2,D0,B3]++dr 6 [B3])),(11,[.as Q4 O2,D0,B3,B0,B10,B0]),(35,[.as Q4 O2,D0,B3,B0,B10]),(63,([.as Q4 O2,D0,B3]++dr 6 [.as Q8 (.o (.p O2 .i))]))])
noncomputable def wcr (N n:Nat) (K:Ex→St→Z7) (a0:Z15) (a2:Y2) (a3:Int) (a4:Z11) (a5:Int):Z7:=itr A_V11 N 8 Tryz.f100 [1,1,1,0,1,0,0] n ([.val Q4 O2 a0,.u,W3 a2,W0 a3,W10 a4,W0 a5]++us 141) K
noncomputable def wjr (N n:Nat) (K:Ex→St→Z7) (a0:Z15) (a2:Y2) (a3:Int) (a4:Z11) (a5 a6:Int):Z7:=itr A_V11 N 14 Tryz.f100 [1,1,1,0,1,0,0,1,0,0,1,0,0] n ([.val Q4 O2 a0,.u,W3 a2,W0 a3,W10 a4,W0 a5,W0 a6]++us 140) K
noncomputable def wel (N n:Nat) (K:Ex→St→Z7) (a0:Z15) (a2:Y2) (a3:Int) (a4:Z11) (a7:Y4) (a8:Int):Z7:=itr A_V11 N 28 Tryz.f100 [1,1,1,1,0,1,1,0,1,0,0] n ([.val Q4 O2 a0,.u,W3 a2,W0 a3,W10 a4,.u,.u,W1 a7,W0 a8]++us 138) K
noncomputable def wa3 (N n:Nat) (K:Ex→St→Z7) (a0:Z15) (a2 a9:Y2):Z7:=itr A_V11 N 58 Tryz.f100 [1,1,1,1,1,1,1,1,0,1,0,1,1,1,1,1,1,1,0,0,0] n (([.val Q4 O2 a0,.u,W3 a2]++ud 6 [W3 a9])++us 137) K
noncomputable def zn:Ex→St→Z7:=finish A_V11 S_V11 Tryz.f100.results.toList
noncomputable def wqr (kX:T131) (a0:Z15) (a2:Y2) (a3:Int) (a4:Z11):Z7:=kX ([.val Q4 O2 a0,.u,W3 a2,W0 a3,W10 a4]++us 142)
noncomputable def wej (kX:T131) (kO:T127):=exK zn 0 (A_V11.shape 23) kX kO
noncomputable def xek (kX:T131) (a0:Z15) (a2:Y2) (a3:Int) (a4:Z11) (a5:Int):Z7:=kX ([.val Q4 O2 a0,.u,W3 a2,W0 a3,W10 a4,W0 a5]++us 141)
noncomputable def xej (kX:T131) (kO:T127):=exK zn 2 (A_V11.shape 11) kX kO
noncomputable def w5g (kX:T131) (a0:Z15) (a2:Y2) (a3:Int) (a4:Z11):Z7:=kX ([.val Q4 O2 a0,.u,W3 a2,W0 a3,W10 a4]++us 142)
noncomputable def w5e (kX:T131) (kO:T127):=exK zn 4 (A_V11.shape 35) kX kO
noncomputable def w5h (kX:T131) (a0:Z15) (a2 a9:Y2):Z7:=kX (([.val Q4 O2 a0,.u,W3 a2]++ud 6 [.val Q8 (.o (.p O2 .i)) a9])++us 137)
noncomputable def w5f (kX:T131) (kO:T127):=exK zn 7 (A_V11.shape 63) kX kO
theorem xem (N kX kO):∀n,wjr N n (xej kX kO)=wyu N (xek kX) n :=
 itE rfl fun m=>by kernel_rfl
noncomputable def wqq (N m:Nat) (kX:T131) (kO:T127):=(blockK 2 (blockK 1 (sqK A_V11 N 11 500005 Tryz.f100 [1,1,1,0,1,0,0,1,1] (itK A_V11 N 8 Tryz.f100 [1,1,1,0,1,0,0] m (wej kX kO)))))
noncomputable def xeo (N m:Nat) (kX:T131) (kO:T127) (st':St):Z7:=rn A_V11 N Tryz.f100 [1,1,1,0,1,0,0,1,1] st' (itK A_V11 N 8 Tryz.f100 [1,1,1,0,1,0,0] m (wej kX kO))
theorem xri (N m kX kO) {r}(h:wcr N m (wej kX kO)=r):wjr N N (wqq N m kX kO)=wjq N r (wqr kX):=by
 rw[show wjr N N (wqq N m kX kO)=wjr N N (xej (xeo N m kX kO) fun j=>(wqq N m kX kO) (.exit j)) from(by funext _ _ _ _ _ _;exact jk7),xem,show xek (xeo N m kX kO)=wen (wcr N m (wej kX kO)) by kernel_rfl,h];rfl
theorem xel (N kX kO):∀n,wcr N n (wej kX kO)=wyt N (wqr kX) n :=
 itE rfl fun m=>(show _=wep (wjr N N (wqq N m kX kO)) (wqr kX) by kernel_rfl).trans (by rw[xri N m kX kO rfl]<;>rfl)
noncomputable def wqp (N:Nat):=(blockK 0 (sqK A_V11 N 23 500011 Tryz.f100 [1,1,1,1] zn))
theorem w9c (N kX kO):∀n,wel N n (w5e kX kO)=wu6 N (w5g kX) n :=
 itE rfl fun m=>by kernel_rfl
noncomputable def wn0 (N:Nat):=(blockK 4 (sqK A_V11 N 35 500017 Tryz.f100 [1,1,1,1,1] zn))
theorem w9d (N kX kO):∀n,wa3 N n (w5f kX kO)=wu7 N (w5h kX) n :=
 itE rfl fun m=>by kernel_rfl
noncomputable def wek (N:Nat):=(blockK 7 (blockK 6 (sqK A_V11 N 63 500031 Tryz.f100 [1,1,1,1,1,1,1,1,1] zn)))
noncomputable def w5j (N:Nat) (st':St):Z7:=rn A_V11 N Tryz.f100 [1,1,1,1,1,1,1,1,1] st' zn
theorem wys (N):wa3 N N (wek N)=wo N:=by
 rw[show wa3 N N (wek N)=wa3 N N (w5f (w5j N) fun j=>(wek N) (.exit j)) from(by funext _ _ _;exact jk7),w9d,show w5h (w5j N)=wem by kernel_rfl];rfl
noncomputable def w5i (N:Nat) (st':St):Z7:=rn A_V11 N Tryz.f100 [1,1,1,1,1] st' zn
theorem xnq (N):wel N N (wn0 N)=xr N:=by
 rw[show wel N N (wn0 N)=wel N N (w5e (w5i N) fun j=>(wn0 N) (.exit j)) from(by funext _ _ _ _ _ _;exact jk7),w9c,show w5g (w5i N)=yw (wa3 N N (wek N)) by kernel_rfl,wys N];rfl
noncomputable def xen (N:Nat) (st':St):Z7:=rn A_V11 N Tryz.f100 [1,1,1,1] st' zn
theorem xrh (N):wcr N N (wqp N)=wyr N:=by
 rw[show wcr N N (wqp N)=wcr N N (wej (xen N) fun j=>(wqp N) (.exit j)) from(by funext _ _ _ _ _;exact jk7),xel,show wqr (xen N)=zq (wel N N (wn0 N)) (wa3 N N (wek N)) by kernel_rfl,xnq N,wys N];rfl
theorem run_V11 (N x):runF A_V11 N Tryz.f100 S_V11 x=V11 N x.1:=(show _=(w9e (wcr N N (wqp N)) x.1) by kernel_rfl).trans (by rw[xrh N];rfl)
theorem fn_V11:FnOk Tryz.prog 100:=⟨_,Tryz.func100,by kernel_rfl,by kernel_rfl⟩
theorem good_V11:Gx.Good Tryz.prog 100 S_V11:=jgi Tryz.func100 (of_decide_eq_true (by kernel_rfl)) fun x r h=>⟨A_V11,big,jid (ur tabOk),jhh (jed (show SigsOk Tryz.prog [(136,S_V4),(103,S_V5),(104,S_V8),(99,S_V3),(106,S_V9),(102,S_V2),(137,S_V10)] from⟨ok_V4,ok_V5,ok_V8,ok_V3,ok_V9,ok_V2,ok_V10,trivial⟩)),fun code hc=>jah (ids:=[25]) (fun i hi=>by simp only[List.mem_cons,List.not_mem_nil,or_false]at hi;simp[A_V11,hookCfg,hi]) fun c hm=>PO.hooks_spec_l1Cur_poset A_V11 (by rfl) code hc c hm,(run_V11 big x).trans h⟩
def xrw (rec:T103) (k:T25) (a2 a3 a4 a5:Y2) (a6 a7 a8:Int) (a9:Y4) (a10 a11:Int):Z4 :=
  (atI a3.1 a8).bind fun xq3 =>
  cond (decide (a11<(xq3.length:Int)))
  ((atI a2.1 a7).bind fun xq4 =>
  (atI xq4 a10).bind fun xq5 =>
  (atI a3.1 a8).bind fun xq6 =>
  (atI xq6 a11).bind fun xq7 =>
  (appI a9 [IntKind.i64.wrap ((IntKind.i64.wrap (xq5*a6))+xq7)]).bind fun xq8 =>
  rec a2 a3 a4 a5 a6 a7 a8 xq8 a10 (IntKind.i64.wrap (a11+1)))
  (k a2 a3 a4 a5 a6 a7 a8 a9 a10)
def w6j (rec:T25) (a2 a3 a4 a5:Y2) (a6 a7 a8:Int) (a9:Y4) (a10:Int):Z4 :=
  rec a2 a3 a4 a5 a6 a7 a8 a9 (IntKind.i64.wrap (a10+1))
def w6k (L14:T103) (k:T85) (a2 a3 a4 a5:Y2) (a6 a7 a8:Int) (a9:Y4) (a10:Int):Z4 :=
  (atI a2.1 a7).bind fun xq1 =>
  cond (decide (a10<(xq1.length:Int)))
  (L14 a2 a3 a4 a5 a6 a7 a8 a9 a10 0)
  (k a2 a3 a4 a5 a6 a7 a8 a9)
def w6i (rec:T94) (a2 a3 a4 a5:Y2) (a6 a7 a8:Int) (a9:Y4):Z4 :=
  (appI a5.1 [a9]).bind fun xq2 =>
  rec a2 a3 a4 (xq2,((),a5.2).2) a6 a7 (IntKind.i64.wrap (a8+1))
def xex (L11:T25) (k:T40) (a2 a3 a4 a5:Y2) (a6 a7 a8:Int):Z4 :=
  cond (decide (a8<a6))
  (L11 a2 a3 a4 a5 a6 a7 a8 [] 0)
  (k a2 a3 a4 a5 a6 a7)
def xev (rec:T40) (a2 a3 a4 a5:Y2) (a6 a7:Int):Z4 :=
  rec a2 a3 a4 a5 a6 (IntKind.i64.wrap (a7+1))
def xew (L7:T94) (k:T52) (a2 a3 a4 a5:Y2) (a6 a7:Int):Z4 :=
  cond (decide (a7<(a2.1.length:Int)))
  (L7 a2 a3 a4 a5 a6 a7 0)
  (k a4 a5)
def xeu (a4 a5:Y2):Z4 :=
  some (a5,(()))
def xpn (L4:T40) (p_0 q_1:Y2):Z4 :=
  L4 p_0 q_1 (([]:Y3),()) ([],()) (q_1.1.length:Int) 0
def w6o (N:Nat) (k:T25):=itN (fun r=>xrw r k) fun _ _ _ _ _ _ _ _ _ _=>none
def w6g (N:Nat) (rec:T25) (k:T85):=w6o N (w6j rec) N
def w6n (N:Nat) (k:T85):=itN (fun r=>w6k (w6g N r k) k) fun _ _ _ _ _ _ _ _ _=>none
def w6f (N:Nat) (rec:T94) (k:T40):=w6n N (w6i rec) N
def xe3 (N:Nat) (k:T40):=itN (fun r=>xex (w6f N r k) k) fun _ _ _ _ _ _ _=>none
def xet (N:Nat) (rec:T40) (k:T52):=xe3 N (xev rec) N
def xe2 (N:Nat) (k:T52):=itN (fun r=>xew (xet N r k) k) fun _ _ _ _ _ _=>none
def xes (N:Nat):=xe2 N (xeu) N
def V12 (N:Nat) (p_0 q_1:Y2):Z4:=xpn (xes N) p_0 q_1
def S_V12:Sig:=⟨(.pair Q0 Q18),[0,0],[],.unit,Q0,(.p O13 .i),fun x=>V12 big x.1 x.2.1⟩
def A_V12:Cfg:=mkCfg tab [] [(8,[D0,D0,B6,B6,B3,B3,B0,B0]),(14,[D0,D0,B6,B6,B3,B3,B0,B0,B0]),(37,(dr 4 [B3,B3])),(22,[D0,D0,B6,B6,B3,B3,B0,B0,B0,B1,B0]),(11,[D0,D0,B6,B6,B3,B3,B0,B0]),(28,[D0,D0,B6,B6,B3,B3,B0,B0,B0,B1,B0,B0]),(35,[D0,D0,B6,B6,B3,B3,B0,B0,B0,B1]),(25,[D0,D0,B6,B6,B3,B3,B0,B0,B0,B1,B0])]
noncomputable def wcs (N n:Nat) (K:T53) (a2 a3 a4 a5:Y2) (a6 a7:Int):Z4:=itr A_V12 N 8 Tryz.f138 [1,1,1,0,1,0,0] n ([.u,.u,W6 a2,W6 a3,W3 a4,W3 a5,W0 a6,W0 a7]++us 71) K
noncomputable def wct (N n:Nat) (K:T53) (a2 a3 a4 a5:Y2) (a6 a7 a8:Int):Z4:=itr A_V12 N 14 Tryz.f138 [1,1,1,0,1,0,0,1,0,0,1,0,0] n ([.u,.u,W6 a2,W6 a3,W3 a4,W3 a5,W0 a6,W0 a7,W0 a8]++us 70) K
noncomputable def y6 (N n:Nat) (K:T53) (a2 a3 a4 a5:Y2) (a6 a7 a8:Int) (a9:Y4) (a10:Int):Z4:=itr A_V12 N 22 Tryz.f138 [1,1,1,0,1,0,0,1,0,0,1,0,0,1,0,0,1,0,1,0,0] n ([.u,.u,W6 a2,W6 a3,W3 a4,W3 a5,W0 a6,W0 a7,W0 a8,W1 a9,W0 a10]++us 68) K
noncomputable def wfb (N n:Nat) (K:T53) (a2 a3 a4 a5:Y2) (a6 a7 a8:Int) (a9:Y4) (a10 a11:Int):Z4:=itr A_V12 N 28 Tryz.f138 [1,1,1,0,1,0,0,1,0,0,1,0,0,1,0,0,1,0,1,0,0,1,0,0,1,0,0] n ([.u,.u,W6 a2,W6 a3,W3 a4,W3 a5,W0 a6,W0 a7,W0 a8,W1 a9,W0 a10,W0 a11]++us 67) K
noncomputable def woi:Ex→St→Z4:=finish A_V12 S_V12 Tryz.f138.results.toList
noncomputable def wqv (kX:T21) (a4 a5:Y2):Z4:=kX ((ud 4 [W3 a4,W3 a5])++us 73)
noncomputable def we9 (kX:T21) (kO:T9):=exK woi 0 (A_V12.shape 37) kX kO
noncomputable def wqw (kX:T21) (a2 a3 a4 a5:Y2) (a6 a7:Int):Z4:=kX ([.u,.u,W6 a2,W6 a3,W3 a4,W3 a5,W0 a6,W0 a7]++us 71)
noncomputable def wfa (kX:T21) (kO:T9):=exK woi 2 (A_V12.shape 11) kX kO
noncomputable def woh (kX:T21) (a2 a3 a4 a5:Y2) (a6 a7 a8:Int) (a9:Y4):Z4:=kX ([.u,.u,W6 a2,W6 a3,W3 a4,W3 a5,W0 a6,W0 a7,W0 a8,W1 a9]++us 69)
noncomputable def wbf (kX:T21) (kO:T9):=exK woi 4 (A_V12.shape 35) kX kO
noncomputable def w6h (kX:T21) (a2 a3 a4 a5:Y2) (a6 a7 a8:Int) (a9:Y4) (a10:Int):Z4:=kX ([.u,.u,W6 a2,W6 a3,W3 a4,W3 a5,W0 a6,W0 a7,W0 a8,W1 a9,W0 a10]++us 68)
noncomputable def w6e (kX:T21) (kO:T9):=exK woi 6 (A_V12.shape 25) kX kO
theorem w9r (N kX kO):∀n,wfb N n (w6e kX kO)=w6o N (w6h kX) n :=
 itE rfl fun m=>by kernel_rfl
noncomputable def wog (N m:Nat) (kX:T21) (kO:T9):=(blockK 6 (blockK 5 (sqK A_V12 N 25 500012 Tryz.f138 [1,1,1,0,1,0,0,1,0,0,1,0,0,1,0,0,1,0,1,0,0,1,1] (itK A_V12 N 22 Tryz.f138 [1,1,1,0,1,0,0,1,0,0,1,0,0,1,0,0,1,0,1,0,0] m (wbf kX kO)))))
noncomputable def w6m (N m:Nat) (kX:T21) (kO:T9) (st':St):Z4:=rn A_V12 N Tryz.f138 [1,1,1,0,1,0,0,1,0,0,1,0,0,1,0,0,1,0,1,0,0,1,1] st' (itK A_V12 N 22 Tryz.f138 [1,1,1,0,1,0,0,1,0,0,1,0,0,1,0,0,1,0,1,0,0] m (wbf kX kO))
theorem xn3 (N m kX kO) {r}(h:y6 N m (wbf kX kO)=r):wfb N N (wog N m kX kO)=w6g N r (woh kX):=by
 rw[show wfb N N (wog N m kX kO)=wfb N N (w6e (w6m N m kX kO) fun j=>(wog N m kX kO) (.exit j)) from(by funext _ _ _ _ _ _ _ _ _ _;exact jk7),w9r,show w6h (w6m N m kX kO)=w6j (y6 N m (wbf kX kO)) by kernel_rfl,h];rfl
theorem w9q (N kX kO):∀n,y6 N n (wbf kX kO)=w6n N (woh kX) n :=
 itE rfl fun m=>(show _=w6k (wfb N N (wog N m kX kO)) (woh kX) by kernel_rfl).trans (by rw[xn3 N m kX kO rfl]<;>rfl)
noncomputable def wof (N m:Nat) (kX:T21) (kO:T9):=(blockK 4 (sqK A_V12 N 35 500017 Tryz.f138 [1,1,1,0,1,0,0,1,0,0,1,0,0,1,0,0,1,1] (blockK 3 (sqK A_V12 N 17 500008 Tryz.f138 [1,1,1,0,1,0,0,1,0,0,1,0,0,1,1] (itK A_V12 N 14 Tryz.f138 [1,1,1,0,1,0,0,1,0,0,1,0,0] m (wfa kX kO))))))
noncomputable def w6l (N m:Nat) (kX:T21) (kO:T9) (st':St):Z4:=rn A_V12 N Tryz.f138 [1,1,1,0,1,0,0,1,0,0,1,0,0,1,0,0,1,1] st' (blockK 3 (sqK A_V12 N 17 500008 Tryz.f138 [1,1,1,0,1,0,0,1,0,0,1,0,0,1,1] (itK A_V12 N 14 Tryz.f138 [1,1,1,0,1,0,0,1,0,0,1,0,0] m (wfa kX kO))))
theorem xn2 (N m kX kO) {r}(h:wct N m (wfa kX kO)=r):y6 N N (wof N m kX kO)=w6f N r (wqw kX):=by
 rw[show y6 N N (wof N m kX kO)=y6 N N (wbf (w6l N m kX kO) fun j=>(wof N m kX kO) (.exit j)) from(by funext _ _ _ _ _ _ _ _ _;exact jk7),w9q,show woh (w6l N m kX kO)=w6i (wct N m (wfa kX kO)) by kernel_rfl,h];rfl
theorem xez (N kX kO):∀n,wct N n (wfa kX kO)=xe3 N (wqw kX) n :=
 itE rfl fun m=>(show _=xex (y6 N N (wof N m kX kO)) (wqw kX) by kernel_rfl).trans (by rw[xn2 N m kX kO rfl]<;>rfl)
noncomputable def wqu (N m:Nat) (kX:T21) (kO:T9):=(blockK 2 (blockK 1 (sqK A_V12 N 11 500005 Tryz.f138 [1,1,1,0,1,0,0,1,1] (itK A_V12 N 8 Tryz.f138 [1,1,1,0,1,0,0] m (we9 kX kO)))))
noncomputable def xe1 (N m:Nat) (kX:T21) (kO:T9) (st':St):Z4:=rn A_V12 N Tryz.f138 [1,1,1,0,1,0,0,1,1] st' (itK A_V12 N 8 Tryz.f138 [1,1,1,0,1,0,0] m (we9 kX kO))
theorem xry (N m kX kO) {r}(h:wcs N m (we9 kX kO)=r):wct N N (wqu N m kX kO)=xet N r (wqv kX):=by
 rw[show wct N N (wqu N m kX kO)=wct N N (wfa (xe1 N m kX kO) fun j=>(wqu N m kX kO) (.exit j)) from(by funext _ _ _ _ _ _ _;exact jk7),xez,show wqw (xe1 N m kX kO)=xev (wcs N m (we9 kX kO)) by kernel_rfl,h];rfl
theorem xey (N kX kO):∀n,wcs N n (we9 kX kO)=xe2 N (wqv kX) n :=
 itE rfl fun m=>(show _=xew (wct N N (wqu N m kX kO)) (wqv kX) by kernel_rfl).trans (by rw[xry N m kX kO rfl]<;>rfl)
noncomputable def wqt (N:Nat):=(blockK 0 (sqK A_V12 N 37 500018 Tryz.f138 [1,1,1,1] woi))
noncomputable def xe0 (N:Nat) (st':St):Z4:=rn A_V12 N Tryz.f138 [1,1,1,1] st' woi
theorem xrx (N):wcs N N (wqt N)=xes N:=by
 rw[show wcs N N (wqt N)=wcs N N (we9 (xe0 N) fun j=>(wqt N) (.exit j)) from(by funext _ _ _ _ _ _;exact jk7),xey,show wqv (xe0 N)=xeu by kernel_rfl];rfl
theorem run_V12 (N x):runF A_V12 N Tryz.f138 S_V12 x=V12 N x.1 x.2.1:=(show _=(xpn (wcs N N (wqt N)) x.1 x.2.1) by kernel_rfl).trans (by rw[xrx N];rfl)
theorem ok_V12:OK 138 S_V12:=gdR (A:=A_V12) tc Tryz.func138 (jed trivial) (run_V12 big)
def xxu (k_0:Int):Z4 :=
  cond (decide (k_0=0))
  ((V9 big 1 []).bind fun rq1 =>
  some (rq1.1,(())))
  (cond (decide (k_0=1))
  ((V9 big 2 [(0,(1,()))]).bind fun rq2 =>
  some (rq2.1,(())))
  (cond (decide (k_0=2))
  ((V9 big 4 [(0,(1,())),(1,(2,())),(2,(3,()))]).bind fun rq3 =>
  some (rq3.1,(())))
  (cond (decide (k_0=3))
  ((V9 big 4 [(0,(1,())),(0,(2,())),(1,(3,())),(2,(3,()))]).bind fun rq4 =>
  some (rq4.1,(())))
  (cond (decide (k_0=4))
  ((V9 big 5 [(0,(1,())),(0,(2,())),(0,(3,())),(1,(4,())),(2,(4,())),(3,(4,()))]).bind fun rq5 =>
  some (rq5.1,(())))
  (cond (decide (k_0=5))
  ((V9 big 5 [(0,(1,())),(1,(2,())),(0,(3,())),(2,(4,())),(3,(4,()))]).bind fun rq6 =>
  some (rq6.1,(())))
  (cond (decide (k_0=6))
  ((V9 big 8 [(0,(1,())),(0,(2,())),(0,(3,())),(1,(4,())),(1,(5,())),(2,(4,())),(2,(6,())),(3,(5,())),(3,(6,())),(4,(7,())),(5,(7,())),(6,(7,()))]).bind fun rq7 =>
  some (rq7.1,(())))
  (cond (decide (k_0=7))
  ((V9 big 6 [(0,(1,())),(0,(2,())),(1,(3,())),(2,(3,())),(2,(4,())),(3,(5,())),(4,(5,()))]).bind fun rq8 =>
  some (rq8.1,(())))
  (cond (decide (k_0=8))
  ((V9 big 6 [(0,(1,())),(0,(2,())),(1,(3,())),(2,(4,())),(3,(5,())),(4,(5,()))]).bind fun rq9 =>
  some (rq9.1,(())))
  (cond (decide (k_0=9))
  ((V9 big 7 [(0,(1,())),(0,(2,())),(0,(3,())),(1,(4,())),(2,(4,())),(3,(5,())),(2,(5,())),(4,(6,())),(5,(6,()))]).bind fun rq10 =>
  some (rq10.1,(())))
  (cond (decide (k_0=10))
  ((V9 big 3 [(0,(1,())),(1,(2,()))]).bind fun rq11 =>
  (V9 big 3 [(0,(1,())),(1,(2,()))]).bind fun rq12 =>
  (V12 big rq11.1 rq12.1).bind fun rq13 =>
  some (rq13.1,(())))
  ((V9 big 3 [(0,(1,())),(1,(2,()))]).bind fun rq14 =>
  some (rq14.1,(())))))))))))))
def V13 (k_0:Int):Z4:=xxu k_0
def S_V13:Sig:=⟨Q15,[0],[],.unit,Q0,(.p O13 .i),fun x=>V13 x.1⟩
def A_V13:Cfg:=mkCfg tab [(106,S_V9),(138,S_V12)] []
theorem run_V13 (N x):runF A_V13 N Tryz.f101 S_V13 x=V13 x.1:=by kernel_rfl
theorem ok_V13:OK 101 S_V13:=gdR (A:=A_V13) tc Tryz.func101 (jed ⟨ok_V9,ok_V12,trivial⟩) (run_V13 big)
def wjw (rec:T66) (k:Z0) (a0:Y4) (a1 a5:Int):Z0 :=
  cond (decide (a5<(a0.length:Int)))
  ((atI a0 a5).bind fun xq1 =>
  cond (decide (xq1=a1))
  (some (true,(())))
  (rec a0 a1 (IntKind.i64.wrap (a5+1))))
  (k)
def wfp:Z0 :=
  some (false,(()))
def w92 (L2:T66) (l_0:Y4) (n_1:Int):Z0 :=
  L2 l_0 n_1 0
def wzj (N:Nat) (k:Z0):=itN (fun r=>wjw r k) fun _ _ _=>none
def wzi (N:Nat):=wzj N (wfp) N
def V14 (N:Nat) (l_0:Y4) (n_1:Int):Z0:=w92 (wzi N) l_0 n_1
def S_V14:Sig:=⟨(.pair Q3 Q15),[0,0],[],.unit,.bool,.i,fun x=>V14 big x.1 x.2.1⟩
def A_V14:Cfg:=mkCfg tab [] [(4,([B2,B0]++dr 3 [B0])),(13,[])]
noncomputable def wjv (N n:Nat) (K:T8) (a0:Y4) (a1 a5:Int):Z0:=itr A_V14 N 4 Tryz.f115 [1,0,1,0,0] n (([W2 a0,W0 a1]++ud 3 [W0 a5])++us 12) K
noncomputable def w93:Ex→St→Z0:=finish A_V14 S_V14 Tryz.f115.results.toList
noncomputable def xfc (kX:T1):Z0:=kX ([]++us 18)
noncomputable def xfb (kX:T1) (kO:T0):=exK w93 0 (A_V14.shape 13) kX kO
theorem xfd (N kX kO):∀n,wjv N n (xfb kX kO)=wzj N (xfc kX) n :=
 itE rfl fun m=>by kernel_rfl
noncomputable def wq0 (N:Nat):=(blockK 0 (sqK A_V14 N 13 500006 Tryz.f115 [1,1] w93))
noncomputable def xfe (N:Nat) (st':St):Z0:=rn A_V14 N Tryz.f115 [1,1] st' w93
theorem xr9 (N):wjv N N (wq0 N)=wzi N:=by
 rw[show wjv N N (wq0 N)=wjv N N (xfb (xfe N) fun j=>(wq0 N) (.exit j)) from(by funext _ _ _;exact jk7),xfd,show xfc (xfe N)=wfp by kernel_rfl];rfl
theorem run_V14 (N x):runF A_V14 N Tryz.f115 S_V14 x=V14 N x.1 x.2.1:=(show _=(w92 (wjv N N (wq0 N)) x.1 x.2.1) by kernel_rfl).trans (by rw[xr9 N];rfl)
theorem ok_V14:OK 115 S_V14:=gdR (A:=A_V14) tc Tryz.func115 (jed trivial) (run_V14 big)
def xpo (p_0:Y2) (x_1 y_2:Int):Z0 :=
  (atI p_0.1 y_2).bind fun xq1 =>
  (V14 big xq1 x_1).bind fun rq2 =>
  some (rq2.1,(()))
def V15 (p_0:Y2) (x_1 y_2:Int):Z0:=xpo p_0 x_1 y_2
def S_V15:Sig:=⟨(.pair Q0 Q22),[0,0,0],[],.unit,.bool,.i,fun x=>V15 x.1 x.2.1 x.2.2.1⟩
def A_V15:Cfg:=mkCfg tab [(115,S_V14)] []
theorem run_V15 (N x):runF A_V15 N Tryz.f121 S_V15 x=V15 x.1 x.2.1 x.2.2.1:=by kernel_rfl
theorem ok_V15:OK 121 S_V15:=gdR (A:=A_V15) tc Tryz.func121 (jed ⟨ok_V14,trivial⟩) (run_V15 big)
def xpp (p_0:Y2) (x_1 y_2:Int):Z0 :=
  cond (decide (x_1≠y_2))
  ((V15 p_0 x_1 y_2).bind fun rq1 =>
  some (rq1.1,(())))
  (some (false,(())))
def V16 (p_0:Y2) (x_1 y_2:Int):Z0:=xpp p_0 x_1 y_2
def S_V16:Sig:=⟨(.pair Q0 Q22),[0,0,0],[],.unit,.bool,.i,fun x=>V16 x.1 x.2.1 x.2.2.1⟩
def A_V16:Cfg:=mkCfg tab [(121,S_V15)] []
theorem run_V16 (N x):runF A_V16 N Tryz.f134 S_V16 x=V16 x.1 x.2.1 x.2.2.1:=by kernel_rfl
theorem ok_V16:OK 134 S_V16:=gdR (A:=A_V16) tc Tryz.func134 (jed ⟨ok_V15,trivial⟩) (run_V16 big)
def wjy (rec:T114) (k:Z0) (a1 a2:Int) (a3:Y2) (a7:Int):Z0 :=
  cond (decide (a7<(a3.1.length:Int)))
  ((V16 a3 a1 a7).bind fun rq2 =>
  cond rq2.1
  ((V16 a3 a7 a2).bind fun rq3 =>
  cond rq3.1
  (some (false,(())))
  (rec a1 a2 a3 (IntKind.i64.wrap (a7+1))))
  (rec a1 a2 a3 (IntKind.i64.wrap (a7+1))))
  (k)
def wfq:Z0 :=
  some (true,(()))
def w94 (L4:T114) (p_0:Y2) (x_1 y_2:Int):Z0 :=
  (V16 p_0 x_1 y_2).bind fun rq1 =>
  cond (!rq1.1)
  (some (false,(())))
  (L4 x_1 y_2 p_0 0)
def wzl (N:Nat) (k:Z0):=itN (fun r=>wjy r k) fun _ _ _ _=>none
def wzk (N:Nat):=wzl N (wfq) N
def V17 (N:Nat) (p_0:Y2) (x_1 y_2:Int):Z0:=w94 (wzk N) p_0 x_1 y_2
def S_V17:Sig:=⟨(.pair Q0 Q22),[0,0,0],[],.unit,.bool,.i,fun x=>V17 big x.1 x.2.1 x.2.2.1⟩
def A_V17:Cfg:=mkCfg tab [(134,S_V16)] [(8,([D0,B0,B0,B6]++dr 3 [B0])),(17,[])]
noncomputable def wjx (N n:Nat) (K:T8) (a1 a2:Int) (a3:Y2) (a7:Int):Z0:=itr A_V17 N 8 Tryz.f95 [1,1,0,1,0,0] n (([.u,W0 a1,W0 a2,W6 a3]++ud 3 [W0 a7])++us 22) K
noncomputable def w95:Ex→St→Z0:=finish A_V17 S_V17 Tryz.f95.results.toList
noncomputable def xfg (kX:T1):Z0:=kX ([]++us 30)
noncomputable def xff (kX:T1) (kO:T0):=exK w95 0 (A_V17.shape 17) kX kO
theorem xfh (N kX kO):∀n,wjx N n (xff kX kO)=wzl N (xfg kX) n :=
 itE rfl fun m=>by kernel_rfl
noncomputable def wq1 (N:Nat):=(blockK 0 (sqK A_V17 N 17 500008 Tryz.f95 [1,1,1] w95))
noncomputable def xfi (N:Nat) (st':St):Z0:=rn A_V17 N Tryz.f95 [1,1,1] st' w95
theorem xsa (N):wjx N N (wq1 N)=wzk N:=by
 rw[show wjx N N (wq1 N)=wjx N N (xff (xfi N) fun j=>(wq1 N) (.exit j)) from(by funext _ _ _ _;exact jk7),xfh,show xfg (xfi N)=wfq by kernel_rfl];rfl
theorem run_V17 (N x):runF A_V17 N Tryz.f95 S_V17 x=V17 N x.1 x.2.1 x.2.2.1:=(show _=(w94 (wjx N N (wq1 N)) x.1 x.2.1 x.2.2.1) by kernel_rfl).trans (by rw[xsa N];rfl)
theorem ok_V17:OK 95 S_V17:=gdR (A:=A_V17) tc Tryz.func95 (jed ⟨ok_V16,trivial⟩) (run_V17 big)
def xvj (rec:Y2→Z11→Int→Int→Z18) (k:T118) (a1:Y2) (a3:Z11) (a4 a5:Int):Z18 :=
  cond (decide (a5<(a1.1.length:Int)))
  ((V17 big a1 a4 a5).bind fun rq1 =>
  cond rq1.1
  ((appI a3 [(a4,(a5,()))]).bind fun xq2 =>
  rec a1 xq2 a4 (IntKind.i64.wrap (a5+1)))
  (rec a1 a3 a4 (IntKind.i64.wrap (a5+1))))
  (k a1 a3 a4)
def xfo (rec:T118) (a1:Y2) (a3:Z11) (a4:Int):Z18 :=
  rec a1 a3 (IntKind.i64.wrap (a4+1))
def xfp (L6:Y2→Z11→Int→Int→Z18) (k:Z11→Z18) (a1:Y2) (a3:Z11) (a4:Int):Z18 :=
  cond (decide (a4<(a1.1.length:Int)))
  (L6 a1 a3 a4 0)
  (k a3)
def xfn (a3:Z11):Z18 :=
  some (a3,(()))
def xpq (L3:T118) (p_0:Y2):Z18 :=
  L3 p_0 [] 0
def xfv (N:Nat) (k:T118):=itN (fun r=>xvj r k) fun _ _ _ _=>none
def xfl (N:Nat) (rec:T118) (k:Z11→Z18):=xfv N (xfo rec) N
def xfu (N:Nat) (k:Z11→Z18):=itN (fun r=>xfp (xfl N r k) k) fun _ _ _=>none
def xfk (N:Nat):=xfu N (xfn) N
def V18 (N:Nat) (p_0:Y2):Z18:=xpq (xfk N) p_0
def S_V18:Sig:=⟨Q18,[0],[],.unit,Q7,O2,fun x=>V18 big x.1⟩
def A_V18:Cfg:=mkCfg tab [(95,S_V17)] [(6,[D0,B6,D0,B10,B0]),(12,[D0,B6,D0,B10,B0,B0]),(21,(dr 3 [B10])),(9,[D0,B6,D0,B10,B0])]
noncomputable def wcx (N n:Nat) (K:Ex→St→Z18) (a1:Y2) (a3:Z11) (a4:Int):Z18:=itr A_V18 N 6 Tryz.f105 [1,1,0,1,0,0] n ([.u,W6 a1,.u,W10 a3,W0 a4]++us 27) K
noncomputable def wjz (N n:Nat) (K:Ex→St→Z18) (a1:Y2) (a3:Z11) (a4 a5:Int):Z18:=itr A_V18 N 12 Tryz.f105 [1,1,0,1,0,0,1,0,0,1,0,0] n ([.u,W6 a1,.u,W10 a3,W0 a4,W0 a5]++us 26) K
noncomputable def wxf:Ex→St→Z18:=finish A_V18 S_V18 Tryz.f105.results.toList
noncomputable def wq4 (kX:St→Z18) (a3:Z11):Z18:=kX ((ud 3 [W10 a3])++us 28)
noncomputable def wfr (kX:St→Z18) (kO:Nat→St→Z18):=exK wxf 0 (A_V18.shape 21) kX kO
noncomputable def xfm (kX:St→Z18) (a1:Y2) (a3:Z11) (a4:Int):Z18:=kX ([.u,W6 a1,.u,W10 a3,W0 a4]++us 27)
noncomputable def xfj (kX:St→Z18) (kO:Nat→St→Z18):=exK wxf 2 (A_V18.shape 9) kX kO
theorem xfr (N kX kO):∀n,wjz N n (xfj kX kO)=xfv N (xfm kX) n :=
 itE rfl fun m=>by kernel_rfl
noncomputable def wq3 (N m:Nat) (kX:St→Z18) (kO:Nat→St→Z18):=(blockK 2 (blockK 1 (sqK A_V18 N 9 500004 Tryz.f105 [1,1,0,1,0,0,1,1] (itK A_V18 N 6 Tryz.f105 [1,1,0,1,0,0] m (wfr kX kO)))))
noncomputable def xft (N m:Nat) (kX:St→Z18) (kO:Nat→St→Z18) (st':St):Z18:=rn A_V18 N Tryz.f105 [1,1,0,1,0,0,1,1] st' (itK A_V18 N 6 Tryz.f105 [1,1,0,1,0,0] m (wfr kX kO))
theorem xsc (N m kX kO) {r}(h:wcx N m (wfr kX kO)=r):wjz N N (wq3 N m kX kO)=xfl N r (wq4 kX):=by
 rw[show wjz N N (wq3 N m kX kO)=wjz N N (xfj (xft N m kX kO) fun j=>(wq3 N m kX kO) (.exit j)) from(by funext _ _ _ _;exact jk7),xfr,show xfm (xft N m kX kO)=xfo (wcx N m (wfr kX kO)) by kernel_rfl,h];rfl
theorem xfq (N kX kO):∀n,wcx N n (wfr kX kO)=xfu N (wq4 kX) n :=
 itE rfl fun m=>(show _=xfp (wjz N N (wq3 N m kX kO)) (wq4 kX) by kernel_rfl).trans (by rw[xsc N m kX kO rfl]<;>rfl)
noncomputable def wq2 (N:Nat):=(blockK 0 (sqK A_V18 N 21 500010 Tryz.f105 [1,1,1] wxf))
noncomputable def xfs (N:Nat) (st':St):Z18:=rn A_V18 N Tryz.f105 [1,1,1] st' wxf
theorem xsb (N):wcx N N (wq2 N)=xfk N:=by
 rw[show wcx N N (wq2 N)=wcx N N (wfr (xfs N) fun j=>(wq2 N) (.exit j)) from(by funext _ _ _;exact jk7),xfq,show wq4 (xfs N)=xfn by kernel_rfl];rfl
theorem run_V18 (N x):runF A_V18 N Tryz.f105 S_V18 x=V18 N x.1:=(show _=(xpq (wcx N N (wq2 N)) x.1) by kernel_rfl).trans (by rw[xsb N];rfl)
theorem ok_V18:OK 105 S_V18:=gdR (A:=A_V18) tc Tryz.func105 (jed ⟨ok_V17,trivial⟩) (run_V18 big)
def wj1 (rec:T62) (k:Z15→Y2→Y2→Int→Z11→Z7) (a0:Z15) (a2 a3:Y2) (a4:Int) (a5:Y4) (a6:Z11) (a7:Int):Z7 :=
  cond (decide (a7<(a6.length:Int)))
  ((atI a6 a7).bind fun _ =>
  (a6[a7.toNat]?).bind fun xq9 =>
  (a6[a7.toNat]?).bind fun xq10 =>
  (atI a5 xq10.1).bind fun _ =>
  (a5[xq10.1.toNat]?).bind fun xq11 =>
  (atI a6 a7).bind fun _ =>
  (a6[a7.toNat]?).bind fun xq12 =>
  (a6[a7.toNat]?).bind fun xq13 =>
  (atI a5 xq13.2.1).bind fun _ =>
  (a5[xq13.2.1.toNat]?).bind fun xq14 =>
  (atI a6 a7).bind fun _ =>
  (a6[a7.toNat]?).bind fun xq15 =>
  rec a0 a2 a3 a4 a5 (a6.set a7.toNat (xq11,(xq14,()))) (IntKind.i64.wrap (a7+1)))
  (k a0 a2 a3 a4 a6)
def wfs (a0:Z15) (a2 a3:Y2) (a4:Int) (a6:Z11):Z7 :=
  (V9 big a4 a6).bind fun rq16 =>
  some (rq16.1,(a0,()))
def w96 (L9:T62) (c_0:Z15):Z7 :=
  (V3 c_0 10).bind fun rq1 =>
  cond rq1.1
  ((V11 big rq1.2.1).bind fun rq2 =>
  some (rq2.1,(rq2.2.1,())))
  ((V2 rq1.2.1 12).bind fun rq3 =>
  (V13 rq3.1).bind fun rq4 =>
  (V5 big rq3.2.1 (rq4.1.1.length:Int)).bind fun rq5 =>
  (V8 big rq5.1 (rq4.1.1.length:Int)).bind fun rq6 =>
  cond rq6.1
  ((V3 rq5.2.1 2).bind fun rq7 =>
  cond rq7.1
  ((V18 big rq4.1).bind fun rq8 =>
  L9 rq7.2.1 (([]:Y3),()) rq4.1 (rq4.1.1.length:Int) rq5.1 rq8.1 0)
  (some (rq4.1,(rq7.2.1,()))))
  (some (rq4.1,(rq5.2.1,()))))
def wzn (N:Nat) (k:Z15→Y2→Y2→Int→Z11→Z7):=itN (fun r=>wj1 r k) fun _ _ _ _ _ _ _=>none
def wzm (N:Nat):=wzn N (wfs) N
def V19 (N:Nat) (c_0:Z15):Z7:=w96 (wzm N) c_0
def S_V19:Sig:=⟨(.pair Q4 .unit),[1],[O2],(.pair Q4 .unit),Q0,.i,fun x=>V19 big x.1⟩
def A_V19:Cfg:=mkCfg tab [(99,S_V3),(100,S_V11),(102,S_V2),(101,S_V13),(103,S_V5),(104,S_V8),(105,S_V18),(106,S_V9)] [(18,[.as Q4 O2,D0,B3,B3,B0,B1,B10,B0]),(25,[.as Q4 O2,D0,B3,B3,B0,D0,B10])]
noncomputable def wj0 (N n:Nat) (K:Ex→St→Z7) (a0:Z15) (a2 a3:Y2) (a4:Int) (a5:Y4) (a6:Z11) (a7:Int):Z7:=itr A_V19 N 18 Tryz.f59 [1,1,1,1,0,1,1,0,1,0,1,0,0] n ([.val Q4 O2 a0,.u,W3 a2,W3 a3,W0 a4,W1 a5,W10 a6,W0 a7]++us 52) K
noncomputable def w97:Ex→St→Z7:=finish A_V19 S_V19 Tryz.f59.results.toList
noncomputable def xfx (kX:T131) (a0:Z15) (a2 a3:Y2) (a4:Int) (a6:Z11):Z7:=kX ([.val Q4 O2 a0,.u,W3 a2,W3 a3,W0 a4,.u,W10 a6]++us 53)
noncomputable def xfw (kX:T131) (kO:T127):=exK w97 0 (A_V19.shape 25) kX kO
theorem xfy (N kX kO):∀n,wj0 N n (xfw kX kO)=wzn N (xfx kX) n :=
 itE rfl fun m=>by kernel_rfl
noncomputable def wq5 (N:Nat):=(blockK 0 (sqK A_V19 N 25 500012 Tryz.f59 [1,1,1,1,0,1,1,0,1,1] (sqK A_V19 N 27 500013 Tryz.f59 [1,1,1,1,1] w97)))
noncomputable def xfz (N:Nat) (st':St):Z7:=rn A_V19 N Tryz.f59 [1,1,1,1,0,1,1,0,1,1] st' (sqK A_V19 N 27 500013 Tryz.f59 [1,1,1,1,1] w97)
theorem xsd (N):wj0 N N (wq5 N)=wzm N:=by
 rw[show wj0 N N (wq5 N)=wj0 N N (xfw (xfz N) fun j=>(wq5 N) (.exit j)) from(by funext _ _ _ _ _ _ _;exact jk7),xfy,show xfx (xfz N)=wfs by kernel_rfl];rfl
theorem run_V19 (N x):runF A_V19 N Tryz.f59 S_V19 x=V19 N x.1:=(show _=(w96 (wj0 N N (wq5 N)) x.1) by kernel_rfl).trans (by rw[xsd N];rfl)
theorem ok_V19:OK 59 S_V19:=gdR (A:=A_V19) tc Tryz.func59 (jed ⟨ok_V3,⟨fn_V11,good_V11⟩,ok_V2,ok_V13,ok_V5,ok_V8,ok_V18,ok_V9,trivial⟩) (run_V19 big)
def xpr (code_0:Y4):Z4 :=
  (V19 big (code_0,(0,(0,())))).bind fun rq1 =>
  some (rq1.1,(()))
def V20 (code_0:Y4):Z4:=xpr code_0
def S_V20:Sig:=⟨(.pair (.sl (.int .u8)) .unit),[0],[],.unit,Q0,.i,fun x=>V20 x.1⟩
def A_V20:Cfg:=mkCfg tab [(59,S_V19)] []
theorem run_V20 (N x):runF A_V20 N Tryz.f27 S_V20 x=V20 x.1:=by kernel_rfl
theorem ok_V20:OK 27 S_V20:=gdR (A:=A_V20) tc Tryz.func27 (jed ⟨ok_V19,trivial⟩) (run_V20 big)
def xps (code_0:Y4):Z4 :=
  (V20 code_0).bind fun rq1 =>
  some (rq1.1,(()))
def V21 (code_0:Y4):Z4:=xps code_0
def S_V21:Sig:=⟨(.pair (.sl (.int .u8)) .unit),[0],[],.unit,Q0,.i,fun x=>V21 x.1⟩
def A_V21:Cfg:=mkCfg tab [(27,S_V20)] []
theorem run_V21 (N x):runF A_V21 N Tryz.f5 S_V21 x=V21 x.1:=by kernel_rfl
theorem ok_V21:OK 5 S_V21:=gdR (A:=A_V21) tc Tryz.func5 (jed ⟨ok_V20,trivial⟩) (run_V21 big)
def wj3 (rec:T112) (k:Y5→Z14) (a0:Int) (a3:Y5) (a8 a9:Int):Z14 :=
  cond (decide (a9<a8))
  ((mkI false a0).bind fun xq3=>(mkI false a0).bind fun xq4=>cond (decide (a0≤a0))
  ((atI a3 a9).bind fun _ =>
  (a3[a9.toNat]?).bind fun xq5 =>
  rec a0 (a3.set a9.toNat xq4) a8 (IntKind.i64.wrap (a9+1)))
  none)
  (k a3)
def wft (a3:Y5):Z14 :=
  some (a3,(()))
def w98 (L3:T112) (n_0:Int):Z14 :=
  (mkI ([]:(List Bool)) n_0).bind fun xq1=>(mkI ([]:(List Bool)) n_0).bind fun xq2=>cond (decide (n_0≤n_0))
  (L3 n_0 xq2 (xq2.length:Int) 0)
  none
def wzp (N:Nat) (k:Y5→Z14):=itN (fun r=>wj3 r k) fun _ _ _ _=>none
def wzo (N:Nat):=wzp N (wft) N
def V22 (N:Nat) (n_0:Int):Z14:=w98 (wzo N) n_0
def S_V22:Sig:=⟨Q15,[0],[],.unit,Q6,O13,fun x=>V22 big x.1⟩
def A_V22:Cfg:=mkCfg tab [] [(6,([B0,D0,D0,B8]++dr 4 [B0,B0])),(15,(dr 3 [B8]))]
noncomputable def wj2 (N n:Nat) (K:Ex→St→Z14) (a0:Int) (a3:Y5) (a8 a9:Int):Z14:=itr A_V22 N 6 Tryz.f45 [1,1,0,1,0,0] n (([W0 a0,.u,.u,W8 a3]++ud 4 [W0 a8,W0 a9])++us 9) K
noncomputable def w99:Ex→St→Z14:=finish A_V22 S_V22 Tryz.f45.results.toList
noncomputable def xf1 (kX:St→Z14) (a3:Y5):Z14:=kX ((ud 3 [W8 a3])++us 15)
noncomputable def xf0 (kX:St→Z14) (kO:T145):=exK w99 0 (A_V22.shape 15) kX kO
theorem xf2 (N kX kO):∀n,wj2 N n (xf0 kX kO)=wzp N (xf1 kX) n :=
 itE rfl fun m=>by kernel_rfl
noncomputable def wq6 (N:Nat):=(blockK 0 (sqK A_V22 N 15 500007 Tryz.f45 [1,1,1] w99))
noncomputable def xf3 (N:Nat) (st':St):Z14:=rn A_V22 N Tryz.f45 [1,1,1] st' w99
theorem xse (N):wj2 N N (wq6 N)=wzo N:=by
 rw[show wj2 N N (wq6 N)=wj2 N N (xf0 (xf3 N) fun j=>(wq6 N) (.exit j)) from(by funext _ _ _ _;exact jk7),xf2,show xf1 (xf3 N)=wft by kernel_rfl];rfl
theorem run_V22 (N x):runF A_V22 N Tryz.f45 S_V22 x=V22 N x.1:=(show _=(w98 (wj2 N N (wq6 N)) x.1) by kernel_rfl).trans (by rw[xse N];rfl)
theorem ok_V22:OK 45 S_V22:=gdR (A:=A_V22) tc Tryz.func45 (jed trivial) (run_V22 big)
def wzt (rec:Y4→Int→Z0) (k:Z0) (a0:Y4) (a3:Int):Z0 :=
  cond (decide (a3<(a0.length:Int)))
  ((atI a0 (IntKind.i64.wrap (a3-1))).bind fun xq1 =>
  (atI a0 a3).bind fun xq2 =>
  cond (decide (xq2≤xq1))
  (some (false,(())))
  (rec a0 (IntKind.i64.wrap (a3+1))))
  (k)
def wzs:Z0 :=
  some (true,(()))
def xaa (L2:Y4→Int→Z0) (list_0:Y4):Z0 :=
  L2 list_0 1
def wj4 (N:Nat) (k:Z0):Nat→Y4→Int→Z0
  | 0,_,_=>none
  | m+1,a0,a3=>wzt (wj4 N k m) k a0 a3
def wzq (N:Nat):=wj4 N (wzs) N
def V23 (N:Nat) (list_0:Y4):Z0:=xaa (wzq N) list_0
def S_V23:Sig:=⟨Q14,[0],[],.unit,.bool,.i,fun x=>V23 big x.1⟩
def A_V23:Cfg:=mkCfg tab [] [(4,[B2,D0,D0,B0]),(13,[])]
noncomputable def wcy (N n:Nat) (K:T8) (a0:Y4) (a3:Int):Z0:=itr A_V23 N 4 Tryz.f65 [1,0,1,0,0] n ([W2 a0,.u,.u,W0 a3]++us 16) K
noncomputable def xab:Ex→St→Z0:=finish A_V23 S_V23 Tryz.f65.results.toList
noncomputable def wzr (kX:T1):Z0:=kX ([]++us 20)
noncomputable def wq7 (kX:T1) (kO:T0):=exK xab 0 (A_V23.shape 13) kX kO
theorem www (N kX kO):∀n,wcy N n (wq7 kX kO)=wj4 N (wzr kX) n
 | 0=>rfl
 | m+1=>(show wcy N (m+1) (wq7 kX kO)=wzt (wcy N m (wq7 kX kO)) (wzr kX) by kernel_rfl).trans (by rw[www N kX kO m];funext _ _;rfl)
noncomputable def wq8 (N:Nat):=(blockK 0 (sqK A_V23 N 13 500006 Tryz.f65 [1,1] xab))
noncomputable def xf4 (N:Nat) (st':St):Z0:=rn A_V23 N Tryz.f65 [1,1] st' xab
theorem xsf (N):wcy N N (wq8 N)=wzq N:=by
 rw[show wcy N N (wq8 N)=wcy N N (wq7 (xf4 N) fun j=>(wq8 N) (.exit j)) from(by funext _ _;exact jk7),www,show wzr (xf4 N)=wzs by kernel_rfl];rfl
theorem run_V23 (N x):runF A_V23 N Tryz.f65 S_V23 x=V23 N x.1:=(show _=(xaa (wcy N N (wq8 N)) x.1) by kernel_rfl).trans (by rw[xsf N];rfl)
theorem ok_V23:OK 65 S_V23:=gdR (A:=A_V23) tc Tryz.func65 (jed trivial) (run_V23 big)
def wzx (rec:T69) (k:Z0) (a1:Int) (a7:Y4) (a8 a9:Int):Z0 :=
  cond (decide (a9<a8))
  ((atI a7 a9).bind fun xq1 =>
  cond (decide (xq1<0))
  (some (false,(())))
  (cond (decide (a1≤xq1))
  (some (false,(())))
  (rec a1 a7 a8 (IntKind.i64.wrap (a9+1)))))
  (k)
def wzw:Z0 :=
  some (true,(()))
def xac (L2:T69) (list_0:Y4) (n_1:Int):Z0 :=
  L2 n_1 list_0 (list_0.length:Int) 0
def wj5 (N:Nat) (k:Z0):Nat→Int→Y4→Int→Int→Z0
  | 0,_,_,_,_=>none
  | m+1,a1,a7,a8,a9=>wzx (wj5 N k m) k a1 a7 a8 a9
def wzu (N:Nat):=wj5 N (wzw) N
def V24 (N:Nat) (list_0:Y4) (n_1:Int):Z0:=xac (wzu N) list_0 n_1
def S_V24:Sig:=⟨(.pair Q3 Q15),[0,0],[],.unit,.bool,.i,fun x=>V24 big x.1 x.2.1⟩
def A_V24:Cfg:=mkCfg tab [] [(4,([D0,B0]++dr 5 [B2,B0,B0])),(15,[])]
noncomputable def wcz (N n:Nat) (K:T8) (a1:Int) (a7:Y4) (a8 a9:Int):Z0:=itr A_V24 N 4 Tryz.f124 [1,0,1,0,0] n (([.u,W0 a1]++ud 5 [W2 a7,W0 a8,W0 a9])++us 11) K
noncomputable def xad:Ex→St→Z0:=finish A_V24 S_V24 Tryz.f124.results.toList
noncomputable def wzv (kX:T1):Z0:=kX ([]++us 21)
noncomputable def wq9 (kX:T1) (kO:T0):=exK xad 0 (A_V24.shape 15) kX kO
theorem wwx (N kX kO):∀n,wcz N n (wq9 kX kO)=wj5 N (wzv kX) n
 | 0=>rfl
 | m+1=>(show wcz N (m+1) (wq9 kX kO)=wzx (wcz N m (wq9 kX kO)) (wzv kX) by kernel_rfl).trans (by rw[wwx N kX kO m];funext _ _ _ _;rfl)
noncomputable def wra (N:Nat):=(blockK 0 (sqK A_V24 N 15 500007 Tryz.f124 [1,1] xad))
noncomputable def xf5 (N:Nat) (st':St):Z0:=rn A_V24 N Tryz.f124 [1,1] st' xad
theorem xsg (N):wcz N N (wra N)=wzu N:=by
 rw[show wcz N N (wra N)=wcz N N (wq9 (xf5 N) fun j=>(wra N) (.exit j)) from(by funext _ _ _ _;exact jk7),wwx,show wzv (xf5 N)=wzw by kernel_rfl];rfl
theorem run_V24 (N x):runF A_V24 N Tryz.f124 S_V24 x=V24 N x.1 x.2.1:=(show _=(xac (wcz N N (wra N)) x.1 x.2.1) by kernel_rfl).trans (by rw[xsg N];rfl)
theorem ok_V24:OK 124 S_V24:=gdR (A:=A_V24) tc Tryz.func124 (jed trivial) (run_V24 big)
def wfx (rec:T37) (k:T23) (a0:Y5) (a3 a4 a7 a8 a20 a21 a46 a47:Int):Z0 :=
  cond (decide (a47<a46))
  ((atI a0 a3).bind fun xq7 =>
  (atI xq7 a4).bind fun xq8 =>
  cond xq8
  ((atI a0 a4).bind fun xq9 =>
  (atI xq9 a47).bind fun xq10 =>
  cond xq10
  ((atI a0 a3).bind fun xq11 =>
  (atI xq11 a47).bind fun xq12 =>
  cond (!xq12)
  (some (false,(())))
  (rec a0 a3 a4 a7 a8 a20 a21 a46 (IntKind.i64.wrap (a47+1))))
  (rec a0 a3 a4 a7 a8 a20 a21 a46 (IntKind.i64.wrap (a47+1))))
  (rec a0 a3 a4 a7 a8 a20 a21 a46 (IntKind.i64.wrap (a47+1))))
  (k a0 a3 a7 a8 a20 a21)
def wbv (rec:T23) (a0:Y5) (a3 a7 a8 a20 a21:Int):Z0 :=
  rec a0 a3 a7 a8 a20 (IntKind.i64.wrap (a21+1))
def wfz (L12:T37) (k:T49) (a0:Y5) (a3 a7 a8 a20 a21:Int):Z0 :=
  cond (decide (a21<a20))
  (cond (decide (a3≠a21))
  ((atI a0 a3).bind fun xq3 =>
  (atI xq3 a21).bind fun xq4 =>
  cond xq4
  ((atI a0 a21).bind fun xq5 =>
  (atI xq5 a3).bind fun xq6 =>
  cond xq6
  (some (false,(())))
  (L12 a0 a3 a21 a7 a8 a20 a21 (a0.length:Int) 0))
  (L12 a0 a3 a21 a7 a8 a20 a21 (a0.length:Int) 0))
  (L12 a0 a3 a21 a7 a8 a20 a21 (a0.length:Int) 0))
  (k a0 a7 a8)
def yc (rec:T49) (a0:Y5) (a7 a8:Int):Z0 :=
  rec a0 a7 (IntKind.i64.wrap (a8+1))
def wfy (L7:T23) (k:Z0) (a0:Y5) (a7 a8:Int):Z0 :=
  cond (decide (a8<a7))
  ((atI a0 a8).bind fun xq1 =>
  (atI xq1 a8).bind fun xq2 =>
  cond (!xq2)
  (some (false,(())))
  (L7 a0 a8 a7 a8 (a0.length:Int) 0))
  (k)
def zr:Z0 :=
  some (true,(()))
def xaf (L2:T49) (o_0:Y5):Z0 :=
  L2 o_0 (o_0.length:Int) 0
def wv2 (N:Nat) (k:T23):=itN (fun r=>wfx r k) fun _ _ _ _ _ _ _ _ _=>none
def wbu (N:Nat) (rec:T23) (k:T49):=wv2 N (wbv rec) N
def wz0 (N:Nat) (k:T49):=itN (fun r=>wfz (wbu N r k) k) fun _ _ _ _ _ _=>none
def wj6 (N:Nat) (rec:T49) (k:Z0):=wz0 N (yc rec) N
def wzz (N:Nat) (k:Z0):=itN (fun r=>wfy (wj6 N r k) k) fun _ _ _=>none
def wzy (N:Nat):=wzz N (zr) N
def V25 (N:Nat) (o_0:Y5):Z0:=xaf (wzy N) o_0
def S_V25:Sig:=⟨(.pair Q6 .unit),[0],[],.unit,.bool,.i,fun x=>V25 big x.1⟩
def A_V25:Cfg:=mkCfg tab [] [(4,([.as Q6 .i]++dr 6 [B0,B0])),(14,([.as Q6 .i,D0,D0,B0]++dr 3 ([B0,B0]++dr 11 [B0,B0]))),(39,[]),(24,([.as Q6 .i,D0,D0,B0,B0,D0,D0,B0,B0]++dr 11 ([B0,B0]++dr 24 [B0,B0]))),(37,([.as Q6 .i]++dr 6 [B0,B0])),(35,([.as Q6 .i,D0,D0,B0]++dr 3 ([B0,B0]++dr 11 [B0,B0])))]
noncomputable def wc0 (N n:Nat) (K:T8) (a0:Y5) (a7 a8:Int):Z0:=itr A_V25 N 4 Tryz.f125 [1,0,1,0,0] n (([.val Q6 .i a0]++ud 6 [W0 a7,W0 a8])++us 70) K
noncomputable def wc1 (N n:Nat) (K:T8) (a0:Y5) (a3 a7 a8 a20 a21:Int):Z0:=itr A_V25 N 14 Tryz.f125 [1,0,1,0,0,1,1,0,0,1,1,1,0,0] n (([.val Q6 .i a0,.u,.u,W0 a3]++ud 3 ([W0 a7,W0 a8]++ud 11 [W0 a20,W0 a21]))++us 57) K
noncomputable def wfw (N n:Nat) (K:T8) (a0:Y5) (a3 a4 a7 a8 a20 a21 a46 a47:Int):Z0:=itr A_V25 N 24 Tryz.f125 [1,0,1,0,0,1,1,0,0,1,1,1,0,0,1,1,0,0,1,1,1,0,0] n (([.val Q6 .i a0,.u,.u,W0 a3,W0 a4,.u,.u,W0 a7,W0 a8]++ud 11 ([W0 a20,W0 a21]++ud 24 [W0 a46,W0 a47]))++us 31) K
noncomputable def wrf:Ex→St→Z0:=finish A_V25 S_V25 Tryz.f125.results.toList
noncomputable def wrd (kX:T1):Z0:=kX ([]++us 79)
noncomputable def wfu (kX:T1) (kO:T0):=exK wrf 0 (A_V25.shape 39) kX kO
noncomputable def wre (kX:T1) (a0:Y5) (a7 a8:Int):Z0:=kX (([.val Q6 .i a0]++ud 6 [W0 a7,W0 a8])++us 70)
noncomputable def wfv (kX:T1) (kO:T0):=exK wrf 2 (A_V25.shape 37) kX kO
noncomputable def w7d (kX:T1) (a0:Y5) (a3 a7 a8 a20 a21:Int):Z0:=kX (([.val Q6 .i a0,.u,.u,W0 a3]++ud 3 ([W0 a7,W0 a8]++ud 11 [W0 a20,W0 a21]))++us 57)
noncomputable def w7c (kX:T1) (kO:T0):=exK wrf 4 (A_V25.shape 35) kX kO
theorem xae (N kX kO):∀n,wfw N n (w7c kX kO)=wv2 N (w7d kX) n :=
 itE rfl fun m=>by kernel_rfl
noncomputable def wo0 (N m:Nat) (kX:T1) (kO:T0):=(blockK 4 (blockK 3 (sqK A_V25 N 35 500017 Tryz.f125 [1,0,1,0,0,1,1,0,0,1,1,1,0,0,1,1,1] (itK A_V25 N 14 Tryz.f125 [1,0,1,0,0,1,1,0,0,1,1,1,0,0] m (wfv kX kO)))))
noncomputable def w7e (N m:Nat) (kX:T1) (kO:T0) (st':St):Z0:=rn A_V25 N Tryz.f125 [1,0,1,0,0,1,1,0,0,1,1,1,0,0,1,1,1] st' (itK A_V25 N 14 Tryz.f125 [1,0,1,0,0,1,1,0,0,1,1,1,0,0] m (wfv kX kO))
theorem xof (N m kX kO) {r}(h:wc1 N m (wfv kX kO)=r):wfw N N (wo0 N m kX kO)=wbu N r (wre kX):=by
 rw[show wfw N N (wo0 N m kX kO)=wfw N N (w7c (w7e N m kX kO) fun j=>(wo0 N m kX kO) (.exit j)) from(by funext _ _ _ _ _ _ _ _ _;exact jk7),xae,show w7d (w7e N m kX kO)=wbv (wc1 N m (wfv kX kO)) by kernel_rfl,h];rfl
theorem xf7 (N kX kO):∀n,wc1 N n (wfv kX kO)=wz0 N (wre kX) n :=
 itE rfl fun m=>(show _=wfz (wfw N N (wo0 N m kX kO)) (wre kX) by kernel_rfl).trans (by rw[xof N m kX kO rfl]<;>rfl)
noncomputable def wrc (N m:Nat) (kX:T1) (kO:T0):=(blockK 2 (blockK 1 (sqK A_V25 N 37 500018 Tryz.f125 [1,0,1,0,0,1,1,1] (itK A_V25 N 4 Tryz.f125 [1,0,1,0,0] m (wfu kX kO)))))
noncomputable def xf9 (N m:Nat) (kX:T1) (kO:T0) (st':St):Z0:=rn A_V25 N Tryz.f125 [1,0,1,0,0,1,1,1] st' (itK A_V25 N 4 Tryz.f125 [1,0,1,0,0] m (wfu kX kO))
theorem xsj (N m kX kO) {r}(h:wc0 N m (wfu kX kO)=r):wc1 N N (wrc N m kX kO)=wj6 N r (wrd kX):=by
 rw[show wc1 N N (wrc N m kX kO)=wc1 N N (wfv (xf9 N m kX kO) fun j=>(wrc N m kX kO) (.exit j)) from(by funext _ _ _ _ _ _;exact jk7),xf7,show wre (xf9 N m kX kO)=yc (wc0 N m (wfu kX kO)) by kernel_rfl,h];rfl
theorem xf6 (N kX kO):∀n,wc0 N n (wfu kX kO)=wzz N (wrd kX) n :=
 itE rfl fun m=>(show _=wfy (wc1 N N (wrc N m kX kO)) (wrd kX) by kernel_rfl).trans (by rw[xsj N m kX kO rfl]<;>rfl)
noncomputable def wrb (N:Nat):=(blockK 0 (sqK A_V25 N 39 500019 Tryz.f125 [1,1] wrf))
noncomputable def xf8 (N:Nat) (st':St):Z0:=rn A_V25 N Tryz.f125 [1,1] st' wrf
theorem xsi (N):wc0 N N (wrb N)=wzy N:=by
 rw[show wc0 N N (wrb N)=wc0 N N (wfu (xf8 N) fun j=>(wrb N) (.exit j)) from(by funext _ _ _;exact jk7),xf6,show wrd (xf8 N)=zr by kernel_rfl];rfl
theorem run_V25 (N x):runF A_V25 N Tryz.f125 S_V25 x=V25 N x.1:=(show _=(xaf (wc0 N N (wrb N)) x.1) by kernel_rfl).trans (by rw[xsi N];rfl)
theorem ok_V25:OK 125 S_V25:=gdR (A:=A_V25) tc Tryz.func125 (jed trivial) (run_V25 big)
def wf3 (rec:T18) (k:T106) (a4:Int) (a5:Y5) (a6:Int) (a18:Y3) (a19 a20:Int) (a29:Y4) (a30:Int) (a31 a32:Bool) (a34:Y4) (a35 a36:Int):Z12 :=
  cond (decide (a36<a35))
  ((atI a34 a36).bind fun xq6 =>
  (atI a5 xq6).bind fun _ =>
  (a5[xq6.toNat]?).bind fun xq7 =>
  (a5[xq6.toNat]?).bind fun xq8 =>
  (atI xq8 a6).bind fun _ =>
  (a5[xq6.toNat]?).bind fun xq9 =>
  (xq9[a6.toNat]?).bind fun xq10 =>
  rec a4 (a5.set xq6.toNat (xq9.set a6.toNat true)) a6 a18 a19 a20 a29 a30 a31 a32 a34 a35 (IntKind.i64.wrap (a36+1)))
  (k a4 a5 a18 a19 a20 a29 a30 a31 a32)
def wbw (rec:T51) (a4:Int) (a5:Y5) (a18:Y3) (a19 a20:Int) (a29:Y4) (a30:Int) (a31 a32:Bool):Z12 :=
  rec a4 a5 a18 a19 (IntKind.i64.wrap (a20+1))
def wf4 (L11:T18) (k:Y5→Z12) (a4:Int) (a5:Y5) (a18:Y3) (a19 a20:Int):Z12 :=
  cond (decide (a20<a19))
  ((atI a18 a20).bind fun xq2 =>
  (V23 big xq2).bind fun rq3 =>
  cond (!rq3.1)
  (some (([],false,()),(())))
  ((V24 big xq2 a4).bind fun rq4 =>
  cond (!rq4.1)
  (some (([],false,()),(())))
  (L11 a4 a5 a20 a18 a19 a20 xq2 a4 rq4.1 (!rq4.1) xq2 (xq2.length:Int) 0)))
  (k a5)
def zt (a5:Y5):Z12 :=
  (V25 big a5).bind fun rq5 =>
  some ((a5,rq5.1,()),(()))
def wxg (L6:T51) (p_0:Y2):Z12 :=
  cond (decide (10<(p_0.1.length:Int)))
  (some (([],false,()),(())))
  ((V22 big (p_0.1.length:Int)).bind fun rq1 =>
  L6 (p_0.1.length:Int) rq1.1 p_0.1 (p_0.1.length:Int) 0)
def wv3 (N:Nat) (k:T106):=itN (fun r=>wf3 r k) fun _ _ _ _ _ _ _ _ _ _ _ _ _=>none
def wf1 (N:Nat) (rec:T51) (k:Y5→Z12):=wv3 N (wbw rec) N
def wz2 (N:Nat) (k:Y5→Z12):=itN (fun r=>wf4 (wf1 N r k) k) fun _ _ _ _ _=>none
def wz1 (N:Nat):=wz2 N (zt) N
def V26 (N:Nat) (p_0:Y2):Z12:=wxg (wz1 N) p_0
def S_V26:Sig:=⟨Q18,[0],[],.unit,(.tup (.pair Q6 Q16)),(.p O13 .i),fun x=>V26 big x.1⟩
def A_V26:Cfg:=mkCfg tab [(45,S_V22),(65,S_V23),(124,S_V24),(125,S_V25)] [(12,(dr 4 ([B0,B8]++dr 12 [B4,B0,B0]))),(22,(dr 4 ([B0,B8,B0]++dr 11 ([B4,B0,B0]++dr 8 [B2,B0,B5,B5,D0,B2,B0,B0])))),(33,(dr 5 [B8])),(31,(dr 4 ([B0,B8]++dr 12 ([B4,B0,B0]++dr 8 [B2,B0,B5,B5]))))]
noncomputable def wc2 (N n:Nat) (K:Ex→St→Z12) (a4:Int) (a5:Y5) (a18:Y3) (a19 a20:Int):Z12:=itr A_V26 N 12 Tryz.f81 [1,1,1,1,0,1,0,0] n ((ud 4 ([W0 a4,W8 a5]++ud 12 [W4 a18,W0 a19,W0 a20]))++us 30) K
noncomputable def wf2 (N n:Nat) (K:Ex→St→Z12) (a4:Int) (a5:Y5) (a6:Int) (a18:Y3) (a19 a20:Int) (a29:Y4) (a30:Int) (a31 a32:Bool) (a34:Y4) (a35 a36:Int):Z12:=itr A_V26 N 22 Tryz.f81 [1,1,1,1,0,1,0,0,1,1,0,0,1,1,1,0,0] n ((ud 4 ([W0 a4,W8 a5,W0 a6]++ud 11 ([W4 a18,W0 a19,W0 a20]++ud 8 [W2 a29,W0 a30,W5 a31,W5 a32,.u,W2 a34,W0 a35,W0 a36])))++us 14) K
noncomputable def wxh:Ex→St→Z12:=finish A_V26 S_V26 Tryz.f81.results.toList
noncomputable def wrh (kX:St→Z12) (a5:Y5):Z12:=kX ((ud 5 [W8 a5])++us 45)
noncomputable def wf0 (kX:St→Z12) (kO:Nat→St→Z12):=exK wxh 0 (A_V26.shape 33) kX kO
noncomputable def w7g (kX:St→Z12) (a4:Int) (a5:Y5) (a18:Y3) (a19 a20:Int) (a29:Y4) (a30:Int) (a31 a32:Bool):Z12:=kX ((ud 4 ([W0 a4,W8 a5]++ud 12 ([W4 a18,W0 a19,W0 a20]++ud 8 [W2 a29,W0 a30,W5 a31,W5 a32])))++us 18)
noncomputable def w7f (kX:St→Z12) (kO:Nat→St→Z12):=exK wxh 2 (A_V26.shape 31) kX kO
theorem xag (N kX kO):∀n,wf2 N n (w7f kX kO)=wv3 N (w7g kX) n :=
 itE rfl fun m=>by kernel_rfl
noncomputable def wo1 (N m:Nat) (kX:St→Z12) (kO:Nat→St→Z12):=(blockK 2 (blockK 1 (sqK A_V26 N 31 500015 Tryz.f81 [1,1,1,1,0,1,0,0,1,1,1] (itK A_V26 N 12 Tryz.f81 [1,1,1,1,0,1,0,0] m (wf0 kX kO)))))
noncomputable def w7h (N m:Nat) (kX:St→Z12) (kO:Nat→St→Z12) (st':St):Z12:=rn A_V26 N Tryz.f81 [1,1,1,1,0,1,0,0,1,1,1] st' (itK A_V26 N 12 Tryz.f81 [1,1,1,1,0,1,0,0] m (wf0 kX kO))
theorem xog (N m kX kO) {r}(h:wc2 N m (wf0 kX kO)=r):wf2 N N (wo1 N m kX kO)=wf1 N r (wrh kX):=by
 rw[show wf2 N N (wo1 N m kX kO)=wf2 N N (w7f (w7h N m kX kO) fun j=>(wo1 N m kX kO) (.exit j)) from(by funext _ _ _ _ _ _ _ _ _ _ _ _ _;exact jk7),xag,show w7g (w7h N m kX kO)=wbw (wc2 N m (wf0 kX kO)) by kernel_rfl,h];rfl
theorem xga (N kX kO):∀n,wc2 N n (wf0 kX kO)=wz2 N (wrh kX) n :=
 itE rfl fun m=>(show _=wf4 (wf2 N N (wo1 N m kX kO)) (wrh kX) by kernel_rfl).trans (by rw[xog N m kX kO rfl]<;>rfl)
noncomputable def wrg (N:Nat):=(blockK 0 (sqK A_V26 N 33 500016 Tryz.f81 [1,1,1,1,1] wxh))
noncomputable def xgb (N:Nat) (st':St):Z12:=rn A_V26 N Tryz.f81 [1,1,1,1,1] st' wxh
theorem xsl (N):wc2 N N (wrg N)=wz1 N:=by
 rw[show wc2 N N (wrg N)=wc2 N N (wf0 (xgb N) fun j=>(wrg N) (.exit j)) from(by funext _ _ _ _ _;exact jk7),xga,show wrh (xgb N)=zt by kernel_rfl];rfl
theorem run_V26 (N x):runF A_V26 N Tryz.f81 S_V26 x=V26 N x.1:=(show _=(wxg (wc2 N N (wrg N)) x.1) by kernel_rfl).trans (by rw[xsl N];rfl)
theorem ok_V26:OK 81 S_V26:=gdR (A:=A_V26) tc Tryz.func81 (jed ⟨ok_V22,ok_V23,ok_V24,ok_V25,trivial⟩) (run_V26 big)
def wj9 (rec:T32) (k:T129) (a0:Y5) (a1:Y4) (a6:Int) (a7:Bool) (a10:Y4) (a11 a12:Int) (a16:Y4) (a17 a18:Int):Z5 :=
  cond (decide (a18<a17))
  ((atI a16 a18).bind fun xq2 =>
  cond a7
  ((atI a0 xq2).bind fun xq3 =>
  (atI xq3 a6).bind fun xq4 =>
  rec a0 a1 a6 xq4 a10 a11 a12 a16 a17 (IntKind.i64.wrap (a18+1)))
  (rec a0 a1 a6 false a10 a11 a12 a16 a17 (IntKind.i64.wrap (a18+1))))
  (k a0 a1 a6 a7 a10 a11 a12)
def wf6 (rec:T55) (a0:Y5) (a1:Y4) (a6:Int) (a7:Bool) (a10:Y4) (a11 a12:Int):Z5 :=
  cond a7
  (some (a6,(())))
  (rec a0 a1 a10 a11 (IntKind.i64.wrap (a12+1)))
def wf7 (L6:T32) (k:Z5) (a0:Y5) (a1 a10:Y4) (a11 a12:Int):Z5 :=
  cond (decide (a12<a11))
  ((atI a10 a12).bind fun xq1 =>
  L6 a0 a1 xq1 true a10 a11 a12 a1 (a1.length:Int) 0)
  (k)
def zu:Z5 :=
  some ((-1:Int),(()))
def xah (L2:T55) (o_0:Y5) (list_1:Y4):Z5 :=
  L2 o_0 list_1 list_1 (list_1.length:Int) 0
def wz5 (N:Nat) (k:T129):=itN (fun r=>wj9 r k) fun _ _ _ _ _ _ _ _ _ _=>none
def wj7 (N:Nat) (rec:T55) (k:Z5):=wz5 N (wf6 rec) N
def wz4 (N:Nat) (k:Z5):=itN (fun r=>wf7 (wj7 N r k) k) fun _ _ _ _ _=>none
def wz3 (N:Nat):=wz4 N (zu) N
def V27 (N:Nat) (o_0:Y5) (list_1:Y4):Z5:=xah (wz3 N) o_0 list_1
def S_V27:Sig:=⟨(.pair Q6 Q14),[0,0],[],.unit,I,.i,fun x=>V27 big x.1 x.2.1⟩
def A_V27:Cfg:=mkCfg tab [] [(4,([.as Q6 .i,B2]++dr 8 [B2,B0,B0])),(12,([.as Q6 .i,B2]++dr 4 ([B0,B5,D0,D0,B2,B0,B0]++dr 3 [B2,B0,B0]))),(27,[]),(21,([.as Q6 .i,B2]++dr 4 [B0,B5,D0,D0,B2,B0,B0]))]
noncomputable def wc3 (N n:Nat) (K:T87) (a0:Y5) (a1 a10:Y4) (a11 a12:Int):Z5:=itr A_V27 N 4 Tryz.f126 [1,0,1,0,0] n (([.val Q6 .i a0,W2 a1]++ud 8 [W2 a10,W0 a11,W0 a12])++us 23) K
noncomputable def wj8 (N n:Nat) (K:T87) (a0:Y5) (a1:Y4) (a6:Int) (a7:Bool) (a10:Y4) (a11 a12:Int) (a16:Y4) (a17 a18:Int):Z5:=itr A_V27 N 12 Tryz.f126 [1,0,1,0,0,1,1,0,0,1,1,0,1,0,0] n (([.val Q6 .i a0,W2 a1]++ud 4 ([W0 a6,W5 a7,.u,.u,W2 a10,W0 a11,W0 a12]++ud 3 [W2 a16,W0 a17,W0 a18]))++us 17) K
noncomputable def wxi:Ex→St→Z5:=finish A_V27 S_V27 Tryz.f126.results.toList
noncomputable def wrk (kX:T56):Z5:=kX ([]++us 36)
noncomputable def wf5 (kX:T56) (kO:T47):=exK wxi 0 (A_V27.shape 27) kX kO
noncomputable def xgd (kX:T56) (a0:Y5) (a1:Y4) (a6:Int) (a7:Bool) (a10:Y4) (a11 a12:Int):Z5:=kX (([.val Q6 .i a0,W2 a1]++ud 4 [W0 a6,W5 a7,.u,.u,W2 a10,W0 a11,W0 a12])++us 23)
noncomputable def xgc (kX:T56) (kO:T47):=exK wxi 2 (A_V27.shape 21) kX kO
theorem xgf (N kX kO):∀n,wj8 N n (xgc kX kO)=wz5 N (xgd kX) n :=
 itE rfl fun m=>by kernel_rfl
noncomputable def wrj (N m:Nat) (kX:T56) (kO:T47):=(blockK 2 (sqK A_V27 N 21 500010 Tryz.f126 [1,0,1,0,0,1,1,0,0,1,1,1] (blockK 1 (sqK A_V27 N 25 500012 Tryz.f126 [1,0,1,0,0,1,1,1] (itK A_V27 N 4 Tryz.f126 [1,0,1,0,0] m (wf5 kX kO))))))
noncomputable def xgh (N m:Nat) (kX:T56) (kO:T47) (st':St):Z5:=rn A_V27 N Tryz.f126 [1,0,1,0,0,1,1,0,0,1,1,1] st' (blockK 1 (sqK A_V27 N 25 500012 Tryz.f126 [1,0,1,0,0,1,1,1] (itK A_V27 N 4 Tryz.f126 [1,0,1,0,0] m (wf5 kX kO))))
theorem xsn (N m kX kO) {r}(h:wc3 N m (wf5 kX kO)=r):wj8 N N (wrj N m kX kO)=wj7 N r (wrk kX):=by
 rw[show wj8 N N (wrj N m kX kO)=wj8 N N (xgc (xgh N m kX kO) fun j=>(wrj N m kX kO) (.exit j)) from(by funext _ _ _ _ _ _ _ _ _ _;exact jk7),xgf,show xgd (xgh N m kX kO)=wf6 (wc3 N m (wf5 kX kO)) by kernel_rfl,h];rfl
theorem xge (N kX kO):∀n,wc3 N n (wf5 kX kO)=wz4 N (wrk kX) n :=
 itE rfl fun m=>(show _=wf7 (wj8 N N (wrj N m kX kO)) (wrk kX) by kernel_rfl).trans (by rw[xsn N m kX kO rfl]<;>rfl)
noncomputable def wri (N:Nat):=(blockK 0 (sqK A_V27 N 27 500013 Tryz.f126 [1,1] wxi))
noncomputable def xgg (N:Nat) (st':St):Z5:=rn A_V27 N Tryz.f126 [1,1] st' wxi
theorem xsm (N):wc3 N N (wri N)=wz3 N:=by
 rw[show wc3 N N (wri N)=wc3 N N (wf5 (xgg N) fun j=>(wri N) (.exit j)) from(by funext _ _ _ _ _;exact jk7),xge,show wrk (xgg N)=zu by kernel_rfl];rfl
theorem run_V27 (N x):runF A_V27 N Tryz.f126 S_V27 x=V27 N x.1 x.2.1:=(show _=(xah (wc3 N N (wri N)) x.1 x.2.1) by kernel_rfl).trans (by rw[xsm N];rfl)
theorem ok_V27:OK 126 S_V27:=gdR (A:=A_V27) tc Tryz.func126 (jed trivial) (run_V27 big)
def xpt (z_0:Int) (p_1:Y5) (p_2 p_3:Int):Z0 :=
  (atI p_1 z_0).bind fun xq1 =>
  (atI xq1 p_2).bind fun xq2 =>
  cond xq2
  ((atI p_1 z_0).bind fun xq3 =>
  (atI xq3 p_3).bind fun xq4 =>
  some (xq4,(())))
  (some (false,(())))
def V28 (z_0:Int) (p_1:Y5) (p_2 p_3:Int):Z0:=xpt z_0 p_1 p_2 p_3
def S_V28:Sig:=⟨(.pair I Q19),[0,0,0,0],[],.unit,.bool,.i,fun x=>V28 x.1 x.2.1 x.2.2.1 x.2.2.2.1⟩
def A_V28:Cfg:=mkCfg tab [] []
theorem run_V28 (N x):runF A_V28 N Tryz.f127 S_V28 x=V28 x.1 x.2.1 x.2.2.1 x.2.2.2.1:=by kernel_rfl
theorem ok_V28:OK 127 S_V28:=gdR (A:=A_V28) tc Tryz.func127 (jed trivial) (run_V28 big)
def wkb (rec:T95) (k:T14) (a1:(Y5×Z1)) (a5:Y4) (a9 a10:Int):Z2 :=
  cond (decide (a10<a9))
  ((V28 a10 a1.1 a1.2.1 a1.2.2.1).bind fun rq1 =>
  cond rq1.1
  ((appI a5 [a10]).bind fun xq2 =>
  rec a1 xq2 a9 (IntKind.i64.wrap (a10+1)))
  (rec a1 a5 a9 (IntKind.i64.wrap (a10+1))))
  (k a5)
def wf8 (a5:Y4):Z2 :=
  some (a5,(()))
def xai (L3:T95) (o_0:Y5) (so_1:(Y5×Z1)):Z2 :=
  L3 so_1 [] (o_0.length:Int) 0
def wz7 (N:Nat) (k:T14):=itN (fun r=>wkb r k) fun _ _ _ _=>none
def wz6 (N:Nat):=wz7 N (wf8) N
def V29 (N:Nat) (o_0:Y5) (so_1:(Y5×Z1)):Z2:=xai (wz6 N) o_0 so_1
def S_V29:Sig:=⟨(.pair Q6 (.pair (.clo 127 0 Q19) .unit)),[0,0],[],.unit,Q3,O2,fun x=>V29 big x.1 x.2.1⟩
def A_V29:Cfg:=mkCfg tab [(127,S_V28)] [(6,([D0,.as (.clo 127 0 Q19) .i]++dr 3 ([B1]++dr 3 [B0,B0]))),(17,(dr 5 [B1]))]
noncomputable def wka (N n:Nat) (K:T13) (a1:(Y5×Z1)) (a5:Y4) (a9 a10:Int):Z2:=itr A_V29 N 6 Tryz.f60 [1,1,0,1,0,0] n (([.u,.val (.clo 127 0 Q19) .i a1]++ud 3 ([W1 a5]++ud 3 [W0 a9,W0 a10]))++us 11) K
noncomputable def xaj:Ex→St→Z2:=finish A_V29 S_V29 Tryz.f60.results.toList
noncomputable def xgj (kX:T4) (a5:Y4):Z2:=kX ((ud 5 [W1 a5])++us 16)
noncomputable def xgi (kX:T4) (kO:T3):=exK xaj 0 (A_V29.shape 17) kX kO
theorem xgk (N kX kO):∀n,wka N n (xgi kX kO)=wz7 N (xgj kX) n :=
 itE rfl fun m=>by kernel_rfl
noncomputable def wrl (N:Nat):=(blockK 0 (sqK A_V29 N 17 500008 Tryz.f60 [1,1,1] xaj))
noncomputable def xgl (N:Nat) (st':St):Z2:=rn A_V29 N Tryz.f60 [1,1,1] st' xaj
theorem xso (N):wka N N (wrl N)=wz6 N:=by
 rw[show wka N N (wrl N)=wka N N (xgi (xgl N) fun j=>(wrl N) (.exit j)) from(by funext _ _ _ _;exact jk7),xgk,show xgj (xgl N)=wf8 by kernel_rfl];rfl
theorem run_V29 (N x):runF A_V29 N Tryz.f60 S_V29 x=V29 N x.1 x.2.1:=(show _=(xai (wka N N (wrl N)) x.1 x.2.1) by kernel_rfl).trans (by rw[xso N];rfl)
theorem ok_V29:OK 60 S_V29:=gdR (A:=A_V29) tc Tryz.func60 (jed ⟨ok_V28,trivial⟩) (run_V29 big)
def wke (rec:T48) (k:Y5→Y3→Y4→Int→Int→Z3) (a1:Y5) (a4:Y3) (a5:Int) (a6:Y4) (a11 a12 a17 a18:Int):Z3 :=
  cond (decide (a18<a17))
  ((V29 big a1 (a1,a5,a18,())).bind fun rq1 =>
  (V27 big a1 rq1.1).bind fun rq2 =>
  cond (decide (rq2.1<0))
  (some (([],false,()),(())))
  ((appI a6 [rq2.1]).bind fun xq3 =>
  rec a1 a4 a5 xq3 a11 a12 a17 (IntKind.i64.wrap (a18+1))))
  (k a1 a4 a6 a11 a12)
def wga (rec:T73) (a1:Y5) (a4:Y3) (a6:Y4) (a11 a12:Int):Z3 :=
  (appI a4 [a6]).bind fun xq4 =>
  rec a1 xq4 a11 (IntKind.i64.wrap (a12+1))
def wgb (L7:T48) (k:Y3→Z3) (a1:Y5) (a4:Y3) (a11 a12:Int):Z3 :=
  cond (decide (a12<a11))
  (L7 a1 a4 a12 [] a11 a12 (a1.length:Int) 0)
  (k a4)
def zv (a4:Y3):Z3 :=
  some ((a4,true,()),(()))
def xak (L3:T73) (o_0:Y5):Z3 :=
  L3 o_0 [] (o_0.length:Int) 0
def w0a (N:Nat) (k:Y5→Y3→Y4→Int→Int→Z3):=itN (fun r=>wke r k) fun _ _ _ _ _ _ _ _=>none
def wkc (N:Nat) (rec:T73) (k:Y3→Z3):=w0a N (wga rec) N
def wz9 (N:Nat) (k:Y3→Z3):=itN (fun r=>wgb (wkc N r k) k) fun _ _ _ _=>none
def wz8 (N:Nat):=wz9 N (zv) N
def V30 (N:Nat) (o_0:Y5):Z3:=xak (wz8 N) o_0
def S_V30:Sig:=⟨(.pair Q6 .unit),[0],[],.unit,Q21,(.p O13 .i),fun x=>V30 big x.1⟩
def A_V30:Cfg:=mkCfg tab [(60,S_V29),(126,S_V27)] [(6,([D0,.as (.ptr Q6) .i,D0,D0,B7]++dr 6 [B0,B0])),(14,([D0,.as (.ptr Q6) .i,D0,D0,B7,.as (.ptr I) .i,B1]++dr 4 ([B0,B0]++dr 4 [B0,B0]))),(33,(dr 4 [B7])),(19,([D0,.as (.ptr Q6) .i,D0,D0,B7,.as (.ptr I) .i,B1,.as (.ptr I) .i]++dr 3 ([B0,B0]++dr 4 [B0,B0]))),(29,([D0,.as (.ptr Q6) .i,D0,D0,B7,D0,B1]++dr 4 [B0,B0]))]
noncomputable def wc4 (N n:Nat) (K:T130) (a1:Y5) (a4:Y3) (a11 a12:Int):Z3:=itr A_V30 N 6 Tryz.f82 [1,1,0,1,0,0] n (([.u,.val (.ptr Q6) .i a1,.u,.u,W7 a4]++ud 6 [W0 a11,W0 a12])++us 26) K
noncomputable def wkd (N n:Nat) (K:T130) (a1:Y5) (a4:Y3) (a5:Int) (a6:Y4) (a11 a12 a17 a18:Int):Z3:=itr A_V30 N 14 Tryz.f82 [1,1,0,1,0,0,1,1,0,0,1,1,0,1,0,0] n (([.u,.val (.ptr Q6) .i a1,.u,.u,W7 a4,.val (.ptr I) .i a5,W1 a6]++ud 4 ([W0 a11,W0 a12]++ud 4 [W0 a17,W0 a18]))++us 20) K
noncomputable def wxj:Ex→St→Z3:=finish A_V30 S_V30 Tryz.f82.results.toList
noncomputable def wro (kX:T86) (a4:Y3):Z3:=kX ((ud 4 [W7 a4])++us 34)
noncomputable def wf9 (kX:T86) (kO:T61):=exK wxj 0 (A_V30.shape 33) kX kO
noncomputable def xgn (kX:T86) (a1:Y5) (a4:Y3) (a6:Y4) (a11 a12:Int):Z3:=kX (([.u,.val (.ptr Q6) .i a1,.u,.u,W7 a4,.u,W1 a6]++ud 4 [W0 a11,W0 a12])++us 26)
noncomputable def xgm (kX:T86) (kO:T61):=exK wxj 2 (A_V30.shape 29) kX kO
theorem xgp (N kX kO):∀n,wkd N n (xgm kX kO)=w0a N (xgn kX) n :=
 itE rfl fun m=>by kernel_rfl
noncomputable def wrn (N m:Nat) (kX:T86) (kO:T61):=(blockK 2 (sqK A_V30 N 29 500014 Tryz.f82 [1,1,0,1,0,0,1,1,0,0,1,1,1] (blockK 1 (sqK A_V30 N 31 500015 Tryz.f82 [1,1,0,1,0,0,1,1,1] (itK A_V30 N 6 Tryz.f82 [1,1,0,1,0,0] m (wf9 kX kO))))))
noncomputable def xgr (N m:Nat) (kX:T86) (kO:T61) (st':St):Z3:=rn A_V30 N Tryz.f82 [1,1,0,1,0,0,1,1,0,0,1,1,1] st' (blockK 1 (sqK A_V30 N 31 500015 Tryz.f82 [1,1,0,1,0,0,1,1,1] (itK A_V30 N 6 Tryz.f82 [1,1,0,1,0,0] m (wf9 kX kO))))
theorem xsq (N m kX kO) {r}(h:wc4 N m (wf9 kX kO)=r):wkd N N (wrn N m kX kO)=wkc N r (wro kX):=by
 rw[show wkd N N (wrn N m kX kO)=wkd N N (xgm (xgr N m kX kO) fun j=>(wrn N m kX kO) (.exit j)) from(by funext _ _ _ _ _ _ _ _;exact jk7),xgp,show xgn (xgr N m kX kO)=wga (wc4 N m (wf9 kX kO)) by kernel_rfl,h];rfl
theorem xgo (N kX kO):∀n,wc4 N n (wf9 kX kO)=wz9 N (wro kX) n :=
 itE rfl fun m=>(show _=wgb (wkd N N (wrn N m kX kO)) (wro kX) by kernel_rfl).trans (by rw[xsq N m kX kO rfl]<;>rfl)
noncomputable def wrm (N:Nat):=(blockK 0 (sqK A_V30 N 33 500016 Tryz.f82 [1,1,1] wxj))
noncomputable def xgq (N:Nat) (st':St):Z3:=rn A_V30 N Tryz.f82 [1,1,1] st' wxj
theorem xsp (N):wc4 N N (wrm N)=wz8 N:=by
 rw[show wc4 N N (wrm N)=wc4 N N (wf9 (xgq N) fun j=>(wrm N) (.exit j)) from(by funext _ _ _ _;exact jk7),xgo,show wro (xgq N)=zv by kernel_rfl];rfl
theorem run_V30 (N x):runF A_V30 N Tryz.f82 S_V30 x=V30 N x.1:=(show _=(xak (wc4 N N (wrm N)) x.1) by kernel_rfl).trans (by rw[xsp N];rfl)
theorem ok_V30:OK 82 S_V30:=gdR (A:=A_V30) tc Tryz.func82 (jed ⟨ok_V29,ok_V27,trivial⟩) (run_V30 big)
def wkh (rec:T58) (k:T42) (a0 a3:Y5) (a4 a10 a11 a15 a16:Int):Z14 :=
  cond (decide (a16<a15))
  ((atI a3 a4).bind fun _ =>
  (a3[a4.toNat]?).bind fun xq2 =>
  (atI a0 a16).bind fun xq3 =>
  (atI xq3 a4).bind fun xq4 =>
  (a3[a4.toNat]?).bind fun xq5 =>
  (atI xq5 a16).bind fun _ =>
  (a3[a4.toNat]?).bind fun xq6 =>
  (xq6[a16.toNat]?).bind fun xq7 =>
  rec a0 (a3.set a4.toNat (xq6.set a16.toNat xq4)) a4 a10 a11 a15 (IntKind.i64.wrap (a16+1)))
  (k a0 a3 a10 a11)
def wgd (rec:T42) (a0 a3:Y5) (a10 a11:Int):Z14 :=
  rec a0 a3 a10 (IntKind.i64.wrap (a11+1))
def wge (L6:T58) (k:Y5→Z14) (a0 a3:Y5) (a10 a11:Int):Z14 :=
  cond (decide (a11<a10))
  (L6 a0 a3 a11 a10 a11 (a0.length:Int) 0)
  (k a3)
def zw (a3:Y5):Z14 :=
  some (a3,(()))
def xal (L3:T42) (o_0:Y5):Z14 :=
  (V22 big (o_0.length:Int)).bind fun rq1 =>
  L3 o_0 rq1.1 (o_0.length:Int) 0
def w0d (N:Nat) (k:T42):=itN (fun r=>wkh r k) fun _ _ _ _ _ _ _=>none
def wkf (N:Nat) (rec:T42) (k:Y5→Z14):=w0d N (wgd rec) N
def w0c (N:Nat) (k:Y5→Z14):=itN (fun r=>wge (wkf N r k) k) fun _ _ _ _=>none
def w0b (N:Nat):=w0c N (zw) N
def V31 (N:Nat) (o_0:Y5):Z14:=xal (w0b N) o_0
def S_V31:Sig:=⟨(.pair Q6 .unit),[0],[],.unit,Q6,O13,fun x=>V31 big x.1⟩
def A_V31:Cfg:=mkCfg tab [(45,S_V22)] [(6,([.as Q6 .i,D0,D0,B8]++dr 6 [B0,B0])),(12,([.as Q6 .i,D0,D0,B8,B0]++dr 5 ([B0,B0]++dr 3 [B0,B0]))),(23,(dr 3 [B8])),(21,([.as Q6 .i,D0,D0,B8]++dr 6 [B0,B0]))]
noncomputable def wc5 (N n:Nat) (K:Ex→St→Z14) (a0 a3:Y5) (a10 a11:Int):Z14:=itr A_V31 N 6 Tryz.f83 [1,1,0,1,0,0] n (([.val Q6 .i a0,.u,.u,W8 a3]++ud 6 [W0 a10,W0 a11])++us 23) K
noncomputable def wkg (N n:Nat) (K:Ex→St→Z14) (a0 a3:Y5) (a4 a10 a11 a15 a16:Int):Z14:=itr A_V31 N 12 Tryz.f83 [1,1,0,1,0,0,1,1,0,0,1,1,0,0] n (([.val Q6 .i a0,.u,.u,W8 a3,W0 a4]++ud 5 ([W0 a10,W0 a11]++ud 3 [W0 a15,W0 a16]))++us 18) K
noncomputable def wxk:Ex→St→Z14:=finish A_V31 S_V31 Tryz.f83.results.toList
noncomputable def wrr (kX:St→Z14) (a3:Y5):Z14:=kX ((ud 3 [W8 a3])++us 31)
noncomputable def wgc (kX:St→Z14) (kO:T145):=exK wxk 0 (A_V31.shape 23) kX kO
noncomputable def xgt (kX:St→Z14) (a0 a3:Y5) (a10 a11:Int):Z14:=kX (([.val Q6 .i a0,.u,.u,W8 a3]++ud 6 [W0 a10,W0 a11])++us 23)
noncomputable def xgs (kX:St→Z14) (kO:T145):=exK wxk 2 (A_V31.shape 21) kX kO
theorem xgv (N kX kO):∀n,wkg N n (xgs kX kO)=w0d N (xgt kX) n :=
 itE rfl fun m=>by kernel_rfl
noncomputable def wrq (N m:Nat) (kX:St→Z14) (kO:T145):=(blockK 2 (blockK 1 (sqK A_V31 N 21 500010 Tryz.f83 [1,1,0,1,0,0,1,1,1] (itK A_V31 N 6 Tryz.f83 [1,1,0,1,0,0] m (wgc kX kO)))))
noncomputable def xgx (N m:Nat) (kX:St→Z14) (kO:T145) (st':St):Z14:=rn A_V31 N Tryz.f83 [1,1,0,1,0,0,1,1,1] st' (itK A_V31 N 6 Tryz.f83 [1,1,0,1,0,0] m (wgc kX kO))
theorem xss (N m kX kO) {r}(h:wc5 N m (wgc kX kO)=r):wkg N N (wrq N m kX kO)=wkf N r (wrr kX):=by
 rw[show wkg N N (wrq N m kX kO)=wkg N N (xgs (xgx N m kX kO) fun j=>(wrq N m kX kO) (.exit j)) from(by funext _ _ _ _ _ _ _;exact jk7),xgv,show xgt (xgx N m kX kO)=wgd (wc5 N m (wgc kX kO)) by kernel_rfl,h];rfl
theorem xgu (N kX kO):∀n,wc5 N n (wgc kX kO)=w0c N (wrr kX) n :=
 itE rfl fun m=>(show _=wge (wkg N N (wrq N m kX kO)) (wrr kX) by kernel_rfl).trans (by rw[xss N m kX kO rfl]<;>rfl)
noncomputable def wrp (N:Nat):=(blockK 0 (sqK A_V31 N 23 500011 Tryz.f83 [1,1,1] wxk))
noncomputable def xgw (N:Nat) (st':St):Z14:=rn A_V31 N Tryz.f83 [1,1,1] st' wxk
theorem xsr (N):wc5 N N (wrp N)=w0b N:=by
 rw[show wc5 N N (wrp N)=wc5 N N (wgc (xgw N) fun j=>(wrp N) (.exit j)) from(by funext _ _ _ _;exact jk7),xgu,show wrr (xgw N)=zw by kernel_rfl];rfl
theorem run_V31 (N x):runF A_V31 N Tryz.f83 S_V31 x=V31 N x.1:=(show _=(xal (wc5 N N (wrp N)) x.1) by kernel_rfl).trans (by rw[xsr N];rfl)
theorem ok_V31:OK 83 S_V31:=gdR (A:=A_V31) tc Tryz.func83 (jed ⟨ok_V22,trivial⟩) (run_V31 big)
def wxl (p_0:Y2):Option ((Y1×(Bool×Unit))×Unit) :=
  (V26 big p_0).bind fun rq1 =>
  cond (!((((),rq1.1.2).2).1))
  (some ((none,false,()),(())))
  (cond (decide ((rq1.1.1.length:Int)=0))
  (some ((none,false,()),(())))
  ((V30 big rq1.1.1).bind fun rq2 =>
  (V31 big rq1.1.1).bind fun rq3 =>
  (V30 big rq3.1).bind fun rq4 =>
  cond ((((),rq2.1.2).2).1)
  (some ((some (rq1.1.1,(rq2.1.1,(rq4.1.1,()))),(((),rq4.1.2).2).1,()),(())))
  (some ((some (rq1.1.1,(rq2.1.1,(rq4.1.1,()))),false,()),(())))))
def V32 (p_0:Y2):Option ((Y1×(Bool×Unit))×Unit):=wxl p_0
def S_V32:Sig:=⟨Q18,[0],[],.unit,(.tup (.pair Q10 Q16)),.i,fun x=>V32 x.1⟩
def A_V32:Cfg:=mkCfg tab [(81,S_V26),(82,S_V30),(83,S_V31)] []
theorem run_V32 (N x):runF A_V32 N Tryz.f47 S_V32 x=V32 x.1:=by kernel_rfl
theorem ok_V32:OK 47 S_V32:=gdR (A:=A_V32) tc Tryz.func47 (jed ⟨ok_V26,ok_V30,ok_V31,trivial⟩) (run_V32 big)
def xpu (p_0:Y2):Option ((Y1×(Bool×Unit))×Unit) :=
  (V32 p_0).bind fun rq1 =>
  cond rq1.1.2.1
  ((rq1.1.1).bind fun xq2 =>
  some ((rq1.1.1,decide ((xq2.1.length:Int)≤8),()),(())))
  (some ((rq1.1.1,false,()),(())))
def V33 (p_0:Y2):Option ((Y1×(Bool×Unit))×Unit):=xpu p_0
def S_V33:Sig:=⟨Q18,[0],[],.unit,(.tup (.pair Q10 Q16)),.i,fun x=>V33 x.1⟩
def A_V33:Cfg:=mkCfg tab [(47,S_V32)] []
theorem run_V33 (N x):runF A_V33 N Tryz.f28 S_V33 x=V33 x.1:=by kernel_rfl
theorem ok_V33:OK 28 S_V33:=gdR (A:=A_V33) tc Tryz.func28 (jed ⟨ok_V32,trivial⟩) (run_V33 big)
def xpv (o_0:Y5) (x_1 y_2:Int):Z0 :=
  cond (decide (x_1≠y_2))
  ((atI o_0 x_1).bind fun xq1 =>
  (atI xq1 y_2).bind fun xq2 =>
  some (xq2,(())))
  (some (false,(())))
def V34 (o_0:Y5) (x_1 y_2:Int):Z0:=xpv o_0 x_1 y_2
def S_V34:Sig:=⟨(.pair Q6 Q22),[0,0,0],[],.unit,.bool,.i,fun x=>V34 x.1 x.2.1 x.2.2.1⟩
def A_V34:Cfg:=mkCfg tab [] []
theorem run_V34 (N x):runF A_V34 N Tryz.f141 S_V34 x=V34 x.1 x.2.1 x.2.2.1:=by kernel_rfl
theorem ok_V34:OK 141 S_V34:=gdR (A:=A_V34) tc Tryz.func141 (jed trivial) (run_V34 big)
def wkj (rec:T91) (k:Z0) (a0:Y5) (a1 a2 a14 a15:Int):Z0 :=
  cond (decide (a15<a14))
  ((V34 a0 a1 a15).bind fun rq2 =>
  cond rq2.1
  ((V34 a0 a15 a2).bind fun rq3 =>
  cond rq3.1
  (some (false,(())))
  (rec a0 a1 a2 a14 (IntKind.i64.wrap (a15+1))))
  (rec a0 a1 a2 a14 (IntKind.i64.wrap (a15+1))))
  (k)
def wgf:Z0 :=
  some (true,(()))
def xam (L4:T91) (o_0:Y5) (x_1 y_2:Int):Z0 :=
  (V34 o_0 x_1 y_2).bind fun rq1 =>
  cond (!rq1.1)
  (some (false,(())))
  (L4 o_0 x_1 y_2 (o_0.length:Int) 0)
def w0f (N:Nat) (k:Z0):=itN (fun r=>wkj r k) fun _ _ _ _ _=>none
def w0e (N:Nat):=w0f N (wgf) N
def V35 (N:Nat) (o_0:Y5) (x_1 y_2:Int):Z0:=xam (w0e N) o_0 x_1 y_2
def S_V35:Sig:=⟨(.pair Q6 Q22),[0,0,0],[],.unit,.bool,.i,fun x=>V35 big x.1 x.2.1 x.2.2.1⟩
def A_V35:Cfg:=mkCfg tab [(141,S_V34)] [(8,([.as Q6 .i,B0,B0]++dr 11 [B0,B0])),(19,[])]
noncomputable def wki (N n:Nat) (K:T8) (a0:Y5) (a1 a2 a14 a15:Int):Z0:=itr A_V35 N 8 Tryz.f108 [1,1,0,1,0,0] n (([.val Q6 .i a0,W0 a1,W0 a2]++ud 11 [W0 a14,W0 a15])++us 13) K
noncomputable def xan:Ex→St→Z0:=finish A_V35 S_V35 Tryz.f108.results.toList
noncomputable def xgz (kX:T1):Z0:=kX ([]++us 29)
noncomputable def xgy (kX:T1) (kO:T0):=exK xan 0 (A_V35.shape 19) kX kO
theorem xg0 (N kX kO):∀n,wki N n (xgy kX kO)=w0f N (xgz kX) n :=
 itE rfl fun m=>by kernel_rfl
noncomputable def wrs (N:Nat):=(blockK 0 (sqK A_V35 N 19 500009 Tryz.f108 [1,1,1] xan))
noncomputable def xg1 (N:Nat) (st':St):Z0:=rn A_V35 N Tryz.f108 [1,1,1] st' xan
theorem xst (N):wki N N (wrs N)=w0e N:=by
 rw[show wki N N (wrs N)=wki N N (xgy (xg1 N) fun j=>(wrs N) (.exit j)) from(by funext _ _ _ _ _;exact jk7),xg0,show xgz (xg1 N)=wgf by kernel_rfl];rfl
theorem run_V35 (N x):runF A_V35 N Tryz.f108 S_V35 x=V35 N x.1 x.2.1 x.2.2.1:=(show _=(xam (wki N N (wrs N)) x.1 x.2.1 x.2.2.1) by kernel_rfl).trans (by rw[xst N];rfl)
theorem ok_V35:OK 108 S_V35:=gdR (A:=A_V35) tc Tryz.func108 (jed ⟨ok_V34,trivial⟩) (run_V35 big)
def xpw (y_0:Int) (p_1:Y5) (p_2:Int):Z0 :=
  (V35 big p_1 y_0 p_2).bind fun rq1 =>
  some (rq1.1,(()))
def V36 (y_0:Int) (p_1:Y5) (p_2:Int):Z0:=xpw y_0 p_1 p_2
def S_V36:Sig:=⟨(.pair I (.pair (.ptr Q6) (.pair (.ptr I) .unit))),[0,0,0],[],.unit,.bool,.i,fun x=>V36 x.1 x.2.1 x.2.2.1⟩
def A_V36:Cfg:=mkCfg tab [(108,S_V35)] []
theorem run_V36 (N x):runF A_V36 N Tryz.f107 S_V36 x=V36 x.1 x.2.1 x.2.2.1:=by kernel_rfl
theorem ok_V36:OK 107 S_V36:=gdR (A:=A_V36) tc Tryz.func107 (jed ⟨ok_V35,trivial⟩) (run_V36 big)
def wkl (rec:(Y5×(Int×Unit))→Y4→Int→Int→Z2) (k:T14) (a1:(Y5×(Int×Unit))) (a5:Y4) (a9 a10:Int):Z2 :=
  cond (decide (a10<a9))
  ((V36 a10 a1.1 a1.2.1).bind fun rq1 =>
  cond rq1.1
  ((appI a5 [a10]).bind fun xq2 =>
  rec a1 xq2 a9 (IntKind.i64.wrap (a10+1)))
  (rec a1 a5 a9 (IntKind.i64.wrap (a10+1))))
  (k a5)
def wgg (a5:Y4):Z2 :=
  some (a5,(()))
def xao (L3:(Y5×(Int×Unit))→Y4→Int→Int→Z2) (o_0:Y5) (so_1:(Y5×(Int×Unit))):Z2 :=
  L3 so_1 [] (o_0.length:Int) 0
def w0h (N:Nat) (k:T14):=itN (fun r=>wkl r k) fun _ _ _ _=>none
def w0g (N:Nat):=w0h N (wgg) N
def V37 (N:Nat) (o_0:Y5) (so_1:(Y5×(Int×Unit))):Z2:=xao (w0g N) o_0 so_1
def S_V37:Sig:=⟨(.pair Q6 (.pair (.clo 107 0 (.pair (.ptr Q6) (.pair (.ptr I) .unit))) .unit)),[0,0],[],.unit,Q3,O2,fun x=>V37 big x.1 x.2.1⟩
def A_V37:Cfg:=mkCfg tab [(107,S_V36)] [(6,([D0,.as (.clo 107 0 (.pair (.ptr Q6) (.pair (.ptr I) .unit))) .i]++dr 3 ([B1]++dr 3 [B0,B0]))),(17,(dr 5 [B1]))]
noncomputable def wkk (N n:Nat) (K:T13) (a1:(Y5×(Int×Unit))) (a5:Y4) (a9 a10:Int):Z2:=itr A_V37 N 6 Tryz.f60 [1,1,0,1,0,0] n (([.u,.val (.clo 107 0 (.pair (.ptr Q6) (.pair (.ptr I) .unit))) .i a1]++ud 3 ([W1 a5]++ud 3 [W0 a9,W0 a10]))++us 11) K
noncomputable def xap:Ex→St→Z2:=finish A_V37 S_V37 Tryz.f60.results.toList
noncomputable def xg3 (kX:T4) (a5:Y4):Z2:=kX ((ud 5 [W1 a5])++us 16)
noncomputable def xg2 (kX:T4) (kO:T3):=exK xap 0 (A_V37.shape 17) kX kO
theorem xg4 (N kX kO):∀n,wkk N n (xg2 kX kO)=w0h N (xg3 kX) n :=
 itE rfl fun m=>by kernel_rfl
noncomputable def wrt (N:Nat):=(blockK 0 (sqK A_V37 N 17 500008 Tryz.f60 [1,1,1] xap))
noncomputable def xg5 (N:Nat) (st':St):Z2:=rn A_V37 N Tryz.f60 [1,1,1] st' xap
theorem xsu (N):wkk N N (wrt N)=w0g N:=by
 rw[show wkk N N (wrt N)=wkk N N (xg2 (xg5 N) fun j=>(wrt N) (.exit j)) from(by funext _ _ _ _;exact jk7),xg4,show xg3 (xg5 N)=wgg by kernel_rfl];rfl
theorem run_V37 (N x):runF A_V37 N Tryz.f60 S_V37 x=V37 N x.1 x.2.1:=(show _=(xao (wkk N N (wrt N)) x.1 x.2.1) by kernel_rfl).trans (by rw[xsu N];rfl)
theorem ok_V37:OK 60 S_V37:=gdR (A:=A_V37) tc Tryz.func60 (jed ⟨ok_V36,trivial⟩) (run_V37 big)
def xpx (o_0:Y5) (x_1:Int):Z2 :=
  (V37 big o_0 (o_0,x_1,())).bind fun rq1 =>
  some (rq1.1,(()))
def V38 (o_0:Y5) (x_1:Int):Z2:=xpx o_0 x_1
def S_V38:Sig:=⟨(.pair Q6 Q15),[0,0],[],.unit,Q3,O2,fun x=>V38 x.1 x.2.1⟩
def A_V38:Cfg:=mkCfg tab [(60,S_V37)] [(3,[D0,D0,.as (.ptr Q6) .i,.as (.ptr I) .i])]
theorem run_V38 (N x):runF A_V38 N Tryz.f62 S_V38 x=V38 x.1 x.2.1:=by kernel_rfl
theorem ok_V38:OK 62 S_V38:=gdR (A:=A_V38) tc Tryz.func62 (jed ⟨ok_V37,trivial⟩) (run_V38 big)
def xpy (x_0:Int) (p_1:Y1):Z0 :=
  (p_1).bind fun xq1 =>
  (V38 xq1.1 x_0).bind fun rq2 =>
  some (decide ((rq2.1.length:Int)=1),(()))
def V39 (x_0:Int) (p_1:Y1):Z0:=xpy x_0 p_1
def S_V39:Sig:=⟨(.pair I (.pair (.ptr Q10) .unit)),[0,0],[],.unit,.bool,.i,fun x=>V39 x.1 x.2.1⟩
def A_V39:Cfg:=mkCfg tab [(62,S_V38)] []
theorem run_V39 (N x):runF A_V39 N Tryz.f61 S_V39 x=V39 x.1 x.2.1:=by kernel_rfl
theorem ok_V39:OK 61 S_V39:=gdR (A:=A_V39) tc Tryz.func61 (jed ⟨ok_V38,trivial⟩) (run_V39 big)
def wkn (rec:T88) (k:T14) (a1:(Y1×Unit)) (a5:Y4) (a9 a10:Int):Z2 :=
  cond (decide (a10<a9))
  ((V39 a10 a1.1).bind fun rq1 =>
  cond rq1.1
  ((appI a5 [a10]).bind fun xq2 =>
  rec a1 xq2 a9 (IntKind.i64.wrap (a10+1)))
  (rec a1 a5 a9 (IntKind.i64.wrap (a10+1))))
  (k a5)
def wgh (a5:Y4):Z2 :=
  some (a5,(()))
def xaq (L3:T88) (o_0:Y5) (so_1:(Y1×Unit)):Z2 :=
  L3 so_1 [] (o_0.length:Int) 0
def w0j (N:Nat) (k:T14):=itN (fun r=>wkn r k) fun _ _ _ _=>none
def w0i (N:Nat):=w0j N (wgh) N
def V40 (N:Nat) (o_0:Y5) (so_1:(Y1×Unit)):Z2:=xaq (w0i N) o_0 so_1
def S_V40:Sig:=⟨(.pair Q6 (.pair (.clo 61 0 (.pair (.ptr Q10) .unit)) .unit)),[0,0],[],.unit,Q3,O2,fun x=>V40 big x.1 x.2.1⟩
def A_V40:Cfg:=mkCfg tab [(61,S_V39)] [(6,([D0,.as (.clo 61 0 (.pair (.ptr Q10) .unit)) .i]++dr 3 ([B1]++dr 3 [B0,B0]))),(17,(dr 5 [B1]))]
noncomputable def wkm (N n:Nat) (K:T13) (a1:(Y1×Unit)) (a5:Y4) (a9 a10:Int):Z2:=itr A_V40 N 6 Tryz.f60 [1,1,0,1,0,0] n (([.u,.val (.clo 61 0 (.pair (.ptr Q10) .unit)) .i a1]++ud 3 ([W1 a5]++ud 3 [W0 a9,W0 a10]))++us 11) K
noncomputable def xar:Ex→St→Z2:=finish A_V40 S_V40 Tryz.f60.results.toList
noncomputable def xg7 (kX:T4) (a5:Y4):Z2:=kX ((ud 5 [W1 a5])++us 16)
noncomputable def xg6 (kX:T4) (kO:T3):=exK xar 0 (A_V40.shape 17) kX kO
theorem xg8 (N kX kO):∀n,wkm N n (xg6 kX kO)=w0j N (xg7 kX) n :=
 itE rfl fun m=>by kernel_rfl
noncomputable def wru (N:Nat):=(blockK 0 (sqK A_V40 N 17 500008 Tryz.f60 [1,1,1] xar))
noncomputable def xg9 (N:Nat) (st':St):Z2:=rn A_V40 N Tryz.f60 [1,1,1] st' xar
theorem xsv (N):wkm N N (wru N)=w0i N:=by
 rw[show wkm N N (wru N)=wkm N N (xg6 (xg9 N) fun j=>(wru N) (.exit j)) from(by funext _ _ _ _;exact jk7),xg8,show xg7 (xg9 N)=wgh by kernel_rfl];rfl
theorem run_V40 (N x):runF A_V40 N Tryz.f60 S_V40 x=V40 N x.1 x.2.1:=(show _=(xaq (wkm N N (wru N)) x.1 x.2.1) by kernel_rfl).trans (by rw[xsv N];rfl)
theorem ok_V40:OK 60 S_V40:=gdR (A:=A_V40) tc Tryz.func60 (jed ⟨ok_V39,trivial⟩) (run_V40 big)
def xpz (l_0:Y1):Z2 :=
  (l_0).bind fun xq1 =>
  (V40 big xq1.1 (l_0,())).bind fun rq2 =>
  some (rq2.1,(()))
def V41 (l_0:Y1):Z2:=xpz l_0
def S_V41:Sig:=⟨(.pair Q10 .unit),[0],[],.unit,Q3,O2,fun x=>V41 x.1⟩
def A_V41:Cfg:=mkCfg tab [(60,S_V40)] [(3,[D0,.as (.ptr Q10) .i])]
theorem run_V41 (N x):runF A_V41 N Tryz.f29 S_V41 x=V41 x.1:=by kernel_rfl
theorem ok_V41:OK 29 S_V41:=gdR (A:=A_V41) tc Tryz.func29 (jed ⟨ok_V40,trivial⟩) (run_V41 big)
def wkp (rec:T67) (k:T14) (a0:Int) (a3:Y4) (a4:Int):Z2 :=
  (shrI IntKind.i64 a0 a4).bind fun xq1 =>
  cond (decide (0<xq1))
  ((shrI IntKind.i64 a0 a4).bind fun xq2 =>
  cond (decide ((bitI .and IntKind.i64 xq2 1)=1))
  ((appI a3 [a4]).bind fun xq3 =>
  rec a0 xq3 (IntKind.i64.wrap (a4+1)))
  (rec a0 a3 (IntKind.i64.wrap (a4+1))))
  (k a3)
def wgi (a3:Y4):Z2 :=
  some (a3,(()))
def xas (L3:T67) (mask_0:Int):Z2 :=
  L3 mask_0 [] 0
def w0l (N:Nat) (k:T14):=itN (fun r=>wkp r k) fun _ _ _=>none
def w0k (N:Nat):=w0l N (wgi) N
def V42 (N:Nat) (mask_0:Int):Z2:=xas (w0k N) mask_0
def S_V42:Sig:=⟨Q15,[0],[],.unit,Q3,O2,fun x=>V42 big x.1⟩
def A_V42:Cfg:=mkCfg tab [] [(6,[B0,D0,D0,B1,B0]),(15,(dr 3 [B1]))]
noncomputable def wko (N n:Nat) (K:T13) (a0:Int) (a3:Y4) (a4:Int):Z2:=itr A_V42 N 6 Tryz.f31 [1,1,0,1,0,0] n ([W0 a0,.u,.u,W1 a3,W0 a4]++us 17) K
noncomputable def xat:Ex→St→Z2:=finish A_V42 S_V42 Tryz.f31.results.toList
noncomputable def xhb (kX:T4) (a3:Y4):Z2:=kX ((ud 3 [W1 a3])++us 18)
noncomputable def xha (kX:T4) (kO:T3):=exK xat 0 (A_V42.shape 15) kX kO
theorem xhc (N kX kO):∀n,wko N n (xha kX kO)=w0l N (xhb kX) n :=
 itE rfl fun m=>by kernel_rfl
noncomputable def wrv (N:Nat):=(blockK 0 (sqK A_V42 N 15 500007 Tryz.f31 [1,1,1] xat))
noncomputable def xhd (N:Nat) (st':St):Z2:=rn A_V42 N Tryz.f31 [1,1,1] st' xat
theorem xsw (N):wko N N (wrv N)=w0k N:=by
 rw[show wko N N (wrv N)=wko N N (xha (xhd N) fun j=>(wrv N) (.exit j)) from(by funext _ _ _;exact jk7),xhc,show xhb (xhd N)=wgi by kernel_rfl];rfl
theorem run_V42 (N x):runF A_V42 N Tryz.f31 S_V42 x=V42 N x.1:=(show _=(xas (wko N N (wrv N)) x.1) by kernel_rfl).trans (by rw[xsw N];rfl)
theorem ok_V42:OK 31 S_V42:=gdR (A:=A_V42) tc Tryz.func31 (jed trivial) (run_V42 big)
def wkr (rec:T12) (k:T14) (a1 a5 a11:Y4) (a12 a13:Int):Z2 :=
  cond (decide (a13<a12))
  ((atI a11 a13).bind fun xq3 =>
  (atI a1 xq3).bind fun xq4 =>
  (atI a5 a13).bind fun _ =>
  (a5[a13.toNat]?).bind fun xq5 =>
  rec a1 (a5.set a13.toNat xq4) a11 a12 (IntKind.i64.wrap (a13+1)))
  (k a5)
def wgj (a5:Y4):Z2 :=
  some (a5,(()))
def xau (L3:T12) (f_0 g_1:Y4):Z2 :=
  (mkI (0:Int) (f_0.length:Int)).bind fun xq1=>(mkI (0:Int) (f_0.length:Int)).bind fun xq2=>cond (decide ((f_0.length:Int)≤(f_0.length:Int)))
  (L3 g_1 xq2 f_0 (f_0.length:Int) 0)
  none
def w0n (N:Nat) (k:T14):=itN (fun r=>wkr r k) fun _ _ _ _ _=>none
def w0m (N:Nat):=w0n N (wgj) N
def V43 (N:Nat) (f_0 g_1:Y4):Z2:=xau (w0m N) f_0 g_1
def S_V43:Sig:=⟨(.pair Q3 Q14),[0,0],[],.unit,Q3,O2,fun x=>V43 big x.1 x.2.1⟩
def A_V43:Cfg:=mkCfg tab [] [(6,([D0,B2]++dr 3 ([B1]++dr 5 [B2,B0,B0]))),(15,(dr 5 [B1]))]
noncomputable def wkq (N n:Nat) (K:T13) (a1 a5 a11:Y4) (a12 a13:Int):Z2:=itr A_V43 N 6 Tryz.f30 [1,1,0,1,0,0] n (([.u,W2 a1]++ud 3 ([W1 a5]++ud 5 [W2 a11,W0 a12,W0 a13]))++us 13) K
noncomputable def xav:Ex→St→Z2:=finish A_V43 S_V43 Tryz.f30.results.toList
noncomputable def xhf (kX:T4) (a5:Y4):Z2:=kX ((ud 5 [W1 a5])++us 21)
noncomputable def xhe (kX:T4) (kO:T3):=exK xav 0 (A_V43.shape 15) kX kO
theorem xhg (N kX kO):∀n,wkq N n (xhe kX kO)=w0n N (xhf kX) n :=
 itE rfl fun m=>by kernel_rfl
noncomputable def wrw (N:Nat):=(blockK 0 (sqK A_V43 N 15 500007 Tryz.f30 [1,1,1] xav))
noncomputable def xhh (N:Nat) (st':St):Z2:=rn A_V43 N Tryz.f30 [1,1,1] st' xav
theorem xsx (N):wkq N N (wrw N)=w0m N:=by
 rw[show wkq N N (wrw N)=wkq N N (xhe (xhh N) fun j=>(wrw N) (.exit j)) from(by funext _ _ _ _ _;exact jk7),xhg,show xhf (xhh N)=wgj by kernel_rfl];rfl
theorem run_V43 (N x):runF A_V43 N Tryz.f30 S_V43 x=V43 N x.1 x.2.1:=(show _=(xau (wkq N N (wrw N)) x.1 x.2.1) by kernel_rfl).trans (by rw[xsx N];rfl)
theorem ok_V43:OK 30 S_V43:=gdR (A:=A_V43) tc Tryz.func30 (jed trivial) (run_V43 big)
def xp0 (o_0:Y5) (list_1:Y4):Z0 :=
  (V24 big list_1 (o_0.length:Int)).bind fun rq1 =>
  some (rq1.1,(()))
def V44 (o_0:Y5) (list_1:Y4):Z0:=xp0 o_0 list_1
def S_V44:Sig:=⟨(.pair Q6 Q14),[0,0],[],.unit,.bool,.i,fun x=>V44 x.1 x.2.1⟩
def A_V44:Cfg:=mkCfg tab [(124,S_V24)] []
theorem run_V44 (N x):runF A_V44 N Tryz.f109 S_V44 x=V44 x.1 x.2.1:=by kernel_rfl
theorem ok_V44:OK 109 S_V44:=gdR (A:=A_V44) tc Tryz.func109 (jed ⟨ok_V24,trivial⟩) (run_V44 big)
def xp1 (l_0:Y1) (j_1:Int):Z0 :=
  (l_0).bind fun xq1 =>
  (V44 xq1.1 [j_1]).bind fun rq2 =>
  cond rq2.1
  ((l_0).bind fun xq3 =>
  (V38 xq3.1 j_1).bind fun rq4 =>
  some (decide ((rq4.1.length:Int)=1),(())))
  (some (false,(())))
def V45 (l_0:Y1) (j_1:Int):Z0:=xp1 l_0 j_1
def S_V45:Sig:=⟨(.pair Q10 Q15),[0,0],[],.unit,.bool,.i,fun x=>V45 x.1 x.2.1⟩
def A_V45:Cfg:=mkCfg tab [(109,S_V44),(62,S_V38)] []
theorem run_V45 (N x):runF A_V45 N Tryz.f63 S_V45 x=V45 x.1 x.2.1:=by kernel_rfl
theorem ok_V45:OK 63 S_V45:=gdR (A:=A_V45) tc Tryz.func63 (jed ⟨ok_V44,ok_V38,trivial⟩) (run_V45 big)
def xp2 (l_0:Y1) (j_1:Int):Z5 :=
  (l_0).bind fun xq1 =>
  (V38 xq1.1 j_1).bind fun rq2 =>
  (atI rq2.1 0).bind fun _ =>
  (rq2.1[(0:Int).toNat]?).bind fun xq3 =>
  some (xq3,(()))
def V46 (l_0:Y1) (j_1:Int):Z5:=xp2 l_0 j_1
def S_V46:Sig:=⟨(.pair Q10 Q15),[0,0],[],.unit,I,.i,fun x=>V46 x.1 x.2.1⟩
def A_V46:Cfg:=mkCfg tab [(62,S_V38)] []
theorem run_V46 (N x):runF A_V46 N Tryz.f76 S_V46 x=V46 x.1 x.2.1:=by kernel_rfl
theorem ok_V46:OK 76 S_V46:=gdR (A:=A_V46) tc Tryz.func76 (jed ⟨ok_V38,trivial⟩) (run_V46 big)
def wkt (rec:Y6→Y6→Y3→Int→Int→Option (Y6×Unit)) (k:Y6→Y6→Option (Y6×Unit)) (a2 a3:Y6) (a7:Y3) (a8 a9:Int):Option (Y6×Unit) :=
  cond (decide (a9<a8))
  ((atI a7 a9).bind fun xq1 =>
  (appI a3.2.1 xq1).bind fun xq2 =>
  rec a2 ((a3.1,((),a3.2.2)).1,(xq2,((a3.1,((),a3.2.2)).2).2)) a7 a8 (IntKind.i64.wrap (a9+1)))
  (k a2 a3)
def wgk (a2 a3:Y6):Option (Y6×Unit) :=
  some (a3,(()))
def xaw (L3:Y6→Y6→Y3→Int→Int→Option (Y6×Unit)) (table_0:Y3):Option (Y6×Unit) :=
  L3 (0,(([]:Y4),())) (2,(([]:Y4),())) table_0 (table_0.length:Int) 0
def w0p (N:Nat) (k:Y6→Y6→Option (Y6×Unit)):=itN (fun r=>wkt r k) fun _ _ _ _ _=>none
def w0o (N:Nat):=w0p N (wgk) N
def V47 (N:Nat) (table_0:Y3):Option (Y6×Unit):=xaw (w0o N) table_0
def S_V47:Sig:=⟨Q0,[0],[],.unit,Q9,(.p .i (.p O2 .i)),fun x=>V47 big x.1⟩
def A_V47:Cfg:=mkCfg tab [] [(6,([D0,D0,.as Q20 O12,.as Q20 O12]++dr 3 [B4,B0,B0])),(15,[D0,D0,.as Q20 O12,.as Q20 O12])]
noncomputable def wks (N n:Nat) (K:Ex→St→Option (Y6×Unit)) (a2 a3:Y6) (a7:Y3) (a8 a9:Int):Option (Y6×Unit):=itr A_V47 N 6 Tryz.f72 [1,1,0,1,0,0] n (([.u,.u,.val Q20 O12 a2,.val Q20 O12 a3]++ud 3 [W4 a7,W0 a8,W0 a9])++us 10) K
noncomputable def xax:Ex→St→Option (Y6×Unit):=finish A_V47 S_V47 Tryz.f72.results.toList
noncomputable def xhj (kX:St→Option (Y6×Unit)) (a2 a3:Y6):Option (Y6×Unit):=kX ([.u,.u,.val Q20 O12 a2,.val Q20 O12 a3]++us 16)
noncomputable def xhi (kX:St→Option (Y6×Unit)) (kO:Nat→St→Option (Y6×Unit)):Ex→St→Option (Y6×Unit):=exK xax 0 (A_V47.shape 15) kX kO
theorem xhk (N kX kO):∀n,wks N n (xhi kX kO)=w0p N (xhj kX) n :=
 itE rfl fun m=>by kernel_rfl
noncomputable def wrx (N:Nat):Ex→St→Option (Y6×Unit):=(blockK 0 (sqK A_V47 N 15 500007 Tryz.f72 [1,1,1] xax))
noncomputable def xhl (N:Nat) (st':St):Option (Y6×Unit):=rn A_V47 N Tryz.f72 [1,1,1] st' xax
theorem xsy (N):wks N N (wrx N)=w0o N:=by
 rw[show wks N N (wrx N)=wks N N (xhi (xhl N) fun j=>(wrx N) (.exit j)) from(by funext _ _ _ _ _;exact jk7),xhk,show xhj (xhl N)=wgk by kernel_rfl];rfl
theorem run_V47 (N x):runF A_V47 N Tryz.f72 S_V47 x=V47 N x.1:=(show _=(xaw (wks N N (wrx N)) x.1) by kernel_rfl).trans (by rw[xsy N];rfl)
theorem ok_V47:OK 72 S_V47:=gdR (A:=A_V47) tc Tryz.func72 (jed trivial) (run_V47 big)
def xp3 (l_0:Y1):Z17 :=
  (l_0).bind fun xq1 =>
  (l_0).bind fun xq2 =>
  (V47 big xq2.2.1).bind fun rq3 =>
  (l_0).bind fun xq4 =>
  (V47 big xq4.2.2.1).bind fun rq5 =>
  some (((xq1.1.length:Int),([rq3.1,rq5.1],())),(()))
def V48 (l_0:Y1):Z17:=xp3 l_0
def S_V48:Sig:=⟨(.pair Q10 .unit),[0],[],.unit,Q1,O23,fun x=>V48 x.1⟩
def A_V48:Cfg:=mkCfg tab [(72,S_V47)] []
theorem run_V48 (N x):runF A_V48 N Tryz.f38 S_V48 x=V48 x.1:=by kernel_rfl
theorem ok_V48:OK 38 S_V48:=gdR (A:=A_V48) tc Tryz.func38 (jed ⟨ok_V47,trivial⟩) (run_V48 big)
def wkv (rec:T60) (k:T14) (a3:Y4) (a8 a9:Int):Z2 :=
  cond (decide (a9<a8))
  ((atI a3 a9).bind fun _ =>
  (a3[a9.toNat]?).bind fun xq3 =>
  rec (a3.set a9.toNat a9) a8 (IntKind.i64.wrap (a9+1)))
  (k a3)
def wgl (a3:Y4):Z2 :=
  some (a3,(()))
def xay (L3:T60) (n_0:Int):Z2 :=
  (mkI (0:Int) n_0).bind fun xq1=>(mkI (0:Int) n_0).bind fun xq2=>cond (decide (n_0≤n_0))
  (L3 xq2 (xq2.length:Int) 0)
  none
def w0r (N:Nat) (k:T14):=itN (fun r=>wkv r k) fun _ _ _=>none
def w0q (N:Nat):=w0r N (wgl) N
def V49 (N:Nat) (n_0:Int):Z2:=xay (w0q N) n_0
def S_V49:Sig:=⟨Q15,[0],[],.unit,Q3,O2,fun x=>V49 big x.1⟩
def A_V49:Cfg:=mkCfg tab [] [(6,(dr 3 ([B1]++dr 4 [B0,B0]))),(15,(dr 3 [B1]))]
noncomputable def wku (N n:Nat) (K:T13) (a3:Y4) (a8 a9:Int):Z2:=itr A_V49 N 6 Tryz.f122 [1,1,0,1,0,0] n ((ud 3 ([W1 a3]++ud 4 [W0 a8,W0 a9]))++us 8) K
noncomputable def xaz:Ex→St→Z2:=finish A_V49 S_V49 Tryz.f122.results.toList
noncomputable def xhn (kX:T4) (a3:Y4):Z2:=kX ((ud 3 [W1 a3])++us 14)
noncomputable def xhm (kX:T4) (kO:T3):=exK xaz 0 (A_V49.shape 15) kX kO
theorem xho (N kX kO):∀n,wku N n (xhm kX kO)=w0r N (xhn kX) n :=
 itE rfl fun m=>by kernel_rfl
noncomputable def wry (N:Nat):=(blockK 0 (sqK A_V49 N 15 500007 Tryz.f122 [1,1,1] xaz))
noncomputable def xhp (N:Nat) (st':St):Z2:=rn A_V49 N Tryz.f122 [1,1,1] st' xaz
theorem xsz (N):wku N N (wry N)=w0q N:=by
 rw[show wku N N (wry N)=wku N N (xhm (xhp N) fun j=>(wry N) (.exit j)) from(by funext _ _ _;exact jk7),xho,show xhn (xhp N)=wgl by kernel_rfl];rfl
theorem run_V49 (N x):runF A_V49 N Tryz.f122 S_V49 x=V49 N x.1:=(show _=(xay (wku N N (wry N)) x.1) by kernel_rfl).trans (by rw[xsz N];rfl)
theorem ok_V49:OK 122 S_V49:=gdR (A:=A_V49) tc Tryz.func122 (jed trivial) (run_V49 big)
def wkx (rec:T92) (k:Y4→Z8) (a0:Y4) (a1 a2 a25 a26:Int):Z8 :=
  cond (decide (a26<a25))
  ((atI a0 a26).bind fun _ =>
  (a0[a26.toNat]?).bind fun xq3 =>
  cond (decide (xq3=a2))
  ((atI a0 a26).bind fun _ =>
  (a0[a26.toNat]?).bind fun xq4 =>
  rec (a0.set a26.toNat a1) a1 a2 a25 (IntKind.i64.wrap (a26+1)))
  (rec a0 a1 a2 a25 (IntKind.i64.wrap (a26+1))))
  (k a0)
def wgm (a0:Y4):Z8 :=
  some (true,(a0,()))
def xa0 (L7:T92) (p_0:Y4) (x_1 y_2:Int):Z8 :=
  (atI p_0 x_1).bind fun _ =>
  (p_0[x_1.toNat]?).bind fun xq1 =>
  (atI p_0 y_2).bind fun _ =>
  (p_0[y_2.toNat]?).bind fun xq2 =>
  cond (decide (xq1=xq2))
  (some (false,(p_0,())))
  (cond (decide (xq2<xq1))
  (L7 p_0 xq2 xq1 (p_0.length:Int) 0)
  (L7 p_0 xq1 xq2 (p_0.length:Int) 0))
def w0s (N:Nat) (k:Y4→Z8):=itN (fun r=>wkx r k) fun _ _ _ _ _=>none
def wrz (N:Nat):=w0s N (wgm) N
def V50 (N:Nat) (p_0:Y4) (x_1 y_2:Int):Z8:=xa0 (wrz N) p_0 x_1 y_2
def S_V50:Sig:=⟨(.pair Q3 Q22),[1,0,0],[O2],Q14,.bool,.i,fun x=>V50 big x.1 x.2.1 x.2.2.1⟩
def A_V50:Cfg:=mkCfg tab [] [(14,([B1,B0,B0]++dr 22 [B0,B0])),(25,[B1])]
noncomputable def wkw (N n:Nat) (K:Ex→St→Z8) (a0:Y4) (a1 a2 a25 a26:Int):Z8:=itr A_V50 N 14 Tryz.f123 [1,1,1,1,0,1,0,0] n (([W1 a0,W0 a1,W0 a2]++ud 22 [W0 a25,W0 a26])++us 13) K
noncomputable def xa1:Ex→St→Z8:=finish A_V50 S_V50 Tryz.f123.results.toList
noncomputable def xhr (kX:T108) (a0:Y4):Z8:=kX ([W1 a0]++us 39)
noncomputable def xhq (kX:T108) (kO:T79):=exK xa1 0 (A_V50.shape 25) kX kO
theorem xhs (N kX kO):∀n,wkw N n (xhq kX kO)=w0s N (xhr kX) n :=
 itE rfl fun m=>by kernel_rfl
noncomputable def wr0 (N:Nat):=(blockK 0 (sqK A_V50 N 25 500012 Tryz.f123 [1,1,1,1,1] xa1))
noncomputable def xht (N:Nat) (st':St):Z8:=rn A_V50 N Tryz.f123 [1,1,1,1,1] st' xa1
theorem xs0 (N):wkw N N (wr0 N)=wrz N:=by
 rw[show wkw N N (wr0 N)=wkw N N (xhq (xht N) fun j=>(wr0 N) (.exit j)) from(by funext _ _ _ _ _;exact jk7),xhs,show xhr (xht N)=wgm by kernel_rfl];rfl
theorem run_V50 (N x):runF A_V50 N Tryz.f123 S_V50 x=V50 N x.1 x.2.1 x.2.2.1:=(show _=(xa0 (wkw N N (wr0 N)) x.1 x.2.1 x.2.2.1) by kernel_rfl).trans (by rw[xs0 N];rfl)
theorem ok_V50:OK 123 S_V50:=gdR (A:=A_V50) tc Tryz.func123 (jed trivial) (run_V50 big)
def wgs (rec:T20) (k:T2) (a1:Y4) (a2:Y7) (a5 a6:Bool) (a8:Y6) (a9 a10:Int) (a16:Z21) (a17 a18:Int) (a29:Y4) (a30 a31:Int):Z8 :=
  cond (decide (a31<a30))
  ((atI a29 a31).bind fun xq2 =>
  (quoI IntKind.i64 a31 a9).bind fun xq3 =>
  (remI xq3 a2.1).bind fun xq4 =>
  (atI a1 xq4).bind fun _ =>
  (a1[xq4.toNat]?).bind fun xq5 =>
  (atI a8.2.1 (IntKind.i64.wrap (a31+(IntKind.i64.wrap ((IntKind.i64.wrap (xq5-xq4))*a9))))).bind fun xq6 =>
  (V50 big a1 xq2 xq6).bind fun rq7 =>
  cond rq7.1
  (rec rq7.2.1 a2 true true a8 a9 a10 a16 a17 a18 a29 a30 (IntKind.i64.wrap (a31+1)))
  (rec rq7.2.1 a2 a5 a6 a8 a9 a10 a16 a17 a18 a29 a30 (IntKind.i64.wrap (a31+1))))
  (k a1 a2 a5 a6 a8 a9 a10 a16 a17 a18)
def wby (rec:T2) (a1:Y4) (a2:Y7) (a5 a6:Bool) (a8:Y6) (a9 a10:Int) (a16:Z21) (a17 a18:Int):Z8 :=
  rec a1 a2 a5 a6 a8 (IntKind.i64.wrap (a9*a2.1)) (IntKind.i64.wrap (a10+1)) a16 a17 a18
def wbz (L13:T20) (k:T5) (a1:Y4) (a2:Y7) (a5 a6:Bool) (a8:Y6) (a9 a10:Int) (a16:Z21) (a17 a18:Int):Z8 :=
  cond (decide (a10<a8.1))
  (L13 a1 a2 a5 a6 a8 a9 a10 a16 a17 a18 a8.2.1 (a8.2.1.length:Int) 0)
  (k a1 a2 a5 a6 a16 a17 a18)
def x7 (rec:T5) (a1:Y4) (a2:Y7) (a5 a6:Bool) (a16:Z21) (a17 a18:Int):Z8 :=
  rec a1 a2 a5 a6 a16 a17 (IntKind.i64.wrap (a18+1))
def wgt (L10:T2) (k:T35) (a1:Y4) (a2:Y7) (a5 a6:Bool) (a16:Z21) (a17 a18:Int):Z8 :=
  cond (decide (a18<a17))
  ((atI a16 a18).bind fun xq1 =>
  L10 a1 a2 a5 a6 xq1 1 0 a16 a17 a18)
  (k a1 a2 a5 a6)
def zx (rec:T35) (a1:Y4) (a2:Y7) (a5 a6:Bool):Z8 :=
  rec a1 a2 a5 a6
def wr8 (L6:T5) (k:Y4→Bool→Z8) (a1:Y4) (a2:Y7) (a5 a6:Bool):Z8 :=
  cond a6
  (L6 a1 a2 a5 false a2.2.1 (a2.2.1.length:Int) 0)
  (k a1 a5)
def wky (a1:Y4) (a5:Bool):Z8 :=
  some (a5,(a1,()))
def xa4 (L3:T35) (a_0:Y7) (p_1:Y4):Z8 :=
  L3 p_1 a_0 false true
def wv5 (N:Nat) (k:T2):=itN (fun r=>wgs r k) fun _ _ _ _ _ _ _ _ _ _ _ _ _=>none
def wgq (N:Nat) (rec:T2) (k:T5):=wv5 N (wby rec) N
def wv4 (N:Nat) (k:T5):=itN (fun r=>wbz (wgq N r k) k) fun _ _ _ _ _ _ _ _ _ _=>none
def wgp (N:Nat) (rec:T5) (k:T35):=wv4 N (x7 rec) N
def w0v (N:Nat) (k:T35):=itN (fun r=>wgt (wgp N r k) k) fun _ _ _ _ _ _ _=>none
def wr3 (N:Nat) (rec:T35) (k:Y4→Bool→Z8):=w0v N (zx rec) N
def w0u (N:Nat) (k:Y4→Bool→Z8):=itN (fun r=>wr8 (wr3 N r k) k) fun _ _ _ _=>none
def w0t (N:Nat):=w0u N (wky) N
def V51 (N:Nat) (a_0:Y7) (p_1:Y4):Z8:=xa4 (w0t N) a_0 p_1
def S_V51:Sig:=⟨(.pair Q1 Q14),[0,1],[O2],Q14,.bool,.i,fun x=>V51 big x.1 x.2.1⟩
def A_V51:Cfg:=mkCfg tab [(123,S_V50)] [(6,[D0,B1,B9,D0,D0,B5,B5]),(12,([D0,B1,B9,D0,D0,B5,B5]++dr 9 [.as (.sl Q9) .i,B0,B0])),(43,([D0,B1]++dr 3 [B5])),(20,([D0,B1,B9,D0,D0,B5,B5,D0,.as Q20 O2,B0,B0]++dr 5 [.as (.sl Q9) .i,B0,B0])),(26,([D0,B1,B9,D0,D0,B5,B5,D0,.as Q20 O2,B0,B0]++dr 5 ([.as (.sl Q9) .i,B0,B0]++dr 10 [B2,B0,B0]))),(41,([D0,B1,B9,D0,D0,B5,B5]++dr 9 [.as (.sl Q9) .i,B0,B0])),(39,([D0,B1,B9,D0,D0,B5,B5,D0,.as Q20 O2,B0,B0]++dr 5 [.as (.sl Q9) .i,B0,B0]))]
noncomputable def wc6 (N n:Nat) (K:Ex→St→Z8) (a1:Y4) (a2:Y7) (a5 a6:Bool):Z8:=itr A_V51 N 6 Tryz.f79 [1,1,0,1,0,0] n ([.u,W1 a1,W9 a2,.u,.u,W5 a5,W5 a6]++us 59) K
noncomputable def wc7 (N n:Nat) (K:Ex→St→Z8) (a1:Y4) (a2:Y7) (a5 a6:Bool) (a16:Z21) (a17 a18:Int):Z8:=itr A_V51 N 12 Tryz.f79 [1,1,0,1,0,0,1,0,1,1,0,0] n (([.u,W1 a1,W9 a2,.u,.u,W5 a5,W5 a6]++ud 9 [.val (.sl Q9) .i a16,W0 a17,W0 a18])++us 47) K
noncomputable def ze (N n:Nat) (K:Ex→St→Z8) (a1:Y4) (a2:Y7) (a5 a6:Bool) (a8:Y6) (a9 a10:Int) (a16:Z21) (a17 a18:Int):Z8:=itr A_V51 N 20 Tryz.f79 [1,1,0,1,0,0,1,0,1,1,0,0,1,1,0,0,1,1,1,0,0] n (([.u,W1 a1,W9 a2,.u,.u,W5 a5,W5 a6,.u,.val Q20 O2 a8,W0 a9,W0 a10]++ud 5 [.val (.sl Q9) .i a16,W0 a17,W0 a18])++us 47) K
noncomputable def wgr (N n:Nat) (K:Ex→St→Z8) (a1:Y4) (a2:Y7) (a5 a6:Bool) (a8:Y6) (a9 a10:Int) (a16:Z21) (a17 a18:Int) (a29:Y4) (a30 a31:Int):Z8:=itr A_V51 N 26 Tryz.f79 [1,1,0,1,0,0,1,0,1,1,0,0,1,1,0,0,1,1,1,0,0,1,0,0,0,1,0,0] n (([.u,W1 a1,W9 a2,.u,.u,W5 a5,W5 a6,.u,.val Q20 O2 a8,W0 a9,W0 a10]++ud 5 ([.val (.sl Q9) .i a16,W0 a17,W0 a18]++ud 10 [W2 a29,W0 a30,W0 a31]))++us 34) K
noncomputable def wo5:Ex→St→Z8:=finish A_V51 S_V51 Tryz.f79.results.toList
noncomputable def wr6 (kX:T108) (a1:Y4) (a5:Bool):Z8:=kX (([.u,W1 a1]++ud 3 [W5 a5])++us 60)
noncomputable def wgn (kX:T108) (kO:T79):=exK wo5 0 (A_V51.shape 43) kX kO
noncomputable def wr7 (kX:T108) (a1:Y4) (a2:Y7) (a5 a6:Bool):Z8:=kX ([.u,W1 a1,W9 a2,.u,.u,W5 a5,W5 a6]++us 59)
noncomputable def wgo (kX:T108) (kO:T79):=exK wo5 2 (A_V51.shape 6) kX kO
noncomputable def wo4 (kX:T108) (a1:Y4) (a2:Y7) (a5 a6:Bool) (a16:Z21) (a17 a18:Int):Z8:=kX (([.u,W1 a1,W9 a2,.u,.u,W5 a5,W5 a6]++ud 9 [.val (.sl Q9) .i a16,W0 a17,W0 a18])++us 47)
noncomputable def wbx (kX:T108) (kO:T79):=exK wo5 4 (A_V51.shape 41) kX kO
noncomputable def w7j (kX:T108) (a1:Y4) (a2:Y7) (a5 a6:Bool) (a8:Y6) (a9 a10:Int) (a16:Z21) (a17 a18:Int):Z8:=kX (([.u,W1 a1,W9 a2,.u,.u,W5 a5,W5 a6,.u,.val Q20 O2 a8,W0 a9,W0 a10]++ud 5 [.val (.sl Q9) .i a16,W0 a17,W0 a18])++us 47)
noncomputable def w7i (kX:T108) (kO:T79):=exK wo5 6 (A_V51.shape 39) kX kO
theorem xa3 (N kX kO):∀n,wgr N n (w7i kX kO)=wv5 N (w7j kX) n :=
 itE rfl fun m=>by kernel_rfl
noncomputable def wo3 (N m:Nat) (kX:T108) (kO:T79):=(blockK 6 (sqK A_V51 N 39 500019 Tryz.f79 [1,1,0,1,0,0,1,0,1,1,0,0,1,1,0,0,1,1,1,0,0,1,0,0,1] (blockK 5 (sqK A_V51 N 23 500011 Tryz.f79 [1,1,0,1,0,0,1,0,1,1,0,0,1,1,0,0,1,1,1,0,0,1,1] (itK A_V51 N 20 Tryz.f79 [1,1,0,1,0,0,1,0,1,1,0,0,1,1,0,0,1,1,1,0,0] m (wbx kX kO))))))
noncomputable def w7l (N m:Nat) (kX:T108) (kO:T79) (st':St):Z8:=rn A_V51 N Tryz.f79 [1,1,0,1,0,0,1,0,1,1,0,0,1,1,0,0,1,1,1,0,0,1,0,0,1] st' (blockK 5 (sqK A_V51 N 23 500011 Tryz.f79 [1,1,0,1,0,0,1,0,1,1,0,0,1,1,0,0,1,1,1,0,0,1,1] (itK A_V51 N 20 Tryz.f79 [1,1,0,1,0,0,1,0,1,1,0,0,1,1,0,0,1,1,1,0,0] m (wbx kX kO))))
theorem xoi (N m kX kO) {r}(h:ze N m (wbx kX kO)=r):wgr N N (wo3 N m kX kO)=wgq N r (wo4 kX):=by
 rw[show wgr N N (wo3 N m kX kO)=wgr N N (w7i (w7l N m kX kO) fun j=>(wo3 N m kX kO) (.exit j)) from(by funext _ _ _ _ _ _ _ _ _ _ _ _ _;exact jk7),xa3,show w7j (w7l N m kX kO)=wby (ze N m (wbx kX kO)) by kernel_rfl,h];rfl
theorem xa2 (N kX kO):∀n,ze N n (wbx kX kO)=wv4 N (wo4 kX) n :=
 itE rfl fun m=>(show _=wbz (wgr N N (wo3 N m kX kO)) (wo4 kX) by kernel_rfl).trans (by rw[xoi N m kX kO rfl]<;>rfl)
noncomputable def wo2 (N m:Nat) (kX:T108) (kO:T79):=(blockK 4 (blockK 3 (sqK A_V51 N 41 500020 Tryz.f79 [1,1,0,1,0,0,1,0,1,1,0,0,1,1,1] (itK A_V51 N 12 Tryz.f79 [1,1,0,1,0,0,1,0,1,1,0,0] m (wgo kX kO)))))
noncomputable def w7k (N m:Nat) (kX:T108) (kO:T79) (st':St):Z8:=rn A_V51 N Tryz.f79 [1,1,0,1,0,0,1,0,1,1,0,0,1,1,1] st' (itK A_V51 N 12 Tryz.f79 [1,1,0,1,0,0,1,0,1,1,0,0] m (wgo kX kO))
theorem xoh (N m kX kO) {r}(h:wc7 N m (wgo kX kO)=r):ze N N (wo2 N m kX kO)=wgp N r (wr7 kX):=by
 rw[show ze N N (wo2 N m kX kO)=ze N N (wbx (w7k N m kX kO) fun j=>(wo2 N m kX kO) (.exit j)) from(by funext _ _ _ _ _ _ _ _ _ _;exact jk7),xa2,show wo4 (w7k N m kX kO)=x7 (wc7 N m (wgo kX kO)) by kernel_rfl,h];rfl
theorem xhv (N kX kO):∀n,wc7 N n (wgo kX kO)=w0v N (wr7 kX) n :=
 itE rfl fun m=>(show _=wgt (ze N N (wo2 N m kX kO)) (wr7 kX) by kernel_rfl).trans (by rw[xoh N m kX kO rfl]<;>rfl)
noncomputable def wr5 (N m:Nat) (kX:T108) (kO:T79):=(blockK 2 (blockK 1 (itK A_V51 N 6 Tryz.f79 [1,1,0,1,0,0] m (wgn kX kO))))
noncomputable def xhx (N m:Nat) (kX:T108) (kO:T79) (st':St):Z8:=itr A_V51 N 6 Tryz.f79 [1,1,0,1,0,0] m st' (wgn kX kO)
theorem xs3 (N m kX kO) {r}(h:wc6 N m (wgn kX kO)=r):wc7 N N (wr5 N m kX kO)=wr3 N r (wr6 kX):=by
 rw[show wc7 N N (wr5 N m kX kO)=wc7 N N (wgo (xhx N m kX kO) fun j=>(wr5 N m kX kO) (.exit j)) from(by funext _ _ _ _ _ _ _;exact jk7),xhv,show wr7 (xhx N m kX kO)=zx (wc6 N m (wgn kX kO)) by kernel_rfl,h];rfl
theorem xhu (N kX kO):∀n,wc6 N n (wgn kX kO)=w0u N (wr6 kX) n :=
 itE rfl fun m=>(show _=wr8 (wc7 N N (wr5 N m kX kO)) (wr6 kX) by kernel_rfl).trans (by rw[xs3 N m kX kO rfl]<;>rfl)
noncomputable def wr4 (N:Nat):=(blockK 0 (sqK A_V51 N 43 500021 Tryz.f79 [1,1,1] wo5))
noncomputable def xhw (N:Nat) (st':St):Z8:=rn A_V51 N Tryz.f79 [1,1,1] st' wo5
theorem xs2 (N):wc6 N N (wr4 N)=w0t N:=by
 rw[show wc6 N N (wr4 N)=wc6 N N (wgn (xhw N) fun j=>(wr4 N) (.exit j)) from(by funext _ _ _ _;exact jk7),xhu,show wr6 (xhw N)=wky by kernel_rfl];rfl
theorem run_V51 (N x):runF A_V51 N Tryz.f79 S_V51 x=V51 N x.1 x.2.1:=(show _=(xa4 (wc6 N N (wr4 N)) x.1 x.2.1) by kernel_rfl).trans (by rw[xs2 N];rfl)
theorem ok_V51:OK 79 S_V51:=gdR (A:=A_V51) tc Tryz.func79 (jed ⟨ok_V50,trivial⟩) (run_V51 big)
def wc9 (rec:T96) (k:Y7→Y4→Z2) (a2:Y7) (a5:Y4) (a11:Z11) (a12 a13:Int):Z2 :=
  cond (decide (a13<a12))
  ((atI a11 a13).bind fun xq2 =>
  (V50 big a5 xq2.1 xq2.2.1).bind fun rq3 =>
  rec a2 rq3.2.1 a11 a12 (IntKind.i64.wrap (a13+1)))
  (k a2 a5)
def wc8 (a2:Y7) (a5:Y4):Z2 :=
  (V51 big a2 a5).bind fun rq4 =>
  some (rq4.2.1,(()))
def wxm (L3:T96) (a_0:Y7) (pairs_1:Z11):Z2 :=
  (V49 big a_0.1).bind fun rq1 =>
  L3 a_0 rq1.1 pairs_1 (pairs_1.length:Int) 0
def w0x (N:Nat) (k:Y7→Y4→Z2):=itN (fun r=>wc9 r k) fun _ _ _ _ _=>none
def w0w (N:Nat):=w0x N (wc8) N
def V52 (N:Nat) (a_0:Y7) (pairs_1:Z11):Z2:=wxm (w0w N) a_0 pairs_1
def S_V52:Sig:=⟨(.pair Q1 (.pair Q7 .unit)),[0,0],[],.unit,Q3,O2,fun x=>V52 big x.1 x.2.1⟩
def A_V52:Cfg:=mkCfg tab [(122,S_V49),(123,S_V50),(79,S_V51)] [(6,([D0,D0,B9,D0,D0,B1]++dr 5 [.as Q7 .i,B0,B0])),(15,[D0,D0,B9,D0,D0,B1])]
noncomputable def wkz (N n:Nat) (K:T13) (a2:Y7) (a5:Y4) (a11:Z11) (a12 a13:Int):Z2:=itr A_V52 N 6 Tryz.f77 [1,1,0,1,0,0] n (([.u,.u,W9 a2,.u,.u,W1 a5]++ud 5 [.val Q7 .i a11,W0 a12,W0 a13])++us 14) K
noncomputable def xa5:Ex→St→Z2:=finish A_V52 S_V52 Tryz.f77.results.toList
noncomputable def xhz (kX:T4) (a2:Y7) (a5:Y4):Z2:=kX ([.u,.u,W9 a2,.u,.u,W1 a5]++us 22)
noncomputable def xhy (kX:T4) (kO:T3):=exK xa5 0 (A_V52.shape 15) kX kO
theorem xh1 (N kX kO):∀n,wkz N n (xhy kX kO)=w0x N (xhz kX) n :=
 itE rfl fun m=>by kernel_rfl
noncomputable def wr9 (N:Nat):=(blockK 0 (sqK A_V52 N 15 500007 Tryz.f77 [1,1,1] xa5))
noncomputable def xh2 (N:Nat) (st':St):Z2:=rn A_V52 N Tryz.f77 [1,1,1] st' xa5
theorem xs6 (N):wkz N N (wr9 N)=w0w N:=by
 rw[show wkz N N (wr9 N)=wkz N N (xhy (xh2 N) fun j=>(wr9 N) (.exit j)) from(by funext _ _ _ _ _;exact jk7),xh1,show xhz (xh2 N)=wc8 by kernel_rfl];rfl
theorem run_V52 (N x):runF A_V52 N Tryz.f77 S_V52 x=V52 N x.1 x.2.1:=(show _=(wxm (wkz N N (wr9 N)) x.1 x.2.1) by kernel_rfl).trans (by rw[xs6 N];rfl)
theorem ok_V52:OK 77 S_V52:=gdR (A:=A_V52) tc Tryz.func77 (jed ⟨ok_V49,ok_V50,ok_V51,trivial⟩) (run_V52 big)
def wk1 (rec:T97) (k:Y1→Z11→Z2) (a0:Y1) (a5:Z11) (a9:Y4) (a10 a11:Int):Z2 :=
  cond (decide (a11<a10))
  ((atI a9 a11).bind fun xq1 =>
  (V46 a0 xq1).bind fun rq2 =>
  (appI a5 [(rq2.1,(xq1,()))]).bind fun xq3 =>
  rec a0 xq3 a9 a10 (IntKind.i64.wrap (a11+1)))
  (k a0 a5)
def wgu (a0:Y1) (a5:Z11):Z2 :=
  (V48 a0).bind fun rq4 =>
  (V52 big rq4.1 a5).bind fun rq5 =>
  some (rq5.1,(()))
def xa6 (L3:T97) (l_0:Y1) (set_1:Y4):Z2 :=
  L3 l_0 [] set_1 (set_1.length:Int) 0
def w0z (N:Nat) (k:Y1→Z11→Z2):=itN (fun r=>wk1 r k) fun _ _ _ _ _=>none
def w0y (N:Nat):=w0z N (wgu) N
def V53 (N:Nat) (l_0:Y1) (set_1:Y4):Z2:=xa6 (w0y N) l_0 set_1
def S_V53:Sig:=⟨(.pair Q10 Q14),[0,0],[],.unit,Q3,O2,fun x=>V53 big x.1 x.2.1⟩
def A_V53:Cfg:=mkCfg tab [(76,S_V46),(38,S_V48),(77,S_V52)] [(6,([.as Q10 .i]++dr 4 ([B10]++dr 3 [B2,B0,B0]))),(15,([.as Q10 .i]++dr 4 [B10]))]
noncomputable def wk0 (N n:Nat) (K:T13) (a0:Y1) (a5:Z11) (a9:Y4) (a10 a11:Int):Z2:=itr A_V53 N 6 Tryz.f41 [1,1,0,1,0,0] n (([.val Q10 .i a0]++ud 4 ([W10 a5]++ud 3 [W2 a9,W0 a10,W0 a11]))++us 16) K
noncomputable def xa7:Ex→St→Z2:=finish A_V53 S_V53 Tryz.f41.results.toList
noncomputable def xh4 (kX:T4) (a0:Y1) (a5:Z11):Z2:=kX (([.val Q10 .i a0]++ud 4 [W10 a5])++us 22)
noncomputable def xh3 (kX:T4) (kO:T3):=exK xa7 0 (A_V53.shape 15) kX kO
theorem xh5 (N kX kO):∀n,wk0 N n (xh3 kX kO)=w0z N (xh4 kX) n :=
 itE rfl fun m=>by kernel_rfl
noncomputable def wsa (N:Nat):=(blockK 0 (sqK A_V53 N 15 500007 Tryz.f41 [1,1,1] xa7))
noncomputable def xh6 (N:Nat) (st':St):Z2:=rn A_V53 N Tryz.f41 [1,1,1] st' xa7
theorem xs7 (N):wk0 N N (wsa N)=w0y N:=by
 rw[show wk0 N N (wsa N)=wk0 N N (xh3 (xh6 N) fun j=>(wsa N) (.exit j)) from(by funext _ _ _ _ _;exact jk7),xh5,show xh4 (xh6 N)=wgu by kernel_rfl];rfl
theorem run_V53 (N x):runF A_V53 N Tryz.f41 S_V53 x=V53 N x.1 x.2.1:=(show _=(xa6 (wk0 N N (wsa N)) x.1 x.2.1) by kernel_rfl).trans (by rw[xs7 N];rfl)
theorem ok_V53:OK 41 S_V53:=gdR (A:=A_V53) tc Tryz.func41 (jed ⟨ok_V46,ok_V48,ok_V52,trivial⟩) (run_V53 big)
def wk3 (rec:T83) (k:T14) (a0:Y1) (a1 a5 a10:Y4) (a11 a12:Int):Z2 :=
  cond (decide (a12<a11))
  ((atI a10 a12).bind fun _ =>
  (a10[a12.toNat]?).bind fun xq2 =>
  (atI a1 xq2).bind fun xq3 =>
  (V46 a0 xq2).bind fun rq4 =>
  (atI a1 rq4.1).bind fun xq5 =>
  cond (decide (xq3=xq5))
  ((appI a5 [xq2]).bind fun xq6 =>
  rec a0 a1 xq6 a10 a11 (IntKind.i64.wrap (a12+1)))
  (rec a0 a1 a5 a10 a11 (IntKind.i64.wrap (a12+1))))
  (k a5)
def wgv (a5:Y4):Z2 :=
  some (a5,(()))
def xa8 (L3:T83) (l_0:Y1) (c_1:Y4):Z2 :=
  (V41 l_0).bind fun rq1 =>
  L3 l_0 c_1 [] rq1.1 (rq1.1.length:Int) 0
def w01 (N:Nat) (k:T14):=itN (fun r=>wk3 r k) fun _ _ _ _ _ _=>none
def w00 (N:Nat):=w01 N (wgv) N
def V54 (N:Nat) (l_0:Y1) (c_1:Y4):Z2:=xa8 (w00 N) l_0 c_1
def S_V54:Sig:=⟨(.pair Q10 Q14),[0,0],[],.unit,Q3,O2,fun x=>V54 big x.1 x.2.1⟩
def A_V54:Cfg:=mkCfg tab [(29,S_V41),(76,S_V46)] [(6,([.as Q10 .i,B2]++dr 3 ([B1]++dr 4 [B1,B0,B0]))),(17,(dr 5 [B1]))]
noncomputable def wk2 (N n:Nat) (K:T13) (a0:Y1) (a1 a5 a10:Y4) (a11 a12:Int):Z2:=itr A_V54 N 6 Tryz.f43 [1,1,0,1,0,0] n (([.val Q10 .i a0,W2 a1]++ud 3 ([W1 a5]++ud 4 [W1 a10,W0 a11,W0 a12]))++us 20) K
noncomputable def xa9:Ex→St→Z2:=finish A_V54 S_V54 Tryz.f43.results.toList
noncomputable def xh8 (kX:T4) (a5:Y4):Z2:=kX ((ud 5 [W1 a5])++us 27)
noncomputable def xh7 (kX:T4) (kO:T3):=exK xa9 0 (A_V54.shape 17) kX kO
theorem xh9 (N kX kO):∀n,wk2 N n (xh7 kX kO)=w01 N (xh8 kX) n :=
 itE rfl fun m=>by kernel_rfl
noncomputable def wsb (N:Nat):=(blockK 0 (sqK A_V54 N 17 500008 Tryz.f43 [1,1,1] xa9))
noncomputable def xia (N:Nat) (st':St):Z2:=rn A_V54 N Tryz.f43 [1,1,1] st' xa9
theorem xs8 (N):wk2 N N (wsb N)=w00 N:=by
 rw[show wk2 N N (wsb N)=wk2 N N (xh7 (xia N) fun j=>(wsb N) (.exit j)) from(by funext _ _ _ _ _ _;exact jk7),xh9,show xh8 (xia N)=wgv by kernel_rfl];rfl
theorem run_V54 (N x):runF A_V54 N Tryz.f43 S_V54 x=V54 N x.1 x.2.1:=(show _=(xa8 (wk2 N N (wsb N)) x.1 x.2.1) by kernel_rfl).trans (by rw[xs8 N];rfl)
theorem ok_V54:OK 43 S_V54:=gdR (A:=A_V54) tc Tryz.func43 (jed ⟨ok_V41,ok_V46,trivial⟩) (run_V54 big)
def xp4 (l_0:Y1) (set_1:Y4):Z2 :=
  (V53 big l_0 set_1).bind fun rq1 =>
  (V54 big l_0 rq1.1).bind fun rq2 =>
  some (rq2.1,(()))
def V55 (l_0:Y1) (set_1:Y4):Z2:=xp4 l_0 set_1
def S_V55:Sig:=⟨(.pair Q10 Q14),[0,0],[],.unit,Q3,O2,fun x=>V55 x.1 x.2.1⟩
def A_V55:Cfg:=mkCfg tab [(41,S_V53),(43,S_V54)] []
theorem run_V55 (N x):runF A_V55 N Tryz.f56 S_V55 x=V55 x.1 x.2.1:=by kernel_rfl
theorem ok_V55:OK 56 S_V55:=gdR (A:=A_V55) tc Tryz.func56 (jed ⟨ok_V53,ok_V54,trivial⟩) (run_V55 big)
def wk5 (rec:T69) (k:Z0) (a1:Int) (a7:Y4) (a8 a9:Int):Z0 :=
  cond (decide (a9<a8))
  ((atI a7 a9).bind fun xq1 =>
  cond (decide (a1=xq1))
  (some (false,(())))
  (rec a1 a7 a8 (IntKind.i64.wrap (a9+1))))
  (k)
def wgw:Z0 :=
  some (true,(()))
def xba (L2:T69) (list_0:Y4) (x_1:Int):Z0 :=
  L2 x_1 list_0 (list_0.length:Int) 0
def w03 (N:Nat) (k:Z0):=itN (fun r=>wk5 r k) fun _ _ _ _=>none
def w02 (N:Nat):=w03 N (wgw) N
def V56 (N:Nat) (list_0:Y4) (x_1:Int):Z0:=xba (w02 N) list_0 x_1
def S_V56:Sig:=⟨(.pair Q3 Q15),[0,0],[],.unit,.bool,.i,fun x=>V56 big x.1 x.2.1⟩
def A_V56:Cfg:=mkCfg tab [] [(4,([D0,B0]++dr 5 [B2,B0,B0])),(15,[])]
noncomputable def wk4 (N n:Nat) (K:T8) (a1:Int) (a7:Y4) (a8 a9:Int):Z0:=itr A_V56 N 4 Tryz.f110 [1,0,1,0,0] n (([.u,W0 a1]++ud 5 [W2 a7,W0 a8,W0 a9])++us 7) K
noncomputable def xbb:Ex→St→Z0:=finish A_V56 S_V56 Tryz.f110.results.toList
noncomputable def xic (kX:T1):Z0:=kX ([]++us 17)
noncomputable def xib (kX:T1) (kO:T0):=exK xbb 0 (A_V56.shape 15) kX kO
theorem xid (N kX kO):∀n,wk4 N n (xib kX kO)=w03 N (xic kX) n :=
 itE rfl fun m=>by kernel_rfl
noncomputable def wsc (N:Nat):=(blockK 0 (sqK A_V56 N 15 500007 Tryz.f110 [1,1] xbb))
noncomputable def xie (N:Nat) (st':St):Z0:=rn A_V56 N Tryz.f110 [1,1] st' xbb
theorem xs9 (N):wk4 N N (wsc N)=w02 N:=by
 rw[show wk4 N N (wsc N)=wk4 N N (xib (xie N) fun j=>(wsc N) (.exit j)) from(by funext _ _ _ _;exact jk7),xid,show xic (xie N)=wgw by kernel_rfl];rfl
theorem run_V56 (N x):runF A_V56 N Tryz.f110 S_V56 x=V56 N x.1 x.2.1:=(show _=(xba (wk4 N N (wsc N)) x.1 x.2.1) by kernel_rfl).trans (by rw[xs9 N];rfl)
theorem ok_V56:OK 110 S_V56:=gdR (A:=A_V56) tc Tryz.func110 (jed trivial) (run_V56 big)
def wk7 (rec:T24) (k:Z0) (a1 a7:Y4) (a8 a9:Int):Z0 :=
  cond (decide (a9<a8))
  ((atI a7 a9).bind fun xq1 =>
  (V56 big a1 xq1).bind fun rq2 =>
  cond rq2.1
  (some (false,(())))
  (rec a1 a7 a8 (IntKind.i64.wrap (a9+1))))
  (k)
def wgx:Z0 :=
  some (true,(()))
def xbc (L2:T24) (x_0 y_1:Y4):Z0 :=
  L2 y_1 x_0 (x_0.length:Int) 0
def w05 (N:Nat) (k:Z0):=itN (fun r=>wk7 r k) fun _ _ _ _=>none
def w04 (N:Nat):=w05 N (wgx) N
def V57 (N:Nat) (x_0 y_1:Y4):Z0:=xbc (w04 N) x_0 y_1
def S_V57:Sig:=⟨(.pair Q3 Q14),[0,0],[],.unit,.bool,.i,fun x=>V57 big x.1 x.2.1⟩
def A_V57:Cfg:=mkCfg tab [(110,S_V56)] [(4,([D0,B2]++dr 5 [B2,B0,B0])),(15,[])]
noncomputable def wk6 (N n:Nat) (K:T8) (a1 a7:Y4) (a8 a9:Int):Z0:=itr A_V57 N 4 Tryz.f64 [1,0,1,0,0] n (([.u,W2 a1]++ud 5 [W2 a7,W0 a8,W0 a9])++us 7) K
noncomputable def xbd:Ex→St→Z0:=finish A_V57 S_V57 Tryz.f64.results.toList
noncomputable def xig (kX:T1):Z0:=kX ([]++us 17)
noncomputable def xif (kX:T1) (kO:T0):=exK xbd 0 (A_V57.shape 15) kX kO
theorem xih (N kX kO):∀n,wk6 N n (xif kX kO)=w05 N (xig kX) n :=
 itE rfl fun m=>by kernel_rfl
noncomputable def wsd (N:Nat):=(blockK 0 (sqK A_V57 N 15 500007 Tryz.f64 [1,1] xbd))
noncomputable def xii (N:Nat) (st':St):Z0:=rn A_V57 N Tryz.f64 [1,1] st' xbd
theorem xta (N):wk6 N N (wsd N)=w04 N:=by
 rw[show wk6 N N (wsd N)=wk6 N N (xif (xii N) fun j=>(wsd N) (.exit j)) from(by funext _ _ _ _;exact jk7),xih,show xig (xii N)=wgx by kernel_rfl];rfl
theorem run_V57 (N x):runF A_V57 N Tryz.f64 S_V57 x=V57 N x.1 x.2.1:=(show _=(xbc (wk6 N N (wsd N)) x.1 x.2.1) by kernel_rfl).trans (by rw[xta N];rfl)
theorem ok_V57:OK 64 S_V57:=gdR (A:=A_V57) tc Tryz.func64 (jed ⟨ok_V56,trivial⟩) (run_V57 big)
def wk9 (rec:T101) (k:Y4→Z0) (a0:Y1) (a1 a7:Y4) (a8 a9:Int):Z0 :=
  cond (decide (a9<a8))
  ((atI a7 a9).bind fun xq1 =>
  (V45 a0 xq1).bind fun rq2 =>
  cond (!rq2.1)
  (some (false,(())))
  ((V55 a0 [xq1]).bind fun rq3 =>
  (V57 big rq3.1 a1).bind fun rq4 =>
  cond (!rq4.1)
  (some (false,(())))
  (rec a0 a1 a7 a8 (IntKind.i64.wrap (a9+1)))))
  (k a1)
def wgy (a1:Y4):Z0 :=
  (V23 big a1).bind fun rq5 =>
  some (rq5.1,(()))
def xbe (L2:T101) (l_0:Y1) (set_1:Y4):Z0 :=
  L2 l_0 set_1 set_1 (set_1.length:Int) 0
def w07 (N:Nat) (k:Y4→Z0):=itN (fun r=>wk9 r k) fun _ _ _ _ _=>none
def w06 (N:Nat):=w07 N (wgy) N
def V58 (N:Nat) (l_0:Y1) (set_1:Y4):Z0:=xbe (w06 N) l_0 set_1
def S_V58:Sig:=⟨(.pair Q10 Q14),[0,0],[],.unit,.bool,.i,fun x=>V58 big x.1 x.2.1⟩
def A_V58:Cfg:=mkCfg tab [(63,S_V45),(56,S_V55),(64,S_V57),(65,S_V23)] [(4,([.as Q10 .i,B2]++dr 5 [B2,B0,B0])),(15,[D0,B2])]
noncomputable def wk8 (N n:Nat) (K:T8) (a0:Y1) (a1 a7:Y4) (a8 a9:Int):Z0:=itr A_V58 N 4 Tryz.f32 [1,0,1,0,0] n (([.val Q10 .i a0,W2 a1]++ud 5 [W2 a7,W0 a8,W0 a9])++us 19) K
noncomputable def xbf:Ex→St→Z0:=finish A_V58 S_V58 Tryz.f32.results.toList
noncomputable def xik (kX:T1) (a1:Y4):Z0:=kX ([.u,W2 a1]++us 27)
noncomputable def xij (kX:T1) (kO:T0):=exK xbf 0 (A_V58.shape 15) kX kO
theorem xil (N kX kO):∀n,wk8 N n (xij kX kO)=w07 N (xik kX) n :=
 itE rfl fun m=>by kernel_rfl
noncomputable def wse (N:Nat):=(blockK 0 (sqK A_V58 N 15 500007 Tryz.f32 [1,1] xbf))
noncomputable def xim (N:Nat) (st':St):Z0:=rn A_V58 N Tryz.f32 [1,1] st' xbf
theorem xtb (N):wk8 N N (wse N)=w06 N:=by
 rw[show wk8 N N (wse N)=wk8 N N (xij (xim N) fun j=>(wse N) (.exit j)) from(by funext _ _ _ _ _;exact jk7),xil,show xik (xim N)=wgy by kernel_rfl];rfl
theorem run_V58 (N x):runF A_V58 N Tryz.f32 S_V58 x=V58 N x.1 x.2.1:=(show _=(xbe (wk8 N N (wse N)) x.1 x.2.1) by kernel_rfl).trans (by rw[xtb N];rfl)
theorem ok_V58:OK 32 S_V58:=gdR (A:=A_V58) tc Tryz.func32 (jed ⟨ok_V45,ok_V55,ok_V57,ok_V23,trivial⟩) (run_V58 big)
end Go.Proofs.YtaehhdpcmfagjaaGreat
