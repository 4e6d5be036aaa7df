import Derived.Test.YtgmapdlhkfajoaaGreatUST
set_option maxRecDepth 100000
set_option linter.unusedVariables false
namespace Go.Proofs.YtgmapdlhkfajoaaGreat
open Go Go.Gx Go.Proofs
def wqv (rec k:T102) (a0:Z13) (a2 a9:Y2):Z6 :=
  (V2 a0 2).bind fun rq53 =>
  cond (decide ((a9.1.length:Int)<(IntKind.i64.wrap (10+rq53.1))))
  ((appI a9.1 [[(a9.1.length:Int)]]).bind fun xq54 =>
  rec rq53.2.1 a2 (xq54,((),a9.2).2))
  (k rq53.2.1 a2 a9)
def wct (a0:Z13) (a2 a9:Y2):Z6 :=
  some (a9,(a0,()))
def wcv (rec:T59) (k:T54) (a0:Z13) (a2:Y2) (a3:Int) (a4:Z16) (a7:Y4) (a8:Int):Z6 :=
  cond (decide (a8<(a4.length:Int)))
  ((atI a4 a8).bind fun _ =>
  (a4[a8.toNat]?).bind fun xq33 =>
  (a4[a8.toNat]?).bind fun xq34 =>
  (atI a7 xq34.1).bind fun _ =>
  (a7[xq34.1.toNat]?).bind fun xq35 =>
  (atI a4 a8).bind fun _ =>
  (a4[a8.toNat]?).bind fun xq36 =>
  (a4[a8.toNat]?).bind fun xq37 =>
  (atI a7 xq37.2.1).bind fun _ =>
  (a7[xq37.2.1.toNat]?).bind fun xq38 =>
  (atI a4 a8).bind fun _ =>
  (a4[a8.toNat]?).bind fun xq39 =>
  rec a0 a2 a3 (a4.set a8.toNat (xq35,(xq38,()))) a7 (IntKind.i64.wrap (a8+1)))
  (k a0 a2 a3 a4)
def x9 (L29:T102) (a0:Z13) (a2:Y2) (a3:Int) (a4:Z16):Z6 :=
  (V9 big a3 a4).bind fun rq40 =>
  cond (decide (a3=0))
  (some (rq40.1,(a0,())))
  ((V3 a0 16).bind fun rq41 =>
  cond (!rq41.1)
  (some (rq40.1,(rq41.2.1,())))
  ((V2 rq41.2.1 a3).bind fun rq42 =>
  (V2 rq42.2.1 4).bind fun rq43 =>
  cond (decide (rq43.1=0))
  ((atI rq40.1.1 rq42.1).bind fun _ =>
  (rq40.1.1[rq42.1.toNat]?).bind fun xq44 =>
  (slI xq44 1 xq44.length).bind fun xq45 =>
  (atI rq40.1.1 rq42.1).bind fun _ =>
  (rq40.1.1[rq42.1.toNat]?).bind fun xq46 =>
  some ((rq40.1.1.set rq42.1.toNat xq45,rq40.1.2),(rq43.2.1,())))
  (cond (decide (rq43.1=1))
  ((atI rq40.1.1 rq42.1).bind fun xq47 =>
  (appI xq47 [a3]).bind fun xq48 =>
  some ((rq40.1.1.set (rq42.1).toNat xq48,rq40.1.2),(rq43.2.1,())))
  (cond (decide (rq43.1=2))
  ((atI rq40.1.1 rq42.1).bind fun _ =>
  (rq40.1.1[rq42.1.toNat]?).bind fun xq49 =>
  (V2 rq43.2.1 a3).bind fun rq50 =>
  (V10 big xq49 rq50.1).bind fun rq51 =>
  (atI rq40.1.1 rq42.1).bind fun _ =>
  (rq40.1.1[rq42.1.toNat]?).bind fun xq52 =>
  some ((rq40.1.1.set rq42.1.toNat rq51.1,rq40.1.2),(rq50.2.1,())))
  (cond (decide (rq43.1=3))
  (L29 rq43.2.1 a2 rq40.1)
  (some (rq40.1,(rq43.2.1,()))))))))
def wg2 (rec:T57) (k:T11) (a0:Z13) (a2:Y2) (a3:Int) (a4:Z16) (a5 a6:Int):Z6 :=
  cond (decide (a6<a3))
  ((V3 a0 3).bind fun rq31 =>
  cond rq31.1
  ((appI a4 [(a5,(a6,()))]).bind fun xq32 =>
  rec rq31.2.1 a2 a3 xq32 a5 (IntKind.i64.wrap (a6+1)))
  (rec rq31.2.1 a2 a3 a4 a5 (IntKind.i64.wrap (a6+1))))
  (k a0 a2 a3 a4 a5)
def wcu (rec:T11) (a0:Z13) (a2:Y2) (a3:Int) (a4:Z16) (a5:Int):Z6 :=
  rec a0 a2 a3 a4 (IntKind.i64.wrap (a5+1))
def wcw (L7:T57) (k:T54) (a0:Z13) (a2:Y2) (a3:Int) (a4:Z16) (a5:Int):Z6 :=
  cond (decide (a5<a3))
  (L7 a0 a2 a3 a4 a5 (IntKind.i64.wrap (a5+1)))
  (k a0 a2 a3 a4)
def yj (L14:T59) (L29:T102) (a0:Z13) (a2:Y2) (a3:Int) (a4:Z16):Z6 :=
  (V5 big a0 a3).bind fun rq2 =>
  (V8 big rq2.1 a3).bind fun rq3 =>
  cond rq3.1
  ((V3 rq2.2.1 2).bind fun rq4 =>
  cond rq4.1
  (L14 rq4.2.1 a2 a3 a4 rq2.1 0)
  ((V9 big a3 a4).bind fun rq5 =>
  cond (decide (a3=0))
  (some (rq5.1,(rq4.2.1,())))
  ((V3 rq4.2.1 16).bind fun rq6 =>
  cond (!rq6.1)
  (some (rq5.1,(rq6.2.1,())))
  ((V2 rq6.2.1 a3).bind fun rq7 =>
  (V2 rq7.2.1 4).bind fun rq8 =>
  cond (decide (rq8.1=0))
  ((atI rq5.1.1 rq7.1).bind fun _ =>
  (rq5.1.1[rq7.1.toNat]?).bind fun xq9 =>
  (slI xq9 1 xq9.length).bind fun xq10 =>
  (atI rq5.1.1 rq7.1).bind fun _ =>
  (rq5.1.1[rq7.1.toNat]?).bind fun xq11 =>
  some ((rq5.1.1.set rq7.1.toNat xq10,rq5.1.2),(rq8.2.1,())))
  (cond (decide (rq8.1=1))
  ((atI rq5.1.1 rq7.1).bind fun xq12 =>
  (appI xq12 [a3]).bind fun xq13 =>
  some ((rq5.1.1.set (rq7.1).toNat xq13,rq5.1.2),(rq8.2.1,())))
  (cond (decide (rq8.1=2))
  ((atI rq5.1.1 rq7.1).bind fun _ =>
  (rq5.1.1[rq7.1.toNat]?).bind fun xq14 =>
  (V2 rq8.2.1 a3).bind fun rq15 =>
  (V10 big xq14 rq15.1).bind fun rq16 =>
  (atI rq5.1.1 rq7.1).bind fun _ =>
  (rq5.1.1[rq7.1.toNat]?).bind fun xq17 =>
  some ((rq5.1.1.set rq7.1.toNat rq16.1,rq5.1.2),(rq15.2.1,())))
  (cond (decide (rq8.1=3))
  (L29 rq8.2.1 a2 rq5.1)
  (some (rq5.1,(rq8.2.1,()))))))))))
  ((V9 big a3 a4).bind fun rq18 =>
  cond (decide (a3=0))
  (some (rq18.1,(rq2.2.1,())))
  ((V3 rq2.2.1 16).bind fun rq19 =>
  cond (!rq19.1)
  (some (rq18.1,(rq19.2.1,())))
  ((V2 rq19.2.1 a3).bind fun rq20 =>
  (V2 rq20.2.1 4).bind fun rq21 =>
  cond (decide (rq21.1=0))
  ((atI rq18.1.1 rq20.1).bind fun _ =>
  (rq18.1.1[rq20.1.toNat]?).bind fun xq22 =>
  (slI xq22 1 xq22.length).bind fun xq23 =>
  (atI rq18.1.1 rq20.1).bind fun _ =>
  (rq18.1.1[rq20.1.toNat]?).bind fun xq24 =>
  some ((rq18.1.1.set rq20.1.toNat xq23,rq18.1.2),(rq21.2.1,())))
  (cond (decide (rq21.1=1))
  ((atI rq18.1.1 rq20.1).bind fun xq25 =>
  (appI xq25 [a3]).bind fun xq26 =>
  some ((rq18.1.1.set (rq20.1).toNat xq26,rq18.1.2),(rq21.2.1,())))
  (cond (decide (rq21.1=2))
  ((atI rq18.1.1 rq20.1).bind fun _ =>
  (rq18.1.1[rq20.1.toNat]?).bind fun xq27 =>
  (V2 rq21.2.1 a3).bind fun rq28 =>
  (V10 big xq27 rq28.1).bind fun rq29 =>
  (atI rq18.1.1 rq20.1).bind fun _ =>
  (rq18.1.1[rq20.1.toNat]?).bind fun xq30 =>
  some ((rq18.1.1.set rq20.1.toNat rq29.1,rq18.1.2),(rq28.2.1,())))
  (cond (decide (rq21.1=3))
  (L29 rq21.2.1 a2 rq18.1)
  (some (rq18.1,(rq21.2.1,())))))))))
def w2z (L4:T11) (c_0:Z13):Z6 :=
  (V4 c_0 [(0:Int),1,2,3,4,4,5,5,6,7]).bind fun rq1 =>
  L4 rq1.2.1 (([]:Y3),()) rq1.1 [] 0
def wtr (N:Nat) (k:T11):=itN (fun r=>wg2 r k) fun _ _ _ _ _ _=>none
def wg0 (N:Nat) (rec:T11) (k:T54):=wtr N (wcu rec) N
def wtq (N:Nat) (k:T54):=itN (fun r=>wcw (wg0 N r k) k) fun _ _ _ _ _=>none
def wqw (N:Nat) (k:T54):=itN (fun r=>wcv r k) fun _ _ _ _ _ _=>none
def wqx (N:Nat) (k:T102):=itN (fun r=>wqv r k) fun _ _ _=>none
def wh (N:Nat):=wqx N (wct) N
def xh (N:Nat):=wqw N (x9 (wh N)) N
def wto (N:Nat):=wtq N (yj (xh N) (wh N)) N
def V11 (N:Nat) (c_0:Z13):Z6:=w2z (wto N) c_0
def S_V11:Sig:=⟨Q23,[1],[O7],Q23,Q0,.i,fun x=>V11 big x.1⟩
def A_V11:Cfg:=hookCfg (fun i=>if i=25 then some PO.hook else none) (mkCfg tab [(59,S_V4),(91,S_V5),(92,S_V8),(89,S_V3),(94,S_V9),(54,S_V2),(128,S_V10)] [(8,[B8,D0,B2,B0,.as Q21 O7,B0]),(14,[B8,D0,B2,B0,.as Q21 O7,B0,B0]),(23,[B8,D0,B2,B0,.as Q21 O7]),(28,[B8,D0,B2,B0,.as Q21 O7,D0,D0,B1,B0]),(1000023,([B8,D0,B2]++dr 6 [.as Q9 (.o (.p O7 .i)),B0])),(1000027,([B8,D0,B2,B0]++dr 5 [.as Q9 (.o (.p O7 .i)),B0])),(58,([B8,D0,B2]++dr 6 [B2])),(11,[B8,D0,B2,B0,.as Q21 O7,B0]),(35,[B8,D0,B2,B0,.as Q21 O7]),(63,([B8,D0,B2]++dr 6 [.as Q9 (.o (.p O7 .i))]))])
noncomputable def wat (N n:Nat) (K:T112) (a0:Z13) (a2:Y2) (a3:Int) (a4:Z16) (a5:Int):Z6:=itr A_V11 N 8 Tryz.f116 [1,1,1,0,1,0,0] n ([.val Q3 O7 a0,.u,W2 a2,W0 a3,.val Q21 O7 a4,W0 a5]++us 141) K
noncomputable def wg1 (N n:Nat) (K:T112) (a0:Z13) (a2:Y2) (a3:Int) (a4:Z16) (a5 a6:Int):Z6:=itr A_V11 N 14 Tryz.f116 [1,1,1,0,1,0,0,1,0,0,1,0,0] n ([.val Q3 O7 a0,.u,W2 a2,W0 a3,.val Q21 O7 a4,W0 a5,W0 a6]++us 140) K
noncomputable def wcs (N n:Nat) (K:T112) (a0:Z13) (a2:Y2) (a3:Int) (a4:Z16) (a7:Y4) (a8:Int):Z6:=itr A_V11 N 28 Tryz.f116 [1,1,1,1,0,1,1,0,1,0,0] n ([.val Q3 O7 a0,.u,W2 a2,W0 a3,.val Q21 O7 a4,.u,.u,W1 a7,W0 a8]++us 138) K
noncomputable def zz (N n:Nat) (K:T112) (a0:Z13) (a2 a9:Y2):Z6:=itr A_V11 N 58 Tryz.f116 [1,1,1,1,1,1,1,1,0,1,0,1,1,1,1,1,1,1,0,0,0] n (([.val Q3 O7 a0,.u,W2 a2]++ud 6 [W2 a9])++us 137) K
noncomputable def yh:Ex→St→Z6:=finish A_V11 S_V11 Tryz.f116.results.toList
noncomputable def wmn (kX:T98) (a0:Z13) (a2:Y2) (a3:Int) (a4:Z16):Z6:=kX ([.val Q3 O7 a0,.u,W2 a2,W0 a3,.val Q21 O7 a4]++us 142)
noncomputable def wcq (kX:T98) (kO:T90):=exK yh 0 (A_V11.shape 23) kX kO
noncomputable def w6u (kX:T98) (a0:Z13) (a2:Y2) (a3:Int) (a4:Z16) (a5:Int):Z6:=kX ([.val Q3 O7 a0,.u,W2 a2,W0 a3,.val Q21 O7 a4,W0 a5]++us 141)
noncomputable def w6t (kX:T98) (kO:T90):=exK yh 2 (A_V11.shape 11) kX kO
noncomputable def w0g (kX:T98) (a0:Z13) (a2:Y2) (a3:Int) (a4:Z16):Z6:=kX ([.val Q3 O7 a0,.u,W2 a2,W0 a3,.val Q21 O7 a4]++us 142)
noncomputable def w0e (kX:T98) (kO:T90):=exK yh 4 (A_V11.shape 35) kX kO
noncomputable def w0h (kX:T98) (a0:Z13) (a2 a9:Y2):Z6:=kX (([.val Q3 O7 a0,.u,W2 a2]++ud 6 [.val Q9 (.o (.p O7 .i)) a9])++us 137)
noncomputable def w0f (kX:T98) (kO:T90):=exK yh 7 (A_V11.shape 63) kX kO
theorem w6w (N kX kO):∀n,wg1 N n (w6t kX kO)=wtr N (w6u kX) n :=
 itE rfl fun m=>by kernel_rfl
noncomputable def wmm (N m:Nat) (kX:T98) (kO:T90):=(blockK 2 (blockK 1 (sqK A_V11 N 11 500005 Tryz.f116 [1,1,1,0,1,0,0,1,1] (itK A_V11 N 8 Tryz.f116 [1,1,1,0,1,0,0] m (wcq kX kO)))))
noncomputable def w6y (N m:Nat) (kX:T98) (kO:T90) (st':St):Z6:=rn A_V11 N Tryz.f116 [1,1,1,0,1,0,0,1,1] st' (itK A_V11 N 8 Tryz.f116 [1,1,1,0,1,0,0] m (wcq kX kO))
theorem xii (N m kX kO) {r}(h:wat N m (wcq kX kO)=r):wg1 N N (wmm N m kX kO)=wg0 N r (wmn kX):=by
 rw[show wg1 N N (wmm N m kX kO)=wg1 N N (w6t (w6y N m kX kO) fun j=>(wmm N m kX kO) (.exit j)) from(by funext _ _ _ _ _ _;exact jlo),w6w,show w6u (w6y N m kX kO)=wcu (wat N m (wcq kX kO)) by kernel_rfl,h];rfl
theorem w6v (N kX kO):∀n,wat N n (wcq kX kO)=wtq N (wmn kX) n :=
 itE rfl fun m=>(show _=wcw (wg1 N N (wmm N m kX kO)) (wmn kX) by kernel_rfl).trans (by rw[xii N m kX kO rfl]<;>rfl)
noncomputable def wml (N:Nat):=(blockK 0 (sqK A_V11 N 23 500011 Tryz.f116 [1,1,1,1] yh))
theorem w2x (N kX kO):∀n,wcs N n (w0e kX kO)=wqw N (w0g kX) n :=
 itE rfl fun m=>by kernel_rfl
noncomputable def wkt (N:Nat):=(blockK 4 (sqK A_V11 N 35 500017 Tryz.f116 [1,1,1,1,1] yh))
theorem w2y (N kX kO):∀n,zz N n (w0f kX kO)=wqx N (w0h kX) n :=
 itE rfl fun m=>by kernel_rfl
noncomputable def wcr (N:Nat):=(blockK 7 (blockK 6 (sqK A_V11 N 63 500031 Tryz.f116 [1,1,1,1,1,1,1,1,1] yh)))
noncomputable def w0j (N:Nat) (st':St):Z6:=rn A_V11 N Tryz.f116 [1,1,1,1,1,1,1,1,1] st' yh
theorem wtp (N):zz N N (wcr N)=wh N:=by
 rw[show zz N N (wcr N)=zz N N (w0f (w0j N) fun j=>(wcr N) (.exit j)) from(by funext _ _ _;exact jlo),w2y,show w0h (w0j N)=wct by kernel_rfl];rfl
noncomputable def w0i (N:Nat) (st':St):Z6:=rn A_V11 N Tryz.f116 [1,1,1,1,1] st' yh
theorem xfc (N):wcs N N (wkt N)=xh N:=by
 rw[show wcs N N (wkt N)=wcs N N (w0e (w0i N) fun j=>(wkt N) (.exit j)) from(by funext _ _ _ _ _ _;exact jlo),w2x,show w0g (w0i N)=x9 (zz N N (wcr N)) by kernel_rfl,wtp N];rfl
noncomputable def w6x (N:Nat) (st':St):Z6:=rn A_V11 N Tryz.f116 [1,1,1,1] st' yh
theorem xih (N):wat N N (wml N)=wto N:=by
 rw[show wat N N (wml N)=wat N N (wcq (w6x N) fun j=>(wml N) (.exit j)) from(by funext _ _ _ _ _;exact jlo),w6v,show wmn (w6x N)=yj (wcs N N (wkt N)) (zz N N (wcr N)) by kernel_rfl,xfc N,wtp N];rfl
theorem run_V11 (N x):runF A_V11 N Tryz.f116 S_V11 x=V11 N x.1:=(show _=(w2z (wat N N (wml N)) x.1) by kernel_rfl).trans (by rw[xih N];rfl)
theorem fn_V11:FnOk Tryz.prog 116:=⟨_,Tryz.func116,by kernel_rfl,by kernel_rfl⟩
theorem good_V11:Gx.Good Tryz.prog 116 S_V11:=jgw Tryz.func116 (of_decide_eq_true (by kernel_rfl)) fun x r h=>⟨A_V11,big,jit (vd tabOk),jhu (jes (show SigsOk Tryz.prog [(59,S_V4),(91,S_V5),(92,S_V8),(89,S_V3),(94,S_V9),(54,S_V2),(128,S_V10)] from⟨ok_V4,ok_V5,ok_V8,ok_V3,ok_V9,ok_V2,ok_V10,trivial⟩)),fun code hc=>jao (ids:=[25]) (fun i hi=>by simp only[List.mem_cons,List.not_mem_nil,or_false]at hi;simp[A_V11,hookCfg,hi]) fun c hm=>PO.hooks_spec_l1Cur_poset A_V11 (by rfl) code hc c hm,(run_V11 big x).trans h⟩
def xit (rec:T83) (k:T10) (a2 a3 a4 a5:Y2) (a6 a7 a8:Int) (a9:Y4) (a10 a11:Int):Z2 :=
  (atI a3.1 a8).bind fun xq3 =>
  cond (decide (a11<(xq3.length:Int)))
  ((atI a2.1 a7).bind fun xq4 =>
  (atI xq4 a10).bind fun xq5 =>
  (atI a3.1 a8).bind fun xq6 =>
  (atI xq6 a11).bind fun xq7 =>
  (appI a9 [IntKind.i64.wrap ((IntKind.i64.wrap (xq5*a6))+xq7)]).bind fun xq8 =>
  rec a2 a3 a4 a5 a6 a7 a8 xq8 a10 (IntKind.i64.wrap (a11+1)))
  (k a2 a3 a4 a5 a6 a7 a8 a9 a10)
def w09 (rec:T10) (a2 a3 a4 a5:Y2) (a6 a7 a8:Int) (a9:Y4) (a10:Int):Z2 :=
  rec a2 a3 a4 a5 a6 a7 a8 a9 (IntKind.i64.wrap (a10+1))
def w1a (L14:T83) (k:T71) (a2 a3 a4 a5:Y2) (a6 a7 a8:Int) (a9:Y4) (a10:Int):Z2 :=
  (atI a2.1 a7).bind fun xq1 =>
  cond (decide (a10<(xq1.length:Int)))
  (L14 a2 a3 a4 a5 a6 a7 a8 a9 a10 0)
  (k a2 a3 a4 a5 a6 a7 a8 a9)
def w08 (rec:T75) (a2 a3 a4 a5:Y2) (a6 a7 a8:Int) (a9:Y4):Z2 :=
  (appI a5.1 [a9]).bind fun xq2 =>
  rec a2 a3 a4 (xq2,((),a5.2).2) a6 a7 (IntKind.i64.wrap (a8+1))
def w68 (L11:T10) (k:T26) (a2 a3 a4 a5:Y2) (a6 a7 a8:Int):Z2 :=
  cond (decide (a8<a6))
  (L11 a2 a3 a4 a5 a6 a7 a8 [] 0)
  (k a2 a3 a4 a5 a6 a7)
def w66 (rec:T26) (a2 a3 a4 a5:Y2) (a6 a7:Int):Z2 :=
  rec a2 a3 a4 a5 a6 (IntKind.i64.wrap (a7+1))
def w67 (L7:T75) (k:T21) (a2 a3 a4 a5:Y2) (a6 a7:Int):Z2 :=
  cond (decide (a7<(a2.1.length:Int)))
  (L7 a2 a3 a4 a5 a6 a7 0)
  (k a4 a5)
def w65 (a4 a5:Y2):Z2 :=
  some (a5,(()))
def xgq (L4:T26) (p_0 q_1:Y2):Z2 :=
  L4 p_0 q_1 (([]:Y3),()) ([],()) (q_1.1.length:Int) 0
def w1e (N:Nat) (k:T10):=itN (fun r=>xit r k) fun _ _ _ _ _ _ _ _ _ _=>none
def w06 (N:Nat) (rec:T10) (k:T71):=w1e N (w09 rec) N
def w1d (N:Nat) (k:T71):=itN (fun r=>w1a (w06 N r k) k) fun _ _ _ _ _ _ _ _ _=>none
def w05 (N:Nat) (rec:T75) (k:T26):=w1d N (w08 rec) N
def w7e (N:Nat) (k:T26):=itN (fun r=>w68 (w05 N r k) k) fun _ _ _ _ _ _ _=>none
def w64 (N:Nat) (rec:T26) (k:T21):=w7e N (w66 rec) N
def w7d (N:Nat) (k:T21):=itN (fun r=>w67 (w64 N r k) k) fun _ _ _ _ _ _=>none
def w63 (N:Nat):=w7d N (w65) N
def V12 (N:Nat) (p_0 q_1:Y2):Z2:=xgq (w63 N) p_0 q_1
def S_V12:Sig:=⟨(.pair Q0 Q17),[0,0],[],.unit,Q0,(.p O14 .i),fun x=>V12 big x.1 x.2.1⟩
def A_V12:Cfg:=mkCfg tab [] [(8,[D0,D0,B3,B3,B2,B2,B0,B0]),(14,[D0,D0,B3,B3,B2,B2,B0,B0,B0]),(37,(dr 4 [B2,B2])),(22,[D0,D0,B3,B3,B2,B2,B0,B0,B0,B1,B0]),(11,[D0,D0,B3,B3,B2,B2,B0,B0]),(28,[D0,D0,B3,B3,B2,B2,B0,B0,B0,B1,B0,B0]),(35,[D0,D0,B3,B3,B2,B2,B0,B0,B0,B1]),(25,[D0,D0,B3,B3,B2,B2,B0,B0,B0,B1,B0])]
noncomputable def waz (N n:Nat) (K:T27) (a2 a3 a4 a5:Y2) (a6 a7:Int):Z2:=itr A_V12 N 8 Tryz.f129 [1,1,1,0,1,0,0] n ([.u,.u,W3 a2,W3 a3,W2 a4,W2 a5,W0 a6,W0 a7]++us 71) K
noncomputable def wa0 (N n:Nat) (K:T27) (a2 a3 a4 a5:Y2) (a6 a7 a8:Int):Z2:=itr A_V12 N 14 Tryz.f129 [1,1,1,0,1,0,0,1,0,0,1,0,0] n ([.u,.u,W3 a2,W3 a3,W2 a4,W2 a5,W0 a6,W0 a7,W0 a8]++us 70) K
noncomputable def yc (N n:Nat) (K:T27) (a2 a3 a4 a5:Y2) (a6 a7 a8:Int) (a9:Y4) (a10:Int):Z2:=itr A_V12 N 22 Tryz.f129 [1,1,1,0,1,0,0,1,0,0,1,0,0,1,0,0,1,0,1,0,0] n ([.u,.u,W3 a2,W3 a3,W2 a4,W2 a5,W0 a6,W0 a7,W0 a8,W1 a9,W0 a10]++us 68) K
noncomputable def wdc (N n:Nat) (K:T27) (a2 a3 a4 a5:Y2) (a6 a7 a8:Int) (a9:Y4) (a10 a11:Int):Z2:=itr A_V12 N 28 Tryz.f129 [1,1,1,0,1,0,0,1,0,0,1,0,0,1,0,0,1,0,1,0,0,1,0,0,1,0,0] n ([.u,.u,W3 a2,W3 a3,W2 a4,W2 a5,W0 a6,W0 a7,W0 a8,W1 a9,W0 a10,W0 a11]++us 67) K
noncomputable def wk9:Ex→St→Z2:=finish A_V12 S_V12 Tryz.f129.results.toList
noncomputable def wmr (kX:T1) (a4 a5:Y2):Z2:=kX ((ud 4 [W2 a4,W2 a5])++us 73)
noncomputable def wda (kX:T1) (kO:T0):=exK wk9 0 (A_V12.shape 37) kX kO
noncomputable def wms (kX:T1) (a2 a3 a4 a5:Y2) (a6 a7:Int):Z2:=kX ([.u,.u,W3 a2,W3 a3,W2 a4,W2 a5,W0 a6,W0 a7]++us 71)
noncomputable def wdb (kX:T1) (kO:T0):=exK wk9 2 (A_V12.shape 11) kX kO
noncomputable def wk8 (kX:T1) (a2 a3 a4 a5:Y2) (a6 a7 a8:Int) (a9:Y4):Z2:=kX ([.u,.u,W3 a2,W3 a3,W2 a4,W2 a5,W0 a6,W0 a7,W0 a8,W1 a9]++us 69)
noncomputable def wac (kX:T1) (kO:T0):=exK wk9 4 (A_V12.shape 35) kX kO
noncomputable def w07 (kX:T1) (a2 a3 a4 a5:Y2) (a6 a7 a8:Int) (a9:Y4) (a10:Int):Z2:=kX ([.u,.u,W3 a2,W3 a3,W2 a4,W2 a5,W0 a6,W0 a7,W0 a8,W1 a9,W0 a10]++us 68)
noncomputable def w04 (kX:T1) (kO:T0):=exK wk9 6 (A_V12.shape 25) kX kO
theorem w29 (N kX kO):∀n,wdc N n (w04 kX kO)=w1e N (w07 kX) n :=
 itE rfl fun m=>by kernel_rfl
noncomputable def wk7 (N m:Nat) (kX:T1) (kO:T0):=(blockK 6 (blockK 5 (sqK A_V12 N 25 500012 Tryz.f129 [1,1,1,0,1,0,0,1,0,0,1,0,0,1,0,0,1,0,1,0,0,1,1] (itK A_V12 N 22 Tryz.f129 [1,1,1,0,1,0,0,1,0,0,1,0,0,1,0,0,1,0,1,0,0] m (wac kX kO)))))
noncomputable def w1c (N m:Nat) (kX:T1) (kO:T0) (st':St):Z2:=rn A_V12 N Tryz.f129 [1,1,1,0,1,0,0,1,0,0,1,0,0,1,0,0,1,0,1,0,0,1,1] st' (itK A_V12 N 22 Tryz.f129 [1,1,1,0,1,0,0,1,0,0,1,0,0,1,0,0,1,0,1,0,0] m (wac kX kO))
theorem xfo (N m kX kO) {r}(h:yc N m (wac kX kO)=r):wdc N N (wk7 N m kX kO)=w06 N r (wk8 kX):=by
 rw[show wdc N N (wk7 N m kX kO)=wdc N N (w04 (w1c N m kX kO) fun j=>(wk7 N m kX kO) (.exit j)) from(by funext _ _ _ _ _ _ _ _ _ _;exact jlo),w29,show w07 (w1c N m kX kO)=w09 (yc N m (wac kX kO)) by kernel_rfl,h];rfl
theorem w28 (N kX kO):∀n,yc N n (wac kX kO)=w1d N (wk8 kX) n :=
 itE rfl fun m=>(show _=w1a (wdc N N (wk7 N m kX kO)) (wk8 kX) by kernel_rfl).trans (by rw[xfo N m kX kO rfl]<;>rfl)
noncomputable def wk6 (N m:Nat) (kX:T1) (kO:T0):=(blockK 4 (sqK A_V12 N 35 500017 Tryz.f129 [1,1,1,0,1,0,0,1,0,0,1,0,0,1,0,0,1,1] (blockK 3 (sqK A_V12 N 17 500008 Tryz.f129 [1,1,1,0,1,0,0,1,0,0,1,0,0,1,1] (itK A_V12 N 14 Tryz.f129 [1,1,1,0,1,0,0,1,0,0,1,0,0] m (wdb kX kO))))))
noncomputable def w1b (N m:Nat) (kX:T1) (kO:T0) (st':St):Z2:=rn A_V12 N Tryz.f129 [1,1,1,0,1,0,0,1,0,0,1,0,0,1,0,0,1,1] st' (blockK 3 (sqK A_V12 N 17 500008 Tryz.f129 [1,1,1,0,1,0,0,1,0,0,1,0,0,1,1] (itK A_V12 N 14 Tryz.f129 [1,1,1,0,1,0,0,1,0,0,1,0,0] m (wdb kX kO))))
theorem xfn (N m kX kO) {r}(h:wa0 N m (wdb kX kO)=r):yc N N (wk6 N m kX kO)=w05 N r (wms kX):=by
 rw[show yc N N (wk6 N m kX kO)=yc N N (wac (w1b N m kX kO) fun j=>(wk6 N m kX kO) (.exit j)) from(by funext _ _ _ _ _ _ _ _ _;exact jlo),w28,show wk8 (w1b N m kX kO)=w08 (wa0 N m (wdb kX kO)) by kernel_rfl,h];rfl
theorem w7a (N kX kO):∀n,wa0 N n (wdb kX kO)=w7e N (wms kX) n :=
 itE rfl fun m=>(show _=w68 (yc N N (wk6 N m kX kO)) (wms kX) by kernel_rfl).trans (by rw[xfn N m kX kO rfl]<;>rfl)
noncomputable def wmq (N m:Nat) (kX:T1) (kO:T0):=(blockK 2 (blockK 1 (sqK A_V12 N 11 500005 Tryz.f129 [1,1,1,0,1,0,0,1,1] (itK A_V12 N 8 Tryz.f129 [1,1,1,0,1,0,0] m (wda kX kO)))))
noncomputable def w7c (N m:Nat) (kX:T1) (kO:T0) (st':St):Z2:=rn A_V12 N Tryz.f129 [1,1,1,0,1,0,0,1,1] st' (itK A_V12 N 8 Tryz.f129 [1,1,1,0,1,0,0] m (wda kX kO))
theorem xiv (N m kX kO) {r}(h:waz N m (wda kX kO)=r):wa0 N N (wmq N m kX kO)=w64 N r (wmr kX):=by
 rw[show wa0 N N (wmq N m kX kO)=wa0 N N (wdb (w7c N m kX kO) fun j=>(wmq N m kX kO) (.exit j)) from(by funext _ _ _ _ _ _ _;exact jlo),w7a,show wms (w7c N m kX kO)=w66 (waz N m (wda kX kO)) by kernel_rfl,h];rfl
theorem w69 (N kX kO):∀n,waz N n (wda kX kO)=w7d N (wmr kX) n :=
 itE rfl fun m=>(show _=w67 (wa0 N N (wmq N m kX kO)) (wmr kX) by kernel_rfl).trans (by rw[xiv N m kX kO rfl]<;>rfl)
noncomputable def wmp (N:Nat):=(blockK 0 (sqK A_V12 N 37 500018 Tryz.f129 [1,1,1,1] wk9))
noncomputable def w7b (N:Nat) (st':St):Z2:=rn A_V12 N Tryz.f129 [1,1,1,1] st' wk9
theorem xiu (N):waz N N (wmp N)=w63 N:=by
 rw[show waz N N (wmp N)=waz N N (wda (w7b N) fun j=>(wmp N) (.exit j)) from(by funext _ _ _ _ _ _;exact jlo),w69,show wmr (w7b N)=w65 by kernel_rfl];rfl
theorem run_V12 (N x):runF A_V12 N Tryz.f129 S_V12 x=V12 N x.1 x.2.1:=(show _=(xgq (waz N N (wmp N)) x.1 x.2.1) by kernel_rfl).trans (by rw[xiu N];rfl)
theorem ok_V12:OK 129 S_V12:=gdR (A:=A_V12) tc Tryz.func129 (jes trivial) (run_V12 big)
def xnx (k_0:Int):Z2 :=
  cond (decide (k_0=0))
  ((V9 big 1 []).bind fun rq1 =>
  some (rq1.1,(())))
  (cond (decide (k_0=1))
  ((V9 big 2 [(0,(1,()))]).bind fun rq2 =>
  some (rq2.1,(())))
  (cond (decide (k_0=2))
  ((V9 big 4 [(0,(1,())),(1,(2,())),(2,(3,()))]).bind fun rq3 =>
  some (rq3.1,(())))
  (cond (decide (k_0=3))
  ((V9 big 4 [(0,(1,())),(0,(2,())),(1,(3,())),(2,(3,()))]).bind fun rq4 =>
  some (rq4.1,(())))
  (cond (decide (k_0=4))
  ((V9 big 5 [(0,(1,())),(0,(2,())),(0,(3,())),(1,(4,())),(2,(4,())),(3,(4,()))]).bind fun rq5 =>
  some (rq5.1,(())))
  (cond (decide (k_0=5))
  ((V9 big 5 [(0,(1,())),(1,(2,())),(0,(3,())),(2,(4,())),(3,(4,()))]).bind fun rq6 =>
  some (rq6.1,(())))
  (cond (decide (k_0=6))
  ((V9 big 8 [(0,(1,())),(0,(2,())),(0,(3,())),(1,(4,())),(1,(5,())),(2,(4,())),(2,(6,())),(3,(5,())),(3,(6,())),(4,(7,())),(5,(7,())),(6,(7,()))]).bind fun rq7 =>
  some (rq7.1,(())))
  (cond (decide (k_0=7))
  ((V9 big 6 [(0,(1,())),(0,(2,())),(1,(3,())),(2,(3,())),(2,(4,())),(3,(5,())),(4,(5,()))]).bind fun rq8 =>
  some (rq8.1,(())))
  (cond (decide (k_0=8))
  ((V9 big 6 [(0,(1,())),(0,(2,())),(1,(3,())),(2,(4,())),(3,(5,())),(4,(5,()))]).bind fun rq9 =>
  some (rq9.1,(())))
  (cond (decide (k_0=9))
  ((V9 big 7 [(0,(1,())),(0,(2,())),(0,(3,())),(1,(4,())),(2,(4,())),(3,(5,())),(2,(5,())),(4,(6,())),(5,(6,()))]).bind fun rq10 =>
  some (rq10.1,(())))
  (cond (decide (k_0=10))
  ((V9 big 3 [(0,(1,())),(1,(2,()))]).bind fun rq11 =>
  (V9 big 3 [(0,(1,())),(1,(2,()))]).bind fun rq12 =>
  (V12 big rq11.1 rq12.1).bind fun rq13 =>
  some (rq13.1,(())))
  ((V9 big 3 [(0,(1,())),(1,(2,()))]).bind fun rq14 =>
  some (rq14.1,(())))))))))))))
def V13 (k_0:Int):Z2:=xnx k_0
def S_V13:Sig:=⟨Q22,[0],[],.unit,Q0,(.p O14 .i),fun x=>V13 x.1⟩
def A_V13:Cfg:=mkCfg tab [(94,S_V9),(129,S_V12)] []
theorem run_V13 (N x):runF A_V13 N Tryz.f117 S_V13 x=V13 x.1:=by kernel_rfl
theorem ok_V13:OK 117 S_V13:=gdR (A:=A_V13) tc Tryz.func117 (jes ⟨ok_V9,ok_V12,trivial⟩) (run_V13 big)
def wg4 (rec:Y4→Int→Int→Option Z0) (k:Option Z0) (a0:Y4) (a1 a5:Int):Option Z0 :=
  cond (decide (a5<(a0.length:Int)))
  ((atI a0 a5).bind fun xq1 =>
  cond (decide (xq1=a1))
  (some (true,(())))
  (rec a0 a1 (IntKind.i64.wrap (a5+1))))
  (k)
def wdd:Option Z0 :=
  some (false,(()))
def w3a (L2:Y4→Int→Int→Option Z0) (l_0:Y4) (n_1:Int):Option Z0 :=
  L2 l_0 n_1 0
def wub (N:Nat) (k:Option Z0):=itN (fun r=>wg4 r k) fun _ _ _=>none
def wua (N:Nat):=wub N (wdd) N
def V14 (N:Nat) (l_0:Y4) (n_1:Int):Option Z0:=w3a (wua N) l_0 n_1
def S_V14:Sig:=⟨(.pair Q10 Q22),[0,0],[],.unit,.bool,.i,fun x=>V14 big x.1 x.2.1⟩
def A_V14:Cfg:=mkCfg tab [] [(4,([B4,B0]++dr 3 [B0])),(13,[])]
noncomputable def wg3 (N n:Nat) (K:Ex→St→Option Z0) (a0:Y4) (a1 a5:Int):Option Z0:=itr A_V14 N 4 Tryz.f67 [1,0,1,0,0] n (([W4 a0,W0 a1]++ud 3 [W0 a5])++us 12) K
noncomputable def w3b:Ex→St→Option Z0:=finish A_V14 S_V14 Tryz.f67.results.toList
noncomputable def w7g (kX:St→Option Z0):Option Z0:=kX ([]++us 18)
noncomputable def w7f (kX:St→Option Z0) (kO:Nat→St→Option Z0):Ex→St→Option Z0:=exK w3b 0 (A_V14.shape 13) kX kO
theorem w7h (N kX kO):∀n,wg3 N n (w7f kX kO)=wub N (w7g kX) n :=
 itE rfl fun m=>by kernel_rfl
noncomputable def wmt (N:Nat):Ex→St→Option Z0:=(blockK 0 (sqK A_V14 N 13 500006 Tryz.f67 [1,1] w3b))
noncomputable def w7i (N:Nat) (st':St):Option Z0:=rn A_V14 N Tryz.f67 [1,1] st' w3b
theorem xiw (N):wg3 N N (wmt N)=wua N:=by
 rw[show wg3 N N (wmt N)=wg3 N N (w7f (w7i N) fun j=>(wmt N) (.exit j)) from(by funext _ _ _;exact jlo),w7h,show w7g (w7i N)=wdd by kernel_rfl];rfl
theorem run_V14 (N x):runF A_V14 N Tryz.f67 S_V14 x=V14 N x.1 x.2.1:=(show _=(w3a (wg3 N N (wmt N)) x.1 x.2.1) by kernel_rfl).trans (by rw[xiw N];rfl)
theorem ok_V14:OK 67 S_V14:=gdR (A:=A_V14) tc Tryz.func67 (jes trivial) (run_V14 big)
def xgr (p_0:Y2) (x_1 y_2:Int):Option Z0 :=
  (atI p_0.1 y_2).bind fun xq1 =>
  (V14 big xq1 x_1).bind fun rq2 =>
  some (rq2.1,(()))
def V15 (p_0:Y2) (x_1 y_2:Int):Option Z0:=xgr p_0 x_1 y_2
def S_V15:Sig:=⟨(.pair Q0 Q11),[0,0,0],[],.unit,.bool,.i,fun x=>V15 x.1 x.2.1 x.2.2.1⟩
def A_V15:Cfg:=mkCfg tab [(67,S_V14)] []
theorem run_V15 (N x):runF A_V15 N Tryz.f31 S_V15 x=V15 x.1 x.2.1 x.2.2.1:=by kernel_rfl
theorem ok_V15:OK 31 S_V15:=gdR (A:=A_V15) tc Tryz.func31 (jes ⟨ok_V14,trivial⟩) (run_V15 big)
def xgs (p_0:Y2) (x_1 y_2:Int):Option Z0 :=
  cond (decide (x_1≠y_2))
  ((V15 p_0 x_1 y_2).bind fun rq1 =>
  some (rq1.1,(())))
  (some (false,(())))
def V16 (p_0:Y2) (x_1 y_2:Int):Option Z0:=xgs p_0 x_1 y_2
def S_V16:Sig:=⟨(.pair Q0 Q11),[0,0,0],[],.unit,.bool,.i,fun x=>V16 x.1 x.2.1 x.2.2.1⟩
def A_V16:Cfg:=mkCfg tab [(31,S_V15)] []
theorem run_V16 (N x):runF A_V16 N Tryz.f106 S_V16 x=V16 x.1 x.2.1 x.2.2.1:=by kernel_rfl
theorem ok_V16:OK 106 S_V16:=gdR (A:=A_V16) tc Tryz.func106 (jes ⟨ok_V15,trivial⟩) (run_V16 big)
def wg6 (rec:Int→Int→Y2→Int→Option Z0) (k:Option Z0) (a1 a2:Int) (a3:Y2) (a7:Int):Option Z0 :=
  cond (decide (a7<(a3.1.length:Int)))
  ((V16 a3 a1 a7).bind fun rq2 =>
  cond rq2.1
  ((V16 a3 a7 a2).bind fun rq3 =>
  cond rq3.1
  (some (false,(())))
  (rec a1 a2 a3 (IntKind.i64.wrap (a7+1))))
  (rec a1 a2 a3 (IntKind.i64.wrap (a7+1))))
  (k)
def wde:Option Z0 :=
  some (true,(()))
def w3c (L4:Int→Int→Y2→Int→Option Z0) (p_0:Y2) (x_1 y_2:Int):Option Z0 :=
  (V16 p_0 x_1 y_2).bind fun rq1 =>
  cond (!rq1.1)
  (some (false,(())))
  (L4 x_1 y_2 p_0 0)
def wud (N:Nat) (k:Option Z0):=itN (fun r=>wg6 r k) fun _ _ _ _=>none
def wuc (N:Nat):=wud N (wde) N
def V17 (N:Nat) (p_0:Y2) (x_1 y_2:Int):Option Z0:=w3c (wuc N) p_0 x_1 y_2
def S_V17:Sig:=⟨(.pair Q0 Q11),[0,0,0],[],.unit,.bool,.i,fun x=>V17 big x.1 x.2.1 x.2.2.1⟩
def A_V17:Cfg:=mkCfg tab [(106,S_V16)] [(8,([D0,B0,B0,B3]++dr 3 [B0])),(17,[])]
noncomputable def wg5 (N n:Nat) (K:Ex→St→Option Z0) (a1 a2:Int) (a3:Y2) (a7:Int):Option Z0:=itr A_V17 N 8 Tryz.f70 [1,1,0,1,0,0] n (([.u,W0 a1,W0 a2,W3 a3]++ud 3 [W0 a7])++us 22) K
noncomputable def w3d:Ex→St→Option Z0:=finish A_V17 S_V17 Tryz.f70.results.toList
noncomputable def w7k (kX:St→Option Z0):Option Z0:=kX ([]++us 30)
noncomputable def w7j (kX:St→Option Z0) (kO:Nat→St→Option Z0):Ex→St→Option Z0:=exK w3d 0 (A_V17.shape 17) kX kO
theorem w7l (N kX kO):∀n,wg5 N n (w7j kX kO)=wud N (w7k kX) n :=
 itE rfl fun m=>by kernel_rfl
noncomputable def wmu (N:Nat):Ex→St→Option Z0:=(blockK 0 (sqK A_V17 N 17 500008 Tryz.f70 [1,1,1] w3d))
noncomputable def w7m (N:Nat) (st':St):Option Z0:=rn A_V17 N Tryz.f70 [1,1,1] st' w3d
theorem xix (N):wg5 N N (wmu N)=wuc N:=by
 rw[show wg5 N N (wmu N)=wg5 N N (w7j (w7m N) fun j=>(wmu N) (.exit j)) from(by funext _ _ _ _;exact jlo),w7l,show w7k (w7m N)=wde by kernel_rfl];rfl
theorem run_V17 (N x):runF A_V17 N Tryz.f70 S_V17 x=V17 N x.1 x.2.1 x.2.2.1:=(show _=(w3c (wg5 N N (wmu N)) x.1 x.2.1 x.2.2.1) by kernel_rfl).trans (by rw[xix N];rfl)
theorem ok_V17:OK 70 S_V17:=gdR (A:=A_V17) tc Tryz.func70 (jes ⟨ok_V16,trivial⟩) (run_V17 big)
def xlv (rec:Y2→Z16→Int→Int→Z18) (k:T93) (a1:Y2) (a3:Z16) (a4 a5:Int):Z18 :=
  cond (decide (a5<(a1.1.length:Int)))
  ((V17 big a1 a4 a5).bind fun rq1 =>
  cond rq1.1
  ((appI a3 [(a4,(a5,()))]).bind fun xq2 =>
  rec a1 xq2 a4 (IntKind.i64.wrap (a5+1)))
  (rec a1 a3 a4 (IntKind.i64.wrap (a5+1))))
  (k a1 a3 a4)
def w7s (rec:T93) (a1:Y2) (a3:Z16) (a4:Int):Z18 :=
  rec a1 a3 (IntKind.i64.wrap (a4+1))
def w7t (L6:Y2→Z16→Int→Int→Z18) (k:Z16→Z18) (a1:Y2) (a3:Z16) (a4:Int):Z18 :=
  cond (decide (a4<(a1.1.length:Int)))
  (L6 a1 a3 a4 0)
  (k a3)
def w7r (a3:Z16):Z18 :=
  some (a3,(()))
def xgt (L3:T93) (p_0:Y2):Z18 :=
  L3 p_0 [] 0
def w7z (N:Nat) (k:T93):=itN (fun r=>xlv r k) fun _ _ _ _=>none
def w7p (N:Nat) (rec:T93) (k:Z16→Z18):=w7z N (w7s rec) N
def w7y (N:Nat) (k:Z16→Z18):=itN (fun r=>w7t (w7p N r k) k) fun _ _ _=>none
def w7o (N:Nat):=w7y N (w7r) N
def V18 (N:Nat) (p_0:Y2):Z18:=xgt (w7o N) p_0
def S_V18:Sig:=⟨Q17,[0],[],.unit,Q21,O7,fun x=>V18 big x.1⟩
def A_V18:Cfg:=mkCfg tab [(70,S_V17)] [(6,[D0,B3,D0,.as Q21 O7,B0]),(12,[D0,B3,D0,.as Q21 O7,B0,B0]),(21,(dr 3 [.as Q21 O7])),(9,[D0,B3,D0,.as Q21 O7,B0])]
noncomputable def wa1 (N n:Nat) (K:Ex→St→Z18) (a1:Y2) (a3:Z16) (a4:Int):Z18:=itr A_V18 N 6 Tryz.f93 [1,1,0,1,0,0] n ([.u,W3 a1,.u,.val Q21 O7 a3,W0 a4]++us 27) K
noncomputable def wg7 (N n:Nat) (K:Ex→St→Z18) (a1:Y2) (a3:Z16) (a4 a5:Int):Z18:=itr A_V18 N 12 Tryz.f93 [1,1,0,1,0,0,1,0,0,1,0,0] n ([.u,W3 a1,.u,.val Q21 O7 a3,W0 a4,W0 a5]++us 26) K
noncomputable def wr0:Ex→St→Z18:=finish A_V18 S_V18 Tryz.f93.results.toList
noncomputable def wmx (kX:St→Z18) (a3:Z16):Z18:=kX ((ud 3 [.val Q21 O7 a3])++us 28)
noncomputable def wdf (kX:St→Z18) (kO:Nat→St→Z18):=exK wr0 0 (A_V18.shape 21) kX kO
noncomputable def w7q (kX:St→Z18) (a1:Y2) (a3:Z16) (a4:Int):Z18:=kX ([.u,W3 a1,.u,.val Q21 O7 a3,W0 a4]++us 27)
noncomputable def w7n (kX:St→Z18) (kO:Nat→St→Z18):=exK wr0 2 (A_V18.shape 9) kX kO
theorem w7v (N kX kO):∀n,wg7 N n (w7n kX kO)=w7z N (w7q kX) n :=
 itE rfl fun m=>by kernel_rfl
noncomputable def wmw (N m:Nat) (kX:St→Z18) (kO:Nat→St→Z18):=(blockK 2 (blockK 1 (sqK A_V18 N 9 500004 Tryz.f93 [1,1,0,1,0,0,1,1] (itK A_V18 N 6 Tryz.f93 [1,1,0,1,0,0] m (wdf kX kO)))))
noncomputable def w7x (N m:Nat) (kX:St→Z18) (kO:Nat→St→Z18) (st':St):Z18:=rn A_V18 N Tryz.f93 [1,1,0,1,0,0,1,1] st' (itK A_V18 N 6 Tryz.f93 [1,1,0,1,0,0] m (wdf kX kO))
theorem xiz (N m kX kO) {r}(h:wa1 N m (wdf kX kO)=r):wg7 N N (wmw N m kX kO)=w7p N r (wmx kX):=by
 rw[show wg7 N N (wmw N m kX kO)=wg7 N N (w7n (w7x N m kX kO) fun j=>(wmw N m kX kO) (.exit j)) from(by funext _ _ _ _;exact jlo),w7v,show w7q (w7x N m kX kO)=w7s (wa1 N m (wdf kX kO)) by kernel_rfl,h];rfl
theorem w7u (N kX kO):∀n,wa1 N n (wdf kX kO)=w7y N (wmx kX) n :=
 itE rfl fun m=>(show _=w7t (wg7 N N (wmw N m kX kO)) (wmx kX) by kernel_rfl).trans (by rw[xiz N m kX kO rfl]<;>rfl)
noncomputable def wmv (N:Nat):=(blockK 0 (sqK A_V18 N 21 500010 Tryz.f93 [1,1,1] wr0))
noncomputable def w7w (N:Nat) (st':St):Z18:=rn A_V18 N Tryz.f93 [1,1,1] st' wr0
theorem xiy (N):wa1 N N (wmv N)=w7o N:=by
 rw[show wa1 N N (wmv N)=wa1 N N (wdf (w7w N) fun j=>(wmv N) (.exit j)) from(by funext _ _ _;exact jlo),w7u,show wmx (w7w N)=w7r by kernel_rfl];rfl
theorem run_V18 (N x):runF A_V18 N Tryz.f93 S_V18 x=V18 N x.1:=(show _=(xgt (wa1 N N (wmv N)) x.1) by kernel_rfl).trans (by rw[xiy N];rfl)
theorem ok_V18:OK 93 S_V18:=gdR (A:=A_V18) tc Tryz.func93 (jes ⟨ok_V17,trivial⟩) (run_V18 big)
def wg9 (rec:T2) (k:T76) (a0:Z13) (a2 a3:Y2) (a4:Int) (a5:Y4) (a6:Z16) (a7:Int):Z6 :=
  cond (decide (a7<(a6.length:Int)))
  ((atI a6 a7).bind fun _ =>
  (a6[a7.toNat]?).bind fun xq9 =>
  (a6[a7.toNat]?).bind fun xq10 =>
  (atI a5 xq10.1).bind fun _ =>
  (a5[xq10.1.toNat]?).bind fun xq11 =>
  (atI a6 a7).bind fun _ =>
  (a6[a7.toNat]?).bind fun xq12 =>
  (a6[a7.toNat]?).bind fun xq13 =>
  (atI a5 xq13.2.1).bind fun _ =>
  (a5[xq13.2.1.toNat]?).bind fun xq14 =>
  (atI a6 a7).bind fun _ =>
  (a6[a7.toNat]?).bind fun xq15 =>
  rec a0 a2 a3 a4 a5 (a6.set a7.toNat (xq11,(xq14,()))) (IntKind.i64.wrap (a7+1)))
  (k a0 a2 a3 a4 a6)
def wdg (a0:Z13) (a2 a3:Y2) (a4:Int) (a6:Z16):Z6 :=
  (V9 big a4 a6).bind fun rq16 =>
  some (rq16.1,(a0,()))
def w3e (L9:T2) (c_0:Z13):Z6 :=
  (V3 c_0 10).bind fun rq1 =>
  cond rq1.1
  ((V11 big rq1.2.1).bind fun rq2 =>
  some (rq2.1,(rq2.2.1,())))
  ((V2 rq1.2.1 12).bind fun rq3 =>
  (V13 rq3.1).bind fun rq4 =>
  (V5 big rq3.2.1 (rq4.1.1.length:Int)).bind fun rq5 =>
  (V8 big rq5.1 (rq4.1.1.length:Int)).bind fun rq6 =>
  cond rq6.1
  ((V3 rq5.2.1 2).bind fun rq7 =>
  cond rq7.1
  ((V18 big rq4.1).bind fun rq8 =>
  L9 rq7.2.1 (([]:Y3),()) rq4.1 (rq4.1.1.length:Int) rq5.1 rq8.1 0)
  (some (rq4.1,(rq7.2.1,()))))
  (some (rq4.1,(rq5.2.1,()))))
def wuf (N:Nat) (k:T76):=itN (fun r=>wg9 r k) fun _ _ _ _ _ _ _=>none
def wue (N:Nat):=wuf N (wdg) N
def V19 (N:Nat) (c_0:Z13):Z6:=w3e (wue N) c_0
def S_V19:Sig:=⟨Q23,[1],[O7],Q23,Q0,.i,fun x=>V19 big x.1⟩
def A_V19:Cfg:=mkCfg tab [(89,S_V3),(116,S_V11),(54,S_V2),(117,S_V13),(91,S_V5),(92,S_V8),(93,S_V18),(94,S_V9)] [(18,[B8,D0,B2,B2,B0,B1,.as Q21 O7,B0]),(25,[B8,D0,B2,B2,B0,D0,.as Q21 O7])]
noncomputable def wg8 (N n:Nat) (K:T112) (a0:Z13) (a2 a3:Y2) (a4:Int) (a5:Y4) (a6:Z16) (a7:Int):Z6:=itr A_V19 N 18 Tryz.f90 [1,1,1,1,0,1,1,0,1,0,1,0,0] n ([.val Q3 O7 a0,.u,W2 a2,W2 a3,W0 a4,W1 a5,.val Q21 O7 a6,W0 a7]++us 52) K
noncomputable def w3f:Ex→St→Z6:=finish A_V19 S_V19 Tryz.f90.results.toList
noncomputable def w71 (kX:T98) (a0:Z13) (a2 a3:Y2) (a4:Int) (a6:Z16):Z6:=kX ([.val Q3 O7 a0,.u,W2 a2,W2 a3,W0 a4,.u,.val Q21 O7 a6]++us 53)
noncomputable def w70 (kX:T98) (kO:T90):=exK w3f 0 (A_V19.shape 25) kX kO
theorem w72 (N kX kO):∀n,wg8 N n (w70 kX kO)=wuf N (w71 kX) n :=
 itE rfl fun m=>by kernel_rfl
noncomputable def wmy (N:Nat):=(blockK 0 (sqK A_V19 N 25 500012 Tryz.f90 [1,1,1,1,0,1,1,0,1,1] (sqK A_V19 N 27 500013 Tryz.f90 [1,1,1,1,1] w3f)))
noncomputable def w73 (N:Nat) (st':St):Z6:=rn A_V19 N Tryz.f90 [1,1,1,1,0,1,1,0,1,1] st' (sqK A_V19 N 27 500013 Tryz.f90 [1,1,1,1,1] w3f)
theorem xi0 (N):wg8 N N (wmy N)=wue N:=by
 rw[show wg8 N N (wmy N)=wg8 N N (w70 (w73 N) fun j=>(wmy N) (.exit j)) from(by funext _ _ _ _ _ _ _;exact jlo),w72,show w71 (w73 N)=wdg by kernel_rfl];rfl
theorem run_V19 (N x):runF A_V19 N Tryz.f90 S_V19 x=V19 N x.1:=(show _=(w3e (wg8 N N (wmy N)) x.1) by kernel_rfl).trans (by rw[xi0 N];rfl)
theorem ok_V19:OK 90 S_V19:=gdR (A:=A_V19) tc Tryz.func90 (jes ⟨ok_V3,⟨fn_V11,good_V11⟩,ok_V2,ok_V13,ok_V5,ok_V8,ok_V18,ok_V9,trivial⟩) (run_V19 big)
def wm0 (rec:T81) (k:T110) (a0 a1 a5:Int):Z4 :=
  cond (decide (0<a1))
  (rec a0 (IntKind.i64.wrap (a1-1)) (IntKind.i64.wrap (a5*a0)))
  (k a5)
def wdh (a5:Int):Z4 :=
  some (a5,(()))
def wr2 (L2:T81) (n_0 k_1:Int):Z4 :=
  L2 n_0 k_1 1
def wuh (N:Nat) (k:T110):=itN (fun r=>wm0 r k) fun _ _ _=>none
def wug (N:Nat):=wuh N (wdh) N
def V20 (N:Nat) (n_0 k_1:Int):Z4:=wr2 (wug N) n_0 k_1
def S_V20:Sig:=⟨Q11,[0,0],[],.unit,I,.i,fun x=>V20 big x.1 x.2.1⟩
def A_V20:Cfg:=mkCfg tab [] [(4,([B0,B0]++dr 3 [B0])),(11,(dr 5 [B0]))]
noncomputable def wha (N n:Nat) (K:T51) (a0 a1 a5:Int):Z4:=itr A_V20 N 4 Tryz.f32 [1,1,0,0,0] n (([W0 a0,W0 a1]++ud 3 [W0 a5])++us 8) K
noncomputable def w3g:Ex→St→Z4:=finish A_V20 S_V20 Tryz.f32.results.toList
noncomputable def w75 (kX:T22) (a5:Int):Z4:=kX ((ud 5 [W0 a5])++us 8)
noncomputable def w74 (kX:T22) (kO:T12):=exK w3g 0 (A_V20.shape 11) kX kO
theorem w76 (N kX kO):∀n,wha N n (w74 kX kO)=wuh N (w75 kX) n :=
 itE rfl fun m=>by kernel_rfl
noncomputable def wmz (N:Nat):=(blockK 0 (sqK A_V20 N 11 500005 Tryz.f32 [1,1,1] w3g))
noncomputable def w77 (N:Nat) (st':St):Z4:=rn A_V20 N Tryz.f32 [1,1,1] st' w3g
theorem xi1 (N):wha N N (wmz N)=wug N:=by
 rw[show wha N N (wmz N)=wha N N (w74 (w77 N) fun j=>(wmz N) (.exit j)) from(by funext _ _ _;exact jlo),w76,show w75 (w77 N)=wdh by kernel_rfl];rfl
theorem run_V20 (N x):runF A_V20 N Tryz.f32 S_V20 x=V20 N x.1 x.2.1:=(show _=(wr2 (wha N N (wmz N)) x.1 x.2.1) by kernel_rfl).trans (by rw[xi1 N];rfl)
theorem ok_V20:OK 32 S_V20:=gdR (A:=A_V20) tc Tryz.func32 (jes trivial) (run_V20 big)
def xlx (rec:Int→Y2→Y2→Int→Y4→Int→Z2) (k:Int→Y2→Y2→Int→Y4→Z2) (a0:Int) (a2 a3:Y2) (a4:Int) (a5:Y4) (a6:Int):Z2 :=
  cond (decide (a6≤a4))
  (cond (decide ((bitI .and IntKind.i64 a6 a4)=a6))
  ((appI a5 [a6]).bind fun xq2 =>
  rec a0 a2 a3 a4 xq2 (IntKind.i64.wrap (a6+1)))
  (rec a0 a2 a3 a4 a5 (IntKind.i64.wrap (a6+1))))
  (k a0 a2 a3 a4 a5)
def w8e (rec:T113) (a0:Int) (a2 a3:Y2) (a4:Int) (a5:Y4):Z2 :=
  (appI a3.1 [a5]).bind fun xq3 =>
  rec a0 a2 (xq3,((),a3.2).2) (IntKind.i64.wrap (a4+1))
def w8f (L7:Int→Y2→Y2→Int→Y4→Int→Z2) (k:T21) (a0:Int) (a2 a3:Y2) (a4:Int):Z2 :=
  (V20 big 2 a0).bind fun rq1 =>
  cond (decide (a4<rq1.1))
  (L7 a0 a2 a3 a4 [] 0)
  (k a2 a3)
def w8d (a2 a3:Y2):Z2 :=
  some (a3,(()))
def xgu (L3:T113) (k_0:Int):Z2 :=
  L3 k_0 (([]:Y3),()) ([],()) 0
def w8l (N:Nat) (k:Int→Y2→Y2→Int→Y4→Z2):=itN (fun r=>xlx r k) fun _ _ _ _ _ _=>none
def w8b (N:Nat) (rec:T113) (k:T21):=w8l N (w8e rec) N
def w8k (N:Nat) (k:T21):=itN (fun r=>w8f (w8b N r k) k) fun _ _ _ _=>none
def w8a (N:Nat):=w8k N (w8d) N
def V21 (N:Nat) (k_0:Int):Z2:=xgu (w8a N) k_0
def S_V21:Sig:=⟨Q22,[0],[],.unit,Q0,(.p O14 .i),fun x=>V21 big x.1⟩
def A_V21:Cfg:=mkCfg tab [(32,S_V20)] [(6,[B0,D0,B2,B2,B0]),(14,[B0,D0,B2,B2,B0,B1,B0]),(25,[D0,D0,B2,B2]),(23,[B0,D0,B2,B2,B0,B1])]
noncomputable def wa2 (N n:Nat) (K:T27) (a0:Int) (a2 a3:Y2) (a4:Int):Z2:=itr A_V21 N 6 Tryz.f61 [1,1,0,1,0,0] n ([W0 a0,.u,W2 a2,W2 a3,W0 a4]++us 32) K
noncomputable def whb (N n:Nat) (K:T27) (a0:Int) (a2 a3:Y2) (a4:Int) (a5:Y4) (a6:Int):Z2:=itr A_V21 N 14 Tryz.f61 [1,1,0,1,0,0,1,0,0,1,0,1,0,0] n ([W0 a0,.u,W2 a2,W2 a3,W0 a4,W1 a5,W0 a6]++us 30) K
noncomputable def wr3:Ex→St→Z2:=finish A_V21 S_V21 Tryz.f61.results.toList
noncomputable def wm3 (kX:T1) (a2 a3:Y2):Z2:=kX ([.u,.u,W2 a2,W2 a3]++us 33)
noncomputable def wdi (kX:T1) (kO:T0):=exK wr3 0 (A_V21.shape 25) kX kO
noncomputable def w8c (kX:T1) (a0:Int) (a2 a3:Y2) (a4:Int) (a5:Y4):Z2:=kX ([W0 a0,.u,W2 a2,W2 a3,W0 a4,W1 a5]++us 31)
noncomputable def w79 (kX:T1) (kO:T0):=exK wr3 2 (A_V21.shape 23) kX kO
theorem w8h (N kX kO):∀n,whb N n (w79 kX kO)=w8l N (w8c kX) n :=
 itE rfl fun m=>by kernel_rfl
noncomputable def wm2 (N m:Nat) (kX:T1) (kO:T0):=(blockK 2 (sqK A_V21 N 23 500011 Tryz.f61 [1,1,0,1,0,0,1,0,0,1,1] (blockK 1 (sqK A_V21 N 9 500004 Tryz.f61 [1,1,0,1,0,0,1,1] (itK A_V21 N 6 Tryz.f61 [1,1,0,1,0,0] m (wdi kX kO))))))
noncomputable def w8j (N m:Nat) (kX:T1) (kO:T0) (st':St):Z2:=rn A_V21 N Tryz.f61 [1,1,0,1,0,0,1,0,0,1,1] st' (blockK 1 (sqK A_V21 N 9 500004 Tryz.f61 [1,1,0,1,0,0,1,1] (itK A_V21 N 6 Tryz.f61 [1,1,0,1,0,0] m (wdi kX kO))))
theorem xi3 (N m kX kO) {r}(h:wa2 N m (wdi kX kO)=r):whb N N (wm2 N m kX kO)=w8b N r (wm3 kX):=by
 rw[show whb N N (wm2 N m kX kO)=whb N N (w79 (w8j N m kX kO) fun j=>(wm2 N m kX kO) (.exit j)) from(by funext _ _ _ _ _ _;exact jlo),w8h,show w8c (w8j N m kX kO)=w8e (wa2 N m (wdi kX kO)) by kernel_rfl,h];rfl
theorem w8g (N kX kO):∀n,wa2 N n (wdi kX kO)=w8k N (wm3 kX) n :=
 itE rfl fun m=>(show _=w8f (whb N N (wm2 N m kX kO)) (wm3 kX) by kernel_rfl).trans (by rw[xi3 N m kX kO rfl]<;>rfl)
noncomputable def wm1 (N:Nat):=(blockK 0 (sqK A_V21 N 25 500012 Tryz.f61 [1,1,1] wr3))
noncomputable def w8i (N:Nat) (st':St):Z2:=rn A_V21 N Tryz.f61 [1,1,1] st' wr3
theorem xi2 (N):wa2 N N (wm1 N)=w8a N:=by
 rw[show wa2 N N (wm1 N)=wa2 N N (wdi (w8i N) fun j=>(wm1 N) (.exit j)) from(by funext _ _ _ _;exact jlo),w8g,show wm3 (w8i N)=w8d by kernel_rfl];rfl
theorem run_V21 (N x):runF A_V21 N Tryz.f61 S_V21 x=V21 N x.1:=(show _=(xgu (wa2 N N (wm1 N)) x.1) by kernel_rfl).trans (by rw[xi2 N];rfl)
theorem ok_V21:OK 61 S_V21:=gdR (A:=A_V21) tc Tryz.func61 (jes ⟨ok_V20,trivial⟩) (run_V21 big)
def whd (rec:T2) (k:T76) (a0:Z13) (a2 a3:Y2) (a4:Int) (a5:Y4) (a6:Z16) (a7:Int):Z6 :=
  cond (decide (a7<(a6.length:Int)))
  ((atI a6 a7).bind fun _ =>
  (a6[a7.toNat]?).bind fun xq8 =>
  (a6[a7.toNat]?).bind fun xq9 =>
  (atI a5 xq9.1).bind fun _ =>
  (a5[xq9.1.toNat]?).bind fun xq10 =>
  (atI a6 a7).bind fun _ =>
  (a6[a7.toNat]?).bind fun xq11 =>
  (a6[a7.toNat]?).bind fun xq12 =>
  (atI a5 xq12.2.1).bind fun _ =>
  (a5[xq12.2.1.toNat]?).bind fun xq13 =>
  (atI a6 a7).bind fun _ =>
  (a6[a7.toNat]?).bind fun xq14 =>
  rec a0 a2 a3 a4 a5 (a6.set a7.toNat (xq10,(xq13,()))) (IntKind.i64.wrap (a7+1)))
  (k a0 a2 a3 a4 a6)
def wdj (a0:Z13) (a2 a3:Y2) (a4:Int) (a6:Z16):Z6 :=
  (V9 big a4 a6).bind fun rq15 =>
  some (rq15.1,(a0,()))
def w3h (L9:T2) (c_0:Z13):Z6 :=
  (V3 c_0 6).bind fun rq1 =>
  cond rq1.1
  ((V19 big rq1.2.1).bind fun rq2 =>
  some (rq2.1,(rq2.2.1,())))
  ((V4 rq1.2.1 [(2:Int),2,3,3,1,0]).bind fun rq3 =>
  (V21 big rq3.1).bind fun rq4 =>
  (V5 big rq3.2.1 (rq4.1.1.length:Int)).bind fun rq5 =>
  (V8 big rq5.1 (rq4.1.1.length:Int)).bind fun rq6 =>
  cond rq6.1
  ((V18 big rq4.1).bind fun rq7 =>
  L9 rq5.2.1 (([]:Y3),()) rq4.1 (rq4.1.1.length:Int) rq5.1 rq7.1 0)
  (some (rq4.1,(rq5.2.1,()))))
def wuj (N:Nat) (k:T76):=itN (fun r=>whd r k) fun _ _ _ _ _ _ _=>none
def wui (N:Nat):=wuj N (wdj) N
def V22 (N:Nat) (c_0:Z13):Z6:=w3h (wui N) c_0
def S_V22:Sig:=⟨Q23,[1],[O7],Q23,Q0,.i,fun x=>V22 big x.1⟩
def A_V22:Cfg:=mkCfg tab [(89,S_V3),(90,S_V19),(59,S_V4),(61,S_V21),(91,S_V5),(92,S_V8),(93,S_V18),(94,S_V9)] [(18,[B8,D0,B2,B2,B0,B1,.as Q21 O7,B0]),(25,[B8,D0,B2,B2,B0,D0,.as Q21 O7])]
noncomputable def whc (N n:Nat) (K:T112) (a0:Z13) (a2 a3:Y2) (a4:Int) (a5:Y4) (a6:Z16) (a7:Int):Z6:=itr A_V22 N 18 Tryz.f52 [1,1,1,1,0,1,1,0,1,0,1,0,0] n ([.val Q3 O7 a0,.u,W2 a2,W2 a3,W0 a4,W1 a5,.val Q21 O7 a6,W0 a7]++us 49) K
noncomputable def w3i:Ex→St→Z6:=finish A_V22 S_V22 Tryz.f52.results.toList
noncomputable def w8n (kX:T98) (a0:Z13) (a2 a3:Y2) (a4:Int) (a6:Z16):Z6:=kX ([.val Q3 O7 a0,.u,W2 a2,W2 a3,W0 a4,.u,.val Q21 O7 a6]++us 50)
noncomputable def w8m (kX:T98) (kO:T90):=exK w3i 0 (A_V22.shape 25) kX kO
theorem w8o (N kX kO):∀n,whc N n (w8m kX kO)=wuj N (w8n kX) n :=
 itE rfl fun m=>by kernel_rfl
noncomputable def wm4 (N:Nat):=(blockK 0 (sqK A_V22 N 25 500012 Tryz.f52 [1,1,1,1,0,1,1,0,1,1] (sqK A_V22 N 27 500013 Tryz.f52 [1,1,1,1,1] w3i)))
noncomputable def w8p (N:Nat) (st':St):Z6:=rn A_V22 N Tryz.f52 [1,1,1,1,0,1,1,0,1,1] st' (sqK A_V22 N 27 500013 Tryz.f52 [1,1,1,1,1] w3i)
theorem xi4 (N):whc N N (wm4 N)=wui N:=by
 rw[show whc N N (wm4 N)=whc N N (w8m (w8p N) fun j=>(wm4 N) (.exit j)) from(by funext _ _ _ _ _ _ _;exact jlo),w8o,show w8n (w8p N)=wdj by kernel_rfl];rfl
theorem run_V22 (N x):runF A_V22 N Tryz.f52 S_V22 x=V22 N x.1:=(show _=(w3h (whc N N (wm4 N)) x.1) by kernel_rfl).trans (by rw[xi4 N];rfl)
theorem ok_V22:OK 52 S_V22:=gdR (A:=A_V22) tc Tryz.func52 (jes ⟨ok_V3,ok_V19,ok_V4,ok_V21,ok_V5,ok_V8,ok_V18,ok_V9,trivial⟩) (run_V22 big)
def xgv (code_0:Y4):Z2 :=
  (V22 big (code_0,(0,(0,())))).bind fun rq1 =>
  some (rq1.1,(()))
def V23 (code_0:Y4):Z2:=xgv code_0
def S_V23:Sig:=⟨(.pair Q25 .unit),[0],[],.unit,Q0,.i,fun x=>V23 x.1⟩
def A_V23:Cfg:=mkCfg tab [(52,S_V22)] []
theorem run_V23 (N x):runF A_V23 N Tryz.f26 S_V23 x=V23 x.1:=by kernel_rfl
theorem ok_V23:OK 26 S_V23:=gdR (A:=A_V23) tc Tryz.func26 (jes ⟨ok_V22,trivial⟩) (run_V23 big)
def xgw (code_0:Y4):Z2 :=
  (V23 code_0).bind fun rq1 =>
  some (rq1.1,(()))
def V24 (code_0:Y4):Z2:=xgw code_0
def S_V24:Sig:=⟨(.pair Q25 .unit),[0],[],.unit,Q0,.i,fun x=>V24 x.1⟩
def A_V24:Cfg:=mkCfg tab [(26,S_V23)] []
theorem run_V24 (N x):runF A_V24 N Tryz.f5 S_V24 x=V24 x.1:=by kernel_rfl
theorem ok_V24:OK 5 S_V24:=gdR (A:=A_V24) tc Tryz.func5 (jes ⟨ok_V23,trivial⟩) (run_V24 big)
def whf (rec:T92) (k:Y5→Z9) (a0:Int) (a3:Y5) (a8 a9:Int):Z9 :=
  cond (decide (a9<a8))
  ((mkI false a0).bind fun xq3=>(mkI false a0).bind fun xq4=>cond (decide (a0≤a0))
  ((atI a3 a9).bind fun _ =>
  (a3[a9.toNat]?).bind fun xq5 =>
  rec a0 (a3.set a9.toNat xq4) a8 (IntKind.i64.wrap (a9+1)))
  none)
  (k a3)
def wdk (a3:Y5):Z9 :=
  some (a3,(()))
def w3j (L3:T92) (n_0:Int):Z9 :=
  (mkI ([]:(List Bool)) n_0).bind fun xq1=>(mkI ([]:(List Bool)) n_0).bind fun xq2=>cond (decide (n_0≤n_0))
  (L3 n_0 xq2 (xq2.length:Int) 0)
  none
def wul (N:Nat) (k:Y5→Z9):=itN (fun r=>whf r k) fun _ _ _ _=>none
def wuk (N:Nat):=wul N (wdk) N
def V25 (N:Nat) (n_0:Int):Z9:=w3j (wuk N) n_0
def S_V25:Sig:=⟨Q22,[0],[],.unit,Q8,O14,fun x=>V25 big x.1⟩
def A_V25:Cfg:=mkCfg tab [] [(6,([B0,D0,D0,B5]++dr 4 [B0,B0])),(15,(dr 3 [B5]))]
noncomputable def whe (N n:Nat) (K:Ex→St→Z9) (a0:Int) (a3:Y5) (a8 a9:Int):Z9:=itr A_V25 N 6 Tryz.f40 [1,1,0,1,0,0] n (([W0 a0,.u,.u,W5 a3]++ud 4 [W0 a8,W0 a9])++us 9) K
noncomputable def w3k:Ex→St→Z9:=finish A_V25 S_V25 Tryz.f40.results.toList
noncomputable def w8r (kX:T99) (a3:Y5):Z9:=kX ((ud 3 [W5 a3])++us 15)
noncomputable def w8q (kX:T99) (kO:T84):=exK w3k 0 (A_V25.shape 15) kX kO
theorem w8s (N kX kO):∀n,whe N n (w8q kX kO)=wul N (w8r kX) n :=
 itE rfl fun m=>by kernel_rfl
noncomputable def wm5 (N:Nat):=(blockK 0 (sqK A_V25 N 15 500007 Tryz.f40 [1,1,1] w3k))
noncomputable def w8t (N:Nat) (st':St):Z9:=rn A_V25 N Tryz.f40 [1,1,1] st' w3k
theorem xi5 (N):whe N N (wm5 N)=wuk N:=by
 rw[show whe N N (wm5 N)=whe N N (w8q (w8t N) fun j=>(wm5 N) (.exit j)) from(by funext _ _ _ _;exact jlo),w8s,show w8r (w8t N)=wdk by kernel_rfl];rfl
theorem run_V25 (N x):runF A_V25 N Tryz.f40 S_V25 x=V25 N x.1:=(show _=(w3j (whe N N (wm5 N)) x.1) by kernel_rfl).trans (by rw[xi5 N];rfl)
theorem ok_V25:OK 40 S_V25:=gdR (A:=A_V25) tc Tryz.func40 (jes trivial) (run_V25 big)
def wup (rec:Y4→Int→Option Z0) (k:Option Z0) (a0:Y4) (a3:Int):Option Z0 :=
  cond (decide (a3<(a0.length:Int)))
  ((atI a0 (IntKind.i64.wrap (a3-1))).bind fun xq1 =>
  (atI a0 a3).bind fun xq2 =>
  cond (decide (xq2≤xq1))
  (some (false,(())))
  (rec a0 (IntKind.i64.wrap (a3+1))))
  (k)
def wuo:Option Z0 :=
  some (true,(()))
def w3l (L2:Y4→Int→Option Z0) (list_0:Y4):Option Z0 :=
  L2 list_0 1
def whg (N:Nat) (k:Option Z0):Nat→Y4→Int→Option Z0
  | 0,_,_=>none
  | m+1,a0,a3=>wup (whg N k m) k a0 a3
def wum (N:Nat):=whg N (wuo) N
def V26 (N:Nat) (list_0:Y4):Option Z0:=w3l (wum N) list_0
def S_V26:Sig:=⟨(.pair Q10 .unit),[0],[],.unit,.bool,.i,fun x=>V26 big x.1⟩
def A_V26:Cfg:=mkCfg tab [] [(4,[B4,D0,D0,B0]),(13,[])]
noncomputable def wa3 (N n:Nat) (K:Ex→St→Option Z0) (a0:Y4) (a3:Int):Option Z0:=itr A_V26 N 4 Tryz.f124 [1,0,1,0,0] n ([W4 a0,.u,.u,W0 a3]++us 16) K
noncomputable def w3m:Ex→St→Option Z0:=finish A_V26 S_V26 Tryz.f124.results.toList
noncomputable def wun (kX:St→Option Z0):Option Z0:=kX ([]++us 20)
noncomputable def wm6 (kX:St→Option Z0) (kO:Nat→St→Option Z0):Ex→St→Option Z0:=exK w3m 0 (A_V26.shape 13) kX kO
theorem wrq (N kX kO):∀n,wa3 N n (wm6 kX kO)=whg N (wun kX) n
 | 0=>rfl
 | m+1=>(show wa3 N (m+1) (wm6 kX kO)=wup (wa3 N m (wm6 kX kO)) (wun kX) by kernel_rfl).trans (by rw[wrq N kX kO m];funext _ _;rfl)
noncomputable def wm7 (N:Nat):Ex→St→Option Z0:=(blockK 0 (sqK A_V26 N 13 500006 Tryz.f124 [1,1] w3m))
noncomputable def w8u (N:Nat) (st':St):Option Z0:=rn A_V26 N Tryz.f124 [1,1] st' w3m
theorem xi6 (N):wa3 N N (wm7 N)=wum N:=by
 rw[show wa3 N N (wm7 N)=wa3 N N (wm6 (w8u N) fun j=>(wm7 N) (.exit j)) from(by funext _ _;exact jlo),wrq,show wun (w8u N)=wuo by kernel_rfl];rfl
theorem run_V26 (N x):runF A_V26 N Tryz.f124 S_V26 x=V26 N x.1:=(show _=(w3l (wa3 N N (wm7 N)) x.1) by kernel_rfl).trans (by rw[xi6 N];rfl)
theorem ok_V26:OK 124 S_V26:=gdR (A:=A_V26) tc Tryz.func124 (jes trivial) (run_V26 big)
def wut (rec:Int→Y4→Int→Int→Option Z0) (k:Option Z0) (a1:Int) (a7:Y4) (a8 a9:Int):Option Z0 :=
  cond (decide (a9<a8))
  ((atI a7 a9).bind fun xq1 =>
  cond (decide (xq1<0))
  (some (false,(())))
  (cond (decide (a1≤xq1))
  (some (false,(())))
  (rec a1 a7 a8 (IntKind.i64.wrap (a9+1)))))
  (k)
def wus:Option Z0 :=
  some (true,(()))
def w3n (L2:Int→Y4→Int→Int→Option Z0) (list_0:Y4) (n_1:Int):Option Z0 :=
  L2 n_1 list_0 (list_0.length:Int) 0
def whh (N:Nat) (k:Option Z0):Nat→Int→Y4→Int→Int→Option Z0
  | 0,_,_,_,_=>none
  | m+1,a1,a7,a8,a9=>wut (whh N k m) k a1 a7 a8 a9
def wuq (N:Nat):=whh N (wus) N
def V27 (N:Nat) (list_0:Y4) (n_1:Int):Option Z0:=w3n (wuq N) list_0 n_1
def S_V27:Sig:=⟨(.pair Q10 Q22),[0,0],[],.unit,.bool,.i,fun x=>V27 big x.1 x.2.1⟩
def A_V27:Cfg:=mkCfg tab [] [(4,([D0,B0]++dr 5 [B4,B0,B0])),(15,[])]
noncomputable def wa4 (N n:Nat) (K:Ex→St→Option Z0) (a1:Int) (a7:Y4) (a8 a9:Int):Option Z0:=itr A_V27 N 4 Tryz.f113 [1,0,1,0,0] n (([.u,W0 a1]++ud 5 [W4 a7,W0 a8,W0 a9])++us 11) K
noncomputable def w3o:Ex→St→Option Z0:=finish A_V27 S_V27 Tryz.f113.results.toList
noncomputable def wur (kX:St→Option Z0):Option Z0:=kX ([]++us 21)
noncomputable def wm8 (kX:St→Option Z0) (kO:Nat→St→Option Z0):Ex→St→Option Z0:=exK w3o 0 (A_V27.shape 15) kX kO
theorem wrr (N kX kO):∀n,wa4 N n (wm8 kX kO)=whh N (wur kX) n
 | 0=>rfl
 | m+1=>(show wa4 N (m+1) (wm8 kX kO)=wut (wa4 N m (wm8 kX kO)) (wur kX) by kernel_rfl).trans (by rw[wrr N kX kO m];funext _ _ _ _;rfl)
noncomputable def wm9 (N:Nat):Ex→St→Option Z0:=(blockK 0 (sqK A_V27 N 15 500007 Tryz.f113 [1,1] w3o))
noncomputable def w8v (N:Nat) (st':St):Option Z0:=rn A_V27 N Tryz.f113 [1,1] st' w3o
theorem xi7 (N):wa4 N N (wm9 N)=wuq N:=by
 rw[show wa4 N N (wm9 N)=wa4 N N (wm8 (w8v N) fun j=>(wm9 N) (.exit j)) from(by funext _ _ _ _;exact jlo),wrr,show wur (w8v N)=wus by kernel_rfl];rfl
theorem run_V27 (N x):runF A_V27 N Tryz.f113 S_V27 x=V27 N x.1 x.2.1:=(show _=(w3n (wa4 N N (wm9 N)) x.1 x.2.1) by kernel_rfl).trans (by rw[xi7 N];rfl)
theorem ok_V27:OK 113 S_V27:=gdR (A:=A_V27) tc Tryz.func113 (jes trivial) (run_V27 big)
def wdo (rec:Y5→Int→Int→Int→Int→Int→Int→Int→Int→Option Z0) (k:Y5→Int→Int→Int→Int→Int→Option Z0) (a0:Y5) (a3 a4 a7 a8 a20 a21 a46 a47:Int):Option Z0 :=
  cond (decide (a47<a46))
  ((atI a0 a3).bind fun xq7 =>
  (atI xq7 a4).bind fun xq8 =>
  cond xq8
  ((atI a0 a4).bind fun xq9 =>
  (atI xq9 a47).bind fun xq10 =>
  cond xq10
  ((atI a0 a3).bind fun xq11 =>
  (atI xq11 a47).bind fun xq12 =>
  cond (!xq12)
  (some (false,(())))
  (rec a0 a3 a4 a7 a8 a20 a21 a46 (IntKind.i64.wrap (a47+1))))
  (rec a0 a3 a4 a7 a8 a20 a21 a46 (IntKind.i64.wrap (a47+1))))
  (rec a0 a3 a4 a7 a8 a20 a21 a46 (IntKind.i64.wrap (a47+1))))
  (k a0 a3 a7 a8 a20 a21)
def wae (rec:Y5→Int→Int→Int→Int→Int→Option Z0) (a0:Y5) (a3 a7 a8 a20 a21:Int):Option Z0 :=
  rec a0 a3 a7 a8 a20 (IntKind.i64.wrap (a21+1))
def wdq (L12:Y5→Int→Int→Int→Int→Int→Int→Int→Int→Option Z0) (k:Y5→Int→Int→Option Z0) (a0:Y5) (a3 a7 a8 a20 a21:Int):Option Z0 :=
  cond (decide (a21<a20))
  (cond (decide (a3≠a21))
  ((atI a0 a3).bind fun xq3 =>
  (atI xq3 a21).bind fun xq4 =>
  cond xq4
  ((atI a0 a21).bind fun xq5 =>
  (atI xq5 a3).bind fun xq6 =>
  cond xq6
  (some (false,(())))
  (L12 a0 a3 a21 a7 a8 a20 a21 (a0.length:Int) 0))
  (L12 a0 a3 a21 a7 a8 a20 a21 (a0.length:Int) 0))
  (L12 a0 a3 a21 a7 a8 a20 a21 (a0.length:Int) 0))
  (k a0 a7 a8)
def xn (rec:Y5→Int→Int→Option Z0) (a0:Y5) (a7 a8:Int):Option Z0 :=
  rec a0 a7 (IntKind.i64.wrap (a8+1))
def wdp (L7:Y5→Int→Int→Int→Int→Int→Option Z0) (k:Option Z0) (a0:Y5) (a7 a8:Int):Option Z0 :=
  cond (decide (a8<a7))
  ((atI a0 a8).bind fun xq1 =>
  (atI xq1 a8).bind fun xq2 =>
  cond (!xq2)
  (some (false,(())))
  (L7 a0 a8 a7 a8 (a0.length:Int) 0))
  (k)
def yk:Option Z0 :=
  some (true,(()))
def w3q (L2:Y5→Int→Int→Option Z0) (o_0:Y5):Option Z0 :=
  L2 o_0 (o_0.length:Int) 0
def wrc (N:Nat) (k:Y5→Int→Int→Int→Int→Int→Option Z0):=itN (fun r=>wdo r k) fun _ _ _ _ _ _ _ _ _=>none
def wad (N:Nat) (rec:Y5→Int→Int→Int→Int→Int→Option Z0) (k:Y5→Int→Int→Option Z0):=wrc N (wae rec) N
def wuw (N:Nat) (k:Y5→Int→Int→Option Z0):=itN (fun r=>wdq (wad N r k) k) fun _ _ _ _ _ _=>none
def whi (N:Nat) (rec:Y5→Int→Int→Option Z0) (k:Option Z0):=wuw N (xn rec) N
def wuv (N:Nat) (k:Option Z0):=itN (fun r=>wdp (whi N r k) k) fun _ _ _=>none
def wuu (N:Nat):=wuv N (yk) N
def V28 (N:Nat) (o_0:Y5):Option Z0:=w3q (wuu N) o_0
def S_V28:Sig:=⟨(.pair Q8 .unit),[0],[],.unit,.bool,.i,fun x=>V28 big x.1⟩
def A_V28:Cfg:=mkCfg tab [] [(4,([.as Q8 .i]++dr 6 [B0,B0])),(14,([.as Q8 .i,D0,D0,B0]++dr 3 ([B0,B0]++dr 11 [B0,B0]))),(39,[]),(24,([.as Q8 .i,D0,D0,B0,B0,D0,D0,B0,B0]++dr 11 ([B0,B0]++dr 24 [B0,B0]))),(37,([.as Q8 .i]++dr 6 [B0,B0])),(35,([.as Q8 .i,D0,D0,B0]++dr 3 ([B0,B0]++dr 11 [B0,B0])))]
noncomputable def wa5 (N n:Nat) (K:Ex→St→Option Z0) (a0:Y5) (a7 a8:Int):Option Z0:=itr A_V28 N 4 Tryz.f125 [1,0,1,0,0] n (([.val Q8 .i a0]++ud 6 [W0 a7,W0 a8])++us 70) K
noncomputable def wa6 (N n:Nat) (K:Ex→St→Option Z0) (a0:Y5) (a3 a7 a8 a20 a21:Int):Option Z0:=itr A_V28 N 14 Tryz.f125 [1,0,1,0,0,1,1,0,0,1,1,1,0,0] n (([.val Q8 .i a0,.u,.u,W0 a3]++ud 3 ([W0 a7,W0 a8]++ud 11 [W0 a20,W0 a21]))++us 57) K
noncomputable def wdn (N n:Nat) (K:Ex→St→Option Z0) (a0:Y5) (a3 a4 a7 a8 a20 a21 a46 a47:Int):Option Z0:=itr A_V28 N 24 Tryz.f125 [1,0,1,0,0,1,1,0,0,1,1,1,0,0,1,1,0,0,1,1,1,0,0] n (([.val Q8 .i a0,.u,.u,W0 a3,W0 a4,.u,.u,W0 a7,W0 a8]++ud 11 ([W0 a20,W0 a21]++ud 24 [W0 a46,W0 a47]))++us 31) K
noncomputable def wne:Ex→St→Option Z0:=finish A_V28 S_V28 Tryz.f125.results.toList
noncomputable def wnc (kX:St→Option Z0):Option Z0:=kX ([]++us 79)
noncomputable def wdl (kX:St→Option Z0) (kO:Nat→St→Option Z0):Ex→St→Option Z0:=exK wne 0 (A_V28.shape 39) kX kO
noncomputable def wnd (kX:St→Option Z0) (a0:Y5) (a7 a8:Int):Option Z0:=kX (([.val Q8 .i a0]++ud 6 [W0 a7,W0 a8])++us 70)
noncomputable def wdm (kX:St→Option Z0) (kO:Nat→St→Option Z0):Ex→St→Option Z0:=exK wne 2 (A_V28.shape 37) kX kO
noncomputable def w1g (kX:St→Option Z0) (a0:Y5) (a3 a7 a8 a20 a21:Int):Option Z0:=kX (([.val Q8 .i a0,.u,.u,W0 a3]++ud 3 ([W0 a7,W0 a8]++ud 11 [W0 a20,W0 a21]))++us 57)
noncomputable def w1f (kX:St→Option Z0) (kO:Nat→St→Option Z0):Ex→St→Option Z0:=exK wne 4 (A_V28.shape 35) kX kO
theorem w3p (N kX kO):∀n,wdn N n (w1f kX kO)=wrc N (w1g kX) n :=
 itE rfl fun m=>by kernel_rfl
noncomputable def wla (N m:Nat) (kX:St→Option Z0) (kO:Nat→St→Option Z0):Ex→St→Option Z0:=(blockK 4 (blockK 3 (sqK A_V28 N 35 500017 Tryz.f125 [1,0,1,0,0,1,1,0,0,1,1,1,0,0,1,1,1] (itK A_V28 N 14 Tryz.f125 [1,0,1,0,0,1,1,0,0,1,1,1,0,0] m (wdm kX kO)))))
noncomputable def w1h (N m:Nat) (kX:St→Option Z0) (kO:Nat→St→Option Z0) (st':St):Option Z0:=rn A_V28 N Tryz.f125 [1,0,1,0,0,1,1,0,0,1,1,1,0,0,1,1,1] st' (itK A_V28 N 14 Tryz.f125 [1,0,1,0,0,1,1,0,0,1,1,1,0,0] m (wdm kX kO))
theorem xfp (N m kX kO) {r}(h:wa6 N m (wdm kX kO)=r):wdn N N (wla N m kX kO)=wad N r (wnd kX):=by
 rw[show wdn N N (wla N m kX kO)=wdn N N (w1f (w1h N m kX kO) fun j=>(wla N m kX kO) (.exit j)) from(by funext _ _ _ _ _ _ _ _ _;exact jlo),w3p,show w1g (w1h N m kX kO)=wae (wa6 N m (wdm kX kO)) by kernel_rfl,h];rfl
theorem w8x (N kX kO):∀n,wa6 N n (wdm kX kO)=wuw N (wnd kX) n :=
 itE rfl fun m=>(show _=wdq (wdn N N (wla N m kX kO)) (wnd kX) by kernel_rfl).trans (by rw[xfp N m kX kO rfl]<;>rfl)
noncomputable def wnb (N m:Nat) (kX:St→Option Z0) (kO:Nat→St→Option Z0):Ex→St→Option Z0:=(blockK 2 (blockK 1 (sqK A_V28 N 37 500018 Tryz.f125 [1,0,1,0,0,1,1,1] (itK A_V28 N 4 Tryz.f125 [1,0,1,0,0] m (wdl kX kO)))))
noncomputable def w8z (N m:Nat) (kX:St→Option Z0) (kO:Nat→St→Option Z0) (st':St):Option Z0:=rn A_V28 N Tryz.f125 [1,0,1,0,0,1,1,1] st' (itK A_V28 N 4 Tryz.f125 [1,0,1,0,0] m (wdl kX kO))
theorem xja (N m kX kO) {r}(h:wa5 N m (wdl kX kO)=r):wa6 N N (wnb N m kX kO)=whi N r (wnc kX):=by
 rw[show wa6 N N (wnb N m kX kO)=wa6 N N (wdm (w8z N m kX kO) fun j=>(wnb N m kX kO) (.exit j)) from(by funext _ _ _ _ _ _;exact jlo),w8x,show wnd (w8z N m kX kO)=xn (wa5 N m (wdl kX kO)) by kernel_rfl,h];rfl
theorem w8w (N kX kO):∀n,wa5 N n (wdl kX kO)=wuv N (wnc kX) n :=
 itE rfl fun m=>(show _=wdp (wa6 N N (wnb N m kX kO)) (wnc kX) by kernel_rfl).trans (by rw[xja N m kX kO rfl]<;>rfl)
noncomputable def wna (N:Nat):Ex→St→Option Z0:=(blockK 0 (sqK A_V28 N 39 500019 Tryz.f125 [1,1] wne))
noncomputable def w8y (N:Nat) (st':St):Option Z0:=rn A_V28 N Tryz.f125 [1,1] st' wne
theorem xi9 (N):wa5 N N (wna N)=wuu N:=by
 rw[show wa5 N N (wna N)=wa5 N N (wdl (w8y N) fun j=>(wna N) (.exit j)) from(by funext _ _ _;exact jlo),w8w,show wnc (w8y N)=yk by kernel_rfl];rfl
theorem run_V28 (N x):runF A_V28 N Tryz.f125 S_V28 x=V28 N x.1:=(show _=(w3q (wa5 N N (wna N)) x.1) by kernel_rfl).trans (by rw[xi9 N];rfl)
theorem ok_V28:OK 125 S_V28:=gdR (A:=A_V28) tc Tryz.func125 (jes trivial) (run_V28 big)
def wdu (rec:T5) (k:T85) (a4:Int) (a5:Y5) (a6:Int) (a18:Y3) (a19 a20:Int) (a29:Y4) (a30:Int) (a31 a32:Bool) (a34:Y4) (a35 a36:Int):Z14 :=
  cond (decide (a36<a35))
  ((atI a34 a36).bind fun xq6 =>
  (atI a5 xq6).bind fun _ =>
  (a5[xq6.toNat]?).bind fun xq7 =>
  (a5[xq6.toNat]?).bind fun xq8 =>
  (atI xq8 a6).bind fun _ =>
  (a5[xq6.toNat]?).bind fun xq9 =>
  (xq9[a6.toNat]?).bind fun xq10 =>
  rec a4 (a5.set xq6.toNat (xq9.set a6.toNat true)) a6 a18 a19 a20 a29 a30 a31 a32 a34 a35 (IntKind.i64.wrap (a36+1)))
  (k a4 a5 a18 a19 a20 a29 a30 a31 a32)
def waf (rec:T40) (a4:Int) (a5:Y5) (a18:Y3) (a19 a20:Int) (a29:Y4) (a30:Int) (a31 a32:Bool):Z14 :=
  rec a4 a5 a18 a19 (IntKind.i64.wrap (a20+1))
def wdv (L11:T5) (k:Y5→Z14) (a4:Int) (a5:Y5) (a18:Y3) (a19 a20:Int):Z14 :=
  cond (decide (a20<a19))
  ((atI a18 a20).bind fun xq2 =>
  (V26 big xq2).bind fun rq3 =>
  cond (!rq3.1)
  (some (([],false,()),(())))
  ((V27 big xq2 a4).bind fun rq4 =>
  cond (!rq4.1)
  (some (([],false,()),(())))
  (L11 a4 a5 a20 a18 a19 a20 xq2 a4 rq4.1 (!rq4.1) xq2 (xq2.length:Int) 0)))
  (k a5)
def yl (a5:Y5):Z14 :=
  (V28 big a5).bind fun rq5 =>
  some ((a5,rq5.1,()),(()))
def wr4 (L6:T40) (p_0:Y2):Z14 :=
  cond (decide (10<(p_0.1.length:Int)))
  (some (([],false,()),(())))
  ((V25 big (p_0.1.length:Int)).bind fun rq1 =>
  L6 (p_0.1.length:Int) rq1.1 p_0.1 (p_0.1.length:Int) 0)
def wrd (N:Nat) (k:T85):=itN (fun r=>wdu r k) fun _ _ _ _ _ _ _ _ _ _ _ _ _=>none
def wds (N:Nat) (rec:T40) (k:Y5→Z14):=wrd N (waf rec) N
def wuy (N:Nat) (k:Y5→Z14):=itN (fun r=>wdv (wds N r k) k) fun _ _ _ _ _=>none
def wux (N:Nat):=wuy N (yl) N
def V29 (N:Nat) (p_0:Y2):Z14:=wr4 (wux N) p_0
def S_V29:Sig:=⟨Q17,[0],[],.unit,(.tup (.pair Q8 Q18)),(.p O14 .i),fun x=>V29 big x.1⟩
def A_V29:Cfg:=mkCfg tab [(40,S_V25),(124,S_V26),(113,S_V27),(125,S_V28)] [(12,(dr 4 ([B0,B5]++dr 12 [.as Q20 .i,B0,B0]))),(22,(dr 4 ([B0,B5,B0]++dr 11 ([.as Q20 .i,B0,B0]++dr 8 [B4,B0,.as .bool .i,.as .bool .i,D0,B4,B0,B0])))),(33,(dr 5 [B5])),(31,(dr 4 ([B0,B5]++dr 12 ([.as Q20 .i,B0,B0]++dr 8 [B4,B0,.as .bool .i,.as .bool .i]))))]
noncomputable def wa7 (N n:Nat) (K:Ex→St→Z14) (a4:Int) (a5:Y5) (a18:Y3) (a19 a20:Int):Z14:=itr A_V29 N 12 Tryz.f110 [1,1,1,1,0,1,0,0] n ((ud 4 ([W0 a4,W5 a5]++ud 12 [.val Q20 .i a18,W0 a19,W0 a20]))++us 30) K
noncomputable def wdt (N n:Nat) (K:Ex→St→Z14) (a4:Int) (a5:Y5) (a6:Int) (a18:Y3) (a19 a20:Int) (a29:Y4) (a30:Int) (a31 a32:Bool) (a34:Y4) (a35 a36:Int):Z14:=itr A_V29 N 22 Tryz.f110 [1,1,1,1,0,1,0,0,1,1,0,0,1,1,1,0,0] n ((ud 4 ([W0 a4,W5 a5,W0 a6]++ud 11 ([.val Q20 .i a18,W0 a19,W0 a20]++ud 8 [W4 a29,W0 a30,.val .bool .i a31,.val .bool .i a32,.u,W4 a34,W0 a35,W0 a36])))++us 14) K
noncomputable def wr5:Ex→St→Z14:=finish A_V29 S_V29 Tryz.f110.results.toList
noncomputable def wng (kX:St→Z14) (a5:Y5):Z14:=kX ((ud 5 [W5 a5])++us 45)
noncomputable def wdr (kX:St→Z14) (kO:Nat→St→Z14):=exK wr5 0 (A_V29.shape 33) kX kO
noncomputable def w1j (kX:St→Z14) (a4:Int) (a5:Y5) (a18:Y3) (a19 a20:Int) (a29:Y4) (a30:Int) (a31 a32:Bool):Z14:=kX ((ud 4 ([W0 a4,W5 a5]++ud 12 ([.val Q20 .i a18,W0 a19,W0 a20]++ud 8 [W4 a29,W0 a30,.val .bool .i a31,.val .bool .i a32])))++us 18)
noncomputable def w1i (kX:St→Z14) (kO:Nat→St→Z14):=exK wr5 2 (A_V29.shape 31) kX kO
theorem w3r (N kX kO):∀n,wdt N n (w1i kX kO)=wrd N (w1j kX) n :=
 itE rfl fun m=>by kernel_rfl
noncomputable def wlb (N m:Nat) (kX:St→Z14) (kO:Nat→St→Z14):=(blockK 2 (blockK 1 (sqK A_V29 N 31 500015 Tryz.f110 [1,1,1,1,0,1,0,0,1,1,1] (itK A_V29 N 12 Tryz.f110 [1,1,1,1,0,1,0,0] m (wdr kX kO)))))
noncomputable def w1k (N m:Nat) (kX:St→Z14) (kO:Nat→St→Z14) (st':St):Z14:=rn A_V29 N Tryz.f110 [1,1,1,1,0,1,0,0,1,1,1] st' (itK A_V29 N 12 Tryz.f110 [1,1,1,1,0,1,0,0] m (wdr kX kO))
theorem xfq (N m kX kO) {r}(h:wa7 N m (wdr kX kO)=r):wdt N N (wlb N m kX kO)=wds N r (wng kX):=by
 rw[show wdt N N (wlb N m kX kO)=wdt N N (w1i (w1k N m kX kO) fun j=>(wlb N m kX kO) (.exit j)) from(by funext _ _ _ _ _ _ _ _ _ _ _ _ _;exact jlo),w3r,show w1j (w1k N m kX kO)=waf (wa7 N m (wdr kX kO)) by kernel_rfl,h];rfl
theorem w80 (N kX kO):∀n,wa7 N n (wdr kX kO)=wuy N (wng kX) n :=
 itE rfl fun m=>(show _=wdv (wdt N N (wlb N m kX kO)) (wng kX) by kernel_rfl).trans (by rw[xfq N m kX kO rfl]<;>rfl)
noncomputable def wnf (N:Nat):=(blockK 0 (sqK A_V29 N 33 500016 Tryz.f110 [1,1,1,1,1] wr5))
noncomputable def w81 (N:Nat) (st':St):Z14:=rn A_V29 N Tryz.f110 [1,1,1,1,1] st' wr5
theorem xjc (N):wa7 N N (wnf N)=wux N:=by
 rw[show wa7 N N (wnf N)=wa7 N N (wdr (w81 N) fun j=>(wnf N) (.exit j)) from(by funext _ _ _ _ _;exact jlo),w80,show wng (w81 N)=yl by kernel_rfl];rfl
theorem run_V29 (N x):runF A_V29 N Tryz.f110 S_V29 x=V29 N x.1:=(show _=(wr4 (wa7 N N (wnf N)) x.1) by kernel_rfl).trans (by rw[xjc N];rfl)
theorem ok_V29:OK 110 S_V29:=gdR (A:=A_V29) tc Tryz.func110 (jes ⟨ok_V25,ok_V26,ok_V27,ok_V28,trivial⟩) (run_V29 big)
def whl (rec:T17) (k:T104) (a0:Y5) (a1:Y4) (a6:Int) (a7:Bool) (a10:Y4) (a11 a12:Int) (a16:Y4) (a17 a18:Int):Z4 :=
  cond (decide (a18<a17))
  ((atI a16 a18).bind fun xq2 =>
  cond a7
  ((atI a0 xq2).bind fun xq3 =>
  (atI xq3 a6).bind fun xq4 =>
  rec a0 a1 a6 xq4 a10 a11 a12 a16 a17 (IntKind.i64.wrap (a18+1)))
  (rec a0 a1 a6 false a10 a11 a12 a16 a17 (IntKind.i64.wrap (a18+1))))
  (k a0 a1 a6 a7 a10 a11 a12)
def wdx (rec:T43) (a0:Y5) (a1:Y4) (a6:Int) (a7:Bool) (a10:Y4) (a11 a12:Int):Z4 :=
  cond a7
  (some (a6,(())))
  (rec a0 a1 a10 a11 (IntKind.i64.wrap (a12+1)))
def wdy (L6:T17) (k:Z4) (a0:Y5) (a1 a10:Y4) (a11 a12:Int):Z4 :=
  cond (decide (a12<a11))
  ((atI a10 a12).bind fun xq1 =>
  L6 a0 a1 xq1 true a10 a11 a12 a1 (a1.length:Int) 0)
  (k)
def ym:Z4 :=
  some ((-1:Int),(()))
def w3s (L2:T43) (o_0:Y5) (list_1:Y4):Z4 :=
  L2 o_0 list_1 list_1 (list_1.length:Int) 0
def wu1 (N:Nat) (k:T104):=itN (fun r=>whl r k) fun _ _ _ _ _ _ _ _ _ _=>none
def whj (N:Nat) (rec:T43) (k:Z4):=wu1 N (wdx rec) N
def wu0 (N:Nat) (k:Z4):=itN (fun r=>wdy (whj N r k) k) fun _ _ _ _ _=>none
def wuz (N:Nat):=wu0 N (ym) N
def V30 (N:Nat) (o_0:Y5) (list_1:Y4):Z4:=w3s (wuz N) o_0 list_1
def S_V30:Sig:=⟨(.pair Q8 (.pair Q10 .unit)),[0,0],[],.unit,I,.i,fun x=>V30 big x.1 x.2.1⟩
def A_V30:Cfg:=mkCfg tab [] [(4,([.as Q8 .i,B4]++dr 8 [B4,B0,B0])),(12,([.as Q8 .i,B4]++dr 4 ([B0,.as .bool .i,D0,D0,B4,B0,B0]++dr 3 [B4,B0,B0]))),(27,[]),(21,([.as Q8 .i,B4]++dr 4 [B0,.as .bool .i,D0,D0,B4,B0,B0]))]
noncomputable def wa8 (N n:Nat) (K:T51) (a0:Y5) (a1 a10:Y4) (a11 a12:Int):Z4:=itr A_V30 N 4 Tryz.f126 [1,0,1,0,0] n (([.val Q8 .i a0,W4 a1]++ud 8 [W4 a10,W0 a11,W0 a12])++us 23) K
noncomputable def whk (N n:Nat) (K:T51) (a0:Y5) (a1:Y4) (a6:Int) (a7:Bool) (a10:Y4) (a11 a12:Int) (a16:Y4) (a17 a18:Int):Z4:=itr A_V30 N 12 Tryz.f126 [1,0,1,0,0,1,1,0,0,1,1,0,1,0,0] n (([.val Q8 .i a0,W4 a1]++ud 4 ([W0 a6,.val .bool .i a7,.u,.u,W4 a10,W0 a11,W0 a12]++ud 3 [W4 a16,W0 a17,W0 a18]))++us 17) K
noncomputable def wr6:Ex→St→Z4:=finish A_V30 S_V30 Tryz.f126.results.toList
noncomputable def wnj (kX:T22):Z4:=kX ([]++us 36)
noncomputable def wdw (kX:T22) (kO:T12):=exK wr6 0 (A_V30.shape 27) kX kO
noncomputable def w83 (kX:T22) (a0:Y5) (a1:Y4) (a6:Int) (a7:Bool) (a10:Y4) (a11 a12:Int):Z4:=kX (([.val Q8 .i a0,W4 a1]++ud 4 [W0 a6,.val .bool .i a7,.u,.u,W4 a10,W0 a11,W0 a12])++us 23)
noncomputable def w82 (kX:T22) (kO:T12):=exK wr6 2 (A_V30.shape 21) kX kO
theorem w85 (N kX kO):∀n,whk N n (w82 kX kO)=wu1 N (w83 kX) n :=
 itE rfl fun m=>by kernel_rfl
noncomputable def wni (N m:Nat) (kX:T22) (kO:T12):=(blockK 2 (sqK A_V30 N 21 500010 Tryz.f126 [1,0,1,0,0,1,1,0,0,1,1,1] (blockK 1 (sqK A_V30 N 25 500012 Tryz.f126 [1,0,1,0,0,1,1,1] (itK A_V30 N 4 Tryz.f126 [1,0,1,0,0] m (wdw kX kO))))))
noncomputable def w87 (N m:Nat) (kX:T22) (kO:T12) (st':St):Z4:=rn A_V30 N Tryz.f126 [1,0,1,0,0,1,1,0,0,1,1,1] st' (blockK 1 (sqK A_V30 N 25 500012 Tryz.f126 [1,0,1,0,0,1,1,1] (itK A_V30 N 4 Tryz.f126 [1,0,1,0,0] m (wdw kX kO))))
theorem xje (N m kX kO) {r}(h:wa8 N m (wdw kX kO)=r):whk N N (wni N m kX kO)=whj N r (wnj kX):=by
 rw[show whk N N (wni N m kX kO)=whk N N (w82 (w87 N m kX kO) fun j=>(wni N m kX kO) (.exit j)) from(by funext _ _ _ _ _ _ _ _ _ _;exact jlo),w85,show w83 (w87 N m kX kO)=wdx (wa8 N m (wdw kX kO)) by kernel_rfl,h];rfl
theorem w84 (N kX kO):∀n,wa8 N n (wdw kX kO)=wu0 N (wnj kX) n :=
 itE rfl fun m=>(show _=wdy (whk N N (wni N m kX kO)) (wnj kX) by kernel_rfl).trans (by rw[xje N m kX kO rfl]<;>rfl)
noncomputable def wnh (N:Nat):=(blockK 0 (sqK A_V30 N 27 500013 Tryz.f126 [1,1] wr6))
noncomputable def w86 (N:Nat) (st':St):Z4:=rn A_V30 N Tryz.f126 [1,1] st' wr6
theorem xjd (N):wa8 N N (wnh N)=wuz N:=by
 rw[show wa8 N N (wnh N)=wa8 N N (wdw (w86 N) fun j=>(wnh N) (.exit j)) from(by funext _ _ _ _ _;exact jlo),w84,show wnj (w86 N)=ym by kernel_rfl];rfl
theorem run_V30 (N x):runF A_V30 N Tryz.f126 S_V30 x=V30 N x.1 x.2.1:=(show _=(w3s (wa8 N N (wnh N)) x.1 x.2.1) by kernel_rfl).trans (by rw[xjd N];rfl)
theorem ok_V30:OK 126 S_V30:=gdR (A:=A_V30) tc Tryz.func126 (jes trivial) (run_V30 big)
def xgx (z_0:Int) (p_1:Y5) (p_2 p_3:Int):Option Z0 :=
  (atI p_1 z_0).bind fun xq1 =>
  (atI xq1 p_2).bind fun xq2 =>
  cond xq2
  ((atI p_1 z_0).bind fun xq3 =>
  (atI xq3 p_3).bind fun xq4 =>
  some (xq4,(())))
  (some (false,(())))
def V31 (z_0:Int) (p_1:Y5) (p_2 p_3:Int):Option Z0:=xgx z_0 p_1 p_2 p_3
def S_V31:Sig:=⟨(.pair I (.pair (.ptr Q8) Q19)),[0,0,0,0],[],.unit,.bool,.i,fun x=>V31 x.1 x.2.1 x.2.2.1 x.2.2.2.1⟩
def A_V31:Cfg:=mkCfg tab [] []
theorem run_V31 (N x):runF A_V31 N Tryz.f127 S_V31 x=V31 x.1 x.2.1 x.2.2.1 x.2.2.2.1:=by kernel_rfl
theorem ok_V31:OK 127 S_V31:=gdR (A:=A_V31) tc Tryz.func127 (jes trivial) (run_V31 big)
def whn (rec:T77) (k:T44) (a1:(Y5×Z1)) (a5:Y4) (a9 a10:Int):Z3 :=
  cond (decide (a10<a9))
  ((V31 a10 a1.1 a1.2.1 a1.2.2.1).bind fun rq1 =>
  cond rq1.1
  ((appI a5 [a10]).bind fun xq2 =>
  rec a1 xq2 a9 (IntKind.i64.wrap (a10+1)))
  (rec a1 a5 a9 (IntKind.i64.wrap (a10+1))))
  (k a5)
def wdz (a5:Y4):Z3 :=
  some (a5,(()))
def w3t (L3:T77) (o_0:Y5) (so_1:(Y5×Z1)):Z3 :=
  L3 so_1 [] (o_0.length:Int) 0
def wu3 (N:Nat) (k:T44):=itN (fun r=>whn r k) fun _ _ _ _=>none
def wu2 (N:Nat):=wu3 N (wdz) N
def V32 (N:Nat) (o_0:Y5) (so_1:(Y5×Z1)):Z3:=w3t (wu2 N) o_0 so_1
def S_V32:Sig:=⟨(.pair Q8 (.pair (.clo 127 0 (.pair (.ptr Q8) Q19)) .unit)),[0,0],[],.unit,Q10,O7,fun x=>V32 big x.1 x.2.1⟩
def A_V32:Cfg:=mkCfg tab [(127,S_V31)] [(6,([D0,.as (.clo 127 0 (.pair (.ptr Q8) Q19)) .i]++dr 3 ([B1]++dr 3 [B0,B0]))),(17,(dr 5 [B1]))]
noncomputable def whm (N n:Nat) (K:T31) (a1:(Y5×Z1)) (a5:Y4) (a9 a10:Int):Z3:=itr A_V32 N 6 Tryz.f101 [1,1,0,1,0,0] n (([.u,.val (.clo 127 0 (.pair (.ptr Q8) Q19)) .i a1]++ud 3 ([W1 a5]++ud 3 [W0 a9,W0 a10]))++us 11) K
noncomputable def w3u:Ex→St→Z3:=finish A_V32 S_V32 Tryz.f101.results.toList
noncomputable def w89 (kX:T18) (a5:Y4):Z3:=kX ((ud 5 [W1 a5])++us 16)
noncomputable def w88 (kX:T18) (kO:T19):=exK w3u 0 (A_V32.shape 17) kX kO
theorem w9a (N kX kO):∀n,whm N n (w88 kX kO)=wu3 N (w89 kX) n :=
 itE rfl fun m=>by kernel_rfl
noncomputable def wnk (N:Nat):=(blockK 0 (sqK A_V32 N 17 500008 Tryz.f101 [1,1,1] w3u))
noncomputable def w9b (N:Nat) (st':St):Z3:=rn A_V32 N Tryz.f101 [1,1,1] st' w3u
theorem xjf (N):whm N N (wnk N)=wu2 N:=by
 rw[show whm N N (wnk N)=whm N N (w88 (w9b N) fun j=>(wnk N) (.exit j)) from(by funext _ _ _ _;exact jlo),w9a,show w89 (w9b N)=wdz by kernel_rfl];rfl
theorem run_V32 (N x):runF A_V32 N Tryz.f101 S_V32 x=V32 N x.1 x.2.1:=(show _=(w3t (whm N N (wnk N)) x.1 x.2.1) by kernel_rfl).trans (by rw[xjf N];rfl)
theorem ok_V32:OK 101 S_V32:=gdR (A:=A_V32) tc Tryz.func101 (jes ⟨ok_V31,trivial⟩) (run_V32 big)
def whq (rec:T32) (k:Y5→Y3→Y4→Int→Int→Z15) (a1:Y5) (a4:Y3) (a5:Int) (a6:Y4) (a11 a12 a17 a18:Int):Z15 :=
  cond (decide (a18<a17))
  ((V32 big a1 (a1,a5,a18,())).bind fun rq1 =>
  (V30 big a1 rq1.1).bind fun rq2 =>
  cond (decide (rq2.1<0))
  (some (([],false,()),(())))
  ((appI a6 [rq2.1]).bind fun xq3 =>
  rec a1 a4 a5 xq3 a11 a12 a17 (IntKind.i64.wrap (a18+1))))
  (k a1 a4 a6 a11 a12)
def wd1 (rec:T55) (a1:Y5) (a4:Y3) (a6:Y4) (a11 a12:Int):Z15 :=
  (appI a4 [a6]).bind fun xq4 =>
  rec a1 xq4 a11 (IntKind.i64.wrap (a12+1))
def wd2 (L7:T32) (k:Y3→Z15) (a1:Y5) (a4:Y3) (a11 a12:Int):Z15 :=
  cond (decide (a12<a11))
  (L7 a1 a4 a12 [] a11 a12 (a1.length:Int) 0)
  (k a4)
def yn (a4:Y3):Z15 :=
  some ((a4,true,()),(()))
def w3v (L3:T55) (o_0:Y5):Z15 :=
  L3 o_0 [] (o_0.length:Int) 0
def wu6 (N:Nat) (k:Y5→Y3→Y4→Int→Int→Z15):=itN (fun r=>whq r k) fun _ _ _ _ _ _ _ _=>none
def who (N:Nat) (rec:T55) (k:Y3→Z15):=wu6 N (wd1 rec) N
def wu5 (N:Nat) (k:Y3→Z15):=itN (fun r=>wd2 (who N r k) k) fun _ _ _ _=>none
def wu4 (N:Nat):=wu5 N (yn) N
def V33 (N:Nat) (o_0:Y5):Z15:=w3v (wu4 N) o_0
def S_V33:Sig:=⟨(.pair Q8 .unit),[0],[],.unit,(.tup (.pair Q20 Q18)),(.p O14 .i),fun x=>V33 big x.1⟩
def A_V33:Cfg:=mkCfg tab [(101,S_V32),(126,S_V30)] [(6,([D0,.as (.ptr Q8) .i,D0,D0,.as Q20 O14]++dr 6 [B0,B0])),(14,([D0,.as (.ptr Q8) .i,D0,D0,.as Q20 O14,.as (.ptr I) .i,B1]++dr 4 ([B0,B0]++dr 4 [B0,B0]))),(33,(dr 4 [.as Q20 O14])),(19,([D0,.as (.ptr Q8) .i,D0,D0,.as Q20 O14,.as (.ptr I) .i,B1,.as (.ptr I) .i]++dr 3 ([B0,B0]++dr 4 [B0,B0]))),(29,([D0,.as (.ptr Q8) .i,D0,D0,.as Q20 O14,D0,B1]++dr 4 [B0,B0]))]
noncomputable def wa9 (N n:Nat) (K:Ex→St→Z15) (a1:Y5) (a4:Y3) (a11 a12:Int):Z15:=itr A_V33 N 6 Tryz.f111 [1,1,0,1,0,0] n (([.u,.val (.ptr Q8) .i a1,.u,.u,.val Q20 O14 a4]++ud 6 [W0 a11,W0 a12])++us 26) K
noncomputable def whp (N n:Nat) (K:Ex→St→Z15) (a1:Y5) (a4:Y3) (a5:Int) (a6:Y4) (a11 a12 a17 a18:Int):Z15:=itr A_V33 N 14 Tryz.f111 [1,1,0,1,0,0,1,1,0,0,1,1,0,1,0,0] n (([.u,.val (.ptr Q8) .i a1,.u,.u,.val Q20 O14 a4,.val (.ptr I) .i a5,W1 a6]++ud 4 ([W0 a11,W0 a12]++ud 4 [W0 a17,W0 a18]))++us 20) K
noncomputable def wr7:Ex→St→Z15:=finish A_V33 S_V33 Tryz.f111.results.toList
noncomputable def wnn (kX:St→Z15) (a4:Y3):Z15:=kX ((ud 4 [.val Q20 O14 a4])++us 34)
noncomputable def wd0 (kX:St→Z15) (kO:Nat→St→Z15):=exK wr7 0 (A_V33.shape 33) kX kO
noncomputable def w9d (kX:St→Z15) (a1:Y5) (a4:Y3) (a6:Y4) (a11 a12:Int):Z15:=kX (([.u,.val (.ptr Q8) .i a1,.u,.u,.val Q20 O14 a4,.u,W1 a6]++ud 4 [W0 a11,W0 a12])++us 26)
noncomputable def w9c (kX:St→Z15) (kO:Nat→St→Z15):=exK wr7 2 (A_V33.shape 29) kX kO
theorem w9f (N kX kO):∀n,whp N n (w9c kX kO)=wu6 N (w9d kX) n :=
 itE rfl fun m=>by kernel_rfl
noncomputable def wnm (N m:Nat) (kX:St→Z15) (kO:Nat→St→Z15):=(blockK 2 (sqK A_V33 N 29 500014 Tryz.f111 [1,1,0,1,0,0,1,1,0,0,1,1,1] (blockK 1 (sqK A_V33 N 31 500015 Tryz.f111 [1,1,0,1,0,0,1,1,1] (itK A_V33 N 6 Tryz.f111 [1,1,0,1,0,0] m (wd0 kX kO))))))
noncomputable def w9h (N m:Nat) (kX:St→Z15) (kO:Nat→St→Z15) (st':St):Z15:=rn A_V33 N Tryz.f111 [1,1,0,1,0,0,1,1,0,0,1,1,1] st' (blockK 1 (sqK A_V33 N 31 500015 Tryz.f111 [1,1,0,1,0,0,1,1,1] (itK A_V33 N 6 Tryz.f111 [1,1,0,1,0,0] m (wd0 kX kO))))
theorem xjh (N m kX kO) {r}(h:wa9 N m (wd0 kX kO)=r):whp N N (wnm N m kX kO)=who N r (wnn kX):=by
 rw[show whp N N (wnm N m kX kO)=whp N N (w9c (w9h N m kX kO) fun j=>(wnm N m kX kO) (.exit j)) from(by funext _ _ _ _ _ _ _ _;exact jlo),w9f,show w9d (w9h N m kX kO)=wd1 (wa9 N m (wd0 kX kO)) by kernel_rfl,h];rfl
theorem w9e (N kX kO):∀n,wa9 N n (wd0 kX kO)=wu5 N (wnn kX) n :=
 itE rfl fun m=>(show _=wd2 (whp N N (wnm N m kX kO)) (wnn kX) by kernel_rfl).trans (by rw[xjh N m kX kO rfl]<;>rfl)
noncomputable def wnl (N:Nat):=(blockK 0 (sqK A_V33 N 33 500016 Tryz.f111 [1,1,1] wr7))
noncomputable def w9g (N:Nat) (st':St):Z15:=rn A_V33 N Tryz.f111 [1,1,1] st' wr7
theorem xjg (N):wa9 N N (wnl N)=wu4 N:=by
 rw[show wa9 N N (wnl N)=wa9 N N (wd0 (w9g N) fun j=>(wnl N) (.exit j)) from(by funext _ _ _ _;exact jlo),w9e,show wnn (w9g N)=yn by kernel_rfl];rfl
theorem run_V33 (N x):runF A_V33 N Tryz.f111 S_V33 x=V33 N x.1:=(show _=(w3v (wa9 N N (wnl N)) x.1) by kernel_rfl).trans (by rw[xjg N];rfl)
theorem ok_V33:OK 111 S_V33:=gdR (A:=A_V33) tc Tryz.func111 (jes ⟨ok_V32,ok_V30,trivial⟩) (run_V33 big)
def wht (rec:T48) (k:T33) (a0 a3:Y5) (a4 a10 a11 a15 a16:Int):Z9 :=
  cond (decide (a16<a15))
  ((atI a3 a4).bind fun _ =>
  (a3[a4.toNat]?).bind fun xq2 =>
  (atI a0 a16).bind fun xq3 =>
  (atI xq3 a4).bind fun xq4 =>
  (a3[a4.toNat]?).bind fun xq5 =>
  (atI xq5 a16).bind fun _ =>
  (a3[a4.toNat]?).bind fun xq6 =>
  (xq6[a16.toNat]?).bind fun xq7 =>
  rec a0 (a3.set a4.toNat (xq6.set a16.toNat xq4)) a4 a10 a11 a15 (IntKind.i64.wrap (a16+1)))
  (k a0 a3 a10 a11)
def wd4 (rec:T33) (a0 a3:Y5) (a10 a11:Int):Z9 :=
  rec a0 a3 a10 (IntKind.i64.wrap (a11+1))
def wd5 (L6:T48) (k:Y5→Z9) (a0 a3:Y5) (a10 a11:Int):Z9 :=
  cond (decide (a11<a10))
  (L6 a0 a3 a11 a10 a11 (a0.length:Int) 0)
  (k a3)
def yo (a3:Y5):Z9 :=
  some (a3,(()))
def w3w (L3:T33) (o_0:Y5):Z9 :=
  (V25 big (o_0.length:Int)).bind fun rq1 =>
  L3 o_0 rq1.1 (o_0.length:Int) 0
def wu9 (N:Nat) (k:T33):=itN (fun r=>wht r k) fun _ _ _ _ _ _ _=>none
def whr (N:Nat) (rec:T33) (k:Y5→Z9):=wu9 N (wd4 rec) N
def wu8 (N:Nat) (k:Y5→Z9):=itN (fun r=>wd5 (whr N r k) k) fun _ _ _ _=>none
def wu7 (N:Nat):=wu8 N (yo) N
def V34 (N:Nat) (o_0:Y5):Z9:=w3w (wu7 N) o_0
def S_V34:Sig:=⟨(.pair Q8 .unit),[0],[],.unit,Q8,O14,fun x=>V34 big x.1⟩
def A_V34:Cfg:=mkCfg tab [(40,S_V25)] [(6,([.as Q8 .i,D0,D0,B5]++dr 6 [B0,B0])),(12,([.as Q8 .i,D0,D0,B5,B0]++dr 5 ([B0,B0]++dr 3 [B0,B0]))),(23,(dr 3 [B5])),(21,([.as Q8 .i,D0,D0,B5]++dr 6 [B0,B0]))]
noncomputable def wba (N n:Nat) (K:Ex→St→Z9) (a0 a3:Y5) (a10 a11:Int):Z9:=itr A_V34 N 6 Tryz.f112 [1,1,0,1,0,0] n (([.val Q8 .i a0,.u,.u,W5 a3]++ud 6 [W0 a10,W0 a11])++us 23) K
noncomputable def whs (N n:Nat) (K:Ex→St→Z9) (a0 a3:Y5) (a4 a10 a11 a15 a16:Int):Z9:=itr A_V34 N 12 Tryz.f112 [1,1,0,1,0,0,1,1,0,0,1,1,0,0] n (([.val Q8 .i a0,.u,.u,W5 a3,W0 a4]++ud 5 ([W0 a10,W0 a11]++ud 3 [W0 a15,W0 a16]))++us 18) K
noncomputable def wr8:Ex→St→Z9:=finish A_V34 S_V34 Tryz.f112.results.toList
noncomputable def wnq (kX:T99) (a3:Y5):Z9:=kX ((ud 3 [W5 a3])++us 31)
noncomputable def wd3 (kX:T99) (kO:T84):=exK wr8 0 (A_V34.shape 23) kX kO
noncomputable def w9j (kX:T99) (a0 a3:Y5) (a10 a11:Int):Z9:=kX (([.val Q8 .i a0,.u,.u,W5 a3]++ud 6 [W0 a10,W0 a11])++us 23)
noncomputable def w9i (kX:T99) (kO:T84):=exK wr8 2 (A_V34.shape 21) kX kO
theorem w9l (N kX kO):∀n,whs N n (w9i kX kO)=wu9 N (w9j kX) n :=
 itE rfl fun m=>by kernel_rfl
noncomputable def wnp (N m:Nat) (kX:T99) (kO:T84):=(blockK 2 (blockK 1 (sqK A_V34 N 21 500010 Tryz.f112 [1,1,0,1,0,0,1,1,1] (itK A_V34 N 6 Tryz.f112 [1,1,0,1,0,0] m (wd3 kX kO)))))
noncomputable def w9n (N m:Nat) (kX:T99) (kO:T84) (st':St):Z9:=rn A_V34 N Tryz.f112 [1,1,0,1,0,0,1,1,1] st' (itK A_V34 N 6 Tryz.f112 [1,1,0,1,0,0] m (wd3 kX kO))
theorem xjj (N m kX kO) {r}(h:wba N m (wd3 kX kO)=r):whs N N (wnp N m kX kO)=whr N r (wnq kX):=by
 rw[show whs N N (wnp N m kX kO)=whs N N (w9i (w9n N m kX kO) fun j=>(wnp N m kX kO) (.exit j)) from(by funext _ _ _ _ _ _ _;exact jlo),w9l,show w9j (w9n N m kX kO)=wd4 (wba N m (wd3 kX kO)) by kernel_rfl,h];rfl
theorem w9k (N kX kO):∀n,wba N n (wd3 kX kO)=wu8 N (wnq kX) n :=
 itE rfl fun m=>(show _=wd5 (whs N N (wnp N m kX kO)) (wnq kX) by kernel_rfl).trans (by rw[xjj N m kX kO rfl]<;>rfl)
noncomputable def wno (N:Nat):=(blockK 0 (sqK A_V34 N 23 500011 Tryz.f112 [1,1,1] wr8))
noncomputable def w9m (N:Nat) (st':St):Z9:=rn A_V34 N Tryz.f112 [1,1,1] st' wr8
theorem xji (N):wba N N (wno N)=wu7 N:=by
 rw[show wba N N (wno N)=wba N N (wd3 (w9m N) fun j=>(wno N) (.exit j)) from(by funext _ _ _ _;exact jlo),w9k,show wnq (w9m N)=yo by kernel_rfl];rfl
theorem run_V34 (N x):runF A_V34 N Tryz.f112 S_V34 x=V34 N x.1:=(show _=(w3w (wba N N (wno N)) x.1) by kernel_rfl).trans (by rw[xji N];rfl)
theorem ok_V34:OK 112 S_V34:=gdR (A:=A_V34) tc Tryz.func112 (jes ⟨ok_V25,trivial⟩) (run_V34 big)
def wr9 (p_0:Y2):Option ((Y1×Z0)×Unit) :=
  (V29 big p_0).bind fun rq1 =>
  cond (!((((),rq1.1.2).2).1))
  (some ((none,false,()),(())))
  (cond (decide ((rq1.1.1.length:Int)=0))
  (some ((none,false,()),(())))
  ((V33 big rq1.1.1).bind fun rq2 =>
  (V34 big rq1.1.1).bind fun rq3 =>
  (V33 big rq3.1).bind fun rq4 =>
  cond ((((),rq2.1.2).2).1)
  (some ((some (rq1.1.1,(rq2.1.1,(rq4.1.1,()))),(((),rq4.1.2).2).1,()),(())))
  (some ((some (rq1.1.1,(rq2.1.1,(rq4.1.1,()))),false,()),(())))))
def V35 (p_0:Y2):Option ((Y1×Z0)×Unit):=wr9 p_0
def S_V35:Sig:=⟨Q17,[0],[],.unit,(.tup (.pair Q4 Q18)),.i,fun x=>V35 x.1⟩
def A_V35:Cfg:=mkCfg tab [(110,S_V29),(111,S_V33),(112,S_V34)] []
theorem run_V35 (N x):runF A_V35 N Tryz.f80 S_V35 x=V35 x.1:=by kernel_rfl
theorem ok_V35:OK 80 S_V35:=gdR (A:=A_V35) tc Tryz.func80 (jes ⟨ok_V29,ok_V33,ok_V34,trivial⟩) (run_V35 big)
def whx (rec:T20) (k:T8) (a0:Y1) (a3 a4 a10 a11 a18 a19 a26 a27:Int):Z10 :=
  cond (decide (a27<a26))
  ((a0).bind fun xq4 =>
  (atI xq4.2.1 a3).bind fun xq5 =>
  (a0).bind fun xq6 =>
  (atI xq6.2.2.1 a4).bind fun xq7 =>
  (atI xq7 a27).bind fun xq8 =>
  (atI xq5 xq8).bind fun xq9 =>
  (a0).bind fun xq10 =>
  (a0).bind fun xq11 =>
  (atI xq11.2.1 a3).bind fun xq12 =>
  (atI xq12 a4).bind fun xq13 =>
  (atI xq10.2.2.1 xq13).bind fun xq14 =>
  (a0).bind fun xq15 =>
  (atI xq15.2.1 a3).bind fun xq16 =>
  (atI xq16 a27).bind fun xq17 =>
  (atI xq14 xq17).bind fun xq18 =>
  cond (decide (xq9≠xq18))
  (some ((some [a3,a4,a27]),(())))
  (rec a0 a3 a4 a10 a11 a18 a19 a26 (IntKind.i64.wrap (a27+1))))
  (k a0 a3 a10 a11 a18 a19)
def wd8 (rec:T8) (a0:Y1) (a3 a10 a11 a18 a19:Int):Z10 :=
  rec a0 a3 a10 a11 a18 (IntKind.i64.wrap (a19+1))
def wea (L8:T20) (k:T30) (a0:Y1) (a3 a10 a11 a18 a19:Int):Z10 :=
  cond (decide (a19<a18))
  ((a0).bind fun xq3 =>
  L8 a0 a3 a19 a10 a11 a18 a19 (xq3.1.length:Int) 0)
  (k a0 a10 a11)
def yq (rec:T30) (a0:Y1) (a10 a11:Int):Z10 :=
  rec a0 a10 (IntKind.i64.wrap (a11+1))
def wd9 (L5:T8) (k:Z10) (a0:Y1) (a10 a11:Int):Z10 :=
  cond (decide (a11<a10))
  ((a0).bind fun xq2 =>
  L5 a0 a11 a10 a11 (xq2.1.length:Int) 0)
  (k)
def yp:Z10 :=
  some (none,(()))
def w3x (L2:T30) (l_0:Y1):Z10 :=
  (l_0).bind fun xq1 =>
  L2 l_0 (xq1.1.length:Int) 0
def wvd (N:Nat) (k:T8):=itN (fun r=>whx r k) fun _ _ _ _ _ _ _ _ _=>none
def whv (N:Nat) (rec:T8) (k:T30):=wvd N (wd8 rec) N
def wvc (N:Nat) (k:T30):=itN (fun r=>wea (whv N r k) k) fun _ _ _ _ _ _=>none
def whu (N:Nat) (rec:T30) (k:Z10):=wvc N (yq rec) N
def wvb (N:Nat) (k:Z10):=itN (fun r=>wd9 (whu N r k) k) fun _ _ _=>none
def wva (N:Nat):=wvb N (yp) N
def V36 (N:Nat) (l_0:Y1):Z10:=w3x (wva N) l_0
def S_V36:Sig:=⟨(.pair Q4 .unit),[0],[],.unit,(.ns I),.i,fun x=>V36 big x.1⟩
def A_V36:Cfg:=mkCfg tab [] [(4,([B10]++dr 9 [B0,B0])),(10,([B10,D0,D0,B0]++dr 6 ([B0,B0]++dr 6 [B0,B0]))),(31,[]),(16,([B10,D0,D0,B0,B0]++dr 5 ([B0,B0]++dr 6 ([B0,B0]++dr 6 [B0,B0])))),(29,([B10]++dr 9 [B0,B0])),(27,([B10,D0,D0,B0]++dr 6 ([B0,B0]++dr 6 [B0,B0])))]
noncomputable def wbb (N n:Nat) (K:Ex→St→Z10) (a0:Y1) (a10 a11:Int):Z10:=itr A_V36 N 4 Tryz.f98 [1,0,1,0,0] n (([.val Q4 .i a0]++ud 9 [W0 a10,W0 a11])++us 73) K
noncomputable def wbc (N n:Nat) (K:Ex→St→Z10) (a0:Y1) (a3 a10 a11 a18 a19:Int):Z10:=itr A_V36 N 10 Tryz.f98 [1,0,1,0,0,1,1,0,0,1,1,0,0] n (([.val Q4 .i a0,.u,.u,W0 a3]++ud 6 ([W0 a10,W0 a11]++ud 6 [W0 a18,W0 a19]))++us 65) K
noncomputable def whw (N n:Nat) (K:Ex→St→Z10) (a0:Y1) (a3 a4 a10 a11 a18 a19 a26 a27:Int):Z10:=itr A_V36 N 16 Tryz.f98 [1,0,1,0,0,1,1,0,0,1,1,0,0,1,1,0,0,1,1,0,0] n (([.val Q4 .i a0,.u,.u,W0 a3,W0 a4]++ud 5 ([W0 a10,W0 a11]++ud 6 ([W0 a18,W0 a19]++ud 6 [W0 a26,W0 a27])))++us 57) K
noncomputable def wnw:Ex→St→Z10:=finish A_V36 S_V36 Tryz.f98.results.toList
noncomputable def wnu (kX:T111):Z10:=kX ([]++us 85)
noncomputable def wd6 (kX:T111) (kO:T100):=exK wnw 0 (A_V36.shape 31) kX kO
noncomputable def wnv (kX:T111) (a0:Y1) (a10 a11:Int):Z10:=kX (([.val Q4 .i a0]++ud 9 [W0 a10,W0 a11])++us 73)
noncomputable def wd7 (kX:T111) (kO:T100):=exK wnw 2 (A_V36.shape 29) kX kO
noncomputable def w9p (kX:T111) (a0:Y1) (a3 a10 a11 a18 a19:Int):Z10:=kX (([.val Q4 .i a0,.u,.u,W0 a3]++ud 6 ([W0 a10,W0 a11]++ud 6 [W0 a18,W0 a19]))++us 65)
noncomputable def w9o (kX:T111) (kO:T100):=exK wnw 4 (A_V36.shape 27) kX kO
theorem w9s (N kX kO):∀n,whw N n (w9o kX kO)=wvd N (w9p kX) n :=
 itE rfl fun m=>by kernel_rfl
noncomputable def wnt (N m:Nat) (kX:T111) (kO:T100):=(blockK 4 (blockK 3 (sqK A_V36 N 27 500013 Tryz.f98 [1,0,1,0,0,1,1,0,0,1,1,0,0,1,1,1] (itK A_V36 N 10 Tryz.f98 [1,0,1,0,0,1,1,0,0,1,1,0,0] m (wd7 kX kO)))))
noncomputable def w9v (N m:Nat) (kX:T111) (kO:T100) (st':St):Z10:=rn A_V36 N Tryz.f98 [1,0,1,0,0,1,1,0,0,1,1,0,0,1,1,1] st' (itK A_V36 N 10 Tryz.f98 [1,0,1,0,0,1,1,0,0,1,1,0,0] m (wd7 kX kO))
theorem xjm (N m kX kO) {r}(h:wbc N m (wd7 kX kO)=r):whw N N (wnt N m kX kO)=whv N r (wnv kX):=by
 rw[show whw N N (wnt N m kX kO)=whw N N (w9o (w9v N m kX kO) fun j=>(wnt N m kX kO) (.exit j)) from(by funext _ _ _ _ _ _ _ _ _;exact jlo),w9s,show w9p (w9v N m kX kO)=wd8 (wbc N m (wd7 kX kO)) by kernel_rfl,h];rfl
theorem w9r (N kX kO):∀n,wbc N n (wd7 kX kO)=wvc N (wnv kX) n :=
 itE rfl fun m=>(show _=wea (whw N N (wnt N m kX kO)) (wnv kX) by kernel_rfl).trans (by rw[xjm N m kX kO rfl]<;>rfl)
noncomputable def wns (N m:Nat) (kX:T111) (kO:T100):=(blockK 2 (blockK 1 (sqK A_V36 N 29 500014 Tryz.f98 [1,0,1,0,0,1,1,1] (itK A_V36 N 4 Tryz.f98 [1,0,1,0,0] m (wd6 kX kO)))))
noncomputable def w9u (N m:Nat) (kX:T111) (kO:T100) (st':St):Z10:=rn A_V36 N Tryz.f98 [1,0,1,0,0,1,1,1] st' (itK A_V36 N 4 Tryz.f98 [1,0,1,0,0] m (wd6 kX kO))
theorem xjl (N m kX kO) {r}(h:wbb N m (wd6 kX kO)=r):wbc N N (wns N m kX kO)=whu N r (wnu kX):=by
 rw[show wbc N N (wns N m kX kO)=wbc N N (wd7 (w9u N m kX kO) fun j=>(wns N m kX kO) (.exit j)) from(by funext _ _ _ _ _ _;exact jlo),w9r,show wnv (w9u N m kX kO)=yq (wbb N m (wd6 kX kO)) by kernel_rfl,h];rfl
theorem w9q (N kX kO):∀n,wbb N n (wd6 kX kO)=wvb N (wnu kX) n :=
 itE rfl fun m=>(show _=wd9 (wbc N N (wns N m kX kO)) (wnu kX) by kernel_rfl).trans (by rw[xjl N m kX kO rfl]<;>rfl)
noncomputable def wnr (N:Nat):=(blockK 0 (sqK A_V36 N 31 500015 Tryz.f98 [1,1] wnw))
noncomputable def w9t (N:Nat) (st':St):Z10:=rn A_V36 N Tryz.f98 [1,1] st' wnw
theorem xjk (N):wbb N N (wnr N)=wva N:=by
 rw[show wbb N N (wnr N)=wbb N N (wd6 (w9t N) fun j=>(wnr N) (.exit j)) from(by funext _ _ _;exact jlo),w9q,show wnu (w9t N)=yp by kernel_rfl];rfl
theorem run_V36 (N x):runF A_V36 N Tryz.f98 S_V36 x=V36 N x.1:=(show _=(w3x (wbb N N (wnr N)) x.1) by kernel_rfl).trans (by rw[xjk N];rfl)
theorem ok_V36:OK 98 S_V36:=gdR (A:=A_V36) tc Tryz.func98 (jes trivial) (run_V36 big)
def w3y (p_0:Y2):Option ((Y1×Z0)×Unit) :=
  (V35 p_0).bind fun rq1 =>
  cond rq1.1.2.1
  ((V36 big rq1.1.1).bind fun rq2 =>
  some ((rq1.1.1,rq2.1.isNone,()),(())))
  (some ((rq1.1.1,false,()),(())))
def V37 (p_0:Y2):Option ((Y1×Z0)×Unit):=w3y p_0
def S_V37:Sig:=⟨Q17,[0],[],.unit,(.tup (.pair Q4 Q18)),.i,fun x=>V37 x.1⟩
def A_V37:Cfg:=mkCfg tab [(80,S_V35),(98,S_V36)] []
theorem run_V37 (N x):runF A_V37 N Tryz.f62 S_V37 x=V37 x.1:=by kernel_rfl
theorem ok_V37:OK 62 S_V37:=gdR (A:=A_V37) tc Tryz.func62 (jes ⟨ok_V35,ok_V36,trivial⟩) (run_V37 big)
def whz (rec:T28) (k:T110) (a0:Y1) (a3 a9 a10:Int):Z4 :=
  cond (decide (a10<a9))
  ((a0).bind fun xq2 =>
  (atI xq2.2.1 a3).bind fun xq3 =>
  (atI xq3 a10).bind fun xq4 =>
  rec a0 xq4 a9 (IntKind.i64.wrap (a10+1)))
  (k a3)
def web (a3:Int):Z4 :=
  some (a3,(()))
def w3z (L3:T28) (l_0:Y1):Z4 :=
  (l_0).bind fun xq1 =>
  L3 l_0 0 (xq1.1.length:Int) 0
def wvf (N:Nat) (k:T110):=itN (fun r=>whz r k) fun _ _ _ _=>none
def wve (N:Nat):=wvf N (web) N
def V38 (N:Nat) (l_0:Y1):Z4:=w3z (wve N) l_0
def S_V38:Sig:=⟨(.pair Q4 .unit),[0],[],.unit,I,.i,fun x=>V38 big x.1⟩
def A_V38:Cfg:=mkCfg tab [] [(6,([B10,D0,D0,B0]++dr 5 [B0,B0])),(15,(dr 3 [B0]))]
noncomputable def why (N n:Nat) (K:T51) (a0:Y1) (a3 a9 a10:Int):Z4:=itr A_V38 N 6 Tryz.f65 [1,1,0,1,0,0] n (([.val Q4 .i a0,.u,.u,W0 a3]++ud 5 [W0 a9,W0 a10])++us 14) K
noncomputable def w30:Ex→St→Z4:=finish A_V38 S_V38 Tryz.f65.results.toList
noncomputable def w9x (kX:T22) (a3:Int):Z4:=kX ((ud 3 [W0 a3])++us 21)
noncomputable def w9w (kX:T22) (kO:T12):=exK w30 0 (A_V38.shape 15) kX kO
theorem w9y (N kX kO):∀n,why N n (w9w kX kO)=wvf N (w9x kX) n :=
 itE rfl fun m=>by kernel_rfl
noncomputable def wnx (N:Nat):=(blockK 0 (sqK A_V38 N 15 500007 Tryz.f65 [1,1,1] w30))
noncomputable def w9z (N:Nat) (st':St):Z4:=rn A_V38 N Tryz.f65 [1,1,1] st' w30
theorem xjn (N):why N N (wnx N)=wve N:=by
 rw[show why N N (wnx N)=why N N (w9w (w9z N) fun j=>(wnx N) (.exit j)) from(by funext _ _ _ _;exact jlo),w9y,show w9x (w9z N)=web by kernel_rfl];rfl
theorem run_V38 (N x):runF A_V38 N Tryz.f65 S_V38 x=V38 N x.1:=(show _=(w3z (why N N (wnx N)) x.1) by kernel_rfl).trans (by rw[xjn N];rfl)
theorem ok_V38:OK 65 S_V38:=gdR (A:=A_V38) tc Tryz.func65 (jes trivial) (run_V38 big)
def wh1 (rec:T28) (k:T110) (a0:Y1) (a3 a9 a10:Int):Z4 :=
  cond (decide (a10<a9))
  ((a0).bind fun xq2 =>
  (atI xq2.2.2.1 a3).bind fun xq3 =>
  (atI xq3 a10).bind fun xq4 =>
  rec a0 xq4 a9 (IntKind.i64.wrap (a10+1)))
  (k a3)
def wec (a3:Int):Z4 :=
  some (a3,(()))
def w31 (L3:T28) (l_0:Y1):Z4 :=
  (l_0).bind fun xq1 =>
  L3 l_0 0 (xq1.1.length:Int) 0
def wvh (N:Nat) (k:T110):=itN (fun r=>wh1 r k) fun _ _ _ _=>none
def wvg (N:Nat):=wvh N (wec) N
def V39 (N:Nat) (l_0:Y1):Z4:=w31 (wvg N) l_0
def S_V39:Sig:=⟨(.pair Q4 .unit),[0],[],.unit,I,.i,fun x=>V39 big x.1⟩
def A_V39:Cfg:=mkCfg tab [] [(6,([B10,D0,D0,B0]++dr 5 [B0,B0])),(15,(dr 3 [B0]))]
noncomputable def wh0 (N n:Nat) (K:T51) (a0:Y1) (a3 a9 a10:Int):Z4:=itr A_V39 N 6 Tryz.f82 [1,1,0,1,0,0] n (([.val Q4 .i a0,.u,.u,W0 a3]++ud 5 [W0 a9,W0 a10])++us 14) K
noncomputable def w32:Ex→St→Z4:=finish A_V39 S_V39 Tryz.f82.results.toList
noncomputable def w91 (kX:T22) (a3:Int):Z4:=kX ((ud 3 [W0 a3])++us 21)
noncomputable def w90 (kX:T22) (kO:T12):=exK w32 0 (A_V39.shape 15) kX kO
theorem w92 (N kX kO):∀n,wh0 N n (w90 kX kO)=wvh N (w91 kX) n :=
 itE rfl fun m=>by kernel_rfl
noncomputable def wny (N:Nat):=(blockK 0 (sqK A_V39 N 15 500007 Tryz.f82 [1,1,1] w32))
noncomputable def w93 (N:Nat) (st':St):Z4:=rn A_V39 N Tryz.f82 [1,1,1] st' w32
theorem xjo (N):wh0 N N (wny N)=wvg N:=by
 rw[show wh0 N N (wny N)=wh0 N N (w90 (w93 N) fun j=>(wny N) (.exit j)) from(by funext _ _ _ _;exact jlo),w92,show w91 (w93 N)=wec by kernel_rfl];rfl
theorem run_V39 (N x):runF A_V39 N Tryz.f82 S_V39 x=V39 N x.1:=(show _=(w31 (wh0 N N (wny N)) x.1) by kernel_rfl).trans (by rw[xjo N];rfl)
theorem ok_V39:OK 82 S_V39:=gdR (A:=A_V39) tc Tryz.func82 (jes trivial) (run_V39 big)
def xgy (c_0:Int) (p_1:Y1) (p_2 p_3 p_4:Int):Option Z0 :=
  (p_1).bind fun xq1 =>
  (atI xq1.2.1 c_0).bind fun xq2 =>
  (atI xq2 p_2).bind fun xq3 =>
  cond (decide (xq3=p_3))
  ((p_1).bind fun xq4 =>
  (atI xq4.2.2.1 c_0).bind fun xq5 =>
  (atI xq5 p_2).bind fun xq6 =>
  some (decide (xq6=p_4),(())))
  (some (false,(())))
def V40 (c_0:Int) (p_1:Y1) (p_2 p_3 p_4:Int):Option Z0:=xgy c_0 p_1 p_2 p_3 p_4
def S_V40:Sig:=⟨(.pair I (.pair (.ptr Q4) (.pair (.ptr I) Q19))),[0,0,0,0,0],[],.unit,.bool,.i,fun x=>V40 x.1 x.2.1 x.2.2.1 x.2.2.2.1 x.2.2.2.2.1⟩
def A_V40:Cfg:=mkCfg tab [] []
theorem run_V40 (N x):runF A_V40 N Tryz.f123 S_V40 x=V40 x.1 x.2.1 x.2.2.1 x.2.2.2.1 x.2.2.2.2.1:=by kernel_rfl
theorem ok_V40:OK 123 S_V40:=gdR (A:=A_V40) tc Tryz.func123 (jes trivial) (run_V40 big)
def wh3 (rec:(Y1×(Int×Z1))→Y4→Int→Int→Z3) (k:T44) (a1:(Y1×(Int×Z1))) (a5:Y4) (a9 a10:Int):Z3 :=
  cond (decide (a10<a9))
  ((V40 a10 a1.1 a1.2.1 a1.2.2.1 a1.2.2.2.1).bind fun rq1 =>
  cond rq1.1
  ((appI a5 [a10]).bind fun xq2 =>
  rec a1 xq2 a9 (IntKind.i64.wrap (a10+1)))
  (rec a1 a5 a9 (IntKind.i64.wrap (a10+1))))
  (k a5)
def wed (a5:Y4):Z3 :=
  some (a5,(()))
def w33 (L3:(Y1×(Int×Z1))→Y4→Int→Int→Z3) (o_0:Y5) (so_1:(Y1×(Int×Z1))):Z3 :=
  L3 so_1 [] (o_0.length:Int) 0
def wvj (N:Nat) (k:T44):=itN (fun r=>wh3 r k) fun _ _ _ _=>none
def wvi (N:Nat):=wvj N (wed) N
def V41 (N:Nat) (o_0:Y5) (so_1:(Y1×(Int×Z1))):Z3:=w33 (wvi N) o_0 so_1
def S_V41:Sig:=⟨(.pair Q8 (.pair (.clo 123 0 (.pair (.ptr Q4) (.pair (.ptr I) Q19))) .unit)),[0,0],[],.unit,Q10,O7,fun x=>V41 big x.1 x.2.1⟩
def A_V41:Cfg:=mkCfg tab [(123,S_V40)] [(6,([D0,.as (.clo 123 0 (.pair (.ptr Q4) (.pair (.ptr I) Q19))) .i]++dr 3 ([B1]++dr 3 [B0,B0]))),(17,(dr 5 [B1]))]
noncomputable def wh2 (N n:Nat) (K:T31) (a1:(Y1×(Int×Z1))) (a5:Y4) (a9 a10:Int):Z3:=itr A_V41 N 6 Tryz.f101 [1,1,0,1,0,0] n (([.u,.val (.clo 123 0 (.pair (.ptr Q4) (.pair (.ptr I) Q19))) .i a1]++ud 3 ([W1 a5]++ud 3 [W0 a9,W0 a10]))++us 11) K
noncomputable def w34:Ex→St→Z3:=finish A_V41 S_V41 Tryz.f101.results.toList
noncomputable def w95 (kX:T18) (a5:Y4):Z3:=kX ((ud 5 [W1 a5])++us 16)
noncomputable def w94 (kX:T18) (kO:T19):=exK w34 0 (A_V41.shape 17) kX kO
theorem w96 (N kX kO):∀n,wh2 N n (w94 kX kO)=wvj N (w95 kX) n :=
 itE rfl fun m=>by kernel_rfl
noncomputable def wnz (N:Nat):=(blockK 0 (sqK A_V41 N 17 500008 Tryz.f101 [1,1,1] w34))
noncomputable def w97 (N:Nat) (st':St):Z3:=rn A_V41 N Tryz.f101 [1,1,1] st' w34
theorem xjp (N):wh2 N N (wnz N)=wvi N:=by
 rw[show wh2 N N (wnz N)=wh2 N N (w94 (w97 N) fun j=>(wnz N) (.exit j)) from(by funext _ _ _ _;exact jlo),w96,show w95 (w97 N)=wed by kernel_rfl];rfl
theorem run_V41 (N x):runF A_V41 N Tryz.f101 S_V41 x=V41 N x.1 x.2.1:=(show _=(w33 (wh2 N N (wnz N)) x.1 x.2.1) by kernel_rfl).trans (by rw[xjp N];rfl)
theorem ok_V41:OK 101 S_V41:=gdR (A:=A_V41) tc Tryz.func101 (jes ⟨ok_V40,trivial⟩) (run_V41 big)
def xgz (l_0:Y1) (x_1 y_2 z_3:Int):Z3 :=
  (l_0).bind fun xq1 =>
  (V41 big xq1.1 (l_0,y_2,x_1,z_3,())).bind fun rq2 =>
  some (rq2.1,(()))
def V42 (l_0:Y1) (x_1 y_2 z_3:Int):Z3:=xgz l_0 x_1 y_2 z_3
def S_V42:Sig:=⟨(.pair Q4 (.pair I Q11)),[0,0,0,0],[],.unit,Q10,O7,fun x=>V42 x.1 x.2.1 x.2.2.1 x.2.2.2.1⟩
def A_V42:Cfg:=mkCfg tab [(101,S_V41)] [(3,(dr 4 [.as (.ptr Q4) .i,.as (.ptr I) .i,.as (.ptr I) .i,.as (.ptr I) .i]))]
theorem run_V42 (N x):runF A_V42 N Tryz.f107 S_V42 x=V42 x.1 x.2.1 x.2.2.1 x.2.2.2.1:=by kernel_rfl
theorem ok_V42:OK 107 S_V42:=gdR (A:=A_V42) tc Tryz.func107 (jes ⟨ok_V41,trivial⟩) (run_V42 big)
def xg0 (l_0:Y1) (x_1:Int):Z3 :=
  (V38 big l_0).bind fun rq1 =>
  (V39 big l_0).bind fun rq2 =>
  (V42 l_0 rq1.1 x_1 rq2.1).bind fun rq3 =>
  some (rq3.1,(()))
def V43 (l_0:Y1) (x_1:Int):Z3:=xg0 l_0 x_1
def S_V43:Sig:=⟨(.pair Q4 Q22),[0,0],[],.unit,Q10,O7,fun x=>V43 x.1 x.2.1⟩
def A_V43:Cfg:=mkCfg tab [(65,S_V38),(82,S_V39),(107,S_V42)] []
theorem run_V43 (N x):runF A_V43 N Tryz.f71 S_V43 x=V43 x.1 x.2.1:=by kernel_rfl
theorem ok_V43:OK 71 S_V43:=gdR (A:=A_V43) tc Tryz.func71 (jes ⟨ok_V38,ok_V39,ok_V42,trivial⟩) (run_V43 big)
def xg1 (x_0:Int) (p_1:Y1):Option Z0 :=
  (V43 p_1 x_0).bind fun rq1 =>
  some (decide ((rq1.1.length:Int)=0),(()))
def V44 (x_0:Int) (p_1:Y1):Option Z0:=xg1 x_0 p_1
def S_V44:Sig:=⟨(.pair I (.pair (.ptr Q4) .unit)),[0,0],[],.unit,.bool,.i,fun x=>V44 x.1 x.2.1⟩
def A_V44:Cfg:=mkCfg tab [(71,S_V43)] []
theorem run_V44 (N x):runF A_V44 N Tryz.f100 S_V44 x=V44 x.1 x.2.1:=by kernel_rfl
theorem ok_V44:OK 100 S_V44:=gdR (A:=A_V44) tc Tryz.func100 (jes ⟨ok_V43,trivial⟩) (run_V44 big)
def wh5 (rec:T72) (k:T44) (a1:(Y1×Unit)) (a5:Y4) (a9 a10:Int):Z3 :=
  cond (decide (a10<a9))
  ((V44 a10 a1.1).bind fun rq1 =>
  cond rq1.1
  ((appI a5 [a10]).bind fun xq2 =>
  rec a1 xq2 a9 (IntKind.i64.wrap (a10+1)))
  (rec a1 a5 a9 (IntKind.i64.wrap (a10+1))))
  (k a5)
def wee (a5:Y4):Z3 :=
  some (a5,(()))
def w35 (L3:T72) (o_0:Y5) (so_1:(Y1×Unit)):Z3 :=
  L3 so_1 [] (o_0.length:Int) 0
def wvl (N:Nat) (k:T44):=itN (fun r=>wh5 r k) fun _ _ _ _=>none
def wvk (N:Nat):=wvl N (wee) N
def V45 (N:Nat) (o_0:Y5) (so_1:(Y1×Unit)):Z3:=w35 (wvk N) o_0 so_1
def S_V45:Sig:=⟨(.pair Q8 (.pair (.clo 100 0 (.pair (.ptr Q4) .unit)) .unit)),[0,0],[],.unit,Q10,O7,fun x=>V45 big x.1 x.2.1⟩
def A_V45:Cfg:=mkCfg tab [(100,S_V44)] [(6,([D0,.as (.clo 100 0 (.pair (.ptr Q4) .unit)) .i]++dr 3 ([B1]++dr 3 [B0,B0]))),(17,(dr 5 [B1]))]
noncomputable def wh4 (N n:Nat) (K:T31) (a1:(Y1×Unit)) (a5:Y4) (a9 a10:Int):Z3:=itr A_V45 N 6 Tryz.f101 [1,1,0,1,0,0] n (([.u,.val (.clo 100 0 (.pair (.ptr Q4) .unit)) .i a1]++ud 3 ([W1 a5]++ud 3 [W0 a9,W0 a10]))++us 11) K
noncomputable def w36:Ex→St→Z3:=finish A_V45 S_V45 Tryz.f101.results.toList
noncomputable def w99 (kX:T18) (a5:Y4):Z3:=kX ((ud 5 [W1 a5])++us 16)
noncomputable def w98 (kX:T18) (kO:T19):=exK w36 0 (A_V45.shape 17) kX kO
theorem xaa (N kX kO):∀n,wh4 N n (w98 kX kO)=wvl N (w99 kX) n :=
 itE rfl fun m=>by kernel_rfl
noncomputable def wn0 (N:Nat):=(blockK 0 (sqK A_V45 N 17 500008 Tryz.f101 [1,1,1] w36))
noncomputable def xab (N:Nat) (st':St):Z3:=rn A_V45 N Tryz.f101 [1,1,1] st' w36
theorem xjq (N):wh4 N N (wn0 N)=wvk N:=by
 rw[show wh4 N N (wn0 N)=wh4 N N (w98 (xab N) fun j=>(wn0 N) (.exit j)) from(by funext _ _ _ _;exact jlo),xaa,show w99 (xab N)=wee by kernel_rfl];rfl
theorem run_V45 (N x):runF A_V45 N Tryz.f101 S_V45 x=V45 N x.1 x.2.1:=(show _=(w35 (wh4 N N (wn0 N)) x.1 x.2.1) by kernel_rfl).trans (by rw[xjq N];rfl)
theorem ok_V45:OK 101 S_V45:=gdR (A:=A_V45) tc Tryz.func101 (jes ⟨ok_V44,trivial⟩) (run_V45 big)
def xg2 (o_0:Y5) (so_1:(Y1×Unit)):Option Z0 :=
  (V45 big o_0 so_1).bind fun rq1 =>
  some (decide ((rq1.1.length:Int)=0),(()))
def V46 (o_0:Y5) (so_1:(Y1×Unit)):Option Z0:=xg2 o_0 so_1
def S_V46:Sig:=⟨(.pair Q8 (.pair (.clo 100 0 (.pair (.ptr Q4) .unit)) .unit)),[0,0],[],.unit,.bool,.i,fun x=>V46 x.1 x.2.1⟩
def A_V46:Cfg:=mkCfg tab [(101,S_V45)] []
theorem run_V46 (N x):runF A_V46 N Tryz.f99 S_V46 x=V46 x.1 x.2.1:=by kernel_rfl
theorem ok_V46:OK 99 S_V46:=gdR (A:=A_V46) tc Tryz.func99 (jes ⟨ok_V45,trivial⟩) (run_V46 big)
def xg3 (l_0:Y1):Option Z0 :=
  (l_0).bind fun xq1 =>
  (V46 xq1.1 (l_0,())).bind fun rq2 =>
  some (rq2.1,(()))
def V47 (l_0:Y1):Option Z0:=xg3 l_0
def S_V47:Sig:=⟨(.pair Q4 .unit),[0],[],.unit,.bool,.i,fun x=>V47 x.1⟩
def A_V47:Cfg:=mkCfg tab [(99,S_V46)] [(3,[D0,.as (.ptr Q4) .i])]
theorem run_V47 (N x):runF A_V47 N Tryz.f63 S_V47 x=V47 x.1:=by kernel_rfl
theorem ok_V47:OK 63 S_V47:=gdR (A:=A_V47) tc Tryz.func63 (jes ⟨ok_V46,trivial⟩) (run_V47 big)
def w37 (p_0:Y2):Option ((Y1×Z0)×Unit) :=
  (V37 p_0).bind fun rq1 =>
  cond rq1.1.2.1
  ((V47 rq1.1.1).bind fun rq2 =>
  some ((rq1.1.1,rq2.1,()),(())))
  (some ((rq1.1.1,false,()),(())))
def V48 (p_0:Y2):Option ((Y1×Z0)×Unit):=w37 p_0
def S_V48:Sig:=⟨Q17,[0],[],.unit,(.tup (.pair Q4 Q18)),.i,fun x=>V48 x.1⟩
def A_V48:Cfg:=mkCfg tab [(62,S_V37),(63,S_V47)] []
theorem run_V48 (N x):runF A_V48 N Tryz.f27 S_V48 x=V48 x.1:=by kernel_rfl
theorem ok_V48:OK 27 S_V48:=gdR (A:=A_V48) tc Tryz.func27 (jes ⟨ok_V37,ok_V47,trivial⟩) (run_V48 big)
def xg4 (o_0:Y5) (x_1 y_2:Int):Option Z0 :=
  cond (decide (x_1≠y_2))
  ((atI o_0 x_1).bind fun xq1 =>
  (atI xq1 y_2).bind fun xq2 =>
  some (xq2,(())))
  (some (false,(())))
def V49 (o_0:Y5) (x_1 y_2:Int):Option Z0:=xg4 o_0 x_1 y_2
def S_V49:Sig:=⟨(.pair Q8 Q11),[0,0,0],[],.unit,.bool,.i,fun x=>V49 x.1 x.2.1 x.2.2.1⟩
def A_V49:Cfg:=mkCfg tab [] []
theorem run_V49 (N x):runF A_V49 N Tryz.f121 S_V49 x=V49 x.1 x.2.1 x.2.2.1:=by kernel_rfl
theorem ok_V49:OK 121 S_V49:=gdR (A:=A_V49) tc Tryz.func121 (jes trivial) (run_V49 big)
def wh7 (rec:Y5→Int→Int→Int→Int→Option Z0) (k:Option Z0) (a0:Y5) (a1 a2 a14 a15:Int):Option Z0 :=
  cond (decide (a15<a14))
  ((V49 a0 a1 a15).bind fun rq2 =>
  cond rq2.1
  ((V49 a0 a15 a2).bind fun rq3 =>
  cond rq3.1
  (some (false,(())))
  (rec a0 a1 a2 a14 (IntKind.i64.wrap (a15+1))))
  (rec a0 a1 a2 a14 (IntKind.i64.wrap (a15+1))))
  (k)
def wef:Option Z0 :=
  some (true,(()))
def w38 (L4:Y5→Int→Int→Int→Int→Option Z0) (o_0:Y5) (x_1 y_2:Int):Option Z0 :=
  (V49 o_0 x_1 y_2).bind fun rq1 =>
  cond (!rq1.1)
  (some (false,(())))
  (L4 o_0 x_1 y_2 (o_0.length:Int) 0)
def wvn (N:Nat) (k:Option Z0):=itN (fun r=>wh7 r k) fun _ _ _ _ _=>none
def wvm (N:Nat):=wvn N (wef) N
def V50 (N:Nat) (o_0:Y5) (x_1 y_2:Int):Option Z0:=w38 (wvm N) o_0 x_1 y_2
def S_V50:Sig:=⟨(.pair Q8 Q11),[0,0,0],[],.unit,.bool,.i,fun x=>V50 big x.1 x.2.1 x.2.2.1⟩
def A_V50:Cfg:=mkCfg tab [(121,S_V49)] [(8,([.as Q8 .i,B0,B0]++dr 11 [B0,B0])),(19,[])]
noncomputable def wh6 (N n:Nat) (K:Ex→St→Option Z0) (a0:Y5) (a1 a2 a14 a15:Int):Option Z0:=itr A_V50 N 8 Tryz.f103 [1,1,0,1,0,0] n (([.val Q8 .i a0,W0 a1,W0 a2]++ud 11 [W0 a14,W0 a15])++us 13) K
noncomputable def w39:Ex→St→Option Z0:=finish A_V50 S_V50 Tryz.f103.results.toList
noncomputable def xad (kX:St→Option Z0):Option Z0:=kX ([]++us 29)
noncomputable def xac (kX:St→Option Z0) (kO:Nat→St→Option Z0):Ex→St→Option Z0:=exK w39 0 (A_V50.shape 19) kX kO
theorem xae (N kX kO):∀n,wh6 N n (xac kX kO)=wvn N (xad kX) n :=
 itE rfl fun m=>by kernel_rfl
noncomputable def wn1 (N:Nat):Ex→St→Option Z0:=(blockK 0 (sqK A_V50 N 19 500009 Tryz.f103 [1,1,1] w39))
noncomputable def xaf (N:Nat) (st':St):Option Z0:=rn A_V50 N Tryz.f103 [1,1,1] st' w39
theorem xjr (N):wh6 N N (wn1 N)=wvm N:=by
 rw[show wh6 N N (wn1 N)=wh6 N N (xac (xaf N) fun j=>(wn1 N) (.exit j)) from(by funext _ _ _ _ _;exact jlo),xae,show xad (xaf N)=wef by kernel_rfl];rfl
theorem run_V50 (N x):runF A_V50 N Tryz.f103 S_V50 x=V50 N x.1 x.2.1 x.2.2.1:=(show _=(w38 (wh6 N N (wn1 N)) x.1 x.2.1 x.2.2.1) by kernel_rfl).trans (by rw[xjr N];rfl)
theorem ok_V50:OK 103 S_V50:=gdR (A:=A_V50) tc Tryz.func103 (jes ⟨ok_V49,trivial⟩) (run_V50 big)
def xg5 (y_0:Int) (p_1:Y5) (p_2:Int):Option Z0 :=
  (V50 big p_1 p_2 y_0).bind fun rq1 =>
  some (rq1.1,(()))
def V51 (y_0:Int) (p_1:Y5) (p_2:Int):Option Z0:=xg5 y_0 p_1 p_2
def S_V51:Sig:=⟨(.pair I (.pair (.ptr Q8) (.pair (.ptr I) .unit))),[0,0,0],[],.unit,.bool,.i,fun x=>V51 x.1 x.2.1 x.2.2.1⟩
def A_V51:Cfg:=mkCfg tab [(103,S_V50)] []
theorem run_V51 (N x):runF A_V51 N Tryz.f102 S_V51 x=V51 x.1 x.2.1 x.2.2.1:=by kernel_rfl
theorem ok_V51:OK 102 S_V51:=gdR (A:=A_V51) tc Tryz.func102 (jes ⟨ok_V50,trivial⟩) (run_V51 big)
def wh9 (rec:(Y5×(Int×Unit))→Y4→Int→Int→Z3) (k:T44) (a1:(Y5×(Int×Unit))) (a5:Y4) (a9 a10:Int):Z3 :=
  cond (decide (a10<a9))
  ((V51 a10 a1.1 a1.2.1).bind fun rq1 =>
  cond rq1.1
  ((appI a5 [a10]).bind fun xq2 =>
  rec a1 xq2 a9 (IntKind.i64.wrap (a10+1)))
  (rec a1 a5 a9 (IntKind.i64.wrap (a10+1))))
  (k a5)
def weg (a5:Y4):Z3 :=
  some (a5,(()))
def w4a (L3:(Y5×(Int×Unit))→Y4→Int→Int→Z3) (o_0:Y5) (so_1:(Y5×(Int×Unit))):Z3 :=
  L3 so_1 [] (o_0.length:Int) 0
def wvp (N:Nat) (k:T44):=itN (fun r=>wh9 r k) fun _ _ _ _=>none
def wvo (N:Nat):=wvp N (weg) N
def V52 (N:Nat) (o_0:Y5) (so_1:(Y5×(Int×Unit))):Z3:=w4a (wvo N) o_0 so_1
def S_V52:Sig:=⟨(.pair Q8 (.pair (.clo 102 0 (.pair (.ptr Q8) (.pair (.ptr I) .unit))) .unit)),[0,0],[],.unit,Q10,O7,fun x=>V52 big x.1 x.2.1⟩
def A_V52:Cfg:=mkCfg tab [(102,S_V51)] [(6,([D0,.as (.clo 102 0 (.pair (.ptr Q8) (.pair (.ptr I) .unit))) .i]++dr 3 ([B1]++dr 3 [B0,B0]))),(17,(dr 5 [B1]))]
noncomputable def wh8 (N n:Nat) (K:T31) (a1:(Y5×(Int×Unit))) (a5:Y4) (a9 a10:Int):Z3:=itr A_V52 N 6 Tryz.f101 [1,1,0,1,0,0] n (([.u,.val (.clo 102 0 (.pair (.ptr Q8) (.pair (.ptr I) .unit))) .i a1]++ud 3 ([W1 a5]++ud 3 [W0 a9,W0 a10]))++us 11) K
noncomputable def w4b:Ex→St→Z3:=finish A_V52 S_V52 Tryz.f101.results.toList
noncomputable def xah (kX:T18) (a5:Y4):Z3:=kX ((ud 5 [W1 a5])++us 16)
noncomputable def xag (kX:T18) (kO:T19):=exK w4b 0 (A_V52.shape 17) kX kO
theorem xai (N kX kO):∀n,wh8 N n (xag kX kO)=wvp N (xah kX) n :=
 itE rfl fun m=>by kernel_rfl
noncomputable def wn2 (N:Nat):=(blockK 0 (sqK A_V52 N 17 500008 Tryz.f101 [1,1,1] w4b))
noncomputable def xaj (N:Nat) (st':St):Z3:=rn A_V52 N Tryz.f101 [1,1,1] st' w4b
theorem xjs (N):wh8 N N (wn2 N)=wvo N:=by
 rw[show wh8 N N (wn2 N)=wh8 N N (xag (xaj N) fun j=>(wn2 N) (.exit j)) from(by funext _ _ _ _;exact jlo),xai,show xah (xaj N)=weg by kernel_rfl];rfl
theorem run_V52 (N x):runF A_V52 N Tryz.f101 S_V52 x=V52 N x.1 x.2.1:=(show _=(w4a (wh8 N N (wn2 N)) x.1 x.2.1) by kernel_rfl).trans (by rw[xjs N];rfl)
theorem ok_V52:OK 101 S_V52:=gdR (A:=A_V52) tc Tryz.func101 (jes ⟨ok_V51,trivial⟩) (run_V52 big)
def xg6 (o_0:Y5) (x_1:Int):Z3 :=
  (V52 big o_0 (o_0,x_1,())).bind fun rq1 =>
  some (rq1.1,(()))
def V53 (o_0:Y5) (x_1:Int):Z3:=xg6 o_0 x_1
def S_V53:Sig:=⟨(.pair Q8 Q22),[0,0],[],.unit,Q10,O7,fun x=>V53 x.1 x.2.1⟩
def A_V53:Cfg:=mkCfg tab [(101,S_V52)] [(3,[D0,D0,.as (.ptr Q8) .i,.as (.ptr I) .i])]
theorem run_V53 (N x):runF A_V53 N Tryz.f64 S_V53 x=V53 x.1 x.2.1:=by kernel_rfl
theorem ok_V53:OK 64 S_V53:=gdR (A:=A_V53) tc Tryz.func64 (jes ⟨ok_V52,trivial⟩) (run_V53 big)
def xg7 (l_0:Y1):Z3 :=
  (l_0).bind fun xq1 =>
  (V38 big l_0).bind fun rq2 =>
  (V53 xq1.1 rq2.1).bind fun rq3 =>
  some (rq3.1,(()))
def V54 (l_0:Y1):Z3:=xg7 l_0
def S_V54:Sig:=⟨(.pair Q4 .unit),[0],[],.unit,Q10,O7,fun x=>V54 x.1⟩
def A_V54:Cfg:=mkCfg tab [(65,S_V38),(64,S_V53)] []
theorem run_V54 (N x):runF A_V54 N Tryz.f28 S_V54 x=V54 x.1:=by kernel_rfl
theorem ok_V54:OK 28 S_V54:=gdR (A:=A_V54) tc Tryz.func28 (jes ⟨ok_V38,ok_V53,trivial⟩) (run_V54 big)
def wek (rec:T23) (k:Y1→Y4→Int→Int→Int→Z5) (a4:Y1) (a6:Y4) (a7 a8 a24 a25:Int) (a29:Y4) (a30 a31:Int):Z5 :=
  cond (decide (a31<a30))
  ((atI a29 a31).bind fun _ =>
  (a29[a31.toNat]?).bind fun xq4 =>
  (a4).bind fun xq5 =>
  (atI xq5.1 xq4).bind fun xq6 =>
  (atI xq6 a7).bind fun xq7 =>
  cond xq7
  ((shlI IntKind.i64 1 a31).bind fun xq8 =>
  rec a4 a6 a7 (IntKind.i64.wrap (a8+xq8)) a24 a25 a29 a30 (IntKind.i64.wrap (a31+1)))
  (rec a4 a6 a7 a8 a24 a25 a29 a30 (IntKind.i64.wrap (a31+1))))
  (k a4 a6 a8 a24 a25)
def wag (rec:T60) (a4:Y1) (a6:Y4) (a8 a24 a25:Int):Z5 :=
  (appI a6 [a8]).bind fun xq9 =>
  rec a4 xq9 a24 (IntKind.i64.wrap (a25+1))
def wel (L10:T23) (k:Y4→Z5) (a4:Y1) (a6:Y4) (a24 a25:Int):Z5 :=
  cond (decide (a25<a24))
  ((V54 a4).bind fun rq3 =>
  L10 a4 a6 a25 0 a24 a25 rq3.1 (rq3.1.length:Int) 0)
  (k a6)
def yr (a6:Y4):Z5 :=
  some ((a6,true,()),(()))
def wsa (L6:T60) (p_0:Y2):Z5 :=
  (V48 p_0).bind fun rq1 =>
  cond (!rq1.1.2.1)
  (some (([],false,()),(())))
  ((rq1.1.1).bind fun xq2 =>
  L6 rq1.1.1 [] (xq2.1.length:Int) 0)
def wre (N:Nat) (k:Y1→Y4→Int→Int→Int→Z5):=itN (fun r=>wek r k) fun _ _ _ _ _ _ _ _ _=>none
def wei (N:Nat) (rec:T60) (k:Y4→Z5):=wre N (wag rec) N
def wvr (N:Nat) (k:Y4→Z5):=itN (fun r=>wel (wei N r k) k) fun _ _ _ _=>none
def wvq (N:Nat):=wvr N (yr) N
def V55 (N:Nat) (p_0:Y2):Z5:=wsa (wvq N) p_0
def S_V55:Sig:=⟨Q17,[0],[],.unit,(.tup (.pair Q10 Q18)),(.p O7 .i),fun x=>V55 big x.1⟩
def A_V55:Cfg:=mkCfg tab [(27,S_V48),(28,S_V54)] [(12,(dr 4 ([B10,D0,B1]++dr 17 [B0,B0]))),(20,(dr 4 ([B10,D0,B1,B0,B0]++dr 15 ([B0,B0]++dr 3 [B1,B0,B0])))),(35,(dr 6 [B1])),(31,(dr 4 ([B10,D0,B1,D0,B0]++dr 15 [B0,B0])))]
noncomputable def wbd (N n:Nat) (K:T105) (a4:Y1) (a6:Y4) (a24 a25:Int):Z5:=itr A_V55 N 12 Tryz.f6 [1,1,1,1,0,1,0,0] n ((ud 4 ([.val Q4 .i a4,.u,W1 a6]++ud 17 [W0 a24,W0 a25]))++us 31) K
noncomputable def wej (N n:Nat) (K:T105) (a4:Y1) (a6:Y4) (a7 a8 a24 a25:Int) (a29:Y4) (a30 a31:Int):Z5:=itr A_V55 N 20 Tryz.f6 [1,1,1,1,0,1,0,0,1,1,0,0,1,1,0,1,0,0] n ((ud 4 ([.val Q4 .i a4,.u,W1 a6,W0 a7,W0 a8]++ud 15 ([W0 a24,W0 a25]++ud 3 [W1 a29,W0 a30,W0 a31])))++us 25) K
noncomputable def wsb:Ex→St→Z5:=finish A_V55 S_V55 Tryz.f6.results.toList
noncomputable def wn4 (kX:T56) (a6:Y4):Z5:=kX ((ud 6 [W1 a6])++us 50)
noncomputable def weh (kX:T56) (kO:T36):=exK wsb 0 (A_V55.shape 35) kX kO
noncomputable def w1m (kX:T56) (a4:Y1) (a6:Y4) (a8 a24 a25:Int):Z5:=kX ((ud 4 ([.val Q4 .i a4,.u,W1 a6,.u,W0 a8]++ud 15 [W0 a24,W0 a25]))++us 31)
noncomputable def w1l (kX:T56) (kO:T36):=exK wsb 2 (A_V55.shape 31) kX kO
theorem w4c (N kX kO):∀n,wej N n (w1l kX kO)=wre N (w1m kX) n :=
 itE rfl fun m=>by kernel_rfl
noncomputable def wlc (N m:Nat) (kX:T56) (kO:T36):=(blockK 2 (sqK A_V55 N 31 500015 Tryz.f6 [1,1,1,1,0,1,0,0,1,1,0,0,1,1,1] (blockK 1 (sqK A_V55 N 33 500016 Tryz.f6 [1,1,1,1,0,1,0,0,1,1,1] (itK A_V55 N 12 Tryz.f6 [1,1,1,1,0,1,0,0] m (weh kX kO))))))
noncomputable def w1n (N m:Nat) (kX:T56) (kO:T36) (st':St):Z5:=rn A_V55 N Tryz.f6 [1,1,1,1,0,1,0,0,1,1,0,0,1,1,1] st' (blockK 1 (sqK A_V55 N 33 500016 Tryz.f6 [1,1,1,1,0,1,0,0,1,1,1] (itK A_V55 N 12 Tryz.f6 [1,1,1,1,0,1,0,0] m (weh kX kO))))
theorem xfr (N m kX kO) {r}(h:wbd N m (weh kX kO)=r):wej N N (wlc N m kX kO)=wei N r (wn4 kX):=by
 rw[show wej N N (wlc N m kX kO)=wej N N (w1l (w1n N m kX kO) fun j=>(wlc N m kX kO) (.exit j)) from(by funext _ _ _ _ _ _ _ _ _;exact jlo),w4c,show w1m (w1n N m kX kO)=wag (wbd N m (weh kX kO)) by kernel_rfl,h];rfl
theorem xak (N kX kO):∀n,wbd N n (weh kX kO)=wvr N (wn4 kX) n :=
 itE rfl fun m=>(show _=wel (wej N N (wlc N m kX kO)) (wn4 kX) by kernel_rfl).trans (by rw[xfr N m kX kO rfl]<;>rfl)
noncomputable def wn3 (N:Nat):=(blockK 0 (sqK A_V55 N 35 500017 Tryz.f6 [1,1,1,1,1] wsb))
noncomputable def xal (N:Nat) (st':St):Z5:=rn A_V55 N Tryz.f6 [1,1,1,1,1] st' wsb
theorem xju (N):wbd N N (wn3 N)=wvq N:=by
 rw[show wbd N N (wn3 N)=wbd N N (weh (xal N) fun j=>(wn3 N) (.exit j)) from(by funext _ _ _ _;exact jlo),xak,show wn4 (xal N)=yr by kernel_rfl];rfl
theorem run_V55 (N x):runF A_V55 N Tryz.f6 S_V55 x=V55 N x.1:=(show _=(wsa (wbd N N (wn3 N)) x.1) by kernel_rfl).trans (by rw[xju N];rfl)
theorem ok_V55:OK 6 S_V55:=gdR (A:=A_V55) tc Tryz.func6 (jes ⟨ok_V48,ok_V54,trivial⟩) (run_V55 big)
def wvu (rec:Y4→Int→Int→Int→Option Z0) (k:Option Z0) (a0:Y4) (a1 a2 a7:Int):Option Z0 :=
  cond (decide (a7<(a0.length:Int)))
  ((atI a0 a7).bind fun xq1 =>
  (V6 xq1 a1 a2).bind fun rq2 =>
  cond (!rq2.1)
  (some (false,(())))
  (cond (decide (0<a7))
  ((atI a0 (IntKind.i64.wrap (a7-1))).bind fun xq3 =>
  (atI a0 a7).bind fun xq4 =>
  cond (decide (xq4≤xq3))
  (some (false,(())))
  (rec a0 a1 a2 (IntKind.i64.wrap (a7+1))))
  (rec a0 a1 a2 (IntKind.i64.wrap (a7+1)))))
  (k)
def wia:Option Z0 :=
  some (true,(()))
def w4d (L2:Y4→Int→Int→Int→Option Z0) (l_0:Y4) (lo_1 hi_2:Int):Option Z0 :=
  L2 l_0 lo_1 hi_2 0
def wem (N:Nat) (k:Option Z0):Nat→Y4→Int→Int→Int→Option Z0
  | 0,_,_,_,_=>none
  | m+1,a0,a1,a2,a7=>wvu (wem N k m) k a0 a1 a2 a7
def wvs (N:Nat):=wem N (wia) N
def V56 (N:Nat) (l_0:Y4) (lo_1 hi_2:Int):Option Z0:=w4d (wvs N) l_0 lo_1 hi_2
def S_V56:Sig:=⟨(.pair Q10 Q11),[0,0,0],[],.unit,.bool,.i,fun x=>V56 big x.1 x.2.1 x.2.2.1⟩
def A_V56:Cfg:=mkCfg tab [(60,S_V6)] [(4,([B4,B0,B0]++dr 4 [B0])),(13,[])]
noncomputable def wbe (N n:Nat) (K:Ex→St→Option Z0) (a0:Y4) (a1 a2 a7:Int):Option Z0:=itr A_V56 N 4 Tryz.f130 [1,0,1,0,0] n (([W4 a0,W0 a1,W0 a2]++ud 4 [W0 a7])++us 30) K
noncomputable def w4e:Ex→St→Option Z0:=finish A_V56 S_V56 Tryz.f130.results.toList
noncomputable def wvt (kX:St→Option Z0):Option Z0:=kX ([]++us 38)
noncomputable def wn5 (kX:St→Option Z0) (kO:Nat→St→Option Z0):Ex→St→Option Z0:=exK w4e 0 (A_V56.shape 13) kX kO
theorem wrs (N kX kO):∀n,wbe N n (wn5 kX kO)=wem N (wvt kX) n
 | 0=>rfl
 | m+1=>(show wbe N (m+1) (wn5 kX kO)=wvu (wbe N m (wn5 kX kO)) (wvt kX) by kernel_rfl).trans (by rw[wrs N kX kO m];funext _ _ _ _;rfl)
noncomputable def wn6 (N:Nat):Ex→St→Option Z0:=(blockK 0 (sqK A_V56 N 13 500006 Tryz.f130 [1,1] w4e))
noncomputable def xam (N:Nat) (st':St):Option Z0:=rn A_V56 N Tryz.f130 [1,1] st' w4e
theorem xjv (N):wbe N N (wn6 N)=wvs N:=by
 rw[show wbe N N (wn6 N)=wbe N N (wn5 (xam N) fun j=>(wn6 N) (.exit j)) from(by funext _ _ _ _;exact jlo),wrs,show wvt (xam N)=wia by kernel_rfl];rfl
theorem run_V56 (N x):runF A_V56 N Tryz.f130 S_V56 x=V56 N x.1 x.2.1 x.2.2.1:=(show _=(w4d (wbe N N (wn6 N)) x.1 x.2.1 x.2.2.1) by kernel_rfl).trans (by rw[xjv N];rfl)
theorem ok_V56:OK 130 S_V56:=gdR (A:=A_V56) tc Tryz.func130 (jes ⟨ok_V6,trivial⟩) (run_V56 big)
def wic (rec:Y4→Y4→Int→Option Z0) (k:Option Z0) (a0 a1:Y4) (a5:Int):Option Z0 :=
  cond (decide (a5<(a0.length:Int)))
  ((atI a0 a5).bind fun xq1 =>
  (V14 big a1 xq1).bind fun rq2 =>
  cond (!rq2.1)
  (some (false,(())))
  (rec a0 a1 (IntKind.i64.wrap (a5+1))))
  (k)
def wen:Option Z0 :=
  some (true,(()))
def w4f (L2:Y4→Y4→Int→Option Z0) (x_0 y_1:Y4):Option Z0 :=
  L2 x_0 y_1 0
def wvw (N:Nat) (k:Option Z0):=itN (fun r=>wic r k) fun _ _ _=>none
def wvv (N:Nat):=wvw N (wen) N
def V57 (N:Nat) (x_0 y_1:Y4):Option Z0:=w4f (wvv N) x_0 y_1
def S_V57:Sig:=⟨Q16,[0,0],[],.unit,.bool,.i,fun x=>V57 big x.1 x.2.1⟩
def A_V57:Cfg:=mkCfg tab [(67,S_V14)] [(4,([B4,B4]++dr 3 [B0])),(13,[])]
noncomputable def wib (N n:Nat) (K:Ex→St→Option Z0) (a0 a1:Y4) (a5:Int):Option Z0:=itr A_V57 N 4 Tryz.f109 [1,0,1,0,0] n (([W4 a0,W4 a1]++ud 3 [W0 a5])++us 13) K
noncomputable def w4g:Ex→St→Option Z0:=finish A_V57 S_V57 Tryz.f109.results.toList
noncomputable def xao (kX:St→Option Z0):Option Z0:=kX ([]++us 19)
noncomputable def xan (kX:St→Option Z0) (kO:Nat→St→Option Z0):Ex→St→Option Z0:=exK w4g 0 (A_V57.shape 13) kX kO
theorem xap (N kX kO):∀n,wib N n (xan kX kO)=wvw N (xao kX) n :=
 itE rfl fun m=>by kernel_rfl
noncomputable def wn7 (N:Nat):Ex→St→Option Z0:=(blockK 0 (sqK A_V57 N 13 500006 Tryz.f109 [1,1] w4g))
noncomputable def xaq (N:Nat) (st':St):Option Z0:=rn A_V57 N Tryz.f109 [1,1] st' w4g
theorem xjw (N):wib N N (wn7 N)=wvv N:=by
 rw[show wib N N (wn7 N)=wib N N (xan (xaq N) fun j=>(wn7 N) (.exit j)) from(by funext _ _ _;exact jlo),xap,show xao (xaq N)=wen by kernel_rfl];rfl
theorem run_V57 (N x):runF A_V57 N Tryz.f109 S_V57 x=V57 N x.1 x.2.1:=(show _=(w4f (wib N N (wn7 N)) x.1 x.2.1) by kernel_rfl).trans (by rw[xjw N];rfl)
theorem ok_V57:OK 109 S_V57:=gdR (A:=A_V57) tc Tryz.func109 (jes ⟨ok_V14,trivial⟩) (run_V57 big)
def wer (rec:Y2→Int→Int→Int→Option Z0) (k:Y2→Int→Int→Option Z0) (a1:Y2) (a3 a5 a6:Int):Option Z0 :=
  (atI a1.1 a5).bind fun xq5 =>
  cond (decide (a6<(xq5.length:Int)))
  ((atI a1.1 a5).bind fun xq6 =>
  (atI xq6 a6).bind fun xq7 =>
  cond (decide (xq7≠a5))
  ((atI a1.1 xq7).bind fun xq8 =>
  (V14 big xq8 a5).bind fun rq9 =>
  cond rq9.1
  (some (false,(())))
  ((atI a1.1 xq7).bind fun xq10 =>
  (atI a1.1 a5).bind fun xq11 =>
  (V57 big xq10 xq11).bind fun rq12 =>
  cond (!rq12.1)
  (some (false,(())))
  (rec a1 a3 a5 (IntKind.i64.wrap (a6+1)))))
  ((atI a1.1 xq7).bind fun xq13 =>
  (atI a1.1 a5).bind fun xq14 =>
  (V57 big xq13 xq14).bind fun rq15 =>
  cond (!rq15.1)
  (some (false,(())))
  (rec a1 a3 a5 (IntKind.i64.wrap (a6+1)))))
  (k a1 a3 a5)
def waj (rec:Y2→Int→Int→Option Z0) (a1:Y2) (a3 a5:Int):Option Z0 :=
  rec a1 a3 (IntKind.i64.wrap (a5+1))
def wak (L13:Y2→Int→Int→Int→Option Z0) (k:Option Z0) (a1:Y2) (a3 a5:Int):Option Z0 :=
  cond (decide (a5<a3))
  (L13 a1 a3 a5 0)
  (k)
def xj:Option Z0 :=
  some (true,(()))
def wie (rec:Y2→Int→Int→Option Z0) (k:Y2→Int→Option Z0) (a1:Y2) (a3 a4:Int):Option Z0 :=
  cond (decide (a4<a3))
  ((atI a1.1 a4).bind fun xq1 =>
  (V56 big xq1 0 (IntKind.i64.wrap (a3-1))).bind fun rq2 =>
  cond (!rq2.1)
  (some (false,(())))
  ((atI a1.1 a4).bind fun xq3 =>
  (V14 big xq3 a4).bind fun rq4 =>
  cond (!rq4.1)
  (some (false,(())))
  (rec a1 a3 (IntKind.i64.wrap (a4+1)))))
  (k a1 a3)
def weq (L10:Y2→Int→Int→Option Z0) (a1:Y2) (a3:Int):Option Z0 :=
  L10 a1 a3 0
def w4j (L5:Y2→Int→Int→Option Z0) (p_0:Y2):Option Z0 :=
  cond (decide (10<(p_0.1.length:Int)))
  (some (false,(())))
  (L5 p_0 (p_0.1.length:Int) 0)
def wrg (N:Nat) (k:Y2→Int→Int→Option Z0):=itN (fun r=>wer r k) fun _ _ _ _=>none
def weo (N:Nat) (rec:Y2→Int→Int→Option Z0) (k:Option Z0):=wrg N (waj rec) N
def wvy (N:Nat) (k:Y2→Int→Option Z0):=itN (fun r=>wie r k) fun _ _ _=>none
def wrf (N:Nat) (k:Option Z0):=itN (fun r=>wak (weo N r k) k) fun _ _ _=>none
def wai (N:Nat):=wrf N (xj) N
def wvx (N:Nat):=wvy N (weq (wai N)) N
def V58 (N:Nat) (p_0:Y2):Option Z0:=w4j (wvx N) p_0
def S_V58:Sig:=⟨Q17,[0],[],.unit,.bool,.i,fun x=>V58 big x.1⟩
def A_V58:Cfg:=mkCfg tab [(130,S_V56),(67,S_V14),(109,S_V57)] [(10,[D0,B3,D0,B0,B0]),(19,[D0,B3,D0,B0]),(20,[D0,B3,D0,B0,D0,B0]),(26,[D0,B3,D0,B0,D0,B0,B0]),(37,[]),(23,[D0,B3,D0,B0,D0,B0])]
noncomputable def wid (N n:Nat) (K:Ex→St→Option Z0) (a1:Y2) (a3 a4:Int):Option Z0:=itr A_V58 N 10 Tryz.f122 [1,1,1,0,1,0,0] n ([.u,W3 a1,.u,W0 a3,W0 a4]++us 81) K
noncomputable def yd (N n:Nat) (K:Ex→St→Option Z0) (a1:Y2) (a3 a5:Int):Option Z0:=itr A_V58 N 20 Tryz.f122 [1,1,1,1,0,1,0,0] n ([.u,W3 a1,.u,W0 a3,.u,W0 a5]++us 80) K
noncomputable def wep (N n:Nat) (K:Ex→St→Option Z0) (a1:Y2) (a3 a5 a6:Int):Option Z0:=itr A_V58 N 26 Tryz.f122 [1,1,1,1,0,1,0,0,1,0,0,1,0,0] n ([.u,W3 a1,.u,W0 a3,.u,W0 a5,W0 a6]++us 79) K
noncomputable def wgn:Ex→St→Option Z0:=finish A_V58 S_V58 Tryz.f122.results.toList
noncomputable def xas (kX:St→Option Z0) (a1:Y2) (a3:Int):Option Z0:=kX ([.u,W3 a1,.u,W0 a3]++us 82)
noncomputable def xar (kX:St→Option Z0) (kO:Nat→St→Option Z0):Ex→St→Option Z0:=exK wgn 0 (A_V58.shape 19) kX kO
noncomputable def wlg (kX:St→Option Z0):Option Z0:=kX ([]++us 86)
noncomputable def wah (kX:St→Option Z0) (kO:Nat→St→Option Z0):Ex→St→Option Z0:=exK wgn 2 (A_V58.shape 37) kX kO
noncomputable def w1p (kX:St→Option Z0) (a1:Y2) (a3 a5:Int):Option Z0:=kX ([.u,W3 a1,.u,W0 a3,.u,W0 a5]++us 80)
noncomputable def w1o (kX:St→Option Z0) (kO:Nat→St→Option Z0):Ex→St→Option Z0:=exK wgn 4 (A_V58.shape 23) kX kO
theorem xat (N kX kO):∀n,wid N n (xar kX kO)=wvy N (xas kX) n :=
 itE rfl fun m=>by kernel_rfl
noncomputable def wn8 (N:Nat):Ex→St→Option Z0:=(blockK 0 (sqK A_V58 N 19 500009 Tryz.f122 [1,1,1,1] wgn))
theorem w4i (N kX kO):∀n,wep N n (w1o kX kO)=wrg N (w1p kX) n :=
 itE rfl fun m=>by kernel_rfl
noncomputable def wlf (N m:Nat) (kX:St→Option Z0) (kO:Nat→St→Option Z0):Ex→St→Option Z0:=(blockK 4 (blockK 3 (sqK A_V58 N 23 500011 Tryz.f122 [1,1,1,1,0,1,0,0,1,1] (itK A_V58 N 20 Tryz.f122 [1,1,1,1,0,1,0,0] m (wah kX kO)))))
noncomputable def w1r (N m:Nat) (kX:St→Option Z0) (kO:Nat→St→Option Z0) (st':St):Option Z0:=rn A_V58 N Tryz.f122 [1,1,1,1,0,1,0,0,1,1] st' (itK A_V58 N 20 Tryz.f122 [1,1,1,1,0,1,0,0] m (wah kX kO))
theorem xft (N m kX kO) {r}(h:yd N m (wah kX kO)=r):wep N N (wlf N m kX kO)=weo N r (wlg kX):=by
 rw[show wep N N (wlf N m kX kO)=wep N N (w1o (w1r N m kX kO) fun j=>(wlf N m kX kO) (.exit j)) from(by funext _ _ _ _;exact jlo),w4i,show w1p (w1r N m kX kO)=waj (yd N m (wah kX kO)) by kernel_rfl,h];rfl
theorem w4h (N kX kO):∀n,yd N n (wah kX kO)=wrf N (wlg kX) n :=
 itE rfl fun m=>(show _=wak (wep N N (wlf N m kX kO)) (wlg kX) by kernel_rfl).trans (by rw[xft N m kX kO rfl]<;>rfl)
noncomputable def wld (N:Nat):Ex→St→Option Z0:=(blockK 2 (sqK A_V58 N 37 500018 Tryz.f122 [1,1,1,1,1] wgn))
noncomputable def w1q (N:Nat) (st':St):Option Z0:=rn A_V58 N Tryz.f122 [1,1,1,1,1] st' wgn
theorem xfs (N):yd N N (wld N)=wai N:=by
 rw[show yd N N (wld N)=yd N N (wah (w1q N) fun j=>(wld N) (.exit j)) from(by funext _ _ _;exact jlo),w4h,show wlg (w1q N)=xj by kernel_rfl];rfl
noncomputable def xau (N:Nat) (st':St):Option Z0:=rn A_V58 N Tryz.f122 [1,1,1,1] st' wgn
theorem xjz (N):wid N N (wn8 N)=wvx N:=by
 rw[show wid N N (wn8 N)=wid N N (xar (xau N) fun j=>(wn8 N) (.exit j)) from(by funext _ _ _;exact jlo),xat,show xas (xau N)=weq (yd N N (wld N)) by kernel_rfl,xfs N];rfl
theorem run_V58 (N x):runF A_V58 N Tryz.f122 S_V58 x=V58 N x.1:=(show _=(w4j (wid N N (wn8 N)) x.1) by kernel_rfl).trans (by rw[xjz N];rfl)
theorem ok_V58:OK 122 S_V58:=gdR (A:=A_V58) tc Tryz.func122 (jes ⟨ok_V56,ok_V14,ok_V57,trivial⟩) (run_V58 big)
end Go.Proofs.YtgmapdlhkfajoaaGreat
