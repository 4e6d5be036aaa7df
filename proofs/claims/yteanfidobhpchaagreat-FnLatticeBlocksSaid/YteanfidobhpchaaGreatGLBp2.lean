import Derived.Test.YteanfidobhpchaaGreatULB
set_option maxRecDepth 100000
set_option linter.unusedVariables false
namespace Go.Proofs.YteanfidobhpchaaGreat
open Go Go.Gx Go.Proofs
def wof (rec k:T100) (a0:Z14) (a2 a9:Y2):Z6 :=
  (V2 a0 2).bind fun rq53 =>
  cond (decide ((a9.1.length:Int)<(IntKind.i64.wrap (10+rq53.1))))
  ((appI a9.1 [[(a9.1.length:Int)]]).bind fun xq54 =>
  rec rq53.2.1 a2 (xq54,((),a9.2).2))
  (k rq53.2.1 a2 a9)
def wbh (a0:Z14) (a2 a9:Y2):Z6 :=
  some (a9,(a0,()))
def wbj (rec:T65) (k:T58) (a0:Z14) (a2:Y2) (a3:Int) (a4:Z8) (a7:Y4) (a8:Int):Z6 :=
  cond (decide (a8<(a4.length:Int)))
  ((atI a4 a8).bind fun _ =>
  (a4[a8.toNat]?).bind fun xq33 =>
  (a4[a8.toNat]?).bind fun xq34 =>
  (atI a7 xq34.1).bind fun _ =>
  (a7[xq34.1.toNat]?).bind fun xq35 =>
  (atI a4 a8).bind fun _ =>
  (a4[a8.toNat]?).bind fun xq36 =>
  (a4[a8.toNat]?).bind fun xq37 =>
  (atI a7 xq37.2.1).bind fun _ =>
  (a7[xq37.2.1.toNat]?).bind fun xq38 =>
  (atI a4 a8).bind fun _ =>
  (a4[a8.toNat]?).bind fun xq39 =>
  rec a0 a2 a3 (a4.set a8.toNat (xq35,(xq38,()))) a7 (IntKind.i64.wrap (a8+1)))
  (k a0 a2 a3 a4)
def xt (L29:T100) (a0:Z14) (a2:Y2) (a3:Int) (a4:Z8):Z6 :=
  (V9 big a3 a4).bind fun rq40 =>
  cond (decide (a3=0))
  (some (rq40.1,(a0,())))
  ((V3 a0 16).bind fun rq41 =>
  cond (!rq41.1)
  (some (rq40.1,(rq41.2.1,())))
  ((V2 rq41.2.1 a3).bind fun rq42 =>
  (V2 rq42.2.1 4).bind fun rq43 =>
  cond (decide (rq43.1=0))
  ((atI rq40.1.1 rq42.1).bind fun _ =>
  (rq40.1.1[rq42.1.toNat]?).bind fun xq44 =>
  (slI xq44 1 xq44.length).bind fun xq45 =>
  (atI rq40.1.1 rq42.1).bind fun _ =>
  (rq40.1.1[rq42.1.toNat]?).bind fun xq46 =>
  some ((rq40.1.1.set rq42.1.toNat xq45,rq40.1.2),(rq43.2.1,())))
  (cond (decide (rq43.1=1))
  ((atI rq40.1.1 rq42.1).bind fun xq47 =>
  (appI xq47 [a3]).bind fun xq48 =>
  some ((rq40.1.1.set (rq42.1).toNat xq48,rq40.1.2),(rq43.2.1,())))
  (cond (decide (rq43.1=2))
  ((atI rq40.1.1 rq42.1).bind fun _ =>
  (rq40.1.1[rq42.1.toNat]?).bind fun xq49 =>
  (V2 rq43.2.1 a3).bind fun rq50 =>
  (V10 big xq49 rq50.1).bind fun rq51 =>
  (atI rq40.1.1 rq42.1).bind fun _ =>
  (rq40.1.1[rq42.1.toNat]?).bind fun xq52 =>
  some ((rq40.1.1.set rq42.1.toNat rq51.1,rq40.1.2),(rq50.2.1,())))
  (cond (decide (rq43.1=3))
  (L29 rq43.2.1 a2 rq40.1)
  (some (rq40.1,(rq43.2.1,()))))))))
def wfh (rec:T59) (k:T17) (a0:Z14) (a2:Y2) (a3:Int) (a4:Z8) (a5 a6:Int):Z6 :=
  cond (decide (a6<a3))
  ((V3 a0 3).bind fun rq31 =>
  cond rq31.1
  ((appI a4 [(a5,(a6,()))]).bind fun xq32 =>
  rec rq31.2.1 a2 a3 xq32 a5 (IntKind.i64.wrap (a6+1)))
  (rec rq31.2.1 a2 a3 a4 a5 (IntKind.i64.wrap (a6+1))))
  (k a0 a2 a3 a4 a5)
def wbi (rec:T17) (a0:Z14) (a2:Y2) (a3:Int) (a4:Z8) (a5:Int):Z6 :=
  rec a0 a2 a3 a4 (IntKind.i64.wrap (a5+1))
def wbk (L7:T59) (k:T58) (a0:Z14) (a2:Y2) (a3:Int) (a4:Z8) (a5:Int):Z6 :=
  cond (decide (a5<a3))
  (L7 a0 a2 a3 a4 a5 (IntKind.i64.wrap (a5+1)))
  (k a0 a2 a3 a4)
def ya (L14:T65) (L29:T100) (a0:Z14) (a2:Y2) (a3:Int) (a4:Z8):Z6 :=
  (V5 big a0 a3).bind fun rq2 =>
  (V8 big rq2.1 a3).bind fun rq3 =>
  cond rq3.1
  ((V3 rq2.2.1 2).bind fun rq4 =>
  cond rq4.1
  (L14 rq4.2.1 a2 a3 a4 rq2.1 0)
  ((V9 big a3 a4).bind fun rq5 =>
  cond (decide (a3=0))
  (some (rq5.1,(rq4.2.1,())))
  ((V3 rq4.2.1 16).bind fun rq6 =>
  cond (!rq6.1)
  (some (rq5.1,(rq6.2.1,())))
  ((V2 rq6.2.1 a3).bind fun rq7 =>
  (V2 rq7.2.1 4).bind fun rq8 =>
  cond (decide (rq8.1=0))
  ((atI rq5.1.1 rq7.1).bind fun _ =>
  (rq5.1.1[rq7.1.toNat]?).bind fun xq9 =>
  (slI xq9 1 xq9.length).bind fun xq10 =>
  (atI rq5.1.1 rq7.1).bind fun _ =>
  (rq5.1.1[rq7.1.toNat]?).bind fun xq11 =>
  some ((rq5.1.1.set rq7.1.toNat xq10,rq5.1.2),(rq8.2.1,())))
  (cond (decide (rq8.1=1))
  ((atI rq5.1.1 rq7.1).bind fun xq12 =>
  (appI xq12 [a3]).bind fun xq13 =>
  some ((rq5.1.1.set (rq7.1).toNat xq13,rq5.1.2),(rq8.2.1,())))
  (cond (decide (rq8.1=2))
  ((atI rq5.1.1 rq7.1).bind fun _ =>
  (rq5.1.1[rq7.1.toNat]?).bind fun xq14 =>
  (V2 rq8.2.1 a3).bind fun rq15 =>
  (V10 big xq14 rq15.1).bind fun rq16 =>
  (atI rq5.1.1 rq7.1).bind fun _ =>
  (rq5.1.1[rq7.1.toNat]?).bind fun xq17 =>
  some ((rq5.1.1.set rq7.1.toNat rq16.1,rq5.1.2),(rq15.2.1,())))
  (cond (decide (rq8.1=3))
  (L29 rq8.2.1 a2 rq5.1)
  (some (rq5.1,(rq8.2.1,()))))))))))
  ((V9 big a3 a4).bind fun rq18 =>
  cond (decide (a3=0))
  (some (rq18.1,(rq2.2.1,())))
  ((V3 rq2.2.1 16).bind fun rq19 =>
  cond (!rq19.1)
  (some (rq18.1,(rq19.2.1,())))
  ((V2 rq19.2.1 a3).bind fun rq20 =>
  (V2 rq20.2.1 4).bind fun rq21 =>
  cond (decide (rq21.1=0))
  ((atI rq18.1.1 rq20.1).bind fun _ =>
  (rq18.1.1[rq20.1.toNat]?).bind fun xq22 =>
  (slI xq22 1 xq22.length).bind fun xq23 =>
  (atI rq18.1.1 rq20.1).bind fun _ =>
  (rq18.1.1[rq20.1.toNat]?).bind fun xq24 =>
  some ((rq18.1.1.set rq20.1.toNat xq23,rq18.1.2),(rq21.2.1,())))
  (cond (decide (rq21.1=1))
  ((atI rq18.1.1 rq20.1).bind fun xq25 =>
  (appI xq25 [a3]).bind fun xq26 =>
  some ((rq18.1.1.set (rq20.1).toNat xq26,rq18.1.2),(rq21.2.1,())))
  (cond (decide (rq21.1=2))
  ((atI rq18.1.1 rq20.1).bind fun _ =>
  (rq18.1.1[rq20.1.toNat]?).bind fun xq27 =>
  (V2 rq21.2.1 a3).bind fun rq28 =>
  (V10 big xq27 rq28.1).bind fun rq29 =>
  (atI rq18.1.1 rq20.1).bind fun _ =>
  (rq18.1.1[rq20.1.toNat]?).bind fun xq30 =>
  some ((rq18.1.1.set rq20.1.toNat rq29.1,rq18.1.2),(rq28.2.1,())))
  (cond (decide (rq21.1=3))
  (L29 rq21.2.1 a2 rq18.1)
  (some (rq18.1,(rq21.2.1,())))))))))
def ww3 (L4:T17) (c_0:Z14):Z6 :=
  (V4 c_0 [0,1,2,3,4,4,5,5,6,7]).bind fun rq1 =>
  L4 rq1.2.1 (([]:Y3),()) rq1.1 [] 0
def wqj (N:Nat) (k:T17):=itN (fun r=>wfh r k) fun _ _ _ _ _ _=>none
def wff (N:Nat) (rec:T17) (k:T58):=wqj N (wbi rec) N
def wqi (N:Nat) (k:T58):=itN (fun r=>wbk (wff N r k) k) fun _ _ _ _ _=>none
def wog (N:Nat) (k:T58):=itN (fun r=>wbj r k) fun _ _ _ _ _ _=>none
def woh (N:Nat) (k:T100):=itN (fun r=>wof r k) fun _ _ _=>none
def wh (N:Nat):=woh N (wbh) N
def w8 (N:Nat):=wog N (xt (wh N)) N
def wqg (N:Nat):=wqi N (ya (w8 N) (wh N)) N
def V11 (N:Nat) (c_0:Z14):Z6:=ww3 (wqg N) c_0
def S_V11:Sig:=⟨Q20,[1],[O4],Q20,Q0,.i,fun x=>V11 big x.1⟩
def A_V11:Cfg:=hookCfg (fun i=>if i=25 then some PO.hook else none) (mkCfg tab [(91,S_V4),(67,S_V5),(68,S_V8),(63,S_V3),(69,S_V9),(66,S_V2),(92,S_V10)] [(8,[.as Q1 O4,D0,B1,B0,B4,B0]),(14,[.as Q1 O4,D0,B1,B0,B4,B0,B0]),(23,[.as Q1 O4,D0,B1,B0,B4]),(28,[.as Q1 O4,D0,B1,B0,B4,D0,D0,B3,B0]),(1000023,([.as Q1 O4,D0,B1]++dr 6 [.as Q8 (.o (.p O4 .i)),B0])),(1000027,([.as Q1 O4,D0,B1,B0]++dr 5 [.as Q8 (.o (.p O4 .i)),B0])),(58,([.as Q1 O4,D0,B1]++dr 6 [B1])),(11,[.as Q1 O4,D0,B1,B0,B4,B0]),(35,[.as Q1 O4,D0,B1,B0,B4]),(63,([.as Q1 O4,D0,B1]++dr 6 [.as Q8 (.o (.p O4 .i))]))])
noncomputable def z3 (N n:Nat) (K:Ex→St→Z6) (a0:Z14) (a2:Y2) (a3:Int) (a4:Z8) (a5:Int):Z6:=itr A_V11 N 8 Tryz.f64 [1,1,1,0,1,0,0] n ([.val Q1 O4 a0,.u,W1 a2,W0 a3,W4 a4,W0 a5]++us 141) K
noncomputable def wfg (N n:Nat) (K:Ex→St→Z6) (a0:Z14) (a2:Y2) (a3:Int) (a4:Z8) (a5 a6:Int):Z6:=itr A_V11 N 14 Tryz.f64 [1,1,1,0,1,0,0,1,0,0,1,0,0] n ([.val Q1 O4 a0,.u,W1 a2,W0 a3,W4 a4,W0 a5,W0 a6]++us 140) K
noncomputable def wbg (N n:Nat) (K:Ex→St→Z6) (a0:Z14) (a2:Y2) (a3:Int) (a4:Z8) (a7:Y4) (a8:Int):Z6:=itr A_V11 N 28 Tryz.f64 [1,1,1,1,0,1,1,0,1,0,0] n ([.val Q1 O4 a0,.u,W1 a2,W0 a3,W4 a4,.u,.u,W3 a7,W0 a8]++us 138) K
noncomputable def za (N n:Nat) (K:Ex→St→Z6) (a0:Z14) (a2 a9:Y2):Z6:=itr A_V11 N 58 Tryz.f64 [1,1,1,1,1,1,1,1,0,1,0,1,1,1,1,1,1,1,0,0,0] n (([.val Q1 O4 a0,.u,W1 a2]++ud 6 [W1 a9])++us 137) K
noncomputable def x8:Ex→St→Z6:=finish A_V11 S_V11 Tryz.f64.results.toList
noncomputable def wko (kX:T107) (a0:Z14) (a2:Y2) (a3:Int) (a4:Z8):Z6:=kX ([.val Q1 O4 a0,.u,W1 a2,W0 a3,W4 a4]++us 142)
noncomputable def wbe (kX:T107) (kO:T104):=exK x8 0 (A_V11.shape 23) kX kO
noncomputable def w01 (kX:T107) (a0:Z14) (a2:Y2) (a3:Int) (a4:Z8) (a5:Int):Z6:=kX ([.val Q1 O4 a0,.u,W1 a2,W0 a3,W4 a4,W0 a5]++us 141)
noncomputable def w00 (kX:T107) (kO:T104):=exK x8 2 (A_V11.shape 11) kX kO
noncomputable def wu2 (kX:T107) (a0:Z14) (a2:Y2) (a3:Int) (a4:Z8):Z6:=kX ([.val Q1 O4 a0,.u,W1 a2,W0 a3,W4 a4]++us 142)
noncomputable def wu0 (kX:T107) (kO:T104):=exK x8 4 (A_V11.shape 35) kX kO
noncomputable def wu3 (kX:T107) (a0:Z14) (a2 a9:Y2):Z6:=kX (([.val Q1 O4 a0,.u,W1 a2]++ud 6 [.val Q8 (.o (.p O4 .i)) a9])++us 137)
noncomputable def wu1 (kX:T107) (kO:T104):=exK x8 7 (A_V11.shape 63) kX kO
theorem w03 (N kX kO):∀n,wfg N n (w00 kX kO)=wqj N (w01 kX) n :=
 itE rfl fun m=>by kernel_rfl
noncomputable def wkn (N m:Nat) (kX:T107) (kO:T104):=(blockK 2 (blockK 1 (sqK A_V11 N 11 500005 Tryz.f64 [1,1,1,0,1,0,0,1,1] (itK A_V11 N 8 Tryz.f64 [1,1,1,0,1,0,0] m (wbe kX kO)))))
noncomputable def w05 (N m:Nat) (kX:T107) (kO:T104) (st':St):Z6:=rn A_V11 N Tryz.f64 [1,1,1,0,1,0,0,1,1] st' (itK A_V11 N 8 Tryz.f64 [1,1,1,0,1,0,0] m (wbe kX kO))
theorem xbc (N m kX kO) {r}(h:z3 N m (wbe kX kO)=r):wfg N N (wkn N m kX kO)=wff N r (wko kX):=by
 rw[show wfg N N (wkn N m kX kO)=wfg N N (w00 (w05 N m kX kO) fun j=>(wkn N m kX kO) (.exit j)) from(by funext _ _ _ _ _ _;exact jky),w03,show w01 (w05 N m kX kO)=wbi (z3 N m (wbe kX kO)) by kernel_rfl,h];rfl
theorem w02 (N kX kO):∀n,z3 N n (wbe kX kO)=wqi N (wko kX) n :=
 itE rfl fun m=>(show _=wbk (wfg N N (wkn N m kX kO)) (wko kX) by kernel_rfl).trans (by rw[xbc N m kX kO rfl]<;>rfl)
noncomputable def wkm (N:Nat):=(blockK 0 (sqK A_V11 N 23 500011 Tryz.f64 [1,1,1,1] x8))
theorem ww1 (N kX kO):∀n,wbg N n (wu0 kX kO)=wog N (wu2 kX) n :=
 itE rfl fun m=>by kernel_rfl
noncomputable def wi4 (N:Nat):=(blockK 4 (sqK A_V11 N 35 500017 Tryz.f64 [1,1,1,1,1] x8))
theorem ww2 (N kX kO):∀n,za N n (wu1 kX kO)=woh N (wu3 kX) n :=
 itE rfl fun m=>by kernel_rfl
noncomputable def wbf (N:Nat):=(blockK 7 (blockK 6 (sqK A_V11 N 63 500031 Tryz.f64 [1,1,1,1,1,1,1,1,1] x8)))
noncomputable def wu5 (N:Nat) (st':St):Z6:=rn A_V11 N Tryz.f64 [1,1,1,1,1,1,1,1,1] st' x8
theorem wqh (N):za N N (wbf N)=wh N:=by
 rw[show za N N (wbf N)=za N N (wu1 (wu5 N) fun j=>(wbf N) (.exit j)) from(by funext _ _ _;exact jky),ww2,show wu3 (wu5 N)=wbh by kernel_rfl];rfl
noncomputable def wu4 (N:Nat) (st':St):Z6:=rn A_V11 N Tryz.f64 [1,1,1,1,1] st' x8
theorem w8v (N):wbg N N (wi4 N)=w8 N:=by
 rw[show wbg N N (wi4 N)=wbg N N (wu0 (wu4 N) fun j=>(wi4 N) (.exit j)) from(by funext _ _ _ _ _ _;exact jky),ww1,show wu2 (wu4 N)=xt (za N N (wbf N)) by kernel_rfl,wqh N];rfl
noncomputable def w04 (N:Nat) (st':St):Z6:=rn A_V11 N Tryz.f64 [1,1,1,1] st' x8
theorem xbb (N):z3 N N (wkm N)=wqg N:=by
 rw[show z3 N N (wkm N)=z3 N N (wbe (w04 N) fun j=>(wkm N) (.exit j)) from(by funext _ _ _ _ _;exact jky),w02,show wko (w04 N)=ya (wbg N N (wi4 N)) (za N N (wbf N)) by kernel_rfl,w8v N,wqh N];rfl
theorem run_V11 (N x):runF A_V11 N Tryz.f64 S_V11 x=V11 N x.1:=(show _=(ww3 (z3 N N (wkm N)) x.1) by kernel_rfl).trans (by rw[xbb N];rfl)
theorem fn_V11:FnOk Tryz.prog 64:=⟨_,Tryz.func64,by kernel_rfl,by kernel_rfl⟩
theorem good_V11:Gx.Good Tryz.prog 64 S_V11:=jgd Tryz.func64 (of_decide_eq_true (by kernel_rfl)) fun x r h=>⟨A_V11,big,jh5 (ur tabOk),jha (jeb (show SigsOk Tryz.prog [(91,S_V4),(67,S_V5),(68,S_V8),(63,S_V3),(69,S_V9),(66,S_V2),(92,S_V10)] from⟨ok_V4,ok_V5,ok_V8,ok_V3,ok_V9,ok_V2,ok_V10,trivial⟩)),fun code hc=>jah (ids:=[25]) (fun i hi=>by simp only[List.mem_cons,List.not_mem_nil,or_false]at hi;simp[A_V11,hookCfg,hi]) fun c hm=>PO.hooks_spec_l1Cur_poset A_V11 (by rfl) code hc c hm,(run_V11 big x).trans h⟩
def xbf (rec:T82) (k:T14) (a2 a3 a4 a5:Y2) (a6 a7 a8:Int) (a9:Y4) (a10 a11:Int):Z3 :=
  (atI a3.1 a8).bind fun xq3 =>
  cond (decide (a11<(xq3.length:Int)))
  ((atI a2.1 a7).bind fun xq4 =>
  (atI xq4 a10).bind fun xq5 =>
  (atI a3.1 a8).bind fun xq6 =>
  (atI xq6 a11).bind fun xq7 =>
  (appI a9 [IntKind.i64.wrap ((IntKind.i64.wrap (xq5*a6))+xq7)]).bind fun xq8 =>
  rec a2 a3 a4 a5 a6 a7 a8 xq8 a10 (IntKind.i64.wrap (a11+1)))
  (k a2 a3 a4 a5 a6 a7 a8 a9 a10)
def wvb (rec:T14) (a2 a3 a4 a5:Y2) (a6 a7 a8:Int) (a9:Y4) (a10:Int):Z3 :=
  rec a2 a3 a4 a5 a6 a7 a8 a9 (IntKind.i64.wrap (a10+1))
def wvc (L14:T82) (k:T70) (a2 a3 a4 a5:Y2) (a6 a7 a8:Int) (a9:Y4) (a10:Int):Z3 :=
  (atI a2.1 a7).bind fun xq1 =>
  cond (decide (a10<(xq1.length:Int)))
  (L14 a2 a3 a4 a5 a6 a7 a8 a9 a10 0)
  (k a2 a3 a4 a5 a6 a7 a8 a9)
def wva (rec:T76) (a2 a3 a4 a5:Y2) (a6 a7 a8:Int) (a9:Y4):Z3 :=
  (appI a5.1 [a9]).bind fun xq2 =>
  rec a2 a3 a4 (xq2,((),a5.2).2) a6 a7 (IntKind.i64.wrap (a8+1))
def w1b (L11:T14) (k:T28) (a2 a3 a4 a5:Y2) (a6 a7 a8:Int):Z3 :=
  cond (decide (a8<a6))
  (L11 a2 a3 a4 a5 a6 a7 a8 [] 0)
  (k a2 a3 a4 a5 a6 a7)
def w09 (rec:T28) (a2 a3 a4 a5:Y2) (a6 a7:Int):Z3 :=
  rec a2 a3 a4 a5 a6 (IntKind.i64.wrap (a7+1))
def w1a (L7:T76) (k:T71) (a2 a3 a4 a5:Y2) (a6 a7:Int):Z3 :=
  cond (decide (a7<(a2.1.length:Int)))
  (L7 a2 a3 a4 a5 a6 a7 0)
  (k a4 a5)
def w08 (a4 a5:Y2):Z3 :=
  some (a5,(()))
def w9x (L4:T28) (p_0 q_1:Y2):Z3 :=
  L4 p_0 q_1 (([]:Y3),()) ([],()) (q_1.1.length:Int) 0
def wvg (N:Nat) (k:T14):=itN (fun r=>xbf r k) fun _ _ _ _ _ _ _ _ _ _=>none
def wu8 (N:Nat) (rec:T14) (k:T70):=wvg N (wvb rec) N
def wvf (N:Nat) (k:T70):=itN (fun r=>wvc (wu8 N r k) k) fun _ _ _ _ _ _ _ _ _=>none
def wu7 (N:Nat) (rec:T76) (k:T28):=wvf N (wva rec) N
def w1h (N:Nat) (k:T28):=itN (fun r=>w1b (wu7 N r k) k) fun _ _ _ _ _ _ _=>none
def w07 (N:Nat) (rec:T28) (k:T71):=w1h N (w09 rec) N
def w1g (N:Nat) (k:T71):=itN (fun r=>w1a (w07 N r k) k) fun _ _ _ _ _ _=>none
def w06 (N:Nat):=w1g N (w08) N
def V12 (N:Nat) (p_0 q_1:Y2):Z3:=w9x (w06 N) p_0 q_1
def S_V12:Sig:=⟨(.pair Q0 Q22),[0,0],[],.unit,Q0,(.p O16 .i),fun x=>V12 big x.1 x.2.1⟩
def A_V12:Cfg:=mkCfg tab [] [(8,[D0,D0,B5,B5,B1,B1,B0,B0]),(14,[D0,D0,B5,B5,B1,B1,B0,B0,B0]),(37,(dr 4 [B1,B1])),(22,[D0,D0,B5,B5,B1,B1,B0,B0,B0,B3,B0]),(11,[D0,D0,B5,B5,B1,B1,B0,B0]),(28,[D0,D0,B5,B5,B1,B1,B0,B0,B0,B3,B0,B0]),(35,[D0,D0,B5,B5,B1,B1,B0,B0,B0,B3]),(25,[D0,D0,B5,B5,B1,B1,B0,B0,B0,B3,B0])]
noncomputable def z4 (N n:Nat) (K:T53) (a2 a3 a4 a5:Y2) (a6 a7:Int):Z3:=itr A_V12 N 8 Tryz.f93 [1,1,1,0,1,0,0] n ([.u,.u,W5 a2,W5 a3,W1 a4,W1 a5,W0 a6,W0 a7]++us 71) K
noncomputable def z5 (N n:Nat) (K:T53) (a2 a3 a4 a5:Y2) (a6 a7 a8:Int):Z3:=itr A_V12 N 14 Tryz.f93 [1,1,1,0,1,0,0,1,0,0,1,0,0] n ([.u,.u,W5 a2,W5 a3,W1 a4,W1 a5,W0 a6,W0 a7,W0 a8]++us 70) K
noncomputable def xu (N n:Nat) (K:T53) (a2 a3 a4 a5:Y2) (a6 a7 a8:Int) (a9:Y4) (a10:Int):Z3:=itr A_V12 N 22 Tryz.f93 [1,1,1,0,1,0,0,1,0,0,1,0,0,1,0,0,1,0,1,0,0] n ([.u,.u,W5 a2,W5 a3,W1 a4,W1 a5,W0 a6,W0 a7,W0 a8,W3 a9,W0 a10]++us 68) K
noncomputable def wbn (N n:Nat) (K:T53) (a2 a3 a4 a5:Y2) (a6 a7 a8:Int) (a9:Y4) (a10 a11:Int):Z3:=itr A_V12 N 28 Tryz.f93 [1,1,1,0,1,0,0,1,0,0,1,0,0,1,0,0,1,0,1,0,0,1,0,0,1,0,0] n ([.u,.u,W5 a2,W5 a3,W1 a4,W1 a5,W0 a6,W0 a7,W0 a8,W3 a9,W0 a10,W0 a11]++us 67) K
noncomputable def wi8:Ex→St→Z3:=finish A_V12 S_V12 Tryz.f93.results.toList
noncomputable def wkr (kX:T11) (a4 a5:Y2):Z3:=kX ((ud 4 [W1 a4,W1 a5])++us 73)
noncomputable def wbl (kX:T11) (kO:T4):=exK wi8 0 (A_V12.shape 37) kX kO
noncomputable def wks (kX:T11) (a2 a3 a4 a5:Y2) (a6 a7:Int):Z3:=kX ([.u,.u,W5 a2,W5 a3,W1 a4,W1 a5,W0 a6,W0 a7]++us 71)
noncomputable def wbm (kX:T11) (kO:T4):=exK wi8 2 (A_V12.shape 11) kX kO
noncomputable def wi7 (kX:T11) (a2 a3 a4 a5:Y2) (a6 a7 a8:Int) (a9:Y4):Z3:=kX ([.u,.u,W5 a2,W5 a3,W1 a4,W1 a5,W0 a6,W0 a7,W0 a8,W3 a9]++us 69)
noncomputable def zb (kX:T11) (kO:T4):=exK wi8 4 (A_V12.shape 35) kX kO
noncomputable def wu9 (kX:T11) (a2 a3 a4 a5:Y2) (a6 a7 a8:Int) (a9:Y4) (a10:Int):Z3:=kX ([.u,.u,W5 a2,W5 a3,W1 a4,W1 a5,W0 a6,W0 a7,W0 a8,W3 a9,W0 a10]++us 68)
noncomputable def wu6 (kX:T11) (kO:T4):=exK wi8 6 (A_V12.shape 25) kX kO
theorem ww5 (N kX kO):∀n,wbn N n (wu6 kX kO)=wvg N (wu9 kX) n :=
 itE rfl fun m=>by kernel_rfl
noncomputable def wi6 (N m:Nat) (kX:T11) (kO:T4):=(blockK 6 (blockK 5 (sqK A_V12 N 25 500012 Tryz.f93 [1,1,1,0,1,0,0,1,0,0,1,0,0,1,0,0,1,0,1,0,0,1,1] (itK A_V12 N 22 Tryz.f93 [1,1,1,0,1,0,0,1,0,0,1,0,0,1,0,0,1,0,1,0,0] m (zb kX kO)))))
noncomputable def wve (N m:Nat) (kX:T11) (kO:T4) (st':St):Z3:=rn A_V12 N Tryz.f93 [1,1,1,0,1,0,0,1,0,0,1,0,0,1,0,0,1,0,1,0,0,1,1] st' (itK A_V12 N 22 Tryz.f93 [1,1,1,0,1,0,0,1,0,0,1,0,0,1,0,0,1,0,1,0,0] m (zb kX kO))
theorem w8x (N m kX kO) {r}(h:xu N m (zb kX kO)=r):wbn N N (wi6 N m kX kO)=wu8 N r (wi7 kX):=by
 rw[show wbn N N (wi6 N m kX kO)=wbn N N (wu6 (wve N m kX kO) fun j=>(wi6 N m kX kO) (.exit j)) from(by funext _ _ _ _ _ _ _ _ _ _;exact jky),ww5,show wu9 (wve N m kX kO)=wvb (xu N m (zb kX kO)) by kernel_rfl,h];rfl
theorem ww4 (N kX kO):∀n,xu N n (zb kX kO)=wvf N (wi7 kX) n :=
 itE rfl fun m=>(show _=wvc (wbn N N (wi6 N m kX kO)) (wi7 kX) by kernel_rfl).trans (by rw[w8x N m kX kO rfl]<;>rfl)
noncomputable def wi5 (N m:Nat) (kX:T11) (kO:T4):=(blockK 4 (sqK A_V12 N 35 500017 Tryz.f93 [1,1,1,0,1,0,0,1,0,0,1,0,0,1,0,0,1,1] (blockK 3 (sqK A_V12 N 17 500008 Tryz.f93 [1,1,1,0,1,0,0,1,0,0,1,0,0,1,1] (itK A_V12 N 14 Tryz.f93 [1,1,1,0,1,0,0,1,0,0,1,0,0] m (wbm kX kO))))))
noncomputable def wvd (N m:Nat) (kX:T11) (kO:T4) (st':St):Z3:=rn A_V12 N Tryz.f93 [1,1,1,0,1,0,0,1,0,0,1,0,0,1,0,0,1,1] st' (blockK 3 (sqK A_V12 N 17 500008 Tryz.f93 [1,1,1,0,1,0,0,1,0,0,1,0,0,1,1] (itK A_V12 N 14 Tryz.f93 [1,1,1,0,1,0,0,1,0,0,1,0,0] m (wbm kX kO))))
theorem w8w (N m kX kO) {r}(h:z5 N m (wbm kX kO)=r):xu N N (wi5 N m kX kO)=wu7 N r (wks kX):=by
 rw[show xu N N (wi5 N m kX kO)=xu N N (zb (wvd N m kX kO) fun j=>(wi5 N m kX kO) (.exit j)) from(by funext _ _ _ _ _ _ _ _ _;exact jky),ww4,show wi7 (wvd N m kX kO)=wva (z5 N m (wbm kX kO)) by kernel_rfl,h];rfl
theorem w1d (N kX kO):∀n,z5 N n (wbm kX kO)=w1h N (wks kX) n :=
 itE rfl fun m=>(show _=w1b (xu N N (wi5 N m kX kO)) (wks kX) by kernel_rfl).trans (by rw[w8w N m kX kO rfl]<;>rfl)
noncomputable def wkq (N m:Nat) (kX:T11) (kO:T4):=(blockK 2 (blockK 1 (sqK A_V12 N 11 500005 Tryz.f93 [1,1,1,0,1,0,0,1,1] (itK A_V12 N 8 Tryz.f93 [1,1,1,0,1,0,0] m (wbl kX kO)))))
noncomputable def w1f (N m:Nat) (kX:T11) (kO:T4) (st':St):Z3:=rn A_V12 N Tryz.f93 [1,1,1,0,1,0,0,1,1] st' (itK A_V12 N 8 Tryz.f93 [1,1,1,0,1,0,0] m (wbl kX kO))
theorem xbh (N m kX kO) {r}(h:z4 N m (wbl kX kO)=r):z5 N N (wkq N m kX kO)=w07 N r (wkr kX):=by
 rw[show z5 N N (wkq N m kX kO)=z5 N N (wbm (w1f N m kX kO) fun j=>(wkq N m kX kO) (.exit j)) from(by funext _ _ _ _ _ _ _;exact jky),w1d,show wks (w1f N m kX kO)=w09 (z4 N m (wbl kX kO)) by kernel_rfl,h];rfl
theorem w1c (N kX kO):∀n,z4 N n (wbl kX kO)=w1g N (wkr kX) n :=
 itE rfl fun m=>(show _=w1a (z5 N N (wkq N m kX kO)) (wkr kX) by kernel_rfl).trans (by rw[xbh N m kX kO rfl]<;>rfl)
noncomputable def wkp (N:Nat):=(blockK 0 (sqK A_V12 N 37 500018 Tryz.f93 [1,1,1,1] wi8))
noncomputable def w1e (N:Nat) (st':St):Z3:=rn A_V12 N Tryz.f93 [1,1,1,1] st' wi8
theorem xbg (N):z4 N N (wkp N)=w06 N:=by
 rw[show z4 N N (wkp N)=z4 N N (wbl (w1e N) fun j=>(wkp N) (.exit j)) from(by funext _ _ _ _ _ _;exact jky),w1c,show wkr (w1e N)=w08 by kernel_rfl];rfl
theorem run_V12 (N x):runF A_V12 N Tryz.f93 S_V12 x=V12 N x.1 x.2.1:=(show _=(w9x (z4 N N (wkp N)) x.1 x.2.1) by kernel_rfl).trans (by rw[xbg N];rfl)
theorem ok_V12:OK 93 S_V12:=gdR (A:=A_V12) tc Tryz.func93 (jeb trivial) (run_V12 big)
def xgt (k_0:Int):Z3 :=
  cond (decide (k_0=0))
  ((V9 big 1 []).bind fun rq1 =>
  some (rq1.1,(())))
  (cond (decide (k_0=1))
  ((V9 big 2 [(0,(1,()))]).bind fun rq2 =>
  some (rq2.1,(())))
  (cond (decide (k_0=2))
  ((V9 big 4 [(0,(1,())),(1,(2,())),(2,(3,()))]).bind fun rq3 =>
  some (rq3.1,(())))
  (cond (decide (k_0=3))
  ((V9 big 4 [(0,(1,())),(0,(2,())),(1,(3,())),(2,(3,()))]).bind fun rq4 =>
  some (rq4.1,(())))
  (cond (decide (k_0=4))
  ((V9 big 5 [(0,(1,())),(0,(2,())),(0,(3,())),(1,(4,())),(2,(4,())),(3,(4,()))]).bind fun rq5 =>
  some (rq5.1,(())))
  (cond (decide (k_0=5))
  ((V9 big 5 [(0,(1,())),(1,(2,())),(0,(3,())),(2,(4,())),(3,(4,()))]).bind fun rq6 =>
  some (rq6.1,(())))
  (cond (decide (k_0=6))
  ((V9 big 8 [(0,(1,())),(0,(2,())),(0,(3,())),(1,(4,())),(1,(5,())),(2,(4,())),(2,(6,())),(3,(5,())),(3,(6,())),(4,(7,())),(5,(7,())),(6,(7,()))]).bind fun rq7 =>
  some (rq7.1,(())))
  (cond (decide (k_0=7))
  ((V9 big 6 [(0,(1,())),(0,(2,())),(1,(3,())),(2,(3,())),(2,(4,())),(3,(5,())),(4,(5,()))]).bind fun rq8 =>
  some (rq8.1,(())))
  (cond (decide (k_0=8))
  ((V9 big 6 [(0,(1,())),(0,(2,())),(1,(3,())),(2,(4,())),(3,(5,())),(4,(5,()))]).bind fun rq9 =>
  some (rq9.1,(())))
  (cond (decide (k_0=9))
  ((V9 big 7 [(0,(1,())),(0,(2,())),(0,(3,())),(1,(4,())),(2,(4,())),(3,(5,())),(2,(5,())),(4,(6,())),(5,(6,()))]).bind fun rq10 =>
  some (rq10.1,(())))
  (cond (decide (k_0=10))
  ((V9 big 3 [(0,(1,())),(1,(2,()))]).bind fun rq11 =>
  (V9 big 3 [(0,(1,())),(1,(2,()))]).bind fun rq12 =>
  (V12 big rq11.1 rq12.1).bind fun rq13 =>
  some (rq13.1,(())))
  ((V9 big 3 [(0,(1,())),(1,(2,()))]).bind fun rq14 =>
  some (rq14.1,(())))))))))))))
def V13 (k_0:Int):Z3:=xgt k_0
def S_V13:Sig:=⟨Q24,[0],[],.unit,Q0,(.p O16 .i),fun x=>V13 x.1⟩
def A_V13:Cfg:=mkCfg tab [(69,S_V9),(93,S_V12)] []
theorem run_V13 (N x):runF A_V13 N Tryz.f65 S_V13 x=V13 x.1:=by kernel_rfl
theorem ok_V13:OK 65 S_V13:=gdR (A:=A_V13) tc Tryz.func65 (jeb ⟨ok_V9,ok_V12,trivial⟩) (run_V13 big)
def wfj (rec:T108) (k:Z1) (a0:Y4) (a1 a5:Int):Z1 :=
  cond (decide (a5<(a0.length:Int)))
  ((atI a0 a5).bind fun xq1 =>
  cond (decide (xq1=a1))
  (some (true,(())))
  (rec a0 a1 (IntKind.i64.wrap (a5+1))))
  (k)
def wbo:Z1 :=
  some (false,(()))
def ww6 (L2:T108) (l_0:Y4) (n_1:Int):Z1 :=
  L2 l_0 n_1 0
def wql (N:Nat) (k:Z1):=itN (fun r=>wfj r k) fun _ _ _=>none
def wqk (N:Nat):=wql N (wbo) N
def V14 (N:Nat) (l_0:Y4) (n_1:Int):Z1:=ww6 (wqk N) l_0 n_1
def S_V14:Sig:=⟨(.pair Q7 Q24),[0,0],[],.unit,.bool,.i,fun x=>V14 big x.1 x.2.1⟩
def A_V14:Cfg:=mkCfg tab [] [(4,([B2,B0]++dr 3 [B0])),(13,[])]
noncomputable def wfi (N n:Nat) (K:T5) (a0:Y4) (a1 a5:Int):Z1:=itr A_V14 N 4 Tryz.f83 [1,0,1,0,0] n (([W2 a0,W0 a1]++ud 3 [W0 a5])++us 12) K
noncomputable def ww7:Ex→St→Z1:=finish A_V14 S_V14 Tryz.f83.results.toList
noncomputable def w1j (kX:T3):Z1:=kX ([]++us 18)
noncomputable def w1i (kX:T3) (kO:T1):=exK ww7 0 (A_V14.shape 13) kX kO
theorem w1k (N kX kO):∀n,wfi N n (w1i kX kO)=wql N (w1j kX) n :=
 itE rfl fun m=>by kernel_rfl
noncomputable def wkt (N:Nat):=(blockK 0 (sqK A_V14 N 13 500006 Tryz.f83 [1,1] ww7))
noncomputable def w1l (N:Nat) (st':St):Z1:=rn A_V14 N Tryz.f83 [1,1] st' ww7
theorem xbi (N):wfi N N (wkt N)=wqk N:=by
 rw[show wfi N N (wkt N)=wfi N N (w1i (w1l N) fun j=>(wkt N) (.exit j)) from(by funext _ _ _;exact jky),w1k,show w1j (w1l N)=wbo by kernel_rfl];rfl
theorem run_V14 (N x):runF A_V14 N Tryz.f83 S_V14 x=V14 N x.1 x.2.1:=(show _=(ww6 (wfi N N (wkt N)) x.1 x.2.1) by kernel_rfl).trans (by rw[xbi N];rfl)
theorem ok_V14:OK 83 S_V14:=gdR (A:=A_V14) tc Tryz.func83 (jeb trivial) (run_V14 big)
def w9y (p_0:Y2) (x_1 y_2:Int):Z1 :=
  (atI p_0.1 y_2).bind fun xq1 =>
  (V14 big xq1 x_1).bind fun rq2 =>
  some (rq2.1,(()))
def V15 (p_0:Y2) (x_1 y_2:Int):Z1:=w9y p_0 x_1 y_2
def S_V15:Sig:=⟨(.pair Q0 Q3),[0,0,0],[],.unit,.bool,.i,fun x=>V15 x.1 x.2.1 x.2.2.1⟩
def A_V15:Cfg:=mkCfg tab [(83,S_V14)] []
theorem run_V15 (N x):runF A_V15 N Tryz.f53 S_V15 x=V15 x.1 x.2.1 x.2.2.1:=by kernel_rfl
theorem ok_V15:OK 53 S_V15:=gdR (A:=A_V15) tc Tryz.func53 (jeb ⟨ok_V14,trivial⟩) (run_V15 big)
def w9z (p_0:Y2) (x_1 y_2:Int):Z1 :=
  cond (decide (x_1≠y_2))
  ((V15 p_0 x_1 y_2).bind fun rq1 =>
  some (rq1.1,(())))
  (some (false,(())))
def V16 (p_0:Y2) (x_1 y_2:Int):Z1:=w9z p_0 x_1 y_2
def S_V16:Sig:=⟨(.pair Q0 Q3),[0,0,0],[],.unit,.bool,.i,fun x=>V16 x.1 x.2.1 x.2.2.1⟩
def A_V16:Cfg:=mkCfg tab [(53,S_V15)] []
theorem run_V16 (N x):runF A_V16 N Tryz.f90 S_V16 x=V16 x.1 x.2.1 x.2.2.1:=by kernel_rfl
theorem ok_V16:OK 90 S_V16:=gdR (A:=A_V16) tc Tryz.func90 (jeb ⟨ok_V15,trivial⟩) (run_V16 big)
def wfl (rec:T91) (k:Z1) (a1 a2:Int) (a3:Y2) (a7:Int):Z1 :=
  cond (decide (a7<(a3.1.length:Int)))
  ((V16 a3 a1 a7).bind fun rq2 =>
  cond rq2.1
  ((V16 a3 a7 a2).bind fun rq3 =>
  cond rq3.1
  (some (false,(())))
  (rec a1 a2 a3 (IntKind.i64.wrap (a7+1))))
  (rec a1 a2 a3 (IntKind.i64.wrap (a7+1))))
  (k)
def wbp:Z1 :=
  some (true,(()))
def ww8 (L4:T91) (p_0:Y2) (x_1 y_2:Int):Z1 :=
  (V16 p_0 x_1 y_2).bind fun rq1 =>
  cond (!rq1.1)
  (some (false,(())))
  (L4 x_1 y_2 p_0 0)
def wqn (N:Nat) (k:Z1):=itN (fun r=>wfl r k) fun _ _ _ _=>none
def wqm (N:Nat):=wqn N (wbp) N
def V17 (N:Nat) (p_0:Y2) (x_1 y_2:Int):Z1:=ww8 (wqm N) p_0 x_1 y_2
def S_V17:Sig:=⟨(.pair Q0 Q3),[0,0,0],[],.unit,.bool,.i,fun x=>V17 big x.1 x.2.1 x.2.2.1⟩
def A_V17:Cfg:=mkCfg tab [(90,S_V16)] [(8,([D0,B0,B0,B5]++dr 3 [B0])),(17,[])]
noncomputable def wfk (N n:Nat) (K:T5) (a1 a2:Int) (a3:Y2) (a7:Int):Z1:=itr A_V17 N 8 Tryz.f62 [1,1,0,1,0,0] n (([.u,W0 a1,W0 a2,W5 a3]++ud 3 [W0 a7])++us 22) K
noncomputable def ww9:Ex→St→Z1:=finish A_V17 S_V17 Tryz.f62.results.toList
noncomputable def w1n (kX:T3):Z1:=kX ([]++us 30)
noncomputable def w1m (kX:T3) (kO:T1):=exK ww9 0 (A_V17.shape 17) kX kO
theorem w1o (N kX kO):∀n,wfk N n (w1m kX kO)=wqn N (w1n kX) n :=
 itE rfl fun m=>by kernel_rfl
noncomputable def wku (N:Nat):=(blockK 0 (sqK A_V17 N 17 500008 Tryz.f62 [1,1,1] ww9))
noncomputable def w1p (N:Nat) (st':St):Z1:=rn A_V17 N Tryz.f62 [1,1,1] st' ww9
theorem xbj (N):wfk N N (wku N)=wqm N:=by
 rw[show wfk N N (wku N)=wfk N N (w1m (w1p N) fun j=>(wku N) (.exit j)) from(by funext _ _ _ _;exact jky),w1o,show w1n (w1p N)=wbp by kernel_rfl];rfl
theorem run_V17 (N x):runF A_V17 N Tryz.f62 S_V17 x=V17 N x.1 x.2.1 x.2.2.1:=(show _=(ww8 (wfk N N (wku N)) x.1 x.2.1 x.2.2.1) by kernel_rfl).trans (by rw[xbj N];rfl)
theorem ok_V17:OK 62 S_V17:=gdR (A:=A_V17) tc Tryz.func62 (jeb ⟨ok_V16,trivial⟩) (run_V17 big)
def wfo (rec:T92) (k:T56) (a1:Y2) (a3:Z8) (a4 a5:Int):Z11 :=
  cond (decide (a5<(a1.1.length:Int)))
  ((V17 big a1 a4 a5).bind fun rq1 =>
  cond rq1.1
  ((appI a3 [(a4,(a5,()))]).bind fun xq2 =>
  rec a1 xq2 a4 (IntKind.i64.wrap (a5+1)))
  (rec a1 a3 a4 (IntKind.i64.wrap (a5+1))))
  (k a1 a3 a4)
def wbr (rec:T56) (a1:Y2) (a3:Z8) (a4:Int):Z11 :=
  rec a1 a3 (IntKind.i64.wrap (a4+1))
def wbs (L6:T92) (k:Z8→Z11) (a1:Y2) (a3:Z8) (a4:Int):Z11 :=
  cond (decide (a4<(a1.1.length:Int)))
  (L6 a1 a3 a4 0)
  (k a3)
def yb (a3:Z8):Z11 :=
  some (a3,(()))
def wxa (L3:T56) (p_0:Y2):Z11 :=
  L3 p_0 [] 0
def wqq (N:Nat) (k:T56):=itN (fun r=>wfo r k) fun _ _ _ _=>none
def wfm (N:Nat) (rec:T56) (k:Z8→Z11):=wqq N (wbr rec) N
def wqp (N:Nat) (k:Z8→Z11):=itN (fun r=>wbs (wfm N r k) k) fun _ _ _=>none
def wqo (N:Nat):=wqp N (yb) N
def V18 (N:Nat) (p_0:Y2):Z11:=wxa (wqo N) p_0
def S_V18:Sig:=⟨Q22,[0],[],.unit,Q12,O4,fun x=>V18 big x.1⟩
def A_V18:Cfg:=mkCfg tab [(62,S_V17)] [(6,[D0,B5,D0,B4,B0]),(12,[D0,B5,D0,B4,B0,B0]),(21,(dr 3 [B4])),(9,[D0,B5,D0,B4,B0])]
noncomputable def z6 (N n:Nat) (K:Ex→St→Z11) (a1:Y2) (a3:Z8) (a4:Int):Z11:=itr A_V18 N 6 Tryz.f36 [1,1,0,1,0,0] n ([.u,W5 a1,.u,W4 a3,W0 a4]++us 27) K
noncomputable def wfn (N n:Nat) (K:Ex→St→Z11) (a1:Y2) (a3:Z8) (a4 a5:Int):Z11:=itr A_V18 N 12 Tryz.f36 [1,1,0,1,0,0,1,0,0,1,0,0] n ([.u,W5 a1,.u,W4 a3,W0 a4,W0 a5]++us 26) K
noncomputable def wpq:Ex→St→Z11:=finish A_V18 S_V18 Tryz.f36.results.toList
noncomputable def wkx (kX:T101) (a3:Z8):Z11:=kX ((ud 3 [W4 a3])++us 28)
noncomputable def wbq (kX:T101) (kO:T86):=exK wpq 0 (A_V18.shape 21) kX kO
noncomputable def w1r (kX:T101) (a1:Y2) (a3:Z8) (a4:Int):Z11:=kX ([.u,W5 a1,.u,W4 a3,W0 a4]++us 27)
noncomputable def w1q (kX:T101) (kO:T86):=exK wpq 2 (A_V18.shape 9) kX kO
theorem w1t (N kX kO):∀n,wfn N n (w1q kX kO)=wqq N (w1r kX) n :=
 itE rfl fun m=>by kernel_rfl
noncomputable def wkw (N m:Nat) (kX:T101) (kO:T86):=(blockK 2 (blockK 1 (sqK A_V18 N 9 500004 Tryz.f36 [1,1,0,1,0,0,1,1] (itK A_V18 N 6 Tryz.f36 [1,1,0,1,0,0] m (wbq kX kO)))))
noncomputable def w1v (N m:Nat) (kX:T101) (kO:T86) (st':St):Z11:=rn A_V18 N Tryz.f36 [1,1,0,1,0,0,1,1] st' (itK A_V18 N 6 Tryz.f36 [1,1,0,1,0,0] m (wbq kX kO))
theorem xbl (N m kX kO) {r}(h:z6 N m (wbq kX kO)=r):wfn N N (wkw N m kX kO)=wfm N r (wkx kX):=by
 rw[show wfn N N (wkw N m kX kO)=wfn N N (w1q (w1v N m kX kO) fun j=>(wkw N m kX kO) (.exit j)) from(by funext _ _ _ _;exact jky),w1t,show w1r (w1v N m kX kO)=wbr (z6 N m (wbq kX kO)) by kernel_rfl,h];rfl
theorem w1s (N kX kO):∀n,z6 N n (wbq kX kO)=wqp N (wkx kX) n :=
 itE rfl fun m=>(show _=wbs (wfn N N (wkw N m kX kO)) (wkx kX) by kernel_rfl).trans (by rw[xbl N m kX kO rfl]<;>rfl)
noncomputable def wkv (N:Nat):=(blockK 0 (sqK A_V18 N 21 500010 Tryz.f36 [1,1,1] wpq))
noncomputable def w1u (N:Nat) (st':St):Z11:=rn A_V18 N Tryz.f36 [1,1,1] st' wpq
theorem xbk (N):z6 N N (wkv N)=wqo N:=by
 rw[show z6 N N (wkv N)=z6 N N (wbq (w1u N) fun j=>(wkv N) (.exit j)) from(by funext _ _ _;exact jky),w1s,show wkx (w1u N)=yb by kernel_rfl];rfl
theorem run_V18 (N x):runF A_V18 N Tryz.f36 S_V18 x=V18 N x.1:=(show _=(wxa (z6 N N (wkv N)) x.1) by kernel_rfl).trans (by rw[xbk N];rfl)
theorem ok_V18:OK 36 S_V18:=gdR (A:=A_V18) tc Tryz.func36 (jeb ⟨ok_V17,trivial⟩) (run_V18 big)
def wfq (rec:T50) (k:Z14→Y2→Y2→Int→Z8→Z6) (a0:Z14) (a2 a3:Y2) (a4:Int) (a5:Y4) (a6:Z8) (a7:Int):Z6 :=
  cond (decide (a7<(a6.length:Int)))
  ((atI a6 a7).bind fun _ =>
  (a6[a7.toNat]?).bind fun xq9 =>
  (a6[a7.toNat]?).bind fun xq10 =>
  (atI a5 xq10.1).bind fun _ =>
  (a5[xq10.1.toNat]?).bind fun xq11 =>
  (atI a6 a7).bind fun _ =>
  (a6[a7.toNat]?).bind fun xq12 =>
  (a6[a7.toNat]?).bind fun xq13 =>
  (atI a5 xq13.2.1).bind fun _ =>
  (a5[xq13.2.1.toNat]?).bind fun xq14 =>
  (atI a6 a7).bind fun _ =>
  (a6[a7.toNat]?).bind fun xq15 =>
  rec a0 a2 a3 a4 a5 (a6.set a7.toNat (xq11,(xq14,()))) (IntKind.i64.wrap (a7+1)))
  (k a0 a2 a3 a4 a6)
def wbt (a0:Z14) (a2 a3:Y2) (a4:Int) (a6:Z8):Z6 :=
  (V9 big a4 a6).bind fun rq16 =>
  some (rq16.1,(a0,()))
def wxb (L9:T50) (c_0:Z14):Z6 :=
  (V3 c_0 10).bind fun rq1 =>
  cond rq1.1
  ((V11 big rq1.2.1).bind fun rq2 =>
  some (rq2.1,(rq2.2.1,())))
  ((V2 rq1.2.1 12).bind fun rq3 =>
  (V13 rq3.1).bind fun rq4 =>
  (V5 big rq3.2.1 (rq4.1.1.length:Int)).bind fun rq5 =>
  (V8 big rq5.1 (rq4.1.1.length:Int)).bind fun rq6 =>
  cond rq6.1
  ((V3 rq5.2.1 2).bind fun rq7 =>
  cond rq7.1
  ((V18 big rq4.1).bind fun rq8 =>
  L9 rq7.2.1 (([]:Y3),()) rq4.1 (rq4.1.1.length:Int) rq5.1 rq8.1 0)
  (some (rq4.1,(rq7.2.1,()))))
  (some (rq4.1,(rq5.2.1,()))))
def wqs (N:Nat) (k:Z14→Y2→Y2→Int→Z8→Z6):=itN (fun r=>wfq r k) fun _ _ _ _ _ _ _=>none
def wqr (N:Nat):=wqs N (wbt) N
def V19 (N:Nat) (c_0:Z14):Z6:=wxb (wqr N) c_0
def S_V19:Sig:=⟨Q20,[1],[O4],Q20,Q0,.i,fun x=>V19 big x.1⟩
def A_V19:Cfg:=mkCfg tab [(63,S_V3),(64,S_V11),(66,S_V2),(65,S_V13),(67,S_V5),(68,S_V8),(36,S_V18),(69,S_V9)] [(18,[.as Q1 O4,D0,B1,B1,B0,B3,B4,B0]),(25,[.as Q1 O4,D0,B1,B1,B0,D0,B4])]
noncomputable def wfp (N n:Nat) (K:Ex→St→Z6) (a0:Z14) (a2 a3:Y2) (a4:Int) (a5:Y4) (a6:Z8) (a7:Int):Z6:=itr A_V19 N 18 Tryz.f39 [1,1,1,1,0,1,1,0,1,0,1,0,0] n ([.val Q1 O4 a0,.u,W1 a2,W1 a3,W0 a4,W3 a5,W4 a6,W0 a7]++us 52) K
noncomputable def wxc:Ex→St→Z6:=finish A_V19 S_V19 Tryz.f39.results.toList
noncomputable def w1x (kX:T107) (a0:Z14) (a2 a3:Y2) (a4:Int) (a6:Z8):Z6:=kX ([.val Q1 O4 a0,.u,W1 a2,W1 a3,W0 a4,.u,W4 a6]++us 53)
noncomputable def w1w (kX:T107) (kO:T104):=exK wxc 0 (A_V19.shape 25) kX kO
theorem w1y (N kX kO):∀n,wfp N n (w1w kX kO)=wqs N (w1x kX) n :=
 itE rfl fun m=>by kernel_rfl
noncomputable def wky (N:Nat):=(blockK 0 (sqK A_V19 N 25 500012 Tryz.f39 [1,1,1,1,0,1,1,0,1,1] (sqK A_V19 N 27 500013 Tryz.f39 [1,1,1,1,1] wxc)))
noncomputable def w1z (N:Nat) (st':St):Z6:=rn A_V19 N Tryz.f39 [1,1,1,1,0,1,1,0,1,1] st' (sqK A_V19 N 27 500013 Tryz.f39 [1,1,1,1,1] wxc)
theorem xbm (N):wfp N N (wky N)=wqr N:=by
 rw[show wfp N N (wky N)=wfp N N (w1w (w1z N) fun j=>(wky N) (.exit j)) from(by funext _ _ _ _ _ _ _;exact jky),w1y,show w1x (w1z N)=wbt by kernel_rfl];rfl
theorem run_V19 (N x):runF A_V19 N Tryz.f39 S_V19 x=V19 N x.1:=(show _=(wxb (wfp N N (wky N)) x.1) by kernel_rfl).trans (by rw[xbm N];rfl)
theorem ok_V19:OK 39 S_V19:=gdR (A:=A_V19) tc Tryz.func39 (jeb ⟨ok_V3,⟨fn_V11,good_V11⟩,ok_V2,ok_V13,ok_V5,ok_V8,ok_V18,ok_V9,trivial⟩) (run_V19 big)
def wqv (rec:Y4→Int→Int→Int→Z1) (k:Z1) (a0:Y4) (a1 a2 a7:Int):Z1 :=
  cond (decide (a7<(a0.length:Int)))
  ((atI a0 a7).bind fun xq1 =>
  (V6 xq1 a1 a2).bind fun rq2 =>
  cond (!rq2.1)
  (some (false,(())))
  (cond (decide (0<a7))
  ((atI a0 (IntKind.i64.wrap (a7-1))).bind fun xq3 =>
  (atI a0 a7).bind fun xq4 =>
  cond (decide (xq4≤xq3))
  (some (false,(())))
  (rec a0 a1 a2 (IntKind.i64.wrap (a7+1))))
  (rec a0 a1 a2 (IntKind.i64.wrap (a7+1)))))
  (k)
def wfr:Z1 :=
  some (true,(()))
def wxd (L2:Y4→Int→Int→Int→Z1) (l_0:Y4) (lo_1 hi_2:Int):Z1 :=
  L2 l_0 lo_1 hi_2 0
def wbu (N:Nat) (k:Z1):Nat→Y4→Int→Int→Int→Z1
  | 0,_,_,_,_=>none
  | m+1,a0,a1,a2,a7=>wqv (wbu N k m) k a0 a1 a2 a7
def wqt (N:Nat):=wbu N (wfr) N
def V20 (N:Nat) (l_0:Y4) (lo_1 hi_2:Int):Z1:=wxd (wqt N) l_0 lo_1 hi_2
def S_V20:Sig:=⟨(.pair Q7 Q3),[0,0,0],[],.unit,.bool,.i,fun x=>V20 big x.1 x.2.1 x.2.2.1⟩
def A_V20:Cfg:=mkCfg tab [(78,S_V6)] [(4,([B2,B0,B0]++dr 4 [B0])),(13,[])]
noncomputable def z7 (N n:Nat) (K:T5) (a0:Y4) (a1 a2 a7:Int):Z1:=itr A_V20 N 4 Tryz.f96 [1,0,1,0,0] n (([W2 a0,W0 a1,W0 a2]++ud 4 [W0 a7])++us 30) K
noncomputable def wxe:Ex→St→Z1:=finish A_V20 S_V20 Tryz.f96.results.toList
noncomputable def wqu (kX:T3):Z1:=kX ([]++us 38)
noncomputable def wkz (kX:T3) (kO:T1):=exK wxe 0 (A_V20.shape 13) kX kO
theorem wo5 (N kX kO):∀n,z7 N n (wkz kX kO)=wbu N (wqu kX) n
 | 0=>rfl
 | m+1=>(show z7 N (m+1) (wkz kX kO)=wqv (z7 N m (wkz kX kO)) (wqu kX) by kernel_rfl).trans (by rw[wo5 N kX kO m];funext _ _ _ _;rfl)
noncomputable def wk0 (N:Nat):=(blockK 0 (sqK A_V20 N 13 500006 Tryz.f96 [1,1] wxe))
noncomputable def w10 (N:Nat) (st':St):Z1:=rn A_V20 N Tryz.f96 [1,1] st' wxe
theorem xbn (N):z7 N N (wk0 N)=wqt N:=by
 rw[show z7 N N (wk0 N)=z7 N N (wkz (w10 N) fun j=>(wk0 N) (.exit j)) from(by funext _ _ _ _;exact jky),wo5,show wqu (w10 N)=wfr by kernel_rfl];rfl
theorem run_V20 (N x):runF A_V20 N Tryz.f96 S_V20 x=V20 N x.1 x.2.1 x.2.2.1:=(show _=(wxd (z7 N N (wk0 N)) x.1 x.2.1 x.2.2.1) by kernel_rfl).trans (by rw[xbn N];rfl)
theorem ok_V20:OK 96 S_V20:=gdR (A:=A_V20) tc Tryz.func96 (jeb ⟨ok_V6,trivial⟩) (run_V20 big)
def wft (rec:T10) (k:Z1) (a0 a1:Y4) (a5:Int):Z1 :=
  cond (decide (a5<(a0.length:Int)))
  ((atI a0 a5).bind fun xq1 =>
  (V14 big a1 xq1).bind fun rq2 =>
  cond (!rq2.1)
  (some (false,(())))
  (rec a0 a1 (IntKind.i64.wrap (a5+1))))
  (k)
def wbv:Z1 :=
  some (true,(()))
def wxf (L2:T10) (x_0 y_1:Y4):Z1 :=
  L2 x_0 y_1 0
def wqx (N:Nat) (k:Z1):=itN (fun r=>wft r k) fun _ _ _=>none
def wqw (N:Nat):=wqx N (wbv) N
def V21 (N:Nat) (x_0 y_1:Y4):Z1:=wxf (wqw N) x_0 y_1
def S_V21:Sig:=⟨(.pair Q7 Q14),[0,0],[],.unit,.bool,.i,fun x=>V21 big x.1 x.2.1⟩
def A_V21:Cfg:=mkCfg tab [(83,S_V14)] [(4,([B2,B2]++dr 3 [B0])),(13,[])]
noncomputable def wfs (N n:Nat) (K:T5) (a0 a1:Y4) (a5:Int):Z1:=itr A_V21 N 4 Tryz.f54 [1,0,1,0,0] n (([W2 a0,W2 a1]++ud 3 [W0 a5])++us 13) K
noncomputable def wxg:Ex→St→Z1:=finish A_V21 S_V21 Tryz.f54.results.toList
noncomputable def w12 (kX:T3):Z1:=kX ([]++us 19)
noncomputable def w11 (kX:T3) (kO:T1):=exK wxg 0 (A_V21.shape 13) kX kO
theorem w13 (N kX kO):∀n,wfs N n (w11 kX kO)=wqx N (w12 kX) n :=
 itE rfl fun m=>by kernel_rfl
noncomputable def wk1 (N:Nat):=(blockK 0 (sqK A_V21 N 13 500006 Tryz.f54 [1,1] wxg))
noncomputable def w14 (N:Nat) (st':St):Z1:=rn A_V21 N Tryz.f54 [1,1] st' wxg
theorem xbo (N):wfs N N (wk1 N)=wqw N:=by
 rw[show wfs N N (wk1 N)=wfs N N (w11 (w14 N) fun j=>(wk1 N) (.exit j)) from(by funext _ _ _;exact jky),w13,show w12 (w14 N)=wbv by kernel_rfl];rfl
theorem run_V21 (N x):runF A_V21 N Tryz.f54 S_V21 x=V21 N x.1 x.2.1:=(show _=(wxf (wfs N N (wk1 N)) x.1 x.2.1) by kernel_rfl).trans (by rw[xbo N];rfl)
theorem ok_V21:OK 54 S_V21:=gdR (A:=A_V21) tc Tryz.func54 (jeb ⟨ok_V14,trivial⟩) (run_V21 big)
def wbz (rec:T93) (k:T26) (a1:Y2) (a3 a5 a6:Int):Z1 :=
  (atI a1.1 a5).bind fun xq5 =>
  cond (decide (a6<(xq5.length:Int)))
  ((atI a1.1 a5).bind fun xq6 =>
  (atI xq6 a6).bind fun xq7 =>
  cond (decide (xq7≠a5))
  ((atI a1.1 xq7).bind fun xq8 =>
  (V14 big xq8 a5).bind fun rq9 =>
  cond rq9.1
  (some (false,(())))
  ((atI a1.1 xq7).bind fun xq10 =>
  (atI a1.1 a5).bind fun xq11 =>
  (V21 big xq10 xq11).bind fun rq12 =>
  cond (!rq12.1)
  (some (false,(())))
  (rec a1 a3 a5 (IntKind.i64.wrap (a6+1)))))
  ((atI a1.1 xq7).bind fun xq13 =>
  (atI a1.1 a5).bind fun xq14 =>
  (V21 big xq13 xq14).bind fun rq15 =>
  cond (!rq15.1)
  (some (false,(())))
  (rec a1 a3 a5 (IntKind.i64.wrap (a6+1)))))
  (k a1 a3 a5)
def zf (rec:T26) (a1:Y2) (a3 a5:Int):Z1 :=
  rec a1 a3 (IntKind.i64.wrap (a5+1))
def zg (L13:T93) (k:Z1) (a1:Y2) (a3 a5:Int):Z1 :=
  cond (decide (a5<a3))
  (L13 a1 a3 a5 0)
  (k)
def w9:Z1 :=
  some (true,(()))
def wfv (rec:T26) (k:Y2→Int→Z1) (a1:Y2) (a3 a4:Int):Z1 :=
  cond (decide (a4<a3))
  ((atI a1.1 a4).bind fun xq1 =>
  (V20 big xq1 0 (IntKind.i64.wrap (a3-1))).bind fun rq2 =>
  cond (!rq2.1)
  (some (false,(())))
  ((atI a1.1 a4).bind fun xq3 =>
  (V14 big xq3 a4).bind fun rq4 =>
  cond (!rq4.1)
  (some (false,(())))
  (rec a1 a3 (IntKind.i64.wrap (a4+1)))))
  (k a1 a3)
def wby (L10:T26) (a1:Y2) (a3:Int):Z1 :=
  L10 a1 a3 0
def wxj (L5:T26) (p_0:Y2):Z1 :=
  cond (decide (10<(p_0.1.length:Int)))
  (some (false,(())))
  (L5 p_0 (p_0.1.length:Int) 0)
def woj (N:Nat) (k:T26):=itN (fun r=>wbz r k) fun _ _ _ _=>none
def wbw (N:Nat) (rec:T26) (k:Z1):=woj N (zf rec) N
def wqz (N:Nat) (k:Y2→Int→Z1):=itN (fun r=>wfv r k) fun _ _ _=>none
def woi (N:Nat) (k:Z1):=itN (fun r=>zg (wbw N r k) k) fun _ _ _=>none
def ze (N:Nat):=woi N (w9) N
def wqy (N:Nat):=wqz N (wby (ze N)) N
def V22 (N:Nat) (p_0:Y2):Z1:=wxj (wqy N) p_0
def S_V22:Sig:=⟨Q22,[0],[],.unit,.bool,.i,fun x=>V22 big x.1⟩
def A_V22:Cfg:=mkCfg tab [(96,S_V20),(83,S_V14),(54,S_V21)] [(10,[D0,B5,D0,B0,B0]),(19,[D0,B5,D0,B0]),(20,[D0,B5,D0,B0,D0,B0]),(26,[D0,B5,D0,B0,D0,B0,B0]),(37,[]),(23,[D0,B5,D0,B0,D0,B0])]
noncomputable def wfu (N n:Nat) (K:T5) (a1:Y2) (a3 a4:Int):Z1:=itr A_V22 N 10 Tryz.f70 [1,1,1,0,1,0,0] n ([.u,W5 a1,.u,W0 a3,W0 a4]++us 81) K
noncomputable def xw (N n:Nat) (K:T5) (a1:Y2) (a3 a5:Int):Z1:=itr A_V22 N 20 Tryz.f70 [1,1,1,1,0,1,0,0] n ([.u,W5 a1,.u,W0 a3,.u,W0 a5]++us 80) K
noncomputable def wbx (N n:Nat) (K:T5) (a1:Y2) (a3 a5 a6:Int):Z1:=itr A_V22 N 26 Tryz.f70 [1,1,1,1,0,1,0,0,1,0,0,1,0,0] n ([.u,W5 a1,.u,W0 a3,.u,W0 a5,W0 a6]++us 79) K
noncomputable def we3:Ex→St→Z1:=finish A_V22 S_V22 Tryz.f70.results.toList
noncomputable def w16 (kX:T3) (a1:Y2) (a3:Int):Z1:=kX ([.u,W5 a1,.u,W0 a3]++us 82)
noncomputable def w15 (kX:T3) (kO:T1):=exK we3 0 (A_V22.shape 19) kX kO
noncomputable def wjb (kX:T3):Z1:=kX ([]++us 86)
noncomputable def zd (kX:T3) (kO:T1):=exK we3 2 (A_V22.shape 37) kX kO
noncomputable def wvi (kX:T3) (a1:Y2) (a3 a5:Int):Z1:=kX ([.u,W5 a1,.u,W0 a3,.u,W0 a5]++us 80)
noncomputable def wvh (kX:T3) (kO:T1):=exK we3 4 (A_V22.shape 23) kX kO
theorem w17 (N kX kO):∀n,wfu N n (w15 kX kO)=wqz N (w16 kX) n :=
 itE rfl fun m=>by kernel_rfl
noncomputable def wk2 (N:Nat):=(blockK 0 (sqK A_V22 N 19 500009 Tryz.f70 [1,1,1,1] we3))
theorem wxi (N kX kO):∀n,wbx N n (wvh kX kO)=woj N (wvi kX) n :=
 itE rfl fun m=>by kernel_rfl
noncomputable def wja (N m:Nat) (kX:T3) (kO:T1):=(blockK 4 (blockK 3 (sqK A_V22 N 23 500011 Tryz.f70 [1,1,1,1,0,1,0,0,1,1] (itK A_V22 N 20 Tryz.f70 [1,1,1,1,0,1,0,0] m (zd kX kO)))))
noncomputable def wvk (N m:Nat) (kX:T3) (kO:T1) (st':St):Z1:=rn A_V22 N Tryz.f70 [1,1,1,1,0,1,0,0,1,1] st' (itK A_V22 N 20 Tryz.f70 [1,1,1,1,0,1,0,0] m (zd kX kO))
theorem w8z (N m kX kO) {r}(h:xw N m (zd kX kO)=r):wbx N N (wja N m kX kO)=wbw N r (wjb kX):=by
 rw[show wbx N N (wja N m kX kO)=wbx N N (wvh (wvk N m kX kO) fun j=>(wja N m kX kO) (.exit j)) from(by funext _ _ _ _;exact jky),wxi,show wvi (wvk N m kX kO)=zf (xw N m (zd kX kO)) by kernel_rfl,h];rfl
theorem wxh (N kX kO):∀n,xw N n (zd kX kO)=woi N (wjb kX) n :=
 itE rfl fun m=>(show _=zg (wbx N N (wja N m kX kO)) (wjb kX) by kernel_rfl).trans (by rw[w8z N m kX kO rfl]<;>rfl)
noncomputable def wi9 (N:Nat):=(blockK 2 (sqK A_V22 N 37 500018 Tryz.f70 [1,1,1,1,1] we3))
noncomputable def wvj (N:Nat) (st':St):Z1:=rn A_V22 N Tryz.f70 [1,1,1,1,1] st' we3
theorem w8y (N):xw N N (wi9 N)=ze N:=by
 rw[show xw N N (wi9 N)=xw N N (zd (wvj N) fun j=>(wi9 N) (.exit j)) from(by funext _ _ _;exact jky),wxh,show wjb (wvj N)=w9 by kernel_rfl];rfl
noncomputable def w18 (N:Nat) (st':St):Z1:=rn A_V22 N Tryz.f70 [1,1,1,1] st' we3
theorem xbr (N):wfu N N (wk2 N)=wqy N:=by
 rw[show wfu N N (wk2 N)=wfu N N (w15 (w18 N) fun j=>(wk2 N) (.exit j)) from(by funext _ _ _;exact jky),w17,show w16 (w18 N)=wby (xw N N (wi9 N)) by kernel_rfl,w8y N];rfl
theorem run_V22 (N x):runF A_V22 N Tryz.f70 S_V22 x=V22 N x.1:=(show _=(wxj (wfu N N (wk2 N)) x.1) by kernel_rfl).trans (by rw[xbr N];rfl)
theorem ok_V22:OK 70 S_V22:=gdR (A:=A_V22) tc Tryz.func70 (jeb ⟨ok_V20,ok_V14,ok_V21,trivial⟩) (run_V22 big)
def wfy (rec:T69) (k:Y2→Y2→Y2→Int→Y4→Z3) (a1 a2 a3:Y2) (a4:Int) (a5:Y4) (a6:Int):Z3 :=
  cond (decide (a6<(a1.1.length:Int)))
  ((V15 a1 a4 a6).bind fun rq1 =>
  cond rq1.1
  ((appI a5 [a6]).bind fun xq2 =>
  rec a1 a2 a3 a4 xq2 (IntKind.i64.wrap (a6+1)))
  (rec a1 a2 a3 a4 a5 (IntKind.i64.wrap (a6+1))))
  (k a1 a2 a3 a4 a5)
def wb1 (rec:T67) (a1 a2 a3:Y2) (a4:Int) (a5:Y4):Z3 :=
  (appI a3.1 [a5]).bind fun xq3 =>
  rec a1 a2 (xq3,((),a3.2).2) (IntKind.i64.wrap (a4+1))
def wb2 (L7:T69) (k:T71) (a1 a2 a3:Y2) (a4:Int):Z3 :=
  cond (decide (a4<(a1.1.length:Int)))
  (L7 a1 a2 a3 a4 [] 0)
  (k a2 a3)
def yc (a2 a3:Y2):Z3 :=
  some (a3,(()))
def wxk (L3:T67) (p_0:Y2):Z3 :=
  L3 p_0 (([]:Y3),()) ([],()) 0
def wq2 (N:Nat) (k:Y2→Y2→Y2→Int→Y4→Z3):=itN (fun r=>wfy r k) fun _ _ _ _ _ _=>none
def wfw (N:Nat) (rec:T67) (k:T71):=wq2 N (wb1 rec) N
def wq1 (N:Nat) (k:T71):=itN (fun r=>wb2 (wfw N r k) k) fun _ _ _ _=>none
def wq0 (N:Nat):=wq1 N (yc) N
def V23 (N:Nat) (p_0:Y2):Z3:=wxk (wq0 N) p_0
def S_V23:Sig:=⟨Q22,[0],[],.unit,Q0,(.p O16 .i),fun x=>V23 big x.1⟩
def A_V23:Cfg:=mkCfg tab [(53,S_V15)] [(6,[D0,B5,B1,B1,B0]),(14,[D0,B5,B1,B1,B0,B3,B0]),(25,[D0,D0,B1,B1]),(23,[D0,B5,B1,B1,B0,B3])]
noncomputable def z8 (N n:Nat) (K:T53) (a1 a2 a3:Y2) (a4:Int):Z3:=itr A_V23 N 6 Tryz.f29 [1,1,0,1,0,0] n ([.u,W5 a1,W1 a2,W1 a3,W0 a4]++us 34) K
noncomputable def wfx (N n:Nat) (K:T53) (a1 a2 a3:Y2) (a4:Int) (a5:Y4) (a6:Int):Z3:=itr A_V23 N 14 Tryz.f29 [1,1,0,1,0,0,1,0,0,1,0,1,0,0] n ([.u,W5 a1,W1 a2,W1 a3,W0 a4,W3 a5,W0 a6]++us 32) K
noncomputable def wpr:Ex→St→Z3:=finish A_V23 S_V23 Tryz.f29.results.toList
noncomputable def wk5 (kX:T11) (a2 a3:Y2):Z3:=kX ([.u,.u,W1 a2,W1 a3]++us 35)
noncomputable def wb0 (kX:T11) (kO:T4):=exK wpr 0 (A_V23.shape 25) kX kO
noncomputable def w2a (kX:T11) (a1 a2 a3:Y2) (a4:Int) (a5:Y4):Z3:=kX ([.u,W5 a1,W1 a2,W1 a3,W0 a4,W3 a5]++us 33)
noncomputable def w19 (kX:T11) (kO:T4):=exK wpr 2 (A_V23.shape 23) kX kO
theorem w2c (N kX kO):∀n,wfx N n (w19 kX kO)=wq2 N (w2a kX) n :=
 itE rfl fun m=>by kernel_rfl
noncomputable def wk4 (N m:Nat) (kX:T11) (kO:T4):=(blockK 2 (sqK A_V23 N 23 500011 Tryz.f29 [1,1,0,1,0,0,1,0,0,1,1] (blockK 1 (sqK A_V23 N 9 500004 Tryz.f29 [1,1,0,1,0,0,1,1] (itK A_V23 N 6 Tryz.f29 [1,1,0,1,0,0] m (wb0 kX kO))))))
noncomputable def w2e (N m:Nat) (kX:T11) (kO:T4) (st':St):Z3:=rn A_V23 N Tryz.f29 [1,1,0,1,0,0,1,0,0,1,1] st' (blockK 1 (sqK A_V23 N 9 500004 Tryz.f29 [1,1,0,1,0,0,1,1] (itK A_V23 N 6 Tryz.f29 [1,1,0,1,0,0] m (wb0 kX kO))))
theorem xbt (N m kX kO) {r}(h:z8 N m (wb0 kX kO)=r):wfx N N (wk4 N m kX kO)=wfw N r (wk5 kX):=by
 rw[show wfx N N (wk4 N m kX kO)=wfx N N (w19 (w2e N m kX kO) fun j=>(wk4 N m kX kO) (.exit j)) from(by funext _ _ _ _ _ _;exact jky),w2c,show w2a (w2e N m kX kO)=wb1 (z8 N m (wb0 kX kO)) by kernel_rfl,h];rfl
theorem w2b (N kX kO):∀n,z8 N n (wb0 kX kO)=wq1 N (wk5 kX) n :=
 itE rfl fun m=>(show _=wb2 (wfx N N (wk4 N m kX kO)) (wk5 kX) by kernel_rfl).trans (by rw[xbt N m kX kO rfl]<;>rfl)
noncomputable def wk3 (N:Nat):=(blockK 0 (sqK A_V23 N 25 500012 Tryz.f29 [1,1,1] wpr))
noncomputable def w2d (N:Nat) (st':St):Z3:=rn A_V23 N Tryz.f29 [1,1,1] st' wpr
theorem xbs (N):z8 N N (wk3 N)=wq0 N:=by
 rw[show z8 N N (wk3 N)=z8 N N (wb0 (w2d N) fun j=>(wk3 N) (.exit j)) from(by funext _ _ _ _;exact jky),w2b,show wk5 (w2d N)=yc by kernel_rfl];rfl
theorem run_V23 (N x):runF A_V23 N Tryz.f29 S_V23 x=V23 N x.1:=(show _=(wxk (z8 N N (wk3 N)) x.1) by kernel_rfl).trans (by rw[xbs N];rfl)
theorem ok_V23:OK 29 S_V23:=gdR (A:=A_V23) tc Tryz.func29 (jeb ⟨ok_V15,trivial⟩) (run_V23 big)
def wb6 (rec:T113) (k:Z4) (a2:Y2) (a5:Y4) (a9:Int):Z4 :=
  cond (decide (a9<(a5.length:Int)))
  ((atI a5 a9).bind fun _ =>
  (a5[a9.toNat]?).bind fun xq4 =>
  (atI a2.1 xq4).bind fun xq5 =>
  (V21 big a5 xq5).bind fun rq6 =>
  cond rq6.1
  ((atI a5 a9).bind fun _ =>
  (a5[a9.toNat]?).bind fun xq7 =>
  some (xq7,(())))
  (rec a2 a5 (IntKind.i64.wrap (a9+1))))
  (k)
def zh:Z4 :=
  some ((-1:Int),(()))
def wf1 (rec:T60) (k:Y4→Y2→Y4→Int→Bool→Z4) (a1:Y4) (a2:Y2) (a5:Y4) (a6:Int) (a7:Bool) (a8:Int):Z4 :=
  cond (decide (a8<(a1.length:Int)))
  (cond a7
  ((atI a1 a8).bind fun xq1 =>
  (V15 a2 a6 xq1).bind fun rq2 =>
  rec a1 a2 a5 a6 rq2.1 (IntKind.i64.wrap (a8+1)))
  (rec a1 a2 a5 a6 false (IntKind.i64.wrap (a8+1))))
  (k a1 a2 a5 a6 a7)
def wb5 (rec:T68) (a1:Y4) (a2:Y2) (a5:Y4) (a6:Int) (a7:Bool):Z4 :=
  cond a7
  ((appI a5 [a6]).bind fun xq3 =>
  rec a1 a2 xq3 (IntKind.i64.wrap (a6+1)))
  (rec a1 a2 a5 (IntKind.i64.wrap (a6+1)))
def wb7 (L7:T60) (k:Y2→Y4→Z4) (a1:Y4) (a2:Y2) (a5:Y4) (a6:Int):Z4 :=
  cond (decide (a6<(a2.1.length:Int)))
  (L7 a1 a2 a5 a6 true 0)
  (k a2 a5)
def yd (L13:T113) (a2:Y2) (a5:Y4):Z4 :=
  L13 a2 a5 0
def wxm (L3:T68) (p_0:Y2) (some_1:Y4):Z4 :=
  L3 some_1 p_0 [] 0
def wq5 (N:Nat) (k:Y4→Y2→Y4→Int→Bool→Z4):=itN (fun r=>wf1 r k) fun _ _ _ _ _ _=>none
def wfz (N:Nat) (rec:T68) (k:Y2→Y4→Z4):=wq5 N (wb5 rec) N
def wq4 (N:Nat) (k:Y2→Y4→Z4):=itN (fun r=>wb7 (wfz N r k) k) fun _ _ _ _=>none
def wok (N:Nat) (k:Z4):=itN (fun r=>wb6 r k) fun _ _ _=>none
def xc (N:Nat):=wok N (zh) N
def wq3 (N:Nat):=wq4 N (yd (xc N)) N
def V24 (N:Nat) (p_0:Y2) (some_1:Y4):Z4:=wxm (wq3 N) p_0 some_1
def S_V24:Sig:=⟨(.pair Q0 Q14),[0,0],[],.unit,I,.i,fun x=>V24 big x.1 x.2.1⟩
def A_V24:Cfg:=mkCfg tab [(53,S_V15),(54,S_V21)] [(6,[D0,B2,B5,D0,D0,B3,B0]),(14,[D0,B2,B5,D0,D0,B3,B0,B6,B0]),(25,[D0,D0,B5,D0,D0,B3]),(26,([D0,D0,B5,D0,D0,B3]++dr 3 [B0])),(21,[D0,B2,B5,D0,D0,B3,B0,B6]),(35,[])]
noncomputable def z9 (N n:Nat) (K:T61) (a1:Y4) (a2:Y2) (a5:Y4) (a6:Int):Z4:=itr A_V24 N 6 Tryz.f28 [1,1,0,1,0,0] n ([.u,W2 a1,W5 a2,.u,.u,W3 a5,W0 a6]++us 52) K
noncomputable def wf0 (N n:Nat) (K:T61) (a1:Y4) (a2:Y2) (a5:Y4) (a6:Int) (a7:Bool) (a8:Int):Z4:=itr A_V24 N 14 Tryz.f28 [1,1,0,1,0,0,1,0,0,1,0,1,0,0] n ([.u,W2 a1,W5 a2,.u,.u,W3 a5,W0 a6,W6 a7,W0 a8]++us 50) K
noncomputable def wb4 (N n:Nat) (K:T61) (a2:Y2) (a5:Y4) (a9:Int):Z4:=itr A_V24 N 26 Tryz.f28 [1,1,1,0,1,0,0] n (([.u,.u,W5 a2,.u,.u,W3 a5]++ud 3 [W0 a9])++us 49) K
noncomputable def we4:Ex→St→Z4:=finish A_V24 S_V24 Tryz.f28.results.toList
noncomputable def wk8 (kX:T36) (a2:Y2) (a5:Y4):Z4:=kX ([.u,.u,W5 a2,.u,.u,W3 a5]++us 53)
noncomputable def wb3 (kX:T36) (kO:T29):=exK we4 0 (A_V24.shape 25) kX kO
noncomputable def w2g (kX:T36) (a1:Y4) (a2:Y2) (a5:Y4) (a6:Int) (a7:Bool):Z4:=kX ([.u,W2 a1,W5 a2,.u,.u,W3 a5,W0 a6,W6 a7]++us 51)
noncomputable def w2f (kX:T36) (kO:T29):=exK we4 2 (A_V24.shape 21) kX kO
noncomputable def wvm (kX:T36):Z4:=kX ([]++us 59)
noncomputable def wvl (kX:T36) (kO:T29):=exK we4 4 (A_V24.shape 35) kX kO
theorem w2i (N kX kO):∀n,wf0 N n (w2f kX kO)=wq5 N (w2g kX) n :=
 itE rfl fun m=>by kernel_rfl
noncomputable def wk7 (N m:Nat) (kX:T36) (kO:T29):=(blockK 2 (sqK A_V24 N 21 500010 Tryz.f28 [1,1,0,1,0,0,1,0,0,1,1] (blockK 1 (sqK A_V24 N 9 500004 Tryz.f28 [1,1,0,1,0,0,1,1] (itK A_V24 N 6 Tryz.f28 [1,1,0,1,0,0] m (wb3 kX kO))))))
noncomputable def w2k (N m:Nat) (kX:T36) (kO:T29) (st':St):Z4:=rn A_V24 N Tryz.f28 [1,1,0,1,0,0,1,0,0,1,1] st' (blockK 1 (sqK A_V24 N 9 500004 Tryz.f28 [1,1,0,1,0,0,1,1] (itK A_V24 N 6 Tryz.f28 [1,1,0,1,0,0] m (wb3 kX kO))))
theorem xbw (N m kX kO) {r}(h:z9 N m (wb3 kX kO)=r):wf0 N N (wk7 N m kX kO)=wfz N r (wk8 kX):=by
 rw[show wf0 N N (wk7 N m kX kO)=wf0 N N (w2f (w2k N m kX kO) fun j=>(wk7 N m kX kO) (.exit j)) from(by funext _ _ _ _ _ _;exact jky),w2i,show w2g (w2k N m kX kO)=wb5 (z9 N m (wb3 kX kO)) by kernel_rfl,h];rfl
theorem w2h (N kX kO):∀n,z9 N n (wb3 kX kO)=wq4 N (wk8 kX) n :=
 itE rfl fun m=>(show _=wb7 (wf0 N N (wk7 N m kX kO)) (wk8 kX) by kernel_rfl).trans (by rw[xbw N m kX kO rfl]<;>rfl)
noncomputable def wk6 (N:Nat):=(blockK 0 (sqK A_V24 N 25 500012 Tryz.f28 [1,1,1] we4))
theorem wxl (N kX kO):∀n,wb4 N n (wvl kX kO)=wok N (wvm kX) n :=
 itE rfl fun m=>by kernel_rfl
noncomputable def wjc (N:Nat):=(blockK 4 (sqK A_V24 N 35 500017 Tryz.f28 [1,1,1,1] we4))
noncomputable def wvn (N:Nat) (st':St):Z4:=rn A_V24 N Tryz.f28 [1,1,1,1] st' we4
theorem w80 (N):wb4 N N (wjc N)=xc N:=by
 rw[show wb4 N N (wjc N)=wb4 N N (wvl (wvn N) fun j=>(wjc N) (.exit j)) from(by funext _ _ _;exact jky),wxl,show wvm (wvn N)=zh by kernel_rfl];rfl
noncomputable def w2j (N:Nat) (st':St):Z4:=rn A_V24 N Tryz.f28 [1,1,1] st' we4
theorem xbv (N):z9 N N (wk6 N)=wq3 N:=by
 rw[show z9 N N (wk6 N)=z9 N N (wb3 (w2j N) fun j=>(wk6 N) (.exit j)) from(by funext _ _ _ _;exact jky),w2h,show wk8 (w2j N)=yd (wb4 N N (wjc N)) by kernel_rfl,w80 N];rfl
theorem run_V24 (N x):runF A_V24 N Tryz.f28 S_V24 x=V24 N x.1 x.2.1:=(show _=(wxm (z9 N N (wk6 N)) x.1 x.2.1) by kernel_rfl).trans (by rw[xbv N];rfl)
theorem ok_V24:OK 28 S_V24:=gdR (A:=A_V24) tc Tryz.func28 (jeb ⟨ok_V15,ok_V21,trivial⟩) (run_V24 big)
def wf4 (rec:T94) (k:T62) (a1 a3:Y2) (a4 a5:Int):Z1 :=
  cond (decide (a5<a4))
  ((V24 big a1 [a4,a5]).bind fun rq3 =>
  cond (decide (rq3.1<0))
  (some (false,(())))
  ((V24 big a3 [a4,a5]).bind fun rq4 =>
  cond (decide (rq4.1<0))
  (some (false,(())))
  (rec a1 a3 a4 (IntKind.i64.wrap (a5+1)))))
  (k a1 a3 a4)
def wb9 (rec:T62) (a1 a3:Y2) (a4:Int):Z1 :=
  rec a1 a3 (IntKind.i64.wrap (a4+1))
def wca (L8:T94) (k:Z1) (a1 a3:Y2) (a4:Int):Z1 :=
  cond (decide (a4<(a1.1.length:Int)))
  (L8 a1 a3 a4 0)
  (k)
def ye:Z1 :=
  some (true,(()))
def wxn (L5:T62) (p_0:Y2):Z1 :=
  (V22 big p_0).bind fun rq1 =>
  cond (!rq1.1)
  (some (false,(())))
  (cond (decide ((p_0.1.length:Int)=0))
  (some (false,(())))
  ((V23 big p_0).bind fun rq2 =>
  L5 p_0 rq2.1 0))
def wq8 (N:Nat) (k:T62):=itN (fun r=>wf4 r k) fun _ _ _ _=>none
def wf2 (N:Nat) (rec:T62) (k:Z1):=wq8 N (wb9 rec) N
def wq7 (N:Nat) (k:Z1):=itN (fun r=>wca (wf2 N r k) k) fun _ _ _=>none
def wq6 (N:Nat):=wq7 N (ye) N
def V25 (N:Nat) (p_0:Y2):Z1:=wxn (wq6 N) p_0
def S_V25:Sig:=⟨Q22,[0],[],.unit,.bool,.i,fun x=>V25 big x.1⟩
def A_V25:Cfg:=mkCfg tab [(70,S_V22),(29,S_V23),(28,S_V24)] [(10,[D0,B5,D0,B1,B0]),(16,[D0,B5,D0,B1,B0,B0]),(25,[]),(13,[D0,B5,D0,B1,B0])]
noncomputable def waa (N n:Nat) (K:T5) (a1 a3:Y2) (a4:Int):Z1:=itr A_V25 N 10 Tryz.f49 [1,1,1,0,1,0,0] n ([.u,W5 a1,.u,W1 a3,W0 a4]++us 38) K
noncomputable def wf3 (N n:Nat) (K:T5) (a1 a3:Y2) (a4 a5:Int):Z1:=itr A_V25 N 16 Tryz.f49 [1,1,1,0,1,0,0,1,0,0,1,0,0] n ([.u,W5 a1,.u,W1 a3,W0 a4,W0 a5]++us 37) K
noncomputable def wps:Ex→St→Z1:=finish A_V25 S_V25 Tryz.f49.results.toList
noncomputable def wlb (kX:T3):Z1:=kX ([]++us 43)
noncomputable def wb8 (kX:T3) (kO:T1):=exK wps 0 (A_V25.shape 25) kX kO
noncomputable def w2m (kX:T3) (a1 a3:Y2) (a4:Int):Z1:=kX ([.u,W5 a1,.u,W1 a3,W0 a4]++us 38)
noncomputable def w2l (kX:T3) (kO:T1):=exK wps 2 (A_V25.shape 13) kX kO
theorem w2o (N kX kO):∀n,wf3 N n (w2l kX kO)=wq8 N (w2m kX) n :=
 itE rfl fun m=>by kernel_rfl
noncomputable def wla (N m:Nat) (kX:T3) (kO:T1):=(blockK 2 (blockK 1 (sqK A_V25 N 13 500006 Tryz.f49 [1,1,1,0,1,0,0,1,1] (itK A_V25 N 10 Tryz.f49 [1,1,1,0,1,0,0] m (wb8 kX kO)))))
noncomputable def w2q (N m:Nat) (kX:T3) (kO:T1) (st':St):Z1:=rn A_V25 N Tryz.f49 [1,1,1,0,1,0,0,1,1] st' (itK A_V25 N 10 Tryz.f49 [1,1,1,0,1,0,0] m (wb8 kX kO))
theorem xby (N m kX kO) {r}(h:waa N m (wb8 kX kO)=r):wf3 N N (wla N m kX kO)=wf2 N r (wlb kX):=by
 rw[show wf3 N N (wla N m kX kO)=wf3 N N (w2l (w2q N m kX kO) fun j=>(wla N m kX kO) (.exit j)) from(by funext _ _ _ _;exact jky),w2o,show w2m (w2q N m kX kO)=wb9 (waa N m (wb8 kX kO)) by kernel_rfl,h];rfl
theorem w2n (N kX kO):∀n,waa N n (wb8 kX kO)=wq7 N (wlb kX) n :=
 itE rfl fun m=>(show _=wca (wf3 N N (wla N m kX kO)) (wlb kX) by kernel_rfl).trans (by rw[xby N m kX kO rfl]<;>rfl)
noncomputable def wk9 (N:Nat):=(blockK 0 (sqK A_V25 N 25 500012 Tryz.f49 [1,1,1,1] wps))
noncomputable def w2p (N:Nat) (st':St):Z1:=rn A_V25 N Tryz.f49 [1,1,1,1] st' wps
theorem xbx (N):waa N N (wk9 N)=wq6 N:=by
 rw[show waa N N (wk9 N)=waa N N (wb8 (w2p N) fun j=>(wk9 N) (.exit j)) from(by funext _ _ _;exact jky),w2n,show wlb (w2p N)=ye by kernel_rfl];rfl
theorem run_V25 (N x):runF A_V25 N Tryz.f49 S_V25 x=V25 N x.1:=(show _=(wxn (waa N N (wk9 N)) x.1) by kernel_rfl).trans (by rw[xbx N];rfl)
theorem ok_V25:OK 49 S_V25:=gdR (A:=A_V25) tc Tryz.func49 (jeb ⟨ok_V22,ok_V23,ok_V24,trivial⟩) (run_V25 big)
def w90 (p_0:Y2):Z1 :=
  cond (decide ((p_0.1.length:Int)≤8))
  ((V25 big p_0).bind fun rq1 =>
  some (rq1.1,(())))
  (some (false,(())))
def V26 (p_0:Y2):Z1:=w90 p_0
def S_V26:Sig:=⟨Q22,[0],[],.unit,.bool,.i,fun x=>V26 x.1⟩
def A_V26:Cfg:=mkCfg tab [(49,S_V25)] []
theorem run_V26 (N x):runF A_V26 N Tryz.f24 S_V26 x=V26 x.1:=by kernel_rfl
theorem ok_V26:OK 24 S_V26:=gdR (A:=A_V26) tc Tryz.func24 (jeb ⟨ok_V25,trivial⟩) (run_V26 big)
def wf7 (rec:T39) (k:T7) (a1:Y2) (a2:Y7) (a3:Int) (a4:Y2) (a5 a6:Y6) (a7 a8:Int):Z15 :=
  cond (decide (a8<a3))
  ((V24 big a1 [a7,a8]).bind fun rq2 =>
  (appI a5.2.1 [rq2.1]).bind fun xq3 =>
  (V24 big a4 [a7,a8]).bind fun rq4 =>
  (appI a6.2.1 [rq4.1]).bind fun xq5 =>
  rec a1 a2 a3 a4 ((a5.1,((),a5.2.2)).1,(xq3,((a5.1,((),a5.2.2)).2).2)) ((a6.1,((),a6.2.2)).1,(xq5,((a6.1,((),a6.2.2)).2).2)) a7 (IntKind.i64.wrap (a8+1)))
  (k a1 a2 a3 a4 a5 a6 a7)
def wcc (rec:T7) (a1:Y2) (a2:Y7) (a3:Int) (a4:Y2) (a5 a6:Y6) (a7:Int):Z15 :=
  rec a1 a2 a3 a4 a5 a6 (IntKind.i64.wrap (a7+1))
def wcd (L8:T39) (k:T95) (a1:Y2) (a2:Y7) (a3:Int) (a4:Y2) (a5 a6:Y6) (a7:Int):Z15 :=
  cond (decide (a7<a3))
  (L8 a1 a2 a3 a4 a5 a6 a7 0)
  (k a2 a3 a5 a6)
def yf (a2:Y7) (a3:Int) (a5 a6:Y6):Z15 :=
  some ((a3,([a5,a6],())),(()))
def wxo (L5:T7) (p_0:Y2):Z15 :=
  (V23 big p_0).bind fun rq1 =>
  L5 p_0 (0,(([]:(List Y6)),())) (p_0.1.length:Int) rq1.1 (2,(([]:Y4),())) (2,(([]:Y4),())) 0
def wrb (N:Nat) (k:T7):=itN (fun r=>wf7 r k) fun _ _ _ _ _ _ _ _=>none
def wf5 (N:Nat) (rec:T7) (k:T95):=wrb N (wcc rec) N
def wra (N:Nat) (k:T95):=itN (fun r=>wcd (wf5 N r k) k) fun _ _ _ _ _ _ _=>none
def wq9 (N:Nat):=wra N (yf) N
def V27 (N:Nat) (p_0:Y2):Z15:=wxo (wq9 N) p_0
def S_V27:Sig:=⟨Q22,[0],[],.unit,Q2,.i,fun x=>V27 big x.1⟩
def A_V27:Cfg:=mkCfg tab [(29,S_V23),(28,S_V24)] [(10,[D0,B5,.as Q17 O25,B0,B1,.as Q21 O11,.as Q21 O11,B0]),(16,[D0,B5,.as Q17 O25,B0,B1,.as Q21 O11,.as Q21 O11,B0,B0]),(25,[D0,D0,.as Q17 O25,B0,D0,.as Q21 O11,.as Q21 O11]),(13,[D0,B5,.as Q17 O25,B0,B1,.as Q21 O11,.as Q21 O11,B0])]
noncomputable def wab (N n:Nat) (K:Ex→St→Z15) (a1:Y2) (a2:Y7) (a3:Int) (a4:Y2) (a5 a6:Y6) (a7:Int):Z15:=itr A_V27 N 10 Tryz.f26 [1,1,1,1,0,1,0,0] n ([.u,W5 a1,.val Q17 O25 a2,W0 a3,W1 a4,.val Q21 O11 a5,.val Q21 O11 a6,W0 a7]++us 43) K
noncomputable def wf6 (N n:Nat) (K:Ex→St→Z15) (a1:Y2) (a2:Y7) (a3:Int) (a4:Y2) (a5 a6:Y6) (a7 a8:Int):Z15:=itr A_V27 N 16 Tryz.f26 [1,1,1,1,0,1,0,0,1,0,0,1,0,0] n ([.u,W5 a1,.val Q17 O25 a2,W0 a3,W1 a4,.val Q21 O11 a5,.val Q21 O11 a6,W0 a7,W0 a8]++us 42) K
noncomputable def wpt:Ex→St→Z15:=finish A_V27 S_V27 Tryz.f26.results.toList
noncomputable def wle (kX:St→Z15) (a2:Y7) (a3:Int) (a5 a6:Y6):Z15:=kX ([.u,.u,.val Q17 O25 a2,W0 a3,.u,.val Q21 O11 a5,.val Q21 O11 a6]++us 44)
noncomputable def wcb (kX:St→Z15) (kO:Nat→St→Z15):=exK wpt 0 (A_V27.shape 25) kX kO
noncomputable def w2s (kX:St→Z15) (a1:Y2) (a2:Y7) (a3:Int) (a4:Y2) (a5 a6:Y6) (a7:Int):Z15:=kX ([.u,W5 a1,.val Q17 O25 a2,W0 a3,W1 a4,.val Q21 O11 a5,.val Q21 O11 a6,W0 a7]++us 43)
noncomputable def w2r (kX:St→Z15) (kO:Nat→St→Z15):=exK wpt 2 (A_V27.shape 13) kX kO
theorem w2u (N kX kO):∀n,wf6 N n (w2r kX kO)=wrb N (w2s kX) n :=
 itE rfl fun m=>by kernel_rfl
noncomputable def wld (N m:Nat) (kX:St→Z15) (kO:Nat→St→Z15):=(blockK 2 (blockK 1 (sqK A_V27 N 13 500006 Tryz.f26 [1,1,1,1,0,1,0,0,1,1] (itK A_V27 N 10 Tryz.f26 [1,1,1,1,0,1,0,0] m (wcb kX kO)))))
noncomputable def w2w (N m:Nat) (kX:St→Z15) (kO:Nat→St→Z15) (st':St):Z15:=rn A_V27 N Tryz.f26 [1,1,1,1,0,1,0,0,1,1] st' (itK A_V27 N 10 Tryz.f26 [1,1,1,1,0,1,0,0] m (wcb kX kO))
theorem xb0 (N m kX kO) {r}(h:wab N m (wcb kX kO)=r):wf6 N N (wld N m kX kO)=wf5 N r (wle kX):=by
 rw[show wf6 N N (wld N m kX kO)=wf6 N N (w2r (w2w N m kX kO) fun j=>(wld N m kX kO) (.exit j)) from(by funext _ _ _ _ _ _ _ _;exact jky),w2u,show w2s (w2w N m kX kO)=wcc (wab N m (wcb kX kO)) by kernel_rfl,h];rfl
theorem w2t (N kX kO):∀n,wab N n (wcb kX kO)=wra N (wle kX) n :=
 itE rfl fun m=>(show _=wcd (wf6 N N (wld N m kX kO)) (wle kX) by kernel_rfl).trans (by rw[xb0 N m kX kO rfl]<;>rfl)
noncomputable def wlc (N:Nat):=(blockK 0 (sqK A_V27 N 25 500012 Tryz.f26 [1,1,1,1,1] wpt))
noncomputable def w2v (N:Nat) (st':St):Z15:=rn A_V27 N Tryz.f26 [1,1,1,1,1] st' wpt
theorem xbz (N):wab N N (wlc N)=wq9 N:=by
 rw[show wab N N (wlc N)=wab N N (wcb (w2v N) fun j=>(wlc N) (.exit j)) from(by funext _ _ _ _ _ _ _;exact jky),w2t,show wle (w2v N)=yf by kernel_rfl];rfl
theorem run_V27 (N x):runF A_V27 N Tryz.f26 S_V27 x=V27 N x.1:=(show _=(wxo (wab N N (wlc N)) x.1) by kernel_rfl).trans (by rw[xbz N];rfl)
theorem ok_V27:OK 26 S_V27:=gdR (A:=A_V27) tc Tryz.func26 (jeb ⟨ok_V23,ok_V24,trivial⟩) (run_V27 big)
def wga (rec:Int→Int→Int→Z4) (k:T102) (a0 a1 a5:Int):Z4 :=
  cond (decide (0<a1))
  (rec a0 (IntKind.i64.wrap (a1-1)) (IntKind.i64.wrap (a5*a0)))
  (k a5)
def wf9 (a5:Int):Z4 :=
  some (a5,(()))
def wxp (L2:Int→Int→Int→Z4) (n_0 k_1:Int):Z4 :=
  L2 n_0 k_1 1
def wrd (N:Nat) (k:T102):=itN (fun r=>wga r k) fun _ _ _=>none
def wrc (N:Nat):=wrd N (wf9) N
def V28 (N:Nat) (n_0 k_1:Int):Z4:=wxp (wrc N) n_0 k_1
def S_V28:Sig:=⟨Q3,[0,0],[],.unit,I,.i,fun x=>V28 big x.1 x.2.1⟩
def A_V28:Cfg:=mkCfg tab [] [(4,([B0,B0]++dr 3 [B0])),(11,(dr 5 [B0]))]
noncomputable def wf8 (N n:Nat) (K:T61) (a0 a1 a5:Int):Z4:=itr A_V28 N 4 Tryz.f106 [1,1,0,0,0] n (([W0 a0,W0 a1]++ud 3 [W0 a5])++us 8) K
noncomputable def wxq:Ex→St→Z4:=finish A_V28 S_V28 Tryz.f106.results.toList
noncomputable def w2y (kX:T36) (a5:Int):Z4:=kX ((ud 5 [W0 a5])++us 8)
noncomputable def w2x (kX:T36) (kO:T29):=exK wxq 0 (A_V28.shape 11) kX kO
theorem w2z (N kX kO):∀n,wf8 N n (w2x kX kO)=wrd N (w2y kX) n :=
 itE rfl fun m=>by kernel_rfl
noncomputable def wlf (N:Nat):=(blockK 0 (sqK A_V28 N 11 500005 Tryz.f106 [1,1,1] wxq))
noncomputable def w20 (N:Nat) (st':St):Z4:=rn A_V28 N Tryz.f106 [1,1,1] st' wxq
theorem xb1 (N):wf8 N N (wlf N)=wrc N:=by
 rw[show wf8 N N (wlf N)=wf8 N N (w2x (w20 N) fun j=>(wlf N) (.exit j)) from(by funext _ _ _;exact jky),w2z,show w2y (w20 N)=wf9 by kernel_rfl];rfl
theorem run_V28 (N x):runF A_V28 N Tryz.f106 S_V28 x=V28 N x.1 x.2.1:=(show _=(wxp (wf8 N N (wlf N)) x.1 x.2.1) by kernel_rfl).trans (by rw[xb1 N];rfl)
theorem ok_V28:OK 106 S_V28:=gdR (A:=A_V28) tc Tryz.func106 (jeb trivial) (run_V28 big)
def wgc (rec:T109) (k:Z1) (a0:Int) (a3:Y6) (a5:Int):Z1 :=
  cond (decide (a5<(a3.2.1.length:Int)))
  ((atI a3.2.1 a5).bind fun xq3 =>
  (V6 xq3 0 (IntKind.i64.wrap (a0-1))).bind fun rq4 =>
  cond (!rq4.1)
  (some (false,(())))
  (rec a0 a3 (IntKind.i64.wrap (a5+1))))
  (k)
def wce:Z1 :=
  some (true,(()))
def wxr (L4:T109) (n_0:Int) (op_1:Y6):Z1 :=
  (V6 op_1.1 0 3).bind fun rq1 =>
  cond (!rq1.1)
  (some (false,(())))
  ((V28 big n_0 op_1.1).bind fun rq2 =>
  cond (decide ((op_1.2.1.length:Int)≠rq2.1))
  (some (false,(())))
  (L4 n_0 op_1 0))
def wrf (N:Nat) (k:Z1):=itN (fun r=>wgc r k) fun _ _ _=>none
def wre (N:Nat):=wrf N (wce) N
def V29 (N:Nat) (n_0:Int) (op_1:Y6):Z1:=wxr (wre N) n_0 op_1
def S_V29:Sig:=⟨(.pair I (.pair Q9 .unit)),[0,0],[],.unit,.bool,.i,fun x=>V29 big x.1 x.2.1⟩
def A_V29:Cfg:=mkCfg tab [(78,S_V6),(106,S_V28)] [(8,[B0,D0,D0,.as Q21 O4,D0,B0]),(17,[])]
noncomputable def wgb (N n:Nat) (K:T5) (a0:Int) (a3:Y6) (a5:Int):Z1:=itr A_V29 N 8 Tryz.f102 [1,1,0,1,0,0] n ([W0 a0,.u,.u,.val Q21 O4 a3,.u,W0 a5]++us 30) K
noncomputable def wxs:Ex→St→Z1:=finish A_V29 S_V29 Tryz.f102.results.toList
noncomputable def w22 (kX:T3):Z1:=kX ([]++us 36)
noncomputable def w21 (kX:T3) (kO:T1):=exK wxs 0 (A_V29.shape 17) kX kO
theorem w23 (N kX kO):∀n,wgb N n (w21 kX kO)=wrf N (w22 kX) n :=
 itE rfl fun m=>by kernel_rfl
noncomputable def wlg (N:Nat):=(blockK 0 (sqK A_V29 N 17 500008 Tryz.f102 [1,1,1] wxs))
noncomputable def w24 (N:Nat) (st':St):Z1:=rn A_V29 N Tryz.f102 [1,1,1] st' wxs
theorem xb2 (N):wgb N N (wlg N)=wre N:=by
 rw[show wgb N N (wlg N)=wgb N N (w21 (w24 N) fun j=>(wlg N) (.exit j)) from(by funext _ _ _;exact jky),w23,show w22 (w24 N)=wce by kernel_rfl];rfl
theorem run_V29 (N x):runF A_V29 N Tryz.f102 S_V29 x=V29 N x.1 x.2.1:=(show _=(wxr (wgb N N (wlg N)) x.1 x.2.1) by kernel_rfl).trans (by rw[xb2 N];rfl)
theorem ok_V29:OK 102 S_V29:=gdR (A:=A_V29) tc Tryz.func102 (jeb ⟨ok_V6,ok_V28,trivial⟩) (run_V29 big)
def wge (rec:Y7→Int→Z1) (k:Z1) (a1:Y7) (a3:Int):Z1 :=
  cond (decide (a3<(a1.2.1.length:Int)))
  ((atI a1.2.1 a3).bind fun xq2 =>
  (V29 big a1.1 xq2).bind fun rq3 =>
  cond (!rq3.1)
  (some (false,(())))
  (rec a1 (IntKind.i64.wrap (a3+1))))
  (k)
def wcf:Z1 :=
  some (true,(()))
def wxt (L4:Y7→Int→Z1) (a_0:Y7):Z1 :=
  (V6 a_0.1 1 8).bind fun rq1 =>
  cond (!rq1.1)
  (some (false,(())))
  (cond (decide (4<(a_0.2.1.length:Int)))
  (some (false,(())))
  (L4 a_0 0))
def wrh (N:Nat) (k:Z1):=itN (fun r=>wge r k) fun _ _=>none
def wrg (N:Nat):=wrh N (wcf) N
def V30 (N:Nat) (a_0:Y7):Z1:=wxt (wrg N) a_0
def S_V30:Sig:=⟨(.pair Q2 .unit),[0],[],.unit,.bool,.i,fun x=>V30 big x.1⟩
def A_V30:Cfg:=mkCfg tab [(78,S_V6),(102,S_V29)] [(8,[D0,B8,D0,B0]),(17,[])]
noncomputable def wgd (N n:Nat) (K:T5) (a1:Y7) (a3:Int):Z1:=itr A_V30 N 8 Tryz.f97 [1,1,0,1,0,0] n ([.u,W8 a1,.u,W0 a3]++us 26) K
noncomputable def wxu:Ex→St→Z1:=finish A_V30 S_V30 Tryz.f97.results.toList
noncomputable def w26 (kX:T3):Z1:=kX ([]++us 30)
noncomputable def w25 (kX:T3) (kO:T1):=exK wxu 0 (A_V30.shape 17) kX kO
theorem w27 (N kX kO):∀n,wgd N n (w25 kX kO)=wrh N (w26 kX) n :=
 itE rfl fun m=>by kernel_rfl
noncomputable def wlh (N:Nat):=(blockK 0 (sqK A_V30 N 17 500008 Tryz.f97 [1,1,1] wxu))
noncomputable def w28 (N:Nat) (st':St):Z1:=rn A_V30 N Tryz.f97 [1,1,1] st' wxu
theorem xb3 (N):wgd N N (wlh N)=wrg N:=by
 rw[show wgd N N (wlh N)=wgd N N (w25 (w28 N) fun j=>(wlh N) (.exit j)) from(by funext _ _;exact jky),w27,show w26 (w28 N)=wcf by kernel_rfl];rfl
theorem run_V30 (N x):runF A_V30 N Tryz.f97 S_V30 x=V30 N x.1:=(show _=(wxt (wgd N N (wlh N)) x.1) by kernel_rfl).trans (by rw[xb3 N];rfl)
theorem ok_V30:OK 97 S_V30:=gdR (A:=A_V30) tc Tryz.func97 (jeb ⟨ok_V6,ok_V29,trivial⟩) (run_V30 big)
def wpu (a_0 b_1:Int):Z4 :=
  cond (decide (b_1<a_0))
  (some (a_0,(())))
  (some (b_1,(())))
def V31 (a_0 b_1:Int):Z4:=wpu a_0 b_1
def S_V31:Sig:=⟨Q3,[0,0],[],.unit,I,.i,fun x=>V31 x.1 x.2.1⟩
def A_V31:Cfg:=mkCfg tab [] []
theorem run_V31 (N x):runF A_V31 N Tryz.f101 S_V31 x=V31 x.1 x.2.1:=by kernel_rfl
theorem ok_V31:OK 101 S_V31:=gdR (A:=A_V31) tc Tryz.func101 (jeb trivial) (run_V31 big)
def wpv (a_0 b_1:Int):Z4 :=
  cond (decide (a_0<b_1))
  (some (a_0,(())))
  (some (b_1,(())))
def V32 (a_0 b_1:Int):Z4:=wpv a_0 b_1
def S_V32:Sig:=⟨Q3,[0,0],[],.unit,I,.i,fun x=>V32 x.1 x.2.1⟩
def A_V32:Cfg:=mkCfg tab [] []
theorem run_V32 (N x):runF A_V32 N Tryz.f100 S_V32 x=V32 x.1 x.2.1:=by kernel_rfl
theorem ok_V32:OK 100 S_V32:=gdR (A:=A_V32) tc Tryz.func100 (jeb trivial) (run_V32 big)
def wgg (rec:T110) (k:T77) (a0:Int) (a3:Y4) (a4:Int):Z5 :=
  cond (decide (a4<a0))
  ((appI a3 [a4]).bind fun xq1 =>
  rec a0 xq1 (IntKind.i64.wrap (a4+1)))
  (k a3)
def wcg (a3:Y4):Z5 :=
  some (a3,(()))
def wxv (L3:T110) (n_0:Int):Z5 :=
  L3 n_0 [] 0
def wrj (N:Nat) (k:T77):=itN (fun r=>wgg r k) fun _ _ _=>none
def wri (N:Nat):=wrj N (wcg) N
def V33 (N:Nat) (n_0:Int):Z5:=wxv (wri N) n_0
def S_V33:Sig:=⟨Q24,[0],[],.unit,Q7,O4,fun x=>V33 big x.1⟩
def A_V33:Cfg:=mkCfg tab [] [(6,[B0,D0,D0,B3,B0]),(13,(dr 3 [B3]))]
noncomputable def wgf (N n:Nat) (K:T72) (a0:Int) (a3:Y4) (a4:Int):Z5:=itr A_V33 N 6 Tryz.f99 [1,1,0,1,0,0] n ([W0 a0,.u,.u,W3 a3,W0 a4]++us 11) K
noncomputable def wxw:Ex→St→Z5:=finish A_V33 S_V33 Tryz.f99.results.toList
noncomputable def w3a (kX:T44) (a3:Y4):Z5:=kX ((ud 3 [W3 a3])++us 12)
noncomputable def w29 (kX:T44) (kO:T34):=exK wxw 0 (A_V33.shape 13) kX kO
theorem w3b (N kX kO):∀n,wgf N n (w29 kX kO)=wrj N (w3a kX) n :=
 itE rfl fun m=>by kernel_rfl
noncomputable def wli (N:Nat):=(blockK 0 (sqK A_V33 N 13 500006 Tryz.f99 [1,1,1] wxw))
noncomputable def w3c (N:Nat) (st':St):Z5:=rn A_V33 N Tryz.f99 [1,1,1] st' wxw
theorem xb4 (N):wgf N N (wli N)=wri N:=by
 rw[show wgf N N (wli N)=wgf N N (w29 (w3c N) fun j=>(wli N) (.exit j)) from(by funext _ _ _;exact jky),w3b,show w3a (w3c N)=wcg by kernel_rfl];rfl
theorem run_V33 (N x):runF A_V33 N Tryz.f99 S_V33 x=V33 N x.1:=(show _=(wxv (wgf N N (wli N)) x.1) by kernel_rfl).trans (by rw[xb4 N];rfl)
theorem ok_V33:OK 99 S_V33:=gdR (A:=A_V33) tc Tryz.func99 (jeb trivial) (run_V33 big)
def xj (rec:T41) (k:T77) (a0:Y4) (a7 a8:Int) (a9:Y4) (a10:Int):Z5 :=
  cond (decide (a10<(a0.length:Int)))
  ((atI a0 a10).bind fun xq7 =>
  cond (decide (xq7=a8))
  ((appI a9 [a7]).bind fun xq8 =>
  rec a0 a7 a8 xq8 (IntKind.i64.wrap (a10+1)))
  ((atI a0 a10).bind fun xq9 =>
  (appI a9 [xq9]).bind fun xq10 =>
  rec a0 a7 a8 xq10 (IntKind.i64.wrap (a10+1))))
  (k a9)
def w5 (a9:Y4):Z5 :=
  some (a9,(()))
def wpw (L4:T41) (p_0:Y4) (x_1 y_2:Int):Z5 :=
  (atI p_0 x_1).bind fun xq1 =>
  (atI p_0 y_2).bind fun xq2 =>
  (V32 xq1 xq2).bind fun rq3 =>
  (atI p_0 x_1).bind fun xq4 =>
  (atI p_0 y_2).bind fun xq5 =>
  (V31 xq4 xq5).bind fun rq6 =>
  L4 p_0 rq3.1 rq6.1 [] 0
def wlk (N:Nat) (k:T77):=itN (fun r=>xj r k) fun _ _ _ _ _=>none
def wgh (N:Nat):=wlk N (w5) N
def V34 (N:Nat) (p_0:Y4) (x_1 y_2:Int):Z5:=wpw (wgh N) p_0 x_1 y_2
def S_V34:Sig:=⟨(.pair Q7 Q3),[0,0,0],[],.unit,Q7,O4,fun x=>V34 big x.1 x.2.1 x.2.2.1⟩
def A_V34:Cfg:=mkCfg tab [(100,S_V32),(101,S_V31)] [(8,([B2]++dr 6 [B0,B0,B3,B0])),(19,(dr 9 [B3]))]
noncomputable def wgi (N n:Nat) (K:T72) (a0:Y4) (a7 a8:Int) (a9:Y4) (a10:Int):Z5:=itr A_V34 N 8 Tryz.f81 [1,1,1,0,1,0,0] n (([W2 a0]++ud 6 [W0 a7,W0 a8,W3 a9,W0 a10])++us 43) K
noncomputable def wxx:Ex→St→Z5:=finish A_V34 S_V34 Tryz.f81.results.toList
noncomputable def w3e (kX:T44) (a9:Y4):Z5:=kX ((ud 9 [W3 a9])++us 44)
noncomputable def w3d (kX:T44) (kO:T34):=exK wxx 0 (A_V34.shape 19) kX kO
theorem w3f (N kX kO):∀n,wgi N n (w3d kX kO)=wlk N (w3e kX) n :=
 itE rfl fun m=>by kernel_rfl
noncomputable def wlj (N:Nat):=(blockK 0 (sqK A_V34 N 19 500009 Tryz.f81 [1,1,1,1] wxx))
noncomputable def w3g (N:Nat) (st':St):Z5:=rn A_V34 N Tryz.f81 [1,1,1,1] st' wxx
theorem xb5 (N):wgi N N (wlj N)=wgh N:=by
 rw[show wgi N N (wlj N)=wgi N N (w3d (w3g N) fun j=>(wlj N) (.exit j)) from(by funext _ _ _ _ _;exact jky),w3f,show w3e (w3g N)=w5 by kernel_rfl];rfl
theorem run_V34 (N x):runF A_V34 N Tryz.f81 S_V34 x=V34 N x.1 x.2.1 x.2.2.1:=(show _=(wpw (wgi N N (wlj N)) x.1 x.2.1 x.2.2.1) by kernel_rfl).trans (by rw[xb5 N];rfl)
theorem ok_V34:OK 81 S_V34:=gdR (A:=A_V34) tc Tryz.func81 (jeb ⟨ok_V32,ok_V31,trivial⟩) (run_V34 big)
def wrl (rec:Z14→Y4→Int→Z12) (k:Z14→Y4→Z12) (a0:Z14) (a5:Y4) (a6:Int):Z12 :=
  cond (decide (0<a6))
  (cond (decide (1<(a5.length:Int)))
  ((V2 a0 (a5.length:Int)).bind fun rq5 =>
  (V2 rq5.2.1 (a5.length:Int)).bind fun rq6 =>
  (V34 big a5 rq5.1 rq6.1).bind fun rq7 =>
  rec rq6.2.1 rq7.1 (IntKind.i64.wrap (a6-1)))
  (k a0 a5))
  (k a0 a5)
def wch (a0:Z14) (a5:Y4):Z12 :=
  (V2 a0 24).bind fun rq8 =>
  cond (decide (rq8.1=0))
  ((appI a5 [0]).bind fun xq9 =>
  some (xq9,(rq8.2.1,())))
  (cond (decide (rq8.1=1))
  (cond (decide (0<(a5.length:Int)))
  ((V2 rq8.2.1 (a5.length:Int)).bind fun rq10 =>
  (V4 rq10.2.1 [(-1:Int),(a5.length:Int),IntKind.i64.wrap ((a5.length:Int)-1),0]).bind fun rq11 =>
  (atI a5 rq10.1).bind fun _ =>
  (a5[rq10.1.toNat]?).bind fun xq12 =>
  some (a5.set rq10.1.toNat rq11.1,(rq11.2.1,())))
  (some (a5,(rq8.2.1,()))))
  (some (a5,(rq8.2.1,()))))
def wxy (L3:Z14→Y4→Int→Z12) (c_0:Z14) (n_1:Int):Z12 :=
  (V31 n_1 0).bind fun rq1 =>
  (V32 rq1.1 9).bind fun rq2 =>
  (V33 big rq2.1).bind fun rq3 =>
  (V2 c_0 4).bind fun rq4 =>
  L3 rq4.2.1 rq3.1 rq4.1
def wrm (N:Nat) (k:Z14→Y4→Z12):=itN (fun r=>wrl r k) fun _ _ _=>none
def wrk (N:Nat):=wrm N (wch) N
def V35 (N:Nat) (c_0:Z14) (n_1:Int):Z12:=wxy (wrk N) c_0 n_1
def S_V35:Sig:=⟨(.pair Q1 Q24),[1,0],[O4],Q20,Q7,O4,fun x=>V35 big x.1 x.2.1⟩
def A_V35:Cfg:=mkCfg tab [(101,S_V31),(100,S_V32),(99,S_V33),(66,S_V2),(81,S_V34),(91,S_V4)] [(6,([.as Q1 O4]++dr 4 [B3,B0])),(13,([.as Q1 O4]++dr 4 [B3]))]
noncomputable def wgj (N n:Nat) (K:Ex→St→Z12) (a0:Z14) (a5:Y4) (a6:Int):Z12:=itr A_V35 N 6 Tryz.f76 [1,1,0,1,0,0] n (([.val Q1 O4 a0]++ud 4 [W3 a5,W0 a6])++us 52) K
noncomputable def wxz:Ex→St→Z12:=finish A_V35 S_V35 Tryz.f76.results.toList
noncomputable def w3i (kX:St→Z12) (a0:Z14) (a5:Y4):Z12:=kX (([.val Q1 O4 a0]++ud 4 [W3 a5])++us 53)
noncomputable def w3h (kX:St→Z12) (kO:Nat→St→Z12):=exK wxz 0 (A_V35.shape 13) kX kO
theorem w3j (N kX kO):∀n,wgj N n (w3h kX kO)=wrm N (w3i kX) n :=
 itE rfl fun m=>by kernel_rfl
noncomputable def wll (N:Nat):=(blockK 0 (sqK A_V35 N 13 500006 Tryz.f76 [1,1,1] wxz))
noncomputable def w3k (N:Nat) (st':St):Z12:=rn A_V35 N Tryz.f76 [1,1,1] st' wxz
theorem xb6 (N):wgj N N (wll N)=wrk N:=by
 rw[show wgj N N (wll N)=wgj N N (w3h (w3k N) fun j=>(wll N) (.exit j)) from(by funext _ _ _;exact jky),w3j,show w3i (w3k N)=wch by kernel_rfl];rfl
theorem run_V35 (N x):runF A_V35 N Tryz.f76 S_V35 x=V35 N x.1 x.2.1:=(show _=(wxy (wgj N N (wll N)) x.1 x.2.1) by kernel_rfl).trans (by rw[xb6 N];rfl)
theorem ok_V35:OK 76 S_V35:=gdR (A:=A_V35) tc Tryz.func76 (jeb ⟨ok_V31,ok_V32,ok_V33,ok_V2,ok_V34,ok_V4,trivial⟩) (run_V35 big)
def wpx (l_0:Y4):Z5 :=
  (appI [] l_0).bind fun xq1 =>
  some (xq1,(()))
def V36 (l_0:Y4):Z5:=wpx l_0
def S_V36:Sig:=⟨Q14,[0],[],.unit,Q7,O4,fun x=>V36 x.1⟩
def A_V36:Cfg:=mkCfg tab [] []
theorem run_V36 (N x):runF A_V36 N Tryz.f79 S_V36 x=V36 x.1:=by kernel_rfl
theorem ok_V36:OK 79 S_V36:=gdR (A:=A_V36) tc Tryz.func79 (jeb trivial) (run_V36 big)
def wgm (rec:T112) (k:T77) (a0 a2:Int) (a7:Y4) (a8:Int):Z5 :=
  cond (decide (0≤a8))
  ((remI a2 a0).bind fun xq3 =>
  (atI a7 a8).bind fun _ =>
  (a7[a8.toNat]?).bind fun xq4 =>
  (quoI IntKind.i64 a2 a0).bind fun xq5 =>
  rec a0 xq5 (a7.set a8.toNat xq3) (IntKind.i64.wrap (a8-1)))
  (k a7)
def wgl (a7:Y4):Z5 :=
  some (a7,(()))
def wx0 (L3:T112) (n_0 arity_1 at_2:Int):Z5 :=
  (mkI (0:Int) arity_1).bind fun xq1=>(mkI (0:Int) arity_1).bind fun xq2=>cond (decide (arity_1≤arity_1))
  (L3 n_0 at_2 xq2 (IntKind.i64.wrap (arity_1-1)))
  none
def wro (N:Nat) (k:T77):=itN (fun r=>wgm r k) fun _ _ _ _=>none
def wrn (N:Nat):=wro N (wgl) N
def V37 (N:Nat) (n_0 arity_1 at_2:Int):Z5:=wx0 (wrn N) n_0 arity_1 at_2
def S_V37:Sig:=⟨(.pair I Q3),[0,0,0],[],.unit,Q7,O4,fun x=>V37 big x.1 x.2.1 x.2.2.1⟩
def A_V37:Cfg:=mkCfg tab [] [(6,([B0,D0,B0]++dr 4 [B3,B0])),(15,(dr 7 [B3]))]
noncomputable def wgk (N n:Nat) (K:T72) (a0 a2:Int) (a7:Y4) (a8:Int):Z5:=itr A_V37 N 6 Tryz.f80 [1,1,0,1,0,0] n (([W0 a0,.u,W0 a2]++ud 4 [W3 a7,W0 a8])++us 18) K
noncomputable def wx1:Ex→St→Z5:=finish A_V37 S_V37 Tryz.f80.results.toList
noncomputable def w3m (kX:T44) (a7:Y4):Z5:=kX ((ud 7 [W3 a7])++us 19)
noncomputable def w3l (kX:T44) (kO:T34):=exK wx1 0 (A_V37.shape 15) kX kO
theorem w3n (N kX kO):∀n,wgk N n (w3l kX kO)=wro N (w3m kX) n :=
 itE rfl fun m=>by kernel_rfl
noncomputable def wlm (N:Nat):=(blockK 0 (sqK A_V37 N 15 500007 Tryz.f80 [1,1,1] wx1))
noncomputable def w3o (N:Nat) (st':St):Z5:=rn A_V37 N Tryz.f80 [1,1,1] st' wx1
theorem xb7 (N):wgk N N (wlm N)=wrn N:=by
 rw[show wgk N N (wlm N)=wgk N N (w3l (w3o N) fun j=>(wlm N) (.exit j)) from(by funext _ _ _ _;exact jky),w3n,show w3m (w3o N)=wgl by kernel_rfl];rfl
theorem run_V37 (N x):runF A_V37 N Tryz.f80 S_V37 x=V37 N x.1 x.2.1 x.2.2.1:=(show _=(wx0 (wgk N N (wlm N)) x.1 x.2.1 x.2.2.1) by kernel_rfl).trans (by rw[xb7 N];rfl)
theorem ok_V37:OK 80 S_V37:=gdR (A:=A_V37) tc Tryz.func80 (jeb trivial) (run_V37 big)
def wgo (rec:T78) (k:Int→Y7→Int→Z4) (a1:Int) (a2:Y4) (a3:Y7) (a7 a8:Int):Z4 :=
  cond (decide (a8<(a2.length:Int)))
  ((atI a2 a8).bind fun xq1 =>
  rec a1 a2 a3 (IntKind.i64.wrap ((IntKind.i64.wrap (a7*a3.1))+xq1)) (IntKind.i64.wrap (a8+1)))
  (k a1 a3 a7)
def wci (a1:Int) (a3:Y7) (a7:Int):Z4 :=
  (atI a3.2.1 a1).bind fun xq2 =>
  (atI xq2.2.1 a7).bind fun xq3 =>
  some (xq3,(()))
def wx2 (L3:T78) (a_0:Y7) (op_1:Int) (args_2:Y4):Z4 :=
  L3 op_1 args_2 a_0 0 0
def wrq (N:Nat) (k:Int→Y7→Int→Z4):=itN (fun r=>wgo r k) fun _ _ _ _ _=>none
def wrp (N:Nat):=wrq N (wci) N
def V38 (N:Nat) (a_0:Y7) (op_1:Int) (args_2:Y4):Z4:=wx2 (wrp N) a_0 op_1 args_2
def S_V38:Sig:=⟨(.pair Q2 Q9),[0,0,0],[],.unit,I,.i,fun x=>V38 big x.1 x.2.1 x.2.2.1⟩
def A_V38:Cfg:=mkCfg tab [] [(6,([D0,B0,B2,B8]++dr 3 [B0,B0])),(13,([D0,B0,D0,B8]++dr 3 [B0]))]
noncomputable def wgn (N n:Nat) (K:T61) (a1:Int) (a2:Y4) (a3:Y7) (a7 a8:Int):Z4:=itr A_V38 N 6 Tryz.f82 [1,1,0,1,0,0] n (([.u,W0 a1,W2 a2,W8 a3]++ud 3 [W0 a7,W0 a8])++us 24) K
noncomputable def wx3:Ex→St→Z4:=finish A_V38 S_V38 Tryz.f82.results.toList
noncomputable def w3q (kX:T36) (a1:Int) (a3:Y7) (a7:Int):Z4:=kX (([.u,W0 a1,.u,W8 a3]++ud 3 [W0 a7])++us 25)
noncomputable def w3p (kX:T36) (kO:T29):=exK wx3 0 (A_V38.shape 13) kX kO
theorem w3r (N kX kO):∀n,wgn N n (w3p kX kO)=wrq N (w3q kX) n :=
 itE rfl fun m=>by kernel_rfl
noncomputable def wln (N:Nat):=(blockK 0 (sqK A_V38 N 13 500006 Tryz.f82 [1,1,1] wx3))
noncomputable def w3s (N:Nat) (st':St):Z4:=rn A_V38 N Tryz.f82 [1,1,1] st' wx3
theorem xb8 (N):wgn N N (wln N)=wrp N:=by
 rw[show wgn N N (wln N)=wgn N N (w3p (w3s N) fun j=>(wln N) (.exit j)) from(by funext _ _ _ _ _;exact jky),w3r,show w3q (w3s N)=wci by kernel_rfl];rfl
theorem run_V38 (N x):runF A_V38 N Tryz.f82 S_V38 x=V38 N x.1 x.2.1 x.2.2.1:=(show _=(wx2 (wgn N N (wln N)) x.1 x.2.1 x.2.2.1) by kernel_rfl).trans (by rw[xb8 N];rfl)
theorem ok_V38:OK 82 S_V38:=gdR (A:=A_V38) tc Tryz.func82 (jeb trivial) (run_V38 big)
def wcn (rec:T51) (k:T22) (a1:Y4) (a2:Y7) (a5:Y4) (a6 a7:Int) (a8:Y4) (a9:Int):Z5 :=
  cond (decide (a9<(a8.length:Int)))
  ((V36 a8).bind fun rq5 =>
  (atI a8 a9).bind fun _ =>
  (a8[a9.toNat]?).bind fun xq6 =>
  (atI a1 xq6).bind fun xq7 =>
  (atI rq5.1 a9).bind fun _ =>
  (rq5.1[a9.toNat]?).bind fun xq8 =>
  (atI a2.2.1 a6).bind fun xq9 =>
  (atI xq9.2.1 a7).bind fun xq10 =>
  (V38 big a2 a6 (rq5.1.set a9.toNat xq7)).bind fun rq11 =>
  (V34 big a5 xq10 rq11.1).bind fun rq12 =>
  rec a1 a2 rq12.1 a6 a7 a8 (IntKind.i64.wrap (a9+1)))
  (k a1 a2 a5 a6 a7)
def zi (rec:T22) (a1:Y4) (a2:Y7) (a5:Y4) (a6 a7:Int):Z5 :=
  rec a1 a2 a5 a6 (IntKind.i64.wrap (a7+1))
def wcp (L10:T51) (k:T23) (a1:Y4) (a2:Y7) (a5:Y4) (a6 a7:Int):Z5 :=
  (atI a2.2.1 a6).bind fun xq2 =>
  cond (decide (a7<(xq2.2.1.length:Int)))
  ((atI a2.2.1 a6).bind fun xq3 =>
  (V37 big a2.1 xq3.1 a7).bind fun rq4 =>
  L10 a1 a2 a5 a6 a7 rq4.1 0)
  (k a1 a2 a5 a6)
def yh (rec:T23) (a1:Y4) (a2:Y7) (a5:Y4) (a6:Int):Z5 :=
  rec a1 a2 a5 (IntKind.i64.wrap (a6+1))
def wco (L6:T22) (k:T77) (a1:Y4) (a2:Y7) (a5:Y4) (a6:Int):Z5 :=
  cond (decide (a6<(a2.2.1.length:Int)))
  (L6 a1 a2 a5 a6 0)
  (k a5)
def yg (a5:Y4):Z5 :=
  some (a5,(()))
def wx5 (L3:T23) (a_0:Y7) (p_1:Y4):Z5 :=
  (V36 p_1).bind fun rq1 =>
  L3 p_1 a_0 rq1.1 0
def wol (N:Nat) (k:T22):=itN (fun r=>wcn r k) fun _ _ _ _ _ _ _=>none
def wcl (N:Nat) (rec:T22) (k:T23):=wol N (zi rec) N
def wrt (N:Nat) (k:T23):=itN (fun r=>wcp (wcl N r k) k) fun _ _ _ _ _=>none
def wgp (N:Nat) (rec:T23) (k:T77):=wrt N (yh rec) N
def wrs (N:Nat) (k:T77):=itN (fun r=>wco (wgp N r k) k) fun _ _ _ _=>none
def wrr (N:Nat):=wrs N (yg) N
def V39 (N:Nat) (a_0:Y7) (p_1:Y4):Z5:=wx5 (wrr N) a_0 p_1
def S_V39:Sig:=⟨(.pair Q2 Q14),[0,0],[],.unit,Q7,O4,fun x=>V39 big x.1 x.2.1⟩
def A_V39:Cfg:=mkCfg tab [(79,S_V36),(80,S_V37),(82,S_V38),(81,S_V34)] [(6,[D0,B2,B8,D0,D0,B3,B0]),(12,[D0,B2,B8,D0,D0,B3,B0,B0]),(31,(dr 5 [B3])),(20,[D0,B2,B8,D0,D0,B3,B0,B0,B3,B0]),(9,[D0,B2,B8,D0,D0,B3,B0]),(15,[D0,B2,B8,D0,D0,B3,B0,B0])]
noncomputable def wac (N n:Nat) (K:T72) (a1:Y4) (a2:Y7) (a5:Y4) (a6:Int):Z5:=itr A_V39 N 6 Tryz.f52 [1,1,0,1,0,0] n ([.u,W2 a1,W8 a2,.u,.u,W3 a5,W0 a6]++us 68) K
noncomputable def wad (N n:Nat) (K:T72) (a1:Y4) (a2:Y7) (a5:Y4) (a6 a7:Int):Z5:=itr A_V39 N 12 Tryz.f52 [1,1,0,1,0,0,1,0,0,1,0,0] n ([.u,W2 a1,W8 a2,.u,.u,W3 a5,W0 a6,W0 a7]++us 67) K
noncomputable def wcm (N n:Nat) (K:T72) (a1:Y4) (a2:Y7) (a5:Y4) (a6 a7:Int) (a8:Y4) (a9:Int):Z5:=itr A_V39 N 20 Tryz.f52 [1,1,0,1,0,0,1,0,0,1,0,0,1,0,0,1,1,0,0] n ([.u,W2 a1,W8 a2,.u,.u,W3 a5,W0 a6,W0 a7,W3 a8,W0 a9]++us 65) K
noncomputable def wls:Ex→St→Z5:=finish A_V39 S_V39 Tryz.f52.results.toList
noncomputable def wlq (kX:T44) (a5:Y4):Z5:=kX ((ud 5 [W3 a5])++us 69)
noncomputable def wcj (kX:T44) (kO:T34):=exK wls 0 (A_V39.shape 31) kX kO
noncomputable def wlr (kX:T44) (a1:Y4) (a2:Y7) (a5:Y4) (a6:Int):Z5:=kX ([.u,W2 a1,W8 a2,.u,.u,W3 a5,W0 a6]++us 68)
noncomputable def wck (kX:T44) (kO:T34):=exK wls 2 (A_V39.shape 9) kX kO
noncomputable def wvp (kX:T44) (a1:Y4) (a2:Y7) (a5:Y4) (a6 a7:Int):Z5:=kX ([.u,W2 a1,W8 a2,.u,.u,W3 a5,W0 a6,W0 a7]++us 67)
noncomputable def wvo (kX:T44) (kO:T34):=exK wls 4 (A_V39.shape 15) kX kO
theorem wx4 (N kX kO):∀n,wcm N n (wvo kX kO)=wol N (wvp kX) n :=
 itE rfl fun m=>by kernel_rfl
noncomputable def wjd (N m:Nat) (kX:T44) (kO:T34):=(blockK 4 (blockK 3 (sqK A_V39 N 15 500007 Tryz.f52 [1,1,0,1,0,0,1,0,0,1,0,0,1,1] (itK A_V39 N 12 Tryz.f52 [1,1,0,1,0,0,1,0,0,1,0,0] m (wck kX kO)))))
noncomputable def wvq (N m:Nat) (kX:T44) (kO:T34) (st':St):Z5:=rn A_V39 N Tryz.f52 [1,1,0,1,0,0,1,0,0,1,0,0,1,1] st' (itK A_V39 N 12 Tryz.f52 [1,1,0,1,0,0,1,0,0,1,0,0] m (wck kX kO))
theorem w81 (N m kX kO) {r}(h:wad N m (wck kX kO)=r):wcm N N (wjd N m kX kO)=wcl N r (wlr kX):=by
 rw[show wcm N N (wjd N m kX kO)=wcm N N (wvo (wvq N m kX kO) fun j=>(wjd N m kX kO) (.exit j)) from(by funext _ _ _ _ _ _ _;exact jky),wx4,show wvp (wvq N m kX kO)=zi (wad N m (wck kX kO)) by kernel_rfl,h];rfl
theorem w3u (N kX kO):∀n,wad N n (wck kX kO)=wrt N (wlr kX) n :=
 itE rfl fun m=>(show _=wcp (wcm N N (wjd N m kX kO)) (wlr kX) by kernel_rfl).trans (by rw[w81 N m kX kO rfl]<;>rfl)
noncomputable def wlp (N m:Nat) (kX:T44) (kO:T34):=(blockK 2 (blockK 1 (sqK A_V39 N 9 500004 Tryz.f52 [1,1,0,1,0,0,1,1] (itK A_V39 N 6 Tryz.f52 [1,1,0,1,0,0] m (wcj kX kO)))))
noncomputable def w3w (N m:Nat) (kX:T44) (kO:T34) (st':St):Z5:=rn A_V39 N Tryz.f52 [1,1,0,1,0,0,1,1] st' (itK A_V39 N 6 Tryz.f52 [1,1,0,1,0,0] m (wcj kX kO))
theorem xca (N m kX kO) {r}(h:wac N m (wcj kX kO)=r):wad N N (wlp N m kX kO)=wgp N r (wlq kX):=by
 rw[show wad N N (wlp N m kX kO)=wad N N (wck (w3w N m kX kO) fun j=>(wlp N m kX kO) (.exit j)) from(by funext _ _ _ _ _;exact jky),w3u,show wlr (w3w N m kX kO)=yh (wac N m (wcj kX kO)) by kernel_rfl,h];rfl
theorem w3t (N kX kO):∀n,wac N n (wcj kX kO)=wrs N (wlq kX) n :=
 itE rfl fun m=>(show _=wco (wad N N (wlp N m kX kO)) (wlq kX) by kernel_rfl).trans (by rw[xca N m kX kO rfl]<;>rfl)
noncomputable def wlo (N:Nat):=(blockK 0 (sqK A_V39 N 31 500015 Tryz.f52 [1,1,1] wls))
noncomputable def w3v (N:Nat) (st':St):Z5:=rn A_V39 N Tryz.f52 [1,1,1] st' wls
theorem xb9 (N):wac N N (wlo N)=wrr N:=by
 rw[show wac N N (wlo N)=wac N N (wcj (w3v N) fun j=>(wlo N) (.exit j)) from(by funext _ _ _ _;exact jky),w3t,show wlq (w3v N)=yg by kernel_rfl];rfl
theorem run_V39 (N x):runF A_V39 N Tryz.f52 S_V39 x=V39 N x.1 x.2.1:=(show _=(wx5 (wac N N (wlo N)) x.1 x.2.1) by kernel_rfl).trans (by rw[xb9 N];rfl)
theorem ok_V39:OK 52 S_V39:=gdR (A:=A_V39) tc Tryz.func52 (jeb ⟨ok_V36,ok_V37,ok_V38,ok_V34,trivial⟩) (run_V39 big)
def wgr (rec:T114) (k:T77) (a1:Y4) (a2:Y7) (a5:Int):Z5 :=
  cond (decide (a5<a2.1))
  ((V39 big a2 a1).bind fun rq1 =>
  rec rq1.1 a2 (IntKind.i64.wrap (a5+1)))
  (k a1)
def wcq (a1:Y4):Z5 :=
  some (a1,(()))
def wx6 (L2:T114) (a_0:Y7) (p_1:Y4):Z5 :=
  L2 p_1 a_0 0
def wrv (N:Nat) (k:T77):=itN (fun r=>wgr r k) fun _ _ _=>none
def wru (N:Nat):=wrv N (wcq) N
def V40 (N:Nat) (a_0:Y7) (p_1:Y4):Z5:=wx6 (wru N) a_0 p_1
def S_V40:Sig:=⟨(.pair Q2 Q14),[0,0],[],.unit,Q7,.i,fun x=>V40 big x.1 x.2.1⟩
def A_V40:Cfg:=mkCfg tab [(52,S_V39)] [(4,[D0,B2,B8,D0,D0,B0]),(11,[D0,B2])]
noncomputable def wgq (N n:Nat) (K:T72) (a1:Y4) (a2:Y7) (a5:Int):Z5:=itr A_V40 N 4 Tryz.f109 [1,0,1,0,0] n ([.u,W2 a1,W8 a2,.u,.u,W0 a5]++us 10) K
noncomputable def wx7:Ex→St→Z5:=finish A_V40 S_V40 Tryz.f109.results.toList
noncomputable def w3y (kX:T44) (a1:Y4):Z5:=kX ([.u,W2 a1]++us 14)
noncomputable def w3x (kX:T44) (kO:T34):=exK wx7 0 (A_V40.shape 11) kX kO
theorem w3z (N kX kO):∀n,wgq N n (w3x kX kO)=wrv N (w3y kX) n :=
 itE rfl fun m=>by kernel_rfl
noncomputable def wlt (N:Nat):=(blockK 0 (sqK A_V40 N 11 500005 Tryz.f109 [1,1] wx7))
noncomputable def w30 (N:Nat) (st':St):Z5:=rn A_V40 N Tryz.f109 [1,1] st' wx7
theorem xcc (N):wgq N N (wlt N)=wru N:=by
 rw[show wgq N N (wlt N)=wgq N N (w3x (w30 N) fun j=>(wlt N) (.exit j)) from(by funext _ _ _;exact jky),w3z,show w3y (w30 N)=wcq by kernel_rfl];rfl
theorem run_V40 (N x):runF A_V40 N Tryz.f109 S_V40 x=V40 N x.1 x.2.1:=(show _=(wx6 (wgq N N (wlt N)) x.1 x.2.1) by kernel_rfl).trans (by rw[xcc N];rfl)
theorem ok_V40:OK 109 S_V40:=gdR (A:=A_V40) tc Tryz.func109 (jeb ⟨ok_V39,trivial⟩) (run_V40 big)
def w91 (a_0:Y7) (x_1 y_2:Int):Z5 :=
  (V33 big a_0.1).bind fun rq1 =>
  (V34 big rq1.1 x_1 y_2).bind fun rq2 =>
  (V40 big a_0 rq2.1).bind fun rq3 =>
  some (rq3.1,(()))
def V41 (a_0:Y7) (x_1 y_2:Int):Z5:=w91 a_0 x_1 y_2
def S_V41:Sig:=⟨(.pair Q2 Q3),[0,0,0],[],.unit,Q7,.i,fun x=>V41 x.1 x.2.1 x.2.2.1⟩
def A_V41:Cfg:=mkCfg tab [(99,S_V33),(81,S_V34),(109,S_V40)] []
theorem run_V41 (N x):runF A_V41 N Tryz.f104 S_V41 x=V41 x.1 x.2.1 x.2.2.1:=by kernel_rfl
theorem ok_V41:OK 104 S_V41:=gdR (A:=A_V41) tc Tryz.func104 (jeb ⟨ok_V33,ok_V34,ok_V40,trivial⟩) (run_V41 big)
def wgu (rec:T111) (k:T102) (a0:Y4) (a3 a4:Int):Z4 :=
  cond (decide (a4<(a0.length:Int)))
  ((atI a0 a4).bind fun xq1 =>
  cond (decide (xq1=a4))
  (rec a0 (IntKind.i64.wrap (a3+1)) (IntKind.i64.wrap (a4+1)))
  (rec a0 a3 (IntKind.i64.wrap (a4+1))))
  (k a3)
def wgt (a3:Int):Z4 :=
  some (a3,(()))
def wx8 (L3:T111) (p_0:Y4):Z4 :=
  L3 p_0 0 0
def wrx (N:Nat) (k:T102):=itN (fun r=>wgu r k) fun _ _ _=>none
def wrw (N:Nat):=wrx N (wgt) N
def V42 (N:Nat) (p_0:Y4):Z4:=wx8 (wrw N) p_0
def S_V42:Sig:=⟨Q14,[0],[],.unit,I,.i,fun x=>V42 big x.1⟩
def A_V42:Cfg:=mkCfg tab [] [(6,[B2,D0,D0,B0,B0]),(15,(dr 3 [B0]))]
noncomputable def wgs (N n:Nat) (K:T61) (a0:Y4) (a3 a4:Int):Z4:=itr A_V42 N 6 Tryz.f107 [1,1,0,1,0,0] n ([W2 a0,.u,.u,W0 a3,W0 a4]++us 15) K
noncomputable def wx9:Ex→St→Z4:=finish A_V42 S_V42 Tryz.f107.results.toList
noncomputable def w32 (kX:T36) (a3:Int):Z4:=kX ((ud 3 [W0 a3])++us 16)
noncomputable def w31 (kX:T36) (kO:T29):=exK wx9 0 (A_V42.shape 15) kX kO
theorem w33 (N kX kO):∀n,wgs N n (w31 kX kO)=wrx N (w32 kX) n :=
 itE rfl fun m=>by kernel_rfl
noncomputable def wlu (N:Nat):=(blockK 0 (sqK A_V42 N 15 500007 Tryz.f107 [1,1,1] wx9))
noncomputable def w34 (N:Nat) (st':St):Z4:=rn A_V42 N Tryz.f107 [1,1,1] st' wx9
theorem xcd (N):wgs N N (wlu N)=wrw N:=by
 rw[show wgs N N (wlu N)=wgs N N (w31 (w34 N) fun j=>(wlu N) (.exit j)) from(by funext _ _ _;exact jky),w33,show w32 (w34 N)=wgt by kernel_rfl];rfl
theorem run_V42 (N x):runF A_V42 N Tryz.f107 S_V42 x=V42 N x.1:=(show _=(wx8 (wgs N N (wlu N)) x.1) by kernel_rfl).trans (by rw[xcd N];rfl)
theorem ok_V42:OK 107 S_V42:=gdR (A:=A_V42) tc Tryz.func107 (jeb trivial) (run_V42 big)
def wgw (rec:T10) (k:Z1) (a0 a1:Y4) (a5:Int):Z1 :=
  cond (decide (a5<(a0.length:Int)))
  ((atI a0 a5).bind fun xq1 =>
  (atI a1 a5).bind fun xq2 =>
  cond (decide (xq1≠xq2))
  ((atI a0 a5).bind fun xq3 =>
  (atI a1 a5).bind fun xq4 =>
  some (decide (xq3<xq4),(())))
  (rec a0 a1 (IntKind.i64.wrap (a5+1))))
  (k)
def wcr:Z1 :=
  some (false,(()))
def wya (L2:T10) (a_0 b_1:Y4):Z1 :=
  L2 a_0 b_1 0
def wrz (N:Nat) (k:Z1):=itN (fun r=>wgw r k) fun _ _ _=>none
def wry (N:Nat):=wrz N (wcr) N
def V43 (N:Nat) (a_0 b_1:Y4):Z1:=wya (wry N) a_0 b_1
def S_V43:Sig:=⟨(.pair Q7 Q14),[0,0],[],.unit,.bool,.i,fun x=>V43 big x.1 x.2.1⟩
def A_V43:Cfg:=mkCfg tab [] [(4,([B2,B2]++dr 3 [B0])),(13,[])]
noncomputable def wgv (N n:Nat) (K:T5) (a0 a1:Y4) (a5:Int):Z1:=itr A_V43 N 4 Tryz.f108 [1,0,1,0,0] n (([W2 a0,W2 a1]++ud 3 [W0 a5])++us 24) K
noncomputable def wyb:Ex→St→Z1:=finish A_V43 S_V43 Tryz.f108.results.toList
noncomputable def w36 (kX:T3):Z1:=kX ([]++us 30)
noncomputable def w35 (kX:T3) (kO:T1):=exK wyb 0 (A_V43.shape 13) kX kO
theorem w37 (N kX kO):∀n,wgv N n (w35 kX kO)=wrz N (w36 kX) n :=
 itE rfl fun m=>by kernel_rfl
noncomputable def wlv (N:Nat):=(blockK 0 (sqK A_V43 N 13 500006 Tryz.f108 [1,1] wyb))
noncomputable def w38 (N:Nat) (st':St):Z1:=rn A_V43 N Tryz.f108 [1,1] st' wyb
theorem xce (N):wgv N N (wlv N)=wry N:=by
 rw[show wgv N N (wlv N)=wgv N N (w35 (w38 N) fun j=>(wlv N) (.exit j)) from(by funext _ _ _;exact jky),w37,show w36 (w38 N)=wcr by kernel_rfl];rfl
theorem run_V43 (N x):runF A_V43 N Tryz.f108 S_V43 x=V43 N x.1 x.2.1:=(show _=(wya (wgv N N (wlv N)) x.1 x.2.1) by kernel_rfl).trans (by rw[xce N];rfl)
theorem ok_V43:OK 108 S_V43:=gdR (A:=A_V43) tc Tryz.func108 (jeb trivial) (run_V43 big)
def wgy (rec:T10) (k:Z1) (a0 a1:Y4) (a5:Int):Z1 :=
  cond (decide (a5<(a0.length:Int)))
  ((atI a0 a5).bind fun xq1 =>
  (atI a1 a5).bind fun xq2 =>
  cond (decide (xq1≠xq2))
  (some (false,(())))
  (rec a0 a1 (IntKind.i64.wrap (a5+1))))
  (k)
def wcs:Z1 :=
  some (true,(()))
def wyc (L4:T10) (a_0 b_1:Y4):Z1 :=
  cond (decide ((a_0.length:Int)≠(b_1.length:Int)))
  (some (false,(())))
  (L4 a_0 b_1 0)
def wr2 (N:Nat) (k:Z1):=itN (fun r=>wgy r k) fun _ _ _=>none
def wr0 (N:Nat):=wr2 N (wcs) N
def V44 (N:Nat) (a_0 b_1:Y4):Z1:=wyc (wr0 N) a_0 b_1
def S_V44:Sig:=⟨(.pair Q7 Q14),[0,0],[],.unit,.bool,.i,fun x=>V44 big x.1 x.2.1⟩
def A_V44:Cfg:=mkCfg tab [] [(8,([B2,B2]++dr 3 [B0])),(17,[])]
noncomputable def wgx (N n:Nat) (K:T5) (a0 a1:Y4) (a5:Int):Z1:=itr A_V44 N 8 Tryz.f51 [1,1,0,1,0,0] n (([W2 a0,W2 a1]++ud 3 [W0 a5])++us 20) K
noncomputable def wyd:Ex→St→Z1:=finish A_V44 S_V44 Tryz.f51.results.toList
noncomputable def w4a (kX:T3):Z1:=kX ([]++us 26)
noncomputable def w39 (kX:T3) (kO:T1):=exK wyd 0 (A_V44.shape 17) kX kO
theorem w4b (N kX kO):∀n,wgx N n (w39 kX kO)=wr2 N (w4a kX) n :=
 itE rfl fun m=>by kernel_rfl
noncomputable def wlw (N:Nat):=(blockK 0 (sqK A_V44 N 17 500008 Tryz.f51 [1,1,1] wyd))
noncomputable def w4c (N:Nat) (st':St):Z1:=rn A_V44 N Tryz.f51 [1,1,1] st' wyd
theorem xcf (N):wgx N N (wlw N)=wr0 N:=by
 rw[show wgx N N (wlw N)=wgx N N (w39 (w4c N) fun j=>(wlw N) (.exit j)) from(by funext _ _ _;exact jky),w4b,show w4a (w4c N)=wcs by kernel_rfl];rfl
theorem run_V44 (N x):runF A_V44 N Tryz.f51 S_V44 x=V44 N x.1 x.2.1:=(show _=(wyc (wgx N N (wlw N)) x.1 x.2.1) by kernel_rfl).trans (by rw[xcf N];rfl)
theorem ok_V44:OK 51 S_V44:=gdR (A:=A_V44) tc Tryz.func51 (jeb trivial) (run_V44 big)
def wg0 (rec k:Y3→Y4→Int→Option Y2) (a0:Y3) (a1:Y4) (a5:Int):Option Y2 :=
  cond (decide (a5<(a0.length:Int)))
  ((atI a0 a5).bind fun xq1 =>
  (V42 big xq1).bind fun rq2 =>
  (V42 big a1).bind fun rq3 =>
  cond (decide (rq3.1<rq2.1))
  (rec a0 a1 (IntKind.i64.wrap (a5+1)))
  ((atI a0 a5).bind fun xq4 =>
  (V42 big xq4).bind fun rq5 =>
  (V42 big a1).bind fun rq6 =>
  cond (decide (rq5.1=rq6.1))
  ((atI a0 a5).bind fun xq7 =>
  (V43 big xq7 a1).bind fun rq8 =>
  cond rq8.1
  (rec a0 a1 (IntKind.i64.wrap (a5+1)))
  (k a0 a1 a5))
  (k a0 a1 a5)))
  (k a0 a1 a5)
def wae (a0:Y3) (a1:Y4) (a5:Int):Option Y2 :=
  cond (decide (a5<(a0.length:Int)))
  ((atI a0 a5).bind fun xq9 =>
  (V44 big xq9 a1).bind fun rq10 =>
  cond rq10.1
  (some (a0,(())))
  ((slI a0 0 a5).bind fun xq11 =>
  (appI [] xq11).bind fun xq12 =>
  (appI xq12 [a1]).bind fun xq13 =>
  (slI a0 a5 a0.length).bind fun xq14 =>
  (appI xq13 xq14).bind fun xq15 =>
  some (xq15,(()))))
  ((slI a0 0 a5).bind fun xq16 =>
  (appI [] xq16).bind fun xq17 =>
  (appI xq17 [a1]).bind fun xq18 =>
  (slI a0 a5 a0.length).bind fun xq19 =>
  (appI xq18 xq19).bind fun xq20 =>
  some (xq20,(())))
def wye (L2:Y3→Y4→Int→Option Y2) (list_0:Y3) (p_1:Y4):Option Y2 :=
  L2 list_0 p_1 0
def wr4 (N:Nat) (k:Y3→Y4→Int→Option Y2):=itN (fun r=>wg0 r k) fun _ _ _=>none
def wr3 (N:Nat):=wr4 N (wae) N
def V45 (N:Nat) (list_0:Y3) (p_1:Y4):Option Y2:=wye (wr3 N) list_0 p_1
def S_V45:Sig:=⟨(.pair Q15 Q14),[0,0],[],.unit,Q15,.i,fun x=>V45 big x.1 x.2.1⟩
def A_V45:Cfg:=mkCfg tab [(107,S_V42),(108,S_V43),(51,S_V44)] [(4,([.as Q15 .i,B2]++dr 3 [B0])),(9,([.as Q15 .i,B2]++dr 3 [B0]))]
noncomputable def wgz (N n:Nat) (K:Ex→St→Option Y2) (a0:Y3) (a1:Y4) (a5:Int):Option Y2:=itr A_V45 N 4 Tryz.f103 [1,1,0,0,0] n (([.val Q15 .i a0,W2 a1]++ud 3 [W0 a5])++us 59) K
noncomputable def wyf:Ex→St→Option Y2:=finish A_V45 S_V45 Tryz.f103.results.toList
noncomputable def w4e (kX:St→Option Y2) (a0:Y3) (a1:Y4) (a5:Int):Option Y2:=kX (([.val Q15 .i a0,W2 a1]++ud 3 [W0 a5])++us 59)
noncomputable def w4d (kX:St→Option Y2) (kO:Nat→St→Option Y2):Ex→St→Option Y2:=exK wyf 0 (A_V45.shape 9) kX kO
theorem w4f (N kX kO):∀n,wgz N n (w4d kX kO)=wr4 N (w4e kX) n :=
 itE rfl fun m=>by kernel_rfl
noncomputable def wlx (N:Nat):Ex→St→Option Y2:=(blockK 0 (sqK A_V45 N 9 500004 Tryz.f103 [1,1,1] wyf))
noncomputable def w4g (N:Nat) (st':St):Option Y2:=rn A_V45 N Tryz.f103 [1,1,1] st' wyf
theorem xcg (N):wgz N N (wlx N)=wr3 N:=by
 rw[show wgz N N (wlx N)=wgz N N (w4d (w4g N) fun j=>(wlx N) (.exit j)) from(by funext _ _ _;exact jky),w4f,show w4e (w4g N)=wae by kernel_rfl];rfl
theorem run_V45 (N x):runF A_V45 N Tryz.f103 S_V45 x=V45 N x.1 x.2.1:=(show _=(wye (wgz N N (wlx N)) x.1 x.2.1) by kernel_rfl).trans (by rw[xcg N];rfl)
theorem ok_V45:OK 103 S_V45:=gdR (A:=A_V45) tc Tryz.func103 (jeb ⟨ok_V42,ok_V43,ok_V44,trivial⟩) (run_V45 big)
def wg3 (rec:T115) (k:T77) (a1 a5:Y4) (a6:Int):Z5 :=
  cond (decide (a6<(a1.length:Int)))
  ((atI a1 a6).bind fun xq2 =>
  (V34 big a5 a6 xq2).bind fun rq3 =>
  rec a1 rq3.1 (IntKind.i64.wrap (a6+1)))
  (k a5)
def wg2 (a5:Y4):Z5 :=
  some (a5,(()))
def wyg (L3:T115) (p_0 q_1:Y4):Z5 :=
  (V36 p_0).bind fun rq1 =>
  L3 q_1 rq1.1 0
def wr6 (N:Nat) (k:T77):=itN (fun r=>wg3 r k) fun _ _ _=>none
def wr5 (N:Nat):=wr6 N (wg2) N
def V46 (N:Nat) (p_0 q_1:Y4):Z5:=wyg (wr5 N) p_0 q_1
def S_V46:Sig:=⟨(.pair Q7 Q14),[0,0],[],.unit,Q7,O4,fun x=>V46 big x.1 x.2.1⟩
def A_V46:Cfg:=mkCfg tab [(79,S_V36),(81,S_V34)] [(6,([D0,B2]++dr 3 [B3,B0])),(13,(dr 5 [B3]))]
noncomputable def wg1 (N n:Nat) (K:T72) (a1 a5:Y4) (a6:Int):Z5:=itr A_V46 N 6 Tryz.f105 [1,1,0,1,0,0] n (([.u,W2 a1]++ud 3 [W3 a5,W0 a6])++us 16) K
noncomputable def wyh:Ex→St→Z5:=finish A_V46 S_V46 Tryz.f105.results.toList
noncomputable def w4i (kX:T44) (a5:Y4):Z5:=kX ((ud 5 [W3 a5])++us 17)
noncomputable def w4h (kX:T44) (kO:T34):=exK wyh 0 (A_V46.shape 13) kX kO
theorem w4j (N kX kO):∀n,wg1 N n (w4h kX kO)=wr6 N (w4i kX) n :=
 itE rfl fun m=>by kernel_rfl
noncomputable def wly (N:Nat):=(blockK 0 (sqK A_V46 N 13 500006 Tryz.f105 [1,1,1] wyh))
noncomputable def w4k (N:Nat) (st':St):Z5:=rn A_V46 N Tryz.f105 [1,1,1] st' wyh
theorem xch (N):wg1 N N (wly N)=wr5 N:=by
 rw[show wg1 N N (wly N)=wg1 N N (w4h (w4k N) fun j=>(wly N) (.exit j)) from(by funext _ _ _;exact jky),w4j,show w4i (w4k N)=wg2 by kernel_rfl];rfl
theorem run_V46 (N x):runF A_V46 N Tryz.f105 S_V46 x=V46 N x.1 x.2.1:=(show _=(wyg (wg1 N N (wly N)) x.1 x.2.1) by kernel_rfl).trans (by rw[xch N];rfl)
theorem ok_V46:OK 105 S_V46:=gdR (A:=A_V46) tc Tryz.func105 (jeb ⟨ok_V36,ok_V34,trivial⟩) (run_V46 big)
def wcx (rec:Int→Y3→Y3→Y3→Int→Int→Int→Int→Bool→Option Y2) (k:Int→Y3→Y3→Y3→Int→Int→Int→Bool→Option Y2) (a1:Int) (a5 a8 a9:Y3) (a10 a11 a46 a47:Int) (a48:Bool):Option Y2 :=
  cond (decide (a11<(a5.length:Int)))
  (cond (decide ((a8.length:Int)≤a1))
  ((atI a9 a10).bind fun _ =>
  (a9[a10.toNat]?).bind fun xq5 =>
  (atI a5 a11).bind fun xq6 =>
  (V46 big xq5 xq6).bind fun rq7 =>
  (V45 big a8 rq7.1).bind fun rq8 =>
  cond (decide ((a8.length:Int)<(rq8.1.length:Int)))
  ((appI a9 [rq7.1]).bind fun xq9 =>
  rec a1 a5 rq8.1 xq9 a10 (IntKind.i64.wrap (a11+1)) a46 a47 a48)
  (rec a1 a5 a8 a9 a10 (IntKind.i64.wrap (a11+1)) a46 a47 a48))
  (k a1 a5 a8 a9 a10 a46 a47 a48))
  (k a1 a5 a8 a9 a10 a46 a47 a48)
def xy (rec:Int→Y3→Y3→Y3→Int→Option Y2) (a1:Int) (a5 a8 a9:Y3) (a10 a46 a47:Int) (a48:Bool):Option Y2 :=
  rec a1 a5 a8 a9 (IntKind.i64.wrap (a10+1))
def zk (L15:Int→Y3→Y3→Y3→Int→Int→Int→Int→Bool→Option Y2) (k:Y3→Option Y2) (a1:Int) (a5 a8 a9:Y3) (a10:Int):Option Y2 :=
  cond (decide (a10<(a9.length:Int)))
  (cond (decide ((a8.length:Int)≤a1))
  (L15 a1 a5 a8 a9 a10 0 (a8.length:Int) a1 (decide ((a8.length:Int)≤a1)))
  (k a8))
  (k a8)
def xe (a8:Y3):Option Y2 :=
  some (a8,(()))
def wg6 (rec:Int→Y7→Y3→Int→Int→Option Y2) (k:Int→Y7→Y3→Int→Option Y2) (a1:Int) (a2:Y7) (a5:Y3) (a6 a7:Int):Option Y2 :=
  cond (decide (a7<a6))
  ((V41 a2 a6 a7).bind fun rq3 =>
  (V45 big a5 rq3.1).bind fun rq4 =>
  rec a1 a2 rq4.1 a6 (IntKind.i64.wrap (a7+1)))
  (k a1 a2 a5 a6)
def wcw (rec:Int→Y7→Y3→Int→Option Y2) (a1:Int) (a2:Y7) (a5:Y3) (a6:Int):Option Y2 :=
  rec a1 a2 a5 (IntKind.i64.wrap (a6+1))
def wcy (L6:Int→Y7→Y3→Int→Int→Option Y2) (k:Int→Y7→Y3→Option Y2) (a1:Int) (a2:Y7) (a5:Y3) (a6:Int):Option Y2 :=
  cond (decide (a6<a2.1))
  (L6 a1 a2 a5 a6 0)
  (k a1 a2 a5)
def yi (L12:Int→Y3→Y3→Y3→Int→Option Y2) (a1:Int) (a2:Y7) (a5:Y3):Option Y2 :=
  (V33 big a2.1).bind fun rq1 =>
  (V33 big a2.1).bind fun rq2 =>
  L12 a1 a5 [rq1.1] [rq2.1] 0
def wyk (L3:Int→Y7→Y3→Int→Option Y2) (a_0:Y7) (most_1:Int):Option Y2 :=
  L3 most_1 a_0 [] 0
def wr9 (N:Nat) (k:Int→Y7→Y3→Int→Option Y2):=itN (fun r=>wg6 r k) fun _ _ _ _ _=>none
def wg4 (N:Nat) (rec:Int→Y7→Y3→Int→Option Y2) (k:Int→Y7→Y3→Option Y2):=wr9 N (wcw rec) N
def won (N:Nat) (k:Int→Y3→Y3→Y3→Int→Int→Int→Bool→Option Y2):=itN (fun r=>wcx r k) fun _ _ _ _ _ _ _ _ _=>none
def wcu (N:Nat) (rec:Int→Y3→Y3→Y3→Int→Option Y2) (k:Y3→Option Y2):=won N (xy rec) N
def wr8 (N:Nat) (k:Int→Y7→Y3→Option Y2):=itN (fun r=>wcy (wg4 N r k) k) fun _ _ _ _=>none
def wom (N:Nat) (k:Y3→Option Y2):=itN (fun r=>zk (wcu N r k) k) fun _ _ _ _ _=>none
def xd (N:Nat):=wom N (xe) N
def wr7 (N:Nat):=wr8 N (yi (xd N)) N
def V47 (N:Nat) (a_0:Y7) (most_1:Int):Option Y2:=wyk (wr7 N) a_0 most_1
def S_V47:Sig:=⟨(.pair Q2 Q24),[0,0],[],.unit,Q15,.i,fun x=>V47 big x.1 x.2.1⟩
def A_V47:Cfg:=mkCfg tab [(99,S_V33),(104,S_V41),(103,S_V45),(105,S_V46)] [(6,[D0,B0,B8,D0,D0,.as Q15 .i,B0]),(12,[D0,B0,B8,D0,D0,.as Q15 .i,B0,B0]),(19,[D0,B0,B8,D0,D0,.as Q15 .i]),(24,([D0,B0]++dr 3 [.as Q15 .i,D0,D0,.as Q15 .i,.as Q15 O4,B0])),(9,[D0,B0,B8,D0,D0,.as Q15 .i,B0]),(30,([D0,B0]++dr 3 ([.as Q15 .i,D0,D0,.as Q15 .i,.as Q15 O4,B0,B0]++dr 34 [B0,B0,B6]))),(45,(dr 8 [.as Q15 .i])),(27,([D0,B0]++dr 3 ([.as Q15 .i,D0,D0,.as Q15 .i,.as Q15 O4,B0]++dr 35 [B0,B0,B6])))]
noncomputable def waf (N n:Nat) (K:Ex→St→Option Y2) (a1:Int) (a2:Y7) (a5:Y3) (a6:Int):Option Y2:=itr A_V47 N 6 Tryz.f98 [1,1,0,1,0,0] n ([.u,W0 a1,W8 a2,.u,.u,.val Q15 .i a5,W0 a6]++us 80) K
noncomputable def wg5 (N n:Nat) (K:Ex→St→Option Y2) (a1:Int) (a2:Y7) (a5:Y3) (a6 a7:Int):Option Y2:=itr A_V47 N 12 Tryz.f98 [1,1,0,1,0,0,1,0,0,1,0,0] n ([.u,W0 a1,W8 a2,.u,.u,.val Q15 .i a5,W0 a6,W0 a7]++us 79) K
noncomputable def xx (N n:Nat) (K:Ex→St→Option Y2) (a1:Int) (a5 a8 a9:Y3) (a10:Int):Option Y2:=itr A_V47 N 24 Tryz.f98 [1,1,1,1,1,0,1,0,0] n (([.u,W0 a1]++ud 3 [.val Q15 .i a5,.u,.u,.val Q15 .i a8,.val Q15 O4 a9,W0 a10])++us 76) K
noncomputable def wcv (N n:Nat) (K:Ex→St→Option Y2) (a1:Int) (a5 a8 a9:Y3) (a10 a11 a46 a47:Int) (a48:Bool):Option Y2:=itr A_V47 N 30 Tryz.f98 [1,1,1,1,1,0,1,0,0,1,0,0,1,0,0] n (([.u,W0 a1]++ud 3 ([.val Q15 .i a5,.u,.u,.val Q15 .i a8,.val Q15 O4 a9,W0 a10,W0 a11]++ud 34 [W0 a46,W0 a47,W6 a48]))++us 38) K
noncomputable def wa4:Ex→St→Option Y2:=finish A_V47 S_V47 Tryz.f98.results.toList
noncomputable def wl1 (kX:St→Option Y2) (a1:Int) (a2:Y7) (a5:Y3):Option Y2:=kX ([.u,W0 a1,W8 a2,.u,.u,.val Q15 .i a5]++us 81)
noncomputable def wct (kX:St→Option Y2) (kO:Nat→St→Option Y2):Ex→St→Option Y2:=exK wa4 0 (A_V47.shape 19) kX kO
noncomputable def w4m (kX:St→Option Y2) (a1:Int) (a2:Y7) (a5:Y3) (a6:Int):Option Y2:=kX ([.u,W0 a1,W8 a2,.u,.u,.val Q15 .i a5,W0 a6]++us 80)
noncomputable def w4l (kX:St→Option Y2) (kO:Nat→St→Option Y2):Ex→St→Option Y2:=exK wa4 2 (A_V47.shape 9) kX kO
noncomputable def wjg (kX:St→Option Y2) (a8:Y3):Option Y2:=kX ((ud 8 [.val Q15 .i a8])++us 78)
noncomputable def zj (kX:St→Option Y2) (kO:Nat→St→Option Y2):Ex→St→Option Y2:=exK wa4 4 (A_V47.shape 45) kX kO
noncomputable def wvs (kX:St→Option Y2) (a1:Int) (a5 a8 a9:Y3) (a10 a46 a47:Int) (a48:Bool):Option Y2:=kX (([.u,W0 a1]++ud 3 ([.val Q15 .i a5,.u,.u,.val Q15 .i a8,.val Q15 O4 a9,W0 a10]++ud 35 [W0 a46,W0 a47,W6 a48]))++us 38)
noncomputable def wvr (kX:St→Option Y2) (kO:Nat→St→Option Y2):Ex→St→Option Y2:=exK wa4 6 (A_V47.shape 27) kX kO
theorem w4o (N kX kO):∀n,wg5 N n (w4l kX kO)=wr9 N (w4m kX) n :=
 itE rfl fun m=>by kernel_rfl
noncomputable def wl0 (N m:Nat) (kX:St→Option Y2) (kO:Nat→St→Option Y2):Ex→St→Option Y2:=(blockK 2 (blockK 1 (sqK A_V47 N 9 500004 Tryz.f98 [1,1,0,1,0,0,1,1] (itK A_V47 N 6 Tryz.f98 [1,1,0,1,0,0] m (wct kX kO)))))
noncomputable def w4q (N m:Nat) (kX:St→Option Y2) (kO:Nat→St→Option Y2) (st':St):Option Y2:=rn A_V47 N Tryz.f98 [1,1,0,1,0,0,1,1] st' (itK A_V47 N 6 Tryz.f98 [1,1,0,1,0,0] m (wct kX kO))
theorem xcj (N m kX kO) {r}(h:waf N m (wct kX kO)=r):wg5 N N (wl0 N m kX kO)=wg4 N r (wl1 kX):=by
 rw[show wg5 N N (wl0 N m kX kO)=wg5 N N (w4l (w4q N m kX kO) fun j=>(wl0 N m kX kO) (.exit j)) from(by funext _ _ _ _ _;exact jky),w4o,show w4m (w4q N m kX kO)=wcw (waf N m (wct kX kO)) by kernel_rfl,h];rfl
theorem w4n (N kX kO):∀n,waf N n (wct kX kO)=wr8 N (wl1 kX) n :=
 itE rfl fun m=>(show _=wcy (wg5 N N (wl0 N m kX kO)) (wl1 kX) by kernel_rfl).trans (by rw[xcj N m kX kO rfl]<;>rfl)
noncomputable def wlz (N:Nat):Ex→St→Option Y2:=(blockK 0 (sqK A_V47 N 19 500009 Tryz.f98 [1,1,1] wa4))
theorem wyj (N kX kO):∀n,wcv N n (wvr kX kO)=won N (wvs kX) n :=
 itE rfl fun m=>by kernel_rfl
noncomputable def wjf (N m:Nat) (kX:St→Option Y2) (kO:Nat→St→Option Y2):Ex→St→Option Y2:=(blockK 6 (blockK 5 (sqK A_V47 N 27 500013 Tryz.f98 [1,1,1,1,1,0,1,0,0,1,1] (itK A_V47 N 24 Tryz.f98 [1,1,1,1,1,0,1,0,0] m (zj kX kO)))))
noncomputable def wvu (N m:Nat) (kX:St→Option Y2) (kO:Nat→St→Option Y2) (st':St):Option Y2:=rn A_V47 N Tryz.f98 [1,1,1,1,1,0,1,0,0,1,1] st' (itK A_V47 N 24 Tryz.f98 [1,1,1,1,1,0,1,0,0] m (zj kX kO))
theorem w83 (N m kX kO) {r}(h:xx N m (zj kX kO)=r):wcv N N (wjf N m kX kO)=wcu N r (wjg kX):=by
 rw[show wcv N N (wjf N m kX kO)=wcv N N (wvr (wvu N m kX kO) fun j=>(wjf N m kX kO) (.exit j)) from(by funext _ _ _ _ _ _ _ _ _;exact jky),wyj,show wvs (wvu N m kX kO)=xy (xx N m (zj kX kO)) by kernel_rfl,h];rfl
theorem wyi (N kX kO):∀n,xx N n (zj kX kO)=wom N (wjg kX) n :=
 itE rfl fun m=>(show _=zk (wcv N N (wjf N m kX kO)) (wjg kX) by kernel_rfl).trans (by rw[w83 N m kX kO rfl]<;>rfl)
noncomputable def wje (N:Nat):Ex→St→Option Y2:=(blockK 4 (sqK A_V47 N 45 500022 Tryz.f98 [1,1,1,1,1,1] wa4))
noncomputable def wvt (N:Nat) (st':St):Option Y2:=rn A_V47 N Tryz.f98 [1,1,1,1,1,1] st' wa4
theorem w82 (N):xx N N (wje N)=xd N:=by
 rw[show xx N N (wje N)=xx N N (zj (wvt N) fun j=>(wje N) (.exit j)) from(by funext _ _ _ _ _;exact jky),wyi,show wjg (wvt N)=xe by kernel_rfl];rfl
noncomputable def w4p (N:Nat) (st':St):Option Y2:=rn A_V47 N Tryz.f98 [1,1,1] st' wa4
theorem xci (N):waf N N (wlz N)=wr7 N:=by
 rw[show waf N N (wlz N)=waf N N (wct (w4p N) fun j=>(wlz N) (.exit j)) from(by funext _ _ _ _;exact jky),w4n,show wl1 (w4p N)=yi (xx N N (wje N)) by kernel_rfl,w82 N];rfl
theorem run_V47 (N x):runF A_V47 N Tryz.f98 S_V47 x=V47 N x.1 x.2.1:=(show _=(wyk (waf N N (wlz N)) x.1 x.2.1) by kernel_rfl).trans (by rw[xci N];rfl)
theorem ok_V47:OK 98 S_V47:=gdR (A:=A_V47) tc Tryz.func98 (jeb ⟨ok_V33,ok_V41,ok_V45,ok_V46,trivial⟩) (run_V47 big)
def w92 (c_0:Z14) (a_1:Y7):Z12 :=
  (V30 big a_1).bind fun rq1 =>
  cond (!rq1.1)
  ((V35 big c_0 a_1.1).bind fun rq2 =>
  some (rq2.1,(rq2.2.1,())))
  ((V3 c_0 5).bind fun rq3 =>
  cond rq3.1
  ((V35 big rq3.2.1 a_1.1).bind fun rq4 =>
  some (rq4.1,(rq4.2.1,())))
  ((V47 big a_1 200).bind fun rq5 =>
  (V2 rq3.2.1 (rq5.1.length:Int)).bind fun rq6 =>
  (atI rq5.1 rq6.1).bind fun xq7 =>
  (V36 xq7).bind fun rq8 =>
  some (rq8.1,(rq6.2.1,()))))
def V48 (c_0:Z14) (a_1:Y7):Z12:=w92 c_0 a_1
def S_V48:Sig:=⟨(.pair Q1 (.pair Q2 .unit)),[1,0],[O4],Q20,Q7,O4,fun x=>V48 x.1 x.2.1⟩
def A_V48:Cfg:=mkCfg tab [(97,S_V30),(76,S_V35),(63,S_V3),(98,S_V47),(66,S_V2),(79,S_V36)] []
theorem run_V48 (N x):runF A_V48 N Tryz.f75 S_V48 x=V48 x.1 x.2.1:=by kernel_rfl
theorem ok_V48:OK 75 S_V48:=gdR (A:=A_V48) tc Tryz.func75 (jeb ⟨ok_V30,ok_V35,ok_V3,ok_V47,ok_V2,ok_V36,trivial⟩) (run_V48 big)
def w93 (c_0:Z14) (p_1:Y2):Z12 :=
  (V26 p_1).bind fun rq1 =>
  cond rq1.1
  ((V27 big p_1).bind fun rq2 =>
  (V48 c_0 rq2.1).bind fun rq3 =>
  some (rq3.1,(rq3.2.1,())))
  ((V35 big c_0 (p_1.1.length:Int)).bind fun rq4 =>
  some (rq4.1,(rq4.2.1,())))
def V49 (c_0:Z14) (p_1:Y2):Z12:=w93 c_0 p_1
def S_V49:Sig:=⟨(.pair Q1 Q22),[1,0],[O4],Q20,Q7,O4,fun x=>V49 x.1 x.2.1⟩
def A_V49:Cfg:=mkCfg tab [(24,S_V26),(26,S_V27),(75,S_V48),(76,S_V35)] []
theorem run_V49 (N x):runF A_V49 N Tryz.f43 S_V49 x=V49 x.1 x.2.1:=by kernel_rfl
theorem ok_V49:OK 43 S_V49:=gdR (A:=A_V49) tc Tryz.func43 (jeb ⟨ok_V26,ok_V27,ok_V48,ok_V35,trivial⟩) (run_V49 big)
end Go.Proofs.YteanfidobhpchaaGreat
