import Derived.Test.YtclaienmkbpkaaaGreatUBC
set_option maxRecDepth 100000
set_option linter.unusedVariables false
namespace Go.Proofs.YtclaienmkbpkaaaGreat
open Go Go.Gx Go.Proofs
def wqq (rec k:T114) (a0:Z13) (a2 a9:Y2):Z5 :=
  (V2 a0 2).bind fun rq53 =>
  cond (decide ((a9.1.length:Int)<(IntKind.i64.wrap (10+rq53.1))))
  ((appI a9.1 [[(a9.1.length:Int)]]).bind fun xq54 =>
  rec rq53.2.1 a2 (xq54,((),a9.2).2))
  (k rq53.2.1 a2 a9)
def wcq (a0:Z13) (a2 a9:Y2):Z5 :=
  some (a9,(a0,()))
def wcs (rec:T61) (k:T57) (a0:Z13) (a2:Y2) (a3:Int) (a4:Z15) (a7:Y4) (a8:Int):Z5 :=
  cond (decide (a8<(a4.length:Int)))
  ((atI a4 a8).bind fun _ =>
  (a4[a8.toNat]?).bind fun xq33 =>
  (a4[a8.toNat]?).bind fun xq34 =>
  (atI a7 xq34.1).bind fun _ =>
  (a7[xq34.1.toNat]?).bind fun xq35 =>
  (atI a4 a8).bind fun _ =>
  (a4[a8.toNat]?).bind fun xq36 =>
  (a4[a8.toNat]?).bind fun xq37 =>
  (atI a7 xq37.2.1).bind fun _ =>
  (a7[xq37.2.1.toNat]?).bind fun xq38 =>
  (atI a4 a8).bind fun _ =>
  (a4[a8.toNat]?).bind fun xq39 =>
  rec a0 a2 a3 (a4.set a8.toNat (xq35,(xq38,()))) a7 (IntKind.i64.wrap (a8+1)))
  (k a0 a2 a3 a4)
def yj (L29:T114) (a0:Z13) (a2:Y2) (a3:Int) (a4:Z15):Z5 :=
  (V9 big a3 a4).bind fun rq40 =>
  cond (decide (a3=0))
  (some (rq40.1,(a0,())))
  ((V3 a0 16).bind fun rq41 =>
  cond (!rq41.1)
  (some (rq40.1,(rq41.2.1,())))
  ((V2 rq41.2.1 a3).bind fun rq42 =>
  (V2 rq42.2.1 4).bind fun rq43 =>
  cond (decide (rq43.1=0))
  ((atI rq40.1.1 rq42.1).bind fun _ =>
  (rq40.1.1[rq42.1.toNat]?).bind fun xq44 =>
  (slI xq44 1 xq44.length).bind fun xq45 =>
  (atI rq40.1.1 rq42.1).bind fun _ =>
  (rq40.1.1[rq42.1.toNat]?).bind fun xq46 =>
  some ((rq40.1.1.set rq42.1.toNat xq45,rq40.1.2),(rq43.2.1,())))
  (cond (decide (rq43.1=1))
  ((atI rq40.1.1 rq42.1).bind fun xq47 =>
  (appI xq47 [a3]).bind fun xq48 =>
  some ((rq40.1.1.set (rq42.1).toNat xq48,rq40.1.2),(rq43.2.1,())))
  (cond (decide (rq43.1=2))
  ((atI rq40.1.1 rq42.1).bind fun _ =>
  (rq40.1.1[rq42.1.toNat]?).bind fun xq49 =>
  (V2 rq43.2.1 a3).bind fun rq50 =>
  (V10 big xq49 rq50.1).bind fun rq51 =>
  (atI rq40.1.1 rq42.1).bind fun _ =>
  (rq40.1.1[rq42.1.toNat]?).bind fun xq52 =>
  some ((rq40.1.1.set rq42.1.toNat rq51.1,rq40.1.2),(rq50.2.1,())))
  (cond (decide (rq43.1=3))
  (L29 rq43.2.1 a2 rq40.1)
  (some (rq40.1,(rq43.2.1,()))))))))
def wgz (rec:T59) (k:T22) (a0:Z13) (a2:Y2) (a3:Int) (a4:Z15) (a5 a6:Int):Z5 :=
  cond (decide (a6<a3))
  ((V3 a0 3).bind fun rq31 =>
  cond rq31.1
  ((appI a4 [(a5,(a6,()))]).bind fun xq32 =>
  rec rq31.2.1 a2 a3 xq32 a5 (IntKind.i64.wrap (a6+1)))
  (rec rq31.2.1 a2 a3 a4 a5 (IntKind.i64.wrap (a6+1))))
  (k a0 a2 a3 a4 a5)
def wcr (rec:T22) (a0:Z13) (a2:Y2) (a3:Int) (a4:Z15) (a5:Int):Z5 :=
  rec a0 a2 a3 a4 (IntKind.i64.wrap (a5+1))
def wct (L7:T59) (k:T57) (a0:Z13) (a2:Y2) (a3:Int) (a4:Z15) (a5:Int):Z5 :=
  cond (decide (a5<a3))
  (L7 a0 a2 a3 a4 a5 (IntKind.i64.wrap (a5+1)))
  (k a0 a2 a3 a4)
def yu (L14:T61) (L29:T114) (a0:Z13) (a2:Y2) (a3:Int) (a4:Z15):Z5 :=
  (V5 big a0 a3).bind fun rq2 =>
  (V8 big rq2.1 a3).bind fun rq3 =>
  cond rq3.1
  ((V3 rq2.2.1 2).bind fun rq4 =>
  cond rq4.1
  (L14 rq4.2.1 a2 a3 a4 rq2.1 0)
  ((V9 big a3 a4).bind fun rq5 =>
  cond (decide (a3=0))
  (some (rq5.1,(rq4.2.1,())))
  ((V3 rq4.2.1 16).bind fun rq6 =>
  cond (!rq6.1)
  (some (rq5.1,(rq6.2.1,())))
  ((V2 rq6.2.1 a3).bind fun rq7 =>
  (V2 rq7.2.1 4).bind fun rq8 =>
  cond (decide (rq8.1=0))
  ((atI rq5.1.1 rq7.1).bind fun _ =>
  (rq5.1.1[rq7.1.toNat]?).bind fun xq9 =>
  (slI xq9 1 xq9.length).bind fun xq10 =>
  (atI rq5.1.1 rq7.1).bind fun _ =>
  (rq5.1.1[rq7.1.toNat]?).bind fun xq11 =>
  some ((rq5.1.1.set rq7.1.toNat xq10,rq5.1.2),(rq8.2.1,())))
  (cond (decide (rq8.1=1))
  ((atI rq5.1.1 rq7.1).bind fun xq12 =>
  (appI xq12 [a3]).bind fun xq13 =>
  some ((rq5.1.1.set (rq7.1).toNat xq13,rq5.1.2),(rq8.2.1,())))
  (cond (decide (rq8.1=2))
  ((atI rq5.1.1 rq7.1).bind fun _ =>
  (rq5.1.1[rq7.1.toNat]?).bind fun xq14 =>
  (V2 rq8.2.1 a3).bind fun rq15 =>
  (V10 big xq14 rq15.1).bind fun rq16 =>
  (atI rq5.1.1 rq7.1).bind fun _ =>
  (rq5.1.1[rq7.1.toNat]?).bind fun xq17 =>
  some ((rq5.1.1.set rq7.1.toNat rq16.1,rq5.1.2),(rq15.2.1,())))
  (cond (decide (rq8.1=3))
  (L29 rq8.2.1 a2 rq5.1)
  (some (rq5.1,(rq8.2.1,()))))))))))
  ((V9 big a3 a4).bind fun rq18 =>
  cond (decide (a3=0))
  (some (rq18.1,(rq2.2.1,())))
  ((V3 rq2.2.1 16).bind fun rq19 =>
  cond (!rq19.1)
  (some (rq18.1,(rq19.2.1,())))
  ((V2 rq19.2.1 a3).bind fun rq20 =>
  (V2 rq20.2.1 4).bind fun rq21 =>
  cond (decide (rq21.1=0))
  ((atI rq18.1.1 rq20.1).bind fun _ =>
  (rq18.1.1[rq20.1.toNat]?).bind fun xq22 =>
  (slI xq22 1 xq22.length).bind fun xq23 =>
  (atI rq18.1.1 rq20.1).bind fun _ =>
  (rq18.1.1[rq20.1.toNat]?).bind fun xq24 =>
  some ((rq18.1.1.set rq20.1.toNat xq23,rq18.1.2),(rq21.2.1,())))
  (cond (decide (rq21.1=1))
  ((atI rq18.1.1 rq20.1).bind fun xq25 =>
  (appI xq25 [a3]).bind fun xq26 =>
  some ((rq18.1.1.set (rq20.1).toNat xq26,rq18.1.2),(rq21.2.1,())))
  (cond (decide (rq21.1=2))
  ((atI rq18.1.1 rq20.1).bind fun _ =>
  (rq18.1.1[rq20.1.toNat]?).bind fun xq27 =>
  (V2 rq21.2.1 a3).bind fun rq28 =>
  (V10 big xq27 rq28.1).bind fun rq29 =>
  (atI rq18.1.1 rq20.1).bind fun _ =>
  (rq18.1.1[rq20.1.toNat]?).bind fun xq30 =>
  some ((rq18.1.1.set rq20.1.toNat rq29.1,rq18.1.2),(rq28.2.1,())))
  (cond (decide (rq21.1=3))
  (L29 rq21.2.1 a2 rq18.1)
  (some (rq18.1,(rq21.2.1,())))))))))
def w10 (L4:T22) (c_0:Z13):Z5 :=
  (V4 c_0 [0,1,2,3,4,4,5,5,6,7]).bind fun rq1 =>
  L4 rq1.2.1 (([]:Y3),()) rq1.1 [] 0
def wtl (N:Nat) (k:T22):=itN (fun r=>wgz r k) fun _ _ _ _ _ _=>none
def wgx (N:Nat) (rec:T22) (k:T57):=wtl N (wcr rec) N
def wtk (N:Nat) (k:T57):=itN (fun r=>wct (wgx N r k) k) fun _ _ _ _ _=>none
def wqr (N:Nat) (k:T57):=itN (fun r=>wcs r k) fun _ _ _ _ _ _=>none
def wqs (N:Nat) (k:T114):=itN (fun r=>wqq r k) fun _ _ _=>none
def wi (N:Nat):=wqs N (wcq) N
def xp (N:Nat):=wqr N (yj (wi N)) N
def wti (N:Nat):=wtk N (yu (xp N) (wi N)) N
def V11 (N:Nat) (c_0:Z13):Z5:=w10 (wti N) c_0
def S_V11:Sig:=⟨Q20,[1],[O4],Q20,Q0,.i,fun x=>V11 big x.1⟩
def A_V11:Cfg:=hookCfg (fun i=>if i=25 then some PO.hook else none) (mkCfg tab [(48,S_V4),(64,S_V5),(65,S_V8),(40,S_V3),(67,S_V9),(41,S_V2),(125,S_V10)] [(8,[B8,D0,B2,B0,.as Q22 O4,B0]),(14,[B8,D0,B2,B0,.as Q22 O4,B0,B0]),(23,[B8,D0,B2,B0,.as Q22 O4]),(28,[B8,D0,B2,B0,.as Q22 O4,D0,D0,B1,B0]),(1000023,([B8,D0,B2]++dr 6 [.as Q7 (.o (.p O4 .i)),B0])),(1000027,([B8,D0,B2,B0]++dr 5 [.as Q7 (.o (.p O4 .i)),B0])),(58,([B8,D0,B2]++dr 6 [B2])),(11,[B8,D0,B2,B0,.as Q22 O4,B0]),(35,[B8,D0,B2,B0,.as Q22 O4]),(63,([B8,D0,B2]++dr 6 [.as Q7 (.o (.p O4 .i))]))])
noncomputable def wa5 (N n:Nat) (K:T123) (a0:Z13) (a2:Y2) (a3:Int) (a4:Z15) (a5:Int):Z5:=itr A_V11 N 8 Tryz.f86 [1,1,1,0,1,0,0] n ([.val Q1 O4 a0,.u,W2 a2,W0 a3,.val Q22 O4 a4,W0 a5]++us 141) K
noncomputable def wgy (N n:Nat) (K:T123) (a0:Z13) (a2:Y2) (a3:Int) (a4:Z15) (a5 a6:Int):Z5:=itr A_V11 N 14 Tryz.f86 [1,1,1,0,1,0,0,1,0,0,1,0,0] n ([.val Q1 O4 a0,.u,W2 a2,W0 a3,.val Q22 O4 a4,W0 a5,W0 a6]++us 140) K
noncomputable def wcp (N n:Nat) (K:T123) (a0:Z13) (a2:Y2) (a3:Int) (a4:Z15) (a7:Y4) (a8:Int):Z5:=itr A_V11 N 28 Tryz.f86 [1,1,1,1,0,1,1,0,1,0,0] n ([.val Q1 O4 a0,.u,W2 a2,W0 a3,.val Q22 O4 a4,.u,.u,W1 a7,W0 a8]++us 138) K
noncomputable def wae (N n:Nat) (K:T123) (a0:Z13) (a2 a9:Y2):Z5:=itr A_V11 N 58 Tryz.f86 [1,1,1,1,1,1,1,1,0,1,0,1,1,1,1,1,1,1,0,0,0] n (([.val Q1 O4 a0,.u,W2 a2]++ud 6 [W2 a9])++us 137) K
noncomputable def yp:Ex→St→Z5:=finish A_V11 S_V11 Tryz.f86.results.toList
noncomputable def wmg (kX:T110) (a0:Z13) (a2:Y2) (a3:Int) (a4:Z15):Z5:=kX ([.val Q1 O4 a0,.u,W2 a2,W0 a3,.val Q22 O4 a4]++us 142)
noncomputable def wcn (kX:T110) (kO:T94):=exK yp 0 (A_V11.shape 23) kX kO
noncomputable def w55 (kX:T110) (a0:Z13) (a2:Y2) (a3:Int) (a4:Z15) (a5:Int):Z5:=kX ([.val Q1 O4 a0,.u,W2 a2,W0 a3,.val Q22 O4 a4,W0 a5]++us 141)
noncomputable def w54 (kX:T110) (kO:T94):=exK yp 2 (A_V11.shape 11) kX kO
noncomputable def wzf (kX:T110) (a0:Z13) (a2:Y2) (a3:Int) (a4:Z15):Z5:=kX ([.val Q1 O4 a0,.u,W2 a2,W0 a3,.val Q22 O4 a4]++us 142)
noncomputable def wzd (kX:T110) (kO:T94):=exK yp 4 (A_V11.shape 35) kX kO
noncomputable def wzg (kX:T110) (a0:Z13) (a2 a9:Y2):Z5:=kX (([.val Q1 O4 a0,.u,W2 a2]++ud 6 [.val Q7 (.o (.p O4 .i)) a9])++us 137)
noncomputable def wze (kX:T110) (kO:T94):=exK yp 7 (A_V11.shape 63) kX kO
theorem w57 (N kX kO):∀n,wgy N n (w54 kX kO)=wtl N (w55 kX) n :=
 itE rfl fun m=>by kernel_rfl
noncomputable def wmf (N m:Nat) (kX:T110) (kO:T94):=(blockK 2 (blockK 1 (sqK A_V11 N 11 500005 Tryz.f86 [1,1,1,0,1,0,0,1,1] (itK A_V11 N 8 Tryz.f86 [1,1,1,0,1,0,0] m (wcn kX kO)))))
noncomputable def w59 (N m:Nat) (kX:T110) (kO:T94) (st':St):Z5:=rn A_V11 N Tryz.f86 [1,1,1,0,1,0,0,1,1] st' (itK A_V11 N 8 Tryz.f86 [1,1,1,0,1,0,0] m (wcn kX kO))
theorem xh6 (N m kX kO) {r}(h:wa5 N m (wcn kX kO)=r):wgy N N (wmf N m kX kO)=wgx N r (wmg kX):=by
 rw[show wgy N N (wmf N m kX kO)=wgy N N (w54 (w59 N m kX kO) fun j=>(wmf N m kX kO) (.exit j)) from(by funext _ _ _ _ _ _;exact jll),w57,show w55 (w59 N m kX kO)=wcr (wa5 N m (wcn kX kO)) by kernel_rfl,h];rfl
theorem w56 (N kX kO):∀n,wa5 N n (wcn kX kO)=wtk N (wmg kX) n :=
 itE rfl fun m=>(show _=wct (wgy N N (wmf N m kX kO)) (wmg kX) by kernel_rfl).trans (by rw[xh6 N m kX kO rfl]<;>rfl)
noncomputable def wme (N:Nat):=(blockK 0 (sqK A_V11 N 23 500011 Tryz.f86 [1,1,1,1] yp))
theorem w1y (N kX kO):∀n,wcp N n (wzd kX kO)=wqr N (wzf kX) n :=
 itE rfl fun m=>by kernel_rfl
noncomputable def wkp (N:Nat):=(blockK 4 (sqK A_V11 N 35 500017 Tryz.f86 [1,1,1,1,1] yp))
theorem w1z (N kX kO):∀n,wae N n (wze kX kO)=wqs N (wzg kX) n :=
 itE rfl fun m=>by kernel_rfl
noncomputable def wco (N:Nat):=(blockK 7 (blockK 6 (sqK A_V11 N 63 500031 Tryz.f86 [1,1,1,1,1,1,1,1,1] yp)))
noncomputable def wzi (N:Nat) (st':St):Z5:=rn A_V11 N Tryz.f86 [1,1,1,1,1,1,1,1,1] st' yp
theorem wtj (N):wae N N (wco N)=wi N:=by
 rw[show wae N N (wco N)=wae N N (wze (wzi N) fun j=>(wco N) (.exit j)) from(by funext _ _ _;exact jll),w1z,show wzg (wzi N)=wcq by kernel_rfl];rfl
noncomputable def wzh (N:Nat) (st':St):Z5:=rn A_V11 N Tryz.f86 [1,1,1,1,1] st' yp
theorem xey (N):wcp N N (wkp N)=xp N:=by
 rw[show wcp N N (wkp N)=wcp N N (wzd (wzh N) fun j=>(wkp N) (.exit j)) from(by funext _ _ _ _ _ _;exact jll),w1y,show wzf (wzh N)=yj (wae N N (wco N)) by kernel_rfl,wtj N];rfl
noncomputable def w58 (N:Nat) (st':St):Z5:=rn A_V11 N Tryz.f86 [1,1,1,1] st' yp
theorem xh5 (N):wa5 N N (wme N)=wti N:=by
 rw[show wa5 N N (wme N)=wa5 N N (wcn (w58 N) fun j=>(wme N) (.exit j)) from(by funext _ _ _ _ _;exact jll),w56,show wmg (w58 N)=yu (wcp N N (wkp N)) (wae N N (wco N)) by kernel_rfl,xey N,wtj N];rfl
theorem run_V11 (N x):runF A_V11 N Tryz.f86 S_V11 x=V11 N x.1:=(show _=(w10 (wa5 N N (wme N)) x.1) by kernel_rfl).trans (by rw[xh5 N];rfl)
theorem fn_V11:FnOk Tryz.prog 86:=⟨_,Tryz.func86,by kernel_rfl,by kernel_rfl⟩
theorem good_V11:Gx.Good Tryz.prog 86 S_V11:=jgu Tryz.func86 (of_decide_eq_true (by kernel_rfl)) fun x r h=>⟨A_V11,big,jiq (vc tabOk),jhr (jeq (show SigsOk Tryz.prog [(48,S_V4),(64,S_V5),(65,S_V8),(40,S_V3),(67,S_V9),(41,S_V2),(125,S_V10)] from⟨ok_V4,ok_V5,ok_V8,ok_V3,ok_V9,ok_V2,ok_V10,trivial⟩)),fun code hc=>jao (ids:=[25]) (fun i hi=>by simp only[List.mem_cons,List.not_mem_nil,or_false]at hi;simp[A_V11,hookCfg,hi]) fun c hm=>PO.hooks_spec_l1Cur_poset A_V11 (by rfl) code hc c hm,(run_V11 big x).trans h⟩
def xif (rec:T89) (k:T20) (a2 a3 a4 a5:Y2) (a6 a7 a8:Int) (a9:Y4) (a10 a11:Int):Z4 :=
  (atI a3.1 a8).bind fun xq3 =>
  cond (decide (a11<(xq3.length:Int)))
  ((atI a2.1 a7).bind fun xq4 =>
  (atI xq4 a10).bind fun xq5 =>
  (atI a3.1 a8).bind fun xq6 =>
  (atI xq6 a11).bind fun xq7 =>
  (appI a9 [IntKind.i64.wrap ((IntKind.i64.wrap (xq5*a6))+xq7)]).bind fun xq8 =>
  rec a2 a3 a4 a5 a6 a7 a8 xq8 a10 (IntKind.i64.wrap (a11+1)))
  (k a2 a3 a4 a5 a6 a7 a8 a9 a10)
def wz6 (rec:T20) (a2 a3 a4 a5:Y2) (a6 a7 a8:Int) (a9:Y4) (a10:Int):Z4 :=
  rec a2 a3 a4 a5 a6 a7 a8 a9 (IntKind.i64.wrap (a10+1))
def wz7 (L14:T89) (k:T75) (a2 a3 a4 a5:Y2) (a6 a7 a8:Int) (a9:Y4) (a10:Int):Z4 :=
  (atI a2.1 a7).bind fun xq1 =>
  cond (decide (a10<(xq1.length:Int)))
  (L14 a2 a3 a4 a5 a6 a7 a8 a9 a10 0)
  (k a2 a3 a4 a5 a6 a7 a8 a9)
def wz5 (rec:T81) (a2 a3 a4 a5:Y2) (a6 a7 a8:Int) (a9:Y4):Z4 :=
  (appI a5.1 [a9]).bind fun xq2 =>
  rec a2 a3 a4 (xq2,((),a5.2).2) a6 a7 (IntKind.i64.wrap (a8+1))
def w6j (L11:T20) (k:T32) (a2 a3 a4 a5:Y2) (a6 a7 a8:Int):Z4 :=
  cond (decide (a8<a6))
  (L11 a2 a3 a4 a5 a6 a7 a8 [] 0)
  (k a2 a3 a4 a5 a6 a7)
def w6h (rec:T32) (a2 a3 a4 a5:Y2) (a6 a7:Int):Z4 :=
  rec a2 a3 a4 a5 a6 (IntKind.i64.wrap (a7+1))
def w6i (L7:T81) (k:T53) (a2 a3 a4 a5:Y2) (a6 a7:Int):Z4 :=
  cond (decide (a7<(a2.1.length:Int)))
  (L7 a2 a3 a4 a5 a6 a7 0)
  (k a4 a5)
def w6g (a4 a5:Y2):Z4 :=
  some (a5,(()))
def xgf (L4:T32) (p_0 q_1:Y2):Z4 :=
  L4 p_0 q_1 (([]:Y3),()) ([],()) (q_1.1.length:Int) 0
def w0b (N:Nat) (k:T20):=itN (fun r=>xif r k) fun _ _ _ _ _ _ _ _ _ _=>none
def wz3 (N:Nat) (rec:T20) (k:T75):=w0b N (wz6 rec) N
def w0a (N:Nat) (k:T75):=itN (fun r=>wz7 (wz3 N r k) k) fun _ _ _ _ _ _ _ _ _=>none
def wz2 (N:Nat) (rec:T81) (k:T32):=w0a N (wz5 rec) N
def w6p (N:Nat) (k:T32):=itN (fun r=>w6j (wz2 N r k) k) fun _ _ _ _ _ _ _=>none
def w6f (N:Nat) (rec:T32) (k:T53):=w6p N (w6h rec) N
def w6o (N:Nat) (k:T53):=itN (fun r=>w6i (w6f N r k) k) fun _ _ _ _ _ _=>none
def w6e (N:Nat):=w6o N (w6g) N
def V12 (N:Nat) (p_0 q_1:Y2):Z4:=xgf (w6e N) p_0 q_1
def S_V12:Sig:=⟨(.pair Q0 Q15),[0,0],[],.unit,Q0,(.p O11 .i),fun x=>V12 big x.1 x.2.1⟩
def A_V12:Cfg:=mkCfg tab [] [(8,[D0,D0,B3,B3,B2,B2,B0,B0]),(14,[D0,D0,B3,B3,B2,B2,B0,B0,B0]),(37,(dr 4 [B2,B2])),(22,[D0,D0,B3,B3,B2,B2,B0,B0,B0,B1,B0]),(11,[D0,D0,B3,B3,B2,B2,B0,B0]),(28,[D0,D0,B3,B3,B2,B2,B0,B0,B0,B1,B0,B0]),(35,[D0,D0,B3,B3,B2,B2,B0,B0,B0,B1]),(25,[D0,D0,B3,B3,B2,B2,B0,B0,B0,B1,B0])]
noncomputable def wa6 (N n:Nat) (K:T44) (a2 a3 a4 a5:Y2) (a6 a7:Int):Z4:=itr A_V12 N 8 Tryz.f126 [1,1,1,0,1,0,0] n ([.u,.u,W3 a2,W3 a3,W2 a4,W2 a5,W0 a6,W0 a7]++us 71) K
noncomputable def wa7 (N n:Nat) (K:T44) (a2 a3 a4 a5:Y2) (a6 a7 a8:Int):Z4:=itr A_V12 N 14 Tryz.f126 [1,1,1,0,1,0,0,1,0,0,1,0,0] n ([.u,.u,W3 a2,W3 a3,W2 a4,W2 a5,W0 a6,W0 a7,W0 a8]++us 70) K
noncomputable def yl (N n:Nat) (K:T44) (a2 a3 a4 a5:Y2) (a6 a7 a8:Int) (a9:Y4) (a10:Int):Z4:=itr A_V12 N 22 Tryz.f126 [1,1,1,0,1,0,0,1,0,0,1,0,0,1,0,0,1,0,1,0,0] n ([.u,.u,W3 a2,W3 a3,W2 a4,W2 a5,W0 a6,W0 a7,W0 a8,W1 a9,W0 a10]++us 68) K
noncomputable def wc7 (N n:Nat) (K:T44) (a2 a3 a4 a5:Y2) (a6 a7 a8:Int) (a9:Y4) (a10 a11:Int):Z4:=itr A_V12 N 28 Tryz.f126 [1,1,1,0,1,0,0,1,0,0,1,0,0,1,0,0,1,0,1,0,0,1,0,0,1,0,0] n ([.u,.u,W3 a2,W3 a3,W2 a4,W2 a5,W0 a6,W0 a7,W0 a8,W1 a9,W0 a10,W0 a11]++us 67) K
noncomputable def wkz:Ex→St→Z4:=finish A_V12 S_V12 Tryz.f126.results.toList
noncomputable def wmk (kX:T13) (a4 a5:Y2):Z4:=kX ((ud 4 [W2 a4,W2 a5])++us 73)
noncomputable def wc5 (kX:T13) (kO:T4):=exK wkz 0 (A_V12.shape 37) kX kO
noncomputable def wml (kX:T13) (a2 a3 a4 a5:Y2) (a6 a7:Int):Z4:=kX ([.u,.u,W3 a2,W3 a3,W2 a4,W2 a5,W0 a6,W0 a7]++us 71)
noncomputable def wc6 (kX:T13) (kO:T4):=exK wkz 2 (A_V12.shape 11) kX kO
noncomputable def wky (kX:T13) (a2 a3 a4 a5:Y2) (a6 a7 a8:Int) (a9:Y4):Z4:=kX ([.u,.u,W3 a2,W3 a3,W2 a4,W2 a5,W0 a6,W0 a7,W0 a8,W1 a9]++us 69)
noncomputable def wak (kX:T13) (kO:T4):=exK wkz 4 (A_V12.shape 35) kX kO
noncomputable def wz4 (kX:T13) (a2 a3 a4 a5:Y2) (a6 a7 a8:Int) (a9:Y4) (a10:Int):Z4:=kX ([.u,.u,W3 a2,W3 a3,W2 a4,W2 a5,W0 a6,W0 a7,W0 a8,W1 a9,W0 a10]++us 68)
noncomputable def wz1 (kX:T13) (kO:T4):=exK wkz 6 (A_V12.shape 25) kX kO
theorem w18 (N kX kO):∀n,wc7 N n (wz1 kX kO)=w0b N (wz4 kX) n :=
 itE rfl fun m=>by kernel_rfl
noncomputable def wkx (N m:Nat) (kX:T13) (kO:T4):=(blockK 6 (blockK 5 (sqK A_V12 N 25 500012 Tryz.f126 [1,1,1,0,1,0,0,1,0,0,1,0,0,1,0,0,1,0,1,0,0,1,1] (itK A_V12 N 22 Tryz.f126 [1,1,1,0,1,0,0,1,0,0,1,0,0,1,0,0,1,0,1,0,0] m (wak kX kO)))))
noncomputable def wz9 (N m:Nat) (kX:T13) (kO:T4) (st':St):Z4:=rn A_V12 N Tryz.f126 [1,1,1,0,1,0,0,1,0,0,1,0,0,1,0,0,1,0,1,0,0,1,1] st' (itK A_V12 N 22 Tryz.f126 [1,1,1,0,1,0,0,1,0,0,1,0,0,1,0,0,1,0,1,0,0] m (wak kX kO))
theorem xe6 (N m kX kO) {r}(h:yl N m (wak kX kO)=r):wc7 N N (wkx N m kX kO)=wz3 N r (wky kX):=by
 rw[show wc7 N N (wkx N m kX kO)=wc7 N N (wz1 (wz9 N m kX kO) fun j=>(wkx N m kX kO) (.exit j)) from(by funext _ _ _ _ _ _ _ _ _ _;exact jll),w18,show wz4 (wz9 N m kX kO)=wz6 (yl N m (wak kX kO)) by kernel_rfl,h];rfl
theorem w17 (N kX kO):∀n,yl N n (wak kX kO)=w0a N (wky kX) n :=
 itE rfl fun m=>(show _=wz7 (wc7 N N (wkx N m kX kO)) (wky kX) by kernel_rfl).trans (by rw[xe6 N m kX kO rfl]<;>rfl)
noncomputable def wkw (N m:Nat) (kX:T13) (kO:T4):=(blockK 4 (sqK A_V12 N 35 500017 Tryz.f126 [1,1,1,0,1,0,0,1,0,0,1,0,0,1,0,0,1,1] (blockK 3 (sqK A_V12 N 17 500008 Tryz.f126 [1,1,1,0,1,0,0,1,0,0,1,0,0,1,1] (itK A_V12 N 14 Tryz.f126 [1,1,1,0,1,0,0,1,0,0,1,0,0] m (wc6 kX kO))))))
noncomputable def wz8 (N m:Nat) (kX:T13) (kO:T4) (st':St):Z4:=rn A_V12 N Tryz.f126 [1,1,1,0,1,0,0,1,0,0,1,0,0,1,0,0,1,1] st' (blockK 3 (sqK A_V12 N 17 500008 Tryz.f126 [1,1,1,0,1,0,0,1,0,0,1,0,0,1,1] (itK A_V12 N 14 Tryz.f126 [1,1,1,0,1,0,0,1,0,0,1,0,0] m (wc6 kX kO))))
theorem xe5 (N m kX kO) {r}(h:wa7 N m (wc6 kX kO)=r):yl N N (wkw N m kX kO)=wz2 N r (wml kX):=by
 rw[show yl N N (wkw N m kX kO)=yl N N (wak (wz8 N m kX kO) fun j=>(wkw N m kX kO) (.exit j)) from(by funext _ _ _ _ _ _ _ _ _;exact jll),w17,show wky (wz8 N m kX kO)=wz5 (wa7 N m (wc6 kX kO)) by kernel_rfl,h];rfl
theorem w6l (N kX kO):∀n,wa7 N n (wc6 kX kO)=w6p N (wml kX) n :=
 itE rfl fun m=>(show _=w6j (yl N N (wkw N m kX kO)) (wml kX) by kernel_rfl).trans (by rw[xe5 N m kX kO rfl]<;>rfl)
noncomputable def wmj (N m:Nat) (kX:T13) (kO:T4):=(blockK 2 (blockK 1 (sqK A_V12 N 11 500005 Tryz.f126 [1,1,1,0,1,0,0,1,1] (itK A_V12 N 8 Tryz.f126 [1,1,1,0,1,0,0] m (wc5 kX kO)))))
noncomputable def w6n (N m:Nat) (kX:T13) (kO:T4) (st':St):Z4:=rn A_V12 N Tryz.f126 [1,1,1,0,1,0,0,1,1] st' (itK A_V12 N 8 Tryz.f126 [1,1,1,0,1,0,0] m (wc5 kX kO))
theorem xih (N m kX kO) {r}(h:wa6 N m (wc5 kX kO)=r):wa7 N N (wmj N m kX kO)=w6f N r (wmk kX):=by
 rw[show wa7 N N (wmj N m kX kO)=wa7 N N (wc6 (w6n N m kX kO) fun j=>(wmj N m kX kO) (.exit j)) from(by funext _ _ _ _ _ _ _;exact jll),w6l,show wml (w6n N m kX kO)=w6h (wa6 N m (wc5 kX kO)) by kernel_rfl,h];rfl
theorem w6k (N kX kO):∀n,wa6 N n (wc5 kX kO)=w6o N (wmk kX) n :=
 itE rfl fun m=>(show _=w6i (wa7 N N (wmj N m kX kO)) (wmk kX) by kernel_rfl).trans (by rw[xih N m kX kO rfl]<;>rfl)
noncomputable def wmi (N:Nat):=(blockK 0 (sqK A_V12 N 37 500018 Tryz.f126 [1,1,1,1] wkz))
noncomputable def w6m (N:Nat) (st':St):Z4:=rn A_V12 N Tryz.f126 [1,1,1,1] st' wkz
theorem xig (N):wa6 N N (wmi N)=w6e N:=by
 rw[show wa6 N N (wmi N)=wa6 N N (wc5 (w6m N) fun j=>(wmi N) (.exit j)) from(by funext _ _ _ _ _ _;exact jll),w6k,show wmk (w6m N)=w6g by kernel_rfl];rfl
theorem run_V12 (N x):runF A_V12 N Tryz.f126 S_V12 x=V12 N x.1 x.2.1:=(show _=(xgf (wa6 N N (wmi N)) x.1 x.2.1) by kernel_rfl).trans (by rw[xig N];rfl)
theorem ok_V12:OK 126 S_V12:=gdR (A:=A_V12) tc Tryz.func126 (jeq trivial) (run_V12 big)
def xnj (k_0:Int):Z4 :=
  cond (decide (k_0=0))
  ((V9 big 1 []).bind fun rq1 =>
  some (rq1.1,(())))
  (cond (decide (k_0=1))
  ((V9 big 2 [(0,(1,()))]).bind fun rq2 =>
  some (rq2.1,(())))
  (cond (decide (k_0=2))
  ((V9 big 4 [(0,(1,())),(1,(2,())),(2,(3,()))]).bind fun rq3 =>
  some (rq3.1,(())))
  (cond (decide (k_0=3))
  ((V9 big 4 [(0,(1,())),(0,(2,())),(1,(3,())),(2,(3,()))]).bind fun rq4 =>
  some (rq4.1,(())))
  (cond (decide (k_0=4))
  ((V9 big 5 [(0,(1,())),(0,(2,())),(0,(3,())),(1,(4,())),(2,(4,())),(3,(4,()))]).bind fun rq5 =>
  some (rq5.1,(())))
  (cond (decide (k_0=5))
  ((V9 big 5 [(0,(1,())),(1,(2,())),(0,(3,())),(2,(4,())),(3,(4,()))]).bind fun rq6 =>
  some (rq6.1,(())))
  (cond (decide (k_0=6))
  ((V9 big 8 [(0,(1,())),(0,(2,())),(0,(3,())),(1,(4,())),(1,(5,())),(2,(4,())),(2,(6,())),(3,(5,())),(3,(6,())),(4,(7,())),(5,(7,())),(6,(7,()))]).bind fun rq7 =>
  some (rq7.1,(())))
  (cond (decide (k_0=7))
  ((V9 big 6 [(0,(1,())),(0,(2,())),(1,(3,())),(2,(3,())),(2,(4,())),(3,(5,())),(4,(5,()))]).bind fun rq8 =>
  some (rq8.1,(())))
  (cond (decide (k_0=8))
  ((V9 big 6 [(0,(1,())),(0,(2,())),(1,(3,())),(2,(4,())),(3,(5,())),(4,(5,()))]).bind fun rq9 =>
  some (rq9.1,(())))
  (cond (decide (k_0=9))
  ((V9 big 7 [(0,(1,())),(0,(2,())),(0,(3,())),(1,(4,())),(2,(4,())),(3,(5,())),(2,(5,())),(4,(6,())),(5,(6,()))]).bind fun rq10 =>
  some (rq10.1,(())))
  (cond (decide (k_0=10))
  ((V9 big 3 [(0,(1,())),(1,(2,()))]).bind fun rq11 =>
  (V9 big 3 [(0,(1,())),(1,(2,()))]).bind fun rq12 =>
  (V12 big rq11.1 rq12.1).bind fun rq13 =>
  some (rq13.1,(())))
  ((V9 big 3 [(0,(1,())),(1,(2,()))]).bind fun rq14 =>
  some (rq14.1,(())))))))))))))
def V13 (k_0:Int):Z4:=xnj k_0
def S_V13:Sig:=⟨Q17,[0],[],.unit,Q0,(.p O11 .i),fun x=>V13 x.1⟩
def A_V13:Cfg:=mkCfg tab [(67,S_V9),(126,S_V12)] []
theorem run_V13 (N x):runF A_V13 N Tryz.f87 S_V13 x=V13 x.1:=by kernel_rfl
theorem ok_V13:OK 87 S_V13:=gdR (A:=A_V13) tc Tryz.func87 (jeq ⟨ok_V9,ok_V12,trivial⟩) (run_V13 big)
def wg1 (rec:T119) (k:Z0) (a0:Y4) (a1 a5:Int):Z0 :=
  cond (decide (a5<(a0.length:Int)))
  ((atI a0 a5).bind fun xq1 =>
  cond (decide (xq1=a1))
  (some (true,(())))
  (rec a0 a1 (IntKind.i64.wrap (a5+1))))
  (k)
def wdc:Z0 :=
  some (false,(()))
def w2b (L2:T119) (l_0:Y4) (n_1:Int):Z0 :=
  L2 l_0 n_1 0
def wt3 (N:Nat) (k:Z0):=itN (fun r=>wg1 r k) fun _ _ _=>none
def wt2 (N:Nat):=wt3 N (wdc) N
def V14 (N:Nat) (l_0:Y4) (n_1:Int):Z0:=w2b (wt2 N) l_0 n_1
def S_V14:Sig:=⟨(.pair Q6 Q17),[0,0],[],.unit,.bool,.i,fun x=>V14 big x.1 x.2.1⟩
def A_V14:Cfg:=mkCfg tab [] [(4,([B4,B0]++dr 3 [B0])),(13,[])]
noncomputable def wg0 (N n:Nat) (K:T12) (a0:Y4) (a1 a5:Int):Z0:=itr A_V14 N 4 Tryz.f73 [1,0,1,0,0] n (([W4 a0,W0 a1]++ud 3 [W0 a5])++us 12) K
noncomputable def w2c:Ex→St→Z0:=finish A_V14 S_V14 Tryz.f73.results.toList
noncomputable def w6r (kX:T3):Z0:=kX ([]++us 18)
noncomputable def w6q (kX:T3) (kO:T2):=exK w2c 0 (A_V14.shape 13) kX kO
theorem w6s (N kX kO):∀n,wg0 N n (w6q kX kO)=wt3 N (w6r kX) n :=
 itE rfl fun m=>by kernel_rfl
noncomputable def wmn (N:Nat):=(blockK 0 (sqK A_V14 N 13 500006 Tryz.f73 [1,1] w2c))
noncomputable def w6t (N:Nat) (st':St):Z0:=rn A_V14 N Tryz.f73 [1,1] st' w2c
theorem xik (N):wg0 N N (wmn N)=wt2 N:=by
 rw[show wg0 N N (wmn N)=wg0 N N (w6q (w6t N) fun j=>(wmn N) (.exit j)) from(by funext _ _ _;exact jll),w6s,show w6r (w6t N)=wdc by kernel_rfl];rfl
theorem run_V14 (N x):runF A_V14 N Tryz.f73 S_V14 x=V14 N x.1 x.2.1:=(show _=(w2b (wg0 N N (wmn N)) x.1 x.2.1) by kernel_rfl).trans (by rw[xik N];rfl)
theorem ok_V14:OK 73 S_V14:=gdR (A:=A_V14) tc Tryz.func73 (jeq trivial) (run_V14 big)
def xgg (p_0:Y2) (x_1 y_2:Int):Z0 :=
  (atI p_0.1 y_2).bind fun xq1 =>
  (V14 big xq1 x_1).bind fun rq2 =>
  some (rq2.1,(()))
def V15 (p_0:Y2) (x_1 y_2:Int):Z0:=xgg p_0 x_1 y_2
def S_V15:Sig:=⟨(.pair Q0 Q9),[0,0,0],[],.unit,.bool,.i,fun x=>V15 x.1 x.2.1 x.2.2.1⟩
def A_V15:Cfg:=mkCfg tab [(73,S_V14)] []
theorem run_V15 (N x):runF A_V15 N Tryz.f76 S_V15 x=V15 x.1 x.2.1 x.2.2.1:=by kernel_rfl
theorem ok_V15:OK 76 S_V15:=gdR (A:=A_V15) tc Tryz.func76 (jeq ⟨ok_V14,trivial⟩) (run_V15 big)
def xgh (p_0:Y2) (x_1 y_2:Int):Z0 :=
  cond (decide (x_1≠y_2))
  ((V15 p_0 x_1 y_2).bind fun rq1 =>
  some (rq1.1,(())))
  (some (false,(())))
def V16 (p_0:Y2) (x_1 y_2:Int):Z0:=xgh p_0 x_1 y_2
def S_V16:Sig:=⟨(.pair Q0 Q9),[0,0,0],[],.unit,.bool,.i,fun x=>V16 x.1 x.2.1 x.2.2.1⟩
def A_V16:Cfg:=mkCfg tab [(76,S_V15)] []
theorem run_V16 (N x):runF A_V16 N Tryz.f140 S_V16 x=V16 x.1 x.2.1 x.2.2.1:=by kernel_rfl
theorem ok_V16:OK 140 S_V16:=gdR (A:=A_V16) tc Tryz.func140 (jeq ⟨ok_V15,trivial⟩) (run_V16 big)
def wg3 (rec:T96) (k:Z0) (a1 a2:Int) (a3:Y2) (a7:Int):Z0 :=
  cond (decide (a7<(a3.1.length:Int)))
  ((V16 a3 a1 a7).bind fun rq2 =>
  cond rq2.1
  ((V16 a3 a7 a2).bind fun rq3 =>
  cond rq3.1
  (some (false,(())))
  (rec a1 a2 a3 (IntKind.i64.wrap (a7+1))))
  (rec a1 a2 a3 (IntKind.i64.wrap (a7+1))))
  (k)
def wdd:Z0 :=
  some (true,(()))
def w2d (L4:T96) (p_0:Y2) (x_1 y_2:Int):Z0 :=
  (V16 p_0 x_1 y_2).bind fun rq1 =>
  cond (!rq1.1)
  (some (false,(())))
  (L4 x_1 y_2 p_0 0)
def wt5 (N:Nat) (k:Z0):=itN (fun r=>wg3 r k) fun _ _ _ _=>none
def wt4 (N:Nat):=wt5 N (wdd) N
def V17 (N:Nat) (p_0:Y2) (x_1 y_2:Int):Z0:=w2d (wt4 N) p_0 x_1 y_2
def S_V17:Sig:=⟨(.pair Q0 Q9),[0,0,0],[],.unit,.bool,.i,fun x=>V17 big x.1 x.2.1 x.2.2.1⟩
def A_V17:Cfg:=mkCfg tab [(140,S_V16)] [(8,([D0,B0,B0,B3]++dr 3 [B0])),(17,[])]
noncomputable def wg2 (N n:Nat) (K:T12) (a1 a2:Int) (a3:Y2) (a7:Int):Z0:=itr A_V17 N 8 Tryz.f107 [1,1,0,1,0,0] n (([.u,W0 a1,W0 a2,W3 a3]++ud 3 [W0 a7])++us 22) K
noncomputable def w2e:Ex→St→Z0:=finish A_V17 S_V17 Tryz.f107.results.toList
noncomputable def w6v (kX:T3):Z0:=kX ([]++us 30)
noncomputable def w6u (kX:T3) (kO:T2):=exK w2e 0 (A_V17.shape 17) kX kO
theorem w6w (N kX kO):∀n,wg2 N n (w6u kX kO)=wt5 N (w6v kX) n :=
 itE rfl fun m=>by kernel_rfl
noncomputable def wmo (N:Nat):=(blockK 0 (sqK A_V17 N 17 500008 Tryz.f107 [1,1,1] w2e))
noncomputable def w6x (N:Nat) (st':St):Z0:=rn A_V17 N Tryz.f107 [1,1,1] st' w2e
theorem xil (N):wg2 N N (wmo N)=wt4 N:=by
 rw[show wg2 N N (wmo N)=wg2 N N (w6u (w6x N) fun j=>(wmo N) (.exit j)) from(by funext _ _ _ _;exact jll),w6w,show w6v (w6x N)=wdd by kernel_rfl];rfl
theorem run_V17 (N x):runF A_V17 N Tryz.f107 S_V17 x=V17 N x.1 x.2.1 x.2.2.1:=(show _=(w2d (wg2 N N (wmo N)) x.1 x.2.1 x.2.2.1) by kernel_rfl).trans (by rw[xil N];rfl)
theorem ok_V17:OK 107 S_V17:=gdR (A:=A_V17) tc Tryz.func107 (jeq ⟨ok_V16,trivial⟩) (run_V17 big)
def xlf (rec:Y2→Z15→Int→Int→Z17) (k:T100) (a1:Y2) (a3:Z15) (a4 a5:Int):Z17 :=
  cond (decide (a5<(a1.1.length:Int)))
  ((V17 big a1 a4 a5).bind fun rq1 =>
  cond rq1.1
  ((appI a3 [(a4,(a5,()))]).bind fun xq2 =>
  rec a1 xq2 a4 (IntKind.i64.wrap (a5+1)))
  (rec a1 a3 a4 (IntKind.i64.wrap (a5+1))))
  (k a1 a3 a4)
def w63 (rec:T100) (a1:Y2) (a3:Z15) (a4:Int):Z17 :=
  rec a1 a3 (IntKind.i64.wrap (a4+1))
def w64 (L6:Y2→Z15→Int→Int→Z17) (k:Z15→Z17) (a1:Y2) (a3:Z15) (a4:Int):Z17 :=
  cond (decide (a4<(a1.1.length:Int)))
  (L6 a1 a3 a4 0)
  (k a3)
def w62 (a3:Z15):Z17 :=
  some (a3,(()))
def xgi (L3:T100) (p_0:Y2):Z17 :=
  L3 p_0 [] 0
def w7a (N:Nat) (k:T100):=itN (fun r=>xlf r k) fun _ _ _ _=>none
def w60 (N:Nat) (rec:T100) (k:Z15→Z17):=w7a N (w63 rec) N
def w69 (N:Nat) (k:Z15→Z17):=itN (fun r=>w64 (w60 N r k) k) fun _ _ _=>none
def w6z (N:Nat):=w69 N (w62) N
def V18 (N:Nat) (p_0:Y2):Z17:=xgi (w6z N) p_0
def S_V18:Sig:=⟨Q15,[0],[],.unit,Q22,O4,fun x=>V18 big x.1⟩
def A_V18:Cfg:=mkCfg tab [(107,S_V17)] [(6,[D0,B3,D0,.as Q22 O4,B0]),(12,[D0,B3,D0,.as Q22 O4,B0,B0]),(21,(dr 3 [.as Q22 O4])),(9,[D0,B3,D0,.as Q22 O4,B0])]
noncomputable def wa8 (N n:Nat) (K:Ex→St→Z17) (a1:Y2) (a3:Z15) (a4:Int):Z17:=itr A_V18 N 6 Tryz.f66 [1,1,0,1,0,0] n ([.u,W3 a1,.u,.val Q22 O4 a3,W0 a4]++us 27) K
noncomputable def wg4 (N n:Nat) (K:Ex→St→Z17) (a1:Y2) (a3:Z15) (a4 a5:Int):Z17:=itr A_V18 N 12 Tryz.f66 [1,1,0,1,0,0,1,0,0,1,0,0] n ([.u,W3 a1,.u,.val Q22 O4 a3,W0 a4,W0 a5]++us 26) K
noncomputable def wsa:Ex→St→Z17:=finish A_V18 S_V18 Tryz.f66.results.toList
noncomputable def wmr (kX:St→Z17) (a3:Z15):Z17:=kX ((ud 3 [.val Q22 O4 a3])++us 28)
noncomputable def wde (kX:St→Z17) (kO:Nat→St→Z17):=exK wsa 0 (A_V18.shape 21) kX kO
noncomputable def w61 (kX:St→Z17) (a1:Y2) (a3:Z15) (a4:Int):Z17:=kX ([.u,W3 a1,.u,.val Q22 O4 a3,W0 a4]++us 27)
noncomputable def w6y (kX:St→Z17) (kO:Nat→St→Z17):=exK wsa 2 (A_V18.shape 9) kX kO
theorem w66 (N kX kO):∀n,wg4 N n (w6y kX kO)=w7a N (w61 kX) n :=
 itE rfl fun m=>by kernel_rfl
noncomputable def wmq (N m:Nat) (kX:St→Z17) (kO:Nat→St→Z17):=(blockK 2 (blockK 1 (sqK A_V18 N 9 500004 Tryz.f66 [1,1,0,1,0,0,1,1] (itK A_V18 N 6 Tryz.f66 [1,1,0,1,0,0] m (wde kX kO)))))
noncomputable def w68 (N m:Nat) (kX:St→Z17) (kO:Nat→St→Z17) (st':St):Z17:=rn A_V18 N Tryz.f66 [1,1,0,1,0,0,1,1] st' (itK A_V18 N 6 Tryz.f66 [1,1,0,1,0,0] m (wde kX kO))
theorem xin (N m kX kO) {r}(h:wa8 N m (wde kX kO)=r):wg4 N N (wmq N m kX kO)=w60 N r (wmr kX):=by
 rw[show wg4 N N (wmq N m kX kO)=wg4 N N (w6y (w68 N m kX kO) fun j=>(wmq N m kX kO) (.exit j)) from(by funext _ _ _ _;exact jll),w66,show w61 (w68 N m kX kO)=w63 (wa8 N m (wde kX kO)) by kernel_rfl,h];rfl
theorem w65 (N kX kO):∀n,wa8 N n (wde kX kO)=w69 N (wmr kX) n :=
 itE rfl fun m=>(show _=w64 (wg4 N N (wmq N m kX kO)) (wmr kX) by kernel_rfl).trans (by rw[xin N m kX kO rfl]<;>rfl)
noncomputable def wmp (N:Nat):=(blockK 0 (sqK A_V18 N 21 500010 Tryz.f66 [1,1,1] wsa))
noncomputable def w67 (N:Nat) (st':St):Z17:=rn A_V18 N Tryz.f66 [1,1,1] st' wsa
theorem xim (N):wa8 N N (wmp N)=w6z N:=by
 rw[show wa8 N N (wmp N)=wa8 N N (wde (w67 N) fun j=>(wmp N) (.exit j)) from(by funext _ _ _;exact jll),w65,show wmr (w67 N)=w62 by kernel_rfl];rfl
theorem run_V18 (N x):runF A_V18 N Tryz.f66 S_V18 x=V18 N x.1:=(show _=(xgi (wa8 N N (wmp N)) x.1) by kernel_rfl).trans (by rw[xim N];rfl)
theorem ok_V18:OK 66 S_V18:=gdR (A:=A_V18) tc Tryz.func66 (jeq ⟨ok_V17,trivial⟩) (run_V18 big)
def wg6 (rec:T8) (k:T82) (a0:Z13) (a2 a3:Y2) (a4:Int) (a5:Y4) (a6:Z15) (a7:Int):Z5 :=
  cond (decide (a7<(a6.length:Int)))
  ((atI a6 a7).bind fun _ =>
  (a6[a7.toNat]?).bind fun xq9 =>
  (a6[a7.toNat]?).bind fun xq10 =>
  (atI a5 xq10.1).bind fun _ =>
  (a5[xq10.1.toNat]?).bind fun xq11 =>
  (atI a6 a7).bind fun _ =>
  (a6[a7.toNat]?).bind fun xq12 =>
  (a6[a7.toNat]?).bind fun xq13 =>
  (atI a5 xq13.2.1).bind fun _ =>
  (a5[xq13.2.1.toNat]?).bind fun xq14 =>
  (atI a6 a7).bind fun _ =>
  (a6[a7.toNat]?).bind fun xq15 =>
  rec a0 a2 a3 a4 a5 (a6.set a7.toNat (xq11,(xq14,()))) (IntKind.i64.wrap (a7+1)))
  (k a0 a2 a3 a4 a6)
def wdf (a0:Z13) (a2 a3:Y2) (a4:Int) (a6:Z15):Z5 :=
  (V9 big a4 a6).bind fun rq16 =>
  some (rq16.1,(a0,()))
def w2f (L9:T8) (c_0:Z13):Z5 :=
  (V3 c_0 10).bind fun rq1 =>
  cond rq1.1
  ((V11 big rq1.2.1).bind fun rq2 =>
  some (rq2.1,(rq2.2.1,())))
  ((V2 rq1.2.1 12).bind fun rq3 =>
  (V13 rq3.1).bind fun rq4 =>
  (V5 big rq3.2.1 (rq4.1.1.length:Int)).bind fun rq5 =>
  (V8 big rq5.1 (rq4.1.1.length:Int)).bind fun rq6 =>
  cond rq6.1
  ((V3 rq5.2.1 2).bind fun rq7 =>
  cond rq7.1
  ((V18 big rq4.1).bind fun rq8 =>
  L9 rq7.2.1 (([]:Y3),()) rq4.1 (rq4.1.1.length:Int) rq5.1 rq8.1 0)
  (some (rq4.1,(rq7.2.1,()))))
  (some (rq4.1,(rq5.2.1,()))))
def wt7 (N:Nat) (k:T82):=itN (fun r=>wg6 r k) fun _ _ _ _ _ _ _=>none
def wt6 (N:Nat):=wt7 N (wdf) N
def V19 (N:Nat) (c_0:Z13):Z5:=w2f (wt6 N) c_0
def S_V19:Sig:=⟨Q20,[1],[O4],Q20,Q0,.i,fun x=>V19 big x.1⟩
def A_V19:Cfg:=mkCfg tab [(40,S_V3),(86,S_V11),(41,S_V2),(87,S_V13),(64,S_V5),(65,S_V8),(66,S_V18),(67,S_V9)] [(18,[B8,D0,B2,B2,B0,B1,.as Q22 O4,B0]),(25,[B8,D0,B2,B2,B0,D0,.as Q22 O4])]
noncomputable def wg5 (N n:Nat) (K:T123) (a0:Z13) (a2 a3:Y2) (a4:Int) (a5:Y4) (a6:Z15) (a7:Int):Z5:=itr A_V19 N 18 Tryz.f44 [1,1,1,1,0,1,1,0,1,0,1,0,0] n ([.val Q1 O4 a0,.u,W2 a2,W2 a3,W0 a4,W1 a5,.val Q22 O4 a6,W0 a7]++us 52) K
noncomputable def w2g:Ex→St→Z5:=finish A_V19 S_V19 Tryz.f44.results.toList
noncomputable def w7c (kX:T110) (a0:Z13) (a2 a3:Y2) (a4:Int) (a6:Z15):Z5:=kX ([.val Q1 O4 a0,.u,W2 a2,W2 a3,W0 a4,.u,.val Q22 O4 a6]++us 53)
noncomputable def w7b (kX:T110) (kO:T94):=exK w2g 0 (A_V19.shape 25) kX kO
theorem w7d (N kX kO):∀n,wg5 N n (w7b kX kO)=wt7 N (w7c kX) n :=
 itE rfl fun m=>by kernel_rfl
noncomputable def wms (N:Nat):=(blockK 0 (sqK A_V19 N 25 500012 Tryz.f44 [1,1,1,1,0,1,1,0,1,1] (sqK A_V19 N 27 500013 Tryz.f44 [1,1,1,1,1] w2g)))
noncomputable def w7e (N:Nat) (st':St):Z5:=rn A_V19 N Tryz.f44 [1,1,1,1,0,1,1,0,1,1] st' (sqK A_V19 N 27 500013 Tryz.f44 [1,1,1,1,1] w2g)
theorem xio (N):wg5 N N (wms N)=wt6 N:=by
 rw[show wg5 N N (wms N)=wg5 N N (w7b (w7e N) fun j=>(wms N) (.exit j)) from(by funext _ _ _ _ _ _ _;exact jll),w7d,show w7c (w7e N)=wdf by kernel_rfl];rfl
theorem run_V19 (N x):runF A_V19 N Tryz.f44 S_V19 x=V19 N x.1:=(show _=(w2f (wg5 N N (wms N)) x.1) by kernel_rfl).trans (by rw[xio N];rfl)
theorem ok_V19:OK 44 S_V19:=gdR (A:=A_V19) tc Tryz.func44 (jeq ⟨ok_V3,⟨fn_V11,good_V11⟩,ok_V2,ok_V13,ok_V5,ok_V8,ok_V18,ok_V9,trivial⟩) (run_V19 big)
def xlh (rec:T101) (k:T120) (a0 a1 a5:Int):Z6 :=
  cond (decide (0<a1))
  (rec a0 (IntKind.i64.wrap (a1-1)) (IntKind.i64.wrap (a5*a0)))
  (k a5)
def w7i (a5:Int):Z6 :=
  some (a5,(()))
def xgj (L2:T101) (n_0 k_1:Int):Z6 :=
  L2 n_0 k_1 1
def w7l (N:Nat) (k:T120):=itN (fun r=>xlh r k) fun _ _ _=>none
def w7g (N:Nat):=w7l N (w7i) N
def V20 (N:Nat) (n_0 k_1:Int):Z6:=xgj (w7g N) n_0 k_1
def S_V20:Sig:=⟨Q9,[0,0],[],.unit,I,.i,fun x=>V20 big x.1 x.2.1⟩
def A_V20:Cfg:=mkCfg tab [] [(4,([B0,B0]++dr 3 [B0])),(11,(dr 5 [B0]))]
noncomputable def wg7 (N n:Nat) (K:T83) (a0 a1 a5:Int):Z6:=itr A_V20 N 4 Tryz.f109 [1,1,0,0,0] n (([W0 a0,W0 a1]++ud 3 [W0 a5])++us 8) K
noncomputable def w2h:Ex→St→Z6:=finish A_V20 S_V20 Tryz.f109.results.toList
noncomputable def w7h (kX:T55) (a5:Int):Z6:=kX ((ud 5 [W0 a5])++us 8)
noncomputable def w7f (kX:T55) (kO:T45):=exK w2h 0 (A_V20.shape 11) kX kO
theorem w7j (N kX kO):∀n,wg7 N n (w7f kX kO)=w7l N (w7h kX) n :=
 itE rfl fun m=>by kernel_rfl
noncomputable def wmt (N:Nat):=(blockK 0 (sqK A_V20 N 11 500005 Tryz.f109 [1,1,1] w2h))
noncomputable def w7k (N:Nat) (st':St):Z6:=rn A_V20 N Tryz.f109 [1,1,1] st' w2h
theorem xip (N):wg7 N N (wmt N)=w7g N:=by
 rw[show wg7 N N (wmt N)=wg7 N N (w7f (w7k N) fun j=>(wmt N) (.exit j)) from(by funext _ _ _;exact jll),w7j,show w7h (w7k N)=w7i by kernel_rfl];rfl
theorem run_V20 (N x):runF A_V20 N Tryz.f109 S_V20 x=V20 N x.1 x.2.1:=(show _=(xgj (wg7 N N (wmt N)) x.1 x.2.1) by kernel_rfl).trans (by rw[xip N];rfl)
theorem ok_V20:OK 109 S_V20:=gdR (A:=A_V20) tc Tryz.func109 (jeq trivial) (run_V20 big)
def xli (rec:Int→Y2→Y2→Int→Y4→Int→Z4) (k:Int→Y2→Y2→Int→Y4→Z4) (a0:Int) (a2 a3:Y2) (a4:Int) (a5:Y4) (a6:Int):Z4 :=
  cond (decide (a6≤a4))
  (cond (decide ((bitI .and IntKind.i64 a6 a4)=a6))
  ((appI a5 [a6]).bind fun xq2 =>
  rec a0 a2 a3 a4 xq2 (IntKind.i64.wrap (a6+1)))
  (rec a0 a2 a3 a4 a5 (IntKind.i64.wrap (a6+1))))
  (k a0 a2 a3 a4 a5)
def w7r (rec:T124) (a0:Int) (a2 a3:Y2) (a4:Int) (a5:Y4):Z4 :=
  (appI a3.1 [a5]).bind fun xq3 =>
  rec a0 a2 (xq3,((),a3.2).2) (IntKind.i64.wrap (a4+1))
def w7s (L7:Int→Y2→Y2→Int→Y4→Int→Z4) (k:T53) (a0:Int) (a2 a3:Y2) (a4:Int):Z4 :=
  (V20 big 2 a0).bind fun rq1 =>
  cond (decide (a4<rq1.1))
  (L7 a0 a2 a3 a4 [] 0)
  (k a2 a3)
def w7q (a2 a3:Y2):Z4 :=
  some (a3,(()))
def xgk (L3:T124) (k_0:Int):Z4 :=
  L3 k_0 (([]:Y3),()) ([],()) 0
def w7y (N:Nat) (k:Int→Y2→Y2→Int→Y4→Z4):=itN (fun r=>xli r k) fun _ _ _ _ _ _=>none
def w7o (N:Nat) (rec:T124) (k:T53):=w7y N (w7r rec) N
def w7x (N:Nat) (k:T53):=itN (fun r=>w7s (w7o N r k) k) fun _ _ _ _=>none
def w7n (N:Nat):=w7x N (w7q) N
def V21 (N:Nat) (k_0:Int):Z4:=xgk (w7n N) k_0
def S_V21:Sig:=⟨Q17,[0],[],.unit,Q0,(.p O11 .i),fun x=>V21 big x.1⟩
def A_V21:Cfg:=mkCfg tab [(109,S_V20)] [(6,[B0,D0,B2,B2,B0]),(14,[B0,D0,B2,B2,B0,B1,B0]),(25,[D0,D0,B2,B2]),(23,[B0,D0,B2,B2,B0,B1])]
noncomputable def wa9 (N n:Nat) (K:T44) (a0:Int) (a2 a3:Y2) (a4:Int):Z4:=itr A_V21 N 6 Tryz.f63 [1,1,0,1,0,0] n ([W0 a0,.u,W2 a2,W2 a3,W0 a4]++us 32) K
noncomputable def wg8 (N n:Nat) (K:T44) (a0:Int) (a2 a3:Y2) (a4:Int) (a5:Y4) (a6:Int):Z4:=itr A_V21 N 14 Tryz.f63 [1,1,0,1,0,0,1,0,0,1,0,1,0,0] n ([W0 a0,.u,W2 a2,W2 a3,W0 a4,W1 a5,W0 a6]++us 30) K
noncomputable def wsb:Ex→St→Z4:=finish A_V21 S_V21 Tryz.f63.results.toList
noncomputable def wmw (kX:T13) (a2 a3:Y2):Z4:=kX ([.u,.u,W2 a2,W2 a3]++us 33)
noncomputable def wdg (kX:T13) (kO:T4):=exK wsb 0 (A_V21.shape 25) kX kO
noncomputable def w7p (kX:T13) (a0:Int) (a2 a3:Y2) (a4:Int) (a5:Y4):Z4:=kX ([W0 a0,.u,W2 a2,W2 a3,W0 a4,W1 a5]++us 31)
noncomputable def w7m (kX:T13) (kO:T4):=exK wsb 2 (A_V21.shape 23) kX kO
theorem w7u (N kX kO):∀n,wg8 N n (w7m kX kO)=w7y N (w7p kX) n :=
 itE rfl fun m=>by kernel_rfl
noncomputable def wmv (N m:Nat) (kX:T13) (kO:T4):=(blockK 2 (sqK A_V21 N 23 500011 Tryz.f63 [1,1,0,1,0,0,1,0,0,1,1] (blockK 1 (sqK A_V21 N 9 500004 Tryz.f63 [1,1,0,1,0,0,1,1] (itK A_V21 N 6 Tryz.f63 [1,1,0,1,0,0] m (wdg kX kO))))))
noncomputable def w7w (N m:Nat) (kX:T13) (kO:T4) (st':St):Z4:=rn A_V21 N Tryz.f63 [1,1,0,1,0,0,1,0,0,1,1] st' (blockK 1 (sqK A_V21 N 9 500004 Tryz.f63 [1,1,0,1,0,0,1,1] (itK A_V21 N 6 Tryz.f63 [1,1,0,1,0,0] m (wdg kX kO))))
theorem xir (N m kX kO) {r}(h:wa9 N m (wdg kX kO)=r):wg8 N N (wmv N m kX kO)=w7o N r (wmw kX):=by
 rw[show wg8 N N (wmv N m kX kO)=wg8 N N (w7m (w7w N m kX kO) fun j=>(wmv N m kX kO) (.exit j)) from(by funext _ _ _ _ _ _;exact jll),w7u,show w7p (w7w N m kX kO)=w7r (wa9 N m (wdg kX kO)) by kernel_rfl,h];rfl
theorem w7t (N kX kO):∀n,wa9 N n (wdg kX kO)=w7x N (wmw kX) n :=
 itE rfl fun m=>(show _=w7s (wg8 N N (wmv N m kX kO)) (wmw kX) by kernel_rfl).trans (by rw[xir N m kX kO rfl]<;>rfl)
noncomputable def wmu (N:Nat):=(blockK 0 (sqK A_V21 N 25 500012 Tryz.f63 [1,1,1] wsb))
noncomputable def w7v (N:Nat) (st':St):Z4:=rn A_V21 N Tryz.f63 [1,1,1] st' wsb
theorem xiq (N):wa9 N N (wmu N)=w7n N:=by
 rw[show wa9 N N (wmu N)=wa9 N N (wdg (w7v N) fun j=>(wmu N) (.exit j)) from(by funext _ _ _ _;exact jll),w7t,show wmw (w7v N)=w7q by kernel_rfl];rfl
theorem run_V21 (N x):runF A_V21 N Tryz.f63 S_V21 x=V21 N x.1:=(show _=(xgk (wa9 N N (wmu N)) x.1) by kernel_rfl).trans (by rw[xiq N];rfl)
theorem ok_V21:OK 63 S_V21:=gdR (A:=A_V21) tc Tryz.func63 (jeq ⟨ok_V20,trivial⟩) (run_V21 big)
def wha (rec:T8) (k:T82) (a0:Z13) (a2 a3:Y2) (a4:Int) (a5:Y4) (a6:Z15) (a7:Int):Z5 :=
  cond (decide (a7<(a6.length:Int)))
  ((atI a6 a7).bind fun _ =>
  (a6[a7.toNat]?).bind fun xq8 =>
  (a6[a7.toNat]?).bind fun xq9 =>
  (atI a5 xq9.1).bind fun _ =>
  (a5[xq9.1.toNat]?).bind fun xq10 =>
  (atI a6 a7).bind fun _ =>
  (a6[a7.toNat]?).bind fun xq11 =>
  (a6[a7.toNat]?).bind fun xq12 =>
  (atI a5 xq12.2.1).bind fun _ =>
  (a5[xq12.2.1.toNat]?).bind fun xq13 =>
  (atI a6 a7).bind fun _ =>
  (a6[a7.toNat]?).bind fun xq14 =>
  rec a0 a2 a3 a4 a5 (a6.set a7.toNat (xq10,(xq13,()))) (IntKind.i64.wrap (a7+1)))
  (k a0 a2 a3 a4 a6)
def wdh (a0:Z13) (a2 a3:Y2) (a4:Int) (a6:Z15):Z5 :=
  (V9 big a4 a6).bind fun rq15 =>
  some (rq15.1,(a0,()))
def w2i (L9:T8) (c_0:Z13):Z5 :=
  (V3 c_0 6).bind fun rq1 =>
  cond rq1.1
  ((V19 big rq1.2.1).bind fun rq2 =>
  some (rq2.1,(rq2.2.1,())))
  ((V4 rq1.2.1 [2,2,3,3,1,0]).bind fun rq3 =>
  (V21 big rq3.1).bind fun rq4 =>
  (V5 big rq3.2.1 (rq4.1.1.length:Int)).bind fun rq5 =>
  (V8 big rq5.1 (rq4.1.1.length:Int)).bind fun rq6 =>
  cond rq6.1
  ((V18 big rq4.1).bind fun rq7 =>
  L9 rq5.2.1 (([]:Y3),()) rq4.1 (rq4.1.1.length:Int) rq5.1 rq7.1 0)
  (some (rq4.1,(rq5.2.1,()))))
def wt9 (N:Nat) (k:T82):=itN (fun r=>wha r k) fun _ _ _ _ _ _ _=>none
def wt8 (N:Nat):=wt9 N (wdh) N
def V22 (N:Nat) (c_0:Z13):Z5:=w2i (wt8 N) c_0
def S_V22:Sig:=⟨Q20,[1],[O4],Q20,Q0,.i,fun x=>V22 big x.1⟩
def A_V22:Cfg:=mkCfg tab [(40,S_V3),(44,S_V19),(48,S_V4),(63,S_V21),(64,S_V5),(65,S_V8),(66,S_V18),(67,S_V9)] [(18,[B8,D0,B2,B2,B0,B1,.as Q22 O4,B0]),(25,[B8,D0,B2,B2,B0,D0,.as Q22 O4])]
noncomputable def wg9 (N n:Nat) (K:T123) (a0:Z13) (a2 a3:Y2) (a4:Int) (a5:Y4) (a6:Z15) (a7:Int):Z5:=itr A_V22 N 18 Tryz.f26 [1,1,1,1,0,1,1,0,1,0,1,0,0] n ([.val Q1 O4 a0,.u,W2 a2,W2 a3,W0 a4,W1 a5,.val Q22 O4 a6,W0 a7]++us 49) K
noncomputable def w2j:Ex→St→Z5:=finish A_V22 S_V22 Tryz.f26.results.toList
noncomputable def w70 (kX:T110) (a0:Z13) (a2 a3:Y2) (a4:Int) (a6:Z15):Z5:=kX ([.val Q1 O4 a0,.u,W2 a2,W2 a3,W0 a4,.u,.val Q22 O4 a6]++us 50)
noncomputable def w7z (kX:T110) (kO:T94):=exK w2j 0 (A_V22.shape 25) kX kO
theorem w71 (N kX kO):∀n,wg9 N n (w7z kX kO)=wt9 N (w70 kX) n :=
 itE rfl fun m=>by kernel_rfl
noncomputable def wmx (N:Nat):=(blockK 0 (sqK A_V22 N 25 500012 Tryz.f26 [1,1,1,1,0,1,1,0,1,1] (sqK A_V22 N 27 500013 Tryz.f26 [1,1,1,1,1] w2j)))
noncomputable def w72 (N:Nat) (st':St):Z5:=rn A_V22 N Tryz.f26 [1,1,1,1,0,1,1,0,1,1] st' (sqK A_V22 N 27 500013 Tryz.f26 [1,1,1,1,1] w2j)
theorem xis (N):wg9 N N (wmx N)=wt8 N:=by
 rw[show wg9 N N (wmx N)=wg9 N N (w7z (w72 N) fun j=>(wmx N) (.exit j)) from(by funext _ _ _ _ _ _ _;exact jll),w71,show w70 (w72 N)=wdh by kernel_rfl];rfl
theorem run_V22 (N x):runF A_V22 N Tryz.f26 S_V22 x=V22 N x.1:=(show _=(w2i (wg9 N N (wmx N)) x.1) by kernel_rfl).trans (by rw[xis N];rfl)
theorem ok_V22:OK 26 S_V22:=gdR (A:=A_V22) tc Tryz.func26 (jeq ⟨ok_V3,ok_V19,ok_V4,ok_V21,ok_V5,ok_V8,ok_V18,ok_V9,trivial⟩) (run_V22 big)
def xgl (c_0:Z13) (p_1:Y2):Option (Int×(Z13×Unit)) :=
  cond (decide ((p_1.1.length:Int)=0))
  ((V4 c_0 [(-1:Int),(p_1.1.length:Int)]).bind fun rq1 =>
  some (rq1.1,(rq1.2.1,())))
  ((V3 c_0 24).bind fun rq2 =>
  cond rq2.1
  ((V4 rq2.2.1 [(-1:Int),(p_1.1.length:Int)]).bind fun rq3 =>
  some (rq3.1,(rq3.2.1,())))
  ((V2 rq2.2.1 (p_1.1.length:Int)).bind fun rq4 =>
  some (rq4.1,(rq4.2.1,()))))
def V23 (c_0:Z13) (p_1:Y2):Option (Int×(Z13×Unit)):=xgl c_0 p_1
def S_V23:Sig:=⟨(.pair Q1 Q15),[1,0],[O4],Q20,I,.i,fun x=>V23 x.1 x.2.1⟩
def A_V23:Cfg:=mkCfg tab [(48,S_V4),(40,S_V3),(41,S_V2)] []
theorem run_V23 (N x):runF A_V23 N Tryz.f27 S_V23 x=V23 x.1 x.2.1:=by kernel_rfl
theorem ok_V23:OK 27 S_V23:=gdR (A:=A_V23) tc Tryz.func27 (jeq ⟨ok_V4,ok_V3,ok_V2,trivial⟩) (run_V23 big)
def xgm (code_0:Y4):Option ((Y2×(Int×Unit))×Unit) :=
  (V22 big (code_0,(0,(0,())))).bind fun rq1 =>
  (V23 rq1.2.1 rq1.1).bind fun rq2 =>
  some ((rq1.1,rq2.1,()),(()))
def V24 (code_0:Y4):Option ((Y2×(Int×Unit))×Unit):=xgm code_0
def S_V24:Sig:=⟨Q19,[0],[],.unit,(.tup (.pair Q0 Q17)),.i,fun x=>V24 x.1⟩
def A_V24:Cfg:=mkCfg tab [(26,S_V22),(27,S_V23)] []
theorem run_V24 (N x):runF A_V24 N Tryz.f5 S_V24 x=V24 x.1:=by kernel_rfl
theorem ok_V24:OK 5 S_V24:=gdR (A:=A_V24) tc Tryz.func5 (jeq ⟨ok_V22,ok_V23,trivial⟩) (run_V24 big)
def whc (rec:T95) (k:Y5→Z14) (a0:Int) (a3:Y5) (a8 a9:Int):Z14 :=
  cond (decide (a9<a8))
  ((mkI false a0).bind fun xq3=>(mkI false a0).bind fun xq4=>cond (decide (a0≤a0))
  ((atI a3 a9).bind fun _ =>
  (a3[a9.toNat]?).bind fun xq5 =>
  rec a0 (a3.set a9.toNat xq4) a8 (IntKind.i64.wrap (a9+1)))
  none)
  (k a3)
def wdi (a3:Y5):Z14 :=
  some (a3,(()))
def w2k (L3:T95) (n_0:Int):Z14 :=
  (mkI ([]:(List Bool)) n_0).bind fun xq1=>(mkI ([]:(List Bool)) n_0).bind fun xq2=>cond (decide (n_0≤n_0))
  (L3 n_0 xq2 (xq2.length:Int) 0)
  none
def wub (N:Nat) (k:Y5→Z14):=itN (fun r=>whc r k) fun _ _ _ _=>none
def wua (N:Nat):=wub N (wdi) N
def V25 (N:Nat) (n_0:Int):Z14:=w2k (wua N) n_0
def S_V25:Sig:=⟨Q17,[0],[],.unit,Q8,O11,fun x=>V25 big x.1⟩
def A_V25:Cfg:=mkCfg tab [] [(6,([B0,D0,D0,B6]++dr 4 [B0,B0])),(15,(dr 3 [B6]))]
noncomputable def whb (N n:Nat) (K:Ex→St→Z14) (a0:Int) (a3:Y5) (a8 a9:Int):Z14:=itr A_V25 N 6 Tryz.f128 [1,1,0,1,0,0] n (([W0 a0,.u,.u,W6 a3]++ud 4 [W0 a8,W0 a9])++us 9) K
noncomputable def w2l:Ex→St→Z14:=finish A_V25 S_V25 Tryz.f128.results.toList
noncomputable def w74 (kX:St→Z14) (a3:Y5):Z14:=kX ((ud 3 [W6 a3])++us 15)
noncomputable def w73 (kX:St→Z14) (kO:T129):=exK w2l 0 (A_V25.shape 15) kX kO
theorem w75 (N kX kO):∀n,whb N n (w73 kX kO)=wub N (w74 kX) n :=
 itE rfl fun m=>by kernel_rfl
noncomputable def wmy (N:Nat):=(blockK 0 (sqK A_V25 N 15 500007 Tryz.f128 [1,1,1] w2l))
noncomputable def w76 (N:Nat) (st':St):Z14:=rn A_V25 N Tryz.f128 [1,1,1] st' w2l
theorem xit (N):whb N N (wmy N)=wua N:=by
 rw[show whb N N (wmy N)=whb N N (w73 (w76 N) fun j=>(wmy N) (.exit j)) from(by funext _ _ _ _;exact jll),w75,show w74 (w76 N)=wdi by kernel_rfl];rfl
theorem run_V25 (N x):runF A_V25 N Tryz.f128 S_V25 x=V25 N x.1:=(show _=(w2k (whb N N (wmy N)) x.1) by kernel_rfl).trans (by rw[xit N];rfl)
theorem ok_V25:OK 128 S_V25:=gdR (A:=A_V25) tc Tryz.func128 (jeq trivial) (run_V25 big)
def wuf (rec:Y4→Int→Z0) (k:Z0) (a0:Y4) (a3:Int):Z0 :=
  cond (decide (a3<(a0.length:Int)))
  ((atI a0 (IntKind.i64.wrap (a3-1))).bind fun xq1 =>
  (atI a0 a3).bind fun xq2 =>
  cond (decide (xq2≤xq1))
  (some (false,(())))
  (rec a0 (IntKind.i64.wrap (a3+1))))
  (k)
def wue:Z0 :=
  some (true,(()))
def w2m (L2:Y4→Int→Z0) (list_0:Y4):Z0 :=
  L2 list_0 1
def whd (N:Nat) (k:Z0):Nat→Y4→Int→Z0
  | 0,_,_=>none
  | m+1,a0,a3=>wuf (whd N k m) k a0 a3
def wuc (N:Nat):=whd N (wue) N
def V26 (N:Nat) (list_0:Y4):Z0:=w2m (wuc N) list_0
def S_V26:Sig:=⟨Q10,[0],[],.unit,.bool,.i,fun x=>V26 big x.1⟩
def A_V26:Cfg:=mkCfg tab [] [(4,[B4,D0,D0,B0]),(13,[])]
noncomputable def wba (N n:Nat) (K:T12) (a0:Y4) (a3:Int):Z0:=itr A_V26 N 4 Tryz.f129 [1,0,1,0,0] n ([W4 a0,.u,.u,W0 a3]++us 16) K
noncomputable def w2n:Ex→St→Z0:=finish A_V26 S_V26 Tryz.f129.results.toList
noncomputable def wud (kX:T3):Z0:=kX ([]++us 20)
noncomputable def wmz (kX:T3) (kO:T2):=exK w2n 0 (A_V26.shape 13) kX kO
theorem wru (N kX kO):∀n,wba N n (wmz kX kO)=whd N (wud kX) n
 | 0=>rfl
 | m+1=>(show wba N (m+1) (wmz kX kO)=wuf (wba N m (wmz kX kO)) (wud kX) by kernel_rfl).trans (by rw[wru N kX kO m];funext _ _;rfl)
noncomputable def wm0 (N:Nat):=(blockK 0 (sqK A_V26 N 13 500006 Tryz.f129 [1,1] w2n))
noncomputable def w77 (N:Nat) (st':St):Z0:=rn A_V26 N Tryz.f129 [1,1] st' w2n
theorem xiu (N):wba N N (wm0 N)=wuc N:=by
 rw[show wba N N (wm0 N)=wba N N (wmz (w77 N) fun j=>(wm0 N) (.exit j)) from(by funext _ _;exact jll),wru,show wud (w77 N)=wue by kernel_rfl];rfl
theorem run_V26 (N x):runF A_V26 N Tryz.f129 S_V26 x=V26 N x.1:=(show _=(w2m (wba N N (wm0 N)) x.1) by kernel_rfl).trans (by rw[xiu N];rfl)
theorem ok_V26:OK 129 S_V26:=gdR (A:=A_V26) tc Tryz.func129 (jeq trivial) (run_V26 big)
def wuj (rec:Int→Y4→Int→Int→Z0) (k:Z0) (a1:Int) (a7:Y4) (a8 a9:Int):Z0 :=
  cond (decide (a9<a8))
  ((atI a7 a9).bind fun xq1 =>
  cond (decide (xq1<0))
  (some (false,(())))
  (cond (decide (a1≤xq1))
  (some (false,(())))
  (rec a1 a7 a8 (IntKind.i64.wrap (a9+1)))))
  (k)
def wui:Z0 :=
  some (true,(()))
def w2o (L2:Int→Y4→Int→Int→Z0) (list_0:Y4) (n_1:Int):Z0 :=
  L2 n_1 list_0 (list_0.length:Int) 0
def whe (N:Nat) (k:Z0):Nat→Int→Y4→Int→Int→Z0
  | 0,_,_,_,_=>none
  | m+1,a1,a7,a8,a9=>wuj (whe N k m) k a1 a7 a8 a9
def wug (N:Nat):=whe N (wui) N
def V27 (N:Nat) (list_0:Y4) (n_1:Int):Z0:=w2o (wug N) list_0 n_1
def S_V27:Sig:=⟨(.pair Q6 Q17),[0,0],[],.unit,.bool,.i,fun x=>V27 big x.1 x.2.1⟩
def A_V27:Cfg:=mkCfg tab [] [(4,([D0,B0]++dr 5 [B4,B0,B0])),(15,[])]
noncomputable def wbb (N n:Nat) (K:T12) (a1:Int) (a7:Y4) (a8 a9:Int):Z0:=itr A_V27 N 4 Tryz.f70 [1,0,1,0,0] n (([.u,W0 a1]++ud 5 [W4 a7,W0 a8,W0 a9])++us 11) K
noncomputable def w2p:Ex→St→Z0:=finish A_V27 S_V27 Tryz.f70.results.toList
noncomputable def wuh (kX:T3):Z0:=kX ([]++us 21)
noncomputable def wm1 (kX:T3) (kO:T2):=exK w2p 0 (A_V27.shape 15) kX kO
theorem wrv (N kX kO):∀n,wbb N n (wm1 kX kO)=whe N (wuh kX) n
 | 0=>rfl
 | m+1=>(show wbb N (m+1) (wm1 kX kO)=wuj (wbb N m (wm1 kX kO)) (wuh kX) by kernel_rfl).trans (by rw[wrv N kX kO m];funext _ _ _ _;rfl)
noncomputable def wm2 (N:Nat):=(blockK 0 (sqK A_V27 N 15 500007 Tryz.f70 [1,1] w2p))
noncomputable def w78 (N:Nat) (st':St):Z0:=rn A_V27 N Tryz.f70 [1,1] st' w2p
theorem xiv (N):wbb N N (wm2 N)=wug N:=by
 rw[show wbb N N (wm2 N)=wbb N N (wm1 (w78 N) fun j=>(wm2 N) (.exit j)) from(by funext _ _ _ _;exact jll),wrv,show wuh (w78 N)=wui by kernel_rfl];rfl
theorem run_V27 (N x):runF A_V27 N Tryz.f70 S_V27 x=V27 N x.1 x.2.1:=(show _=(w2o (wbb N N (wm2 N)) x.1 x.2.1) by kernel_rfl).trans (by rw[xiv N];rfl)
theorem ok_V27:OK 70 S_V27:=gdR (A:=A_V27) tc Tryz.func70 (jeq trivial) (run_V27 big)
def wdm (rec:T31) (k:T15) (a0:Y5) (a3 a4 a7 a8 a20 a21 a46 a47:Int):Z0 :=
  cond (decide (a47<a46))
  ((atI a0 a3).bind fun xq7 =>
  (atI xq7 a4).bind fun xq8 =>
  cond xq8
  ((atI a0 a4).bind fun xq9 =>
  (atI xq9 a47).bind fun xq10 =>
  cond xq10
  ((atI a0 a3).bind fun xq11 =>
  (atI xq11 a47).bind fun xq12 =>
  cond (!xq12)
  (some (false,(())))
  (rec a0 a3 a4 a7 a8 a20 a21 a46 (IntKind.i64.wrap (a47+1))))
  (rec a0 a3 a4 a7 a8 a20 a21 a46 (IntKind.i64.wrap (a47+1))))
  (rec a0 a3 a4 a7 a8 a20 a21 a46 (IntKind.i64.wrap (a47+1))))
  (k a0 a3 a7 a8 a20 a21)
def wao (rec:T15) (a0:Y5) (a3 a7 a8 a20 a21:Int):Z0 :=
  rec a0 a3 a7 a8 a20 (IntKind.i64.wrap (a21+1))
def wdo (L12:T31) (k:T41) (a0:Y5) (a3 a7 a8 a20 a21:Int):Z0 :=
  cond (decide (a21<a20))
  (cond (decide (a3≠a21))
  ((atI a0 a3).bind fun xq3 =>
  (atI xq3 a21).bind fun xq4 =>
  cond xq4
  ((atI a0 a21).bind fun xq5 =>
  (atI xq5 a3).bind fun xq6 =>
  cond xq6
  (some (false,(())))
  (L12 a0 a3 a21 a7 a8 a20 a21 (a0.length:Int) 0))
  (L12 a0 a3 a21 a7 a8 a20 a21 (a0.length:Int) 0))
  (L12 a0 a3 a21 a7 a8 a20 a21 (a0.length:Int) 0))
  (k a0 a7 a8)
def x5 (rec:T41) (a0:Y5) (a7 a8:Int):Z0 :=
  rec a0 a7 (IntKind.i64.wrap (a8+1))
def wdn (L7:T15) (k:Z0) (a0:Y5) (a7 a8:Int):Z0 :=
  cond (decide (a8<a7))
  ((atI a0 a8).bind fun xq1 =>
  (atI xq1 a8).bind fun xq2 =>
  cond (!xq2)
  (some (false,(())))
  (L7 a0 a8 a7 a8 (a0.length:Int) 0))
  (k)
def yv:Z0 :=
  some (true,(()))
def w2r (L2:T41) (o_0:Y5):Z0 :=
  L2 o_0 (o_0.length:Int) 0
def wra (N:Nat) (k:T15):=itN (fun r=>wdm r k) fun _ _ _ _ _ _ _ _ _=>none
def wan (N:Nat) (rec:T15) (k:T41):=wra N (wao rec) N
def wum (N:Nat) (k:T41):=itN (fun r=>wdo (wan N r k) k) fun _ _ _ _ _ _=>none
def whf (N:Nat) (rec:T41) (k:Z0):=wum N (x5 rec) N
def wul (N:Nat) (k:Z0):=itN (fun r=>wdn (whf N r k) k) fun _ _ _=>none
def wuk (N:Nat):=wul N (yv) N
def V28 (N:Nat) (o_0:Y5):Z0:=w2r (wuk N) o_0
def S_V28:Sig:=⟨(.pair Q8 .unit),[0],[],.unit,.bool,.i,fun x=>V28 big x.1⟩
def A_V28:Cfg:=mkCfg tab [] [(4,([.as Q8 .i]++dr 6 [B0,B0])),(14,([.as Q8 .i,D0,D0,B0]++dr 3 ([B0,B0]++dr 11 [B0,B0]))),(39,[]),(24,([.as Q8 .i,D0,D0,B0,B0,D0,D0,B0,B0]++dr 11 ([B0,B0]++dr 24 [B0,B0]))),(37,([.as Q8 .i]++dr 6 [B0,B0])),(35,([.as Q8 .i,D0,D0,B0]++dr 3 ([B0,B0]++dr 11 [B0,B0])))]
noncomputable def wbc (N n:Nat) (K:T12) (a0:Y5) (a7 a8:Int):Z0:=itr A_V28 N 4 Tryz.f130 [1,0,1,0,0] n (([.val Q8 .i a0]++ud 6 [W0 a7,W0 a8])++us 70) K
noncomputable def wbd (N n:Nat) (K:T12) (a0:Y5) (a3 a7 a8 a20 a21:Int):Z0:=itr A_V28 N 14 Tryz.f130 [1,0,1,0,0,1,1,0,0,1,1,1,0,0] n (([.val Q8 .i a0,.u,.u,W0 a3]++ud 3 ([W0 a7,W0 a8]++ud 11 [W0 a20,W0 a21]))++us 57) K
noncomputable def wdl (N n:Nat) (K:T12) (a0:Y5) (a3 a4 a7 a8 a20 a21 a46 a47:Int):Z0:=itr A_V28 N 24 Tryz.f130 [1,0,1,0,0,1,1,0,0,1,1,1,0,0,1,1,0,0,1,1,1,0,0] n (([.val Q8 .i a0,.u,.u,W0 a3,W0 a4,.u,.u,W0 a7,W0 a8]++ud 11 ([W0 a20,W0 a21]++ud 24 [W0 a46,W0 a47]))++us 31) K
noncomputable def wm7:Ex→St→Z0:=finish A_V28 S_V28 Tryz.f130.results.toList
noncomputable def wm5 (kX:T3):Z0:=kX ([]++us 79)
noncomputable def wdj (kX:T3) (kO:T2):=exK wm7 0 (A_V28.shape 39) kX kO
noncomputable def wm6 (kX:T3) (a0:Y5) (a7 a8:Int):Z0:=kX (([.val Q8 .i a0]++ud 6 [W0 a7,W0 a8])++us 70)
noncomputable def wdk (kX:T3) (kO:T2):=exK wm7 2 (A_V28.shape 37) kX kO
noncomputable def w0j (kX:T3) (a0:Y5) (a3 a7 a8 a20 a21:Int):Z0:=kX (([.val Q8 .i a0,.u,.u,W0 a3]++ud 3 ([W0 a7,W0 a8]++ud 11 [W0 a20,W0 a21]))++us 57)
noncomputable def w0i (kX:T3) (kO:T2):=exK wm7 4 (A_V28.shape 35) kX kO
theorem w2q (N kX kO):∀n,wdl N n (w0i kX kO)=wra N (w0j kX) n :=
 itE rfl fun m=>by kernel_rfl
noncomputable def wk2 (N m:Nat) (kX:T3) (kO:T2):=(blockK 4 (blockK 3 (sqK A_V28 N 35 500017 Tryz.f130 [1,0,1,0,0,1,1,0,0,1,1,1,0,0,1,1,1] (itK A_V28 N 14 Tryz.f130 [1,0,1,0,0,1,1,0,0,1,1,1,0,0] m (wdk kX kO)))))
noncomputable def w0k (N m:Nat) (kX:T3) (kO:T2) (st':St):Z0:=rn A_V28 N Tryz.f130 [1,0,1,0,0,1,1,0,0,1,1,1,0,0,1,1,1] st' (itK A_V28 N 14 Tryz.f130 [1,0,1,0,0,1,1,0,0,1,1,1,0,0] m (wdk kX kO))
theorem xe9 (N m kX kO) {r}(h:wbd N m (wdk kX kO)=r):wdl N N (wk2 N m kX kO)=wan N r (wm6 kX):=by
 rw[show wdl N N (wk2 N m kX kO)=wdl N N (w0i (w0k N m kX kO) fun j=>(wk2 N m kX kO) (.exit j)) from(by funext _ _ _ _ _ _ _ _ _;exact jll),w2q,show w0j (w0k N m kX kO)=wao (wbd N m (wdk kX kO)) by kernel_rfl,h];rfl
theorem w8a (N kX kO):∀n,wbd N n (wdk kX kO)=wum N (wm6 kX) n :=
 itE rfl fun m=>(show _=wdo (wdl N N (wk2 N m kX kO)) (wm6 kX) by kernel_rfl).trans (by rw[xe9 N m kX kO rfl]<;>rfl)
noncomputable def wm4 (N m:Nat) (kX:T3) (kO:T2):=(blockK 2 (blockK 1 (sqK A_V28 N 37 500018 Tryz.f130 [1,0,1,0,0,1,1,1] (itK A_V28 N 4 Tryz.f130 [1,0,1,0,0] m (wdj kX kO)))))
noncomputable def w8c (N m:Nat) (kX:T3) (kO:T2) (st':St):Z0:=rn A_V28 N Tryz.f130 [1,0,1,0,0,1,1,1] st' (itK A_V28 N 4 Tryz.f130 [1,0,1,0,0] m (wdj kX kO))
theorem xiy (N m kX kO) {r}(h:wbc N m (wdj kX kO)=r):wbd N N (wm4 N m kX kO)=whf N r (wm5 kX):=by
 rw[show wbd N N (wm4 N m kX kO)=wbd N N (wdk (w8c N m kX kO) fun j=>(wm4 N m kX kO) (.exit j)) from(by funext _ _ _ _ _ _;exact jll),w8a,show wm6 (w8c N m kX kO)=x5 (wbc N m (wdj kX kO)) by kernel_rfl,h];rfl
theorem w79 (N kX kO):∀n,wbc N n (wdj kX kO)=wul N (wm5 kX) n :=
 itE rfl fun m=>(show _=wdn (wbd N N (wm4 N m kX kO)) (wm5 kX) by kernel_rfl).trans (by rw[xiy N m kX kO rfl]<;>rfl)
noncomputable def wm3 (N:Nat):=(blockK 0 (sqK A_V28 N 39 500019 Tryz.f130 [1,1] wm7))
noncomputable def w8b (N:Nat) (st':St):Z0:=rn A_V28 N Tryz.f130 [1,1] st' wm7
theorem xix (N):wbc N N (wm3 N)=wuk N:=by
 rw[show wbc N N (wm3 N)=wbc N N (wdj (w8b N) fun j=>(wm3 N) (.exit j)) from(by funext _ _ _;exact jll),w79,show wm5 (w8b N)=yv by kernel_rfl];rfl
theorem run_V28 (N x):runF A_V28 N Tryz.f130 S_V28 x=V28 N x.1:=(show _=(w2r (wbc N N (wm3 N)) x.1) by kernel_rfl).trans (by rw[xix N];rfl)
theorem ok_V28:OK 130 S_V28:=gdR (A:=A_V28) tc Tryz.func130 (jeq trivial) (run_V28 big)
def wds (rec:T11) (k:T91) (a4:Int) (a5:Y5) (a6:Int) (a18:Y3) (a19 a20:Int) (a29:Y4) (a30:Int) (a31 a32:Bool) (a34:Y4) (a35 a36:Int):Z11 :=
  cond (decide (a36<a35))
  ((atI a34 a36).bind fun xq6 =>
  (atI a5 xq6).bind fun _ =>
  (a5[xq6.toNat]?).bind fun xq7 =>
  (a5[xq6.toNat]?).bind fun xq8 =>
  (atI xq8 a6).bind fun _ =>
  (a5[xq6.toNat]?).bind fun xq9 =>
  (xq9[a6.toNat]?).bind fun xq10 =>
  rec a4 (a5.set xq6.toNat (xq9.set a6.toNat true)) a6 a18 a19 a20 a29 a30 a31 a32 a34 a35 (IntKind.i64.wrap (a36+1)))
  (k a4 a5 a18 a19 a20 a29 a30 a31 a32)
def wap (rec:T43) (a4:Int) (a5:Y5) (a18:Y3) (a19 a20:Int) (a29:Y4) (a30:Int) (a31 a32:Bool):Z11 :=
  rec a4 a5 a18 a19 (IntKind.i64.wrap (a20+1))
def wdt (L11:T11) (k:Y5→Z11) (a4:Int) (a5:Y5) (a18:Y3) (a19 a20:Int):Z11 :=
  cond (decide (a20<a19))
  ((atI a18 a20).bind fun xq2 =>
  (V26 big xq2).bind fun rq3 =>
  cond (!rq3.1)
  (some (([],false,()),(())))
  ((V27 big xq2 a4).bind fun rq4 =>
  cond (!rq4.1)
  (some (([],false,()),(())))
  (L11 a4 a5 a20 a18 a19 a20 xq2 a4 rq4.1 (!rq4.1) xq2 (xq2.length:Int) 0)))
  (k a5)
def yw (a5:Y5):Z11 :=
  (V28 big a5).bind fun rq5 =>
  some ((a5,rq5.1,()),(()))
def wsc (L6:T43) (p_0:Y2):Z11 :=
  cond (decide (10<(p_0.1.length:Int)))
  (some (([],false,()),(())))
  ((V25 big (p_0.1.length:Int)).bind fun rq1 =>
  L6 (p_0.1.length:Int) rq1.1 p_0.1 (p_0.1.length:Int) 0)
def wrb (N:Nat) (k:T91):=itN (fun r=>wds r k) fun _ _ _ _ _ _ _ _ _ _ _ _ _=>none
def wdq (N:Nat) (rec:T43) (k:Y5→Z11):=wrb N (wap rec) N
def wuo (N:Nat) (k:Y5→Z11):=itN (fun r=>wdt (wdq N r k) k) fun _ _ _ _ _=>none
def wun (N:Nat):=wuo N (yw) N
def V29 (N:Nat) (p_0:Y2):Z11:=wsc (wun N) p_0
def S_V29:Sig:=⟨Q15,[0],[],.unit,(.tup (.pair Q8 Q12)),(.p O11 .i),fun x=>V29 big x.1⟩
def A_V29:Cfg:=mkCfg tab [(128,S_V25),(129,S_V26),(70,S_V27),(130,S_V28)] [(12,(dr 4 ([B0,B6]++dr 12 [.as Q13 .i,B0,B0]))),(22,(dr 4 ([B0,B6,B0]++dr 11 ([.as Q13 .i,B0,B0]++dr 8 [B4,B0,B5,B5,D0,B4,B0,B0])))),(33,(dr 5 [B6])),(31,(dr 4 ([B0,B6]++dr 12 ([.as Q13 .i,B0,B0]++dr 8 [B4,B0,B5,B5]))))]
noncomputable def wbe (N n:Nat) (K:Ex→St→Z11) (a4:Int) (a5:Y5) (a18:Y3) (a19 a20:Int):Z11:=itr A_V29 N 12 Tryz.f91 [1,1,1,1,0,1,0,0] n ((ud 4 ([W0 a4,W6 a5]++ud 12 [.val Q13 .i a18,W0 a19,W0 a20]))++us 30) K
noncomputable def wdr (N n:Nat) (K:Ex→St→Z11) (a4:Int) (a5:Y5) (a6:Int) (a18:Y3) (a19 a20:Int) (a29:Y4) (a30:Int) (a31 a32:Bool) (a34:Y4) (a35 a36:Int):Z11:=itr A_V29 N 22 Tryz.f91 [1,1,1,1,0,1,0,0,1,1,0,0,1,1,1,0,0] n ((ud 4 ([W0 a4,W6 a5,W0 a6]++ud 11 ([.val Q13 .i a18,W0 a19,W0 a20]++ud 8 [W4 a29,W0 a30,W5 a31,W5 a32,.u,W4 a34,W0 a35,W0 a36])))++us 14) K
noncomputable def wsd:Ex→St→Z11:=finish A_V29 S_V29 Tryz.f91.results.toList
noncomputable def wm9 (kX:St→Z11) (a5:Y5):Z11:=kX ((ud 5 [W6 a5])++us 45)
noncomputable def wdp (kX:St→Z11) (kO:Nat→St→Z11):=exK wsd 0 (A_V29.shape 33) kX kO
noncomputable def w0m (kX:St→Z11) (a4:Int) (a5:Y5) (a18:Y3) (a19 a20:Int) (a29:Y4) (a30:Int) (a31 a32:Bool):Z11:=kX ((ud 4 ([W0 a4,W6 a5]++ud 12 ([.val Q13 .i a18,W0 a19,W0 a20]++ud 8 [W4 a29,W0 a30,W5 a31,W5 a32])))++us 18)
noncomputable def w0l (kX:St→Z11) (kO:Nat→St→Z11):=exK wsd 2 (A_V29.shape 31) kX kO
theorem w2s (N kX kO):∀n,wdr N n (w0l kX kO)=wrb N (w0m kX) n :=
 itE rfl fun m=>by kernel_rfl
noncomputable def wk3 (N m:Nat) (kX:St→Z11) (kO:Nat→St→Z11):=(blockK 2 (blockK 1 (sqK A_V29 N 31 500015 Tryz.f91 [1,1,1,1,0,1,0,0,1,1,1] (itK A_V29 N 12 Tryz.f91 [1,1,1,1,0,1,0,0] m (wdp kX kO)))))
noncomputable def w0n (N m:Nat) (kX:St→Z11) (kO:Nat→St→Z11) (st':St):Z11:=rn A_V29 N Tryz.f91 [1,1,1,1,0,1,0,0,1,1,1] st' (itK A_V29 N 12 Tryz.f91 [1,1,1,1,0,1,0,0] m (wdp kX kO))
theorem xfa (N m kX kO) {r}(h:wbe N m (wdp kX kO)=r):wdr N N (wk3 N m kX kO)=wdq N r (wm9 kX):=by
 rw[show wdr N N (wk3 N m kX kO)=wdr N N (w0l (w0n N m kX kO) fun j=>(wk3 N m kX kO) (.exit j)) from(by funext _ _ _ _ _ _ _ _ _ _ _ _ _;exact jll),w2s,show w0m (w0n N m kX kO)=wap (wbe N m (wdp kX kO)) by kernel_rfl,h];rfl
theorem w8d (N kX kO):∀n,wbe N n (wdp kX kO)=wuo N (wm9 kX) n :=
 itE rfl fun m=>(show _=wdt (wdr N N (wk3 N m kX kO)) (wm9 kX) by kernel_rfl).trans (by rw[xfa N m kX kO rfl]<;>rfl)
noncomputable def wm8 (N:Nat):=(blockK 0 (sqK A_V29 N 33 500016 Tryz.f91 [1,1,1,1,1] wsd))
noncomputable def w8e (N:Nat) (st':St):Z11:=rn A_V29 N Tryz.f91 [1,1,1,1,1] st' wsd
theorem xi0 (N):wbe N N (wm8 N)=wun N:=by
 rw[show wbe N N (wm8 N)=wbe N N (wdp (w8e N) fun j=>(wm8 N) (.exit j)) from(by funext _ _ _ _ _;exact jll),w8d,show wm9 (w8e N)=yw by kernel_rfl];rfl
theorem run_V29 (N x):runF A_V29 N Tryz.f91 S_V29 x=V29 N x.1:=(show _=(wsc (wbe N N (wm8 N)) x.1) by kernel_rfl).trans (by rw[xi0 N];rfl)
theorem ok_V29:OK 91 S_V29:=gdR (A:=A_V29) tc Tryz.func91 (jeq ⟨ok_V25,ok_V26,ok_V27,ok_V28,trivial⟩) (run_V29 big)
def whi (rec:T26) (k:T117) (a0:Y5) (a1:Y4) (a6:Int) (a7:Bool) (a10:Y4) (a11 a12:Int) (a16:Y4) (a17 a18:Int):Z6 :=
  cond (decide (a18<a17))
  ((atI a16 a18).bind fun xq2 =>
  cond a7
  ((atI a0 xq2).bind fun xq3 =>
  (atI xq3 a6).bind fun xq4 =>
  rec a0 a1 a6 xq4 a10 a11 a12 a16 a17 (IntKind.i64.wrap (a18+1)))
  (rec a0 a1 a6 false a10 a11 a12 a16 a17 (IntKind.i64.wrap (a18+1))))
  (k a0 a1 a6 a7 a10 a11 a12)
def wdv (rec:T49) (a0:Y5) (a1:Y4) (a6:Int) (a7:Bool) (a10:Y4) (a11 a12:Int):Z6 :=
  cond a7
  (some (a6,(())))
  (rec a0 a1 a10 a11 (IntKind.i64.wrap (a12+1)))
def wdw (L6:T26) (k:Z6) (a0:Y5) (a1 a10:Y4) (a11 a12:Int):Z6 :=
  cond (decide (a12<a11))
  ((atI a10 a12).bind fun xq1 =>
  L6 a0 a1 xq1 true a10 a11 a12 a1 (a1.length:Int) 0)
  (k)
def yx:Z6 :=
  some ((-1:Int),(()))
def w2t (L2:T49) (o_0:Y5) (list_1:Y4):Z6 :=
  L2 o_0 list_1 list_1 (list_1.length:Int) 0
def wur (N:Nat) (k:T117):=itN (fun r=>whi r k) fun _ _ _ _ _ _ _ _ _ _=>none
def whg (N:Nat) (rec:T49) (k:Z6):=wur N (wdv rec) N
def wuq (N:Nat) (k:Z6):=itN (fun r=>wdw (whg N r k) k) fun _ _ _ _ _=>none
def wup (N:Nat):=wuq N (yx) N
def V30 (N:Nat) (o_0:Y5) (list_1:Y4):Z6:=w2t (wup N) o_0 list_1
def S_V30:Sig:=⟨(.pair Q8 Q10),[0,0],[],.unit,I,.i,fun x=>V30 big x.1 x.2.1⟩
def A_V30:Cfg:=mkCfg tab [] [(4,([.as Q8 .i,B4]++dr 8 [B4,B0,B0])),(12,([.as Q8 .i,B4]++dr 4 ([B0,B5,D0,D0,B4,B0,B0]++dr 3 [B4,B0,B0]))),(27,[]),(21,([.as Q8 .i,B4]++dr 4 [B0,B5,D0,D0,B4,B0,B0]))]
noncomputable def wbf (N n:Nat) (K:T83) (a0:Y5) (a1 a10:Y4) (a11 a12:Int):Z6:=itr A_V30 N 4 Tryz.f131 [1,0,1,0,0] n (([.val Q8 .i a0,W4 a1]++ud 8 [W4 a10,W0 a11,W0 a12])++us 23) K
noncomputable def whh (N n:Nat) (K:T83) (a0:Y5) (a1:Y4) (a6:Int) (a7:Bool) (a10:Y4) (a11 a12:Int) (a16:Y4) (a17 a18:Int):Z6:=itr A_V30 N 12 Tryz.f131 [1,0,1,0,0,1,1,0,0,1,1,0,1,0,0] n (([.val Q8 .i a0,W4 a1]++ud 4 ([W0 a6,W5 a7,.u,.u,W4 a10,W0 a11,W0 a12]++ud 3 [W4 a16,W0 a17,W0 a18]))++us 17) K
noncomputable def wse:Ex→St→Z6:=finish A_V30 S_V30 Tryz.f131.results.toList
noncomputable def wnc (kX:T55):Z6:=kX ([]++us 36)
noncomputable def wdu (kX:T55) (kO:T45):=exK wse 0 (A_V30.shape 27) kX kO
noncomputable def w8g (kX:T55) (a0:Y5) (a1:Y4) (a6:Int) (a7:Bool) (a10:Y4) (a11 a12:Int):Z6:=kX (([.val Q8 .i a0,W4 a1]++ud 4 [W0 a6,W5 a7,.u,.u,W4 a10,W0 a11,W0 a12])++us 23)
noncomputable def w8f (kX:T55) (kO:T45):=exK wse 2 (A_V30.shape 21) kX kO
theorem w8i (N kX kO):∀n,whh N n (w8f kX kO)=wur N (w8g kX) n :=
 itE rfl fun m=>by kernel_rfl
noncomputable def wnb (N m:Nat) (kX:T55) (kO:T45):=(blockK 2 (sqK A_V30 N 21 500010 Tryz.f131 [1,0,1,0,0,1,1,0,0,1,1,1] (blockK 1 (sqK A_V30 N 25 500012 Tryz.f131 [1,0,1,0,0,1,1,1] (itK A_V30 N 4 Tryz.f131 [1,0,1,0,0] m (wdu kX kO))))))
noncomputable def w8k (N m:Nat) (kX:T55) (kO:T45) (st':St):Z6:=rn A_V30 N Tryz.f131 [1,0,1,0,0,1,1,0,0,1,1,1] st' (blockK 1 (sqK A_V30 N 25 500012 Tryz.f131 [1,0,1,0,0,1,1,1] (itK A_V30 N 4 Tryz.f131 [1,0,1,0,0] m (wdu kX kO))))
theorem xi2 (N m kX kO) {r}(h:wbf N m (wdu kX kO)=r):whh N N (wnb N m kX kO)=whg N r (wnc kX):=by
 rw[show whh N N (wnb N m kX kO)=whh N N (w8f (w8k N m kX kO) fun j=>(wnb N m kX kO) (.exit j)) from(by funext _ _ _ _ _ _ _ _ _ _;exact jll),w8i,show w8g (w8k N m kX kO)=wdv (wbf N m (wdu kX kO)) by kernel_rfl,h];rfl
theorem w8h (N kX kO):∀n,wbf N n (wdu kX kO)=wuq N (wnc kX) n :=
 itE rfl fun m=>(show _=wdw (whh N N (wnb N m kX kO)) (wnc kX) by kernel_rfl).trans (by rw[xi2 N m kX kO rfl]<;>rfl)
noncomputable def wna (N:Nat):=(blockK 0 (sqK A_V30 N 27 500013 Tryz.f131 [1,1] wse))
noncomputable def w8j (N:Nat) (st':St):Z6:=rn A_V30 N Tryz.f131 [1,1] st' wse
theorem xi1 (N):wbf N N (wna N)=wup N:=by
 rw[show wbf N N (wna N)=wbf N N (wdu (w8j N) fun j=>(wna N) (.exit j)) from(by funext _ _ _ _ _;exact jll),w8h,show wnc (w8j N)=yx by kernel_rfl];rfl
theorem run_V30 (N x):runF A_V30 N Tryz.f131 S_V30 x=V30 N x.1 x.2.1:=(show _=(w2t (wbf N N (wna N)) x.1 x.2.1) by kernel_rfl).trans (by rw[xi1 N];rfl)
theorem ok_V30:OK 131 S_V30:=gdR (A:=A_V30) tc Tryz.func131 (jeq trivial) (run_V30 big)
def xgn (z_0:Int) (p_1:Y5) (p_2 p_3:Int):Z0 :=
  (atI p_1 z_0).bind fun xq1 =>
  (atI xq1 p_2).bind fun xq2 =>
  cond xq2
  ((atI p_1 z_0).bind fun xq3 =>
  (atI xq3 p_3).bind fun xq4 =>
  some (xq4,(())))
  (some (false,(())))
def V31 (z_0:Int) (p_1:Y5) (p_2 p_3:Int):Z0:=xgn z_0 p_1 p_2 p_3
def S_V31:Sig:=⟨(.pair I (.pair (.ptr Q8) (.pair (.ptr I) Q16))),[0,0,0,0],[],.unit,.bool,.i,fun x=>V31 x.1 x.2.1 x.2.2.1 x.2.2.2.1⟩
def A_V31:Cfg:=mkCfg tab [] []
theorem run_V31 (N x):runF A_V31 N Tryz.f132 S_V31 x=V31 x.1 x.2.1 x.2.2.1 x.2.2.2.1:=by kernel_rfl
theorem ok_V31:OK 132 S_V31:=gdR (A:=A_V31) tc Tryz.func132 (jeq trivial) (run_V31 big)
def whk (rec:T84) (k:T21) (a1:(Y5×Z1)) (a5:Y4) (a9 a10:Int):Z2 :=
  cond (decide (a10<a9))
  ((V31 a10 a1.1 a1.2.1 a1.2.2.1).bind fun rq1 =>
  cond rq1.1
  ((appI a5 [a10]).bind fun xq2 =>
  rec a1 xq2 a9 (IntKind.i64.wrap (a10+1)))
  (rec a1 a5 a9 (IntKind.i64.wrap (a10+1))))
  (k a5)
def wdx (a5:Y4):Z2 :=
  some (a5,(()))
def w2u (L3:T84) (o_0:Y5) (so_1:(Y5×Z1)):Z2 :=
  L3 so_1 [] (o_0.length:Int) 0
def wut (N:Nat) (k:T21):=itN (fun r=>whk r k) fun _ _ _ _=>none
def wus (N:Nat):=wut N (wdx) N
def V32 (N:Nat) (o_0:Y5) (so_1:(Y5×Z1)):Z2:=w2u (wus N) o_0 so_1
def S_V32:Sig:=⟨(.pair Q8 (.pair (.clo 132 0 (.pair (.ptr Q8) (.pair (.ptr I) Q16))) .unit)),[0,0],[],.unit,Q6,O4,fun x=>V32 big x.1 x.2.1⟩
def A_V32:Cfg:=mkCfg tab [(132,S_V31)] [(6,([D0,.as (.clo 132 0 (.pair (.ptr Q8) (.pair (.ptr I) Q16))) .i]++dr 3 ([B1]++dr 3 [B0,B0]))),(17,(dr 5 [B1]))]
noncomputable def whj (N n:Nat) (K:T18) (a1:(Y5×Z1)) (a5:Y4) (a9 a10:Int):Z2:=itr A_V32 N 6 Tryz.f94 [1,1,0,1,0,0] n (([.u,.val (.clo 132 0 (.pair (.ptr Q8) (.pair (.ptr I) Q16))) .i a1]++ud 3 ([W1 a5]++ud 3 [W0 a9,W0 a10]))++us 11) K
noncomputable def w2v:Ex→St→Z2:=finish A_V32 S_V32 Tryz.f94.results.toList
noncomputable def w8m (kX:T7) (a5:Y4):Z2:=kX ((ud 5 [W1 a5])++us 16)
noncomputable def w8l (kX:T7) (kO:T5):=exK w2v 0 (A_V32.shape 17) kX kO
theorem w8n (N kX kO):∀n,whj N n (w8l kX kO)=wut N (w8m kX) n :=
 itE rfl fun m=>by kernel_rfl
noncomputable def wnd (N:Nat):=(blockK 0 (sqK A_V32 N 17 500008 Tryz.f94 [1,1,1] w2v))
noncomputable def w8o (N:Nat) (st':St):Z2:=rn A_V32 N Tryz.f94 [1,1,1] st' w2v
theorem xi3 (N):whj N N (wnd N)=wus N:=by
 rw[show whj N N (wnd N)=whj N N (w8l (w8o N) fun j=>(wnd N) (.exit j)) from(by funext _ _ _ _;exact jll),w8n,show w8m (w8o N)=wdx by kernel_rfl];rfl
theorem run_V32 (N x):runF A_V32 N Tryz.f94 S_V32 x=V32 N x.1 x.2.1:=(show _=(w2u (whj N N (wnd N)) x.1 x.2.1) by kernel_rfl).trans (by rw[xi3 N];rfl)
theorem ok_V32:OK 94 S_V32:=gdR (A:=A_V32) tc Tryz.func94 (jeq ⟨ok_V31,trivial⟩) (run_V32 big)
def whn (rec:T40) (k:Y5→Y3→Y4→Int→Int→Z3) (a1:Y5) (a4:Y3) (a5:Int) (a6:Y4) (a11 a12 a17 a18:Int):Z3 :=
  cond (decide (a18<a17))
  ((V32 big a1 (a1,a5,a18,())).bind fun rq1 =>
  (V30 big a1 rq1.1).bind fun rq2 =>
  cond (decide (rq2.1<0))
  (some (([],false,()),(())))
  ((appI a6 [rq2.1]).bind fun xq3 =>
  rec a1 a4 a5 xq3 a11 a12 a17 (IntKind.i64.wrap (a18+1))))
  (k a1 a4 a6 a11 a12)
def wdz (rec:T62) (a1:Y5) (a4:Y3) (a6:Y4) (a11 a12:Int):Z3 :=
  (appI a4 [a6]).bind fun xq4 =>
  rec a1 xq4 a11 (IntKind.i64.wrap (a12+1))
def wd0 (L7:T40) (k:T118) (a1:Y5) (a4:Y3) (a11 a12:Int):Z3 :=
  cond (decide (a12<a11))
  (L7 a1 a4 a12 [] a11 a12 (a1.length:Int) 0)
  (k a4)
def yz (a4:Y3):Z3 :=
  some ((a4,true,()),(()))
def w2w (L3:T62) (o_0:Y5):Z3 :=
  L3 o_0 [] (o_0.length:Int) 0
def wuw (N:Nat) (k:Y5→Y3→Y4→Int→Int→Z3):=itN (fun r=>whn r k) fun _ _ _ _ _ _ _ _=>none
def whl (N:Nat) (rec:T62) (k:T118):=wuw N (wdz rec) N
def wuv (N:Nat) (k:T118):=itN (fun r=>wd0 (whl N r k) k) fun _ _ _ _=>none
def wuu (N:Nat):=wuv N (yz) N
def V33 (N:Nat) (o_0:Y5):Z3:=w2w (wuu N) o_0
def S_V33:Sig:=⟨(.pair Q8 .unit),[0],[],.unit,(.tup (.pair Q13 Q12)),(.p O11 .i),fun x=>V33 big x.1⟩
def A_V33:Cfg:=mkCfg tab [(94,S_V32),(131,S_V30)] [(6,([D0,.as (.ptr Q8) .i,D0,D0,B7]++dr 6 [B0,B0])),(14,([D0,.as (.ptr Q8) .i,D0,D0,B7,.as (.ptr I) .i,B1]++dr 4 ([B0,B0]++dr 4 [B0,B0]))),(33,(dr 4 [B7])),(19,([D0,.as (.ptr Q8) .i,D0,D0,B7,.as (.ptr I) .i,B1,.as (.ptr I) .i]++dr 3 ([B0,B0]++dr 4 [B0,B0]))),(29,([D0,.as (.ptr Q8) .i,D0,D0,B7,D0,B1]++dr 4 [B0,B0]))]
noncomputable def wbg (N n:Nat) (K:T103) (a1:Y5) (a4:Y3) (a11 a12:Int):Z3:=itr A_V33 N 6 Tryz.f92 [1,1,0,1,0,0] n (([.u,.val (.ptr Q8) .i a1,.u,.u,W7 a4]++ud 6 [W0 a11,W0 a12])++us 26) K
noncomputable def whm (N n:Nat) (K:T103) (a1:Y5) (a4:Y3) (a5:Int) (a6:Y4) (a11 a12 a17 a18:Int):Z3:=itr A_V33 N 14 Tryz.f92 [1,1,0,1,0,0,1,1,0,0,1,1,0,1,0,0] n (([.u,.val (.ptr Q8) .i a1,.u,.u,W7 a4,.val (.ptr I) .i a5,W1 a6]++ud 4 ([W0 a11,W0 a12]++ud 4 [W0 a17,W0 a18]))++us 20) K
noncomputable def wsf:Ex→St→Z3:=finish A_V33 S_V33 Tryz.f92.results.toList
noncomputable def wng (kX:T58) (a4:Y3):Z3:=kX ((ud 4 [W7 a4])++us 34)
noncomputable def wdy (kX:T58) (kO:T46):=exK wsf 0 (A_V33.shape 33) kX kO
noncomputable def w8q (kX:T58) (a1:Y5) (a4:Y3) (a6:Y4) (a11 a12:Int):Z3:=kX (([.u,.val (.ptr Q8) .i a1,.u,.u,W7 a4,.u,W1 a6]++ud 4 [W0 a11,W0 a12])++us 26)
noncomputable def w8p (kX:T58) (kO:T46):=exK wsf 2 (A_V33.shape 29) kX kO
theorem w8s (N kX kO):∀n,whm N n (w8p kX kO)=wuw N (w8q kX) n :=
 itE rfl fun m=>by kernel_rfl
noncomputable def wnf (N m:Nat) (kX:T58) (kO:T46):=(blockK 2 (sqK A_V33 N 29 500014 Tryz.f92 [1,1,0,1,0,0,1,1,0,0,1,1,1] (blockK 1 (sqK A_V33 N 31 500015 Tryz.f92 [1,1,0,1,0,0,1,1,1] (itK A_V33 N 6 Tryz.f92 [1,1,0,1,0,0] m (wdy kX kO))))))
noncomputable def w8u (N m:Nat) (kX:T58) (kO:T46) (st':St):Z3:=rn A_V33 N Tryz.f92 [1,1,0,1,0,0,1,1,0,0,1,1,1] st' (blockK 1 (sqK A_V33 N 31 500015 Tryz.f92 [1,1,0,1,0,0,1,1,1] (itK A_V33 N 6 Tryz.f92 [1,1,0,1,0,0] m (wdy kX kO))))
theorem xi5 (N m kX kO) {r}(h:wbg N m (wdy kX kO)=r):whm N N (wnf N m kX kO)=whl N r (wng kX):=by
 rw[show whm N N (wnf N m kX kO)=whm N N (w8p (w8u N m kX kO) fun j=>(wnf N m kX kO) (.exit j)) from(by funext _ _ _ _ _ _ _ _;exact jll),w8s,show w8q (w8u N m kX kO)=wdz (wbg N m (wdy kX kO)) by kernel_rfl,h];rfl
theorem w8r (N kX kO):∀n,wbg N n (wdy kX kO)=wuv N (wng kX) n :=
 itE rfl fun m=>(show _=wd0 (whm N N (wnf N m kX kO)) (wng kX) by kernel_rfl).trans (by rw[xi5 N m kX kO rfl]<;>rfl)
noncomputable def wne (N:Nat):=(blockK 0 (sqK A_V33 N 33 500016 Tryz.f92 [1,1,1] wsf))
noncomputable def w8t (N:Nat) (st':St):Z3:=rn A_V33 N Tryz.f92 [1,1,1] st' wsf
theorem xi4 (N):wbg N N (wne N)=wuu N:=by
 rw[show wbg N N (wne N)=wbg N N (wdy (w8t N) fun j=>(wne N) (.exit j)) from(by funext _ _ _ _;exact jll),w8r,show wng (w8t N)=yz by kernel_rfl];rfl
theorem run_V33 (N x):runF A_V33 N Tryz.f92 S_V33 x=V33 N x.1:=(show _=(w2w (wbg N N (wne N)) x.1) by kernel_rfl).trans (by rw[xi4 N];rfl)
theorem ok_V33:OK 92 S_V33:=gdR (A:=A_V33) tc Tryz.func92 (jeq ⟨ok_V32,ok_V30,trivial⟩) (run_V33 big)
def whq (rec:T51) (k:T34) (a0 a3:Y5) (a4 a10 a11 a15 a16:Int):Z14 :=
  cond (decide (a16<a15))
  ((atI a3 a4).bind fun _ =>
  (a3[a4.toNat]?).bind fun xq2 =>
  (atI a0 a16).bind fun xq3 =>
  (atI xq3 a4).bind fun xq4 =>
  (a3[a4.toNat]?).bind fun xq5 =>
  (atI xq5 a16).bind fun _ =>
  (a3[a4.toNat]?).bind fun xq6 =>
  (xq6[a16.toNat]?).bind fun xq7 =>
  rec a0 (a3.set a4.toNat (xq6.set a16.toNat xq4)) a4 a10 a11 a15 (IntKind.i64.wrap (a16+1)))
  (k a0 a3 a10 a11)
def wd2 (rec:T34) (a0 a3:Y5) (a10 a11:Int):Z14 :=
  rec a0 a3 a10 (IntKind.i64.wrap (a11+1))
def wd3 (L6:T51) (k:Y5→Z14) (a0 a3:Y5) (a10 a11:Int):Z14 :=
  cond (decide (a11<a10))
  (L6 a0 a3 a11 a10 a11 (a0.length:Int) 0)
  (k a3)
def y5 (a3:Y5):Z14 :=
  some (a3,(()))
def w2x (L3:T34) (o_0:Y5):Z14 :=
  (V25 big (o_0.length:Int)).bind fun rq1 =>
  L3 o_0 rq1.1 (o_0.length:Int) 0
def wuz (N:Nat) (k:T34):=itN (fun r=>whq r k) fun _ _ _ _ _ _ _=>none
def who (N:Nat) (rec:T34) (k:Y5→Z14):=wuz N (wd2 rec) N
def wuy (N:Nat) (k:Y5→Z14):=itN (fun r=>wd3 (who N r k) k) fun _ _ _ _=>none
def wux (N:Nat):=wuy N (y5) N
def V34 (N:Nat) (o_0:Y5):Z14:=w2x (wux N) o_0
def S_V34:Sig:=⟨(.pair Q8 .unit),[0],[],.unit,Q8,O11,fun x=>V34 big x.1⟩
def A_V34:Cfg:=mkCfg tab [(128,S_V25)] [(6,([.as Q8 .i,D0,D0,B6]++dr 6 [B0,B0])),(12,([.as Q8 .i,D0,D0,B6,B0]++dr 5 ([B0,B0]++dr 3 [B0,B0]))),(23,(dr 3 [B6])),(21,([.as Q8 .i,D0,D0,B6]++dr 6 [B0,B0]))]
noncomputable def wbh (N n:Nat) (K:Ex→St→Z14) (a0 a3:Y5) (a10 a11:Int):Z14:=itr A_V34 N 6 Tryz.f93 [1,1,0,1,0,0] n (([.val Q8 .i a0,.u,.u,W6 a3]++ud 6 [W0 a10,W0 a11])++us 23) K
noncomputable def whp (N n:Nat) (K:Ex→St→Z14) (a0 a3:Y5) (a4 a10 a11 a15 a16:Int):Z14:=itr A_V34 N 12 Tryz.f93 [1,1,0,1,0,0,1,1,0,0,1,1,0,0] n (([.val Q8 .i a0,.u,.u,W6 a3,W0 a4]++ud 5 ([W0 a10,W0 a11]++ud 3 [W0 a15,W0 a16]))++us 18) K
noncomputable def wsg:Ex→St→Z14:=finish A_V34 S_V34 Tryz.f93.results.toList
noncomputable def wnj (kX:St→Z14) (a3:Y5):Z14:=kX ((ud 3 [W6 a3])++us 31)
noncomputable def wd1 (kX:St→Z14) (kO:T129):=exK wsg 0 (A_V34.shape 23) kX kO
noncomputable def w8w (kX:St→Z14) (a0 a3:Y5) (a10 a11:Int):Z14:=kX (([.val Q8 .i a0,.u,.u,W6 a3]++ud 6 [W0 a10,W0 a11])++us 23)
noncomputable def w8v (kX:St→Z14) (kO:T129):=exK wsg 2 (A_V34.shape 21) kX kO
theorem w8y (N kX kO):∀n,whp N n (w8v kX kO)=wuz N (w8w kX) n :=
 itE rfl fun m=>by kernel_rfl
noncomputable def wni (N m:Nat) (kX:St→Z14) (kO:T129):=(blockK 2 (blockK 1 (sqK A_V34 N 21 500010 Tryz.f93 [1,1,0,1,0,0,1,1,1] (itK A_V34 N 6 Tryz.f93 [1,1,0,1,0,0] m (wd1 kX kO)))))
noncomputable def w80 (N m:Nat) (kX:St→Z14) (kO:T129) (st':St):Z14:=rn A_V34 N Tryz.f93 [1,1,0,1,0,0,1,1,1] st' (itK A_V34 N 6 Tryz.f93 [1,1,0,1,0,0] m (wd1 kX kO))
theorem xi7 (N m kX kO) {r}(h:wbh N m (wd1 kX kO)=r):whp N N (wni N m kX kO)=who N r (wnj kX):=by
 rw[show whp N N (wni N m kX kO)=whp N N (w8v (w80 N m kX kO) fun j=>(wni N m kX kO) (.exit j)) from(by funext _ _ _ _ _ _ _;exact jll),w8y,show w8w (w80 N m kX kO)=wd2 (wbh N m (wd1 kX kO)) by kernel_rfl,h];rfl
theorem w8x (N kX kO):∀n,wbh N n (wd1 kX kO)=wuy N (wnj kX) n :=
 itE rfl fun m=>(show _=wd3 (whp N N (wni N m kX kO)) (wnj kX) by kernel_rfl).trans (by rw[xi7 N m kX kO rfl]<;>rfl)
noncomputable def wnh (N:Nat):=(blockK 0 (sqK A_V34 N 23 500011 Tryz.f93 [1,1,1] wsg))
noncomputable def w8z (N:Nat) (st':St):Z14:=rn A_V34 N Tryz.f93 [1,1,1] st' wsg
theorem xi6 (N):wbh N N (wnh N)=wux N:=by
 rw[show wbh N N (wnh N)=wbh N N (wd1 (w8z N) fun j=>(wnh N) (.exit j)) from(by funext _ _ _ _;exact jll),w8x,show wnj (w8z N)=y5 by kernel_rfl];rfl
theorem run_V34 (N x):runF A_V34 N Tryz.f93 S_V34 x=V34 N x.1:=(show _=(w2x (wbh N N (wnh N)) x.1) by kernel_rfl).trans (by rw[xi6 N];rfl)
theorem ok_V34:OK 93 S_V34:=gdR (A:=A_V34) tc Tryz.func93 (jeq ⟨ok_V25,trivial⟩) (run_V34 big)
def wsh (p_0:Y2):Option ((Y1×(Bool×Unit))×Unit) :=
  (V29 big p_0).bind fun rq1 =>
  cond (!((((),rq1.1.2).2).1))
  (some ((none,false,()),(())))
  (cond (decide ((rq1.1.1.length:Int)=0))
  (some ((none,false,()),(())))
  ((V33 big rq1.1.1).bind fun rq2 =>
  (V34 big rq1.1.1).bind fun rq3 =>
  (V33 big rq3.1).bind fun rq4 =>
  cond ((((),rq2.1.2).2).1)
  (some ((some (rq1.1.1,(rq2.1.1,(rq4.1.1,()))),(((),rq4.1.2).2).1,()),(())))
  (some ((some (rq1.1.1,(rq2.1.1,(rq4.1.1,()))),false,()),(())))))
def V35 (p_0:Y2):Option ((Y1×(Bool×Unit))×Unit):=wsh p_0
def S_V35:Sig:=⟨Q15,[0],[],.unit,(.tup (.pair Q3 Q12)),.i,fun x=>V35 x.1⟩
def A_V35:Cfg:=mkCfg tab [(91,S_V29),(92,S_V33),(93,S_V34)] []
theorem run_V35 (N x):runF A_V35 N Tryz.f49 S_V35 x=V35 x.1:=by kernel_rfl
theorem ok_V35:OK 49 S_V35:=gdR (A:=A_V35) tc Tryz.func49 (jeq ⟨ok_V29,ok_V33,ok_V34,trivial⟩) (run_V35 big)
def whu (rec:T30) (k:T14) (a0:Y1) (a3 a4 a10 a11 a18 a19 a26 a27:Int):Z10 :=
  cond (decide (a27<a26))
  ((a0).bind fun xq4 =>
  (atI xq4.2.1 a3).bind fun xq5 =>
  (a0).bind fun xq6 =>
  (atI xq6.2.2.1 a4).bind fun xq7 =>
  (atI xq7 a27).bind fun xq8 =>
  (atI xq5 xq8).bind fun xq9 =>
  (a0).bind fun xq10 =>
  (a0).bind fun xq11 =>
  (atI xq11.2.1 a3).bind fun xq12 =>
  (atI xq12 a4).bind fun xq13 =>
  (atI xq10.2.2.1 xq13).bind fun xq14 =>
  (a0).bind fun xq15 =>
  (atI xq15.2.1 a3).bind fun xq16 =>
  (atI xq16 a27).bind fun xq17 =>
  (atI xq14 xq17).bind fun xq18 =>
  cond (decide (xq9≠xq18))
  (some ((some [a3,a4,a27]),(())))
  (rec a0 a3 a4 a10 a11 a18 a19 a26 (IntKind.i64.wrap (a27+1))))
  (k a0 a3 a10 a11 a18 a19)
def wd6 (rec:T14) (a0:Y1) (a3 a10 a11 a18 a19:Int):Z10 :=
  rec a0 a3 a10 a11 a18 (IntKind.i64.wrap (a19+1))
def wd8 (L8:T30) (k:T37) (a0:Y1) (a3 a10 a11 a18 a19:Int):Z10 :=
  cond (decide (a19<a18))
  ((a0).bind fun xq3 =>
  L8 a0 a3 a19 a10 a11 a18 a19 (xq3.1.length:Int) 0)
  (k a0 a10 a11)
def y7 (rec:T37) (a0:Y1) (a10 a11:Int):Z10 :=
  rec a0 a10 (IntKind.i64.wrap (a11+1))
def wd7 (L5:T14) (k:Z10) (a0:Y1) (a10 a11:Int):Z10 :=
  cond (decide (a11<a10))
  ((a0).bind fun xq2 =>
  L5 a0 a11 a10 a11 (xq2.1.length:Int) 0)
  (k)
def y6:Z10 :=
  some (none,(()))
def w2y (L2:T37) (l_0:Y1):Z10 :=
  (l_0).bind fun xq1 =>
  L2 l_0 (xq1.1.length:Int) 0
def wu3 (N:Nat) (k:T14):=itN (fun r=>whu r k) fun _ _ _ _ _ _ _ _ _=>none
def whs (N:Nat) (rec:T14) (k:T37):=wu3 N (wd6 rec) N
def wu2 (N:Nat) (k:T37):=itN (fun r=>wd8 (whs N r k) k) fun _ _ _ _ _ _=>none
def whr (N:Nat) (rec:T37) (k:Z10):=wu2 N (y7 rec) N
def wu1 (N:Nat) (k:Z10):=itN (fun r=>wd7 (whr N r k) k) fun _ _ _=>none
def wu0 (N:Nat):=wu1 N (y6) N
def V36 (N:Nat) (l_0:Y1):Z10:=w2y (wu0 N) l_0
def S_V36:Sig:=⟨(.pair Q3 .unit),[0],[],.unit,(.ns I),.i,fun x=>V36 big x.1⟩
def A_V36:Cfg:=mkCfg tab [] [(4,([.as Q3 .i]++dr 9 [B0,B0])),(10,([.as Q3 .i,D0,D0,B0]++dr 6 ([B0,B0]++dr 6 [B0,B0]))),(31,[]),(16,([.as Q3 .i,D0,D0,B0,B0]++dr 5 ([B0,B0]++dr 6 ([B0,B0]++dr 6 [B0,B0])))),(29,([.as Q3 .i]++dr 9 [B0,B0])),(27,([.as Q3 .i,D0,D0,B0]++dr 6 ([B0,B0]++dr 6 [B0,B0])))]
noncomputable def wbi (N n:Nat) (K:Ex→St→Z10) (a0:Y1) (a10 a11:Int):Z10:=itr A_V36 N 4 Tryz.f110 [1,0,1,0,0] n (([.val Q3 .i a0]++ud 9 [W0 a10,W0 a11])++us 73) K
noncomputable def wbj (N n:Nat) (K:Ex→St→Z10) (a0:Y1) (a3 a10 a11 a18 a19:Int):Z10:=itr A_V36 N 10 Tryz.f110 [1,0,1,0,0,1,1,0,0,1,1,0,0] n (([.val Q3 .i a0,.u,.u,W0 a3]++ud 6 ([W0 a10,W0 a11]++ud 6 [W0 a18,W0 a19]))++us 65) K
noncomputable def wht (N n:Nat) (K:Ex→St→Z10) (a0:Y1) (a3 a4 a10 a11 a18 a19 a26 a27:Int):Z10:=itr A_V36 N 16 Tryz.f110 [1,0,1,0,0,1,1,0,0,1,1,0,0,1,1,0,0,1,1,0,0] n (([.val Q3 .i a0,.u,.u,W0 a3,W0 a4]++ud 5 ([W0 a10,W0 a11]++ud 6 ([W0 a18,W0 a19]++ud 6 [W0 a26,W0 a27])))++us 57) K
noncomputable def wnp:Ex→St→Z10:=finish A_V36 S_V36 Tryz.f110.results.toList
noncomputable def wnn (kX:T121):Z10:=kX ([]++us 85)
noncomputable def wd4 (kX:T121) (kO:T111):=exK wnp 0 (A_V36.shape 31) kX kO
noncomputable def wno (kX:T121) (a0:Y1) (a10 a11:Int):Z10:=kX (([.val Q3 .i a0]++ud 9 [W0 a10,W0 a11])++us 73)
noncomputable def wd5 (kX:T121) (kO:T111):=exK wnp 2 (A_V36.shape 29) kX kO
noncomputable def w82 (kX:T121) (a0:Y1) (a3 a10 a11 a18 a19:Int):Z10:=kX (([.val Q3 .i a0,.u,.u,W0 a3]++ud 6 ([W0 a10,W0 a11]++ud 6 [W0 a18,W0 a19]))++us 65)
noncomputable def w81 (kX:T121) (kO:T111):=exK wnp 4 (A_V36.shape 27) kX kO
theorem w85 (N kX kO):∀n,wht N n (w81 kX kO)=wu3 N (w82 kX) n :=
 itE rfl fun m=>by kernel_rfl
noncomputable def wnm (N m:Nat) (kX:T121) (kO:T111):=(blockK 4 (blockK 3 (sqK A_V36 N 27 500013 Tryz.f110 [1,0,1,0,0,1,1,0,0,1,1,0,0,1,1,1] (itK A_V36 N 10 Tryz.f110 [1,0,1,0,0,1,1,0,0,1,1,0,0] m (wd5 kX kO)))))
noncomputable def w88 (N m:Nat) (kX:T121) (kO:T111) (st':St):Z10:=rn A_V36 N Tryz.f110 [1,0,1,0,0,1,1,0,0,1,1,0,0,1,1,1] st' (itK A_V36 N 10 Tryz.f110 [1,0,1,0,0,1,1,0,0,1,1,0,0] m (wd5 kX kO))
theorem xja (N m kX kO) {r}(h:wbj N m (wd5 kX kO)=r):wht N N (wnm N m kX kO)=whs N r (wno kX):=by
 rw[show wht N N (wnm N m kX kO)=wht N N (w81 (w88 N m kX kO) fun j=>(wnm N m kX kO) (.exit j)) from(by funext _ _ _ _ _ _ _ _ _;exact jll),w85,show w82 (w88 N m kX kO)=wd6 (wbj N m (wd5 kX kO)) by kernel_rfl,h];rfl
theorem w84 (N kX kO):∀n,wbj N n (wd5 kX kO)=wu2 N (wno kX) n :=
 itE rfl fun m=>(show _=wd8 (wht N N (wnm N m kX kO)) (wno kX) by kernel_rfl).trans (by rw[xja N m kX kO rfl]<;>rfl)
noncomputable def wnl (N m:Nat) (kX:T121) (kO:T111):=(blockK 2 (blockK 1 (sqK A_V36 N 29 500014 Tryz.f110 [1,0,1,0,0,1,1,1] (itK A_V36 N 4 Tryz.f110 [1,0,1,0,0] m (wd4 kX kO)))))
noncomputable def w87 (N m:Nat) (kX:T121) (kO:T111) (st':St):Z10:=rn A_V36 N Tryz.f110 [1,0,1,0,0,1,1,1] st' (itK A_V36 N 4 Tryz.f110 [1,0,1,0,0] m (wd4 kX kO))
theorem xi9 (N m kX kO) {r}(h:wbi N m (wd4 kX kO)=r):wbj N N (wnl N m kX kO)=whr N r (wnn kX):=by
 rw[show wbj N N (wnl N m kX kO)=wbj N N (wd5 (w87 N m kX kO) fun j=>(wnl N m kX kO) (.exit j)) from(by funext _ _ _ _ _ _;exact jll),w84,show wno (w87 N m kX kO)=y7 (wbi N m (wd4 kX kO)) by kernel_rfl,h];rfl
theorem w83 (N kX kO):∀n,wbi N n (wd4 kX kO)=wu1 N (wnn kX) n :=
 itE rfl fun m=>(show _=wd7 (wbj N N (wnl N m kX kO)) (wnn kX) by kernel_rfl).trans (by rw[xi9 N m kX kO rfl]<;>rfl)
noncomputable def wnk (N:Nat):=(blockK 0 (sqK A_V36 N 31 500015 Tryz.f110 [1,1] wnp))
noncomputable def w86 (N:Nat) (st':St):Z10:=rn A_V36 N Tryz.f110 [1,1] st' wnp
theorem xi8 (N):wbi N N (wnk N)=wu0 N:=by
 rw[show wbi N N (wnk N)=wbi N N (wd4 (w86 N) fun j=>(wnk N) (.exit j)) from(by funext _ _ _;exact jll),w83,show wnn (w86 N)=y6 by kernel_rfl];rfl
theorem run_V36 (N x):runF A_V36 N Tryz.f110 S_V36 x=V36 N x.1:=(show _=(w2y (wbi N N (wnk N)) x.1) by kernel_rfl).trans (by rw[xi8 N];rfl)
theorem ok_V36:OK 110 S_V36:=gdR (A:=A_V36) tc Tryz.func110 (jeq trivial) (run_V36 big)
def w2z (p_0:Y2):Option ((Y1×(Bool×Unit))×Unit) :=
  (V35 p_0).bind fun rq1 =>
  cond rq1.1.2.1
  ((V36 big rq1.1.1).bind fun rq2 =>
  some ((rq1.1.1,rq2.1.isNone,()),(())))
  (some ((rq1.1.1,false,()),(())))
def V37 (p_0:Y2):Option ((Y1×(Bool×Unit))×Unit):=w2z p_0
def S_V37:Sig:=⟨Q15,[0],[],.unit,(.tup (.pair Q3 Q12)),.i,fun x=>V37 x.1⟩
def A_V37:Cfg:=mkCfg tab [(49,S_V35),(110,S_V36)] []
theorem run_V37 (N x):runF A_V37 N Tryz.f68 S_V37 x=V37 x.1:=by kernel_rfl
theorem ok_V37:OK 68 S_V37:=gdR (A:=A_V37) tc Tryz.func68 (jeq ⟨ok_V35,ok_V36,trivial⟩) (run_V37 big)
def whw (rec:T35) (k:T120) (a0:Y1) (a3 a9 a10:Int):Z6 :=
  cond (decide (a10<a9))
  ((a0).bind fun xq2 =>
  (atI xq2.2.1 a3).bind fun xq3 =>
  (atI xq3 a10).bind fun xq4 =>
  rec a0 xq4 a9 (IntKind.i64.wrap (a10+1)))
  (k a3)
def wd9 (a3:Int):Z6 :=
  some (a3,(()))
def w20 (L3:T35) (l_0:Y1):Z6 :=
  (l_0).bind fun xq1 =>
  L3 l_0 0 (xq1.1.length:Int) 0
def wu5 (N:Nat) (k:T120):=itN (fun r=>whw r k) fun _ _ _ _=>none
def wu4 (N:Nat):=wu5 N (wd9) N
def V38 (N:Nat) (l_0:Y1):Z6:=w20 (wu4 N) l_0
def S_V38:Sig:=⟨(.pair Q3 .unit),[0],[],.unit,I,.i,fun x=>V38 big x.1⟩
def A_V38:Cfg:=mkCfg tab [] [(6,([.as Q3 .i,D0,D0,B0]++dr 5 [B0,B0])),(15,(dr 3 [B0]))]
noncomputable def whv (N n:Nat) (K:T83) (a0:Y1) (a3 a9 a10:Int):Z6:=itr A_V38 N 6 Tryz.f102 [1,1,0,1,0,0] n (([.val Q3 .i a0,.u,.u,W0 a3]++ud 5 [W0 a9,W0 a10])++us 14) K
noncomputable def w21:Ex→St→Z6:=finish A_V38 S_V38 Tryz.f102.results.toList
noncomputable def w9a (kX:T55) (a3:Int):Z6:=kX ((ud 3 [W0 a3])++us 21)
noncomputable def w89 (kX:T55) (kO:T45):=exK w21 0 (A_V38.shape 15) kX kO
theorem w9b (N kX kO):∀n,whv N n (w89 kX kO)=wu5 N (w9a kX) n :=
 itE rfl fun m=>by kernel_rfl
noncomputable def wnq (N:Nat):=(blockK 0 (sqK A_V38 N 15 500007 Tryz.f102 [1,1,1] w21))
noncomputable def w9c (N:Nat) (st':St):Z6:=rn A_V38 N Tryz.f102 [1,1,1] st' w21
theorem xjb (N):whv N N (wnq N)=wu4 N:=by
 rw[show whv N N (wnq N)=whv N N (w89 (w9c N) fun j=>(wnq N) (.exit j)) from(by funext _ _ _ _;exact jll),w9b,show w9a (w9c N)=wd9 by kernel_rfl];rfl
theorem run_V38 (N x):runF A_V38 N Tryz.f102 S_V38 x=V38 N x.1:=(show _=(w20 (whv N N (wnq N)) x.1) by kernel_rfl).trans (by rw[xjb N];rfl)
theorem ok_V38:OK 102 S_V38:=gdR (A:=A_V38) tc Tryz.func102 (jeq trivial) (run_V38 big)
def why (rec:T35) (k:T120) (a0:Y1) (a3 a9 a10:Int):Z6 :=
  cond (decide (a10<a9))
  ((a0).bind fun xq2 =>
  (atI xq2.2.2.1 a3).bind fun xq3 =>
  (atI xq3 a10).bind fun xq4 =>
  rec a0 xq4 a9 (IntKind.i64.wrap (a10+1)))
  (k a3)
def wea (a3:Int):Z6 :=
  some (a3,(()))
def w22 (L3:T35) (l_0:Y1):Z6 :=
  (l_0).bind fun xq1 =>
  L3 l_0 0 (xq1.1.length:Int) 0
def wu7 (N:Nat) (k:T120):=itN (fun r=>why r k) fun _ _ _ _=>none
def wu6 (N:Nat):=wu7 N (wea) N
def V39 (N:Nat) (l_0:Y1):Z6:=w22 (wu6 N) l_0
def S_V39:Sig:=⟨(.pair Q3 .unit),[0],[],.unit,I,.i,fun x=>V39 big x.1⟩
def A_V39:Cfg:=mkCfg tab [] [(6,([.as Q3 .i,D0,D0,B0]++dr 5 [B0,B0])),(15,(dr 3 [B0]))]
noncomputable def whx (N n:Nat) (K:T83) (a0:Y1) (a3 a9 a10:Int):Z6:=itr A_V39 N 6 Tryz.f96 [1,1,0,1,0,0] n (([.val Q3 .i a0,.u,.u,W0 a3]++ud 5 [W0 a9,W0 a10])++us 14) K
noncomputable def w23:Ex→St→Z6:=finish A_V39 S_V39 Tryz.f96.results.toList
noncomputable def w9e (kX:T55) (a3:Int):Z6:=kX ((ud 3 [W0 a3])++us 21)
noncomputable def w9d (kX:T55) (kO:T45):=exK w23 0 (A_V39.shape 15) kX kO
theorem w9f (N kX kO):∀n,whx N n (w9d kX kO)=wu7 N (w9e kX) n :=
 itE rfl fun m=>by kernel_rfl
noncomputable def wnr (N:Nat):=(blockK 0 (sqK A_V39 N 15 500007 Tryz.f96 [1,1,1] w23))
noncomputable def w9g (N:Nat) (st':St):Z6:=rn A_V39 N Tryz.f96 [1,1,1] st' w23
theorem xjc (N):whx N N (wnr N)=wu6 N:=by
 rw[show whx N N (wnr N)=whx N N (w9d (w9g N) fun j=>(wnr N) (.exit j)) from(by funext _ _ _ _;exact jll),w9f,show w9e (w9g N)=wea by kernel_rfl];rfl
theorem run_V39 (N x):runF A_V39 N Tryz.f96 S_V39 x=V39 N x.1:=(show _=(w22 (whx N N (wnr N)) x.1) by kernel_rfl).trans (by rw[xjc N];rfl)
theorem ok_V39:OK 96 S_V39:=gdR (A:=A_V39) tc Tryz.func96 (jeq trivial) (run_V39 big)
def xgo (c_0:Int) (p_1:Y1) (p_2 p_3 p_4:Int):Z0 :=
  (p_1).bind fun xq1 =>
  (atI xq1.2.1 c_0).bind fun xq2 =>
  (atI xq2 p_2).bind fun xq3 =>
  cond (decide (xq3=p_3))
  ((p_1).bind fun xq4 =>
  (atI xq4.2.2.1 c_0).bind fun xq5 =>
  (atI xq5 p_2).bind fun xq6 =>
  some (decide (xq6=p_4),(())))
  (some (false,(())))
def V40 (c_0:Int) (p_1:Y1) (p_2 p_3 p_4:Int):Z0:=xgo c_0 p_1 p_2 p_3 p_4
def S_V40:Sig:=⟨(.pair I Q21),[0,0,0,0,0],[],.unit,.bool,.i,fun x=>V40 x.1 x.2.1 x.2.2.1 x.2.2.2.1 x.2.2.2.2.1⟩
def A_V40:Cfg:=mkCfg tab [] []
theorem run_V40 (N x):runF A_V40 N Tryz.f141 S_V40 x=V40 x.1 x.2.1 x.2.2.1 x.2.2.2.1 x.2.2.2.2.1:=by kernel_rfl
theorem ok_V40:OK 141 S_V40:=gdR (A:=A_V40) tc Tryz.func141 (jeq trivial) (run_V40 big)
def wh0 (rec:(Y1×(Int×Z1))→Y4→Int→Int→Z2) (k:T21) (a1:(Y1×(Int×Z1))) (a5:Y4) (a9 a10:Int):Z2 :=
  cond (decide (a10<a9))
  ((V40 a10 a1.1 a1.2.1 a1.2.2.1 a1.2.2.2.1).bind fun rq1 =>
  cond rq1.1
  ((appI a5 [a10]).bind fun xq2 =>
  rec a1 xq2 a9 (IntKind.i64.wrap (a10+1)))
  (rec a1 a5 a9 (IntKind.i64.wrap (a10+1))))
  (k a5)
def web (a5:Y4):Z2 :=
  some (a5,(()))
def w24 (L3:(Y1×(Int×Z1))→Y4→Int→Int→Z2) (o_0:Y5) (so_1:(Y1×(Int×Z1))):Z2 :=
  L3 so_1 [] (o_0.length:Int) 0
def wu9 (N:Nat) (k:T21):=itN (fun r=>wh0 r k) fun _ _ _ _=>none
def wu8 (N:Nat):=wu9 N (web) N
def V41 (N:Nat) (o_0:Y5) (so_1:(Y1×(Int×Z1))):Z2:=w24 (wu8 N) o_0 so_1
def S_V41:Sig:=⟨(.pair Q8 (.pair (.clo 141 0 Q21) .unit)),[0,0],[],.unit,Q6,O4,fun x=>V41 big x.1 x.2.1⟩
def A_V41:Cfg:=mkCfg tab [(141,S_V40)] [(6,([D0,.as (.clo 141 0 Q21) .i]++dr 3 ([B1]++dr 3 [B0,B0]))),(17,(dr 5 [B1]))]
noncomputable def whz (N n:Nat) (K:T18) (a1:(Y1×(Int×Z1))) (a5:Y4) (a9 a10:Int):Z2:=itr A_V41 N 6 Tryz.f94 [1,1,0,1,0,0] n (([.u,.val (.clo 141 0 Q21) .i a1]++ud 3 ([W1 a5]++ud 3 [W0 a9,W0 a10]))++us 11) K
noncomputable def w25:Ex→St→Z2:=finish A_V41 S_V41 Tryz.f94.results.toList
noncomputable def w9i (kX:T7) (a5:Y4):Z2:=kX ((ud 5 [W1 a5])++us 16)
noncomputable def w9h (kX:T7) (kO:T5):=exK w25 0 (A_V41.shape 17) kX kO
theorem w9j (N kX kO):∀n,whz N n (w9h kX kO)=wu9 N (w9i kX) n :=
 itE rfl fun m=>by kernel_rfl
noncomputable def wns (N:Nat):=(blockK 0 (sqK A_V41 N 17 500008 Tryz.f94 [1,1,1] w25))
noncomputable def w9k (N:Nat) (st':St):Z2:=rn A_V41 N Tryz.f94 [1,1,1] st' w25
theorem xjd (N):whz N N (wns N)=wu8 N:=by
 rw[show whz N N (wns N)=whz N N (w9h (w9k N) fun j=>(wns N) (.exit j)) from(by funext _ _ _ _;exact jll),w9j,show w9i (w9k N)=web by kernel_rfl];rfl
theorem run_V41 (N x):runF A_V41 N Tryz.f94 S_V41 x=V41 N x.1 x.2.1:=(show _=(w24 (whz N N (wns N)) x.1 x.2.1) by kernel_rfl).trans (by rw[xjd N];rfl)
theorem ok_V41:OK 94 S_V41:=gdR (A:=A_V41) tc Tryz.func94 (jeq ⟨ok_V40,trivial⟩) (run_V41 big)
def xgp (l_0:Y1) (x_1 y_2 z_3:Int):Z2 :=
  (l_0).bind fun xq1 =>
  (V41 big xq1.1 (l_0,y_2,x_1,z_3,())).bind fun rq2 =>
  some (rq2.1,(()))
def V42 (l_0:Y1) (x_1 y_2 z_3:Int):Z2:=xgp l_0 x_1 y_2 z_3
def S_V42:Sig:=⟨(.pair Q3 (.pair I Q9)),[0,0,0,0],[],.unit,Q6,O4,fun x=>V42 x.1 x.2.1 x.2.2.1 x.2.2.2.1⟩
def A_V42:Cfg:=mkCfg tab [(94,S_V41)] [(3,(dr 4 [.as (.ptr Q3) .i,.as (.ptr I) .i,.as (.ptr I) .i,.as (.ptr I) .i]))]
theorem run_V42 (N x):runF A_V42 N Tryz.f117 S_V42 x=V42 x.1 x.2.1 x.2.2.1 x.2.2.2.1:=by kernel_rfl
theorem ok_V42:OK 117 S_V42:=gdR (A:=A_V42) tc Tryz.func117 (jeq ⟨ok_V41,trivial⟩) (run_V42 big)
def xgq (l_0:Y1) (x_1:Int):Z2 :=
  (V38 big l_0).bind fun rq1 =>
  (V39 big l_0).bind fun rq2 =>
  (V42 l_0 rq1.1 x_1 rq2.1).bind fun rq3 =>
  some (rq3.1,(()))
def V43 (l_0:Y1) (x_1:Int):Z2:=xgq l_0 x_1
def S_V43:Sig:=⟨(.pair Q3 Q17),[0,0],[],.unit,Q6,O4,fun x=>V43 x.1 x.2.1⟩
def A_V43:Cfg:=mkCfg tab [(102,S_V38),(96,S_V39),(117,S_V42)] []
theorem run_V43 (N x):runF A_V43 N Tryz.f79 S_V43 x=V43 x.1 x.2.1:=by kernel_rfl
theorem ok_V43:OK 79 S_V43:=gdR (A:=A_V43) tc Tryz.func79 (jeq ⟨ok_V38,ok_V39,ok_V42,trivial⟩) (run_V43 big)
def xgr (x_0:Int) (p_1:Y1):Z0 :=
  (V43 p_1 x_0).bind fun rq1 =>
  some (decide ((rq1.1.length:Int)=0),(()))
def V44 (x_0:Int) (p_1:Y1):Z0:=xgr x_0 p_1
def S_V44:Sig:=⟨(.pair I (.pair (.ptr Q3) .unit)),[0,0],[],.unit,.bool,.i,fun x=>V44 x.1 x.2.1⟩
def A_V44:Cfg:=mkCfg tab [(79,S_V43)] []
theorem run_V44 (N x):runF A_V44 N Tryz.f112 S_V44 x=V44 x.1 x.2.1:=by kernel_rfl
theorem ok_V44:OK 112 S_V44:=gdR (A:=A_V44) tc Tryz.func112 (jeq ⟨ok_V43,trivial⟩) (run_V44 big)
def wh2 (rec:T76) (k:T21) (a1:(Y1×Unit)) (a5:Y4) (a9 a10:Int):Z2 :=
  cond (decide (a10<a9))
  ((V44 a10 a1.1).bind fun rq1 =>
  cond rq1.1
  ((appI a5 [a10]).bind fun xq2 =>
  rec a1 xq2 a9 (IntKind.i64.wrap (a10+1)))
  (rec a1 a5 a9 (IntKind.i64.wrap (a10+1))))
  (k a5)
def wec (a5:Y4):Z2 :=
  some (a5,(()))
def w26 (L3:T76) (o_0:Y5) (so_1:(Y1×Unit)):Z2 :=
  L3 so_1 [] (o_0.length:Int) 0
def wvb (N:Nat) (k:T21):=itN (fun r=>wh2 r k) fun _ _ _ _=>none
def wva (N:Nat):=wvb N (wec) N
def V45 (N:Nat) (o_0:Y5) (so_1:(Y1×Unit)):Z2:=w26 (wva N) o_0 so_1
def S_V45:Sig:=⟨(.pair Q8 (.pair (.clo 112 0 (.pair (.ptr Q3) .unit)) .unit)),[0,0],[],.unit,Q6,O4,fun x=>V45 big x.1 x.2.1⟩
def A_V45:Cfg:=mkCfg tab [(112,S_V44)] [(6,([D0,.as (.clo 112 0 (.pair (.ptr Q3) .unit)) .i]++dr 3 ([B1]++dr 3 [B0,B0]))),(17,(dr 5 [B1]))]
noncomputable def wh1 (N n:Nat) (K:T18) (a1:(Y1×Unit)) (a5:Y4) (a9 a10:Int):Z2:=itr A_V45 N 6 Tryz.f94 [1,1,0,1,0,0] n (([.u,.val (.clo 112 0 (.pair (.ptr Q3) .unit)) .i a1]++ud 3 ([W1 a5]++ud 3 [W0 a9,W0 a10]))++us 11) K
noncomputable def w27:Ex→St→Z2:=finish A_V45 S_V45 Tryz.f94.results.toList
noncomputable def w9m (kX:T7) (a5:Y4):Z2:=kX ((ud 5 [W1 a5])++us 16)
noncomputable def w9l (kX:T7) (kO:T5):=exK w27 0 (A_V45.shape 17) kX kO
theorem w9n (N kX kO):∀n,wh1 N n (w9l kX kO)=wvb N (w9m kX) n :=
 itE rfl fun m=>by kernel_rfl
noncomputable def wnt (N:Nat):=(blockK 0 (sqK A_V45 N 17 500008 Tryz.f94 [1,1,1] w27))
noncomputable def w9o (N:Nat) (st':St):Z2:=rn A_V45 N Tryz.f94 [1,1,1] st' w27
theorem xje (N):wh1 N N (wnt N)=wva N:=by
 rw[show wh1 N N (wnt N)=wh1 N N (w9l (w9o N) fun j=>(wnt N) (.exit j)) from(by funext _ _ _ _;exact jll),w9n,show w9m (w9o N)=wec by kernel_rfl];rfl
theorem run_V45 (N x):runF A_V45 N Tryz.f94 S_V45 x=V45 N x.1 x.2.1:=(show _=(w26 (wh1 N N (wnt N)) x.1 x.2.1) by kernel_rfl).trans (by rw[xje N];rfl)
theorem ok_V45:OK 94 S_V45:=gdR (A:=A_V45) tc Tryz.func94 (jeq ⟨ok_V44,trivial⟩) (run_V45 big)
def xgs (o_0:Y5) (so_1:(Y1×Unit)):Z0 :=
  (V45 big o_0 so_1).bind fun rq1 =>
  some (decide ((rq1.1.length:Int)=0),(()))
def V46 (o_0:Y5) (so_1:(Y1×Unit)):Z0:=xgs o_0 so_1
def S_V46:Sig:=⟨(.pair Q8 (.pair (.clo 112 0 (.pair (.ptr Q3) .unit)) .unit)),[0,0],[],.unit,.bool,.i,fun x=>V46 x.1 x.2.1⟩
def A_V46:Cfg:=mkCfg tab [(94,S_V45)] []
theorem run_V46 (N x):runF A_V46 N Tryz.f111 S_V46 x=V46 x.1 x.2.1:=by kernel_rfl
theorem ok_V46:OK 111 S_V46:=gdR (A:=A_V46) tc Tryz.func111 (jeq ⟨ok_V45,trivial⟩) (run_V46 big)
def xgt (l_0:Y1):Z0 :=
  (l_0).bind fun xq1 =>
  (V46 xq1.1 (l_0,())).bind fun rq2 =>
  some (rq2.1,(()))
def V47 (l_0:Y1):Z0:=xgt l_0
def S_V47:Sig:=⟨(.pair Q3 .unit),[0],[],.unit,.bool,.i,fun x=>V47 x.1⟩
def A_V47:Cfg:=mkCfg tab [(111,S_V46)] [(3,[D0,.as (.ptr Q3) .i])]
theorem run_V47 (N x):runF A_V47 N Tryz.f69 S_V47 x=V47 x.1:=by kernel_rfl
theorem ok_V47:OK 69 S_V47:=gdR (A:=A_V47) tc Tryz.func69 (jeq ⟨ok_V46,trivial⟩) (run_V47 big)
def w28 (p_0:Y2):Option ((Y1×(Bool×Unit))×Unit) :=
  (V37 p_0).bind fun rq1 =>
  cond rq1.1.2.1
  ((V47 rq1.1.1).bind fun rq2 =>
  some ((rq1.1.1,rq2.1,()),(())))
  (some ((rq1.1.1,false,()),(())))
def V48 (p_0:Y2):Option ((Y1×(Bool×Unit))×Unit):=w28 p_0
def S_V48:Sig:=⟨Q15,[0],[],.unit,(.tup (.pair Q3 Q12)),.i,fun x=>V48 x.1⟩
def A_V48:Cfg:=mkCfg tab [(68,S_V37),(69,S_V47)] []
theorem run_V48 (N x):runF A_V48 N Tryz.f28 S_V48 x=V48 x.1:=by kernel_rfl
theorem ok_V48:OK 28 S_V48:=gdR (A:=A_V48) tc Tryz.func28 (jeq ⟨ok_V37,ok_V47,trivial⟩) (run_V48 big)
def xgu (o_0:Y5) (list_1:Y4):Z0 :=
  (V27 big list_1 (o_0.length:Int)).bind fun rq1 =>
  some (rq1.1,(()))
def V49 (o_0:Y5) (list_1:Y4):Z0:=xgu o_0 list_1
def S_V49:Sig:=⟨(.pair Q8 Q10),[0,0],[],.unit,.bool,.i,fun x=>V49 x.1 x.2.1⟩
def A_V49:Cfg:=mkCfg tab [(70,S_V27)] []
theorem run_V49 (N x):runF A_V49 N Tryz.f29 S_V49 x=V49 x.1 x.2.1:=by kernel_rfl
theorem ok_V49:OK 29 S_V49:=gdR (A:=A_V49) tc Tryz.func29 (jeq ⟨ok_V27,trivial⟩) (run_V49 big)
def wh4 (rec:T104) (k:T21) (a0:Y1) (a3:Y4) (a10 a11:Int):Z2 :=
  cond (decide (a11<a10))
  ((V43 a0 a11).bind fun rq2 =>
  (atI rq2.1 0).bind fun _ =>
  (rq2.1[(0:Int).toNat]?).bind fun xq3 =>
  (appI a3 [xq3]).bind fun xq4 =>
  rec a0 xq4 a10 (IntKind.i64.wrap (a11+1)))
  (k a3)
def wed (a3:Y4):Z2 :=
  some (a3,(()))
def w29 (L3:T104) (l_0:Y1):Z2 :=
  (l_0).bind fun xq1 =>
  L3 l_0 [] (xq1.1.length:Int) 0
def wvd (N:Nat) (k:T21):=itN (fun r=>wh4 r k) fun _ _ _ _=>none
def wvc (N:Nat):=wvd N (wed) N
def V50 (N:Nat) (l_0:Y1):Z2:=w29 (wvc N) l_0
def S_V50:Sig:=⟨(.pair Q3 .unit),[0],[],.unit,Q6,O4,fun x=>V50 big x.1⟩
def A_V50:Cfg:=mkCfg tab [(79,S_V43)] [(6,([.as Q3 .i,D0,D0,B1]++dr 6 [B0,B0])),(15,(dr 3 [B1]))]
noncomputable def wh3 (N n:Nat) (K:T18) (a0:Y1) (a3:Y4) (a10 a11:Int):Z2:=itr A_V50 N 6 Tryz.f36 [1,1,0,1,0,0] n (([.val Q3 .i a0,.u,.u,W1 a3]++ud 6 [W0 a10,W0 a11])++us 12) K
noncomputable def w3a:Ex→St→Z2:=finish A_V50 S_V50 Tryz.f36.results.toList
noncomputable def w9q (kX:T7) (a3:Y4):Z2:=kX ((ud 3 [W1 a3])++us 20)
noncomputable def w9p (kX:T7) (kO:T5):=exK w3a 0 (A_V50.shape 15) kX kO
theorem w9r (N kX kO):∀n,wh3 N n (w9p kX kO)=wvd N (w9q kX) n :=
 itE rfl fun m=>by kernel_rfl
noncomputable def wnu (N:Nat):=(blockK 0 (sqK A_V50 N 15 500007 Tryz.f36 [1,1,1] w3a))
noncomputable def w9s (N:Nat) (st':St):Z2:=rn A_V50 N Tryz.f36 [1,1,1] st' w3a
theorem xjf (N):wh3 N N (wnu N)=wvc N:=by
 rw[show wh3 N N (wnu N)=wh3 N N (w9p (w9s N) fun j=>(wnu N) (.exit j)) from(by funext _ _ _ _;exact jll),w9r,show w9q (w9s N)=wed by kernel_rfl];rfl
theorem run_V50 (N x):runF A_V50 N Tryz.f36 S_V50 x=V50 N x.1:=(show _=(w29 (wh3 N N (wnu N)) x.1) by kernel_rfl).trans (by rw[xjf N];rfl)
theorem ok_V50:OK 36 S_V50:=gdR (A:=A_V50) tc Tryz.func36 (jeq ⟨ok_V43,trivial⟩) (run_V50 big)
def wvf (rec:T115) (k:T16) (a0 a3:Y4) (a4 a9 a10:Int):Z2 :=
  (atI a3 a4).bind fun _ =>
  (a3[a4.toNat]?).bind fun xq4 =>
  (atI a0 xq4).bind fun xq5 =>
  (atI a0 a4).bind fun xq6 =>
  cond (decide (xq5≠xq6))
  ((atI a3 a4).bind fun _ =>
  (a3[a4.toNat]?).bind fun xq7 =>
  (atI a3 a4).bind fun _ =>
  (a3[a4.toNat]?).bind fun xq8 =>
  rec a0 (a3.set a4.toNat (IntKind.i64.wrap (xq7+1))) a4 a9 a10)
  (k a0 a3 a9 a10)
def wh7 (rec:T16) (a0 a3:Y4) (a9 a10:Int):Z2 :=
  rec a0 a3 a9 (IntKind.i64.wrap (a10+1))
def wef (L6:T115) (k:T21) (a0 a3:Y4) (a9 a10:Int):Z2 :=
  cond (decide (a10<a9))
  ((atI a3 a10).bind fun _ =>
  (a3[a10.toNat]?).bind fun xq3 =>
  L6 a0 (a3.set a10.toNat 0) a10 a9 a10)
  (k a3)
def y8 (a3:Y4):Z2 :=
  some (a3,(()))
def w3b (L3:T16) (list_0:Y4):Z2 :=
  (mkI (0:Int) (list_0.length:Int)).bind fun xq1=>(mkI (0:Int) (list_0.length:Int)).bind fun xq2=>cond (decide ((list_0.length:Int)≤(list_0.length:Int)))
  (L3 list_0 xq2 (list_0.length:Int) 0)
  none
def wvh (N:Nat) (k:T16):=itN (fun r=>wvf r k) fun _ _ _ _ _=>none
def wh5 (N:Nat) (rec:T16) (k:T21):=wvh N (wh7 rec) N
def wvg (N:Nat) (k:T21):=itN (fun r=>wef (wh5 N r k) k) fun _ _ _ _=>none
def wve (N:Nat):=wvg N (y8) N
def V51 (N:Nat) (list_0:Y4):Z2:=w3b (wve N) list_0
def S_V51:Sig:=⟨Q10,[0],[],.unit,Q6,O4,fun x=>V51 big x.1⟩
def A_V51:Cfg:=mkCfg tab [] [(6,([B4,D0,D0,B1]++dr 5 [B0,B0])),(12,([B4,D0,D0,B1,B0]++dr 4 [B0,B0])),(19,(dr 3 [B1])),(17,([B4,D0,D0,B1]++dr 5 [B0,B0]))]
noncomputable def wbk (N n:Nat) (K:T18) (a0 a3:Y4) (a9 a10:Int):Z2:=itr A_V51 N 6 Tryz.f71 [1,1,0,1,0,0] n (([W4 a0,.u,.u,W1 a3]++ud 5 [W0 a9,W0 a10])++us 25) K
noncomputable def wh6 (N n:Nat) (K:T18) (a0 a3:Y4) (a4 a9 a10:Int):Z2:=itr A_V51 N 12 Tryz.f71 [1,1,0,1,0,0,1,1,0,0,1,1,0,0] n (([W4 a0,.u,.u,W1 a3,W0 a4]++ud 4 [W0 a9,W0 a10])++us 25) K
noncomputable def wsi:Ex→St→Z2:=finish A_V51 S_V51 Tryz.f71.results.toList
noncomputable def wnx (kX:T7) (a3:Y4):Z2:=kX ((ud 3 [W1 a3])++us 32)
noncomputable def wee (kX:T7) (kO:T5):=exK wsi 0 (A_V51.shape 19) kX kO
noncomputable def w9u (kX:T7) (a0 a3:Y4) (a9 a10:Int):Z2:=kX (([W4 a0,.u,.u,W1 a3]++ud 5 [W0 a9,W0 a10])++us 25)
noncomputable def w9t (kX:T7) (kO:T5):=exK wsi 2 (A_V51.shape 17) kX kO
theorem w9w (N kX kO):∀n,wh6 N n (w9t kX kO)=wvh N (w9u kX) n :=
 itE rfl fun m=>by kernel_rfl
noncomputable def wnw (N m:Nat) (kX:T7) (kO:T5):=(blockK 2 (blockK 1 (sqK A_V51 N 17 500008 Tryz.f71 [1,1,0,1,0,0,1,1,1] (itK A_V51 N 6 Tryz.f71 [1,1,0,1,0,0] m (wee kX kO)))))
noncomputable def w9y (N m:Nat) (kX:T7) (kO:T5) (st':St):Z2:=rn A_V51 N Tryz.f71 [1,1,0,1,0,0,1,1,1] st' (itK A_V51 N 6 Tryz.f71 [1,1,0,1,0,0] m (wee kX kO))
theorem xjh (N m kX kO) {r}(h:wbk N m (wee kX kO)=r):wh6 N N (wnw N m kX kO)=wh5 N r (wnx kX):=by
 rw[show wh6 N N (wnw N m kX kO)=wh6 N N (w9t (w9y N m kX kO) fun j=>(wnw N m kX kO) (.exit j)) from(by funext _ _ _ _ _;exact jll),w9w,show w9u (w9y N m kX kO)=wh7 (wbk N m (wee kX kO)) by kernel_rfl,h];rfl
theorem w9v (N kX kO):∀n,wbk N n (wee kX kO)=wvg N (wnx kX) n :=
 itE rfl fun m=>(show _=wef (wh6 N N (wnw N m kX kO)) (wnx kX) by kernel_rfl).trans (by rw[xjh N m kX kO rfl]<;>rfl)
noncomputable def wnv (N:Nat):=(blockK 0 (sqK A_V51 N 19 500009 Tryz.f71 [1,1,1] wsi))
noncomputable def w9x (N:Nat) (st':St):Z2:=rn A_V51 N Tryz.f71 [1,1,1] st' wsi
theorem xjg (N):wbk N N (wnv N)=wve N:=by
 rw[show wbk N N (wnv N)=wbk N N (wee (w9x N) fun j=>(wnv N) (.exit j)) from(by funext _ _ _ _;exact jll),w9v,show wnx (w9x N)=y8 by kernel_rfl];rfl
theorem run_V51 (N x):runF A_V51 N Tryz.f71 S_V51 x=V51 N x.1:=(show _=(w3b (wbk N N (wnv N)) x.1) by kernel_rfl).trans (by rw[xjg N];rfl)
theorem ok_V51:OK 71 S_V51:=gdR (A:=A_V51) tc Tryz.func71 (jeq trivial) (run_V51 big)
def xgv (l_0:Y1) (x_1:Int):Z2 :=
  (V50 big l_0).bind fun rq1 =>
  (atI rq1.1 x_1).bind fun _ =>
  (rq1.1[x_1.toNat]?).bind fun xq2 =>
  (l_0).bind fun xq3 =>
  (atI xq3.2.1 xq2).bind fun xq4 =>
  (V51 big xq4).bind fun rq5 =>
  some (rq5.1,(()))
def V52 (l_0:Y1) (x_1:Int):Z2:=xgv l_0 x_1
def S_V52:Sig:=⟨(.pair Q3 Q17),[0,0],[],.unit,Q6,O4,fun x=>V52 x.1 x.2.1⟩
def A_V52:Cfg:=mkCfg tab [(36,S_V50),(71,S_V51)] []
theorem run_V52 (N x):runF A_V52 N Tryz.f30 S_V52 x=V52 x.1 x.2.1:=by kernel_rfl
theorem ok_V52:OK 30 S_V52:=gdR (A:=A_V52) tc Tryz.func30 (jeq ⟨ok_V50,ok_V51,trivial⟩) (run_V52 big)
def xgw (p_0:Y2) (x_1:Int):Z8 :=
  (V48 p_0).bind fun rq1 =>
  cond (!rq1.1.2.1)
  (some (([],false,()),(())))
  ((rq1.1.1).bind fun xq2 =>
  (V49 xq2.1 [x_1]).bind fun rq3 =>
  cond (!rq3.1)
  (some (([],false,()),(())))
  ((V52 rq1.1.1 x_1).bind fun rq4 =>
  some ((rq4.1,true,()),(()))))
def V53 (p_0:Y2) (x_1:Int):Z8:=xgw p_0 x_1
def S_V53:Sig:=⟨(.pair Q0 Q17),[0,0],[],.unit,(.tup (.pair Q6 Q12)),(.p O4 .i),fun x=>V53 x.1 x.2.1⟩
def A_V53:Cfg:=mkCfg tab [(28,S_V48),(29,S_V49),(30,S_V52)] []
theorem run_V53 (N x):runF A_V53 N Tryz.f6 S_V53 x=V53 x.1 x.2.1:=by kernel_rfl
theorem ok_V53:OK 6 S_V53:=gdR (A:=A_V53) tc Tryz.func6 (jeq ⟨ok_V48,ok_V49,ok_V52,trivial⟩) (run_V53 big)
def wvk (rec:Y4→Int→Int→Int→Z0) (k:Z0) (a0:Y4) (a1 a2 a7:Int):Z0 :=
  cond (decide (a7<(a0.length:Int)))
  ((atI a0 a7).bind fun xq1 =>
  (V6 xq1 a1 a2).bind fun rq2 =>
  cond (!rq2.1)
  (some (false,(())))
  (cond (decide (0<a7))
  ((atI a0 (IntKind.i64.wrap (a7-1))).bind fun xq3 =>
  (atI a0 a7).bind fun xq4 =>
  cond (decide (xq4≤xq3))
  (some (false,(())))
  (rec a0 a1 a2 (IntKind.i64.wrap (a7+1))))
  (rec a0 a1 a2 (IntKind.i64.wrap (a7+1)))))
  (k)
def wh8:Z0 :=
  some (true,(()))
def w3c (L2:Y4→Int→Int→Int→Z0) (l_0:Y4) (lo_1 hi_2:Int):Z0 :=
  L2 l_0 lo_1 hi_2 0
def weg (N:Nat) (k:Z0):Nat→Y4→Int→Int→Int→Z0
  | 0,_,_,_,_=>none
  | m+1,a0,a1,a2,a7=>wvk (weg N k m) k a0 a1 a2 a7
def wvi (N:Nat):=weg N (wh8) N
def V54 (N:Nat) (l_0:Y4) (lo_1 hi_2:Int):Z0:=w3c (wvi N) l_0 lo_1 hi_2
def S_V54:Sig:=⟨(.pair Q6 Q9),[0,0,0],[],.unit,.bool,.i,fun x=>V54 big x.1 x.2.1 x.2.2.1⟩
def A_V54:Cfg:=mkCfg tab [(133,S_V6)] [(4,([B4,B0,B0]++dr 4 [B0])),(13,[])]
noncomputable def wbl (N n:Nat) (K:T12) (a0:Y4) (a1 a2 a7:Int):Z0:=itr A_V54 N 4 Tryz.f97 [1,0,1,0,0] n (([W4 a0,W0 a1,W0 a2]++ud 4 [W0 a7])++us 30) K
noncomputable def w3d:Ex→St→Z0:=finish A_V54 S_V54 Tryz.f97.results.toList
noncomputable def wvj (kX:T3):Z0:=kX ([]++us 38)
noncomputable def wny (kX:T3) (kO:T2):=exK w3d 0 (A_V54.shape 13) kX kO
theorem wrw (N kX kO):∀n,wbl N n (wny kX kO)=weg N (wvj kX) n
 | 0=>rfl
 | m+1=>(show wbl N (m+1) (wny kX kO)=wvk (wbl N m (wny kX kO)) (wvj kX) by kernel_rfl).trans (by rw[wrw N kX kO m];funext _ _ _ _;rfl)
noncomputable def wnz (N:Nat):=(blockK 0 (sqK A_V54 N 13 500006 Tryz.f97 [1,1] w3d))
noncomputable def w9z (N:Nat) (st':St):Z0:=rn A_V54 N Tryz.f97 [1,1] st' w3d
theorem xji (N):wbl N N (wnz N)=wvi N:=by
 rw[show wbl N N (wnz N)=wbl N N (wny (w9z N) fun j=>(wnz N) (.exit j)) from(by funext _ _ _ _;exact jll),wrw,show wvj (w9z N)=wh8 by kernel_rfl];rfl
theorem run_V54 (N x):runF A_V54 N Tryz.f97 S_V54 x=V54 N x.1 x.2.1 x.2.2.1:=(show _=(w3c (wbl N N (wnz N)) x.1 x.2.1 x.2.2.1) by kernel_rfl).trans (by rw[xji N];rfl)
theorem ok_V54:OK 97 S_V54:=gdR (A:=A_V54) tc Tryz.func97 (jeq ⟨ok_V6,trivial⟩) (run_V54 big)
def wia (rec:T17) (k:Z0) (a0 a1:Y4) (a5:Int):Z0 :=
  cond (decide (a5<(a0.length:Int)))
  ((atI a0 a5).bind fun xq1 =>
  (V14 big a1 xq1).bind fun rq2 =>
  cond (!rq2.1)
  (some (false,(())))
  (rec a0 a1 (IntKind.i64.wrap (a5+1))))
  (k)
def weh:Z0 :=
  some (true,(()))
def w3e (L2:T17) (x_0 y_1:Y4):Z0 :=
  L2 x_0 y_1 0
def wvm (N:Nat) (k:Z0):=itN (fun r=>wia r k) fun _ _ _=>none
def wvl (N:Nat):=wvm N (weh) N
def V55 (N:Nat) (x_0 y_1:Y4):Z0:=w3e (wvl N) x_0 y_1
def S_V55:Sig:=⟨(.pair Q6 Q10),[0,0],[],.unit,.bool,.i,fun x=>V55 big x.1 x.2.1⟩
def A_V55:Cfg:=mkCfg tab [(73,S_V14)] [(4,([B4,B4]++dr 3 [B0])),(13,[])]
noncomputable def wh9 (N n:Nat) (K:T12) (a0 a1:Y4) (a5:Int):Z0:=itr A_V55 N 4 Tryz.f100 [1,0,1,0,0] n (([W4 a0,W4 a1]++ud 3 [W0 a5])++us 13) K
noncomputable def w3f:Ex→St→Z0:=finish A_V55 S_V55 Tryz.f100.results.toList
noncomputable def w91 (kX:T3):Z0:=kX ([]++us 19)
noncomputable def w90 (kX:T3) (kO:T2):=exK w3f 0 (A_V55.shape 13) kX kO
theorem w92 (N kX kO):∀n,wh9 N n (w90 kX kO)=wvm N (w91 kX) n :=
 itE rfl fun m=>by kernel_rfl
noncomputable def wn0 (N:Nat):=(blockK 0 (sqK A_V55 N 13 500006 Tryz.f100 [1,1] w3f))
noncomputable def w93 (N:Nat) (st':St):Z0:=rn A_V55 N Tryz.f100 [1,1] st' w3f
theorem xjj (N):wh9 N N (wn0 N)=wvl N:=by
 rw[show wh9 N N (wn0 N)=wh9 N N (w90 (w93 N) fun j=>(wn0 N) (.exit j)) from(by funext _ _ _;exact jll),w92,show w91 (w93 N)=weh by kernel_rfl];rfl
theorem run_V55 (N x):runF A_V55 N Tryz.f100 S_V55 x=V55 N x.1 x.2.1:=(show _=(w3e (wh9 N N (wn0 N)) x.1 x.2.1) by kernel_rfl).trans (by rw[xjj N];rfl)
theorem ok_V55:OK 100 S_V55:=gdR (A:=A_V55) tc Tryz.func100 (jeq ⟨ok_V14,trivial⟩) (run_V55 big)
def wel (rec:T97) (k:T29) (a1:Y2) (a3 a5 a6:Int):Z0 :=
  (atI a1.1 a5).bind fun xq5 =>
  cond (decide (a6<(xq5.length:Int)))
  ((atI a1.1 a5).bind fun xq6 =>
  (atI xq6 a6).bind fun xq7 =>
  cond (decide (xq7≠a5))
  ((atI a1.1 xq7).bind fun xq8 =>
  (V14 big xq8 a5).bind fun rq9 =>
  cond rq9.1
  (some (false,(())))
  ((atI a1.1 xq7).bind fun xq10 =>
  (atI a1.1 a5).bind fun xq11 =>
  (V55 big xq10 xq11).bind fun rq12 =>
  cond (!rq12.1)
  (some (false,(())))
  (rec a1 a3 a5 (IntKind.i64.wrap (a6+1)))))
  ((atI a1.1 xq7).bind fun xq13 =>
  (atI a1.1 a5).bind fun xq14 =>
  (V55 big xq13 xq14).bind fun rq15 =>
  cond (!rq15.1)
  (some (false,(())))
  (rec a1 a3 a5 (IntKind.i64.wrap (a6+1)))))
  (k a1 a3 a5)
def wat (rec:T29) (a1:Y2) (a3 a5:Int):Z0 :=
  rec a1 a3 (IntKind.i64.wrap (a5+1))
def wau (L13:T97) (k:Z0) (a1:Y2) (a3 a5:Int):Z0 :=
  cond (decide (a5<a3))
  (L13 a1 a3 a5 0)
  (k)
def xr:Z0 :=
  some (true,(()))
def wic (rec:T29) (k:Y2→Int→Z0) (a1:Y2) (a3 a4:Int):Z0 :=
  cond (decide (a4<a3))
  ((atI a1.1 a4).bind fun xq1 =>
  (V54 big xq1 0 (IntKind.i64.wrap (a3-1))).bind fun rq2 =>
  cond (!rq2.1)
  (some (false,(())))
  ((atI a1.1 a4).bind fun xq3 =>
  (V14 big xq3 a4).bind fun rq4 =>
  cond (!rq4.1)
  (some (false,(())))
  (rec a1 a3 (IntKind.i64.wrap (a4+1)))))
  (k a1 a3)
def wek (L10:T29) (a1:Y2) (a3:Int):Z0 :=
  L10 a1 a3 0
def w3i (L5:T29) (p_0:Y2):Z0 :=
  cond (decide (10<(p_0.1.length:Int)))
  (some (false,(())))
  (L5 p_0 (p_0.1.length:Int) 0)
def wrd (N:Nat) (k:T29):=itN (fun r=>wel r k) fun _ _ _ _=>none
def wei (N:Nat) (rec:T29) (k:Z0):=wrd N (wat rec) N
def wvo (N:Nat) (k:Y2→Int→Z0):=itN (fun r=>wic r k) fun _ _ _=>none
def wrc (N:Nat) (k:Z0):=itN (fun r=>wau (wei N r k) k) fun _ _ _=>none
def war (N:Nat):=wrc N (xr) N
def wvn (N:Nat):=wvo N (wek (war N)) N
def V56 (N:Nat) (p_0:Y2):Z0:=w3i (wvn N) p_0
def S_V56:Sig:=⟨Q15,[0],[],.unit,.bool,.i,fun x=>V56 big x.1⟩
def A_V56:Cfg:=mkCfg tab [(97,S_V54),(73,S_V14),(100,S_V55)] [(10,[D0,B3,D0,B0,B0]),(19,[D0,B3,D0,B0]),(20,[D0,B3,D0,B0,D0,B0]),(26,[D0,B3,D0,B0,D0,B0,B0]),(37,[]),(23,[D0,B3,D0,B0,D0,B0])]
noncomputable def wib (N n:Nat) (K:T12) (a1:Y2) (a3 a4:Int):Z0:=itr A_V56 N 10 Tryz.f89 [1,1,1,0,1,0,0] n ([.u,W3 a1,.u,W0 a3,W0 a4]++us 81) K
noncomputable def ym (N n:Nat) (K:T12) (a1:Y2) (a3 a5:Int):Z0:=itr A_V56 N 20 Tryz.f89 [1,1,1,1,0,1,0,0] n ([.u,W3 a1,.u,W0 a3,.u,W0 a5]++us 80) K
noncomputable def wej (N n:Nat) (K:T12) (a1:Y2) (a3 a5 a6:Int):Z0:=itr A_V56 N 26 Tryz.f89 [1,1,1,1,0,1,0,0,1,0,0,1,0,0] n ([.u,W3 a1,.u,W0 a3,.u,W0 a5,W0 a6]++us 79) K
noncomputable def wgd:Ex→St→Z0:=finish A_V56 S_V56 Tryz.f89.results.toList
noncomputable def w95 (kX:T3) (a1:Y2) (a3:Int):Z0:=kX ([.u,W3 a1,.u,W0 a3]++us 82)
noncomputable def w94 (kX:T3) (kO:T2):=exK wgd 0 (A_V56.shape 19) kX kO
noncomputable def wk6 (kX:T3):Z0:=kX ([]++us 86)
noncomputable def waq (kX:T3) (kO:T2):=exK wgd 2 (A_V56.shape 37) kX kO
noncomputable def w0p (kX:T3) (a1:Y2) (a3 a5:Int):Z0:=kX ([.u,W3 a1,.u,W0 a3,.u,W0 a5]++us 80)
noncomputable def w0o (kX:T3) (kO:T2):=exK wgd 4 (A_V56.shape 23) kX kO
theorem w96 (N kX kO):∀n,wib N n (w94 kX kO)=wvo N (w95 kX) n :=
 itE rfl fun m=>by kernel_rfl
noncomputable def wn1 (N:Nat):=(blockK 0 (sqK A_V56 N 19 500009 Tryz.f89 [1,1,1,1] wgd))
theorem w3h (N kX kO):∀n,wej N n (w0o kX kO)=wrd N (w0p kX) n :=
 itE rfl fun m=>by kernel_rfl
noncomputable def wk5 (N m:Nat) (kX:T3) (kO:T2):=(blockK 4 (blockK 3 (sqK A_V56 N 23 500011 Tryz.f89 [1,1,1,1,0,1,0,0,1,1] (itK A_V56 N 20 Tryz.f89 [1,1,1,1,0,1,0,0] m (waq kX kO)))))
noncomputable def w0r (N m:Nat) (kX:T3) (kO:T2) (st':St):Z0:=rn A_V56 N Tryz.f89 [1,1,1,1,0,1,0,0,1,1] st' (itK A_V56 N 20 Tryz.f89 [1,1,1,1,0,1,0,0] m (waq kX kO))
theorem xfc (N m kX kO) {r}(h:ym N m (waq kX kO)=r):wej N N (wk5 N m kX kO)=wei N r (wk6 kX):=by
 rw[show wej N N (wk5 N m kX kO)=wej N N (w0o (w0r N m kX kO) fun j=>(wk5 N m kX kO) (.exit j)) from(by funext _ _ _ _;exact jll),w3h,show w0p (w0r N m kX kO)=wat (ym N m (waq kX kO)) by kernel_rfl,h];rfl
theorem w3g (N kX kO):∀n,ym N n (waq kX kO)=wrc N (wk6 kX) n :=
 itE rfl fun m=>(show _=wau (wej N N (wk5 N m kX kO)) (wk6 kX) by kernel_rfl).trans (by rw[xfc N m kX kO rfl]<;>rfl)
noncomputable def wk4 (N:Nat):=(blockK 2 (sqK A_V56 N 37 500018 Tryz.f89 [1,1,1,1,1] wgd))
noncomputable def w0q (N:Nat) (st':St):Z0:=rn A_V56 N Tryz.f89 [1,1,1,1,1] st' wgd
theorem xfb (N):ym N N (wk4 N)=war N:=by
 rw[show ym N N (wk4 N)=ym N N (waq (w0q N) fun j=>(wk4 N) (.exit j)) from(by funext _ _ _;exact jll),w3g,show wk6 (w0q N)=xr by kernel_rfl];rfl
noncomputable def w97 (N:Nat) (st':St):Z0:=rn A_V56 N Tryz.f89 [1,1,1,1] st' wgd
theorem xjm (N):wib N N (wn1 N)=wvn N:=by
 rw[show wib N N (wn1 N)=wib N N (w94 (w97 N) fun j=>(wn1 N) (.exit j)) from(by funext _ _ _;exact jll),w96,show w95 (w97 N)=wek (ym N N (wk4 N)) by kernel_rfl,xfb N];rfl
theorem run_V56 (N x):runF A_V56 N Tryz.f89 S_V56 x=V56 N x.1:=(show _=(w3i (wib N N (wn1 N)) x.1) by kernel_rfl).trans (by rw[xjm N];rfl)
theorem ok_V56:OK 89 S_V56:=gdR (A:=A_V56) tc Tryz.func89 (jeq ⟨ok_V54,ok_V14,ok_V55,trivial⟩) (run_V56 big)
def wif (rec:T74) (k:Y2→Y2→Y2→Int→Y4→Z4) (a1 a2 a3:Y2) (a4:Int) (a5:Y4) (a6:Int):Z4 :=
  cond (decide (a6<(a1.1.length:Int)))
  ((V15 a1 a4 a6).bind fun rq1 =>
  cond rq1.1
  ((appI a5 [a6]).bind fun xq2 =>
  rec a1 a2 a3 a4 xq2 (IntKind.i64.wrap (a6+1)))
  (rec a1 a2 a3 a4 a5 (IntKind.i64.wrap (a6+1))))
  (k a1 a2 a3 a4 a5)
def wen (rec:T72) (a1 a2 a3:Y2) (a4:Int) (a5:Y4):Z4 :=
  (appI a3.1 [a5]).bind fun xq3 =>
  rec a1 a2 (xq3,((),a3.2).2) (IntKind.i64.wrap (a4+1))
def weo (L7:T74) (k:T53) (a1 a2 a3:Y2) (a4:Int):Z4 :=
  cond (decide (a4<(a1.1.length:Int)))
  (L7 a1 a2 a3 a4 [] 0)
  (k a2 a3)
def y9 (a2 a3:Y2):Z4 :=
  some (a3,(()))
def w3j (L3:T72) (p_0:Y2):Z4 :=
  L3 p_0 (([]:Y3),()) ([],()) 0
def wvr (N:Nat) (k:Y2→Y2→Y2→Int→Y4→Z4):=itN (fun r=>wif r k) fun _ _ _ _ _ _=>none
def wid (N:Nat) (rec:T72) (k:T53):=wvr N (wen rec) N
def wvq (N:Nat) (k:T53):=itN (fun r=>weo (wid N r k) k) fun _ _ _ _=>none
def wvp (N:Nat):=wvq N (y9) N
def V57 (N:Nat) (p_0:Y2):Z4:=w3j (wvp N) p_0
def S_V57:Sig:=⟨Q15,[0],[],.unit,Q0,(.p O11 .i),fun x=>V57 big x.1⟩
def A_V57:Cfg:=mkCfg tab [(76,S_V15)] [(6,[D0,B3,B2,B2,B0]),(14,[D0,B3,B2,B2,B0,B1,B0]),(25,[D0,D0,B2,B2]),(23,[D0,B3,B2,B2,B0,B1])]
noncomputable def wbm (N n:Nat) (K:T44) (a1 a2 a3:Y2) (a4:Int):Z4:=itr A_V57 N 6 Tryz.f90 [1,1,0,1,0,0] n ([.u,W3 a1,W2 a2,W2 a3,W0 a4]++us 34) K
noncomputable def wie (N n:Nat) (K:T44) (a1 a2 a3:Y2) (a4:Int) (a5:Y4) (a6:Int):Z4:=itr A_V57 N 14 Tryz.f90 [1,1,0,1,0,0,1,0,0,1,0,1,0,0] n ([.u,W3 a1,W2 a2,W2 a3,W0 a4,W1 a5,W0 a6]++us 32) K
noncomputable def wsj:Ex→St→Z4:=finish A_V57 S_V57 Tryz.f90.results.toList
noncomputable def wn4 (kX:T13) (a2 a3:Y2):Z4:=kX ([.u,.u,W2 a2,W2 a3]++us 35)
noncomputable def wem (kX:T13) (kO:T4):=exK wsj 0 (A_V57.shape 25) kX kO
noncomputable def w99 (kX:T13) (a1 a2 a3:Y2) (a4:Int) (a5:Y4):Z4:=kX ([.u,W3 a1,W2 a2,W2 a3,W0 a4,W1 a5]++us 33)
noncomputable def w98 (kX:T13) (kO:T4):=exK wsj 2 (A_V57.shape 23) kX kO
theorem xab (N kX kO):∀n,wie N n (w98 kX kO)=wvr N (w99 kX) n :=
 itE rfl fun m=>by kernel_rfl
noncomputable def wn3 (N m:Nat) (kX:T13) (kO:T4):=(blockK 2 (sqK A_V57 N 23 500011 Tryz.f90 [1,1,0,1,0,0,1,0,0,1,1] (blockK 1 (sqK A_V57 N 9 500004 Tryz.f90 [1,1,0,1,0,0,1,1] (itK A_V57 N 6 Tryz.f90 [1,1,0,1,0,0] m (wem kX kO))))))
noncomputable def xad (N m:Nat) (kX:T13) (kO:T4) (st':St):Z4:=rn A_V57 N Tryz.f90 [1,1,0,1,0,0,1,0,0,1,1] st' (blockK 1 (sqK A_V57 N 9 500004 Tryz.f90 [1,1,0,1,0,0,1,1] (itK A_V57 N 6 Tryz.f90 [1,1,0,1,0,0] m (wem kX kO))))
theorem xjo (N m kX kO) {r}(h:wbm N m (wem kX kO)=r):wie N N (wn3 N m kX kO)=wid N r (wn4 kX):=by
 rw[show wie N N (wn3 N m kX kO)=wie N N (w98 (xad N m kX kO) fun j=>(wn3 N m kX kO) (.exit j)) from(by funext _ _ _ _ _ _;exact jll),xab,show w99 (xad N m kX kO)=wen (wbm N m (wem kX kO)) by kernel_rfl,h];rfl
theorem xaa (N kX kO):∀n,wbm N n (wem kX kO)=wvq N (wn4 kX) n :=
 itE rfl fun m=>(show _=weo (wie N N (wn3 N m kX kO)) (wn4 kX) by kernel_rfl).trans (by rw[xjo N m kX kO rfl]<;>rfl)
noncomputable def wn2 (N:Nat):=(blockK 0 (sqK A_V57 N 25 500012 Tryz.f90 [1,1,1] wsj))
noncomputable def xac (N:Nat) (st':St):Z4:=rn A_V57 N Tryz.f90 [1,1,1] st' wsj
theorem xjn (N):wbm N N (wn2 N)=wvp N:=by
 rw[show wbm N N (wn2 N)=wbm N N (wem (xac N) fun j=>(wn2 N) (.exit j)) from(by funext _ _ _ _;exact jll),xaa,show wn4 (xac N)=y9 by kernel_rfl];rfl
theorem run_V57 (N x):runF A_V57 N Tryz.f90 S_V57 x=V57 N x.1:=(show _=(w3j (wbm N N (wn2 N)) x.1) by kernel_rfl).trans (by rw[xjn N];rfl)
theorem ok_V57:OK 90 S_V57:=gdR (A:=A_V57) tc Tryz.func90 (jeq ⟨ok_V15,trivial⟩) (run_V57 big)
end Go.Proofs.YtclaienmkbpkaaaGreat
