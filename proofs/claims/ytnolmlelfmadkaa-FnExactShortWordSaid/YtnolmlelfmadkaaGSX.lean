import Derived.Test.YtnolmlelfmadkaaUSX
set_option maxRecDepth 100000
set_option linter.unusedVariables false
namespace Go.Proofs.Ytnolmlelfmadkaa
open Go Go.Gx Go.Proofs
noncomputable section
def wcm (self_V36:T0) (rec:T16) (k:T24) (a5:Y3) (a10:Y4) (a11:Int):Z0 :=
  cond (decide (0≤a11))
  ((atI a5 a11).bind fun _ =>
  (a5[a11.toNat]?).bind fun xq24 =>
  (a5[a11.toNat]?).bind fun xq25 =>
  (V27 (-2:Int) xq25 a10).bind fun rq26 =>
  rec a5 rq26.1 (IntKind.i64.wrap (a11-1)))
  (k a10)
def zn (self_V36:T0) (a10:Y4):Z0 :=
  some (a10,(()))
def wei (self_V36:T0) (rec:Y4→Y3→Int→Z0) (k:T11) (a0:Y4) (a5:Y3) (a6:Int):Z0 :=
  cond (decide (0≤a6))
  (cond (decide (0≤a6∧a6≤(a5.length:Int)∧a6=a6))
  (cond (decide (0≤(IntKind.i64.wrap (a6+1))∧(IntKind.i64.wrap (a6+1))≤(a5.length:Int)))
  (cond (decide (a6.toNat≤(IntKind.i64.wrap (a6+1)).toNat))
  ((appI (a5.take a6.toNat) ((a5.drop ((IntKind.i64.wrap (a6+1)).toNat)).take (a5.length-(IntKind.i64.wrap (a6+1)).toNat))).bind fun xq19 =>
  (V34 big xq19).bind fun rq20 =>
  rec a0 xq19 rq20.1)
  none)
  none)
  none)
  (k a0 a5)
def zo (self_V36:T0) (k:Y3→Z0) (rec:T11) (a0:Y4) (a5:Y3):Z0 :=
  (V35 big a5 a0).bind fun rq21 =>
  cond (decide (rq21.1.1<0))
  (k a5)
  (cond (decide (0≤(IntKind.i64.wrap (rq21.1.1+1))∧(IntKind.i64.wrap (rq21.1.1+1))≤(a5.length:Int)))
  ((appI rq21.1.2.1 ((a5.drop ((IntKind.i64.wrap (rq21.1.1+1)).toNat)).take (a5.length-(IntKind.i64.wrap (rq21.1.1+1)).toNat))).bind fun xq22 =>
  cond (decide (0≤rq21.1.1∧rq21.1.1≤(a5.length:Int)∧rq21.1.1=rq21.1.1))
  ((appI (a5.take rq21.1.1.toNat) xq22).bind fun xq23 =>
  rec a0 xq23)
  none)
  none)
def wbx (self_V36:T0) (L9:Y4→Y3→Int→Z0) (a0:Y4) (a5:Y3):Z0 :=
  (V34 big a5).bind fun rq11 =>
  L9 a0 a5 rq11.1
def yz (self_V36:T0) (L19:T16) (a5:Y3):Z0 :=
  (qh a5 ()).bind fun rq12 =>
  (atI rq12.2.1 (IntKind.i64.wrap ((rq12.2.1.length:Int)-1))).bind fun _ =>
  (rq12.2.1[(IntKind.i64.wrap ((rq12.2.1.length:Int)-1)).toNat]?).bind fun xq13 =>
  cond (decide (0≤IntKind.i64.wrap ((rq12.2.1.length:Int)-2)))
  ((atI rq12.2.1 (IntKind.i64.wrap ((rq12.2.1.length:Int)-2))).bind fun _ =>
  (rq12.2.1[(IntKind.i64.wrap ((rq12.2.1.length:Int)-2)).toNat]?).bind fun xq14 =>
  (rq12.2.1[(IntKind.i64.wrap ((rq12.2.1.length:Int)-2)).toNat]?).bind fun xq15 =>
  (rq12.2.1[(IntKind.i64.wrap ((rq12.2.1.length:Int)-1)).toNat]?).bind fun xq16 =>
  (V27 (-2:Int) xq15 xq16).bind fun rq17 =>
  L19 rq12.2.1 rq17.1 (IntKind.i64.wrap ((IntKind.i64.wrap ((rq12.2.1.length:Int)-2))-1)))
  ((rq12.2.1[(IntKind.i64.wrap ((rq12.2.1.length:Int)-1)).toNat]?).bind fun xq18 =>
  some (xq18,(())))
def wby (self_V36:T0) (L8:T11) (w_0:Y4):Z0 :=
  (atI w_0 0).bind fun xq1 =>
  cond (decide (xq1=(-1:Int)))
  ((V25 big w_0).bind fun rq2 =>
  (self_V36 (rq2.1,())).bind fun rq3 =>
  (V25 big rq3.1).bind fun rq4 =>
  some (rq4.1,(())))
  (cond (decide (xq1=(-2:Int)))
  ((V26 w_0).bind fun rq5 =>
  (self_V36 (rq5.1.1,())).bind fun rq6 =>
  (self_V36 (rq5.1.2.1,())).bind fun rq7 =>
  (V27 (-2:Int) rq6.1 rq7.1).bind fun rq8 =>
  (R_V28 big (rq8.1,(-2:Int),())).bind fun rq9 =>
  L8 w_0 rq9.1)
  ((V24 w_0).bind fun rq10 =>
  some (rq10.1,(()))))
def wek (self_V36:T0) (N:Nat) (k:T11):=itN (fun r=>wei self_V36 r k) fun _ _ _=>none
def wbt (self_V36:T0) (N:Nat) (rec:T11) (k:Y3→Z0):Y4→Y3→Int→Z0:=wek self_V36 N (zo self_V36 k rec) N
def wej (self_V36:T0) (N:Nat) (k:Y3→Z0):=itN (fun r=>wbx self_V36 (wbt self_V36 N r k)) fun _ _=>none
def wcn (self_V36:T0) (N:Nat) (k:T24):=itN (fun r=>wcm self_V36 r k) fun _ _ _=>none
def xd (self_V36:T0) (N:Nat):Y3→Y4→Int→Z0:=wcn self_V36 N (zn self_V36) N
def wbs (self_V36:T0) (N:Nat):Y4→Y3→Z0:=wej self_V36 N (yz self_V36 (xd self_V36 N)) N
def V36 (self_V36:T0) (N:Nat) (w_0:Y4):Z0:=wby self_V36 (wbs self_V36 N) w_0
def A_V36 (self_V36:T0):Cfg:=hookCfg (fun i=>if i=19 then some SW.hook19 else if i=3000014 then some SW.hook14 else none) (winCfg (mkCfg tab [(25,S_V25),(14,T_V36 self_V36),(27,S_V26),(29,S_V27),(28,S_V28),(26,S_V24),(30,S_V34),(32,wq),(31,S_V35)] [(16,([B2]++dr 4 [.as Q3 (.o O5)])),(18,([B2]++dr 4 [.as Q3 (.o O5),B0])),(25,([B2]++dr 4 [.as Q3 (.o O5)])),(33,(dr 5 [.as Q3 (.o O5)])),(38,(dr 5 ([.as Q3 (.o O5)]++dr 4 [.as Q0 O5,B0]))),(45,(dr 10 [.as Q0 O5])),(5000019,[])]))
noncomputable def yx (self_V36:T0) (N n:Nat) (K:T14) (a0:Y4) (a5:Y3):Z0:=itr (A_V36 self_V36) N 16 Try.f14 [1,1,1,1,0,0,0] n (([W2 a0]++ud 4 [.val Q3 (.o O5) a5])++us 87) K
noncomputable def waj (self_V36:T0) (N n:Nat) (K:T14) (a0:Y4) (a5:Y3) (a6:Int):Z0:=itr (A_V36 self_V36) N 18 Try.f14 [1,1,1,1,0,0,0,0,0,1,0,0] n (([W2 a0]++ud 4 [.val Q3 (.o O5) a5,W0 a6])++us 86) K
noncomputable def zm (self_V36:T0) (N n:Nat) (K:T14) (a5:Y3) (a10:Y4) (a11:Int):Z0:=itr (A_V36 self_V36) N 38 Try.f14 [1,1,1,1,1,1,1,0,1,0,0] n ((ud 5 ([.val Q3 (.o O5) a5]++ud 4 [.val Q0 O5 a10,W0 a11]))++us 81) K
noncomputable def zt (self_V36:T0):Ex→St→Z0:=finish (A_V36 self_V36) (T_V36 self_V36) Try.f14.results.toList
noncomputable def wbw (kX:T8) (a5:Y3):Z0:=kX ((ud 5 [.val Q3 (.o O5) a5])++us 87)
noncomputable def zl (self_V36:T0) (kX:T8) (kO:T6):=exK (zt self_V36) 1 ((A_V36 self_V36).shape 33) kX kO
noncomputable def wh6 (kX:T8) (a0:Y4) (a5:Y3):Z0:=kX (([W2 a0]++ud 4 [.val Q3 (.o O5) a5])++us 87)
noncomputable def wh5 (self_V36:T0) (kX:T8) (kO:T6):=exK (zt self_V36) 3 ((A_V36 self_V36).shape 25) kX kO
noncomputable def wfh (kX:T8) (a10:Y4):Z0:=kX ((ud 10 [.val Q0 O5 a10])++us 82)
noncomputable def wfg (self_V36:T0) (kX:T8) (kO:T6):=exK (zt self_V36) 5 ((A_V36 self_V36).shape 45) kX kO
theorem wh8 (self_V36:T0) (N kX kO):∀n,waj self_V36 N n (wh5 self_V36 kX kO)=wek self_V36 N (wh6 kX) n :=
 itE rfl fun m=>by kernel_rfl
noncomputable def wbv (self_V36:T0) (N m:Nat) (kX:T8) (kO:T6):=(blockK 3 (sqK (A_V36 self_V36) N 25 500012 Try.f14 [1,1,1,1,0,0,0,0,1] (blockK 2 (itK (A_V36 self_V36) N 16 Try.f14 [1,1,1,1,0,0,0] m (zl self_V36 kX kO)))))
noncomputable def wia (self_V36:T0) (N m:Nat) (kX:T8) (kO:T6) (st':St):Z0:=rn (A_V36 self_V36) N Try.f14 [1,1,1,1,0,0,0,0,1] st' (blockK 2 (itK (A_V36 self_V36) N 16 Try.f14 [1,1,1,1,0,0,0] m (zl self_V36 kX kO)))
theorem wj8 (self_V36:T0) (N m kX kO) {r}(h:yx self_V36 N m (zl self_V36 kX kO)=r):waj self_V36 N N (wbv self_V36 N m kX kO)=wbt self_V36 N r (wbw kX):=by
 rw[show waj self_V36 N N (wbv self_V36 N m kX kO)=waj self_V36 N N (wh5 self_V36 (wia self_V36 N m kX kO) fun j=>(wbv self_V36 N m kX kO) (.exit j)) from(by funext _ _ _;exact jly),wh8,show wh6 (wia self_V36 N m kX kO)=zo self_V36 (wbw kX) (yx self_V36 N m (zl self_V36 kX kO)) by kernel_rfl,h];rfl
theorem wh7 (self_V36:T0) (N kX kO):∀n,yx self_V36 N n (zl self_V36 kX kO)=wej self_V36 N (wbw kX) n :=
 itE rfl fun m=>(show _=wbx self_V36 (waj self_V36 N N (wbv self_V36 N m kX kO)) by kernel_rfl).trans (by rw[wj8 self_V36 N m kX kO rfl]<;>rfl)
noncomputable def wbu (self_V36:T0) (N:Nat):=(blockK 1 (sqK (A_V36 self_V36) N 33 500016 Try.f14 [1,1,1,1,1] (zt self_V36)))
theorem wf7 (self_V36:T0) (N kX kO):∀n,zm self_V36 N n (wfg self_V36 kX kO)=wcn self_V36 N (wfh kX) n :=
 itE rfl fun m=>by kernel_rfl
noncomputable def wav (self_V36:T0) (N:Nat):=(blockK 5 (sqK (A_V36 self_V36) N 45 500022 Try.f14 [1,1,1,1,1,1,1,1] (zt self_V36)))
noncomputable def wfi (self_V36:T0) (N:Nat) (st':St):Z0:=rn (A_V36 self_V36) N Try.f14 [1,1,1,1,1,1,1,1] st' (zt self_V36)
theorem wiu (self_V36:T0) (N):zm self_V36 N N (wav self_V36 N)=xd self_V36 N:=by
 rw[show zm self_V36 N N (wav self_V36 N)=zm self_V36 N N (wfg self_V36 (wfi self_V36 N) fun j=>(wav self_V36 N) (.exit j)) from(by funext _ _ _;exact jly),wf7,show wfh (wfi self_V36 N)=zn self_V36 by kernel_rfl];rfl
noncomputable def wh9 (self_V36:T0) (N:Nat) (st':St):Z0:=rn (A_V36 self_V36) N Try.f14 [1,1,1,1,1] st' (zt self_V36)
theorem wj7 (self_V36:T0) (N):yx self_V36 N N (wbu self_V36 N)=wbs self_V36 N:=by
 rw[show yx self_V36 N N (wbu self_V36 N)=yx self_V36 N N (zl self_V36 (wh9 self_V36 N) fun j=>(wbu self_V36 N) (.exit j)) from(by funext _ _;exact jly),wh7,show wbw (wh9 self_V36 N)=yz self_V36 (zm self_V36 N N (wav self_V36 N)) by kernel_rfl,wiu self_V36 N];rfl
theorem run_V36 (self_V36:T0) (N:Nat) (x:((T_V36 self_V36)).a.den):runF (A_V36 self_V36) N Try.f14 (T_V36 self_V36) x=V36 self_V36 N x.1:=(show _=(wby self_V36 (yx self_V36 N N (wbu self_V36 N)) x.1) by kernel_rfl).trans (by rw[wj7 self_V36 N];rfl)
theorem fn_V36:FnOk Try.prog 14:=⟨_,Try.func14,by kernel_rfl,by kernel_rfl⟩
def R_V36:Nat→Z5→Z0
  | 0,_=>none
  | d+1,x=>V36 (R_V36 d) big x.1
def S_V36:Sig:=T_V36 (R_V36 big)
theorem xj:∀d,Gx.Good Try.prog 14 (T_V36 (R_V36 d))
  | 0=>fun x r h=>by cases h
  | d+1=>jg5 Try.func14 (of_decide_eq_true (by kernel_rfl)) fun x r h=>⟨A_V36 (R_V36 d),big,ji1 (winCfg_ok (qu tabOk)),jh2 (winCfg_sig (jc8 (show SigsOk Try.prog [(25,S_V25),(14,T_V36 (R_V36 d)),(27,S_V26),(29,S_V27),(28,S_V28),(26,S_V24),(30,S_V34),(32,wq),(31,S_V35)] from⟨ok_V25,⟨fn_V36,xj d⟩,ok_V26,ok_V27,⟨fn_V28,good_V28⟩,ok_V24,ok_V34,⟨xg,xb⟩,ok_V35,trivial⟩))),fun code hc=>jat (ids:=[19,3000014]) (fun i hi=>by simp only[List.mem_cons,List.not_mem_nil,or_false,not_or]at hi;simp[A_V36,hookCfg,hi]) fun c hm=>PO.hooks_impl_shortWord (A_V36 (R_V36 d)) (by rfl) (by rfl) code hc c hm,(run_V36 (R_V36 d) big x).trans h⟩
theorem good_V36:Gx.Good Try.prog 14 S_V36:=xj big
def wf8 (w_0:Y4):Option ((Y4×(Bool×Unit))×Unit) :=
  (V23 w_0).bind fun rq1 =>
  cond (!rq1.1)
  (some (([],false,()),(())))
  ((R_V36 big (w_0,())).bind fun rq2 =>
  cond (decide (40<(rq2.1.length:Int)))
  (some (([],false,()),(())))
  (some ((rq2.1,true,()),(()))))
def V38 (w_0:Y4):Option ((Y4×(Bool×Unit))×Unit):=wf8 w_0
def S_V38:Sig:=⟨Q2,[0],[],.unit,(.tup (.pair Q0 (.pair .bool .unit))),(.p O5 .i),fun x=>V38 x.1⟩
def A_V38:Cfg:=mkCfg tab [(13,S_V23),(14,S_V36)] []
theorem run_V38 (N x):runF A_V38 N Try.f6 S_V38 x=V38 x.1:=by kernel_rfl
theorem ok_V38:OK 6 S_V38:=gdR (A:=A_V38) tc Try.func6 (jc8 ⟨ok_V23,⟨fn_V36,good_V36⟩,trivial⟩) (run_V38 big)
def wen (rec:T15) (k:Z4) (a0 a1:Y4) (a5:Int):Z4 :=
  cond (decide (a5<(a0.length:Int)))
  ((atI a0 a5).bind fun xq1 =>
  (atI a1 a5).bind fun xq2 =>
  cond (decide (xq1≠xq2))
  (some (false,(())))
  (rec a0 a1 (IntKind.i64.wrap (a5+1))))
  (k)
def wb1:Z4 :=
  some (true,(()))
def wf9 (L4:T15) (a_0 b_1:Y4):Z4 :=
  cond (decide ((a_0.length:Int)≠(b_1.length:Int)))
  (some (false,(())))
  (L4 a_0 b_1 0)
def wak (N:Nat) (k:Z4):Nat→Y4→Y4→Int→Z4
  | 0,_,_,_=>none
  | m+1,a0,a1,a5=>wen (wak N k m) k a0 a1 a5
def wel (N:Nat):=wak N (wb1) N
def V39 (N:Nat) (a_0 b_1:Y4):Z4:=wf9 (wel N) a_0 b_1
def S_V39:Sig:=⟨(.pair Q0 Q2),[0,0],[],.unit,.bool,.i,fun x=>V39 big x.1 x.2.1⟩
def A_V39:Cfg:=mkCfg tab [] [(8,([B2,B2]++dr 3 [B0])),(17,[])]
noncomputable def y3 (N n:Nat) (K:Ex→St→Z4) (a0 a1:Y4) (a5:Int):Z4:=itr A_V39 N 8 Try.f7 [1,1,0,1,0,0] n (([W2 a0,W2 a1]++ud 3 [W0 a5])++us 20) K
noncomputable def wga:Ex→St→Z4:=finish A_V39 S_V39 Try.f7.results.toList
noncomputable def wem (kX:St→Z4):Z4:=kX ([]++us 26)
noncomputable def wbz (kX:St→Z4) (kO:Nat→St→Z4):=exK wga 0 (A_V39.shape 17) kX kO
theorem wcv (N kX kO):∀n,y3 N n (wbz kX kO)=wak N (wem kX) n
 | 0=>rfl
 | m+1=>(show y3 N (m+1) (wbz kX kO)=wen (y3 N m (wbz kX kO)) (wem kX) by kernel_rfl).trans (by rw[wcv N kX kO m];funext _ _ _;rfl)
noncomputable def wb0 (N:Nat):=(blockK 0 (sqK A_V39 N 17 500008 Try.f7 [1,1,1] wga))
noncomputable def wib (N:Nat) (st':St):Z4:=rn A_V39 N Try.f7 [1,1,1] st' wga
theorem wka (N):y3 N N (wb0 N)=wel N:=by
 rw[show y3 N N (wb0 N)=y3 N N (wbz (wib N) fun j=>(wb0 N) (.exit j)) from(by funext _ _ _;exact jly),wcv,show wem (wib N)=wb1 by kernel_rfl];rfl
theorem run_V39 (N x):runF A_V39 N Try.f7 S_V39 x=V39 N x.1 x.2.1:=(show _=(wf9 (y3 N N (wb0 N)) x.1 x.2.1) by kernel_rfl).trans (by rw[wka N];rfl)
theorem ok_V39:OK 7 S_V39:=gdR (A:=A_V39) tc Try.func7 (jc8 trivial) (run_V39 big)
def weq (rec:Y4→Int→Int→Option Y6) (k:Y4→Int→Option Y6) (a0:Y4) (a1 a5:Int):Option Y6 :=
  cond (decide (a5<(a0.length:Int)))
  ((atI a0 a5).bind fun _ =>
  (a0[a5.toNat]?).bind fun xq1 =>
  rec (a0.set a5.toNat a1) (IntKind.i64.wrap (a1+1)) (IntKind.i64.wrap (a5+1)))
  (k a0 a1)
def wb4 (a0:Y4) (a1:Int):Option Y6 :=
  some (a1,(a0,()))
def wgb (L2:Y4→Int→Int→Option Y6) (a_0:Y4) (k_1:Int):Option Y6 :=
  L2 a_0 k_1 0
def wal (N:Nat) (k:Y4→Int→Option Y6):Nat→Y4→Int→Int→Option Y6
  | 0,_,_,_=>none
  | m+1,a0,a1,a5=>weq (wal N k m) k a0 a1 a5
def weo (N:Nat):=wal N (wb4) N
def V40 (N:Nat) (a_0:Y4) (k_1:Int):Option Y6:=wgb (weo N) a_0 k_1
def S_V40:Sig:=⟨(.pair Q0 (.pair I .unit)),[1,0],[O5],Q2,I,.i,fun x=>V40 big x.1 x.2.1⟩
def A_V40:Cfg:=mkCfg tab [] [(4,([.as Q0 O5,B0]++dr 3 [B0])),(13,[.as Q0 O5,B0])]
noncomputable def y4 (N n:Nat) (K:Ex→St→Option Y6) (a0:Y4) (a1 a5:Int):Option Y6:=itr A_V40 N 4 Try.f8 [1,0,1,0,0] n (([.val Q0 O5 a0,W0 a1]++ud 3 [W0 a5])++us 13) K
noncomputable def wgc:Ex→St→Option Y6:=finish A_V40 S_V40 Try.f8.results.toList
noncomputable def wep (kX:St→Option Y6) (a0:Y4) (a1:Int):Option Y6:=kX ([.val Q0 O5 a0,W0 a1]++us 17)
noncomputable def wb2 (kX:St→Option Y6) (kO:Nat→St→Option Y6):Ex→St→Option Y6:=exK wgc 0 (A_V40.shape 13) kX kO
theorem wcw (N kX kO):∀n,y4 N n (wb2 kX kO)=wal N (wep kX) n
 | 0=>rfl
 | m+1=>(show y4 N (m+1) (wb2 kX kO)=weq (y4 N m (wb2 kX kO)) (wep kX) by kernel_rfl).trans (by rw[wcw N kX kO m];funext _ _ _;rfl)
noncomputable def wb3 (N:Nat):Ex→St→Option Y6:=(blockK 0 (sqK A_V40 N 13 500006 Try.f8 [1,1] wgc))
noncomputable def wic (N:Nat) (st':St):Option Y6:=rn A_V40 N Try.f8 [1,1] st' wgc
theorem wkb (N):y4 N N (wb3 N)=weo N:=by
 rw[show y4 N N (wb3 N)=y4 N N (wb2 (wic N) fun j=>(wb3 N) (.exit j)) from(by funext _ _ _;exact jly),wcw,show wep (wic N)=wb4 by kernel_rfl];rfl
theorem run_V40 (N x):runF A_V40 N Try.f8 S_V40 x=V40 N x.1 x.2.1:=(show _=(wgb (y4 N N (wb3 N)) x.1 x.2.1) by kernel_rfl).trans (by rw[wkb N];rfl)
theorem ok_V40:OK 8 S_V40:=gdR (A:=A_V40) tc Try.func8 (jc8 trivial) (run_V40 big)
def weu (rec:T13) (k:Int→Z2) (a0:Y4) (a1 a5:Int):Z2 :=
  cond (decide (a5<(a0.length:Int)))
  ((atI a0 a5).bind fun xq1 =>
  cond (decide (xq1≠a1))
  (some ((-1:Int),(())))
  (rec a0 (IntKind.i64.wrap (a1+1)) (IntKind.i64.wrap (a5+1))))
  (k a1)
def wet (a1:Int):Z2 :=
  some (a1,(()))
def wgd (L2:T13) (a_0:Y4) (k_1:Int):Z2 :=
  L2 a_0 k_1 0
def wam (N:Nat) (k:Int→Z2):Nat→Y4→Int→Int→Z2
  | 0,_,_,_=>none
  | m+1,a0,a1,a5=>weu (wam N k m) k a0 a1 a5
def wer (N:Nat):=wam N (wet) N
def V41 (N:Nat) (a_0:Y4) (k_1:Int):Z2:=wgd (wer N) a_0 k_1
def S_V41:Sig:=⟨(.pair Q0 (.pair I .unit)),[0,0],[],.unit,I,.i,fun x=>V41 big x.1 x.2.1⟩
def A_V41:Cfg:=mkCfg tab [] [(4,([B2,B0]++dr 3 [B0])),(15,[D0,B0])]
noncomputable def y5 (N n:Nat) (K:T18) (a0:Y4) (a1 a5:Int):Z2:=itr A_V41 N 4 Try.f9 [1,0,1,0,0] n (([W2 a0,W0 a1]++ud 3 [W0 a5])++us 15) K
noncomputable def wge:Ex→St→Z2:=finish A_V41 S_V41 Try.f9.results.toList
noncomputable def wes (kX:T10) (a1:Int):Z2:=kX ([.u,W0 a1]++us 19)
noncomputable def wb5 (kX:T10) (kO:T7):=exK wge 0 (A_V41.shape 15) kX kO
theorem wcx (N kX kO):∀n,y5 N n (wb5 kX kO)=wam N (wes kX) n
 | 0=>rfl
 | m+1=>(show y5 N (m+1) (wb5 kX kO)=weu (y5 N m (wb5 kX kO)) (wes kX) by kernel_rfl).trans (by rw[wcx N kX kO m];funext _ _ _;rfl)
noncomputable def wb6 (N:Nat):=(blockK 0 (sqK A_V41 N 15 500007 Try.f9 [1,1] wge))
noncomputable def wid (N:Nat) (st':St):Z2:=rn A_V41 N Try.f9 [1,1] st' wge
theorem wkc (N):y5 N N (wb6 N)=wer N:=by
 rw[show y5 N N (wb6 N)=y5 N N (wb5 (wid N) fun j=>(wb6 N) (.exit j)) from(by funext _ _ _;exact jly),wcx,show wes (wid N)=wet by kernel_rfl];rfl
theorem run_V41 (N x):runF A_V41 N Try.f9 S_V41 x=V41 N x.1 x.2.1:=(show _=(wgd (y5 N N (wb6 N)) x.1 x.2.1) by kernel_rfl).trans (by rw[wkc N];rfl)
theorem ok_V41:OK 9 S_V41:=gdR (A:=A_V41) tc Try.func9 (jc8 trivial) (run_V41 big)
def wjl (aW_0:Y4):Z4 :=
  cond (decide (1048576<(aW_0.length:Int)))
  (some (true,(())))
  ((V0 big aW_0).bind fun rq1 =>
  (V21 rq1.1).bind fun rq2 =>
  (V0 big aW_0).bind fun rq3 =>
  (V38 rq3.1).bind fun rq4 =>
  (V39 big rq4.1.1 rq2.1.1).bind fun rq5 =>
  cond (!rq5.1)
  (some (false,(())))
  (cond (((((),rq4.1.2).2).1) != rq2.1.2.1)
  (some (false,(())))
  ((V0 big aW_0).bind fun rq6 =>
  (V39 big rq3.1 rq6.1).bind fun rq7 =>
  cond (!rq7.1)
  (some (false,(())))
  ((V40 big rq3.1 1).bind fun rq8 =>
  cond (decide (rq8.1<0))
  (some (false,(())))
  ((V39 big rq4.1.1 rq2.1.1).bind fun rq9 =>
  cond (!rq9.1)
  (some (false,(())))
  (cond (((((),rq4.1.2).2).1) != rq2.1.2.1)
  (some (false,(())))
  ((V40 big rq4.1.1 1).bind fun rq10 =>
  (V41 big rq10.2.1 1).bind fun rq11 =>
  cond (decide (rq11.1<0))
  (some (false,(())))
  (cond (decide (rq11.1≠rq10.1))
  (some (false,(())))
  ((V0 big aW_0).bind fun rq12 =>
  (V38 rq12.1).bind fun rq13 =>
  (V39 big rq13.1.1 rq2.1.1).bind fun rq14 =>
  cond (!rq14.1)
  (some (false,(())))
  (cond (((((),rq13.1.2).2).1) != rq2.1.2.1)
  (some (false,(())))
  ((V41 big rq10.2.1 1).bind fun rq15 =>
  cond (decide (rq15.1<0))
  (some (false,(())))
  (cond (decide (rq15.1≠rq10.1))
  (some (false,(())))
  (some (true,(())))))))))))))))
def laws_FnExactShortWord (aW_0:Y4):Z4:=wjl aW_0
def S_laws_FnExactShortWord:Sig:=⟨Q2,[0],[],.unit,.bool,.i,fun x=>laws_FnExactShortWord x.1⟩
def A_Vx0:Cfg:=mkCfg tab [(5,S_V0),(4,S_V21),(6,S_V38),(7,S_V39),(8,S_V40),(9,S_V41)] []
theorem run_laws_FnExactShortWord (N x):runF A_Vx0 N Try.f3 S_laws_FnExactShortWord x=laws_FnExactShortWord x.1:=by kernel_rfl
theorem ok_laws_FnExactShortWord:OK 3 S_laws_FnExactShortWord:=gdR (A:=A_Vx0) tc Try.func3 (jc8 ⟨ok_V0,ok_V21,ok_V38,ok_V39,ok_V40,ok_V41,trivial⟩) (run_laws_FnExactShortWord big)
theorem good_laws_FnExactShortWord:Gx.Good Try.prog 3 S_laws_FnExactShortWord:=ok_laws_FnExactShortWord.2
end
end Go.Proofs.Ytnolmlelfmadkaa
