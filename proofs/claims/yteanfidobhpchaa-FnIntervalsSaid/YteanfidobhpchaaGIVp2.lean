import Derived.Test.YteanfidobhpchaaUIV
set_option maxRecDepth 100000
set_option linter.unusedVariables false
namespace Go.Proofs.Yteanfidobhpchaa
open Go Go.Gx Go.Proofs
def wjy (rec k:T57) (a0:Z12) (a2 a9:Y2):Z4 :=
  (V2 a0 2).bind fun rq53 =>
  cond (decide ((a9.1.length:Int)<(IntKind.i64.wrap (10+rq53.1))))
  ((appI a9.1 [[(a9.1.length:Int)]]).bind fun xq54 =>
  rec rq53.2.1 a2 (xq54,((),a9.2).2))
  (k rq53.2.1 a2 a9)
def z4 (a0:Z12) (a2 a9:Y2):Z4 :=
  some (a9,(a0,()))
def z6 (rec:T32) (k:T29) (a0:Z12) (a2:Y2) (a3:Int) (a4:Z13) (a7:Y4) (a8:Int):Z4 :=
  cond (decide (a8<(a4.length:Int)))
  ((atI a4 a8).bind fun _ =>
  (a4[a8.toNat]?).bind fun xq33 =>
  (a4[a8.toNat]?).bind fun xq34 =>
  (atI a7 xq34.1).bind fun _ =>
  (a7[xq34.1.toNat]?).bind fun xq35 =>
  (atI a4 a8).bind fun _ =>
  (a4[a8.toNat]?).bind fun xq36 =>
  (a4[a8.toNat]?).bind fun xq37 =>
  (atI a7 xq37.2.1).bind fun _ =>
  (a7[xq37.2.1.toNat]?).bind fun xq38 =>
  (atI a4 a8).bind fun _ =>
  (a4[a8.toNat]?).bind fun xq39 =>
  rec a0 a2 a3 (a4.set a8.toNat (xq35,(xq38,()))) a7 (IntKind.i64.wrap (a8+1)))
  (k a0 a2 a3 a4)
def w8 (L29:T57) (a0:Z12) (a2:Y2) (a3:Int) (a4:Z13):Z4 :=
  (V9 big a3 a4).bind fun rq40 =>
  cond (decide (a3=0))
  (some (rq40.1,(a0,())))
  ((V3 a0 16).bind fun rq41 =>
  cond (!rq41.1)
  (some (rq40.1,(rq41.2.1,())))
  ((V2 rq41.2.1 a3).bind fun rq42 =>
  (V2 rq42.2.1 4).bind fun rq43 =>
  cond (decide (rq43.1=0))
  ((atI rq40.1.1 rq42.1).bind fun _ =>
  (rq40.1.1[rq42.1.toNat]?).bind fun xq44 =>
  (slI xq44 1 xq44.length).bind fun xq45 =>
  (atI rq40.1.1 rq42.1).bind fun _ =>
  (rq40.1.1[rq42.1.toNat]?).bind fun xq46 =>
  some ((rq40.1.1.set rq42.1.toNat xq45,rq40.1.2),(rq43.2.1,())))
  (cond (decide (rq43.1=1))
  ((atI rq40.1.1 rq42.1).bind fun xq47 =>
  (appI xq47 [a3]).bind fun xq48 =>
  some ((rq40.1.1.set (rq42.1).toNat xq48,rq40.1.2),(rq43.2.1,())))
  (cond (decide (rq43.1=2))
  ((atI rq40.1.1 rq42.1).bind fun _ =>
  (rq40.1.1[rq42.1.toNat]?).bind fun xq49 =>
  (V2 rq43.2.1 a3).bind fun rq50 =>
  (V10 big xq49 rq50.1).bind fun rq51 =>
  (atI rq40.1.1 rq42.1).bind fun _ =>
  (rq40.1.1[rq42.1.toNat]?).bind fun xq52 =>
  some ((rq40.1.1.set rq42.1.toNat rq51.1,rq40.1.2),(rq50.2.1,())))
  (cond (decide (rq43.1=3))
  (L29 rq43.2.1 a2 rq40.1)
  (some (rq40.1,(rq43.2.1,()))))))))
def wc0 (rec:T30) (k:T8) (a0:Z12) (a2:Y2) (a3:Int) (a4:Z13) (a5 a6:Int):Z4 :=
  cond (decide (a6<a3))
  ((V3 a0 3).bind fun rq31 =>
  cond rq31.1
  ((appI a4 [(a5,(a6,()))]).bind fun xq32 =>
  rec rq31.2.1 a2 a3 xq32 a5 (IntKind.i64.wrap (a6+1)))
  (rec rq31.2.1 a2 a3 a4 a5 (IntKind.i64.wrap (a6+1))))
  (k a0 a2 a3 a4 a5)
def z5 (rec:T8) (a0:Z12) (a2:Y2) (a3:Int) (a4:Z13) (a5:Int):Z4 :=
  rec a0 a2 a3 a4 (IntKind.i64.wrap (a5+1))
def z7 (L7:T30) (k:T29) (a0:Z12) (a2:Y2) (a3:Int) (a4:Z13) (a5:Int):Z4 :=
  cond (decide (a5<a3))
  (L7 a0 a2 a3 a4 a5 (IntKind.i64.wrap (a5+1)))
  (k a0 a2 a3 a4)
def xe (L14:T32) (L29:T57) (a0:Z12) (a2:Y2) (a3:Int) (a4:Z13):Z4 :=
  (V5 big a0 a3).bind fun rq2 =>
  (V8 big rq2.1 a3).bind fun rq3 =>
  cond rq3.1
  ((V3 rq2.2.1 2).bind fun rq4 =>
  cond rq4.1
  (L14 rq4.2.1 a2 a3 a4 rq2.1 0)
  ((V9 big a3 a4).bind fun rq5 =>
  cond (decide (a3=0))
  (some (rq5.1,(rq4.2.1,())))
  ((V3 rq4.2.1 16).bind fun rq6 =>
  cond (!rq6.1)
  (some (rq5.1,(rq6.2.1,())))
  ((V2 rq6.2.1 a3).bind fun rq7 =>
  (V2 rq7.2.1 4).bind fun rq8 =>
  cond (decide (rq8.1=0))
  ((atI rq5.1.1 rq7.1).bind fun _ =>
  (rq5.1.1[rq7.1.toNat]?).bind fun xq9 =>
  (slI xq9 1 xq9.length).bind fun xq10 =>
  (atI rq5.1.1 rq7.1).bind fun _ =>
  (rq5.1.1[rq7.1.toNat]?).bind fun xq11 =>
  some ((rq5.1.1.set rq7.1.toNat xq10,rq5.1.2),(rq8.2.1,())))
  (cond (decide (rq8.1=1))
  ((atI rq5.1.1 rq7.1).bind fun xq12 =>
  (appI xq12 [a3]).bind fun xq13 =>
  some ((rq5.1.1.set (rq7.1).toNat xq13,rq5.1.2),(rq8.2.1,())))
  (cond (decide (rq8.1=2))
  ((atI rq5.1.1 rq7.1).bind fun _ =>
  (rq5.1.1[rq7.1.toNat]?).bind fun xq14 =>
  (V2 rq8.2.1 a3).bind fun rq15 =>
  (V10 big xq14 rq15.1).bind fun rq16 =>
  (atI rq5.1.1 rq7.1).bind fun _ =>
  (rq5.1.1[rq7.1.toNat]?).bind fun xq17 =>
  some ((rq5.1.1.set rq7.1.toNat rq16.1,rq5.1.2),(rq15.2.1,())))
  (cond (decide (rq8.1=3))
  (L29 rq8.2.1 a2 rq5.1)
  (some (rq5.1,(rq8.2.1,()))))))))))
  ((V9 big a3 a4).bind fun rq18 =>
  cond (decide (a3=0))
  (some (rq18.1,(rq2.2.1,())))
  ((V3 rq2.2.1 16).bind fun rq19 =>
  cond (!rq19.1)
  (some (rq18.1,(rq19.2.1,())))
  ((V2 rq19.2.1 a3).bind fun rq20 =>
  (V2 rq20.2.1 4).bind fun rq21 =>
  cond (decide (rq21.1=0))
  ((atI rq18.1.1 rq20.1).bind fun _ =>
  (rq18.1.1[rq20.1.toNat]?).bind fun xq22 =>
  (slI xq22 1 xq22.length).bind fun xq23 =>
  (atI rq18.1.1 rq20.1).bind fun _ =>
  (rq18.1.1[rq20.1.toNat]?).bind fun xq24 =>
  some ((rq18.1.1.set rq20.1.toNat xq23,rq18.1.2),(rq21.2.1,())))
  (cond (decide (rq21.1=1))
  ((atI rq18.1.1 rq20.1).bind fun xq25 =>
  (appI xq25 [a3]).bind fun xq26 =>
  some ((rq18.1.1.set (rq20.1).toNat xq26,rq18.1.2),(rq21.2.1,())))
  (cond (decide (rq21.1=2))
  ((atI rq18.1.1 rq20.1).bind fun _ =>
  (rq18.1.1[rq20.1.toNat]?).bind fun xq27 =>
  (V2 rq21.2.1 a3).bind fun rq28 =>
  (V10 big xq27 rq28.1).bind fun rq29 =>
  (atI rq18.1.1 rq20.1).bind fun _ =>
  (rq18.1.1[rq20.1.toNat]?).bind fun xq30 =>
  some ((rq18.1.1.set rq20.1.toNat rq29.1,rq18.1.2),(rq28.2.1,())))
  (cond (decide (rq21.1=3))
  (L29 rq21.2.1 a2 rq18.1)
  (some (rq18.1,(rq21.2.1,())))))))))
def wqi (L4:T8) (c_0:Z12):Z4 :=
  (V4 c_0 [0,1,2,3,4,4,5,5,6,7]).bind fun rq1 =>
  L4 rq1.2.1 (([]:Y3),()) rq1.1 [] 0
def wlp (N:Nat) (k:T8):=itN (fun r=>wc0 r k) fun _ _ _ _ _ _=>none
def wcy (N:Nat) (rec:T8) (k:T29):=wlp N (z5 rec) N
def wlo (N:Nat) (k:T29):=itN (fun r=>z7 (wcy N r k) k) fun _ _ _ _ _=>none
def wjz (N:Nat) (k:T29):=itN (fun r=>z6 r k) fun _ _ _ _ _ _=>none
def wj0 (N:Nat) (k:T57):=itN (fun r=>wjy r k) fun _ _ _=>none
def we (N:Nat):=wj0 N (z4) N
def wo (N:Nat):=wjz N (w8 (we N)) N
def wlm (N:Nat):=wlo N (xe (wo N) (we N)) N
def V11 (N:Nat) (c_0:Z12):Z4:=wqi (wlm N) c_0
def S_V11:Sig:=⟨(.pair Q1 .unit),[1],[O5],(.pair Q1 .unit),Q0,.i,fun x=>V11 big x.1⟩
def A_V11:Cfg:=hookCfg (fun i=>if i=25 then some PO.hook else none) (mkCfg tab [(118,S_V4),(96,S_V5),(97,S_V8),(94,S_V3),(99,S_V9),(63,S_V2),(102,S_V10)] [(8,[.as Q1 O5,D0,B1,B0,.as Q17 O5,B0]),(14,[.as Q1 O5,D0,B1,B0,.as Q17 O5,B0,B0]),(23,[.as Q1 O5,D0,B1,B0,.as Q17 O5]),(28,[.as Q1 O5,D0,B1,B0,.as Q17 O5,D0,D0,B3,B0]),(1000023,([.as Q1 O5,D0,B1]++dr 6 [.as Q7 (.o (.p O5 .i)),B0])),(1000027,([.as Q1 O5,D0,B1,B0]++dr 5 [.as Q7 (.o (.p O5 .i)),B0])),(58,([.as Q1 O5,D0,B1]++dr 6 [B1])),(11,[.as Q1 O5,D0,B1,B0,.as Q17 O5,B0]),(35,[.as Q1 O5,D0,B1,B0,.as Q17 O5]),(63,([.as Q1 O5,D0,B1]++dr 6 [.as Q7 (.o (.p O5 .i))]))])
noncomputable def yp (N n:Nat) (K:T70) (a0:Z12) (a2:Y2) (a3:Int) (a4:Z13) (a5:Int):Z4:=itr A_V11 N 8 Try.f95 [1,1,1,0,1,0,0] n ([.val Q1 O5 a0,.u,W1 a2,W0 a3,.val Q17 O5 a4,W0 a5]++us 141) K
noncomputable def wcz (N n:Nat) (K:T70) (a0:Z12) (a2:Y2) (a3:Int) (a4:Z13) (a5 a6:Int):Z4:=itr A_V11 N 14 Try.f95 [1,1,1,0,1,0,0,1,0,0,1,0,0] n ([.val Q1 O5 a0,.u,W1 a2,W0 a3,.val Q17 O5 a4,W0 a5,W0 a6]++us 140) K
noncomputable def z3 (N n:Nat) (K:T70) (a0:Z12) (a2:Y2) (a3:Int) (a4:Z13) (a7:Y4) (a8:Int):Z4:=itr A_V11 N 28 Try.f95 [1,1,1,1,0,1,1,0,1,0,0] n ([.val Q1 O5 a0,.u,W1 a2,W0 a3,.val Q17 O5 a4,.u,.u,W3 a7,W0 a8]++us 138) K
noncomputable def yc (N n:Nat) (K:T70) (a0:Z12) (a2 a9:Y2):Z4:=itr A_V11 N 58 Try.f95 [1,1,1,1,1,1,1,1,0,1,0,1,1,1,1,1,1,1,0,0,0] n (([.val Q1 O5 a0,.u,W1 a2]++ud 6 [W1 a9])++us 137) K
noncomputable def xd:Ex→St→Z4:=finish A_V11 S_V11 Try.f95.results.toList
noncomputable def wgo (kX:T62) (a0:Z12) (a2:Y2) (a3:Int) (a4:Z13):Z4:=kX ([.val Q1 O5 a0,.u,W1 a2,W0 a3,.val Q17 O5 a4]++us 142)
noncomputable def zy (kX:T62) (kO:T58):=exK xd 0 (A_V11.shape 23) kX kO
noncomputable def ws8 (kX:T62) (a0:Z12) (a2:Y2) (a3:Int) (a4:Z13) (a5:Int):Z4:=kX ([.val Q1 O5 a0,.u,W1 a2,W0 a3,.val Q17 O5 a4,W0 a5]++us 141)
noncomputable def ws7 (kX:T62) (kO:T58):=exK xd 2 (A_V11.shape 11) kX kO
noncomputable def wo9 (kX:T62) (a0:Z12) (a2:Y2) (a3:Int) (a4:Z13):Z4:=kX ([.val Q1 O5 a0,.u,W1 a2,W0 a3,.val Q17 O5 a4]++us 142)
noncomputable def wo7 (kX:T62) (kO:T58):=exK xd 4 (A_V11.shape 35) kX kO
noncomputable def wpa (kX:T62) (a0:Z12) (a2 a9:Y2):Z4:=kX (([.val Q1 O5 a0,.u,W1 a2]++ud 6 [.val Q7 (.o (.p O5 .i)) a9])++us 137)
noncomputable def wo8 (kX:T62) (kO:T58):=exK xd 7 (A_V11.shape 63) kX kO
theorem wta (N kX kO):∀n,wcz N n (ws7 kX kO)=wlp N (ws8 kX) n :=
 itE rfl fun m=>by kernel_rfl
noncomputable def wgn (N m:Nat) (kX:T62) (kO:T58):=(blockK 2 (blockK 1 (sqK A_V11 N 11 500005 Try.f95 [1,1,1,0,1,0,0,1,1] (itK A_V11 N 8 Try.f95 [1,1,1,0,1,0,0] m (zy kX kO)))))
noncomputable def wtc (N m:Nat) (kX:T62) (kO:T58) (st':St):Z4:=rn A_V11 N Try.f95 [1,1,1,0,1,0,0,1,1] st' (itK A_V11 N 8 Try.f95 [1,1,1,0,1,0,0] m (zy kX kO))
theorem w07 (N m kX kO) {r}(h:yp N m (zy kX kO)=r):wcz N N (wgn N m kX kO)=wcy N r (wgo kX):=by
 rw[show wcz N N (wgn N m kX kO)=wcz N N (ws7 (wtc N m kX kO) fun j=>(wgn N m kX kO) (.exit j)) from(by funext _ _ _ _ _ _;exact jky),wta,show ws8 (wtc N m kX kO)=z5 (yp N m (zy kX kO)) by kernel_rfl,h];rfl
theorem ws9 (N kX kO):∀n,yp N n (zy kX kO)=wlo N (wgo kX) n :=
 itE rfl fun m=>(show _=z7 (wcz N N (wgn N m kX kO)) (wgo kX) by kernel_rfl).trans (by rw[w07 N m kX kO rfl]<;>rfl)
noncomputable def wgm (N:Nat):=(blockK 0 (sqK A_V11 N 23 500011 Try.f95 [1,1,1,1] xd))
theorem wqg (N kX kO):∀n,z3 N n (wo7 kX kO)=wjz N (wo9 kX) n :=
 itE rfl fun m=>by kernel_rfl
noncomputable def wfn (N:Nat):=(blockK 4 (sqK A_V11 N 35 500017 Try.f95 [1,1,1,1,1] xd))
theorem wqh (N kX kO):∀n,yc N n (wo8 kX kO)=wj0 N (wpa kX) n :=
 itE rfl fun m=>by kernel_rfl
noncomputable def zz (N:Nat):=(blockK 7 (blockK 6 (sqK A_V11 N 63 500031 Try.f95 [1,1,1,1,1,1,1,1,1] xd)))
noncomputable def wpc (N:Nat) (st':St):Z4:=rn A_V11 N Try.f95 [1,1,1,1,1,1,1,1,1] st' xd
theorem wln (N):yc N N (zz N)=we N:=by
 rw[show yc N N (zz N)=yc N N (wo8 (wpc N) fun j=>(zz N) (.exit j)) from(by funext _ _ _;exact jky),wqh,show wpa (wpc N)=z4 by kernel_rfl];rfl
noncomputable def wpb (N:Nat) (st':St):Z4:=rn A_V11 N Try.f95 [1,1,1,1,1] st' xd
theorem wy9 (N):z3 N N (wfn N)=wo N:=by
 rw[show z3 N N (wfn N)=z3 N N (wo7 (wpb N) fun j=>(wfn N) (.exit j)) from(by funext _ _ _ _ _ _;exact jky),wqg,show wo9 (wpb N)=w8 (yc N N (zz N)) by kernel_rfl,wln N];rfl
noncomputable def wtb (N:Nat) (st':St):Z4:=rn A_V11 N Try.f95 [1,1,1,1] st' xd
theorem w06 (N):yp N N (wgm N)=wlm N:=by
 rw[show yp N N (wgm N)=yp N N (zy (wtb N) fun j=>(wgm N) (.exit j)) from(by funext _ _ _ _ _;exact jky),ws9,show wgo (wtb N)=xe (z3 N N (wfn N)) (yc N N (zz N)) by kernel_rfl,wy9 N,wln N];rfl
theorem run_V11 (N x):runF A_V11 N Try.f95 S_V11 x=V11 N x.1:=(show _=(wqi (yp N N (wgm N)) x.1) by kernel_rfl).trans (by rw[w06 N];rfl)
theorem fn_V11:FnOk Try.prog 95:=⟨_,Try.func95,by kernel_rfl,by kernel_rfl⟩
theorem good_V11:Gx.Good Try.prog 95 S_V11:=jgd Try.func95 (of_decide_eq_true (by kernel_rfl)) fun x r h=>⟨A_V11,big,jh5 (ur tabOk),jha (jeb (show SigsOk Try.prog [(118,S_V4),(96,S_V5),(97,S_V8),(94,S_V3),(99,S_V9),(63,S_V2),(102,S_V10)] from⟨ok_V4,ok_V5,ok_V8,ok_V3,ok_V9,ok_V2,ok_V10,trivial⟩)),fun code hc=>jah (ids:=[25]) (fun i hi=>by simp only[List.mem_cons,List.not_mem_nil,or_false]at hi;simp[A_V11,hookCfg,hi]) fun c hm=>PO.hooks_spec_l1Cur_poset A_V11 (by rfl) code hc c hm,(run_V11 big x).trans h⟩
def w1a (rec:T48) (k:T7) (a2 a3 a4 a5:Y2) (a6 a7 a8:Int) (a9:Y4) (a10 a11:Int):Z3 :=
  (atI a3.1 a8).bind fun xq3 =>
  cond (decide (a11<(xq3.length:Int)))
  ((atI a2.1 a7).bind fun xq4 =>
  (atI xq4 a10).bind fun xq5 =>
  (atI a3.1 a8).bind fun xq6 =>
  (atI xq6 a11).bind fun xq7 =>
  (appI a9 [IntKind.i64.wrap ((IntKind.i64.wrap (xq5*a6))+xq7)]).bind fun xq8 =>
  rec a2 a3 a4 a5 a6 a7 a8 xq8 a10 (IntKind.i64.wrap (a11+1)))
  (k a2 a3 a4 a5 a6 a7 a8 a9 a10)
def wpi (rec:T7) (a2 a3 a4 a5:Y2) (a6 a7 a8:Int) (a9:Y4) (a10:Int):Z3 :=
  rec a2 a3 a4 a5 a6 a7 a8 a9 (IntKind.i64.wrap (a10+1))
def wpj (L14:T48) (k:T41) (a2 a3 a4 a5:Y2) (a6 a7 a8:Int) (a9:Y4) (a10:Int):Z3 :=
  (atI a2.1 a7).bind fun xq1 =>
  cond (decide (a10<(xq1.length:Int)))
  (L14 a2 a3 a4 a5 a6 a7 a8 a9 a10 0)
  (k a2 a3 a4 a5 a6 a7 a8 a9)
def wph (rec:T45) (a2 a3 a4 a5:Y2) (a6 a7 a8:Int) (a9:Y4):Z3 :=
  (appI a5.1 [a9]).bind fun xq2 =>
  rec a2 a3 a4 (xq2,((),a5.2).2) a6 a7 (IntKind.i64.wrap (a8+1))
def wti (L11:T7) (k:T16) (a2 a3 a4 a5:Y2) (a6 a7 a8:Int):Z3 :=
  cond (decide (a8<a6))
  (L11 a2 a3 a4 a5 a6 a7 a8 [] 0)
  (k a2 a3 a4 a5 a6 a7)
def wtg (rec:T16) (a2 a3 a4 a5:Y2) (a6 a7:Int):Z3 :=
  rec a2 a3 a4 a5 a6 (IntKind.i64.wrap (a7+1))
def wth (L7:T45) (k:T43) (a2 a3 a4 a5:Y2) (a6 a7:Int):Z3 :=
  cond (decide (a7<(a2.1.length:Int)))
  (L7 a2 a3 a4 a5 a6 a7 0)
  (k a4 a5)
def wtf (a4 a5:Y2):Z3 :=
  some (a5,(()))
def wzw (L4:T16) (p_0 q_1:Y2):Z3 :=
  L4 p_0 q_1 (([]:Y3),()) ([],()) (q_1.1.length:Int) 0
def wpn (N:Nat) (k:T7):=itN (fun r=>w1a r k) fun _ _ _ _ _ _ _ _ _ _=>none
def wpf (N:Nat) (rec:T7) (k:T41):=wpn N (wpi rec) N
def wpm (N:Nat) (k:T41):=itN (fun r=>wpj (wpf N r k) k) fun _ _ _ _ _ _ _ _ _=>none
def wpe (N:Nat) (rec:T45) (k:T16):=wpm N (wph rec) N
def wto (N:Nat) (k:T16):=itN (fun r=>wti (wpe N r k) k) fun _ _ _ _ _ _ _=>none
def wte (N:Nat) (rec:T16) (k:T43):=wto N (wtg rec) N
def wtn (N:Nat) (k:T43):=itN (fun r=>wth (wte N r k) k) fun _ _ _ _ _ _=>none
def wtd (N:Nat):=wtn N (wtf) N
def V12 (N:Nat) (p_0 q_1:Y2):Z3:=wzw (wtd N) p_0 q_1
def S_V12:Sig:=⟨(.pair Q0 Q12),[0,0],[],.unit,Q0,(.p O11 .i),fun x=>V12 big x.1 x.2.1⟩
def A_V12:Cfg:=mkCfg tab [] [(8,[D0,D0,B2,B2,B1,B1,B0,B0]),(14,[D0,D0,B2,B2,B1,B1,B0,B0,B0]),(37,(dr 4 [B1,B1])),(22,[D0,D0,B2,B2,B1,B1,B0,B0,B0,B3,B0]),(11,[D0,D0,B2,B2,B1,B1,B0,B0]),(28,[D0,D0,B2,B2,B1,B1,B0,B0,B0,B3,B0,B0]),(35,[D0,D0,B2,B2,B1,B1,B0,B0,B0,B3]),(25,[D0,D0,B2,B2,B1,B1,B0,B0,B0,B3,B0])]
noncomputable def yq (N n:Nat) (K:T27) (a2 a3 a4 a5:Y2) (a6 a7:Int):Z3:=itr A_V12 N 8 Try.f101 [1,1,1,0,1,0,0] n ([.u,.u,W2 a2,W2 a3,W1 a4,W1 a5,W0 a6,W0 a7]++us 71) K
noncomputable def yr (N n:Nat) (K:T27) (a2 a3 a4 a5:Y2) (a6 a7 a8:Int):Z3:=itr A_V12 N 14 Try.f101 [1,1,1,0,1,0,0,1,0,0,1,0,0] n ([.u,.u,W2 a2,W2 a3,W1 a4,W1 a5,W0 a6,W0 a7,W0 a8]++us 70) K
noncomputable def w9 (N n:Nat) (K:T27) (a2 a3 a4 a5:Y2) (a6 a7 a8:Int) (a9:Y4) (a10:Int):Z3:=itr A_V12 N 22 Try.f101 [1,1,1,0,1,0,0,1,0,0,1,0,0,1,0,0,1,0,1,0,0] n ([.u,.u,W2 a2,W2 a3,W1 a4,W1 a5,W0 a6,W0 a7,W0 a8,W3 a9,W0 a10]++us 68) K
noncomputable def waa (N n:Nat) (K:T27) (a2 a3 a4 a5:Y2) (a6 a7 a8:Int) (a9:Y4) (a10 a11:Int):Z3:=itr A_V12 N 28 Try.f101 [1,1,1,0,1,0,0,1,0,0,1,0,0,1,0,0,1,0,1,0,0,1,0,0,1,0,0] n ([.u,.u,W2 a2,W2 a3,W1 a4,W1 a5,W0 a6,W0 a7,W0 a8,W3 a9,W0 a10,W0 a11]++us 67) K
noncomputable def wfr:Ex→St→Z3:=finish A_V12 S_V12 Try.f101.results.toList
noncomputable def wgr (kX:T6) (a4 a5:Y2):Z3:=kX ((ud 4 [W1 a4,W1 a5])++us 73)
noncomputable def z8 (kX:T6) (kO:T2):=exK wfr 0 (A_V12.shape 37) kX kO
noncomputable def wgs (kX:T6) (a2 a3 a4 a5:Y2) (a6 a7:Int):Z3:=kX ([.u,.u,W2 a2,W2 a3,W1 a4,W1 a5,W0 a6,W0 a7]++us 71)
noncomputable def z9 (kX:T6) (kO:T2):=exK wfr 2 (A_V12.shape 11) kX kO
noncomputable def wfq (kX:T6) (a2 a3 a4 a5:Y2) (a6 a7 a8:Int) (a9:Y4):Z3:=kX ([.u,.u,W2 a2,W2 a3,W1 a4,W1 a5,W0 a6,W0 a7,W0 a8,W3 a9]++us 69)
noncomputable def yd (kX:T6) (kO:T2):=exK wfr 4 (A_V12.shape 35) kX kO
noncomputable def wpg (kX:T6) (a2 a3 a4 a5:Y2) (a6 a7 a8:Int) (a9:Y4) (a10:Int):Z3:=kX ([.u,.u,W2 a2,W2 a3,W1 a4,W1 a5,W0 a6,W0 a7,W0 a8,W3 a9,W0 a10]++us 68)
noncomputable def wpd (kX:T6) (kO:T2):=exK wfr 6 (A_V12.shape 25) kX kO
theorem wqk (N kX kO):∀n,waa N n (wpd kX kO)=wpn N (wpg kX) n :=
 itE rfl fun m=>by kernel_rfl
noncomputable def wfp (N m:Nat) (kX:T6) (kO:T2):=(blockK 6 (blockK 5 (sqK A_V12 N 25 500012 Try.f101 [1,1,1,0,1,0,0,1,0,0,1,0,0,1,0,0,1,0,1,0,0,1,1] (itK A_V12 N 22 Try.f101 [1,1,1,0,1,0,0,1,0,0,1,0,0,1,0,0,1,0,1,0,0] m (yd kX kO)))))
noncomputable def wpl (N m:Nat) (kX:T6) (kO:T2) (st':St):Z3:=rn A_V12 N Try.f101 [1,1,1,0,1,0,0,1,0,0,1,0,0,1,0,0,1,0,1,0,0,1,1] st' (itK A_V12 N 22 Try.f101 [1,1,1,0,1,0,0,1,0,0,1,0,0,1,0,0,1,0,1,0,0] m (yd kX kO))
theorem wzb (N m kX kO) {r}(h:w9 N m (yd kX kO)=r):waa N N (wfp N m kX kO)=wpf N r (wfq kX):=by
 rw[show waa N N (wfp N m kX kO)=waa N N (wpd (wpl N m kX kO) fun j=>(wfp N m kX kO) (.exit j)) from(by funext _ _ _ _ _ _ _ _ _ _;exact jky),wqk,show wpg (wpl N m kX kO)=wpi (w9 N m (yd kX kO)) by kernel_rfl,h];rfl
theorem wqj (N kX kO):∀n,w9 N n (yd kX kO)=wpm N (wfq kX) n :=
 itE rfl fun m=>(show _=wpj (waa N N (wfp N m kX kO)) (wfq kX) by kernel_rfl).trans (by rw[wzb N m kX kO rfl]<;>rfl)
noncomputable def wfo (N m:Nat) (kX:T6) (kO:T2):=(blockK 4 (sqK A_V12 N 35 500017 Try.f101 [1,1,1,0,1,0,0,1,0,0,1,0,0,1,0,0,1,1] (blockK 3 (sqK A_V12 N 17 500008 Try.f101 [1,1,1,0,1,0,0,1,0,0,1,0,0,1,1] (itK A_V12 N 14 Try.f101 [1,1,1,0,1,0,0,1,0,0,1,0,0] m (z9 kX kO))))))
noncomputable def wpk (N m:Nat) (kX:T6) (kO:T2) (st':St):Z3:=rn A_V12 N Try.f101 [1,1,1,0,1,0,0,1,0,0,1,0,0,1,0,0,1,1] st' (blockK 3 (sqK A_V12 N 17 500008 Try.f101 [1,1,1,0,1,0,0,1,0,0,1,0,0,1,1] (itK A_V12 N 14 Try.f101 [1,1,1,0,1,0,0,1,0,0,1,0,0] m (z9 kX kO))))
theorem wza (N m kX kO) {r}(h:yr N m (z9 kX kO)=r):w9 N N (wfo N m kX kO)=wpe N r (wgs kX):=by
 rw[show w9 N N (wfo N m kX kO)=w9 N N (yd (wpk N m kX kO) fun j=>(wfo N m kX kO) (.exit j)) from(by funext _ _ _ _ _ _ _ _ _;exact jky),wqj,show wfq (wpk N m kX kO)=wph (yr N m (z9 kX kO)) by kernel_rfl,h];rfl
theorem wtk (N kX kO):∀n,yr N n (z9 kX kO)=wto N (wgs kX) n :=
 itE rfl fun m=>(show _=wti (w9 N N (wfo N m kX kO)) (wgs kX) by kernel_rfl).trans (by rw[wza N m kX kO rfl]<;>rfl)
noncomputable def wgq (N m:Nat) (kX:T6) (kO:T2):=(blockK 2 (blockK 1 (sqK A_V12 N 11 500005 Try.f101 [1,1,1,0,1,0,0,1,1] (itK A_V12 N 8 Try.f101 [1,1,1,0,1,0,0] m (z8 kX kO)))))
noncomputable def wtm (N m:Nat) (kX:T6) (kO:T2) (st':St):Z3:=rn A_V12 N Try.f101 [1,1,1,0,1,0,0,1,1] st' (itK A_V12 N 8 Try.f101 [1,1,1,0,1,0,0] m (z8 kX kO))
theorem w1c (N m kX kO) {r}(h:yq N m (z8 kX kO)=r):yr N N (wgq N m kX kO)=wte N r (wgr kX):=by
 rw[show yr N N (wgq N m kX kO)=yr N N (z9 (wtm N m kX kO) fun j=>(wgq N m kX kO) (.exit j)) from(by funext _ _ _ _ _ _ _;exact jky),wtk,show wgs (wtm N m kX kO)=wtg (yq N m (z8 kX kO)) by kernel_rfl,h];rfl
theorem wtj (N kX kO):∀n,yq N n (z8 kX kO)=wtn N (wgr kX) n :=
 itE rfl fun m=>(show _=wth (yr N N (wgq N m kX kO)) (wgr kX) by kernel_rfl).trans (by rw[w1c N m kX kO rfl]<;>rfl)
noncomputable def wgp (N:Nat):=(blockK 0 (sqK A_V12 N 37 500018 Try.f101 [1,1,1,1] wfr))
noncomputable def wtl (N:Nat) (st':St):Z3:=rn A_V12 N Try.f101 [1,1,1,1] st' wfr
theorem w1b (N):yq N N (wgp N)=wtd N:=by
 rw[show yq N N (wgp N)=yq N N (z8 (wtl N) fun j=>(wgp N) (.exit j)) from(by funext _ _ _ _ _ _;exact jky),wtj,show wgr (wtl N)=wtf by kernel_rfl];rfl
theorem run_V12 (N x):runF A_V12 N Try.f101 S_V12 x=V12 N x.1 x.2.1:=(show _=(wzw (yq N N (wgp N)) x.1 x.2.1) by kernel_rfl).trans (by rw[w1b N];rfl)
theorem ok_V12:OK 101 S_V12:=gdR (A:=A_V12) tc Try.func101 (jeb trivial) (run_V12 big)
def w47 (k_0:Int):Z3 :=
  cond (decide (k_0=0))
  ((V9 big 1 []).bind fun rq1 =>
  some (rq1.1,(())))
  (cond (decide (k_0=1))
  ((V9 big 2 [(0,(1,()))]).bind fun rq2 =>
  some (rq2.1,(())))
  (cond (decide (k_0=2))
  ((V9 big 4 [(0,(1,())),(1,(2,())),(2,(3,()))]).bind fun rq3 =>
  some (rq3.1,(())))
  (cond (decide (k_0=3))
  ((V9 big 4 [(0,(1,())),(0,(2,())),(1,(3,())),(2,(3,()))]).bind fun rq4 =>
  some (rq4.1,(())))
  (cond (decide (k_0=4))
  ((V9 big 5 [(0,(1,())),(0,(2,())),(0,(3,())),(1,(4,())),(2,(4,())),(3,(4,()))]).bind fun rq5 =>
  some (rq5.1,(())))
  (cond (decide (k_0=5))
  ((V9 big 5 [(0,(1,())),(1,(2,())),(0,(3,())),(2,(4,())),(3,(4,()))]).bind fun rq6 =>
  some (rq6.1,(())))
  (cond (decide (k_0=6))
  ((V9 big 8 [(0,(1,())),(0,(2,())),(0,(3,())),(1,(4,())),(1,(5,())),(2,(4,())),(2,(6,())),(3,(5,())),(3,(6,())),(4,(7,())),(5,(7,())),(6,(7,()))]).bind fun rq7 =>
  some (rq7.1,(())))
  (cond (decide (k_0=7))
  ((V9 big 6 [(0,(1,())),(0,(2,())),(1,(3,())),(2,(3,())),(2,(4,())),(3,(5,())),(4,(5,()))]).bind fun rq8 =>
  some (rq8.1,(())))
  (cond (decide (k_0=8))
  ((V9 big 6 [(0,(1,())),(0,(2,())),(1,(3,())),(2,(4,())),(3,(5,())),(4,(5,()))]).bind fun rq9 =>
  some (rq9.1,(())))
  (cond (decide (k_0=9))
  ((V9 big 7 [(0,(1,())),(0,(2,())),(0,(3,())),(1,(4,())),(2,(4,())),(3,(5,())),(2,(5,())),(4,(6,())),(5,(6,()))]).bind fun rq10 =>
  some (rq10.1,(())))
  (cond (decide (k_0=10))
  ((V9 big 3 [(0,(1,())),(1,(2,()))]).bind fun rq11 =>
  (V9 big 3 [(0,(1,())),(1,(2,()))]).bind fun rq12 =>
  (V12 big rq11.1 rq12.1).bind fun rq13 =>
  some (rq13.1,(())))
  ((V9 big 3 [(0,(1,())),(1,(2,()))]).bind fun rq14 =>
  some (rq14.1,(())))))))))))))
def V13 (k_0:Int):Z3:=w47 k_0
def S_V13:Sig:=⟨(.pair I .unit),[0],[],.unit,Q0,(.p O11 .i),fun x=>V13 x.1⟩
def A_V13:Cfg:=mkCfg tab [(99,S_V9),(101,S_V12)] []
theorem run_V13 (N x):runF A_V13 N Try.f64 S_V13 x=V13 x.1:=by kernel_rfl
theorem ok_V13:OK 64 S_V13:=gdR (A:=A_V13) tc Try.func64 (jeb ⟨ok_V9,ok_V12,trivial⟩) (run_V13 big)
def wc2 (rec:Y4→Int→Int→Option Z0) (k:Option Z0) (a0:Y4) (a1 a5:Int):Option Z0 :=
  cond (decide (a5<(a0.length:Int)))
  ((atI a0 a5).bind fun xq1 =>
  cond (decide (xq1=a1))
  (some (true,(())))
  (rec a0 a1 (IntKind.i64.wrap (a5+1))))
  (k)
def wab:Option Z0 :=
  some (false,(()))
def wql (L2:Y4→Int→Int→Option Z0) (l_0:Y4) (n_1:Int):Option Z0 :=
  L2 l_0 n_1 0
def wlr (N:Nat) (k:Option Z0):=itN (fun r=>wc2 r k) fun _ _ _=>none
def wlq (N:Nat):=wlr N (wab) N
def V14 (N:Nat) (l_0:Y4) (n_1:Int):Option Z0:=wql (wlq N) l_0 n_1
def S_V14:Sig:=⟨(.pair Q8 (.pair I .unit)),[0,0],[],.unit,.bool,.i,fun x=>V14 big x.1 x.2.1⟩
def A_V14:Cfg:=mkCfg tab [] [(4,([B4,B0]++dr 3 [B0])),(13,[])]
noncomputable def wc1 (N n:Nat) (K:Ex→St→Option Z0) (a0:Y4) (a1 a5:Int):Option Z0:=itr A_V14 N 4 Try.f87 [1,0,1,0,0] n (([W4 a0,W0 a1]++ud 3 [W0 a5])++us 12) K
noncomputable def wqm:Ex→St→Option Z0:=finish A_V14 S_V14 Try.f87.results.toList
noncomputable def wtq (kX:St→Option Z0):Option Z0:=kX ([]++us 18)
noncomputable def wtp (kX:St→Option Z0) (kO:Nat→St→Option Z0):Ex→St→Option Z0:=exK wqm 0 (A_V14.shape 13) kX kO
theorem wtr (N kX kO):∀n,wc1 N n (wtp kX kO)=wlr N (wtq kX) n :=
 itE rfl fun m=>by kernel_rfl
noncomputable def wgt (N:Nat):Ex→St→Option Z0:=(blockK 0 (sqK A_V14 N 13 500006 Try.f87 [1,1] wqm))
noncomputable def wts (N:Nat) (st':St):Option Z0:=rn A_V14 N Try.f87 [1,1] st' wqm
theorem w1d (N):wc1 N N (wgt N)=wlq N:=by
 rw[show wc1 N N (wgt N)=wc1 N N (wtp (wts N) fun j=>(wgt N) (.exit j)) from(by funext _ _ _;exact jky),wtr,show wtq (wts N)=wab by kernel_rfl];rfl
theorem run_V14 (N x):runF A_V14 N Try.f87 S_V14 x=V14 N x.1 x.2.1:=(show _=(wql (wc1 N N (wgt N)) x.1 x.2.1) by kernel_rfl).trans (by rw[w1d N];rfl)
theorem ok_V14:OK 87 S_V14:=gdR (A:=A_V14) tc Try.func87 (jeb trivial) (run_V14 big)
def wzx (p_0:Y2) (x_1 y_2:Int):Option Z0 :=
  (atI p_0.1 y_2).bind fun xq1 =>
  (V14 big xq1 x_1).bind fun rq2 =>
  some (rq2.1,(()))
def V15 (p_0:Y2) (x_1 y_2:Int):Option Z0:=wzx p_0 x_1 y_2
def S_V15:Sig:=⟨Q16,[0,0,0],[],.unit,.bool,.i,fun x=>V15 x.1 x.2.1 x.2.2.1⟩
def A_V15:Cfg:=mkCfg tab [(87,S_V14)] []
theorem run_V15 (N x):runF A_V15 N Try.f66 S_V15 x=V15 x.1 x.2.1 x.2.2.1:=by kernel_rfl
theorem ok_V15:OK 66 S_V15:=gdR (A:=A_V15) tc Try.func66 (jeb ⟨ok_V14,trivial⟩) (run_V15 big)
def wzy (p_0:Y2) (x_1 y_2:Int):Option Z0 :=
  cond (decide (x_1≠y_2))
  ((V15 p_0 x_1 y_2).bind fun rq1 =>
  some (rq1.1,(())))
  (some (false,(())))
def V16 (p_0:Y2) (x_1 y_2:Int):Option Z0:=wzy p_0 x_1 y_2
def S_V16:Sig:=⟨Q16,[0,0,0],[],.unit,.bool,.i,fun x=>V16 x.1 x.2.1 x.2.2.1⟩
def A_V16:Cfg:=mkCfg tab [(66,S_V15)] []
theorem run_V16 (N x):runF A_V16 N Try.f48 S_V16 x=V16 x.1 x.2.1 x.2.2.1:=by kernel_rfl
theorem ok_V16:OK 48 S_V16:=gdR (A:=A_V16) tc Try.func48 (jeb ⟨ok_V15,trivial⟩) (run_V16 big)
def wc4 (rec:Int→Int→Y2→Int→Option Z0) (k:Option Z0) (a1 a2:Int) (a3:Y2) (a7:Int):Option Z0 :=
  cond (decide (a7<(a3.1.length:Int)))
  ((V16 a3 a1 a7).bind fun rq2 =>
  cond rq2.1
  ((V16 a3 a7 a2).bind fun rq3 =>
  cond rq3.1
  (some (false,(())))
  (rec a1 a2 a3 (IntKind.i64.wrap (a7+1))))
  (rec a1 a2 a3 (IntKind.i64.wrap (a7+1))))
  (k)
def wac:Option Z0 :=
  some (true,(()))
def wqn (L4:Int→Int→Y2→Int→Option Z0) (p_0:Y2) (x_1 y_2:Int):Option Z0 :=
  (V16 p_0 x_1 y_2).bind fun rq1 =>
  cond (!rq1.1)
  (some (false,(())))
  (L4 x_1 y_2 p_0 0)
def wlt (N:Nat) (k:Option Z0):=itN (fun r=>wc4 r k) fun _ _ _ _=>none
def wls (N:Nat):=wlt N (wac) N
def V17 (N:Nat) (p_0:Y2) (x_1 y_2:Int):Option Z0:=wqn (wls N) p_0 x_1 y_2
def S_V17:Sig:=⟨Q16,[0,0,0],[],.unit,.bool,.i,fun x=>V17 big x.1 x.2.1 x.2.2.1⟩
def A_V17:Cfg:=mkCfg tab [(48,S_V16)] [(8,([D0,B0,B0,B2]++dr 3 [B0])),(17,[])]
noncomputable def wc3 (N n:Nat) (K:Ex→St→Option Z0) (a1 a2:Int) (a3:Y2) (a7:Int):Option Z0:=itr A_V17 N 8 Try.f110 [1,1,0,1,0,0] n (([.u,W0 a1,W0 a2,W2 a3]++ud 3 [W0 a7])++us 22) K
noncomputable def wqo:Ex→St→Option Z0:=finish A_V17 S_V17 Try.f110.results.toList
noncomputable def wtu (kX:St→Option Z0):Option Z0:=kX ([]++us 30)
noncomputable def wtt (kX:St→Option Z0) (kO:Nat→St→Option Z0):Ex→St→Option Z0:=exK wqo 0 (A_V17.shape 17) kX kO
theorem wtv (N kX kO):∀n,wc3 N n (wtt kX kO)=wlt N (wtu kX) n :=
 itE rfl fun m=>by kernel_rfl
noncomputable def wgu (N:Nat):Ex→St→Option Z0:=(blockK 0 (sqK A_V17 N 17 500008 Try.f110 [1,1,1] wqo))
noncomputable def wtw (N:Nat) (st':St):Option Z0:=rn A_V17 N Try.f110 [1,1,1] st' wqo
theorem w1e (N):wc3 N N (wgu N)=wls N:=by
 rw[show wc3 N N (wgu N)=wc3 N N (wtt (wtw N) fun j=>(wgu N) (.exit j)) from(by funext _ _ _ _;exact jky),wtv,show wtu (wtw N)=wac by kernel_rfl];rfl
theorem run_V17 (N x):runF A_V17 N Try.f110 S_V17 x=V17 N x.1 x.2.1 x.2.2.1:=(show _=(wqn (wc3 N N (wgu N)) x.1 x.2.1 x.2.2.1) by kernel_rfl).trans (by rw[w1e N];rfl)
theorem ok_V17:OK 110 S_V17:=gdR (A:=A_V17) tc Try.func110 (jeb ⟨ok_V16,trivial⟩) (run_V17 big)
def w3g (rec:Y2→Z13→Int→Int→Z14) (k:T54) (a1:Y2) (a3:Z13) (a4 a5:Int):Z14 :=
  cond (decide (a5<(a1.1.length:Int)))
  ((V17 big a1 a4 a5).bind fun rq1 =>
  cond rq1.1
  ((appI a3 [(a4,(a5,()))]).bind fun xq2 =>
  rec a1 xq2 a4 (IntKind.i64.wrap (a5+1)))
  (rec a1 a3 a4 (IntKind.i64.wrap (a5+1))))
  (k a1 a3 a4)
def wt2 (rec:T54) (a1:Y2) (a3:Z13) (a4:Int):Z14 :=
  rec a1 a3 (IntKind.i64.wrap (a4+1))
def wt3 (L6:Y2→Z13→Int→Int→Z14) (k:Z13→Z14) (a1:Y2) (a3:Z13) (a4:Int):Z14 :=
  cond (decide (a4<(a1.1.length:Int)))
  (L6 a1 a3 a4 0)
  (k a3)
def wt1 (a3:Z13):Z14 :=
  some (a3,(()))
def wzz (L3:T54) (p_0:Y2):Z14 :=
  L3 p_0 [] 0
def wt9 (N:Nat) (k:T54):=itN (fun r=>w3g r k) fun _ _ _ _=>none
def wtz (N:Nat) (rec:T54) (k:Z13→Z14):=wt9 N (wt2 rec) N
def wt8 (N:Nat) (k:Z13→Z14):=itN (fun r=>wt3 (wtz N r k) k) fun _ _ _=>none
def wty (N:Nat):=wt8 N (wt1) N
def V18 (N:Nat) (p_0:Y2):Z14:=wzz (wty N) p_0
def S_V18:Sig:=⟨Q12,[0],[],.unit,Q17,O5,fun x=>V18 big x.1⟩
def A_V18:Cfg:=mkCfg tab [(110,S_V17)] [(6,[D0,B2,D0,.as Q17 O5,B0]),(12,[D0,B2,D0,.as Q17 O5,B0,B0]),(21,(dr 3 [.as Q17 O5])),(9,[D0,B2,D0,.as Q17 O5,B0])]
noncomputable def yt (N n:Nat) (K:Ex→St→Z14) (a1:Y2) (a3:Z13) (a4:Int):Z14:=itr A_V18 N 6 Try.f98 [1,1,0,1,0,0] n ([.u,W2 a1,.u,.val Q17 O5 a3,W0 a4]++us 27) K
noncomputable def wc5 (N n:Nat) (K:Ex→St→Z14) (a1:Y2) (a3:Z13) (a4 a5:Int):Z14:=itr A_V18 N 12 Try.f98 [1,1,0,1,0,0,1,0,0,1,0,0] n ([.u,W2 a1,.u,.val Q17 O5 a3,W0 a4,W0 a5]++us 26) K
noncomputable def wkt:Ex→St→Z14:=finish A_V18 S_V18 Try.f98.results.toList
noncomputable def wgx (kX:St→Z14) (a3:Z13):Z14:=kX ((ud 3 [.val Q17 O5 a3])++us 28)
noncomputable def wad (kX:St→Z14) (kO:Nat→St→Z14):=exK wkt 0 (A_V18.shape 21) kX kO
noncomputable def wt0 (kX:St→Z14) (a1:Y2) (a3:Z13) (a4:Int):Z14:=kX ([.u,W2 a1,.u,.val Q17 O5 a3,W0 a4]++us 27)
noncomputable def wtx (kX:St→Z14) (kO:Nat→St→Z14):=exK wkt 2 (A_V18.shape 9) kX kO
theorem wt5 (N kX kO):∀n,wc5 N n (wtx kX kO)=wt9 N (wt0 kX) n :=
 itE rfl fun m=>by kernel_rfl
noncomputable def wgw (N m:Nat) (kX:St→Z14) (kO:Nat→St→Z14):=(blockK 2 (blockK 1 (sqK A_V18 N 9 500004 Try.f98 [1,1,0,1,0,0,1,1] (itK A_V18 N 6 Try.f98 [1,1,0,1,0,0] m (wad kX kO)))))
noncomputable def wt7 (N m:Nat) (kX:St→Z14) (kO:Nat→St→Z14) (st':St):Z14:=rn A_V18 N Try.f98 [1,1,0,1,0,0,1,1] st' (itK A_V18 N 6 Try.f98 [1,1,0,1,0,0] m (wad kX kO))
theorem w1g (N m kX kO) {r}(h:yt N m (wad kX kO)=r):wc5 N N (wgw N m kX kO)=wtz N r (wgx kX):=by
 rw[show wc5 N N (wgw N m kX kO)=wc5 N N (wtx (wt7 N m kX kO) fun j=>(wgw N m kX kO) (.exit j)) from(by funext _ _ _ _;exact jky),wt5,show wt0 (wt7 N m kX kO)=wt2 (yt N m (wad kX kO)) by kernel_rfl,h];rfl
theorem wt4 (N kX kO):∀n,yt N n (wad kX kO)=wt8 N (wgx kX) n :=
 itE rfl fun m=>(show _=wt3 (wc5 N N (wgw N m kX kO)) (wgx kX) by kernel_rfl).trans (by rw[w1g N m kX kO rfl]<;>rfl)
noncomputable def wgv (N:Nat):=(blockK 0 (sqK A_V18 N 21 500010 Try.f98 [1,1,1] wkt))
noncomputable def wt6 (N:Nat) (st':St):Z14:=rn A_V18 N Try.f98 [1,1,1] st' wkt
theorem w1f (N):yt N N (wgv N)=wty N:=by
 rw[show yt N N (wgv N)=yt N N (wad (wt6 N) fun j=>(wgv N) (.exit j)) from(by funext _ _ _;exact jky),wt4,show wgx (wt6 N)=wt1 by kernel_rfl];rfl
theorem run_V18 (N x):runF A_V18 N Try.f98 S_V18 x=V18 N x.1:=(show _=(wzz (yt N N (wgv N)) x.1) by kernel_rfl).trans (by rw[w1f N];rfl)
theorem ok_V18:OK 98 S_V18:=gdR (A:=A_V18) tc Try.func98 (jeb ⟨ok_V17,trivial⟩) (run_V18 big)
def wc7 (rec:T25) (k:Z12→Y2→Y2→Int→Z13→Z4) (a0:Z12) (a2 a3:Y2) (a4:Int) (a5:Y4) (a6:Z13) (a7:Int):Z4 :=
  cond (decide (a7<(a6.length:Int)))
  ((atI a6 a7).bind fun _ =>
  (a6[a7.toNat]?).bind fun xq9 =>
  (a6[a7.toNat]?).bind fun xq10 =>
  (atI a5 xq10.1).bind fun _ =>
  (a5[xq10.1.toNat]?).bind fun xq11 =>
  (atI a6 a7).bind fun _ =>
  (a6[a7.toNat]?).bind fun xq12 =>
  (a6[a7.toNat]?).bind fun xq13 =>
  (atI a5 xq13.2.1).bind fun _ =>
  (a5[xq13.2.1.toNat]?).bind fun xq14 =>
  (atI a6 a7).bind fun _ =>
  (a6[a7.toNat]?).bind fun xq15 =>
  rec a0 a2 a3 a4 a5 (a6.set a7.toNat (xq11,(xq14,()))) (IntKind.i64.wrap (a7+1)))
  (k a0 a2 a3 a4 a6)
def wae (a0:Z12) (a2 a3:Y2) (a4:Int) (a6:Z13):Z4 :=
  (V9 big a4 a6).bind fun rq16 =>
  some (rq16.1,(a0,()))
def wqp (L9:T25) (c_0:Z12):Z4 :=
  (V3 c_0 10).bind fun rq1 =>
  cond rq1.1
  ((V11 big rq1.2.1).bind fun rq2 =>
  some (rq2.1,(rq2.2.1,())))
  ((V2 rq1.2.1 12).bind fun rq3 =>
  (V13 rq3.1).bind fun rq4 =>
  (V5 big rq3.2.1 (rq4.1.1.length:Int)).bind fun rq5 =>
  (V8 big rq5.1 (rq4.1.1.length:Int)).bind fun rq6 =>
  cond rq6.1
  ((V3 rq5.2.1 2).bind fun rq7 =>
  cond rq7.1
  ((V18 big rq4.1).bind fun rq8 =>
  L9 rq7.2.1 (([]:Y3),()) rq4.1 (rq4.1.1.length:Int) rq5.1 rq8.1 0)
  (some (rq4.1,(rq7.2.1,()))))
  (some (rq4.1,(rq5.2.1,()))))
def wlv (N:Nat) (k:Z12→Y2→Y2→Int→Z13→Z4):=itN (fun r=>wc7 r k) fun _ _ _ _ _ _ _=>none
def wlu (N:Nat):=wlv N (wae) N
def V19 (N:Nat) (c_0:Z12):Z4:=wqp (wlu N) c_0
def S_V19:Sig:=⟨(.pair Q1 .unit),[1],[O5],(.pair Q1 .unit),Q0,.i,fun x=>V19 big x.1⟩
def A_V19:Cfg:=mkCfg tab [(94,S_V3),(95,S_V11),(63,S_V2),(64,S_V13),(96,S_V5),(97,S_V8),(98,S_V18),(99,S_V9)] [(18,[.as Q1 O5,D0,B1,B1,B0,B3,.as Q17 O5,B0]),(25,[.as Q1 O5,D0,B1,B1,B0,D0,.as Q17 O5])]
noncomputable def wc6 (N n:Nat) (K:T70) (a0:Z12) (a2 a3:Y2) (a4:Int) (a5:Y4) (a6:Z13) (a7:Int):Z4:=itr A_V19 N 18 Try.f62 [1,1,1,1,0,1,1,0,1,0,1,0,0] n ([.val Q1 O5 a0,.u,W1 a2,W1 a3,W0 a4,W3 a5,.val Q17 O5 a6,W0 a7]++us 52) K
noncomputable def wqq:Ex→St→Z4:=finish A_V19 S_V19 Try.f62.results.toList
noncomputable def wub (kX:T62) (a0:Z12) (a2 a3:Y2) (a4:Int) (a6:Z13):Z4:=kX ([.val Q1 O5 a0,.u,W1 a2,W1 a3,W0 a4,.u,.val Q17 O5 a6]++us 53)
noncomputable def wua (kX:T62) (kO:T58):=exK wqq 0 (A_V19.shape 25) kX kO
theorem wuc (N kX kO):∀n,wc6 N n (wua kX kO)=wlv N (wub kX) n :=
 itE rfl fun m=>by kernel_rfl
noncomputable def wgy (N:Nat):=(blockK 0 (sqK A_V19 N 25 500012 Try.f62 [1,1,1,1,0,1,1,0,1,1] (sqK A_V19 N 27 500013 Try.f62 [1,1,1,1,1] wqq)))
noncomputable def wud (N:Nat) (st':St):Z4:=rn A_V19 N Try.f62 [1,1,1,1,0,1,1,0,1,1] st' (sqK A_V19 N 27 500013 Try.f62 [1,1,1,1,1] wqq)
theorem w1h (N):wc6 N N (wgy N)=wlu N:=by
 rw[show wc6 N N (wgy N)=wc6 N N (wua (wud N) fun j=>(wgy N) (.exit j)) from(by funext _ _ _ _ _ _ _;exact jky),wuc,show wub (wud N)=wae by kernel_rfl];rfl
theorem run_V19 (N x):runF A_V19 N Try.f62 S_V19 x=V19 N x.1:=(show _=(wqp (wc6 N N (wgy N)) x.1) by kernel_rfl).trans (by rw[w1h N];rfl)
theorem ok_V19:OK 62 S_V19:=gdR (A:=A_V19) tc Try.func62 (jeb ⟨ok_V3,⟨fn_V11,good_V11⟩,ok_V2,ok_V13,ok_V5,ok_V8,ok_V18,ok_V9,trivial⟩) (run_V19 big)
def wz0 (c_0:Z12) (p_1:Y2):Option (Int×(Z12×Unit)) :=
  cond (decide ((p_1.1.length:Int)=0))
  ((V4 c_0 [(-1:Int),(p_1.1.length:Int)]).bind fun rq1 =>
  some (rq1.1,(rq1.2.1,())))
  ((V3 c_0 24).bind fun rq2 =>
  cond rq2.1
  ((V4 rq2.2.1 [(-1:Int),(p_1.1.length:Int)]).bind fun rq3 =>
  some (rq3.1,(rq3.2.1,())))
  ((V2 rq2.2.1 (p_1.1.length:Int)).bind fun rq4 =>
  some (rq4.1,(rq4.2.1,()))))
def V20 (c_0:Z12) (p_1:Y2):Option (Int×(Z12×Unit)):=wz0 c_0 p_1
def S_V20:Sig:=⟨(.pair Q1 Q12),[1,0],[O5],(.pair Q1 .unit),I,.i,fun x=>V20 x.1 x.2.1⟩
def A_V20:Cfg:=mkCfg tab [(118,S_V4),(94,S_V3),(63,S_V2)] []
theorem run_V20 (N x):runF A_V20 N Try.f105 S_V20 x=V20 x.1 x.2.1:=by kernel_rfl
theorem ok_V20:OK 105 S_V20:=gdR (A:=A_V20) tc Try.func105 (jeb ⟨ok_V4,ok_V3,ok_V2,trivial⟩) (run_V20 big)
def wz1 (code_0:Y4):Option ((Y2×Z1)×Unit) :=
  (V19 big (code_0,(0,(0,())))).bind fun rq1 =>
  (V20 rq1.2.1 rq1.1).bind fun rq2 =>
  (V20 rq2.2.1 rq1.1).bind fun rq3 =>
  some ((rq1.1,rq2.1,rq3.1,()),(()))
def V21 (code_0:Y4):Option ((Y2×Z1)×Unit):=wz1 code_0
def S_V21:Sig:=⟨(.pair Q14 .unit),[0],[],.unit,(.tup Q16),.i,fun x=>V21 x.1⟩
def A_V21:Cfg:=mkCfg tab [(62,S_V19),(105,S_V20)] []
theorem run_V21 (N x):runF A_V21 N Try.f68 S_V21 x=V21 x.1:=by kernel_rfl
theorem ok_V21:OK 68 S_V21:=gdR (A:=A_V21) tc Try.func68 (jeb ⟨ok_V19,ok_V20,trivial⟩) (run_V21 big)
def wz2 (code_0:Y4):Option ((Y2×Z1)×Unit) :=
  (V21 code_0).bind fun rq1 =>
  some ((rq1.1.1,rq1.1.2.1,rq1.1.2.2.1,()),(()))
def V22 (code_0:Y4):Option ((Y2×Z1)×Unit):=wz2 code_0
def S_V22:Sig:=⟨(.pair Q14 .unit),[0],[],.unit,(.tup Q16),.i,fun x=>V22 x.1⟩
def A_V22:Cfg:=mkCfg tab [(68,S_V21)] []
theorem run_V22 (N x):runF A_V22 N Try.f21 S_V22 x=V22 x.1:=by kernel_rfl
theorem ok_V22:OK 21 S_V22:=gdR (A:=A_V22) tc Try.func21 (jeb ⟨ok_V21,trivial⟩) (run_V22 big)
def wc9 (rec:T52) (k:Y5→Z11) (a0:Int) (a3:Y5) (a8 a9:Int):Z11 :=
  cond (decide (a9<a8))
  ((mkI false a0).bind fun xq3=>(mkI false a0).bind fun xq4=>cond (decide (a0≤a0))
  ((atI a3 a9).bind fun _ =>
  (a3[a9.toNat]?).bind fun xq5 =>
  rec a0 (a3.set a9.toNat xq4) a8 (IntKind.i64.wrap (a9+1)))
  none)
  (k a3)
def waf (a3:Y5):Z11 :=
  some (a3,(()))
def wqr (L3:T52) (n_0:Int):Z11 :=
  (mkI ([]:(List Bool)) n_0).bind fun xq1=>(mkI ([]:(List Bool)) n_0).bind fun xq2=>cond (decide (n_0≤n_0))
  (L3 n_0 xq2 (xq2.length:Int) 0)
  none
def wlx (N:Nat) (k:Y5→Z11):=itN (fun r=>wc9 r k) fun _ _ _ _=>none
def wlw (N:Nat):=wlx N (waf) N
def V23 (N:Nat) (n_0:Int):Z11:=wqr (wlw N) n_0
def S_V23:Sig:=⟨(.pair I .unit),[0],[],.unit,Q4,O11,fun x=>V23 big x.1⟩
def A_V23:Cfg:=mkCfg tab [] [(6,([B0,D0,D0,B5]++dr 4 [B0,B0])),(15,(dr 3 [B5]))]
noncomputable def wc8 (N n:Nat) (K:Ex→St→Z11) (a0:Int) (a3:Y5) (a8 a9:Int):Z11:=itr A_V23 N 6 Try.f56 [1,1,0,1,0,0] n (([W0 a0,.u,.u,W5 a3]++ud 4 [W0 a8,W0 a9])++us 9) K
noncomputable def wqs:Ex→St→Z11:=finish A_V23 S_V23 Try.f56.results.toList
noncomputable def wuf (kX:T71) (a3:Y5):Z11:=kX ((ud 3 [W5 a3])++us 15)
noncomputable def wue (kX:T71) (kO:T66):=exK wqs 0 (A_V23.shape 15) kX kO
theorem wug (N kX kO):∀n,wc8 N n (wue kX kO)=wlx N (wuf kX) n :=
 itE rfl fun m=>by kernel_rfl
noncomputable def wgz (N:Nat):=(blockK 0 (sqK A_V23 N 15 500007 Try.f56 [1,1,1] wqs))
noncomputable def wuh (N:Nat) (st':St):Z11:=rn A_V23 N Try.f56 [1,1,1] st' wqs
theorem w1i (N):wc8 N N (wgz N)=wlw N:=by
 rw[show wc8 N N (wgz N)=wc8 N N (wue (wuh N) fun j=>(wgz N) (.exit j)) from(by funext _ _ _ _;exact jky),wug,show wuf (wuh N)=waf by kernel_rfl];rfl
theorem run_V23 (N x):runF A_V23 N Try.f56 S_V23 x=V23 N x.1:=(show _=(wqr (wc8 N N (wgz N)) x.1) by kernel_rfl).trans (by rw[w1i N];rfl)
theorem ok_V23:OK 56 S_V23:=gdR (A:=A_V23) tc Try.func56 (jeb trivial) (run_V23 big)
def wl1 (rec:Y4→Int→Option Z0) (k:Option Z0) (a0:Y4) (a3:Int):Option Z0 :=
  cond (decide (a3<(a0.length:Int)))
  ((atI a0 (IntKind.i64.wrap (a3-1))).bind fun xq1 =>
  (atI a0 a3).bind fun xq2 =>
  cond (decide (xq2≤xq1))
  (some (false,(())))
  (rec a0 (IntKind.i64.wrap (a3+1))))
  (k)
def wl0:Option Z0 :=
  some (true,(()))
def wqt (L2:Y4→Int→Option Z0) (list_0:Y4):Option Z0 :=
  L2 list_0 1
def wda (N:Nat) (k:Option Z0):Nat→Y4→Int→Option Z0
  | 0,_,_=>none
  | m+1,a0,a3=>wl1 (wda N k m) k a0 a3
def wly (N:Nat):=wda N (wl0) N
def V24 (N:Nat) (list_0:Y4):Option Z0:=wqt (wly N) list_0
def S_V24:Sig:=⟨(.pair Q8 .unit),[0],[],.unit,.bool,.i,fun x=>V24 big x.1⟩
def A_V24:Cfg:=mkCfg tab [] [(4,[B4,D0,D0,B0]),(13,[])]
noncomputable def yu (N n:Nat) (K:Ex→St→Option Z0) (a0:Y4) (a3:Int):Option Z0:=itr A_V24 N 4 Try.f109 [1,0,1,0,0] n ([W4 a0,.u,.u,W0 a3]++us 16) K
noncomputable def wqu:Ex→St→Option Z0:=finish A_V24 S_V24 Try.f109.results.toList
noncomputable def wlz (kX:St→Option Z0):Option Z0:=kX ([]++us 20)
noncomputable def wg0 (kX:St→Option Z0) (kO:Nat→St→Option Z0):Ex→St→Option Z0:=exK wqu 0 (A_V24.shape 13) kX kO
theorem wkb (N kX kO):∀n,yu N n (wg0 kX kO)=wda N (wlz kX) n
 | 0=>rfl
 | m+1=>(show yu N (m+1) (wg0 kX kO)=wl1 (yu N m (wg0 kX kO)) (wlz kX) by kernel_rfl).trans (by rw[wkb N kX kO m];funext _ _;rfl)
noncomputable def wg1 (N:Nat):Ex→St→Option Z0:=(blockK 0 (sqK A_V24 N 13 500006 Try.f109 [1,1] wqu))
noncomputable def wui (N:Nat) (st':St):Option Z0:=rn A_V24 N Try.f109 [1,1] st' wqu
theorem w1j (N):yu N N (wg1 N)=wly N:=by
 rw[show yu N N (wg1 N)=yu N N (wg0 (wui N) fun j=>(wg1 N) (.exit j)) from(by funext _ _;exact jky),wkb,show wlz (wui N)=wl0 by kernel_rfl];rfl
theorem run_V24 (N x):runF A_V24 N Try.f109 S_V24 x=V24 N x.1:=(show _=(wqt (yu N N (wg1 N)) x.1) by kernel_rfl).trans (by rw[w1j N];rfl)
theorem ok_V24:OK 109 S_V24:=gdR (A:=A_V24) tc Try.func109 (jeb trivial) (run_V24 big)
def wl5 (rec:Int→Y4→Int→Int→Option Z0) (k:Option Z0) (a1:Int) (a7:Y4) (a8 a9:Int):Option Z0 :=
  cond (decide (a9<a8))
  ((atI a7 a9).bind fun xq1 =>
  cond (decide (xq1<0))
  (some (false,(())))
  (cond (decide (a1≤xq1))
  (some (false,(())))
  (rec a1 a7 a8 (IntKind.i64.wrap (a9+1)))))
  (k)
def wl4:Option Z0 :=
  some (true,(()))
def wqv (L2:Int→Y4→Int→Int→Option Z0) (list_0:Y4) (n_1:Int):Option Z0 :=
  L2 n_1 list_0 (list_0.length:Int) 0
def wdb (N:Nat) (k:Option Z0):Nat→Int→Y4→Int→Int→Option Z0
  | 0,_,_,_,_=>none
  | m+1,a1,a7,a8,a9=>wl5 (wdb N k m) k a1 a7 a8 a9
def wl2 (N:Nat):=wdb N (wl4) N
def V25 (N:Nat) (list_0:Y4) (n_1:Int):Option Z0:=wqv (wl2 N) list_0 n_1
def S_V25:Sig:=⟨(.pair Q8 (.pair I .unit)),[0,0],[],.unit,.bool,.i,fun x=>V25 big x.1 x.2.1⟩
def A_V25:Cfg:=mkCfg tab [] [(4,([D0,B0]++dr 5 [B4,B0,B0])),(15,[])]
noncomputable def yv (N n:Nat) (K:Ex→St→Option Z0) (a1:Int) (a7:Y4) (a8 a9:Int):Option Z0:=itr A_V25 N 4 Try.f90 [1,0,1,0,0] n (([.u,W0 a1]++ud 5 [W4 a7,W0 a8,W0 a9])++us 11) K
noncomputable def wqw:Ex→St→Option Z0:=finish A_V25 S_V25 Try.f90.results.toList
noncomputable def wl3 (kX:St→Option Z0):Option Z0:=kX ([]++us 21)
noncomputable def wg2 (kX:St→Option Z0) (kO:Nat→St→Option Z0):Ex→St→Option Z0:=exK wqw 0 (A_V25.shape 15) kX kO
theorem wkc (N kX kO):∀n,yv N n (wg2 kX kO)=wdb N (wl3 kX) n
 | 0=>rfl
 | m+1=>(show yv N (m+1) (wg2 kX kO)=wl5 (yv N m (wg2 kX kO)) (wl3 kX) by kernel_rfl).trans (by rw[wkc N kX kO m];funext _ _ _ _;rfl)
noncomputable def wg3 (N:Nat):Ex→St→Option Z0:=(blockK 0 (sqK A_V25 N 15 500007 Try.f90 [1,1] wqw))
noncomputable def wuj (N:Nat) (st':St):Option Z0:=rn A_V25 N Try.f90 [1,1] st' wqw
theorem w1k (N):yv N N (wg3 N)=wl2 N:=by
 rw[show yv N N (wg3 N)=yv N N (wg2 (wuj N) fun j=>(wg3 N) (.exit j)) from(by funext _ _ _ _;exact jky),wkc,show wl3 (wuj N)=wl4 by kernel_rfl];rfl
theorem run_V25 (N x):runF A_V25 N Try.f90 S_V25 x=V25 N x.1 x.2.1:=(show _=(wqv (yv N N (wg3 N)) x.1 x.2.1) by kernel_rfl).trans (by rw[w1k N];rfl)
theorem ok_V25:OK 90 S_V25:=gdR (A:=A_V25) tc Try.func90 (jeb trivial) (run_V25 big)
def waj (rec:Y5→Int→Int→Int→Int→Int→Int→Int→Int→Option Z0) (k:Y5→Int→Int→Int→Int→Int→Option Z0) (a0:Y5) (a3 a4 a7 a8 a20 a21 a46 a47:Int):Option Z0 :=
  cond (decide (a47<a46))
  ((atI a0 a3).bind fun xq7 =>
  (atI xq7 a4).bind fun xq8 =>
  cond xq8
  ((atI a0 a4).bind fun xq9 =>
  (atI xq9 a47).bind fun xq10 =>
  cond xq10
  ((atI a0 a3).bind fun xq11 =>
  (atI xq11 a47).bind fun xq12 =>
  cond (!xq12)
  (some (false,(())))
  (rec a0 a3 a4 a7 a8 a20 a21 a46 (IntKind.i64.wrap (a47+1))))
  (rec a0 a3 a4 a7 a8 a20 a21 a46 (IntKind.i64.wrap (a47+1))))
  (rec a0 a3 a4 a7 a8 a20 a21 a46 (IntKind.i64.wrap (a47+1))))
  (k a0 a3 a7 a8 a20 a21)
def yf (rec:Y5→Int→Int→Int→Int→Int→Option Z0) (a0:Y5) (a3 a7 a8 a20 a21:Int):Option Z0 :=
  rec a0 a3 a7 a8 a20 (IntKind.i64.wrap (a21+1))
def wal (L12:Y5→Int→Int→Int→Int→Int→Int→Int→Int→Option Z0) (k:Y5→Int→Int→Option Z0) (a0:Y5) (a3 a7 a8 a20 a21:Int):Option Z0 :=
  cond (decide (a21<a20))
  (cond (decide (a3≠a21))
  ((atI a0 a3).bind fun xq3 =>
  (atI xq3 a21).bind fun xq4 =>
  cond xq4
  ((atI a0 a21).bind fun xq5 =>
  (atI xq5 a3).bind fun xq6 =>
  cond xq6
  (some (false,(())))
  (L12 a0 a3 a21 a7 a8 a20 a21 (a0.length:Int) 0))
  (L12 a0 a3 a21 a7 a8 a20 a21 (a0.length:Int) 0))
  (L12 a0 a3 a21 a7 a8 a20 a21 (a0.length:Int) 0))
  (k a0 a7 a8)
def wu (rec:Y5→Int→Int→Option Z0) (a0:Y5) (a7 a8:Int):Option Z0 :=
  rec a0 a7 (IntKind.i64.wrap (a8+1))
def wak (L7:Y5→Int→Int→Int→Int→Int→Option Z0) (k:Option Z0) (a0:Y5) (a7 a8:Int):Option Z0 :=
  cond (decide (a8<a7))
  ((atI a0 a8).bind fun xq1 =>
  (atI xq1 a8).bind fun xq2 =>
  cond (!xq2)
  (some (false,(())))
  (L7 a0 a8 a7 a8 (a0.length:Int) 0))
  (k)
def xf:Option Z0 :=
  some (true,(()))
def wqy (L2:Y5→Int→Int→Option Z0) (o_0:Y5):Option Z0 :=
  L2 o_0 (o_0.length:Int) 0
def wj1 (N:Nat) (k:Y5→Int→Int→Int→Int→Int→Option Z0):=itN (fun r=>waj r k) fun _ _ _ _ _ _ _ _ _=>none
def ye (N:Nat) (rec:Y5→Int→Int→Int→Int→Int→Option Z0) (k:Y5→Int→Int→Option Z0):=wj1 N (yf rec) N
def wl8 (N:Nat) (k:Y5→Int→Int→Option Z0):=itN (fun r=>wal (ye N r k) k) fun _ _ _ _ _ _=>none
def wdc (N:Nat) (rec:Y5→Int→Int→Option Z0) (k:Option Z0):=wl8 N (wu rec) N
def wl7 (N:Nat) (k:Option Z0):=itN (fun r=>wak (wdc N r k) k) fun _ _ _=>none
def wl6 (N:Nat):=wl7 N (xf) N
def V26 (N:Nat) (o_0:Y5):Option Z0:=wqy (wl6 N) o_0
def S_V26:Sig:=⟨(.pair Q4 .unit),[0],[],.unit,.bool,.i,fun x=>V26 big x.1⟩
def A_V26:Cfg:=mkCfg tab [] [(4,([.as Q4 .i]++dr 6 [B0,B0])),(14,([.as Q4 .i,D0,D0,B0]++dr 3 ([B0,B0]++dr 11 [B0,B0]))),(39,[]),(24,([.as Q4 .i,D0,D0,B0,B0,D0,D0,B0,B0]++dr 11 ([B0,B0]++dr 24 [B0,B0]))),(37,([.as Q4 .i]++dr 6 [B0,B0])),(35,([.as Q4 .i,D0,D0,B0]++dr 3 ([B0,B0]++dr 11 [B0,B0])))]
noncomputable def yw (N n:Nat) (K:Ex→St→Option Z0) (a0:Y5) (a7 a8:Int):Option Z0:=itr A_V26 N 4 Try.f58 [1,0,1,0,0] n (([.val Q4 .i a0]++ud 6 [W0 a7,W0 a8])++us 70) K
noncomputable def yx (N n:Nat) (K:Ex→St→Option Z0) (a0:Y5) (a3 a7 a8 a20 a21:Int):Option Z0:=itr A_V26 N 14 Try.f58 [1,0,1,0,0,1,1,0,0,1,1,1,0,0] n (([.val Q4 .i a0,.u,.u,W0 a3]++ud 3 ([W0 a7,W0 a8]++ud 11 [W0 a20,W0 a21]))++us 57) K
noncomputable def wai (N n:Nat) (K:Ex→St→Option Z0) (a0:Y5) (a3 a4 a7 a8 a20 a21 a46 a47:Int):Option Z0:=itr A_V26 N 24 Try.f58 [1,0,1,0,0,1,1,0,0,1,1,1,0,0,1,1,0,0,1,1,1,0,0] n (([.val Q4 .i a0,.u,.u,W0 a3,W0 a4,.u,.u,W0 a7,W0 a8]++ud 11 ([W0 a20,W0 a21]++ud 24 [W0 a46,W0 a47]))++us 31) K
noncomputable def wg8:Ex→St→Option Z0:=finish A_V26 S_V26 Try.f58.results.toList
noncomputable def wg6 (kX:St→Option Z0):Option Z0:=kX ([]++us 79)
noncomputable def wag (kX:St→Option Z0) (kO:Nat→St→Option Z0):Ex→St→Option Z0:=exK wg8 0 (A_V26.shape 39) kX kO
noncomputable def wg7 (kX:St→Option Z0) (a0:Y5) (a7 a8:Int):Option Z0:=kX (([.val Q4 .i a0]++ud 6 [W0 a7,W0 a8])++us 70)
noncomputable def wah (kX:St→Option Z0) (kO:Nat→St→Option Z0):Ex→St→Option Z0:=exK wg8 2 (A_V26.shape 37) kX kO
noncomputable def wpp (kX:St→Option Z0) (a0:Y5) (a3 a7 a8 a20 a21:Int):Option Z0:=kX (([.val Q4 .i a0,.u,.u,W0 a3]++ud 3 ([W0 a7,W0 a8]++ud 11 [W0 a20,W0 a21]))++us 57)
noncomputable def wpo (kX:St→Option Z0) (kO:Nat→St→Option Z0):Ex→St→Option Z0:=exK wg8 4 (A_V26.shape 35) kX kO
theorem wqx (N kX kO):∀n,wai N n (wpo kX kO)=wj1 N (wpp kX) n :=
 itE rfl fun m=>by kernel_rfl
noncomputable def wfs (N m:Nat) (kX:St→Option Z0) (kO:Nat→St→Option Z0):Ex→St→Option Z0:=(blockK 4 (blockK 3 (sqK A_V26 N 35 500017 Try.f58 [1,0,1,0,0,1,1,0,0,1,1,1,0,0,1,1,1] (itK A_V26 N 14 Try.f58 [1,0,1,0,0,1,1,0,0,1,1,1,0,0] m (wah kX kO)))))
noncomputable def wpq (N m:Nat) (kX:St→Option Z0) (kO:Nat→St→Option Z0) (st':St):Option Z0:=rn A_V26 N Try.f58 [1,0,1,0,0,1,1,0,0,1,1,1,0,0,1,1,1] st' (itK A_V26 N 14 Try.f58 [1,0,1,0,0,1,1,0,0,1,1,1,0,0] m (wah kX kO))
theorem wzc (N m kX kO) {r}(h:yx N m (wah kX kO)=r):wai N N (wfs N m kX kO)=ye N r (wg7 kX):=by
 rw[show wai N N (wfs N m kX kO)=wai N N (wpo (wpq N m kX kO) fun j=>(wfs N m kX kO) (.exit j)) from(by funext _ _ _ _ _ _ _ _ _;exact jky),wqx,show wpp (wpq N m kX kO)=yf (yx N m (wah kX kO)) by kernel_rfl,h];rfl
theorem wul (N kX kO):∀n,yx N n (wah kX kO)=wl8 N (wg7 kX) n :=
 itE rfl fun m=>(show _=wal (wai N N (wfs N m kX kO)) (wg7 kX) by kernel_rfl).trans (by rw[wzc N m kX kO rfl]<;>rfl)
noncomputable def wg5 (N m:Nat) (kX:St→Option Z0) (kO:Nat→St→Option Z0):Ex→St→Option Z0:=(blockK 2 (blockK 1 (sqK A_V26 N 37 500018 Try.f58 [1,0,1,0,0,1,1,1] (itK A_V26 N 4 Try.f58 [1,0,1,0,0] m (wag kX kO)))))
noncomputable def wun (N m:Nat) (kX:St→Option Z0) (kO:Nat→St→Option Z0) (st':St):Option Z0:=rn A_V26 N Try.f58 [1,0,1,0,0,1,1,1] st' (itK A_V26 N 4 Try.f58 [1,0,1,0,0] m (wag kX kO))
theorem w1n (N m kX kO) {r}(h:yw N m (wag kX kO)=r):yx N N (wg5 N m kX kO)=wdc N r (wg6 kX):=by
 rw[show yx N N (wg5 N m kX kO)=yx N N (wah (wun N m kX kO) fun j=>(wg5 N m kX kO) (.exit j)) from(by funext _ _ _ _ _ _;exact jky),wul,show wg7 (wun N m kX kO)=wu (yw N m (wag kX kO)) by kernel_rfl,h];rfl
theorem wuk (N kX kO):∀n,yw N n (wag kX kO)=wl7 N (wg6 kX) n :=
 itE rfl fun m=>(show _=wak (yx N N (wg5 N m kX kO)) (wg6 kX) by kernel_rfl).trans (by rw[w1n N m kX kO rfl]<;>rfl)
noncomputable def wg4 (N:Nat):Ex→St→Option Z0:=(blockK 0 (sqK A_V26 N 39 500019 Try.f58 [1,1] wg8))
noncomputable def wum (N:Nat) (st':St):Option Z0:=rn A_V26 N Try.f58 [1,1] st' wg8
theorem w1m (N):yw N N (wg4 N)=wl6 N:=by
 rw[show yw N N (wg4 N)=yw N N (wag (wum N) fun j=>(wg4 N) (.exit j)) from(by funext _ _ _;exact jky),wuk,show wg6 (wum N)=xf by kernel_rfl];rfl
theorem run_V26 (N x):runF A_V26 N Try.f58 S_V26 x=V26 N x.1:=(show _=(wqy (yw N N (wg4 N)) x.1) by kernel_rfl).trans (by rw[w1m N];rfl)
theorem ok_V26:OK 58 S_V26:=gdR (A:=A_V26) tc Try.func58 (jeb trivial) (run_V26 big)
def wap (rec:T3) (k:T49) (a4:Int) (a5:Y5) (a6:Int) (a18:Y3) (a19 a20:Int) (a29:Y4) (a30:Int) (a31 a32:Bool) (a34:Y4) (a35 a36:Int):Z9 :=
  cond (decide (a36<a35))
  ((atI a34 a36).bind fun xq6 =>
  (atI a5 xq6).bind fun _ =>
  (a5[xq6.toNat]?).bind fun xq7 =>
  (a5[xq6.toNat]?).bind fun xq8 =>
  (atI xq8 a6).bind fun _ =>
  (a5[xq6.toNat]?).bind fun xq9 =>
  (xq9[a6.toNat]?).bind fun xq10 =>
  rec a4 (a5.set xq6.toNat (xq9.set a6.toNat true)) a6 a18 a19 a20 a29 a30 a31 a32 a34 a35 (IntKind.i64.wrap (a36+1)))
  (k a4 a5 a18 a19 a20 a29 a30 a31 a32)
def yg (rec:T21) (a4:Int) (a5:Y5) (a18:Y3) (a19 a20:Int) (a29:Y4) (a30:Int) (a31 a32:Bool):Z9 :=
  rec a4 a5 a18 a19 (IntKind.i64.wrap (a20+1))
def waq (L11:T3) (k:Y5→Z9) (a4:Int) (a5:Y5) (a18:Y3) (a19 a20:Int):Z9 :=
  cond (decide (a20<a19))
  ((atI a18 a20).bind fun xq2 =>
  (V24 big xq2).bind fun rq3 =>
  cond (!rq3.1)
  (some (([],false,()),(())))
  ((V25 big xq2 a4).bind fun rq4 =>
  cond (!rq4.1)
  (some (([],false,()),(())))
  (L11 a4 a5 a20 a18 a19 a20 xq2 a4 rq4.1 (!rq4.1) xq2 (xq2.length:Int) 0)))
  (k a5)
def xg (a5:Y5):Z9 :=
  (V26 big a5).bind fun rq5 =>
  some ((a5,rq5.1,()),(()))
def wku (L6:T21) (p_0:Y2):Z9 :=
  cond (decide (10<(p_0.1.length:Int)))
  (some (([],false,()),(())))
  ((V23 big (p_0.1.length:Int)).bind fun rq1 =>
  L6 (p_0.1.length:Int) rq1.1 p_0.1 (p_0.1.length:Int) 0)
def wj2 (N:Nat) (k:T49):=itN (fun r=>wap r k) fun _ _ _ _ _ _ _ _ _ _ _ _ _=>none
def wan (N:Nat) (rec:T21) (k:Y5→Z9):=wj2 N (yg rec) N
def wma (N:Nat) (k:Y5→Z9):=itN (fun r=>waq (wan N r k) k) fun _ _ _ _ _=>none
def wl9 (N:Nat):=wma N (xg) N
def V27 (N:Nat) (p_0:Y2):Z9:=wku (wl9 N) p_0
def S_V27:Sig:=⟨Q12,[0],[],.unit,(.tup (.pair Q4 Q15)),(.p O11 .i),fun x=>V27 big x.1⟩
def A_V27:Cfg:=mkCfg tab [(56,S_V23),(109,S_V24),(90,S_V25),(58,S_V26)] [(12,(dr 4 ([B0,B5]++dr 12 [.as Q13 .i,B0,B0]))),(22,(dr 4 ([B0,B5,B0]++dr 11 ([.as Q13 .i,B0,B0]++dr 8 [B4,B0,.as .bool .i,.as .bool .i,D0,B4,B0,B0])))),(33,(dr 5 [B5])),(31,(dr 4 ([B0,B5]++dr 12 ([.as Q13 .i,B0,B0]++dr 8 [B4,B0,.as .bool .i,.as .bool .i]))))]
noncomputable def yz (N n:Nat) (K:Ex→St→Z9) (a4:Int) (a5:Y5) (a18:Y3) (a19 a20:Int):Z9:=itr A_V27 N 12 Try.f72 [1,1,1,1,0,1,0,0] n ((ud 4 ([W0 a4,W5 a5]++ud 12 [.val Q13 .i a18,W0 a19,W0 a20]))++us 30) K
noncomputable def wao (N n:Nat) (K:Ex→St→Z9) (a4:Int) (a5:Y5) (a6:Int) (a18:Y3) (a19 a20:Int) (a29:Y4) (a30:Int) (a31 a32:Bool) (a34:Y4) (a35 a36:Int):Z9:=itr A_V27 N 22 Try.f72 [1,1,1,1,0,1,0,0,1,1,0,0,1,1,1,0,0] n ((ud 4 ([W0 a4,W5 a5,W0 a6]++ud 11 ([.val Q13 .i a18,W0 a19,W0 a20]++ud 8 [W4 a29,W0 a30,.val .bool .i a31,.val .bool .i a32,.u,W4 a34,W0 a35,W0 a36])))++us 14) K
noncomputable def wkv:Ex→St→Z9:=finish A_V27 S_V27 Try.f72.results.toList
noncomputable def wha (kX:St→Z9) (a5:Y5):Z9:=kX ((ud 5 [W5 a5])++us 45)
noncomputable def wam (kX:St→Z9) (kO:Nat→St→Z9):=exK wkv 0 (A_V27.shape 33) kX kO
noncomputable def wps (kX:St→Z9) (a4:Int) (a5:Y5) (a18:Y3) (a19 a20:Int) (a29:Y4) (a30:Int) (a31 a32:Bool):Z9:=kX ((ud 4 ([W0 a4,W5 a5]++ud 12 ([.val Q13 .i a18,W0 a19,W0 a20]++ud 8 [W4 a29,W0 a30,.val .bool .i a31,.val .bool .i a32])))++us 18)
noncomputable def wpr (kX:St→Z9) (kO:Nat→St→Z9):=exK wkv 2 (A_V27.shape 31) kX kO
theorem wqz (N kX kO):∀n,wao N n (wpr kX kO)=wj2 N (wps kX) n :=
 itE rfl fun m=>by kernel_rfl
noncomputable def wft (N m:Nat) (kX:St→Z9) (kO:Nat→St→Z9):=(blockK 2 (blockK 1 (sqK A_V27 N 31 500015 Try.f72 [1,1,1,1,0,1,0,0,1,1,1] (itK A_V27 N 12 Try.f72 [1,1,1,1,0,1,0,0] m (wam kX kO)))))
noncomputable def wpt (N m:Nat) (kX:St→Z9) (kO:Nat→St→Z9) (st':St):Z9:=rn A_V27 N Try.f72 [1,1,1,1,0,1,0,0,1,1,1] st' (itK A_V27 N 12 Try.f72 [1,1,1,1,0,1,0,0] m (wam kX kO))
theorem wzd (N m kX kO) {r}(h:yz N m (wam kX kO)=r):wao N N (wft N m kX kO)=wan N r (wha kX):=by
 rw[show wao N N (wft N m kX kO)=wao N N (wpr (wpt N m kX kO) fun j=>(wft N m kX kO) (.exit j)) from(by funext _ _ _ _ _ _ _ _ _ _ _ _ _;exact jky),wqz,show wps (wpt N m kX kO)=yg (yz N m (wam kX kO)) by kernel_rfl,h];rfl
theorem wuo (N kX kO):∀n,yz N n (wam kX kO)=wma N (wha kX) n :=
 itE rfl fun m=>(show _=waq (wao N N (wft N m kX kO)) (wha kX) by kernel_rfl).trans (by rw[wzd N m kX kO rfl]<;>rfl)
noncomputable def wg9 (N:Nat):=(blockK 0 (sqK A_V27 N 33 500016 Try.f72 [1,1,1,1,1] wkv))
noncomputable def wup (N:Nat) (st':St):Z9:=rn A_V27 N Try.f72 [1,1,1,1,1] st' wkv
theorem w1p (N):yz N N (wg9 N)=wl9 N:=by
 rw[show yz N N (wg9 N)=yz N N (wam (wup N) fun j=>(wg9 N) (.exit j)) from(by funext _ _ _ _ _;exact jky),wuo,show wha (wup N)=xg by kernel_rfl];rfl
theorem run_V27 (N x):runF A_V27 N Try.f72 S_V27 x=V27 N x.1:=(show _=(wku (yz N N (wg9 N)) x.1) by kernel_rfl).trans (by rw[w1p N];rfl)
theorem ok_V27:OK 72 S_V27:=gdR (A:=A_V27) tc Try.func72 (jeb ⟨ok_V23,ok_V24,ok_V25,ok_V26,trivial⟩) (run_V27 big)
def wdf (rec:T14) (k:T60) (a0:Y5) (a1:Y4) (a6:Int) (a7:Bool) (a10:Y4) (a11 a12:Int) (a16:Y4) (a17 a18:Int):Z5 :=
  cond (decide (a18<a17))
  ((atI a16 a18).bind fun xq2 =>
  cond a7
  ((atI a0 xq2).bind fun xq3 =>
  (atI xq3 a6).bind fun xq4 =>
  rec a0 a1 a6 xq4 a10 a11 a12 a16 a17 (IntKind.i64.wrap (a18+1)))
  (rec a0 a1 a6 false a10 a11 a12 a16 a17 (IntKind.i64.wrap (a18+1))))
  (k a0 a1 a6 a7 a10 a11 a12)
def was (rec:T23) (a0:Y5) (a1:Y4) (a6:Int) (a7:Bool) (a10:Y4) (a11 a12:Int):Z5 :=
  cond a7
  (some (a6,(())))
  (rec a0 a1 a10 a11 (IntKind.i64.wrap (a12+1)))
def wat (L6:T14) (k:Z5) (a0:Y5) (a1 a10:Y4) (a11 a12:Int):Z5 :=
  cond (decide (a12<a11))
  ((atI a10 a12).bind fun xq1 =>
  L6 a0 a1 xq1 true a10 a11 a12 a1 (a1.length:Int) 0)
  (k)
def xh:Z5 :=
  some ((-1:Int),(()))
def wq0 (L2:T23) (o_0:Y5) (list_1:Y4):Z5 :=
  L2 o_0 list_1 list_1 (list_1.length:Int) 0
def wmd (N:Nat) (k:T60):=itN (fun r=>wdf r k) fun _ _ _ _ _ _ _ _ _ _=>none
def wdd (N:Nat) (rec:T23) (k:Z5):=wmd N (was rec) N
def wmc (N:Nat) (k:Z5):=itN (fun r=>wat (wdd N r k) k) fun _ _ _ _ _=>none
def wmb (N:Nat):=wmc N (xh) N
def V28 (N:Nat) (o_0:Y5) (list_1:Y4):Z5:=wq0 (wmb N) o_0 list_1
def S_V28:Sig:=⟨(.pair Q4 (.pair Q8 .unit)),[0,0],[],.unit,I,.i,fun x=>V28 big x.1 x.2.1⟩
def A_V28:Cfg:=mkCfg tab [] [(4,([.as Q4 .i,B4]++dr 8 [B4,B0,B0])),(12,([.as Q4 .i,B4]++dr 4 ([B0,.as .bool .i,D0,D0,B4,B0,B0]++dr 3 [B4,B0,B0]))),(27,[]),(21,([.as Q4 .i,B4]++dr 4 [B0,.as .bool .i,D0,D0,B4,B0,B0]))]
noncomputable def y5 (N n:Nat) (K:T61) (a0:Y5) (a1 a10:Y4) (a11 a12:Int):Z5:=itr A_V28 N 4 Try.f116 [1,0,1,0,0] n (([.val Q4 .i a0,W4 a1]++ud 8 [W4 a10,W0 a11,W0 a12])++us 23) K
noncomputable def wde (N n:Nat) (K:T61) (a0:Y5) (a1:Y4) (a6:Int) (a7:Bool) (a10:Y4) (a11 a12:Int) (a16:Y4) (a17 a18:Int):Z5:=itr A_V28 N 12 Try.f116 [1,0,1,0,0,1,1,0,0,1,1,0,1,0,0] n (([.val Q4 .i a0,W4 a1]++ud 4 ([W0 a6,.val .bool .i a7,.u,.u,W4 a10,W0 a11,W0 a12]++ud 3 [W4 a16,W0 a17,W0 a18]))++us 17) K
noncomputable def wkw:Ex→St→Z5:=finish A_V28 S_V28 Try.f116.results.toList
noncomputable def whd (kX:T46):Z5:=kX ([]++us 36)
noncomputable def war (kX:T46) (kO:T37):=exK wkw 0 (A_V28.shape 27) kX kO
noncomputable def wur (kX:T46) (a0:Y5) (a1:Y4) (a6:Int) (a7:Bool) (a10:Y4) (a11 a12:Int):Z5:=kX (([.val Q4 .i a0,W4 a1]++ud 4 [W0 a6,.val .bool .i a7,.u,.u,W4 a10,W0 a11,W0 a12])++us 23)
noncomputable def wuq (kX:T46) (kO:T37):=exK wkw 2 (A_V28.shape 21) kX kO
theorem wut (N kX kO):∀n,wde N n (wuq kX kO)=wmd N (wur kX) n :=
 itE rfl fun m=>by kernel_rfl
noncomputable def whc (N m:Nat) (kX:T46) (kO:T37):=(blockK 2 (sqK A_V28 N 21 500010 Try.f116 [1,0,1,0,0,1,1,0,0,1,1,1] (blockK 1 (sqK A_V28 N 25 500012 Try.f116 [1,0,1,0,0,1,1,1] (itK A_V28 N 4 Try.f116 [1,0,1,0,0] m (war kX kO))))))
noncomputable def wuv (N m:Nat) (kX:T46) (kO:T37) (st':St):Z5:=rn A_V28 N Try.f116 [1,0,1,0,0,1,1,0,0,1,1,1] st' (blockK 1 (sqK A_V28 N 25 500012 Try.f116 [1,0,1,0,0,1,1,1] (itK A_V28 N 4 Try.f116 [1,0,1,0,0] m (war kX kO))))
theorem w1r (N m kX kO) {r}(h:y5 N m (war kX kO)=r):wde N N (whc N m kX kO)=wdd N r (whd kX):=by
 rw[show wde N N (whc N m kX kO)=wde N N (wuq (wuv N m kX kO) fun j=>(whc N m kX kO) (.exit j)) from(by funext _ _ _ _ _ _ _ _ _ _;exact jky),wut,show wur (wuv N m kX kO)=was (y5 N m (war kX kO)) by kernel_rfl,h];rfl
theorem wus (N kX kO):∀n,y5 N n (war kX kO)=wmc N (whd kX) n :=
 itE rfl fun m=>(show _=wat (wde N N (whc N m kX kO)) (whd kX) by kernel_rfl).trans (by rw[w1r N m kX kO rfl]<;>rfl)
noncomputable def whb (N:Nat):=(blockK 0 (sqK A_V28 N 27 500013 Try.f116 [1,1] wkw))
noncomputable def wuu (N:Nat) (st':St):Z5:=rn A_V28 N Try.f116 [1,1] st' wkw
theorem w1q (N):y5 N N (whb N)=wmb N:=by
 rw[show y5 N N (whb N)=y5 N N (war (wuu N) fun j=>(whb N) (.exit j)) from(by funext _ _ _ _ _;exact jky),wus,show whd (wuu N)=xh by kernel_rfl];rfl
theorem run_V28 (N x):runF A_V28 N Try.f116 S_V28 x=V28 N x.1 x.2.1:=(show _=(wq0 (y5 N N (whb N)) x.1 x.2.1) by kernel_rfl).trans (by rw[w1q N];rfl)
theorem ok_V28:OK 116 S_V28:=gdR (A:=A_V28) tc Try.func116 (jeb trivial) (run_V28 big)
def wz3 (z_0:Int) (p_1:Y5) (p_2 p_3:Int):Option Z0 :=
  (atI p_1 z_0).bind fun xq1 =>
  (atI xq1 p_2).bind fun xq2 =>
  cond xq2
  ((atI p_1 z_0).bind fun xq3 =>
  (atI xq3 p_3).bind fun xq4 =>
  some (xq4,(())))
  (some (false,(())))
def V29 (z_0:Int) (p_1:Y5) (p_2 p_3:Int):Option Z0:=wz3 z_0 p_1 p_2 p_3
def S_V29:Sig:=⟨(.pair I Q10),[0,0,0,0],[],.unit,.bool,.i,fun x=>V29 x.1 x.2.1 x.2.2.1 x.2.2.2.1⟩
def A_V29:Cfg:=mkCfg tab [] []
theorem run_V29 (N x):runF A_V29 N Try.f117 S_V29 x=V29 x.1 x.2.1 x.2.2.1 x.2.2.2.1:=by kernel_rfl
theorem ok_V29:OK 117 S_V29:=gdR (A:=A_V29) tc Try.func117 (jeb trivial) (run_V29 big)
def wdh (rec:T13) (k:Y4→Z7) (a1:(Y5×Z1)) (a5:Y4) (a9 a10:Int):Z7 :=
  cond (decide (a10<a9))
  ((V29 a10 a1.1 a1.2.1 a1.2.2.1).bind fun rq1 =>
  cond rq1.1
  ((appI a5 [a10]).bind fun xq2 =>
  rec a1 xq2 a9 (IntKind.i64.wrap (a10+1)))
  (rec a1 a5 a9 (IntKind.i64.wrap (a10+1))))
  (k a5)
def wau (a5:Y4):Z7 :=
  some (a5,(()))
def wq1 (L3:T13) (o_0:Y5) (so_1:(Y5×Z1)):Z7 :=
  L3 so_1 [] (o_0.length:Int) 0
def wmf (N:Nat) (k:Y4→Z7):=itN (fun r=>wdh r k) fun _ _ _ _=>none
def wme (N:Nat):=wmf N (wau) N
def V30 (N:Nat) (o_0:Y5) (so_1:(Y5×Z1)):Z7:=wq1 (wme N) o_0 so_1
def S_V30:Sig:=⟨(.pair Q4 (.pair (.clo 117 0 Q10) .unit)),[0,0],[],.unit,Q8,O5,fun x=>V30 big x.1 x.2.1⟩
def A_V30:Cfg:=mkCfg tab [(117,S_V29)] [(6,([D0,.as (.clo 117 0 Q10) .i]++dr 3 ([B3]++dr 3 [B0,B0]))),(17,(dr 5 [B3]))]
noncomputable def wdg (N n:Nat) (K:T69) (a1:(Y5×Z1)) (a5:Y4) (a9 a10:Int):Z7:=itr A_V30 N 6 Try.f106 [1,1,0,1,0,0] n (([.u,.val (.clo 117 0 Q10) .i a1]++ud 3 ([W3 a5]++ud 3 [W0 a9,W0 a10]))++us 11) K
noncomputable def wq2:Ex→St→Z7:=finish A_V30 S_V30 Try.f106.results.toList
noncomputable def wux (kX:T65) (a5:Y4):Z7:=kX ((ud 5 [W3 a5])++us 16)
noncomputable def wuw (kX:T65) (kO:T68):=exK wq2 0 (A_V30.shape 17) kX kO
theorem wuy (N kX kO):∀n,wdg N n (wuw kX kO)=wmf N (wux kX) n :=
 itE rfl fun m=>by kernel_rfl
noncomputable def whe (N:Nat):=(blockK 0 (sqK A_V30 N 17 500008 Try.f106 [1,1,1] wq2))
noncomputable def wuz (N:Nat) (st':St):Z7:=rn A_V30 N Try.f106 [1,1,1] st' wq2
theorem w1s (N):wdg N N (whe N)=wme N:=by
 rw[show wdg N N (whe N)=wdg N N (wuw (wuz N) fun j=>(whe N) (.exit j)) from(by funext _ _ _ _;exact jky),wuy,show wux (wuz N)=wau by kernel_rfl];rfl
theorem run_V30 (N x):runF A_V30 N Try.f106 S_V30 x=V30 N x.1 x.2.1:=(show _=(wq1 (wdg N N (whe N)) x.1 x.2.1) by kernel_rfl).trans (by rw[w1s N];rfl)
theorem ok_V30:OK 106 S_V30:=gdR (A:=A_V30) tc Try.func106 (jeb ⟨ok_V29,trivial⟩) (run_V30 big)
def wdk (rec:T19) (k:Y5→Y3→Y4→Int→Int→Z8) (a1:Y5) (a4:Y3) (a5:Int) (a6:Y4) (a11 a12 a17 a18:Int):Z8 :=
  cond (decide (a18<a17))
  ((V30 big a1 (a1,a5,a18,())).bind fun rq1 =>
  (V28 big a1 rq1.1).bind fun rq2 =>
  cond (decide (rq2.1<0))
  (some (([],false,()),(())))
  ((appI a6 [rq2.1]).bind fun xq3 =>
  rec a1 a4 a5 xq3 a11 a12 a17 (IntKind.i64.wrap (a18+1))))
  (k a1 a4 a6 a11 a12)
def waw (rec:T33) (a1:Y5) (a4:Y3) (a6:Y4) (a11 a12:Int):Z8 :=
  (appI a4 [a6]).bind fun xq4 =>
  rec a1 xq4 a11 (IntKind.i64.wrap (a12+1))
def wax (L7:T19) (k:Y3→Z8) (a1:Y5) (a4:Y3) (a11 a12:Int):Z8 :=
  cond (decide (a12<a11))
  (L7 a1 a4 a12 [] a11 a12 (a1.length:Int) 0)
  (k a4)
def xi (a4:Y3):Z8 :=
  some ((a4,true,()),(()))
def wq3 (L3:T33) (o_0:Y5):Z8 :=
  L3 o_0 [] (o_0.length:Int) 0
def wmi (N:Nat) (k:Y5→Y3→Y4→Int→Int→Z8):=itN (fun r=>wdk r k) fun _ _ _ _ _ _ _ _=>none
def wdi (N:Nat) (rec:T33) (k:Y3→Z8):=wmi N (waw rec) N
def wmh (N:Nat) (k:Y3→Z8):=itN (fun r=>wax (wdi N r k) k) fun _ _ _ _=>none
def wmg (N:Nat):=wmh N (xi) N
def V31 (N:Nat) (o_0:Y5):Z8:=wq3 (wmg N) o_0
def S_V31:Sig:=⟨(.pair Q4 .unit),[0],[],.unit,(.tup (.pair Q13 Q15)),(.p O11 .i),fun x=>V31 big x.1⟩
def A_V31:Cfg:=mkCfg tab [(106,S_V30),(116,S_V28)] [(6,([D0,.as (.ptr Q4) .i,D0,D0,.as Q13 O11]++dr 6 [B0,B0])),(14,([D0,.as (.ptr Q4) .i,D0,D0,.as Q13 O11,.as (.ptr I) .i,B3]++dr 4 ([B0,B0]++dr 4 [B0,B0]))),(33,(dr 4 [.as Q13 O11])),(19,([D0,.as (.ptr Q4) .i,D0,D0,.as Q13 O11,.as (.ptr I) .i,B3,.as (.ptr I) .i]++dr 3 ([B0,B0]++dr 4 [B0,B0]))),(29,([D0,.as (.ptr Q4) .i,D0,D0,.as Q13 O11,D0,B3]++dr 4 [B0,B0]))]
noncomputable def y6 (N n:Nat) (K:Ex→St→Z8) (a1:Y5) (a4:Y3) (a11 a12:Int):Z8:=itr A_V31 N 6 Try.f88 [1,1,0,1,0,0] n (([.u,.val (.ptr Q4) .i a1,.u,.u,.val Q13 O11 a4]++ud 6 [W0 a11,W0 a12])++us 26) K
noncomputable def wdj (N n:Nat) (K:Ex→St→Z8) (a1:Y5) (a4:Y3) (a5:Int) (a6:Y4) (a11 a12 a17 a18:Int):Z8:=itr A_V31 N 14 Try.f88 [1,1,0,1,0,0,1,1,0,0,1,1,0,1,0,0] n (([.u,.val (.ptr Q4) .i a1,.u,.u,.val Q13 O11 a4,.val (.ptr I) .i a5,W3 a6]++ud 4 ([W0 a11,W0 a12]++ud 4 [W0 a17,W0 a18]))++us 20) K
noncomputable def wkx:Ex→St→Z8:=finish A_V31 S_V31 Try.f88.results.toList
noncomputable def whh (kX:St→Z8) (a4:Y3):Z8:=kX ((ud 4 [.val Q13 O11 a4])++us 34)
noncomputable def wav (kX:St→Z8) (kO:Nat→St→Z8):=exK wkx 0 (A_V31.shape 33) kX kO
noncomputable def wu1 (kX:St→Z8) (a1:Y5) (a4:Y3) (a6:Y4) (a11 a12:Int):Z8:=kX (([.u,.val (.ptr Q4) .i a1,.u,.u,.val Q13 O11 a4,.u,W3 a6]++ud 4 [W0 a11,W0 a12])++us 26)
noncomputable def wu0 (kX:St→Z8) (kO:Nat→St→Z8):=exK wkx 2 (A_V31.shape 29) kX kO
theorem wu3 (N kX kO):∀n,wdj N n (wu0 kX kO)=wmi N (wu1 kX) n :=
 itE rfl fun m=>by kernel_rfl
noncomputable def whg (N m:Nat) (kX:St→Z8) (kO:Nat→St→Z8):=(blockK 2 (sqK A_V31 N 29 500014 Try.f88 [1,1,0,1,0,0,1,1,0,0,1,1,1] (blockK 1 (sqK A_V31 N 31 500015 Try.f88 [1,1,0,1,0,0,1,1,1] (itK A_V31 N 6 Try.f88 [1,1,0,1,0,0] m (wav kX kO))))))
noncomputable def wu5 (N m:Nat) (kX:St→Z8) (kO:Nat→St→Z8) (st':St):Z8:=rn A_V31 N Try.f88 [1,1,0,1,0,0,1,1,0,0,1,1,1] st' (blockK 1 (sqK A_V31 N 31 500015 Try.f88 [1,1,0,1,0,0,1,1,1] (itK A_V31 N 6 Try.f88 [1,1,0,1,0,0] m (wav kX kO))))
theorem w1u (N m kX kO) {r}(h:y6 N m (wav kX kO)=r):wdj N N (whg N m kX kO)=wdi N r (whh kX):=by
 rw[show wdj N N (whg N m kX kO)=wdj N N (wu0 (wu5 N m kX kO) fun j=>(whg N m kX kO) (.exit j)) from(by funext _ _ _ _ _ _ _ _;exact jky),wu3,show wu1 (wu5 N m kX kO)=waw (y6 N m (wav kX kO)) by kernel_rfl,h];rfl
theorem wu2 (N kX kO):∀n,y6 N n (wav kX kO)=wmh N (whh kX) n :=
 itE rfl fun m=>(show _=wax (wdj N N (whg N m kX kO)) (whh kX) by kernel_rfl).trans (by rw[w1u N m kX kO rfl]<;>rfl)
noncomputable def whf (N:Nat):=(blockK 0 (sqK A_V31 N 33 500016 Try.f88 [1,1,1] wkx))
noncomputable def wu4 (N:Nat) (st':St):Z8:=rn A_V31 N Try.f88 [1,1,1] st' wkx
theorem w1t (N):y6 N N (whf N)=wmg N:=by
 rw[show y6 N N (whf N)=y6 N N (wav (wu4 N) fun j=>(whf N) (.exit j)) from(by funext _ _ _ _;exact jky),wu2,show whh (wu4 N)=xi by kernel_rfl];rfl
theorem run_V31 (N x):runF A_V31 N Try.f88 S_V31 x=V31 N x.1:=(show _=(wq3 (y6 N N (whf N)) x.1) by kernel_rfl).trans (by rw[w1t N];rfl)
theorem ok_V31:OK 88 S_V31:=gdR (A:=A_V31) tc Try.func88 (jeb ⟨ok_V30,ok_V28,trivial⟩) (run_V31 big)
def wdn (rec:T24) (k:T17) (a0 a3:Y5) (a4 a10 a11 a15 a16:Int):Z11 :=
  cond (decide (a16<a15))
  ((atI a3 a4).bind fun _ =>
  (a3[a4.toNat]?).bind fun xq2 =>
  (atI a0 a16).bind fun xq3 =>
  (atI xq3 a4).bind fun xq4 =>
  (a3[a4.toNat]?).bind fun xq5 =>
  (atI xq5 a16).bind fun _ =>
  (a3[a4.toNat]?).bind fun xq6 =>
  (xq6[a16.toNat]?).bind fun xq7 =>
  rec a0 (a3.set a4.toNat (xq6.set a16.toNat xq4)) a4 a10 a11 a15 (IntKind.i64.wrap (a16+1)))
  (k a0 a3 a10 a11)
def waz (rec:T17) (a0 a3:Y5) (a10 a11:Int):Z11 :=
  rec a0 a3 a10 (IntKind.i64.wrap (a11+1))
def wa0 (L6:T24) (k:Y5→Z11) (a0 a3:Y5) (a10 a11:Int):Z11 :=
  cond (decide (a11<a10))
  (L6 a0 a3 a11 a10 a11 (a0.length:Int) 0)
  (k a3)
def xk (a3:Y5):Z11 :=
  some (a3,(()))
def wq4 (L3:T17) (o_0:Y5):Z11 :=
  (V23 big (o_0.length:Int)).bind fun rq1 =>
  L3 o_0 rq1.1 (o_0.length:Int) 0
def wml (N:Nat) (k:T17):=itN (fun r=>wdn r k) fun _ _ _ _ _ _ _=>none
def wdl (N:Nat) (rec:T17) (k:Y5→Z11):=wml N (waz rec) N
def wmk (N:Nat) (k:Y5→Z11):=itN (fun r=>wa0 (wdl N r k) k) fun _ _ _ _=>none
def wmj (N:Nat):=wmk N (xk) N
def V32 (N:Nat) (o_0:Y5):Z11:=wq4 (wmj N) o_0
def S_V32:Sig:=⟨(.pair Q4 .unit),[0],[],.unit,Q4,O11,fun x=>V32 big x.1⟩
def A_V32:Cfg:=mkCfg tab [(56,S_V23)] [(6,([.as Q4 .i,D0,D0,B5]++dr 6 [B0,B0])),(12,([.as Q4 .i,D0,D0,B5,B0]++dr 5 ([B0,B0]++dr 3 [B0,B0]))),(23,(dr 3 [B5])),(21,([.as Q4 .i,D0,D0,B5]++dr 6 [B0,B0]))]
noncomputable def y7 (N n:Nat) (K:Ex→St→Z11) (a0 a3:Y5) (a10 a11:Int):Z11:=itr A_V32 N 6 Try.f89 [1,1,0,1,0,0] n (([.val Q4 .i a0,.u,.u,W5 a3]++ud 6 [W0 a10,W0 a11])++us 23) K
noncomputable def wdm (N n:Nat) (K:Ex→St→Z11) (a0 a3:Y5) (a4 a10 a11 a15 a16:Int):Z11:=itr A_V32 N 12 Try.f89 [1,1,0,1,0,0,1,1,0,0,1,1,0,0] n (([.val Q4 .i a0,.u,.u,W5 a3,W0 a4]++ud 5 ([W0 a10,W0 a11]++ud 3 [W0 a15,W0 a16]))++us 18) K
noncomputable def wky:Ex→St→Z11:=finish A_V32 S_V32 Try.f89.results.toList
noncomputable def whk (kX:T71) (a3:Y5):Z11:=kX ((ud 3 [W5 a3])++us 31)
noncomputable def way (kX:T71) (kO:T66):=exK wky 0 (A_V32.shape 23) kX kO
noncomputable def wu7 (kX:T71) (a0 a3:Y5) (a10 a11:Int):Z11:=kX (([.val Q4 .i a0,.u,.u,W5 a3]++ud 6 [W0 a10,W0 a11])++us 23)
noncomputable def wu6 (kX:T71) (kO:T66):=exK wky 2 (A_V32.shape 21) kX kO
theorem wu9 (N kX kO):∀n,wdm N n (wu6 kX kO)=wml N (wu7 kX) n :=
 itE rfl fun m=>by kernel_rfl
noncomputable def whj (N m:Nat) (kX:T71) (kO:T66):=(blockK 2 (blockK 1 (sqK A_V32 N 21 500010 Try.f89 [1,1,0,1,0,0,1,1,1] (itK A_V32 N 6 Try.f89 [1,1,0,1,0,0] m (way kX kO)))))
noncomputable def wvb (N m:Nat) (kX:T71) (kO:T66) (st':St):Z11:=rn A_V32 N Try.f89 [1,1,0,1,0,0,1,1,1] st' (itK A_V32 N 6 Try.f89 [1,1,0,1,0,0] m (way kX kO))
theorem w1w (N m kX kO) {r}(h:y7 N m (way kX kO)=r):wdm N N (whj N m kX kO)=wdl N r (whk kX):=by
 rw[show wdm N N (whj N m kX kO)=wdm N N (wu6 (wvb N m kX kO) fun j=>(whj N m kX kO) (.exit j)) from(by funext _ _ _ _ _ _ _;exact jky),wu9,show wu7 (wvb N m kX kO)=waz (y7 N m (way kX kO)) by kernel_rfl,h];rfl
theorem wu8 (N kX kO):∀n,y7 N n (way kX kO)=wmk N (whk kX) n :=
 itE rfl fun m=>(show _=wa0 (wdm N N (whj N m kX kO)) (whk kX) by kernel_rfl).trans (by rw[w1w N m kX kO rfl]<;>rfl)
noncomputable def whi (N:Nat):=(blockK 0 (sqK A_V32 N 23 500011 Try.f89 [1,1,1] wky))
noncomputable def wva (N:Nat) (st':St):Z11:=rn A_V32 N Try.f89 [1,1,1] st' wky
theorem w1v (N):y7 N N (whi N)=wmj N:=by
 rw[show y7 N N (whi N)=y7 N N (way (wva N) fun j=>(whi N) (.exit j)) from(by funext _ _ _ _;exact jky),wu8,show whk (wva N)=xk by kernel_rfl];rfl
theorem run_V32 (N x):runF A_V32 N Try.f89 S_V32 x=V32 N x.1:=(show _=(wq4 (y7 N N (whi N)) x.1) by kernel_rfl).trans (by rw[w1v N];rfl)
theorem ok_V32:OK 89 S_V32:=gdR (A:=A_V32) tc Try.func89 (jeb ⟨ok_V23,trivial⟩) (run_V32 big)
def wkz (p_0:Y2):Option ((Y1×Z0)×Unit) :=
  (V27 big p_0).bind fun rq1 =>
  cond (!((((),rq1.1.2).2).1))
  (some ((none,false,()),(())))
  (cond (decide ((rq1.1.1.length:Int)=0))
  (some ((none,false,()),(())))
  ((V31 big rq1.1.1).bind fun rq2 =>
  (V32 big rq1.1.1).bind fun rq3 =>
  (V31 big rq3.1).bind fun rq4 =>
  cond ((((),rq2.1.2).2).1)
  (some ((some (rq1.1.1,(rq2.1.1,(rq4.1.1,()))),(((),rq4.1.2).2).1,()),(())))
  (some ((some (rq1.1.1,(rq2.1.1,(rq4.1.1,()))),false,()),(())))))
def V33 (p_0:Y2):Option ((Y1×Z0)×Unit):=wkz p_0
def S_V33:Sig:=⟨Q12,[0],[],.unit,(.tup (.pair Q3 Q15)),.i,fun x=>V33 x.1⟩
def A_V33:Cfg:=mkCfg tab [(72,S_V27),(88,S_V31),(89,S_V32)] []
theorem run_V33 (N x):runF A_V33 N Try.f52 S_V33 x=V33 x.1:=by kernel_rfl
theorem ok_V33:OK 52 S_V33:=gdR (A:=A_V33) tc Try.func52 (jeb ⟨ok_V27,ok_V31,ok_V32,trivial⟩) (run_V33 big)
def wz4 (o_0:Y5) (list_1:Y4):Option Z0 :=
  (V25 big list_1 (o_0.length:Int)).bind fun rq1 =>
  some (rq1.1,(()))
def V34 (o_0:Y5) (list_1:Y4):Option Z0:=wz4 o_0 list_1
def S_V34:Sig:=⟨(.pair Q4 (.pair Q8 .unit)),[0,0],[],.unit,.bool,.i,fun x=>V34 x.1 x.2.1⟩
def A_V34:Cfg:=mkCfg tab [(90,S_V25)] []
theorem run_V34 (N x):runF A_V34 N Try.f57 S_V34 x=V34 x.1 x.2.1:=by kernel_rfl
theorem ok_V34:OK 57 S_V34:=gdR (A:=A_V34) tc Try.func57 (jeb ⟨ok_V25,trivial⟩) (run_V34 big)
def wz5 (z_0:Int) (p_1:Y5) (p_2 p_3:Int):Option Z0 :=
  (atI p_1 p_2).bind fun xq1 =>
  (atI xq1 z_0).bind fun xq2 =>
  cond xq2
  ((atI p_1 z_0).bind fun xq3 =>
  (atI xq3 p_3).bind fun xq4 =>
  some (xq4,(())))
  (some (false,(())))
def V35 (z_0:Int) (p_1:Y5) (p_2 p_3:Int):Option Z0:=wz5 z_0 p_1 p_2 p_3
def S_V35:Sig:=⟨(.pair I Q10),[0,0,0,0],[],.unit,.bool,.i,fun x=>V35 x.1 x.2.1 x.2.2.1 x.2.2.2.1⟩
def A_V35:Cfg:=mkCfg tab [] []
theorem run_V35 (N x):runF A_V35 N Try.f107 S_V35 x=V35 x.1 x.2.1 x.2.2.1 x.2.2.2.1:=by kernel_rfl
theorem ok_V35:OK 107 S_V35:=gdR (A:=A_V35) tc Try.func107 (jeb trivial) (run_V35 big)
def wdp (rec:T13) (k:Y4→Z7) (a1:(Y5×Z1)) (a5:Y4) (a9 a10:Int):Z7 :=
  cond (decide (a10<a9))
  ((V35 a10 a1.1 a1.2.1 a1.2.2.1).bind fun rq1 =>
  cond rq1.1
  ((appI a5 [a10]).bind fun xq2 =>
  rec a1 xq2 a9 (IntKind.i64.wrap (a10+1)))
  (rec a1 a5 a9 (IntKind.i64.wrap (a10+1))))
  (k a5)
def wa1 (a5:Y4):Z7 :=
  some (a5,(()))
def wq5 (L3:T13) (o_0:Y5) (so_1:(Y5×Z1)):Z7 :=
  L3 so_1 [] (o_0.length:Int) 0
def wmn (N:Nat) (k:Y4→Z7):=itN (fun r=>wdp r k) fun _ _ _ _=>none
def wmm (N:Nat):=wmn N (wa1) N
def V36 (N:Nat) (o_0:Y5) (so_1:(Y5×Z1)):Z7:=wq5 (wmm N) o_0 so_1
def S_V36:Sig:=⟨(.pair Q4 (.pair (.clo 107 0 Q10) .unit)),[0,0],[],.unit,Q8,O5,fun x=>V36 big x.1 x.2.1⟩
def A_V36:Cfg:=mkCfg tab [(107,S_V35)] [(6,([D0,.as (.clo 107 0 Q10) .i]++dr 3 ([B3]++dr 3 [B0,B0]))),(17,(dr 5 [B3]))]
noncomputable def wdo (N n:Nat) (K:T69) (a1:(Y5×Z1)) (a5:Y4) (a9 a10:Int):Z7:=itr A_V36 N 6 Try.f106 [1,1,0,1,0,0] n (([.u,.val (.clo 107 0 Q10) .i a1]++ud 3 ([W3 a5]++ud 3 [W0 a9,W0 a10]))++us 11) K
noncomputable def wq6:Ex→St→Z7:=finish A_V36 S_V36 Try.f106.results.toList
noncomputable def wvd (kX:T65) (a5:Y4):Z7:=kX ((ud 5 [W3 a5])++us 16)
noncomputable def wvc (kX:T65) (kO:T68):=exK wq6 0 (A_V36.shape 17) kX kO
theorem wve (N kX kO):∀n,wdo N n (wvc kX kO)=wmn N (wvd kX) n :=
 itE rfl fun m=>by kernel_rfl
noncomputable def whl (N:Nat):=(blockK 0 (sqK A_V36 N 17 500008 Try.f106 [1,1,1] wq6))
noncomputable def wvf (N:Nat) (st':St):Z7:=rn A_V36 N Try.f106 [1,1,1] st' wq6
theorem w1x (N):wdo N N (whl N)=wmm N:=by
 rw[show wdo N N (whl N)=wdo N N (wvc (wvf N) fun j=>(whl N) (.exit j)) from(by funext _ _ _ _;exact jky),wve,show wvd (wvf N)=wa1 by kernel_rfl];rfl
theorem run_V36 (N x):runF A_V36 N Try.f106 S_V36 x=V36 N x.1 x.2.1:=(show _=(wq5 (wdo N N (whl N)) x.1 x.2.1) by kernel_rfl).trans (by rw[w1x N];rfl)
theorem ok_V36:OK 106 S_V36:=gdR (A:=A_V36) tc Try.func106 (jeb ⟨ok_V35,trivial⟩) (run_V36 big)
def wz6 (o_0:Y5) (x_1 y_2:Int):Z7 :=
  (V36 big o_0 (o_0,x_1,y_2,())).bind fun rq1 =>
  some (rq1.1,(()))
def V37 (o_0:Y5) (x_1 y_2:Int):Z7:=wz6 o_0 x_1 y_2
def S_V37:Sig:=⟨(.pair Q4 Q6),[0,0,0],[],.unit,Q8,O5,fun x=>V37 x.1 x.2.1 x.2.2.1⟩
def A_V37:Cfg:=mkCfg tab [(106,S_V36)] [(3,(dr 3 [.as (.ptr Q4) .i,.as (.ptr I) .i,.as (.ptr I) .i]))]
theorem run_V37 (N x):runF A_V37 N Try.f70 S_V37 x=V37 x.1 x.2.1 x.2.2.1:=by kernel_rfl
theorem ok_V37:OK 70 S_V37:=gdR (A:=A_V37) tc Try.func70 (jeb ⟨ok_V36,trivial⟩) (run_V37 big)
def wdr (rec:T47) (k:Y4→Z7) (a1 a5 a11:Y4) (a12 a13:Int):Z7 :=
  cond (decide (a13<a12))
  ((atI a11 a13).bind fun xq3 =>
  (atI a1 xq3).bind fun xq4 =>
  (atI a5 a13).bind fun _ =>
  (a5[a13.toNat]?).bind fun xq5 =>
  rec a1 (a5.set a13.toNat xq4) a11 a12 (IntKind.i64.wrap (a13+1)))
  (k a5)
def wa2 (a5:Y4):Z7 :=
  some (a5,(()))
def wq7 (L3:T47) (f_0 g_1:Y4):Z7 :=
  (mkI (0:Int) (f_0.length:Int)).bind fun xq1=>(mkI (0:Int) (f_0.length:Int)).bind fun xq2=>cond (decide ((f_0.length:Int)≤(f_0.length:Int)))
  (L3 g_1 xq2 f_0 (f_0.length:Int) 0)
  none
def wmp (N:Nat) (k:Y4→Z7):=itN (fun r=>wdr r k) fun _ _ _ _ _=>none
def wmo (N:Nat):=wmp N (wa2) N
def V38 (N:Nat) (f_0 g_1:Y4):Z7:=wq7 (wmo N) f_0 g_1
def S_V38:Sig:=⟨(.pair Q8 (.pair Q8 .unit)),[0,0],[],.unit,Q8,O5,fun x=>V38 big x.1 x.2.1⟩
def A_V38:Cfg:=mkCfg tab [] [(6,([D0,B4]++dr 3 ([B3]++dr 5 [B4,B0,B0]))),(15,(dr 5 [B3]))]
noncomputable def wdq (N n:Nat) (K:T69) (a1 a5 a11:Y4) (a12 a13:Int):Z7:=itr A_V38 N 6 Try.f69 [1,1,0,1,0,0] n (([.u,W4 a1]++ud 3 ([W3 a5]++ud 5 [W4 a11,W0 a12,W0 a13]))++us 13) K
noncomputable def wq8:Ex→St→Z7:=finish A_V38 S_V38 Try.f69.results.toList
noncomputable def wvh (kX:T65) (a5:Y4):Z7:=kX ((ud 5 [W3 a5])++us 21)
noncomputable def wvg (kX:T65) (kO:T68):=exK wq8 0 (A_V38.shape 15) kX kO
theorem wvi (N kX kO):∀n,wdq N n (wvg kX kO)=wmp N (wvh kX) n :=
 itE rfl fun m=>by kernel_rfl
noncomputable def whm (N:Nat):=(blockK 0 (sqK A_V38 N 15 500007 Try.f69 [1,1,1] wq8))
noncomputable def wvj (N:Nat) (st':St):Z7:=rn A_V38 N Try.f69 [1,1,1] st' wq8
theorem w1y (N):wdq N N (whm N)=wmo N:=by
 rw[show wdq N N (whm N)=wdq N N (wvg (wvj N) fun j=>(whm N) (.exit j)) from(by funext _ _ _ _ _;exact jky),wvi,show wvh (wvj N)=wa2 by kernel_rfl];rfl
theorem run_V38 (N x):runF A_V38 N Try.f69 S_V38 x=V38 N x.1 x.2.1:=(show _=(wq7 (wdq N N (whm N)) x.1 x.2.1) by kernel_rfl).trans (by rw[w1y N];rfl)
theorem ok_V38:OK 69 S_V38:=gdR (A:=A_V38) tc Try.func69 (jeb trivial) (run_V38 big)
def wk0 (p_0:Y2) (x_1 y_2:Int):Z10 :=
  (V33 p_0).bind fun rq1 =>
  cond (!rq1.1.2.1)
  (some (([],false,()),(())))
  ((rq1.1.1).bind fun xq2 =>
  (V34 xq2.1 [x_1,y_2]).bind fun rq3 =>
  cond (!rq3.1)
  (some (([],false,()),(())))
  ((rq1.1.1).bind fun xq4 =>
  (rq1.1.1).bind fun xq5 =>
  (atI xq5.2.1 x_1).bind fun xq6 =>
  (atI xq6 y_2).bind fun xq7 =>
  (V37 xq4.1 xq7 x_1).bind fun rq8 =>
  (rq1.1.1).bind fun xq9 =>
  (atI xq9.2.2.1 y_2).bind fun xq10 =>
  (V38 big rq8.1 xq10).bind fun rq11 =>
  some ((rq11.1,true,()),(()))))
def V39 (p_0:Y2) (x_1 y_2:Int):Z10:=wk0 p_0 x_1 y_2
def S_V39:Sig:=⟨Q16,[0,0,0],[],.unit,(.tup (.pair Q8 Q15)),(.p O5 .i),fun x=>V39 x.1 x.2.1 x.2.2.1⟩
def A_V39:Cfg:=mkCfg tab [(52,S_V33),(57,S_V34),(70,S_V37),(69,S_V38)] []
theorem run_V39 (N x):runF A_V39 N Try.f22 S_V39 x=V39 x.1 x.2.1 x.2.2.1:=by kernel_rfl
theorem ok_V39:OK 22 S_V39:=gdR (A:=A_V39) tc Try.func22 (jeb ⟨ok_V33,ok_V34,ok_V37,ok_V38,trivial⟩) (run_V39 big)
def wms (rec:Y4→Int→Int→Int→Option Z0) (k:Option Z0) (a0:Y4) (a1 a2 a7:Int):Option Z0 :=
  cond (decide (a7<(a0.length:Int)))
  ((atI a0 a7).bind fun xq1 =>
  (V6 xq1 a1 a2).bind fun rq2 =>
  cond (!rq2.1)
  (some (false,(())))
  (cond (decide (0<a7))
  ((atI a0 (IntKind.i64.wrap (a7-1))).bind fun xq3 =>
  (atI a0 a7).bind fun xq4 =>
  cond (decide (xq4≤xq3))
  (some (false,(())))
  (rec a0 a1 a2 (IntKind.i64.wrap (a7+1))))
  (rec a0 a1 a2 (IntKind.i64.wrap (a7+1)))))
  (k)
def wds:Option Z0 :=
  some (true,(()))
def wq9 (L2:Y4→Int→Int→Int→Option Z0) (l_0:Y4) (lo_1 hi_2:Int):Option Z0 :=
  L2 l_0 lo_1 hi_2 0
def wa3 (N:Nat) (k:Option Z0):Nat→Y4→Int→Int→Int→Option Z0
  | 0,_,_,_,_=>none
  | m+1,a0,a1,a2,a7=>wms (wa3 N k m) k a0 a1 a2 a7
def wmq (N:Nat):=wa3 N (wds) N
def V40 (N:Nat) (l_0:Y4) (lo_1 hi_2:Int):Option Z0:=wq9 (wmq N) l_0 lo_1 hi_2
def S_V40:Sig:=⟨(.pair Q8 Q6),[0,0,0],[],.unit,.bool,.i,fun x=>V40 big x.1 x.2.1 x.2.2.1⟩
def A_V40:Cfg:=mkCfg tab [(121,S_V6)] [(4,([B4,B0,B0]++dr 4 [B0])),(13,[])]
noncomputable def y8 (N n:Nat) (K:Ex→St→Option Z0) (a0:Y4) (a1 a2 a7:Int):Option Z0:=itr A_V40 N 4 Try.f114 [1,0,1,0,0] n (([W4 a0,W0 a1,W0 a2]++ud 4 [W0 a7])++us 30) K
noncomputable def wra:Ex→St→Option Z0:=finish A_V40 S_V40 Try.f114.results.toList
noncomputable def wmr (kX:St→Option Z0):Option Z0:=kX ([]++us 38)
noncomputable def whn (kX:St→Option Z0) (kO:Nat→St→Option Z0):Ex→St→Option Z0:=exK wra 0 (A_V40.shape 13) kX kO
theorem wkd (N kX kO):∀n,y8 N n (whn kX kO)=wa3 N (wmr kX) n
 | 0=>rfl
 | m+1=>(show y8 N (m+1) (whn kX kO)=wms (y8 N m (whn kX kO)) (wmr kX) by kernel_rfl).trans (by rw[wkd N kX kO m];funext _ _ _ _;rfl)
noncomputable def who (N:Nat):Ex→St→Option Z0:=(blockK 0 (sqK A_V40 N 13 500006 Try.f114 [1,1] wra))
noncomputable def wvk (N:Nat) (st':St):Option Z0:=rn A_V40 N Try.f114 [1,1] st' wra
theorem w1z (N):y8 N N (who N)=wmq N:=by
 rw[show y8 N N (who N)=y8 N N (whn (wvk N) fun j=>(who N) (.exit j)) from(by funext _ _ _ _;exact jky),wkd,show wmr (wvk N)=wds by kernel_rfl];rfl
theorem run_V40 (N x):runF A_V40 N Try.f114 S_V40 x=V40 N x.1 x.2.1 x.2.2.1:=(show _=(wq9 (y8 N N (who N)) x.1 x.2.1 x.2.2.1) by kernel_rfl).trans (by rw[w1z N];rfl)
theorem ok_V40:OK 114 S_V40:=gdR (A:=A_V40) tc Try.func114 (jeb ⟨ok_V6,trivial⟩) (run_V40 big)
def wdu (rec:Y4→Y4→Int→Option Z0) (k:Option Z0) (a0 a1:Y4) (a5:Int):Option Z0 :=
  cond (decide (a5<(a0.length:Int)))
  ((atI a0 a5).bind fun xq1 =>
  (V14 big a1 xq1).bind fun rq2 =>
  cond (!rq2.1)
  (some (false,(())))
  (rec a0 a1 (IntKind.i64.wrap (a5+1))))
  (k)
def wa4:Option Z0 :=
  some (true,(()))
def wrb (L2:Y4→Y4→Int→Option Z0) (x_0 y_1:Y4):Option Z0 :=
  L2 x_0 y_1 0
def wmu (N:Nat) (k:Option Z0):=itN (fun r=>wdu r k) fun _ _ _=>none
def wmt (N:Nat):=wmu N (wa4) N
def V41 (N:Nat) (x_0 y_1:Y4):Option Z0:=wrb (wmt N) x_0 y_1
def S_V41:Sig:=⟨(.pair Q8 (.pair Q8 .unit)),[0,0],[],.unit,.bool,.i,fun x=>V41 big x.1 x.2.1⟩
def A_V41:Cfg:=mkCfg tab [(87,S_V14)] [(4,([B4,B4]++dr 3 [B0])),(13,[])]
noncomputable def wdt (N n:Nat) (K:Ex→St→Option Z0) (a0 a1:Y4) (a5:Int):Option Z0:=itr A_V41 N 4 Try.f115 [1,0,1,0,0] n (([W4 a0,W4 a1]++ud 3 [W0 a5])++us 13) K
noncomputable def wrc:Ex→St→Option Z0:=finish A_V41 S_V41 Try.f115.results.toList
noncomputable def wvm (kX:St→Option Z0):Option Z0:=kX ([]++us 19)
noncomputable def wvl (kX:St→Option Z0) (kO:Nat→St→Option Z0):Ex→St→Option Z0:=exK wrc 0 (A_V41.shape 13) kX kO
theorem wvn (N kX kO):∀n,wdt N n (wvl kX kO)=wmu N (wvm kX) n :=
 itE rfl fun m=>by kernel_rfl
noncomputable def whp (N:Nat):Ex→St→Option Z0:=(blockK 0 (sqK A_V41 N 13 500006 Try.f115 [1,1] wrc))
noncomputable def wvo (N:Nat) (st':St):Option Z0:=rn A_V41 N Try.f115 [1,1] st' wrc
theorem w10 (N):wdt N N (whp N)=wmt N:=by
 rw[show wdt N N (whp N)=wdt N N (wvl (wvo N) fun j=>(whp N) (.exit j)) from(by funext _ _ _;exact jky),wvn,show wvm (wvo N)=wa4 by kernel_rfl];rfl
theorem run_V41 (N x):runF A_V41 N Try.f115 S_V41 x=V41 N x.1 x.2.1:=(show _=(wrb (wdt N N (whp N)) x.1 x.2.1) by kernel_rfl).trans (by rw[w10 N];rfl)
theorem ok_V41:OK 115 S_V41:=gdR (A:=A_V41) tc Try.func115 (jeb ⟨ok_V14,trivial⟩) (run_V41 big)
def wa8 (rec:Y2→Int→Int→Int→Option Z0) (k:Y2→Int→Int→Option Z0) (a1:Y2) (a3 a5 a6:Int):Option Z0 :=
  (atI a1.1 a5).bind fun xq5 =>
  cond (decide (a6<(xq5.length:Int)))
  ((atI a1.1 a5).bind fun xq6 =>
  (atI xq6 a6).bind fun xq7 =>
  cond (decide (xq7≠a5))
  ((atI a1.1 xq7).bind fun xq8 =>
  (V14 big xq8 a5).bind fun rq9 =>
  cond rq9.1
  (some (false,(())))
  ((atI a1.1 xq7).bind fun xq10 =>
  (atI a1.1 a5).bind fun xq11 =>
  (V41 big xq10 xq11).bind fun rq12 =>
  cond (!rq12.1)
  (some (false,(())))
  (rec a1 a3 a5 (IntKind.i64.wrap (a6+1)))))
  ((atI a1.1 xq7).bind fun xq13 =>
  (atI a1.1 a5).bind fun xq14 =>
  (V41 big xq13 xq14).bind fun rq15 =>
  cond (!rq15.1)
  (some (false,(())))
  (rec a1 a3 a5 (IntKind.i64.wrap (a6+1)))))
  (k a1 a3 a5)
def yk (rec:Y2→Int→Int→Option Z0) (a1:Y2) (a3 a5:Int):Option Z0 :=
  rec a1 a3 (IntKind.i64.wrap (a5+1))
def yl (L13:Y2→Int→Int→Int→Option Z0) (k:Option Z0) (a1:Y2) (a3 a5:Int):Option Z0 :=
  cond (decide (a5<a3))
  (L13 a1 a3 a5 0)
  (k)
def wq:Option Z0 :=
  some (true,(()))
def wdw (rec:Y2→Int→Int→Option Z0) (k:Y2→Int→Option Z0) (a1:Y2) (a3 a4:Int):Option Z0 :=
  cond (decide (a4<a3))
  ((atI a1.1 a4).bind fun xq1 =>
  (V40 big xq1 0 (IntKind.i64.wrap (a3-1))).bind fun rq2 =>
  cond (!rq2.1)
  (some (false,(())))
  ((atI a1.1 a4).bind fun xq3 =>
  (V14 big xq3 a4).bind fun rq4 =>
  cond (!rq4.1)
  (some (false,(())))
  (rec a1 a3 (IntKind.i64.wrap (a4+1)))))
  (k a1 a3)
def wa7 (L10:Y2→Int→Int→Option Z0) (a1:Y2) (a3:Int):Option Z0 :=
  L10 a1 a3 0
def wrf (L5:Y2→Int→Int→Option Z0) (p_0:Y2):Option Z0 :=
  cond (decide (10<(p_0.1.length:Int)))
  (some (false,(())))
  (L5 p_0 (p_0.1.length:Int) 0)
def wj4 (N:Nat) (k:Y2→Int→Int→Option Z0):=itN (fun r=>wa8 r k) fun _ _ _ _=>none
def wa5 (N:Nat) (rec:Y2→Int→Int→Option Z0) (k:Option Z0):=wj4 N (yk rec) N
def wmw (N:Nat) (k:Y2→Int→Option Z0):=itN (fun r=>wdw r k) fun _ _ _=>none
def wj3 (N:Nat) (k:Option Z0):=itN (fun r=>yl (wa5 N r k) k) fun _ _ _=>none
def yi (N:Nat):=wj3 N (wq) N
def wmv (N:Nat):=wmw N (wa7 (yi N)) N
def V42 (N:Nat) (p_0:Y2):Option Z0:=wrf (wmv N) p_0
def S_V42:Sig:=⟨Q12,[0],[],.unit,.bool,.i,fun x=>V42 big x.1⟩
def A_V42:Cfg:=mkCfg tab [(114,S_V40),(87,S_V14),(115,S_V41)] [(10,[D0,B2,D0,B0,B0]),(19,[D0,B2,D0,B0]),(20,[D0,B2,D0,B0,D0,B0]),(26,[D0,B2,D0,B0,D0,B0,B0]),(37,[]),(23,[D0,B2,D0,B0,D0,B0])]
noncomputable def wdv (N n:Nat) (K:Ex→St→Option Z0) (a1:Y2) (a3 a4:Int):Option Z0:=itr A_V42 N 10 Try.f85 [1,1,1,0,1,0,0] n ([.u,W2 a1,.u,W0 a3,W0 a4]++us 81) K
noncomputable def xb (N n:Nat) (K:Ex→St→Option Z0) (a1:Y2) (a3 a5:Int):Option Z0:=itr A_V42 N 20 Try.f85 [1,1,1,1,0,1,0,0] n ([.u,W2 a1,.u,W0 a3,.u,W0 a5]++us 80) K
noncomputable def wa6 (N n:Nat) (K:Ex→St→Option Z0) (a1:Y2) (a3 a5 a6:Int):Option Z0:=itr A_V42 N 26 Try.f85 [1,1,1,1,0,1,0,0,1,0,0,1,0,0] n ([.u,W2 a1,.u,W0 a3,.u,W0 a5,W0 a6]++us 79) K
noncomputable def wcp:Ex→St→Option Z0:=finish A_V42 S_V42 Try.f85.results.toList
noncomputable def wvq (kX:St→Option Z0) (a1:Y2) (a3:Int):Option Z0:=kX ([.u,W2 a1,.u,W0 a3]++us 82)
noncomputable def wvp (kX:St→Option Z0) (kO:Nat→St→Option Z0):Ex→St→Option Z0:=exK wcp 0 (A_V42.shape 19) kX kO
noncomputable def wfw (kX:St→Option Z0):Option Z0:=kX ([]++us 86)
noncomputable def yh (kX:St→Option Z0) (kO:Nat→St→Option Z0):Ex→St→Option Z0:=exK wcp 2 (A_V42.shape 37) kX kO
noncomputable def wpv (kX:St→Option Z0) (a1:Y2) (a3 a5:Int):Option Z0:=kX ([.u,W2 a1,.u,W0 a3,.u,W0 a5]++us 80)
noncomputable def wpu (kX:St→Option Z0) (kO:Nat→St→Option Z0):Ex→St→Option Z0:=exK wcp 4 (A_V42.shape 23) kX kO
theorem wvr (N kX kO):∀n,wdv N n (wvp kX kO)=wmw N (wvq kX) n :=
 itE rfl fun m=>by kernel_rfl
noncomputable def whq (N:Nat):Ex→St→Option Z0:=(blockK 0 (sqK A_V42 N 19 500009 Try.f85 [1,1,1,1] wcp))
theorem wre (N kX kO):∀n,wa6 N n (wpu kX kO)=wj4 N (wpv kX) n :=
 itE rfl fun m=>by kernel_rfl
noncomputable def wfv (N m:Nat) (kX:St→Option Z0) (kO:Nat→St→Option Z0):Ex→St→Option Z0:=(blockK 4 (blockK 3 (sqK A_V42 N 23 500011 Try.f85 [1,1,1,1,0,1,0,0,1,1] (itK A_V42 N 20 Try.f85 [1,1,1,1,0,1,0,0] m (yh kX kO)))))
noncomputable def wpx (N m:Nat) (kX:St→Option Z0) (kO:Nat→St→Option Z0) (st':St):Option Z0:=rn A_V42 N Try.f85 [1,1,1,1,0,1,0,0,1,1] st' (itK A_V42 N 20 Try.f85 [1,1,1,1,0,1,0,0] m (yh kX kO))
theorem wzf (N m kX kO) {r}(h:xb N m (yh kX kO)=r):wa6 N N (wfv N m kX kO)=wa5 N r (wfw kX):=by
 rw[show wa6 N N (wfv N m kX kO)=wa6 N N (wpu (wpx N m kX kO) fun j=>(wfv N m kX kO) (.exit j)) from(by funext _ _ _ _;exact jky),wre,show wpv (wpx N m kX kO)=yk (xb N m (yh kX kO)) by kernel_rfl,h];rfl
theorem wrd (N kX kO):∀n,xb N n (yh kX kO)=wj3 N (wfw kX) n :=
 itE rfl fun m=>(show _=yl (wa6 N N (wfv N m kX kO)) (wfw kX) by kernel_rfl).trans (by rw[wzf N m kX kO rfl]<;>rfl)
noncomputable def wfu (N:Nat):Ex→St→Option Z0:=(blockK 2 (sqK A_V42 N 37 500018 Try.f85 [1,1,1,1,1] wcp))
noncomputable def wpw (N:Nat) (st':St):Option Z0:=rn A_V42 N Try.f85 [1,1,1,1,1] st' wcp
theorem wze (N):xb N N (wfu N)=yi N:=by
 rw[show xb N N (wfu N)=xb N N (yh (wpw N) fun j=>(wfu N) (.exit j)) from(by funext _ _ _;exact jky),wrd,show wfw (wpw N)=wq by kernel_rfl];rfl
noncomputable def wvs (N:Nat) (st':St):Option Z0:=rn A_V42 N Try.f85 [1,1,1,1] st' wcp
theorem w13 (N):wdv N N (whq N)=wmv N:=by
 rw[show wdv N N (whq N)=wdv N N (wvp (wvs N) fun j=>(whq N) (.exit j)) from(by funext _ _ _;exact jky),wvr,show wvq (wvs N)=wa7 (xb N N (wfu N)) by kernel_rfl,wze N];rfl
theorem run_V42 (N x):runF A_V42 N Try.f85 S_V42 x=V42 N x.1:=(show _=(wrf (wdv N N (whq N)) x.1) by kernel_rfl).trans (by rw[w13 N];rfl)
theorem ok_V42:OK 85 S_V42:=gdR (A:=A_V42) tc Try.func85 (jeb ⟨ok_V40,ok_V14,ok_V41,trivial⟩) (run_V42 big)
def wdz (rec:T40) (k:Y2→Y2→Y2→Int→Y4→Z3) (a1 a2 a3:Y2) (a4:Int) (a5:Y4) (a6:Int):Z3 :=
  cond (decide (a6<(a1.1.length:Int)))
  ((V15 a1 a4 a6).bind fun rq1 =>
  cond rq1.1
  ((appI a5 [a6]).bind fun xq2 =>
  rec a1 a2 a3 a4 xq2 (IntKind.i64.wrap (a6+1)))
  (rec a1 a2 a3 a4 a5 (IntKind.i64.wrap (a6+1))))
  (k a1 a2 a3 a4 a5)
def wba (rec:T38) (a1 a2 a3:Y2) (a4:Int) (a5:Y4):Z3 :=
  (appI a3.1 [a5]).bind fun xq3 =>
  rec a1 a2 (xq3,((),a3.2).2) (IntKind.i64.wrap (a4+1))
def wbb (L7:T40) (k:T43) (a1 a2 a3:Y2) (a4:Int):Z3 :=
  cond (decide (a4<(a1.1.length:Int)))
  (L7 a1 a2 a3 a4 [] 0)
  (k a2 a3)
def xl (a2 a3:Y2):Z3 :=
  some (a3,(()))
def wrg (L3:T38) (p_0:Y2):Z3 :=
  L3 p_0 (([]:Y3),()) ([],()) 0
def wmz (N:Nat) (k:Y2→Y2→Y2→Int→Y4→Z3):=itN (fun r=>wdz r k) fun _ _ _ _ _ _=>none
def wdx (N:Nat) (rec:T38) (k:T43):=wmz N (wba rec) N
def wmy (N:Nat) (k:T43):=itN (fun r=>wbb (wdx N r k) k) fun _ _ _ _=>none
def wmx (N:Nat):=wmy N (xl) N
def V43 (N:Nat) (p_0:Y2):Z3:=wrg (wmx N) p_0
def S_V43:Sig:=⟨Q12,[0],[],.unit,Q0,(.p O11 .i),fun x=>V43 big x.1⟩
def A_V43:Cfg:=mkCfg tab [(66,S_V15)] [(6,[D0,B2,B1,B1,B0]),(14,[D0,B2,B1,B1,B0,B3,B0]),(25,[D0,D0,B1,B1]),(23,[D0,B2,B1,B1,B0,B3])]
noncomputable def y9 (N n:Nat) (K:T27) (a1 a2 a3:Y2) (a4:Int):Z3:=itr A_V43 N 6 Try.f78 [1,1,0,1,0,0] n ([.u,W2 a1,W1 a2,W1 a3,W0 a4]++us 34) K
noncomputable def wdy (N n:Nat) (K:T27) (a1 a2 a3:Y2) (a4:Int) (a5:Y4) (a6:Int):Z3:=itr A_V43 N 14 Try.f78 [1,1,0,1,0,0,1,0,0,1,0,1,0,0] n ([.u,W2 a1,W1 a2,W1 a3,W0 a4,W3 a5,W0 a6]++us 32) K
noncomputable def wk1:Ex→St→Z3:=finish A_V43 S_V43 Try.f78.results.toList
noncomputable def wht (kX:T6) (a2 a3:Y2):Z3:=kX ([.u,.u,W1 a2,W1 a3]++us 35)
noncomputable def wa9 (kX:T6) (kO:T2):=exK wk1 0 (A_V43.shape 25) kX kO
noncomputable def wvu (kX:T6) (a1 a2 a3:Y2) (a4:Int) (a5:Y4):Z3:=kX ([.u,W2 a1,W1 a2,W1 a3,W0 a4,W3 a5]++us 33)
noncomputable def wvt (kX:T6) (kO:T2):=exK wk1 2 (A_V43.shape 23) kX kO
theorem wvw (N kX kO):∀n,wdy N n (wvt kX kO)=wmz N (wvu kX) n :=
 itE rfl fun m=>by kernel_rfl
noncomputable def whs (N m:Nat) (kX:T6) (kO:T2):=(blockK 2 (sqK A_V43 N 23 500011 Try.f78 [1,1,0,1,0,0,1,0,0,1,1] (blockK 1 (sqK A_V43 N 9 500004 Try.f78 [1,1,0,1,0,0,1,1] (itK A_V43 N 6 Try.f78 [1,1,0,1,0,0] m (wa9 kX kO))))))
noncomputable def wvy (N m:Nat) (kX:T6) (kO:T2) (st':St):Z3:=rn A_V43 N Try.f78 [1,1,0,1,0,0,1,0,0,1,1] st' (blockK 1 (sqK A_V43 N 9 500004 Try.f78 [1,1,0,1,0,0,1,1] (itK A_V43 N 6 Try.f78 [1,1,0,1,0,0] m (wa9 kX kO))))
theorem w15 (N m kX kO) {r}(h:y9 N m (wa9 kX kO)=r):wdy N N (whs N m kX kO)=wdx N r (wht kX):=by
 rw[show wdy N N (whs N m kX kO)=wdy N N (wvt (wvy N m kX kO) fun j=>(whs N m kX kO) (.exit j)) from(by funext _ _ _ _ _ _;exact jky),wvw,show wvu (wvy N m kX kO)=wba (y9 N m (wa9 kX kO)) by kernel_rfl,h];rfl
theorem wvv (N kX kO):∀n,y9 N n (wa9 kX kO)=wmy N (wht kX) n :=
 itE rfl fun m=>(show _=wbb (wdy N N (whs N m kX kO)) (wht kX) by kernel_rfl).trans (by rw[w15 N m kX kO rfl]<;>rfl)
noncomputable def whr (N:Nat):=(blockK 0 (sqK A_V43 N 25 500012 Try.f78 [1,1,1] wk1))
noncomputable def wvx (N:Nat) (st':St):Z3:=rn A_V43 N Try.f78 [1,1,1] st' wk1
theorem w14 (N):y9 N N (whr N)=wmx N:=by
 rw[show y9 N N (whr N)=y9 N N (wa9 (wvx N) fun j=>(whr N) (.exit j)) from(by funext _ _ _ _;exact jky),wvv,show wht (wvx N)=xl by kernel_rfl];rfl
theorem run_V43 (N x):runF A_V43 N Try.f78 S_V43 x=V43 N x.1:=(show _=(wrg (y9 N N (whr N)) x.1) by kernel_rfl).trans (by rw[w14 N];rfl)
theorem ok_V43:OK 78 S_V43:=gdR (A:=A_V43) tc Try.func78 (jeb ⟨ok_V15,trivial⟩) (run_V43 big)
def wbf (rec:T64) (k:Z5) (a2:Y2) (a5:Y4) (a9:Int):Z5 :=
  cond (decide (a9<(a5.length:Int)))
  ((atI a5 a9).bind fun _ =>
  (a5[a9.toNat]?).bind fun xq4 =>
  (atI a2.1 xq4).bind fun xq5 =>
  (V41 big a5 xq5).bind fun rq6 =>
  cond rq6.1
  ((atI a5 a9).bind fun _ =>
  (a5[a9.toNat]?).bind fun xq7 =>
  some (xq7,(())))
  (rec a2 a5 (IntKind.i64.wrap (a9+1))))
  (k)
def ym:Z5 :=
  some ((-1:Int),(()))
def wd2 (rec:T34) (k:Y4→Y2→Y4→Int→Bool→Z5) (a1:Y4) (a2:Y2) (a5:Y4) (a6:Int) (a7:Bool) (a8:Int):Z5 :=
  cond (decide (a8<(a1.length:Int)))
  (cond a7
  ((atI a1 a8).bind fun xq1 =>
  (V15 a2 a6 xq1).bind fun rq2 =>
  rec a1 a2 a5 a6 rq2.1 (IntKind.i64.wrap (a8+1)))
  (rec a1 a2 a5 a6 false (IntKind.i64.wrap (a8+1))))
  (k a1 a2 a5 a6 a7)
def wbe (rec:T39) (a1:Y4) (a2:Y2) (a5:Y4) (a6:Int) (a7:Bool):Z5 :=
  cond a7
  ((appI a5 [a6]).bind fun xq3 =>
  rec a1 a2 xq3 (IntKind.i64.wrap (a6+1)))
  (rec a1 a2 a5 (IntKind.i64.wrap (a6+1)))
def wbg (L7:T34) (k:Y2→Y4→Z5) (a1:Y4) (a2:Y2) (a5:Y4) (a6:Int):Z5 :=
  cond (decide (a6<(a2.1.length:Int)))
  (L7 a1 a2 a5 a6 true 0)
  (k a2 a5)
def xm (L13:T64) (a2:Y2) (a5:Y4):Z5 :=
  L13 a2 a5 0
def wri (L3:T39) (p_0:Y2) (some_1:Y4):Z5 :=
  L3 some_1 p_0 [] 0
def wm2 (N:Nat) (k:Y4→Y2→Y4→Int→Bool→Z5):=itN (fun r=>wd2 r k) fun _ _ _ _ _ _=>none
def wd0 (N:Nat) (rec:T39) (k:Y2→Y4→Z5):=wm2 N (wbe rec) N
def wm1 (N:Nat) (k:Y2→Y4→Z5):=itN (fun r=>wbg (wd0 N r k) k) fun _ _ _ _=>none
def wj5 (N:Nat) (k:Z5):=itN (fun r=>wbf r k) fun _ _ _=>none
def wt (N:Nat):=wj5 N (ym) N
def wm0 (N:Nat):=wm1 N (xm (wt N)) N
def V44 (N:Nat) (p_0:Y2) (some_1:Y4):Z5:=wri (wm0 N) p_0 some_1
def S_V44:Sig:=⟨(.pair Q0 (.pair Q8 .unit)),[0,0],[],.unit,I,.i,fun x=>V44 big x.1 x.2.1⟩
def A_V44:Cfg:=mkCfg tab [(66,S_V15),(115,S_V41)] [(6,[D0,B4,B2,D0,D0,B3,B0]),(14,[D0,B4,B2,D0,D0,B3,B0,.as .bool .i,B0]),(25,[D0,D0,B2,D0,D0,B3]),(26,([D0,D0,B2,D0,D0,B3]++dr 3 [B0])),(21,[D0,B4,B2,D0,D0,B3,B0,.as .bool .i]),(35,[])]
noncomputable def za (N n:Nat) (K:T61) (a1:Y4) (a2:Y2) (a5:Y4) (a6:Int):Z5:=itr A_V44 N 6 Try.f86 [1,1,0,1,0,0] n ([.u,W4 a1,W2 a2,.u,.u,W3 a5,W0 a6]++us 52) K
noncomputable def wd1 (N n:Nat) (K:T61) (a1:Y4) (a2:Y2) (a5:Y4) (a6:Int) (a7:Bool) (a8:Int):Z5:=itr A_V44 N 14 Try.f86 [1,1,0,1,0,0,1,0,0,1,0,1,0,0] n ([.u,W4 a1,W2 a2,.u,.u,W3 a5,W0 a6,.val .bool .i a7,W0 a8]++us 50) K
noncomputable def wbd (N n:Nat) (K:T61) (a2:Y2) (a5:Y4) (a9:Int):Z5:=itr A_V44 N 26 Try.f86 [1,1,1,0,1,0,0] n (([.u,.u,W2 a2,.u,.u,W3 a5]++ud 3 [W0 a9])++us 49) K
noncomputable def wcq:Ex→St→Z5:=finish A_V44 S_V44 Try.f86.results.toList
noncomputable def whw (kX:T46) (a2:Y2) (a5:Y4):Z5:=kX ([.u,.u,W2 a2,.u,.u,W3 a5]++us 53)
noncomputable def wbc (kX:T46) (kO:T37):=exK wcq 0 (A_V44.shape 25) kX kO
noncomputable def wv0 (kX:T46) (a1:Y4) (a2:Y2) (a5:Y4) (a6:Int) (a7:Bool):Z5:=kX ([.u,W4 a1,W2 a2,.u,.u,W3 a5,W0 a6,.val .bool .i a7]++us 51)
noncomputable def wvz (kX:T46) (kO:T37):=exK wcq 2 (A_V44.shape 21) kX kO
noncomputable def wpz (kX:T46):Z5:=kX ([]++us 59)
noncomputable def wpy (kX:T46) (kO:T37):=exK wcq 4 (A_V44.shape 35) kX kO
theorem wv2 (N kX kO):∀n,wd1 N n (wvz kX kO)=wm2 N (wv0 kX) n :=
 itE rfl fun m=>by kernel_rfl
noncomputable def whv (N m:Nat) (kX:T46) (kO:T37):=(blockK 2 (sqK A_V44 N 21 500010 Try.f86 [1,1,0,1,0,0,1,0,0,1,1] (blockK 1 (sqK A_V44 N 9 500004 Try.f86 [1,1,0,1,0,0,1,1] (itK A_V44 N 6 Try.f86 [1,1,0,1,0,0] m (wbc kX kO))))))
noncomputable def wv4 (N m:Nat) (kX:T46) (kO:T37) (st':St):Z5:=rn A_V44 N Try.f86 [1,1,0,1,0,0,1,0,0,1,1] st' (blockK 1 (sqK A_V44 N 9 500004 Try.f86 [1,1,0,1,0,0,1,1] (itK A_V44 N 6 Try.f86 [1,1,0,1,0,0] m (wbc kX kO))))
theorem w18 (N m kX kO) {r}(h:za N m (wbc kX kO)=r):wd1 N N (whv N m kX kO)=wd0 N r (whw kX):=by
 rw[show wd1 N N (whv N m kX kO)=wd1 N N (wvz (wv4 N m kX kO) fun j=>(whv N m kX kO) (.exit j)) from(by funext _ _ _ _ _ _;exact jky),wv2,show wv0 (wv4 N m kX kO)=wbe (za N m (wbc kX kO)) by kernel_rfl,h];rfl
theorem wv1 (N kX kO):∀n,za N n (wbc kX kO)=wm1 N (whw kX) n :=
 itE rfl fun m=>(show _=wbg (wd1 N N (whv N m kX kO)) (whw kX) by kernel_rfl).trans (by rw[w18 N m kX kO rfl]<;>rfl)
noncomputable def whu (N:Nat):=(blockK 0 (sqK A_V44 N 25 500012 Try.f86 [1,1,1] wcq))
theorem wrh (N kX kO):∀n,wbd N n (wpy kX kO)=wj5 N (wpz kX) n :=
 itE rfl fun m=>by kernel_rfl
noncomputable def wfx (N:Nat):=(blockK 4 (sqK A_V44 N 35 500017 Try.f86 [1,1,1,1] wcq))
noncomputable def wp0 (N:Nat) (st':St):Z5:=rn A_V44 N Try.f86 [1,1,1,1] st' wcq
theorem wzg (N):wbd N N (wfx N)=wt N:=by
 rw[show wbd N N (wfx N)=wbd N N (wpy (wp0 N) fun j=>(wfx N) (.exit j)) from(by funext _ _ _;exact jky),wrh,show wpz (wp0 N)=ym by kernel_rfl];rfl
noncomputable def wv3 (N:Nat) (st':St):Z5:=rn A_V44 N Try.f86 [1,1,1] st' wcq
theorem w17 (N):za N N (whu N)=wm0 N:=by
 rw[show za N N (whu N)=za N N (wbc (wv3 N) fun j=>(whu N) (.exit j)) from(by funext _ _ _ _;exact jky),wv1,show whw (wv3 N)=xm (wbd N N (wfx N)) by kernel_rfl,wzg N];rfl
theorem run_V44 (N x):runF A_V44 N Try.f86 S_V44 x=V44 N x.1 x.2.1:=(show _=(wri (za N N (whu N)) x.1 x.2.1) by kernel_rfl).trans (by rw[w17 N];rfl)
theorem ok_V44:OK 86 S_V44:=gdR (A:=A_V44) tc Try.func86 (jeb ⟨ok_V15,ok_V41,trivial⟩) (run_V44 big)
def wd5 (rec:Y2→Y2→Int→Int→Option Z0) (k:Y2→Y2→Int→Option Z0) (a1 a3:Y2) (a4 a5:Int):Option Z0 :=
  cond (decide (a5<a4))
  ((V44 big a1 [a4,a5]).bind fun rq3 =>
  cond (decide (rq3.1<0))
  (some (false,(())))
  ((V44 big a3 [a4,a5]).bind fun rq4 =>
  cond (decide (rq4.1<0))
  (some (false,(())))
  (rec a1 a3 a4 (IntKind.i64.wrap (a5+1)))))
  (k a1 a3 a4)
def wbi (rec:Y2→Y2→Int→Option Z0) (a1 a3:Y2) (a4:Int):Option Z0 :=
  rec a1 a3 (IntKind.i64.wrap (a4+1))
def wbj (L8:Y2→Y2→Int→Int→Option Z0) (k:Option Z0) (a1 a3:Y2) (a4:Int):Option Z0 :=
  cond (decide (a4<(a1.1.length:Int)))
  (L8 a1 a3 a4 0)
  (k)
def xn:Option Z0 :=
  some (true,(()))
def wrj (L5:Y2→Y2→Int→Option Z0) (p_0:Y2):Option Z0 :=
  (V42 big p_0).bind fun rq1 =>
  cond (!rq1.1)
  (some (false,(())))
  (cond (decide ((p_0.1.length:Int)=0))
  (some (false,(())))
  ((V43 big p_0).bind fun rq2 =>
  L5 p_0 rq2.1 0))
def wm5 (N:Nat) (k:Y2→Y2→Int→Option Z0):=itN (fun r=>wd5 r k) fun _ _ _ _=>none
def wd3 (N:Nat) (rec:Y2→Y2→Int→Option Z0) (k:Option Z0):=wm5 N (wbi rec) N
def wm4 (N:Nat) (k:Option Z0):=itN (fun r=>wbj (wd3 N r k) k) fun _ _ _=>none
def wm3 (N:Nat):=wm4 N (xn) N
def V45 (N:Nat) (p_0:Y2):Option Z0:=wrj (wm3 N) p_0
def S_V45:Sig:=⟨Q12,[0],[],.unit,.bool,.i,fun x=>V45 big x.1⟩
def A_V45:Cfg:=mkCfg tab [(85,S_V42),(78,S_V43),(86,S_V44)] [(10,[D0,B2,D0,B1,B0]),(16,[D0,B2,D0,B1,B0,B0]),(25,[]),(13,[D0,B2,D0,B1,B0])]
noncomputable def zd (N n:Nat) (K:Ex→St→Option Z0) (a1 a3:Y2) (a4:Int):Option Z0:=itr A_V45 N 10 Try.f45 [1,1,1,0,1,0,0] n ([.u,W2 a1,.u,W1 a3,W0 a4]++us 38) K
noncomputable def wd4 (N n:Nat) (K:Ex→St→Option Z0) (a1 a3:Y2) (a4 a5:Int):Option Z0:=itr A_V45 N 16 Try.f45 [1,1,1,0,1,0,0,1,0,0,1,0,0] n ([.u,W2 a1,.u,W1 a3,W0 a4,W0 a5]++us 37) K
noncomputable def wk2:Ex→St→Option Z0:=finish A_V45 S_V45 Try.f45.results.toList
noncomputable def whz (kX:St→Option Z0):Option Z0:=kX ([]++us 43)
noncomputable def wbh (kX:St→Option Z0) (kO:Nat→St→Option Z0):Ex→St→Option Z0:=exK wk2 0 (A_V45.shape 25) kX kO
noncomputable def wv6 (kX:St→Option Z0) (a1 a3:Y2) (a4:Int):Option Z0:=kX ([.u,W2 a1,.u,W1 a3,W0 a4]++us 38)
noncomputable def wv5 (kX:St→Option Z0) (kO:Nat→St→Option Z0):Ex→St→Option Z0:=exK wk2 2 (A_V45.shape 13) kX kO
theorem wv8 (N kX kO):∀n,wd4 N n (wv5 kX kO)=wm5 N (wv6 kX) n :=
 itE rfl fun m=>by kernel_rfl
noncomputable def why (N m:Nat) (kX:St→Option Z0) (kO:Nat→St→Option Z0):Ex→St→Option Z0:=(blockK 2 (blockK 1 (sqK A_V45 N 13 500006 Try.f45 [1,1,1,0,1,0,0,1,1] (itK A_V45 N 10 Try.f45 [1,1,1,0,1,0,0] m (wbh kX kO)))))
noncomputable def wwa (N m:Nat) (kX:St→Option Z0) (kO:Nat→St→Option Z0) (st':St):Option Z0:=rn A_V45 N Try.f45 [1,1,1,0,1,0,0,1,1] st' (itK A_V45 N 10 Try.f45 [1,1,1,0,1,0,0] m (wbh kX kO))
theorem w2a (N m kX kO) {r}(h:zd N m (wbh kX kO)=r):wd4 N N (why N m kX kO)=wd3 N r (whz kX):=by
 rw[show wd4 N N (why N m kX kO)=wd4 N N (wv5 (wwa N m kX kO) fun j=>(why N m kX kO) (.exit j)) from(by funext _ _ _ _;exact jky),wv8,show wv6 (wwa N m kX kO)=wbi (zd N m (wbh kX kO)) by kernel_rfl,h];rfl
theorem wv7 (N kX kO):∀n,zd N n (wbh kX kO)=wm4 N (whz kX) n :=
 itE rfl fun m=>(show _=wbj (wd4 N N (why N m kX kO)) (whz kX) by kernel_rfl).trans (by rw[w2a N m kX kO rfl]<;>rfl)
noncomputable def whx (N:Nat):Ex→St→Option Z0:=(blockK 0 (sqK A_V45 N 25 500012 Try.f45 [1,1,1,1] wk2))
noncomputable def wv9 (N:Nat) (st':St):Option Z0:=rn A_V45 N Try.f45 [1,1,1,1] st' wk2
theorem w19 (N):zd N N (whx N)=wm3 N:=by
 rw[show zd N N (whx N)=zd N N (wbh (wv9 N) fun j=>(whx N) (.exit j)) from(by funext _ _ _;exact jky),wv7,show whz (wv9 N)=xn by kernel_rfl];rfl
theorem run_V45 (N x):runF A_V45 N Try.f45 S_V45 x=V45 N x.1:=(show _=(wrj (zd N N (whx N)) x.1) by kernel_rfl).trans (by rw[w19 N];rfl)
theorem ok_V45:OK 45 S_V45:=gdR (A:=A_V45) tc Try.func45 (jeb ⟨ok_V42,ok_V43,ok_V44,trivial⟩) (run_V45 big)
def wz7 (p_0:Y2) (x_1:Int):Option Z0 :=
  cond (decide (0≤x_1))
  (some (decide (x_1<(p_0.1.length:Int)),(())))
  (some (false,(())))
def V46 (p_0:Y2) (x_1:Int):Option Z0:=wz7 p_0 x_1
def S_V46:Sig:=⟨(.pair Q0 (.pair I .unit)),[0,0],[],.unit,.bool,.i,fun x=>V46 x.1 x.2.1⟩
def A_V46:Cfg:=mkCfg tab [] []
theorem run_V46 (N x):runF A_V46 N Try.f108 S_V46 x=V46 x.1 x.2.1:=by kernel_rfl
theorem ok_V46:OK 108 S_V46:=gdR (A:=A_V46) tc Try.func108 (jeb trivial) (run_V46 big)
def wrk (p_0:Y2) (x_1 y_2:Int):Option Z0 :=
  (V45 big p_0).bind fun rq1 =>
  cond rq1.1
  ((V46 p_0 x_1).bind fun rq2 =>
  cond rq2.1
  ((V46 p_0 y_2).bind fun rq3 =>
  some (rq3.1,(())))
  (some (false,(()))))
  (some (false,(())))
def V47 (p_0:Y2) (x_1 y_2:Int):Option Z0:=wrk p_0 x_1 y_2
def S_V47:Sig:=⟨Q16,[0,0,0],[],.unit,.bool,.i,fun x=>V47 x.1 x.2.1 x.2.2.1⟩
def A_V47:Cfg:=mkCfg tab [(45,S_V45),(108,S_V46)] []
theorem run_V47 (N x):runF A_V47 N Try.f71 S_V47 x=V47 x.1 x.2.1 x.2.2.1:=by kernel_rfl
theorem ok_V47:OK 71 S_V47:=gdR (A:=A_V47) tc Try.func71 (jeb ⟨ok_V45,ok_V46,trivial⟩) (run_V47 big)
def wz8 (p_0:Y2) (x_1 y_2:Int):Z5 :=
  (V44 big p_0 [x_1,y_2]).bind fun rq1 =>
  some (rq1.1,(()))
def V48 (p_0:Y2) (x_1 y_2:Int):Z5:=wz8 p_0 x_1 y_2
def S_V48:Sig:=⟨Q16,[0,0,0],[],.unit,I,.i,fun x=>V48 x.1 x.2.1 x.2.2.1⟩
def A_V48:Cfg:=mkCfg tab [(86,S_V44)] []
theorem run_V48 (N x):runF A_V48 N Try.f46 S_V48 x=V48 x.1 x.2.1 x.2.2.1:=by kernel_rfl
theorem ok_V48:OK 46 S_V48:=gdR (A:=A_V48) tc Try.func46 (jeb ⟨ok_V44,trivial⟩) (run_V48 big)
def wz9 (p_0:Y2) (x_1 y_2:Int):Z5 :=
  (V43 big p_0).bind fun rq1 =>
  (V44 big rq1.1 [x_1,y_2]).bind fun rq2 =>
  some (rq2.1,(()))
def V49 (p_0:Y2) (x_1 y_2:Int):Z5:=wz9 p_0 x_1 y_2
def S_V49:Sig:=⟨Q16,[0,0,0],[],.unit,I,.i,fun x=>V49 x.1 x.2.1 x.2.2.1⟩
def A_V49:Cfg:=mkCfg tab [(78,S_V43),(86,S_V44)] []
theorem run_V49 (N x):runF A_V49 N Try.f47 S_V49 x=V49 x.1 x.2.1 x.2.2.1:=by kernel_rfl
theorem ok_V49:OK 47 S_V49:=gdR (A:=A_V49) tc Try.func47 (jeb ⟨ok_V43,ok_V44,trivial⟩) (run_V49 big)
def wd7 (rec:T9) (k:Y4→Z10) (a1 a2:Int) (a3:Y2) (a8:Y4) (a9:Int):Z10 :=
  cond (decide (a9<(a3.1.length:Int)))
  ((V48 a3 a1 a2).bind fun rq2 =>
  (V15 a3 rq2.1 a9).bind fun rq3 =>
  cond rq3.1
  ((V15 a3 a9 a1).bind fun rq4 =>
  cond rq4.1
  ((V49 a3 a9 a2).bind fun rq5 =>
  (appI a8 [rq5.1]).bind fun xq6 =>
  rec a1 a2 a3 xq6 (IntKind.i64.wrap (a9+1)))
  (rec a1 a2 a3 a8 (IntKind.i64.wrap (a9+1))))
  (rec a1 a2 a3 a8 (IntKind.i64.wrap (a9+1))))
  (k a8)
def wbk (a8:Y4):Z10 :=
  some ((a8,true,()),(()))
def wh1 (L5:T9) (p_0:Y2) (x_1 y_2:Int):Z10 :=
  (V47 p_0 x_1 y_2).bind fun rq1 =>
  cond (!rq1.1)
  (some (([],false,()),(())))
  (L5 x_1 y_2 p_0 [] 0)
def wm7 (N:Nat) (k:Y4→Z10):=itN (fun r=>wd7 r k) fun _ _ _ _ _=>none
def wm6 (N:Nat):=wm7 N (wbk) N
def V50 (N:Nat) (p_0:Y2) (x_1 y_2:Int):Z10:=wh1 (wm6 N) p_0 x_1 y_2
def S_V50:Sig:=⟨Q16,[0,0,0],[],.unit,(.tup (.pair Q8 Q15)),(.p O5 .i),fun x=>V50 big x.1 x.2.1 x.2.2.1⟩
def A_V50:Cfg:=mkCfg tab [(71,S_V47),(46,S_V48),(66,S_V15),(47,S_V49)] [(10,([D0,B0,B0,B2]++dr 4 [B3,B0])),(19,(dr 8 [B3]))]
noncomputable def wd6 (N n:Nat) (K:Ex→St→Z10) (a1 a2:Int) (a3:Y2) (a8:Y4) (a9:Int):Z10:=itr A_V50 N 10 Try.f23 [1,1,1,0,1,0,0] n (([.u,W0 a1,W0 a2,W2 a3]++ud 4 [W3 a8,W0 a9])++us 35) K
noncomputable def wrl:Ex→St→Z10:=finish A_V50 S_V50 Try.f23.results.toList
noncomputable def wwc (kX:St→Z10) (a8:Y4):Z10:=kX ((ud 8 [W3 a8])++us 36)
noncomputable def wwb (kX:St→Z10) (kO:Nat→St→Z10):=exK wrl 0 (A_V50.shape 19) kX kO
theorem wwd (N kX kO):∀n,wd6 N n (wwb kX kO)=wm7 N (wwc kX) n :=
 itE rfl fun m=>by kernel_rfl
noncomputable def wh0 (N:Nat):=(blockK 0 (sqK A_V50 N 19 500009 Try.f23 [1,1,1,1] wrl))
noncomputable def wwe (N:Nat) (st':St):Z10:=rn A_V50 N Try.f23 [1,1,1,1] st' wrl
theorem w2b (N):wd6 N N (wh0 N)=wm6 N:=by
 rw[show wd6 N N (wh0 N)=wd6 N N (wwb (wwe N) fun j=>(wh0 N) (.exit j)) from(by funext _ _ _ _ _;exact jky),wwd,show wwc (wwe N)=wbk by kernel_rfl];rfl
theorem run_V50 (N x):runF A_V50 N Try.f23 S_V50 x=V50 N x.1 x.2.1 x.2.2.1:=(show _=(wh1 (wd6 N N (wh0 N)) x.1 x.2.1 x.2.2.1) by kernel_rfl).trans (by rw[w2b N];rfl)
theorem ok_V50:OK 23 S_V50:=gdR (A:=A_V50) tc Try.func23 (jeb ⟨ok_V47,ok_V48,ok_V15,ok_V49,trivial⟩) (run_V50 big)
def wd9 (rec:Y4→Y4→Int→Option Z0) (k:Option Z0) (a0 a1:Y4) (a5:Int):Option Z0 :=
  cond (decide (a5<(a0.length:Int)))
  ((atI a0 a5).bind fun xq1 =>
  (atI a1 a5).bind fun xq2 =>
  cond (decide (xq1≠xq2))
  (some (false,(())))
  (rec a0 a1 (IntKind.i64.wrap (a5+1))))
  (k)
def wbl:Option Z0 :=
  some (true,(()))
def wrm (L4:Y4→Y4→Int→Option Z0) (a_0 b_1:Y4):Option Z0 :=
  cond (decide ((a_0.length:Int)≠(b_1.length:Int)))
  (some (false,(())))
  (L4 a_0 b_1 0)
def wm9 (N:Nat) (k:Option Z0):=itN (fun r=>wd9 r k) fun _ _ _=>none
def wm8 (N:Nat):=wm9 N (wbl) N
def V51 (N:Nat) (a_0 b_1:Y4):Option Z0:=wrm (wm8 N) a_0 b_1
def S_V51:Sig:=⟨(.pair Q8 (.pair Q8 .unit)),[0,0],[],.unit,.bool,.i,fun x=>V51 big x.1 x.2.1⟩
def A_V51:Cfg:=mkCfg tab [] [(8,([B4,B4]++dr 3 [B0])),(17,[])]
noncomputable def wd8 (N n:Nat) (K:Ex→St→Option Z0) (a0 a1:Y4) (a5:Int):Option Z0:=itr A_V51 N 8 Try.f9 [1,1,0,1,0,0] n (([W4 a0,W4 a1]++ud 3 [W0 a5])++us 20) K
noncomputable def wrn:Ex→St→Option Z0:=finish A_V51 S_V51 Try.f9.results.toList
noncomputable def wwg (kX:St→Option Z0):Option Z0:=kX ([]++us 26)
noncomputable def wwf (kX:St→Option Z0) (kO:Nat→St→Option Z0):Ex→St→Option Z0:=exK wrn 0 (A_V51.shape 17) kX kO
theorem wwh (N kX kO):∀n,wd8 N n (wwf kX kO)=wm9 N (wwg kX) n :=
 itE rfl fun m=>by kernel_rfl
noncomputable def wh2 (N:Nat):Ex→St→Option Z0:=(blockK 0 (sqK A_V51 N 17 500008 Try.f9 [1,1,1] wrn))
noncomputable def wwi (N:Nat) (st':St):Option Z0:=rn A_V51 N Try.f9 [1,1,1] st' wrn
theorem w2c (N):wd8 N N (wh2 N)=wm8 N:=by
 rw[show wd8 N N (wh2 N)=wd8 N N (wwf (wwi N) fun j=>(wh2 N) (.exit j)) from(by funext _ _ _;exact jky),wwh,show wwg (wwi N)=wbl by kernel_rfl];rfl
theorem run_V51 (N x):runF A_V51 N Try.f9 S_V51 x=V51 N x.1 x.2.1:=(show _=(wrm (wd8 N N (wh2 N)) x.1 x.2.1) by kernel_rfl).trans (by rw[w2c N];rfl)
theorem ok_V51:OK 9 S_V51:=gdR (A:=A_V51) tc Try.func9 (jeb trivial) (run_V51 big)
def wk3 (p_0:Y2) (x_1 y_2:Int):Z10 :=
  (V33 p_0).bind fun rq1 =>
  cond (!rq1.1.2.1)
  (some (([],false,()),(())))
  ((rq1.1.1).bind fun xq2 =>
  (V34 xq2.1 [x_1,y_2]).bind fun rq3 =>
  cond (!rq3.1)
  (some (([],false,()),(())))
  ((rq1.1.1).bind fun xq4 =>
  (rq1.1.1).bind fun xq5 =>
  (atI xq5.2.2.1 x_1).bind fun xq6 =>
  (atI xq6 y_2).bind fun xq7 =>
  (V37 xq4.1 y_2 xq7).bind fun rq8 =>
  (rq1.1.1).bind fun xq9 =>
  (atI xq9.2.1 x_1).bind fun xq10 =>
  (V38 big rq8.1 xq10).bind fun rq11 =>
  some ((rq11.1,true,()),(()))))
def V52 (p_0:Y2) (x_1 y_2:Int):Z10:=wk3 p_0 x_1 y_2
def S_V52:Sig:=⟨Q16,[0,0,0],[],.unit,(.tup (.pair Q8 Q15)),(.p O5 .i),fun x=>V52 x.1 x.2.1 x.2.2.1⟩
def A_V52:Cfg:=mkCfg tab [(52,S_V33),(57,S_V34),(70,S_V37),(69,S_V38)] []
theorem run_V52 (N x):runF A_V52 N Try.f24 S_V52 x=V52 x.1 x.2.1 x.2.2.1:=by kernel_rfl
theorem ok_V52:OK 24 S_V52:=gdR (A:=A_V52) tc Try.func24 (jeb ⟨ok_V33,ok_V34,ok_V37,ok_V38,trivial⟩) (run_V52 big)
def web (rec:T9) (k:Y4→Z10) (a1 a2:Int) (a3:Y2) (a8:Y4) (a9:Int):Z10 :=
  cond (decide (a9<(a3.1.length:Int)))
  ((V15 a3 a2 a9).bind fun rq2 =>
  cond rq2.1
  ((V49 a3 a1 a2).bind fun rq3 =>
  (V15 a3 a9 rq3.1).bind fun rq4 =>
  cond rq4.1
  ((V48 a3 a9 a1).bind fun rq5 =>
  (appI a8 [rq5.1]).bind fun xq6 =>
  rec a1 a2 a3 xq6 (IntKind.i64.wrap (a9+1)))
  (rec a1 a2 a3 a8 (IntKind.i64.wrap (a9+1))))
  (rec a1 a2 a3 a8 (IntKind.i64.wrap (a9+1))))
  (k a8)
def wbm (a8:Y4):Z10 :=
  some ((a8,true,()),(()))
def wh4 (L5:T9) (p_0:Y2) (x_1 y_2:Int):Z10 :=
  (V47 p_0 x_1 y_2).bind fun rq1 =>
  cond (!rq1.1)
  (some (([],false,()),(())))
  (L5 x_1 y_2 p_0 [] 0)
def wnb (N:Nat) (k:Y4→Z10):=itN (fun r=>web r k) fun _ _ _ _ _=>none
def wna (N:Nat):=wnb N (wbm) N
def V53 (N:Nat) (p_0:Y2) (x_1 y_2:Int):Z10:=wh4 (wna N) p_0 x_1 y_2
def S_V53:Sig:=⟨Q16,[0,0,0],[],.unit,(.tup (.pair Q8 Q15)),(.p O5 .i),fun x=>V53 big x.1 x.2.1 x.2.2.1⟩
def A_V53:Cfg:=mkCfg tab [(71,S_V47),(66,S_V15),(47,S_V49),(46,S_V48)] [(10,([D0,B0,B0,B2]++dr 4 [B3,B0])),(19,(dr 8 [B3]))]
noncomputable def wea (N n:Nat) (K:Ex→St→Z10) (a1 a2:Int) (a3:Y2) (a8:Y4) (a9:Int):Z10:=itr A_V53 N 10 Try.f25 [1,1,1,0,1,0,0] n (([.u,W0 a1,W0 a2,W2 a3]++ud 4 [W3 a8,W0 a9])++us 35) K
noncomputable def wro:Ex→St→Z10:=finish A_V53 S_V53 Try.f25.results.toList
noncomputable def wwk (kX:St→Z10) (a8:Y4):Z10:=kX ((ud 8 [W3 a8])++us 36)
noncomputable def wwj (kX:St→Z10) (kO:Nat→St→Z10):=exK wro 0 (A_V53.shape 19) kX kO
theorem wwl (N kX kO):∀n,wea N n (wwj kX kO)=wnb N (wwk kX) n :=
 itE rfl fun m=>by kernel_rfl
noncomputable def wh3 (N:Nat):=(blockK 0 (sqK A_V53 N 19 500009 Try.f25 [1,1,1,1] wro))
noncomputable def wwm (N:Nat) (st':St):Z10:=rn A_V53 N Try.f25 [1,1,1,1] st' wro
theorem w2d (N):wea N N (wh3 N)=wna N:=by
 rw[show wea N N (wh3 N)=wea N N (wwj (wwm N) fun j=>(wh3 N) (.exit j)) from(by funext _ _ _ _ _;exact jky),wwl,show wwk (wwm N)=wbm by kernel_rfl];rfl
theorem run_V53 (N x):runF A_V53 N Try.f25 S_V53 x=V53 N x.1 x.2.1 x.2.2.1:=(show _=(wh4 (wea N N (wh3 N)) x.1 x.2.1 x.2.2.1) by kernel_rfl).trans (by rw[w2d N];rfl)
theorem ok_V53:OK 25 S_V53:=gdR (A:=A_V53) tc Try.func25 (jeb ⟨ok_V47,ok_V15,ok_V49,ok_V48,trivial⟩) (run_V53 big)
end Go.Proofs.Yteanfidobhpchaa
