import Derived.Test.YtgmapdlhkfajoaaGreatUAST
set_option maxRecDepth 100000
set_option linter.unusedVariables false
namespace Go.Proofs.YtgmapdlhkfajoaaGreat
open Go Go.Gx Go.Proofs
def wl3 (rec:T49) (k:Z13→Y7→Y7→Z8) (a0:Z13) (a2:Y7) (a4:Int) (a5:Y7):Z8 :=
  (V2 a0 2).bind fun rq30 =>
  cond (decide ((a5.2.1.length:Int)<(IntKind.i64.wrap (4+rq30.1))))
  ((mkI (0:Int) a4).bind fun xq31=>(mkI (0:Int) a4).bind fun xq32=>cond (decide (a4≤a4))
  ((appI a5.2.1 [(1,(xq32,()))]).bind fun xq33 =>
  rec rq30.2.1 a2 a4 ((a5.1,((),a5.2.2)).1,(xq33,((a5.1,((),a5.2.2)).2).2)))
  none)
  (k rq30.2.1 a2 a5)
def wgm (a0:Z13) (a2 a5:Y7):Z8 :=
  some (a5,(a0,()))
def wl2 (rec:T73) (k:Z13→Y7→Int→Y7→Int→Y6→Z8) (a0:Z13) (a2:Y7) (a4:Int) (a5:Y7) (a6:Int) (a7:Y6) (a8:Int):Z8 :=
  cond (decide (0<a8))
  ((V2 a0 a4).bind fun rq27 =>
  (appI a7.2.1 [rq27.1]).bind fun xq28 =>
  rec rq27.2.1 a2 a4 a5 a6 ((a7.1,((),a7.2.2)).1,(xq28,((a7.1,((),a7.2.2)).2).2)) (IntKind.i64.wrap (a8-1)))
  (k a0 a2 a4 a5 a6 a7)
def wax (rec:T53) (a0:Z13) (a2:Y7) (a4:Int) (a5:Y7) (a6:Int) (a7:Y6):Z8 :=
  (appI a5.2.1 [a7]).bind fun xq29 =>
  rec a0 a2 a4 ((a5.1,((),a5.2.2)).1,(xq29,((a5.1,((),a5.2.2)).2).2)) (IntKind.i64.wrap (a6-1))
def wkw (L13:T73) (k:T49) (a0:Z13) (a2:Y7) (a4:Int) (a5:Y7) (a6:Int):Z8 :=
  cond (decide (0<a6))
  ((V4 a0 [(0:Int),1,2,2,3]).bind fun rq6 =>
  cond (decide (a4=4))
  (cond (decide (((rq6.1,(([]:Y4),())).1)=3))
  ((V20 big a4 ((2,(rq6.1,(([]:Y4),())).2).1)).bind fun rq7 =>
  L13 rq6.2.1 a2 a4 a5 a6 (2,(rq6.1,(([]:Y4),())).2) rq7.1)
  ((V20 big a4 ((rq6.1,(([]:Y4),())).1)).bind fun rq8 =>
  L13 rq6.2.1 a2 a4 a5 a6 (rq6.1,(([]:Y4),())) rq8.1))
  ((V20 big a4 ((rq6.1,(([]:Y4),())).1)).bind fun rq9 =>
  L13 rq6.2.1 a2 a4 a5 a6 (rq6.1,(([]:Y4),())) rq9.1))
  (k a0 a2 a4 a5)
def xi (L27:T49) (a0:Z13) (a2:Y7) (a4:Int) (a5:Y7):Z8 :=
  (V2 a0 16).bind fun rq10 =>
  cond (decide (rq10.1=0))
  ((V4 rq10.2.1 [(0:Int),9,IntKind.i64.wrap (a4+1)]).bind fun rq11 =>
  some ((rq11.1,a5.2),(rq11.2.1,())))
  (cond (decide (rq10.1=1))
  ((a5.2.1[0]?).bind fun xq12 =>
  (appI xq12.2.1 [0]).bind fun xq13 =>
  some ((a5.1,(a5.2.1.set 0 (xq12.1,(xq13,())),a5.2.2)),(rq10.2.1,())))
  (cond (decide (rq10.1=2))
  ((atI a5.2.1 0).bind fun _ =>
  (a5.2.1[(0:Int).toNat]?).bind fun xq14 =>
  (a5.2.1[(0:Int).toNat]?).bind fun xq15 =>
  (atI a5.2.1 0).bind fun _ =>
  (a5.2.1[(0:Int).toNat]?).bind fun xq16 =>
  (a5.2.1[(0:Int).toNat]?).bind fun xq17 =>
  (a5.2.1[(0:Int).toNat]?).bind fun xq18 =>
  (V2 rq10.2.1 (xq18.2.1.length:Int)).bind fun rq19 =>
  (V4 rq19.2.1 [(-1:Int),a4]).bind fun rq20 =>
  (a5.2.1[(0:Int).toNat]?).bind fun xq21 =>
  (atI xq21.2.1 rq19.1).bind fun _ =>
  (a5.2.1[(0:Int).toNat]?).bind fun xq22 =>
  (xq22.2.1[rq19.1.toNat]?).bind fun xq23 =>
  some ((a5.1,(a5.2.1.set ((0:Int).toNat) (xq22.1,(xq22.2.1.set rq19.1.toNat rq20.1,xq22.2.2)),a5.2.2)),(rq20.2.1,())))
  (cond (decide (rq10.1=3))
  ((V4 rq10.2.1 [(-1:Int),4]).bind fun rq24 =>
  (atI a5.2.1 0).bind fun _ =>
  (a5.2.1[(0:Int).toNat]?).bind fun xq25 =>
  (a5.2.1[(0:Int).toNat]?).bind fun xq26 =>
  some ((a5.1,(a5.2.1.set ((0:Int).toNat) (rq24.1,xq26.2),a5.2.2)),(rq24.2.1,())))
  (cond (decide (rq10.1=4))
  (L27 rq10.2.1 a2 a4 a5)
  (some (a5,(rq10.2.1,())))))))
def wty (L7:T53) (c_0:Z13):Z8 :=
  (V3 c_0 4).bind fun rq1 =>
  cond (!rq1.1)
  ((V2 rq1.2.1 17).bind fun rq2 =>
  (V119 rq2.1).bind fun rq3 =>
  some (rq3.1,(rq2.2.1,())))
  ((V4 rq1.2.1 [(2:Int),2,3,3,4]).bind fun rq4 =>
  (V4 rq4.2.1 [(1:Int),1,2]).bind fun rq5 =>
  L7 rq5.2.1 (0,(([]:(List Y6)),())) rq4.1 (rq4.1,(([]:(List Y6)),())) rq5.1)
def wl4 (N:Nat) (k:Z13→Y7→Int→Y7→Int→Y6→Z8):=itN (fun r=>wl2 r k) fun _ _ _ _ _ _ _=>none
def wau (N:Nat) (rec:T53) (k:T49):=wl4 N (wax rec) N
def wqz (N:Nat) (k:T49):=itN (fun r=>wkw (wau N r k) k) fun _ _ _ _ _=>none
def wl5 (N:Nat) (k:Z13→Y7→Y7→Z8):=itN (fun r=>wl3 r k) fun _ _ _ _=>none
def wz (N:Nat):=wl5 N (wgm) N
def wqy (N:Nat):=wqz N (xi (wz N)) N
def V120 (N:Nat) (c_0:Z13):Z8:=wty (wqy N) c_0
def S_V120:Sig:=⟨Q23,[1],[O7],Q23,Q1,O24,fun x=>V120 big x.1⟩
def A_V120:Cfg:=hookCfg (fun i=>if i=21 then some PQ.hook else none) (mkCfg tab [(89,S_V3),(54,S_V2),(95,S_V119),(59,S_V4),(32,S_V20)] [(14,[B8,D0,B7,D0,B0,B7,B0]),(26,[B8,D0,B7,D0,B0,B7,B0,B6,B0]),(35,[B8,D0,B7,D0,B0,B7]),(54,[B8,D0,B7,D0,B0,B7]),(33,[B8,D0,B7,D0,B0,B7,B0,B6]),(59,[B8,D0,B7,D0,D0,B7])])
noncomputable def ya (N n:Nat) (K:Ex→St→Z8) (a0:Z13) (a2:Y7) (a4:Int) (a5:Y7) (a6:Int):Z8:=itr A_V120 N 14 Tryz.f53 [1,1,1,1,0,1,0,0] n ([.val Q3 O7 a0,.u,W7 a2,.u,W0 a4,W7 a5,W0 a6]++us 125) K
noncomputable def wav (N n:Nat) (K:Ex→St→Z8) (a0:Z13) (a2:Y7) (a4:Int) (a5:Y7) (a6:Int) (a7:Y6) (a8:Int):Z8:=itr A_V120 N 26 Tryz.f53 [1,1,1,1,0,1,0,0,1,0,0,1,1,0,1,0,0] n ([.val Q3 O7 a0,.u,W7 a2,.u,W0 a4,W7 a5,W0 a6,W6 a7,W0 a8]++us 123) K
noncomputable def waw (N n:Nat) (K:Ex→St→Z8) (a0:Z13) (a2:Y7) (a4:Int) (a5:Y7):Z8:=itr A_V120 N 54 Tryz.f53 [1,1,1,1,1,0,1,0,1,1,1,1,1,1,1,1,1,0,0,0] n ([.val Q3 O7 a0,.u,W7 a2,.u,W0 a4,W7 a5]++us 126) K
noncomputable def way:Ex→St→Z8:=finish A_V120 S_V120 Tryz.f53.results.toList
noncomputable def wkv (kX:St→Z8) (a0:Z13) (a2:Y7) (a4:Int) (a5:Y7):Z8:=kX ([.val Q3 O7 a0,.u,W7 a2,.u,W0 a4,W7 a5]++us 126)
noncomputable def z3 (kX:St→Z8) (kO:T117):=exK way 0 (A_V120.shape 35) kX kO
noncomputable def wtu (kX:St→Z8) (a0:Z13) (a2:Y7) (a4:Int) (a5:Y7) (a6:Int) (a7:Y6):Z8:=kX ([.val Q3 O7 a0,.u,W7 a2,.u,W0 a4,W7 a5,W0 a6,W6 a7]++us 124)
noncomputable def wts (kX:St→Z8) (kO:T117):=exK way 2 (A_V120.shape 33) kX kO
noncomputable def wtv (kX:St→Z8) (a0:Z13) (a2 a5:Y7):Z8:=kX ([.val Q3 O7 a0,.u,W7 a2,.u,.u,W7 a5]++us 126)
noncomputable def wtt (kX:St→Z8) (kO:T117):=exK way 5 (A_V120.shape 59) kX kO
theorem wyd (N kX kO):∀n,wav N n (wts kX kO)=wl4 N (wtu kX) n :=
 itE rfl fun m=>by kernel_rfl
noncomputable def wgk (N m:Nat) (kX:St→Z8) (kO:T117):=(blockK 2 (sqK A_V120 N 33 500016 Tryz.f53 [1,1,1,1,0,1,0,0,1,0,0,1,1,1] (blockK 1 (sqK A_V120 N 17 500008 Tryz.f53 [1,1,1,1,0,1,0,0,1,1] (itK A_V120 N 14 Tryz.f53 [1,1,1,1,0,1,0,0] m (z3 kX kO))))))
noncomputable def wtw (N m:Nat) (kX:St→Z8) (kO:T117) (st':St):Z8:=rn A_V120 N Tryz.f53 [1,1,1,1,0,1,0,0,1,0,0,1,1,1] st' (blockK 1 (sqK A_V120 N 17 500008 Tryz.f53 [1,1,1,1,0,1,0,0,1,1] (itK A_V120 N 14 Tryz.f53 [1,1,1,1,0,1,0,0] m (z3 kX kO))))
theorem w6z (N m kX kO) {r}(h:ya N m (z3 kX kO)=r):wav N N (wgk N m kX kO)=wau N r (wkv kX):=by
 rw[show wav N N (wgk N m kX kO)=wav N N (wts (wtw N m kX kO) fun j=>(wgk N m kX kO) (.exit j)) from(by funext _ _ _ _ _ _ _;exact jlo),wyd,show wtu (wtw N m kX kO)=wax (ya N m (z3 kX kO)) by kernel_rfl,h];rfl
theorem w20 (N kX kO):∀n,ya N n (z3 kX kO)=wqz N (wkv kX) n :=
 itE rfl fun m=>(show _=wkw (wav N N (wgk N m kX kO)) (wkv kX) by kernel_rfl).trans (by rw[w6z N m kX kO rfl]<;>rfl)
noncomputable def wku (N:Nat):=(blockK 0 (sqK A_V120 N 35 500017 Tryz.f53 [1,1,1,1,1] way))
theorem wye (N kX kO):∀n,waw N n (wtt kX kO)=wl5 N (wtv kX) n :=
 itE rfl fun m=>by kernel_rfl
noncomputable def wgl (N:Nat):=(blockK 5 (blockK 4 (sqK A_V120 N 59 500029 Tryz.f53 [1,1,1,1,1,1] way)))
noncomputable def wtx (N:Nat) (st':St):Z8:=rn A_V120 N Tryz.f53 [1,1,1,1,1,1] st' way
theorem w60 (N):waw N N (wgl N)=wz N:=by
 rw[show waw N N (wgl N)=waw N N (wtt (wtx N) fun j=>(wgl N) (.exit j)) from(by funext _ _ _ _;exact jlo),wye,show wtv (wtx N)=wgm by kernel_rfl];rfl
noncomputable def w0k (N:Nat) (st':St):Z8:=rn A_V120 N Tryz.f53 [1,1,1,1,1] st' way
theorem xfd (N):ya N N (wku N)=wqy N:=by
 rw[show ya N N (wku N)=ya N N (z3 (w0k N) fun j=>(wku N) (.exit j)) from(by funext _ _ _ _ _;exact jlo),w20,show wkv (w0k N)=xi (waw N N (wgl N)) by kernel_rfl,w60 N];rfl
theorem run_V120 (N x):runF A_V120 N Tryz.f53 S_V120 x=V120 N x.1:=(show _=(wty (ya N N (wku N)) x.1) by kernel_rfl).trans (by rw[xfd N];rfl)
theorem fn_V120:FnOk Tryz.prog 53:=⟨_,Tryz.func53,by kernel_rfl,by kernel_rfl⟩
theorem good_V120:Gx.Good Tryz.prog 53 S_V120:=jgw Tryz.func53 (of_decide_eq_true (by kernel_rfl)) fun x r h=>⟨A_V120,big,jit (vd tabOk),jhu (jes (show SigsOk Tryz.prog [(89,S_V3),(54,S_V2),(95,S_V119),(59,S_V4),(32,S_V20)] from⟨ok_V3,ok_V2,ok_V119,ok_V4,ok_V20,trivial⟩)),fun code hc=>jao (ids:=[21]) (fun i hi=>by simp only[List.mem_cons,List.not_mem_nil,or_false]at hi;simp[A_V120,hookCfg,hi]) fun c hm=>PO.hooks_spec_l1Cur_algebra A_V120 (by rfl) code hc c hm,(run_V120 big x).trans h⟩
end Go.Proofs.YtgmapdlhkfajoaaGreat
