import Derived.Test.YtiihhfkjppecaaaVSW
set_option maxRecDepth 100000
set_option linter.unusedVariables false
namespace Go.Proofs.Ytiihhfkjppecaaa
open Go Go.Gx Go.Proofs
noncomputable section
def T_V36 (self:T0):Sig:={ a:=Q2,md:=[0],mf:=[],m := .unit,r:=Q1,rf := .i,f:=self }
def wct (self_V36:T0) (rec:T9) (k:Y4→Z0) (a5:Y3) (a10:Y4) (a11:Int):Z0 :=
  cond (decide (0≤a11))
  ((atI a5 a11).bind fun _ =>
  (a5[a11.toNat]?).bind fun xq19 =>
  (V31 (-2:Int) xq19 a10).bind fun rq20 =>
  rec a5 rq20.1 (IntKind.i64.wrap (a11-1)))
  (k a10)
def zp (self_V36:T0) (a10:Y4):Z0 :=
  some (a10,(()))
def wd8 (self_V36:T0) (rec:Y4→Y3→Int→Z0) (k:T7) (a0:Y4) (a5:Y3) (a6:Int):Z0 :=
  cond (decide (0≤a6))
  (cond (decide (0≤a6∧a6≤(a5.length:Int)∧a6=a6))
  (cond (decide (0≤(IntKind.i64.wrap (a6+1))∧(IntKind.i64.wrap (a6+1))≤(a5.length:Int)))
  ((appI (a5.take a6.toNat) ((a5.drop ((IntKind.i64.wrap (a6+1)).toNat)).take (a5.length-(IntKind.i64.wrap (a6+1)).toNat))).bind fun xq14 =>
  (V34 big xq14).bind fun rq15 =>
  rec a0 xq14 rq15.1)
  none)
  none)
  (k a0 a5)
def zq (self_V36:T0) (k:Y3→Z0) (rec:T7) (a0:Y4) (a5:Y3):Z0 :=
  (V35 big a5 a0).bind fun rq16 =>
  cond (decide (rq16.1.1<0))
  (k a5)
  (cond (decide (0≤(IntKind.i64.wrap (rq16.1.1+1))∧(IntKind.i64.wrap (rq16.1.1+1))≤(a5.length:Int)))
  ((appI rq16.1.2.1 ((a5.drop ((IntKind.i64.wrap (rq16.1.1+1)).toNat)).take (a5.length-(IntKind.i64.wrap (rq16.1.1+1)).toNat))).bind fun xq17 =>
  cond (decide (0≤rq16.1.1∧rq16.1.1≤(a5.length:Int)∧rq16.1.1=rq16.1.1))
  ((appI (a5.take rq16.1.1.toNat) xq17).bind fun xq18 =>
  rec a0 xq18)
  none)
  none)
def wb2 (self_V36:T0) (L9:Y4→Y3→Int→Z0) (a0:Y4) (a5:Y3):Z0 :=
  (V34 big a5).bind fun rq11 =>
  L9 a0 a5 rq11.1
def y4 (self_V36:T0) (L19:T9) (a5:Y3):Z0 :=
  (qg a5 ()).bind fun rq12 =>
  (atI rq12.2.1 (IntKind.i64.wrap ((rq12.2.1.length:Int)-1))).bind fun _ =>
  (rq12.2.1[(IntKind.i64.wrap ((rq12.2.1.length:Int)-1)).toNat]?).bind fun xq13 =>
  L19 rq12.2.1 xq13 (IntKind.i64.wrap ((rq12.2.1.length:Int)-2))
def wb3 (self_V36:T0) (L8:T7) (w_0:Y4):Z0 :=
  (atI w_0 0).bind fun xq1 =>
  cond (decide (xq1=(-1:Int)))
  ((V29 big w_0).bind fun rq2 =>
  (self_V36 (rq2.1,())).bind fun rq3 =>
  (V29 big rq3.1).bind fun rq4 =>
  some (rq4.1,(())))
  (cond (decide (xq1=(-2:Int)))
  ((V30 w_0).bind fun rq5 =>
  (self_V36 (rq5.1.1,())).bind fun rq6 =>
  (self_V36 (rq5.1.2.1,())).bind fun rq7 =>
  (V31 (-2:Int) rq6.1 rq7.1).bind fun rq8 =>
  (R_V32 big (rq8.1,(-2:Int),())).bind fun rq9 =>
  L8 w_0 rq9.1)
  ((V28 w_0).bind fun rq10 =>
  some (rq10.1,(()))))
def wea (self_V36:T0) (N:Nat) (k:T7):=itN (fun r=>wd8 self_V36 r k) fun _ _ _=>none
def wby (self_V36:T0) (N:Nat) (rec:T7) (k:Y3→Z0):Y4→Y3→Int→Z0:=wea self_V36 N (zq self_V36 k rec) N
def wd9 (self_V36:T0) (N:Nat) (k:Y3→Z0):=itN (fun r=>wb2 self_V36 (wby self_V36 N r k)) fun _ _=>none
def wcu (self_V36:T0) (N:Nat) (k:Y4→Z0):=itN (fun r=>wct self_V36 r k) fun _ _ _=>none
def xm (self_V36:T0) (N:Nat):Y3→Y4→Int→Z0:=wcu self_V36 N (zp self_V36) N
def wbx (self_V36:T0) (N:Nat):Y4→Y3→Z0:=wd9 self_V36 N (y4 self_V36 (xm self_V36 N)) N
def V36 (self_V36:T0) (N:Nat) (w_0:Y4):Z0:=wb3 self_V36 (wbx self_V36 N) w_0
def A_V36 (self_V36:T0):Cfg:=winCfg (mkCfg tab [(32,S_V29),(21,T_V36 self_V36),(34,S_V30),(36,S_V31),(35,S_V32),(33,S_V28),(37,S_V34),(39,wt),(38,S_V35)] [(16,([B2]++dr 4 [.as Q4 O6])),(18,([B2]++dr 4 [.as Q4 O6,B0])),(25,([B2]++dr 4 [.as Q4 O6])),(33,(dr 5 [.as Q4 O6])),(38,(dr 5 ([.as Q4 O6]++dr 4 [B2,B0]))),(45,(dr 10 [B2]))])
noncomputable def y3 (self_V36:T0) (N n:Nat) (K:T10) (a0:Y4) (a5:Y3):Z0:=itr (A_V36 self_V36) N 16 Try.f21 [1,1,1,1,0,0,0] n (([W1 a0]++ud 4 [.val Q4 O6 a5])++us 87) K
noncomputable def was (self_V36:T0) (N n:Nat) (K:T10) (a0:Y4) (a5:Y3) (a6:Int):Z0:=itr (A_V36 self_V36) N 18 Try.f21 [1,1,1,1,0,0,0,0,0,1,0,0] n (([W1 a0]++ud 4 [.val Q4 O6 a5,W0 a6])++us 86) K
noncomputable def zo (self_V36:T0) (N n:Nat) (K:T10) (a5:Y3) (a10:Y4) (a11:Int):Z0:=itr (A_V36 self_V36) N 38 Try.f21 [1,1,1,1,1,1,1,0,1,0,0] n ((ud 5 ([.val Q4 O6 a5]++ud 4 [W1 a10,W0 a11]))++us 81) K
noncomputable def waa (self_V36:T0):Ex→St→Z0:=finish (A_V36 self_V36) (T_V36 self_V36) Try.f21.results.toList
noncomputable def wb1 (kX:T6) (a5:Y3):Z0:=kX ((ud 5 [.val Q4 O6 a5])++us 87)
noncomputable def zn (self_V36:T0) (kX:T6) (kO:T5):=exK (waa self_V36) 1 ((A_V36 self_V36).shape 33) kX kO
noncomputable def whb (kX:T6) (a0:Y4) (a5:Y3):Z0:=kX (([W1 a0]++ud 4 [.val Q4 O6 a5])++us 87)
noncomputable def wha (self_V36:T0) (kX:T6) (kO:T5):=exK (waa self_V36) 3 ((A_V36 self_V36).shape 25) kX kO
noncomputable def wff (kX:T6) (a10:Y4):Z0:=kX ((ud 10 [W1 a10])++us 82)
noncomputable def wfe (self_V36:T0) (kX:T6) (kO:T5):=exK (waa self_V36) 5 ((A_V36 self_V36).shape 45) kX kO
theorem whd (self_V36:T0) (N kX kO):∀n,was self_V36 N n (wha self_V36 kX kO)=wea self_V36 N (whb kX) n :=
 itE rfl fun m=>by kernel_rfl
noncomputable def wb0 (self_V36:T0) (N m:Nat) (kX:T6) (kO:T5):=(blockK 3 (sqK (A_V36 self_V36) N 25 500012 Try.f21 [1,1,1,1,0,0,0,0,1] (blockK 2 (itK (A_V36 self_V36) N 16 Try.f21 [1,1,1,1,0,0,0] m (zn self_V36 kX kO)))))
noncomputable def whf (self_V36:T0) (N m:Nat) (kX:T6) (kO:T5) (st':St):Z0:=rn (A_V36 self_V36) N Try.f21 [1,1,1,1,0,0,0,0,1] st' (blockK 2 (itK (A_V36 self_V36) N 16 Try.f21 [1,1,1,1,0,0,0] m (zn self_V36 kX kO)))
theorem wka (self_V36:T0) (N m kX kO) {r}(h:y3 self_V36 N m (zn self_V36 kX kO)=r):was self_V36 N N (wb0 self_V36 N m kX kO)=wby self_V36 N r (wb1 kX):=by
 rw[show was self_V36 N N (wb0 self_V36 N m kX kO)=was self_V36 N N (wha self_V36 (whf self_V36 N m kX kO) fun j=>(wb0 self_V36 N m kX kO) (.exit j)) from(by funext _ _ _;exact jlb),whd,show whb (whf self_V36 N m kX kO)=zq self_V36 (wb1 kX) (y3 self_V36 N m (zn self_V36 kX kO)) by kernel_rfl,h];rfl
theorem whc (self_V36:T0) (N kX kO):∀n,y3 self_V36 N n (zn self_V36 kX kO)=wd9 self_V36 N (wb1 kX) n :=
 itE rfl fun m=>(show _=wb2 self_V36 (was self_V36 N N (wb0 self_V36 N m kX kO)) by kernel_rfl).trans (by rw[wka self_V36 N m kX kO rfl]<;>rfl)
noncomputable def wbz (self_V36:T0) (N:Nat):=(blockK 1 (sqK (A_V36 self_V36) N 33 500016 Try.f21 [1,1,1,1,1] (waa self_V36)))
theorem wf1 (self_V36:T0) (N kX kO):∀n,zo self_V36 N n (wfe self_V36 kX kO)=wcu self_V36 N (wff kX) n :=
 itE rfl fun m=>by kernel_rfl
noncomputable def wa9 (self_V36:T0) (N:Nat):=(blockK 5 (sqK (A_V36 self_V36) N 45 500022 Try.f21 [1,1,1,1,1,1,1,1] (waa self_V36)))
noncomputable def wfg (self_V36:T0) (N:Nat) (st':St):Z0:=rn (A_V36 self_V36) N Try.f21 [1,1,1,1,1,1,1,1] st' (waa self_V36)
theorem wit (self_V36:T0) (N):zo self_V36 N N (wa9 self_V36 N)=xm self_V36 N:=by
 rw[show zo self_V36 N N (wa9 self_V36 N)=zo self_V36 N N (wfe self_V36 (wfg self_V36 N) fun j=>(wa9 self_V36 N) (.exit j)) from(by funext _ _ _;exact jlb),wf1,show wff (wfg self_V36 N)=zp self_V36 by kernel_rfl];rfl
noncomputable def whe (self_V36:T0) (N:Nat) (st':St):Z0:=rn (A_V36 self_V36) N Try.f21 [1,1,1,1,1] st' (waa self_V36)
theorem wj9 (self_V36:T0) (N):y3 self_V36 N N (wbz self_V36 N)=wbx self_V36 N:=by
 rw[show y3 self_V36 N N (wbz self_V36 N)=y3 self_V36 N N (zn self_V36 (whe self_V36 N) fun j=>(wbz self_V36 N) (.exit j)) from(by funext _ _;exact jlb),whc,show wb1 (whe self_V36 N)=y4 self_V36 (zo self_V36 N N (wa9 self_V36 N)) by kernel_rfl,wit self_V36 N];rfl
theorem run_V36 (self_V36:T0) (N:Nat) (x:((T_V36 self_V36)).a.den):runF (A_V36 self_V36) N Try.f21 (T_V36 self_V36) x=V36 self_V36 N x.1:=(show _=(wb3 self_V36 (y3 self_V36 N N (wbz self_V36 N)) x.1) by kernel_rfl).trans (by rw[wj9 self_V36 N];rfl)
theorem fn_V36:FnOk Try.prog 21:=⟨_,Try.func21,by kernel_rfl,by kernel_rfl⟩
def R_V36:Nat→Z6→Z0
  | 0,_=>none
  | d+1,x=>V36 (R_V36 d) big x.1
def S_V36:Sig:=T_V36 (R_V36 big)
theorem xx:∀d,Gx.Good Try.prog 21 (T_V36 (R_V36 d))
  | 0=>fun x r h=>by cases h
  | d+1=>ux Try.func21 (of_decide_eq_true (by kernel_rfl)) fun x r h=>⟨A_V36 (R_V36 d),big,winCfg_ok (uy tabOk),winCfg_sig (jeh (show SigsOk Try.prog [(32,S_V29),(21,T_V36 (R_V36 d)),(34,S_V30),(36,S_V31),(35,S_V32),(33,S_V28),(37,S_V34),(39,wt),(38,S_V35)] from⟨ok_V29,⟨fn_V36,xx d⟩,ok_V30,ok_V31,⟨fn_V32,good_V32⟩,ok_V28,ok_V34,⟨xr,xi⟩,ok_V35,trivial⟩)),(run_V36 (R_V36 d) big x).trans h⟩
theorem good_V36:Gx.Good Try.prog 21 S_V36:=xx big
def wf2 (w_0:Y4):Option ((Y4×(Bool×Unit))×Unit) :=
  (V15 w_0).bind fun rq1 =>
  cond (!rq1.1)
  (some (([],false,()),(())))
  ((R_V36 big (w_0,())).bind fun rq2 =>
  cond (decide (40<(rq2.1.length:Int)))
  (some (([],false,()),(())))
  (some ((rq2.1,true,()),(()))))
def V38 (w_0:Y4):Option ((Y4×(Bool×Unit))×Unit):=wf2 w_0
def S_V38:Sig:=⟨Q2,[0],[],.unit,(.tup (.pair Q1 (.pair .bool .unit))),.i,fun x=>V38 x.1⟩
def A_V38:Cfg:=mkCfg tab [(12,S_V15),(21,S_V36)] []
theorem run_V38 (N x):runF A_V38 N Try.f8 S_V38 x=V38 x.1:=by kernel_rfl
theorem ok_V38:OK 8 S_V38:=gdR (A:=A_V38) tc Try.func8 (jeh ⟨ok_V15,⟨fn_V36,good_V36⟩,trivial⟩) (run_V38 big)
def wjo (l_0:Y4):Z0 :=
  (appI [] l_0).bind fun xq1 =>
  some (xq1,(()))
def V39 (l_0:Y4):Z0:=wjo l_0
def S_V39:Sig:=⟨Q2,[0],[],.unit,Q1,O6,fun x=>V39 x.1⟩
def A_V39:Cfg:=mkCfg tab [] []
theorem run_V39 (N x):runF A_V39 N Try.f42 S_V39 x=V39 x.1:=by kernel_rfl
theorem ok_V39:OK 42 S_V39:=gdR (A:=A_V39) tc Try.func42 (jeh trivial) (run_V39 big)
def wed (rec:Y4→Y4→Int→Z0) (k:Y4→Z0) (a0 a3:Y4) (a4:Int):Z0 :=
  cond (decide (a4<(a0.length:Int)))
  ((atI a0 a4).bind fun xq1 =>
  cond (decide (xq1<0))
  ((atI a0 a4).bind fun xq2 =>
  (appI a3 [IntKind.i64.wrap ((-3:Int)-xq2)]).bind fun xq3 =>
  rec a0 xq3 (IntKind.i64.wrap (a4+1)))
  ((atI a0 a4).bind fun xq4 =>
  (appI a3 [xq4]).bind fun xq5 =>
  rec a0 xq5 (IntKind.i64.wrap (a4+1))))
  (k a3)
def wb6 (a3:Y4):Z0 :=
  some (a3,(()))
def wf3 (L3:Y4→Y4→Int→Z0) (w_0:Y4):Z0 :=
  L3 w_0 [] 0
def wat (N:Nat) (k:Y4→Z0):Nat→Y4→Y4→Int→Z0
  | 0,_,_,_=>none
  | m+1,a0,a3,a4=>wed (wat N k m) k a0 a3 a4
def web (N:Nat):=wat N (wb6) N
def V40 (N:Nat) (w_0:Y4):Z0:=wf3 (web N) w_0
def S_V40:Sig:=⟨Q2,[0],[],.unit,Q1,O6,fun x=>V40 big x.1⟩
def A_V40:Cfg:=mkCfg tab [] [(6,[B2,D0,D0,.as Q1 O6,B0]),(17,(dr 3 [.as Q1 O6]))]
noncomputable def y5 (N n:Nat) (K:T10) (a0 a3:Y4) (a4:Int):Z0:=itr A_V40 N 6 Try.f43 [1,1,0,1,0,0] n ([W1 a0,.u,.u,.val Q1 O6 a3,W0 a4]++us 28) K
noncomputable def wf4:Ex→St→Z0:=finish A_V40 S_V40 Try.f43.results.toList
noncomputable def wec (kX:T6) (a3:Y4):Z0:=kX ((ud 3 [.val Q1 O6 a3])++us 29)
noncomputable def wb4 (kX:T6) (kO:T5):=exK wf4 0 (A_V40.shape 17) kX kO
theorem wc4 (N kX kO):∀n,y5 N n (wb4 kX kO)=wat N (wec kX) n
 | 0=>rfl
 | m+1=>(show y5 N (m+1) (wb4 kX kO)=wed (y5 N m (wb4 kX kO)) (wec kX) by kernel_rfl).trans (by rw[wc4 N kX kO m];funext _ _ _;rfl)
noncomputable def wb5 (N:Nat):=(blockK 0 (sqK A_V40 N 17 500008 Try.f43 [1,1,1] wf4))
noncomputable def whg (N:Nat) (st':St):Z0:=rn A_V40 N Try.f43 [1,1,1] st' wf4
theorem wkc (N):y5 N N (wb5 N)=web N:=by
 rw[show y5 N N (wb5 N)=y5 N N (wb4 (whg N) fun j=>(wb5 N) (.exit j)) from(by funext _ _ _;exact jlb),wc4,show wec (whg N)=wb6 by kernel_rfl];rfl
theorem run_V40 (N x):runF A_V40 N Try.f43 S_V40 x=V40 N x.1:=(show _=(wf3 (y5 N N (wb5 N)) x.1) by kernel_rfl).trans (by rw[wkc N];rfl)
theorem ok_V40:OK 43 S_V40:=gdR (A:=A_V40) tc Try.func43 (jeh trivial) (run_V40 big)
def wjp (w_0:Y4):Option ((Y4×Z6)×Unit) :=
  (V10 big w_0 1).bind fun rq1 =>
  (slI w_0 1 rq1.1).bind fun xq2 =>
  (slI w_0 rq1.1 w_0.length).bind fun xq3 =>
  some ((xq2,xq3,()),(()))
def V41 (w_0:Y4):Option ((Y4×Z6)×Unit):=wjp w_0
def S_V41:Sig:=⟨Q2,[0],[],.unit,(.tup Q7),.i,fun x=>V41 x.1⟩
def A_V41:Cfg:=mkCfg tab [(41,S_V10)] []
theorem run_V41 (N x):runF A_V41 N Try.f44 S_V41 x=V41 x.1:=by kernel_rfl
theorem ok_V41:OK 44 S_V41:=gdR (A:=A_V41) tc Try.func44 (jeh ⟨ok_V10,trivial⟩) (run_V41 big)
def T_V42 (self:(Y4×Z2)→Option Y2):Sig:={ a:=(.pair Q1 (.pair I .unit)),md:=[0,0],mf:=[],m := .unit,r:=Q4,rf:=(.o O6),f:=self }
def wf5 (self_V42:(Y4×Z2)→Option Y2) (w_0:Y4) (sign_1:Int):Option Y2 :=
  (atI w_0 0).bind fun xq1 =>
  cond (decide (xq1≠sign_1))
  ((V39 w_0).bind fun rq2 =>
  some ([rq2.1],(())))
  ((V41 w_0).bind fun rq3 =>
  (self_V42 (rq3.1.1,sign_1,())).bind fun rq4 =>
  (self_V42 (rq3.1.2.1,sign_1,())).bind fun rq5 =>
  (appI rq4.1 rq5.1).bind fun xq6 =>
  some (xq6,(())))
def V42 (self_V42:(Y4×Z2)→Option Y2) (w_0:Y4) (sign_1:Int):Option Y2:=wf5 self_V42 w_0 sign_1
def A_V42 (self_V42:(Y4×Z2)→Option Y2):Cfg:=mkCfg tab [(42,S_V39),(44,S_V41),(45,T_V42 self_V42)] []
theorem run_V42 (self_V42:(Y4×Z2)→Option Y2) (N:Nat) (x:((T_V42 self_V42)).a.den):runF (A_V42 self_V42) N Try.f45 (T_V42 self_V42) x=V42 self_V42 x.1 x.2.1:=by kernel_rfl
theorem fn_V42:FnOk Try.prog 45:=⟨_,Try.func45,by kernel_rfl,by kernel_rfl⟩
def R_V42:Nat→(Y4×Z2)→Option Y2
  | 0,_=>none
  | d+1,x=>V42 (R_V42 d) x.1 x.2.1
def S_V42:Sig:=T_V42 (R_V42 big)
theorem xn:∀d,Gx.Good Try.prog 45 (T_V42 (R_V42 d))
  | 0=>fun x r h=>by cases h
  | d+1=>ux Try.func45 (of_decide_eq_true (by kernel_rfl)) fun x r h=>⟨A_V42 (R_V42 d),big,uy tabOk,jeh (show SigsOk Try.prog [(42,S_V39),(44,S_V41),(45,T_V42 (R_V42 d))] from⟨ok_V39,ok_V41,⟨fn_V42,xn d⟩,trivial⟩),(run_V42 (R_V42 d) big x).trans h⟩
theorem good_V42:Gx.Good Try.prog 45 S_V42:=xn big
def yi (rec:Y3→Int→Int→Option Z2) (k:Y3→Int→Option Z2) (a0:Y3) (a3 a4:Int):Option Z2 :=
  cond (decide (a4<(a0.length:Int)))
  (cond (decide (a3≠a4))
  ((atI a0 a3).bind fun xq1 =>
  (atI a0 a4).bind fun xq2 =>
  (V26 xq1 xq2).bind fun rq3 =>
  cond rq3.1
  (cond (decide (a4<a3))
  (some (a3,(())))
  ((atI a0 a4).bind fun xq4 =>
  (atI a0 a3).bind fun xq5 =>
  (V26 xq4 xq5).bind fun rq6 =>
  cond (!rq6.1)
  (some (a3,(())))
  (rec a0 a3 (IntKind.i64.wrap (a4+1)))))
  (rec a0 a3 (IntKind.i64.wrap (a4+1))))
  (rec a0 a3 (IntKind.i64.wrap (a4+1))))
  (k a0 a3)
def zt (rec:Y3→Int→Option Z2) (a0:Y3) (a3:Int):Option Z2 :=
  rec a0 (IntKind.i64.wrap (a3+1))
def yh (L5:Y3→Int→Int→Option Z2) (k:Option Z2) (a0:Y3) (a3:Int):Option Z2 :=
  cond (decide (a3<(a0.length:Int)))
  (L5 a0 a3 0)
  (k)
def yg:Option Z2 :=
  some ((-1:Int),(()))
def wdf (L2:Y3→Int→Option Z2) (m_0:Y3):Option Z2 :=
  L2 m_0 0
def weg (N:Nat) (k:Y3→Int→Option Z2):=itN (fun r=>yi r k) fun _ _ _=>none
def y6 (N:Nat) (rec:Y3→Int→Option Z2) (k:Option Z2):=weg N (zt rec) N
def wef (N:Nat) (k:Option Z2):=itN (fun r=>yh (y6 N r k) k) fun _ _=>none
def wee (N:Nat):=wef N (yg) N
def V44 (N:Nat) (m_0:Y3):Option Z2:=wdf (wee N) m_0
def S_V44:Sig:=⟨(.pair Q4 .unit),[0],[],.unit,I,.i,fun x=>V44 big x.1⟩
def A_V44:Cfg:=mkCfg tab [(20,S_V26)] [(4,[B1,D0,D0,B0]),(10,[B1,D0,D0,B0,B0]),(19,[]),(7,[B1,D0,D0,B0])]
noncomputable def y7 (N n:Nat) (K:Ex→St→Option Z2) (a0:Y3) (a3:Int):Option Z2:=itr A_V44 N 4 Try.f46 [1,0,1,0,0] n ([W2 a0,.u,.u,W0 a3]++us 45) K
noncomputable def wau (N n:Nat) (K:Ex→St→Option Z2) (a0:Y3) (a3 a4:Int):Option Z2:=itr A_V44 N 10 Try.f46 [1,0,1,0,0,1,0,0,1,0,0] n ([W2 a0,.u,.u,W0 a3,W0 a4]++us 44) K
noncomputable def wdg:Ex→St→Option Z2:=finish A_V44 S_V44 Try.f46.results.toList
noncomputable def wb9 (kX:St→Option Z2):Option Z2:=kX ([]++us 49)
noncomputable def zr (kX:St→Option Z2) (kO:Nat→St→Option Z2):Ex→St→Option Z2:=exK wdg 0 (A_V44.shape 19) kX kO
noncomputable def whi (kX:St→Option Z2) (a0:Y3) (a3:Int):Option Z2:=kX ([W2 a0,.u,.u,W0 a3]++us 45)
noncomputable def whh (kX:St→Option Z2) (kO:Nat→St→Option Z2):Ex→St→Option Z2:=exK wdg 2 (A_V44.shape 7) kX kO
theorem whm (N kX kO):∀n,wau N n (whh kX kO)=weg N (whi kX) n :=
 itE rfl fun m=>by kernel_rfl
noncomputable def wb8 (N m:Nat) (kX:St→Option Z2) (kO:Nat→St→Option Z2):Ex→St→Option Z2:=(blockK 2 (blockK 1 (sqK A_V44 N 7 500003 Try.f46 [1,0,1,0,0,1,1] (itK A_V44 N 4 Try.f46 [1,0,1,0,0] m (zr kX kO)))))
noncomputable def who (N m:Nat) (kX:St→Option Z2) (kO:Nat→St→Option Z2) (st':St):Option Z2:=rn A_V44 N Try.f46 [1,0,1,0,0,1,1] st' (itK A_V44 N 4 Try.f46 [1,0,1,0,0] m (zr kX kO))
theorem wke (N m kX kO) {r}(h:y7 N m (zr kX kO)=r):wau N N (wb8 N m kX kO)=y6 N r (wb9 kX):=by
 rw[show wau N N (wb8 N m kX kO)=wau N N (whh (who N m kX kO) fun j=>(wb8 N m kX kO) (.exit j)) from(by funext _ _ _;exact jlb),whm,show whi (who N m kX kO)=zt (y7 N m (zr kX kO)) by kernel_rfl,h];rfl
theorem whl (N kX kO):∀n,y7 N n (zr kX kO)=wef N (wb9 kX) n :=
 itE rfl fun m=>(show _=yh (wau N N (wb8 N m kX kO)) (wb9 kX) by kernel_rfl).trans (by rw[wke N m kX kO rfl]<;>rfl)
noncomputable def wb7 (N:Nat):Ex→St→Option Z2:=(blockK 0 (sqK A_V44 N 19 500009 Try.f46 [1,1] wdg))
noncomputable def whn (N:Nat) (st':St):Option Z2:=rn A_V44 N Try.f46 [1,1] st' wdg
theorem wkd (N):y7 N N (wb7 N)=wee N:=by
 rw[show y7 N N (wb7 N)=y7 N N (zr (whn N) fun j=>(wb7 N) (.exit j)) from(by funext _ _;exact jlb),whl,show wb9 (whn N)=yg by kernel_rfl];rfl
theorem run_V44 (N x):runF A_V44 N Try.f46 S_V44 x=V44 N x.1:=(show _=(wdf (y7 N N (wb7 N)) x.1) by kernel_rfl).trans (by rw[wkd N];rfl)
theorem ok_V44:OK 46 S_V44:=gdR (A:=A_V44) tc Try.func46 (jeh ⟨ok_V26,trivial⟩) (run_V44 big)
def y9 (rec:T8) (k:T3) (a0:Y3) (a1:Y4) (a6:Int) (a7:Y3) (a8:Int):Z7 :=
  cond (decide (a8<(a7.length:Int)))
  ((atI a7 a8).bind fun xq5 =>
  (V26 xq5 a1).bind fun rq6 =>
  cond rq6.1
  ((atI a7 a8).bind fun xq7 =>
  some ((a6,xq7,()),(())))
  (rec a0 a1 a6 a7 (IntKind.i64.wrap (a8+1))))
  (k a0 a1 a6)
def zu (rec:T3) (a0:Y3) (a1:Y4) (a6:Int):Z7 :=
  rec a0 a1 (IntKind.i64.wrap (a6+1))
def yl (rec:T3) (L7:T8) (k:Z7) (a0:Y3) (a1:Y4) (a6:Int):Z7 :=
  cond (decide (a6<(a0.length:Int)))
  ((atI a0 a6).bind fun xq1 =>
  (atI xq1 0).bind fun xq2 =>
  cond (decide (xq2≠(-1:Int)))
  (rec a0 a1 (IntKind.i64.wrap (a6+1)))
  ((atI a0 a6).bind fun xq3 =>
  (R_V42 big (xq3,(-1:Int),())).bind fun rq4 =>
  L7 a0 a1 a6 rq4.1 0))
  (k)
def xh:Z7 :=
  some (((-1:Int),[],()),(()))
def wdh (L2:T3) (m_0:Y3) (whole_1:Y4):Z7 :=
  L2 m_0 whole_1 0
def wej (N:Nat) (k:T3):=itN (fun r=>y9 r k) fun _ _ _ _ _=>none
def yj (N:Nat) (rec:T3) (k:Z7):=wej N (zu rec) N
def wei (N:Nat) (k:Z7):=itN (fun r=>yl r (yj N r k) k) fun _ _ _=>none
def weh (N:Nat):=wei N (xh) N
def V45 (N:Nat) (m_0:Y3) (whole_1:Y4):Z7:=wdh (weh N) m_0 whole_1
def S_V45:Sig:=⟨(.pair Q4 Q2),[0,0],[],.unit,(.tup (.pair I Q2)),.i,fun x=>V45 big x.1 x.2.1⟩
def A_V45:Cfg:=mkCfg tab [(45,S_V42),(20,S_V26)] [(4,([B1,B2]++dr 4 [B0])),(14,([B1,B2]++dr 4 [B0,B1,B0])),(23,[]),(21,([B1,B2]++dr 4 ([B0,B1,B0]++dr 29 [.as .bool .i]))),(7,([B1,B2]++dr 4 [B0]))]
noncomputable def yk (N n:Nat) (K:Ex→St→Z7) (a0:Y3) (a1:Y4) (a6:Int):Z7:=itr A_V45 N 4 Try.f47 [1,0,1,0,0] n (([W2 a0,W1 a1]++ud 4 [W0 a6])++us 38) K
noncomputable def wav (N n:Nat) (K:Ex→St→Z7) (a0:Y3) (a1:Y4) (a6:Int) (a7:Y3) (a8:Int):Z7:=itr A_V45 N 14 Try.f47 [1,0,1,0,0,1,0,0,1,1,1,0,0] n (([W2 a0,W1 a1]++ud 4 [W0 a6,W2 a7,W0 a8])++us 36) K
noncomputable def wdi:Ex→St→Z7:=finish A_V45 S_V45 Try.f47.results.toList
noncomputable def wcc (kX:St→Z7):Z7:=kX ([]++us 45)
noncomputable def y8 (kX:St→Z7) (kO:Nat→St→Z7):=exK wdi 0 (A_V45.shape 23) kX kO
noncomputable def whq (kX:St→Z7) (a0:Y3) (a1:Y4) (a6:Int):Z7:=kX (([W2 a0,W1 a1]++ud 4 [W0 a6])++us 38)
noncomputable def whp (kX:St→Z7) (kO:Nat→St→Z7):=exK wdi 2 (A_V45.shape 7) kX kO
theorem whu (N kX kO):∀n,wav N n (whp kX kO)=wej N (whq kX) n :=
 itE rfl fun m=>by kernel_rfl
noncomputable def wcb (N m:Nat) (kX:St→Z7) (kO:Nat→St→Z7):=(blockK 2 (blockK 1 (sqK A_V45 N 7 500003 Try.f47 [1,0,1,0,0,1,1] (itK A_V45 N 4 Try.f47 [1,0,1,0,0] m (y8 kX kO)))))
noncomputable def whw (N m:Nat) (kX:St→Z7) (kO:Nat→St→Z7) (st':St):Z7:=rn A_V45 N Try.f47 [1,0,1,0,0,1,1] st' (itK A_V45 N 4 Try.f47 [1,0,1,0,0] m (y8 kX kO))
theorem wkg (N m kX kO) {r}(h:yk N m (y8 kX kO)=r):wav N N (wcb N m kX kO)=yj N r (wcc kX):=by
 rw[show wav N N (wcb N m kX kO)=wav N N (whp (whw N m kX kO) fun j=>(wcb N m kX kO) (.exit j)) from(by funext _ _ _ _ _;exact jlb),whu,show whq (whw N m kX kO)=zu (yk N m (y8 kX kO)) by kernel_rfl,h];rfl
theorem wht (N kX kO):∀n,yk N n (y8 kX kO)=wei N (wcc kX) n :=
 itE rfl fun m=>(show _=yl (yk N m (y8 kX kO)) (wav N N (wcb N m kX kO)) (wcc kX) by kernel_rfl).trans (by rw[wkg N m kX kO rfl]<;>rfl)
noncomputable def wca (N:Nat):=(blockK 0 (sqK A_V45 N 23 500011 Try.f47 [1,1] wdi))
noncomputable def whv (N:Nat) (st':St):Z7:=rn A_V45 N Try.f47 [1,1] st' wdi
theorem wkf (N):yk N N (wca N)=weh N:=by
 rw[show yk N N (wca N)=yk N N (y8 (whv N) fun j=>(wca N) (.exit j)) from(by funext _ _ _;exact jlb),wht,show wcc (whv N)=xh by kernel_rfl];rfl
theorem run_V45 (N x):runF A_V45 N Try.f47 S_V45 x=V45 N x.1 x.2.1:=(show _=(wdh (yk N N (wca N)) x.1 x.2.1) by kernel_rfl).trans (by rw[wkf N];rfl)
theorem ok_V45:OK 47 S_V45:=gdR (A:=A_V45) tc Try.func47 (jeh ⟨⟨fn_V42,good_V42⟩,ok_V26,trivial⟩) (run_V45 big)
def wax (rec:T4) (k:Z4) (a0 a1:Y4) (a5:Int):Z4 :=
  cond (decide (a5<(a0.length:Int)))
  ((atI a0 a5).bind fun xq1 =>
  (atI a1 a5).bind fun xq2 =>
  cond (decide (xq1≠xq2))
  ((atI a0 a5).bind fun xq3 =>
  (atI a1 a5).bind fun xq4 =>
  some (decide (xq3<xq4),(())))
  (rec a0 a1 (IntKind.i64.wrap (a5+1))))
  (k)
def zv:Z4 :=
  some (false,(()))
def wf6 (L2:T4) (a_0 b_1:Y4):Z4 :=
  L2 a_0 b_1 0
def wel (N:Nat) (k:Z4):=itN (fun r=>wax r k) fun _ _ _=>none
def wek (N:Nat):=wel N (zv) N
def V46 (N:Nat) (a_0 b_1:Y4):Z4:=wf6 (wek N) a_0 b_1
def S_V46:Sig:=⟨Q7,[0,0],[],.unit,.bool,.i,fun x=>V46 big x.1 x.2.1⟩
def A_V46:Cfg:=mkCfg tab [] [(4,([B2,B2]++dr 3 [B0])),(13,[])]
noncomputable def waw (N n:Nat) (K:Ex→St→Z4) (a0 a1:Y4) (a5:Int):Z4:=itr A_V46 N 4 Try.f56 [1,0,1,0,0] n (([W1 a0,W1 a1]++ud 3 [W0 a5])++us 24) K
noncomputable def wf7:Ex→St→Z4:=finish A_V46 S_V46 Try.f56.results.toList
noncomputable def why (kX:St→Z4):Z4:=kX ([]++us 30)
noncomputable def whx (kX:St→Z4) (kO:Nat→St→Z4):=exK wf7 0 (A_V46.shape 13) kX kO
theorem whz (N kX kO):∀n,waw N n (whx kX kO)=wel N (why kX) n :=
 itE rfl fun m=>by kernel_rfl
noncomputable def wcd (N:Nat):=(blockK 0 (sqK A_V46 N 13 500006 Try.f56 [1,1] wf7))
noncomputable def wh0 (N:Nat) (st':St):Z4:=rn A_V46 N Try.f56 [1,1] st' wf7
theorem wkh (N):waw N N (wcd N)=wek N:=by
 rw[show waw N N (wcd N)=waw N N (whx (wh0 N) fun j=>(wcd N) (.exit j)) from(by funext _ _ _;exact jlb),whz,show why (wh0 N)=zv by kernel_rfl];rfl
theorem run_V46 (N x):runF A_V46 N Try.f56 S_V46 x=V46 N x.1 x.2.1:=(show _=(wf6 (waw N N (wcd N)) x.1 x.2.1) by kernel_rfl).trans (by rw[wkh N];rfl)
theorem ok_V46:OK 56 S_V46:=gdR (A:=A_V46) tc Try.func56 (jeh trivial) (run_V46 big)
def wen (rec k:Y3→Y4→Int→Option Y2) (a0:Y3) (a1:Y4) (a5:Int):Option Y2 :=
  cond (decide (0<a5))
  ((atI a0 (IntKind.i64.wrap (a5-1))).bind fun xq1 =>
  cond (decide ((a1.length:Int)<(xq1.length:Int)))
  (rec a0 a1 (IntKind.i64.wrap (a5-1)))
  ((atI a0 (IntKind.i64.wrap (a5-1))).bind fun xq2 =>
  cond (decide ((a1.length:Int)=(xq2.length:Int)))
  ((atI a0 (IntKind.i64.wrap (a5-1))).bind fun xq3 =>
  (V46 big a1 xq3).bind fun rq4 =>
  cond rq4.1
  (rec a0 a1 (IntKind.i64.wrap (a5-1)))
  (k a0 a1 a5))
  (k a0 a1 a5)))
  (k a0 a1 a5)
def za (a0:Y3) (a1:Y4) (a5:Int):Option Y2 :=
  (slI a0 0 a5).bind fun xq5 =>
  (appI [] xq5).bind fun xq6 =>
  (appI xq6 [a1]).bind fun xq7 =>
  (slI a0 a5 a0.length).bind fun xq8 =>
  (appI xq7 xq8).bind fun xq9 =>
  some (xq9,(()))
def wf8 (L2:Y3→Y4→Int→Option Y2) (lists_0:Y3) (l_1:Y4):Option Y2 :=
  L2 lists_0 l_1 (lists_0.length:Int)
def weo (N:Nat) (k:Y3→Y4→Int→Option Y2):=itN (fun r=>wen r k) fun _ _ _=>none
def wem (N:Nat):=weo N (za) N
def V47 (N:Nat) (lists_0:Y3) (l_1:Y4):Option Y2:=wf8 (wem N) lists_0 l_1
def S_V47:Sig:=⟨(.pair Q4 Q2),[0,0],[],.unit,Q4,.i,fun x=>V47 big x.1 x.2.1⟩
def A_V47:Cfg:=mkCfg tab [(56,S_V46)] [(4,([B1,B2]++dr 3 [B0])),(9,([B1,B2]++dr 3 [B0]))]
noncomputable def way (N n:Nat) (K:Ex→St→Option Y2) (a0:Y3) (a1:Y4) (a5:Int):Option Y2:=itr A_V47 N 4 Try.f48 [1,1,0,0,0] n (([W2 a0,W1 a1]++ud 3 [W0 a5])++us 49) K
noncomputable def wf9:Ex→St→Option Y2:=finish A_V47 S_V47 Try.f48.results.toList
noncomputable def wh2 (kX:St→Option Y2) (a0:Y3) (a1:Y4) (a5:Int):Option Y2:=kX (([W2 a0,W1 a1]++ud 3 [W0 a5])++us 49)
noncomputable def wh1 (kX:St→Option Y2) (kO:Nat→St→Option Y2):Ex→St→Option Y2:=exK wf9 0 (A_V47.shape 9) kX kO
theorem wh3 (N kX kO):∀n,way N n (wh1 kX kO)=weo N (wh2 kX) n :=
 itE rfl fun m=>by kernel_rfl
noncomputable def wce (N:Nat):Ex→St→Option Y2:=(blockK 0 (sqK A_V47 N 9 500004 Try.f48 [1,1,1] wf9))
noncomputable def wh4 (N:Nat) (st':St):Option Y2:=rn A_V47 N Try.f48 [1,1,1] st' wf9
theorem wki (N):way N N (wce N)=wem N:=by
 rw[show way N N (wce N)=way N N (wh1 (wh4 N) fun j=>(wce N) (.exit j)) from(by funext _ _ _;exact jlb),wh3,show wh2 (wh4 N)=za by kernel_rfl];rfl
theorem run_V47 (N x):runF A_V47 N Try.f48 S_V47 x=V47 N x.1 x.2.1:=(show _=(wf8 (way N N (wce N)) x.1 x.2.1) by kernel_rfl).trans (by rw[wki N];rfl)
theorem ok_V47:OK 48 S_V47:=gdR (A:=A_V47) tc Try.func48 (jeh ⟨ok_V46,trivial⟩) (run_V47 big)
def T_V48 (self:T0):Sig:={ a:=Q2,md:=[0],mf:=[],m := .unit,r:=Q1,rf := .i,f:=self }
def wcv (self_V48:T0) (rec:T9) (k:Y4→Z0) (a9:Y3) (a11:Y4) (a12:Int):Z0 :=
  cond (decide (0≤a12))
  ((atI a9 a12).bind fun xq28 =>
  (V5 (-2:Int) xq28 a11).bind fun rq29 =>
  rec a9 rq29.1 (IntKind.i64.wrap (a12-1)))
  (k a11)
def zy (self_V48:T0) (a11:Y4):Z0 :=
  some (a11,(()))
def zz (self_V48:T0) (rec:T13) (k:Y3→Z0) (a5 a9:Y3) (a10:Int):Z0 :=
  cond (decide (a10<(a5.length:Int)))
  ((atI a5 a10).bind fun xq25 =>
  (V47 big a9 xq25).bind fun rq26 =>
  rec a5 rq26.1 (IntKind.i64.wrap (a10+1)))
  (k a9)
def yp (self_V48:T0) (L20:T9) (a9:Y3):Z0 :=
  (atI a9 (IntKind.i64.wrap ((a9.length:Int)-1))).bind fun xq27 =>
  L20 a9 xq27 (IntKind.i64.wrap ((a9.length:Int)-2))
def wep (self_V48:T0) (rec:T7) (k:Y3→Z0) (a0:Y4) (a5:Y3):Z0 :=
  (V44 big a5).bind fun rq13 =>
  cond (decide (0≤rq13.1))
  ((slI a5 0 rq13.1).bind fun xq14 =>
  (appI [] xq14).bind fun xq15 =>
  (slI a5 (IntKind.i64.wrap (rq13.1+1)) a5.length).bind fun xq16 =>
  (appI xq15 xq16).bind fun xq17 =>
  rec a0 xq17)
  ((V45 big a5 a0).bind fun rq18 =>
  cond (decide (rq18.1.1<0))
  (k a5)
  ((slI a5 0 rq18.1.1).bind fun xq19 =>
  (appI [] xq19).bind fun xq20 =>
  (R_V42 big (rq18.1.2.1,(-2:Int),())).bind fun rq21 =>
  (appI xq20 rq21.1).bind fun xq22 =>
  (slI a5 (IntKind.i64.wrap (rq18.1.1+1)) a5.length).bind fun xq23 =>
  (appI xq22 xq23).bind fun xq24 =>
  rec a0 xq24))
def zb (self_V48:T0) (L15:T13) (a5:Y3):Z0 :=
  L15 a5 [] 0
def wch (self_V48:T0) (L7:T7) (w_0:Y4):Z0 :=
  (atI w_0 0).bind fun xq1 =>
  cond (decide (0≤xq1))
  ((V39 w_0).bind fun rq2 =>
  some (rq2.1,(())))
  ((atI w_0 0).bind fun xq3 =>
  cond (decide (xq3=(-1:Int)))
  ((V40 big w_0).bind fun rq4 =>
  (self_V48 (rq4.1,())).bind fun rq5 =>
  (V40 big rq5.1).bind fun rq6 =>
  some (rq6.1,(())))
  ((V41 w_0).bind fun rq7 =>
  (self_V48 (rq7.1.1,())).bind fun rq8 =>
  (R_V42 big (rq8.1,(-2:Int),())).bind fun rq9 =>
  (self_V48 (rq7.1.2.1,())).bind fun rq10 =>
  (R_V42 big (rq10.1,(-2:Int),())).bind fun rq11 =>
  (appI rq9.1 rq11.1).bind fun xq12 =>
  L7 w_0 xq12))
def weq (self_V48:T0) (N:Nat) (k:Y3→Z0):=itN (fun r=>wep self_V48 r k) fun _ _=>none
def wcw (self_V48:T0) (N:Nat) (k:Y3→Z0):=itN (fun r=>zz self_V48 r k) fun _ _ _=>none
def wcx (self_V48:T0) (N:Nat) (k:Y4→Z0):=itN (fun r=>wcv self_V48 r k) fun _ _ _=>none
def x6 (self_V48:T0) (N:Nat):Y3→Y4→Int→Z0:=wcx self_V48 N (zy self_V48) N
def x5 (self_V48:T0) (N:Nat):Y3→Y3→Int→Z0:=wcw self_V48 N (yp self_V48 (x6 self_V48 N)) N
def wcf (self_V48:T0) (N:Nat):Y4→Y3→Z0:=weq self_V48 N (zb self_V48 (x5 self_V48 N)) N
def V48 (self_V48:T0) (N:Nat) (w_0:Y4):Z0:=wch self_V48 (wcf self_V48 N) w_0
def A_V48 (self_V48:T0):Cfg:=mkCfg tab [(42,S_V39),(43,S_V40),(24,T_V48 self_V48),(44,S_V41),(45,S_V42),(46,S_V44),(47,S_V45),(48,S_V47),(17,S_V5)] [(14,([B2]++dr 4 [.as Q4 O6])),(19,([B2]++dr 4 ([B1,B0]++dr 35 [.as .bool .i]))),(27,(dr 5 [B1])),(30,(dr 5 ([B1]++dr 3 [B1,B0]))),(37,(dr 9 [B1])),(40,(dr 9 [B1,D0,B2,B0])),(47,(dr 11 [B2]))]
noncomputable def waz (self_V48:T0) (N n:Nat) (K:T10) (a0:Y4) (a5:Y3):Z0:=itr (A_V48 self_V48) N 14 Try.f24 [1,1,1,1,1,0,0,0] n (([W1 a0]++ud 4 [.val Q4 O6 a5])++us 101) K
noncomputable def zw (self_V48:T0) (N n:Nat) (K:T10) (a5 a9:Y3) (a10:Int):Z0:=itr (A_V48 self_V48) N 30 Try.f24 [1,1,1,1,1,1,1,0,1,0,0] n ((ud 5 ([W2 a5]++ud 3 [W2 a9,W0 a10]))++us 96) K
noncomputable def zx (self_V48:T0) (N n:Nat) (K:T10) (a9:Y3) (a11:Y4) (a12:Int):Z0:=itr (A_V48 self_V48) N 40 Try.f24 [1,1,1,1,1,1,1,1,1,0,1,0,0] n ((ud 9 [W2 a9,.u,W1 a11,W0 a12])++us 94) K
noncomputable def yo (self_V48:T0):Ex→St→Z0:=finish (A_V48 self_V48) (T_V48 self_V48) Try.f24.results.toList
noncomputable def wh6 (kX:T6) (a5:Y3):Z0:=kX ((ud 5 [W2 a5])++us 101)
noncomputable def wh5 (self_V48:T0) (kX:T6) (kO:T5):=exK (yo self_V48) 0 ((A_V48 self_V48).shape 27) kX kO
noncomputable def wfj (kX:T6) (a9:Y3):Z0:=kX ((ud 9 [W2 a9])++us 97)
noncomputable def wfh (self_V48:T0) (kX:T6) (kO:T5):=exK (yo self_V48) 2 ((A_V48 self_V48).shape 37) kX kO
noncomputable def wfk (kX:T6) (a11:Y4):Z0:=kX ((ud 11 [W1 a11])++us 95)
noncomputable def wfi (self_V48:T0) (kX:T6) (kO:T5):=exK (yo self_V48) 4 ((A_V48 self_V48).shape 47) kX kO
theorem wh7 (self_V48:T0) (N kX kO):∀n,waz self_V48 N n (wh5 self_V48 kX kO)=weq self_V48 N (wh6 kX) n :=
 itE rfl fun m=>by kernel_rfl
noncomputable def wcg (self_V48:T0) (N:Nat):=(blockK 0 (sqK (A_V48 self_V48) N 27 500013 Try.f24 [1,1,1,1,1,1] (yo self_V48)))
theorem wga (self_V48:T0) (N kX kO):∀n,zw self_V48 N n (wfh self_V48 kX kO)=wcw self_V48 N (wfj kX) n :=
 itE rfl fun m=>by kernel_rfl
noncomputable def wba (self_V48:T0) (N:Nat):=(blockK 2 (sqK (A_V48 self_V48) N 37 500018 Try.f24 [1,1,1,1,1,1,1,1] (yo self_V48)))
theorem wgb (self_V48:T0) (N kX kO):∀n,zx self_V48 N n (wfi self_V48 kX kO)=wcx self_V48 N (wfk kX) n :=
 itE rfl fun m=>by kernel_rfl
noncomputable def wbb (self_V48:T0) (N:Nat):=(blockK 4 (sqK (A_V48 self_V48) N 47 500023 Try.f24 [1,1,1,1,1,1,1,1,1,1] (yo self_V48)))
noncomputable def wfm (self_V48:T0) (N:Nat) (st':St):Z0:=rn (A_V48 self_V48) N Try.f24 [1,1,1,1,1,1,1,1,1,1] st' (yo self_V48)
theorem wiv (self_V48:T0) (N):zx self_V48 N N (wbb self_V48 N)=x6 self_V48 N:=by
 rw[show zx self_V48 N N (wbb self_V48 N)=zx self_V48 N N (wfi self_V48 (wfm self_V48 N) fun j=>(wbb self_V48 N) (.exit j)) from(by funext _ _ _;exact jlb),wgb,show wfk (wfm self_V48 N)=zy self_V48 by kernel_rfl];rfl
noncomputable def wfl (self_V48:T0) (N:Nat) (st':St):Z0:=rn (A_V48 self_V48) N Try.f24 [1,1,1,1,1,1,1,1] st' (yo self_V48)
theorem wiu (self_V48:T0) (N):zw self_V48 N N (wba self_V48 N)=x5 self_V48 N:=by
 rw[show zw self_V48 N N (wba self_V48 N)=zw self_V48 N N (wfh self_V48 (wfl self_V48 N) fun j=>(wba self_V48 N) (.exit j)) from(by funext _ _ _;exact jlb),wga,show wfj (wfl self_V48 N)=yp self_V48 (zx self_V48 N N (wbb self_V48 N)) by kernel_rfl,wiv self_V48 N];rfl
noncomputable def wh8 (self_V48:T0) (N:Nat) (st':St):Z0:=rn (A_V48 self_V48) N Try.f24 [1,1,1,1,1,1] st' (yo self_V48)
theorem wkk (self_V48:T0) (N):waz self_V48 N N (wcg self_V48 N)=wcf self_V48 N:=by
 rw[show waz self_V48 N N (wcg self_V48 N)=waz self_V48 N N (wh5 self_V48 (wh8 self_V48 N) fun j=>(wcg self_V48 N) (.exit j)) from(by funext _ _;exact jlb),wh7,show wh6 (wh8 self_V48 N)=zb self_V48 (zw self_V48 N N (wba self_V48 N)) by kernel_rfl,wiu self_V48 N];rfl
theorem run_V48 (self_V48:T0) (N:Nat) (x:((T_V48 self_V48)).a.den):runF (A_V48 self_V48) N Try.f24 (T_V48 self_V48) x=V48 self_V48 N x.1:=(show _=(wch self_V48 (waz self_V48 N N (wcg self_V48 N)) x.1) by kernel_rfl).trans (by rw[wkk self_V48 N];rfl)
theorem fn_V48:FnOk Try.prog 24:=⟨_,Try.func24,by kernel_rfl,by kernel_rfl⟩
def R_V48:Nat→Z6→Z0
  | 0,_=>none
  | d+1,x=>V48 (R_V48 d) big x.1
def S_V48:Sig:=T_V48 (R_V48 big)
theorem x4:∀d,Gx.Good Try.prog 24 (T_V48 (R_V48 d))
  | 0=>fun x r h=>by cases h
  | d+1=>ux Try.func24 (of_decide_eq_true (by kernel_rfl)) fun x r h=>⟨A_V48 (R_V48 d),big,uy tabOk,jeh (show SigsOk Try.prog [(42,S_V39),(43,S_V40),(24,T_V48 (R_V48 d)),(44,S_V41),(45,S_V42),(46,S_V44),(47,S_V45),(48,S_V47),(17,S_V5)] from⟨ok_V39,ok_V40,⟨fn_V48,x4 d⟩,ok_V41,⟨fn_V42,good_V42⟩,ok_V44,ok_V45,ok_V47,ok_V5,trivial⟩),(run_V48 (R_V48 d) big x).trans h⟩
theorem good_V48:Gx.Good Try.prog 24 S_V48:=x4 big
def wjq (w_0:Y4):Option ((Y4×(Bool×Unit))×Unit) :=
  (V11 w_0).bind fun rq1 =>
  cond (!rq1.1)
  (some (([],false,()),(())))
  (some ((w_0,true,()),(())))
def V50 (w_0:Y4):Option ((Y4×(Bool×Unit))×Unit):=wjq w_0
def S_V50:Sig:=⟨Q2,[0],[],.unit,(.tup (.pair Q1 (.pair .bool .unit))),.i,fun x=>V50 x.1⟩
def A_V50:Cfg:=mkCfg tab [(22,S_V11)] []
theorem run_V50 (N x):runF A_V50 N Try.f23 S_V50 x=V50 x.1:=by kernel_rfl
theorem ok_V50:OK 23 S_V50:=gdR (A:=A_V50) tc Try.func23 (jeh ⟨ok_V11,trivial⟩) (run_V50 big)
def wgc (w_0:Y4):Option ((Y4×(Bool×Unit))×Unit) :=
  (V11 w_0).bind fun rq1 =>
  cond (!rq1.1)
  (some (([],false,()),(())))
  ((R_V48 big (w_0,())).bind fun rq2 =>
  (V50 rq2.1).bind fun rq3 =>
  some ((rq3.1.1,rq3.1.2.1,()),(())))
def V51 (w_0:Y4):Option ((Y4×(Bool×Unit))×Unit):=wgc w_0
def S_V51:Sig:=⟨Q2,[0],[],.unit,(.tup (.pair Q1 (.pair .bool .unit))),.i,fun x=>V51 x.1⟩
def A_V51:Cfg:=mkCfg tab [(22,S_V11),(24,S_V48),(23,S_V50)] []
theorem run_V51 (N x):runF A_V51 N Try.f9 S_V51 x=V51 x.1:=by kernel_rfl
theorem ok_V51:OK 9 S_V51:=gdR (A:=A_V51) tc Try.func9 (jeh ⟨ok_V11,⟨fn_V48,good_V48⟩,ok_V50,trivial⟩) (run_V51 big)
def wa1 (rec:T4) (k:Z4) (a0 a1:Y4) (a5:Int):Z4 :=
  cond (decide (a5<(a0.length:Int)))
  ((atI a0 a5).bind fun xq1 =>
  (atI a1 a5).bind fun xq2 =>
  cond (decide (xq1≠xq2))
  (some (false,(())))
  (rec a0 a1 (IntKind.i64.wrap (a5+1))))
  (k)
def z6:Z4 :=
  some (true,(()))
def wgd (L4:T4) (a_0 b_1:Y4):Z4 :=
  cond (decide ((a_0.length:Int)≠(b_1.length:Int)))
  (some (false,(())))
  (L4 a_0 b_1 0)
def wes (N:Nat) (k:Z4):=itN (fun r=>wa1 r k) fun _ _ _=>none
def wer (N:Nat):=wes N (z6) N
def V52 (N:Nat) (a_0 b_1:Y4):Z4:=wgd (wer N) a_0 b_1
def S_V52:Sig:=⟨Q7,[0,0],[],.unit,.bool,.i,fun x=>V52 big x.1 x.2.1⟩
def A_V52:Cfg:=mkCfg tab [] [(8,([B2,B2]++dr 3 [B0])),(17,[])]
noncomputable def wa0 (N n:Nat) (K:Ex→St→Z4) (a0 a1:Y4) (a5:Int):Z4:=itr A_V52 N 8 Try.f10 [1,1,0,1,0,0] n (([W1 a0,W1 a1]++ud 3 [W0 a5])++us 20) K
noncomputable def wge:Ex→St→Z4:=finish A_V52 S_V52 Try.f10.results.toList
noncomputable def wia (kX:St→Z4):Z4:=kX ([]++us 26)
noncomputable def wh9 (kX:St→Z4) (kO:Nat→St→Z4):=exK wge 0 (A_V52.shape 17) kX kO
theorem wib (N kX kO):∀n,wa0 N n (wh9 kX kO)=wes N (wia kX) n :=
 itE rfl fun m=>by kernel_rfl
noncomputable def wci (N:Nat):=(blockK 0 (sqK A_V52 N 17 500008 Try.f10 [1,1,1] wge))
noncomputable def wic (N:Nat) (st':St):Z4:=rn A_V52 N Try.f10 [1,1,1] st' wge
theorem wkm (N):wa0 N N (wci N)=wer N:=by
 rw[show wa0 N N (wci N)=wa0 N N (wh9 (wic N) fun j=>(wci N) (.exit j)) from(by funext _ _ _;exact jlb),wib,show wia (wic N)=z6 by kernel_rfl];rfl
theorem run_V52 (N x):runF A_V52 N Try.f10 S_V52 x=V52 N x.1 x.2.1:=(show _=(wgd (wa0 N N (wci N)) x.1 x.2.1) by kernel_rfl).trans (by rw[wkm N];rfl)
theorem ok_V52:OK 10 S_V52:=gdR (A:=A_V52) tc Try.func10 (jeh trivial) (run_V52 big)
def wjr (code_0:Y4):Option ((Y4×Z6)×Unit) :=
  (V8 big (code_0,(0,(0,())))).bind fun rq1 =>
  (V8 big rq1.2.1).bind fun rq2 =>
  (V12 rq1.1 rq2.1).bind fun rq3 =>
  cond rq3.1
  ((V2 rq2.2.1 4).bind fun rq4 =>
  cond (decide (rq4.1=0))
  ((V5 (-1:Int) rq1.1 rq2.1).bind fun rq5 =>
  some ((rq5.1,rq2.1,()),(())))
  (cond (decide (rq4.1=1))
  ((V5 (-2:Int) rq2.1 rq1.1).bind fun rq6 =>
  some ((rq1.1,rq6.1,()),(())))
  (some ((rq1.1,rq2.1,()),(())))))
  (some ((rq1.1,rq2.1,()),(())))
def V53 (code_0:Y4):Option ((Y4×Z6)×Unit):=wjr code_0
def S_V53:Sig:=⟨(.pair (.sl (.int .u8)) .unit),[0],[],.unit,(.tup Q7),.i,fun x=>V53 x.1⟩
def A_V53:Cfg:=mkCfg tab [(14,S_V8),(15,S_V12),(16,S_V2),(17,S_V5)] []
theorem run_V53 (N x):runF A_V53 N Try.f25 S_V53 x=V53 x.1:=by kernel_rfl
theorem ok_V53:OK 25 S_V53:=gdR (A:=A_V53) tc Try.func25 (jeh ⟨ok_V8,ok_V12,ok_V2,ok_V5,trivial⟩) (run_V53 big)
def wjs (code_0:Y4):Z0 :=
  (V53 code_0).bind fun rq1 =>
  (V12 rq1.1.1 rq1.1.2.1).bind fun rq2 =>
  cond rq2.1
  (cond (decide ((IntKind.i64.wrap ((rq1.1.1.length:Int)+(rq1.1.2.1.length:Int)))<30))
  ((V5 (-1:Int) rq1.1.1 rq1.1.2.1).bind fun rq3 =>
  (V5 (-2:Int) rq3.1 rq1.1.1).bind fun rq4 =>
  some (rq4.1,(())))
  (some (rq1.1.1,(()))))
  (some (rq1.1.1,(())))
def V54 (code_0:Y4):Z0:=wjs code_0
def S_V54:Sig:=⟨(.pair (.sl (.int .u8)) .unit),[0],[],.unit,Q1,.i,fun x=>V54 x.1⟩
def A_V54:Cfg:=mkCfg tab [(25,S_V53),(15,S_V12),(17,S_V5)] []
theorem run_V54 (N x):runF A_V54 N Try.f11 S_V54 x=V54 x.1:=by kernel_rfl
theorem ok_V54:OK 11 S_V54:=gdR (A:=A_V54) tc Try.func11 (jeh ⟨ok_V53,ok_V12,ok_V5,trivial⟩) (run_V54 big)
def wjt (w_0:Y4):Option ((Int×(Bool×Unit))×Unit) :=
  (V15 w_0).bind fun rq1 =>
  cond (!rq1.1)
  (some ((0,false,()),(())))
  ((quoI IntKind.i64 (IntKind.i64.wrap ((w_0.length:Int)+1)) 2).bind fun xq2 =>
  some ((xq2,true,()),(())))
def V55 (w_0:Y4):Option ((Int×(Bool×Unit))×Unit):=wjt w_0
def S_V55:Sig:=⟨Q2,[0],[],.unit,(.tup (.pair I (.pair .bool .unit))),.i,fun x=>V55 x.1⟩
def A_V55:Cfg:=mkCfg tab [(12,S_V15)] []
theorem run_V55 (N x):runF A_V55 N Try.f13 S_V55 x=V55 x.1:=by kernel_rfl
theorem ok_V55:OK 13 S_V55:=gdR (A:=A_V55) tc Try.func13 (jeh ⟨ok_V15,trivial⟩) (run_V55 big)
def wju (code_0:Y4):Z4 :=
  (V0 code_0).bind fun rq1 =>
  cond rq1.1
  (some (true,(())))
  ((V13 code_0).bind fun rq2 =>
  (V22 rq2.1.1 rq2.1.2.1).bind fun rq3 =>
  (V27 rq2.1.1 rq2.1.2.1).bind fun rq4 =>
  cond (rq3.1.1 != rq4.1.1)
  (some (false,(())))
  (cond (rq3.1.2.1 != rq4.1.2.1)
  (some (false,(())))
  ((V38 rq2.1.1).bind fun rq5 =>
  (V51 rq2.1.1).bind fun rq6 =>
  cond (rq5.1.2.1 != rq6.1.2.1)
  (some (false,(())))
  ((V52 big rq5.1.1 rq6.1.1).bind fun rq7 =>
  cond (!rq7.1)
  (some (false,(())))
  ((V38 rq2.1.2.1).bind fun rq8 =>
  (V51 rq2.1.2.1).bind fun rq9 =>
  cond (rq8.1.2.1 != rq9.1.2.1)
  (some (false,(())))
  ((V52 big rq8.1.1 rq9.1.1).bind fun rq10 =>
  cond (!rq10.1)
  (some (false,(())))
  (cond rq3.1.2.1
  (cond (!rq5.1.2.1)
  (some (false,(())))
  (cond (!rq8.1.2.1)
  (some (false,(())))
  ((V52 big rq5.1.1 rq8.1.1).bind fun rq11 =>
  cond (rq3.1.1 != rq11.1)
  (some (false,(())))
  ((V54 code_0).bind fun rq12 =>
  (V38 rq12.1).bind fun rq13 =>
  (V51 rq12.1).bind fun rq14 =>
  cond (rq13.1.2.1 != rq14.1.2.1)
  (some (false,(())))
  ((V15 rq12.1).bind fun rq15 =>
  cond (rq13.1.2.1 != rq15.1)
  (some (false,(())))
  ((V52 big rq13.1.1 rq14.1.1).bind fun rq16 =>
  cond (!rq16.1)
  (some (false,(())))
  (cond rq13.1.2.1
  ((V22 rq13.1.1 rq12.1).bind fun rq17 =>
  (V38 rq13.1.1).bind fun rq18 =>
  (V55 rq13.1.1).bind fun rq19 =>
  (V55 rq12.1).bind fun rq20 =>
  cond (!rq17.1.2.1)
  (some (false,(())))
  (cond (!rq18.1.2.1)
  (some (false,(())))
  (cond (!rq19.1.2.1)
  (some (false,(())))
  (cond (!rq20.1.2.1)
  (some (false,(())))
  (cond (!rq17.1.1)
  (some (false,(())))
  ((V52 big rq18.1.1 rq13.1.1).bind fun rq21 =>
  cond (!rq21.1)
  (some (false,(())))
  (cond (decide (rq20.1.1<rq19.1.1))
  (some (false,(())))
  (some (true,(()))))))))))
  (some (true,(()))))))))))
  ((V54 code_0).bind fun rq22 =>
  (V38 rq22.1).bind fun rq23 =>
  (V51 rq22.1).bind fun rq24 =>
  cond (rq23.1.2.1 != rq24.1.2.1)
  (some (false,(())))
  ((V15 rq22.1).bind fun rq25 =>
  cond (rq23.1.2.1 != rq25.1)
  (some (false,(())))
  ((V52 big rq23.1.1 rq24.1.1).bind fun rq26 =>
  cond (!rq26.1)
  (some (false,(())))
  (cond rq23.1.2.1
  ((V22 rq23.1.1 rq22.1).bind fun rq27 =>
  (V38 rq23.1.1).bind fun rq28 =>
  (V55 rq23.1.1).bind fun rq29 =>
  (V55 rq22.1).bind fun rq30 =>
  cond (!rq27.1.2.1)
  (some (false,(())))
  (cond (!rq28.1.2.1)
  (some (false,(())))
  (cond (!rq29.1.2.1)
  (some (false,(())))
  (cond (!rq30.1.2.1)
  (some (false,(())))
  (cond (!rq27.1.1)
  (some (false,(())))
  ((V52 big rq28.1.1 rq23.1.1).bind fun rq31 =>
  cond (!rq31.1)
  (some (false,(())))
  (cond (decide (rq30.1.1<rq29.1.1))
  (some (false,(())))
  (some (true,(()))))))))))
  (some (true,(()))))))))))))))
def laws_FnShortWords (code_0:Y4):Z4:=wju code_0
def S_laws_FnShortWords:Sig:=⟨(.pair (.sl (.int .u8)) .unit),[0],[],.unit,.bool,.i,fun x=>laws_FnShortWords x.1⟩
def A_Vx0:Cfg:=mkCfg tab [(4,S_V0),(5,S_V13),(6,S_V22),(7,S_V27),(8,S_V38),(9,S_V51),(10,S_V52),(11,S_V54),(12,S_V15),(13,S_V55)] []
theorem run_laws_FnShortWords (N x):runF A_Vx0 N Try.f3 S_laws_FnShortWords x=laws_FnShortWords x.1:=by kernel_rfl
theorem ok_laws_FnShortWords:OK 3 S_laws_FnShortWords:=gdR (A:=A_Vx0) tc Try.func3 (jeh ⟨ok_V0,ok_V13,ok_V22,ok_V27,ok_V38,ok_V51,ok_V52,ok_V54,ok_V15,ok_V55,trivial⟩) (run_laws_FnShortWords big)
theorem good_laws_FnShortWords:Gx.Good Try.prog 3 S_laws_FnShortWords:=ok_laws_FnShortWords.2
end
end Go.Proofs.Ytiihhfkjppecaaa
