import Derived.Test.YtiihhfkjppecaaaGxGen
import Derived.Test.YtiihhfkjppecaaaRows
import Derived.Test.YtiihhfkjppecaaaChecked
import Derived.KernelRfl
set_option maxRecDepth 100000
set_option linter.unusedVariables false
namespace Go.Proofs.Ytiihhfkjppecaaa
open Go Go.Gx Go.Proofs
abbrev I:=Ty.int .i64
abbrev Q0:Ty:=(.ptr (.pair (.sl (.int .u8)) (.pair I (.pair (.int .u64) .unit))))
abbrev Q1:Ty:=(.sl I)
abbrev Q2:Ty:=(.pair Q1 .unit)
abbrev Q3:Ty:=(.pair Q1 (.pair Q1 (.pair (.map (.pair I (.pair I .unit)) .bool) .unit)))
abbrev Q4:Ty:=(.sl Q1)
abbrev Q5:Ty:=(.pair I (.pair I .unit))
abbrev O6:Fl:=(.o .i)
abbrev Q7:Ty:=(.pair Q1 Q2)
abbrev W0:=V.val I .i
abbrev W1:=V.val Q1 .i
abbrev W2:=V.val Q4 .i
abbrev B0:=Sh.as I .i
abbrev B1:=Sh.as Q4 .i
abbrev B2:=Sh.as Q1 .i
abbrev D0:=Sh.drop
abbrev Y1:=(Option ((List (List Bool))×((List (List Int))×((List (List Int))×Unit))))
abbrev Y2:=((List (List Int))×Unit)
abbrev Y7:=(Int×((List (Int×((List Int)×Unit)))×Unit))
abbrev Y6:=(Int×((List Int)×Unit))
abbrev Y3:=(List (List Int))
abbrev Y4:=(List Int)
abbrev Y5:=(List (List Bool))
abbrev Z0:=Option (Y4×Unit)
abbrev Z1:=(Y4×(Y4×((List ((Int×(Int×Unit))×Bool))×Unit)))
abbrev Z2:=(Int×Unit)
abbrev Z3:=Option ((Int×Y2)×Unit)
abbrev Z4:=Option (Bool×Unit)
abbrev Z5:=Option (Y4×((Y4×(Int×Z2))×Unit))
abbrev Z6:=(Y4×Unit)
abbrev Z7:=Option (Y6×Unit)
abbrev Z8:=Option (Bool×(Z1×Unit))
abbrev Z9:=(Y4×(Int×Z2))
abbrev Z10:=(Y4×(Y4×(Int×Y6)))
abbrev Z11:=Option (Bool×Z6)
abbrev T0:=Z6→Z0
abbrev T1:=Y4→Y3→Int→Int→Z3
abbrev T2:=Y4→Int→Y3→Int→Int→Y3→Int→Int→Z3
abbrev T3:=Y3→Y4→Int→Z7
abbrev T4:=Y4→Y4→Int→Z4
abbrev T5:=Nat→St→Z0
abbrev T6:=St→Z0
abbrev T7:=Y4→Y3→Z0
abbrev T8:=Y3→Y4→Int→Y3→Int→Z7
abbrev T9:=Y3→Y4→Int→Z0
abbrev T10:=Ex→St→Z0
abbrev T11:=Nat→Prop
abbrev T12:=Z10→Z11
abbrev T13:=Y3→Y3→Int→Z0
abbrev T14:=(Z9×Z2)→Z5
def tab:Tab:={ es:=[(22,(.int .u8),.i),(24,I,.i),(50,Q1,O6)],ts:=[(3,I,.i),(4,.bool,.i),(5,(.int .u8),.i),(22,(.sl (.int .u8)),O6),(24,Q1,O6),(36,Q0,(.o (.p O6 .i))),(37,(.int .u64),.i),(39,(.pair (.sl (.int .u8)) (.pair I (.pair (.int .u64) .unit))),(.p O6 .i)),(50,Q4,(.o O6)),(62,(.ptr Q3),(.o (.p O6 (.p O6 (.p O6 .i))))),(63,(.map Q5 .bool),O6),(65,Q3,(.p O6 (.p O6 (.p O6 .i)))),(69,Q5,.i)],fs:=[(39,[((.sl (.int .u8)),O6),(I,.i),((.int .u64),.i)]),(65,[(Q1,O6),(Q1,O6),((.map Q5 .bool),O6)])],ars:=[(69,I,.i,2)],ms:=[(63,Q5,.bool)] }
theorem tabOk:tab.chk Try.prog=true:=by kernel_rfl
theorem tc {a b}:CfgOk Try.prog (mkCfg tab a b):=uy tabOk
abbrev OK (i:FuncId) (S:Sig):Prop:=FnOk Try.prog i∧Gx.Good Try.prog i S
def V0_s (code_0:Y4):Z4 :=
  some (decide (65536<(code_0.length:Int)),(()))
def V0 (code_0:Y4):Z4:=V0_s code_0
def S_V0:Sig:=⟨(.pair (.sl (.int .u8)) .unit),[0],[],.unit,.bool,.i,fun x=>V0 x.1⟩
def A_V0:Cfg:=mkCfg tab [] []
theorem run_V0 (N x):runF A_V0 N Try.f4 S_V0 x=V0 x.1:=by kernel_rfl
theorem ok_V0:OK 4 S_V0:=gdR (A:=A_V0) tc Try.func4 (jeh trivial) (run_V0 big)
def V1_s (c_0:Z9):Option (Int×(Z9×Unit)) :=
  cond (decide (c_0.2.1<(c_0.1.length:Int)))
  ((atI c_0.1 c_0.2.1).bind fun xq1 =>
  cond (decide (((((c_0.1,(IntKind.i64.wrap (c_0.2.1+1),c_0.2.2)).1,(((c_0.1,(IntKind.i64.wrap (c_0.2.1+1),c_0.2.2)).2).1,(IntKind.u64.wrap ((IntKind.u64.wrap ((IntKind.u64.wrap (((((c_0.1,(IntKind.i64.wrap (c_0.2.1+1),c_0.2.2)).2).2).1)*6364136223846793005))+(IntKind.u64.wrap (IntKind.i64.wrap xq1))))+550289),(((c_0.1,(IntKind.i64.wrap (c_0.2.1+1),c_0.2.2)).2).2).2))).2).1)≤((((c_0.1,(IntKind.i64.wrap (c_0.2.1+1),c_0.2.2)).1,(((c_0.1,(IntKind.i64.wrap (c_0.2.1+1),c_0.2.2)).2).1,(IntKind.u64.wrap ((IntKind.u64.wrap ((IntKind.u64.wrap (((((c_0.1,(IntKind.i64.wrap (c_0.2.1+1),c_0.2.2)).2).2).1)*6364136223846793005))+(IntKind.u64.wrap (IntKind.i64.wrap xq1))))+550289),(((c_0.1,(IntKind.i64.wrap (c_0.2.1+1),c_0.2.2)).2).2).2))).1).length:Int)))
  (some (IntKind.i64.wrap xq1,(((c_0.1,(IntKind.i64.wrap (c_0.2.1+1),c_0.2.2)).1,(((c_0.1,(IntKind.i64.wrap (c_0.2.1+1),c_0.2.2)).2).1,(IntKind.u64.wrap ((IntKind.u64.wrap ((IntKind.u64.wrap (((((c_0.1,(IntKind.i64.wrap (c_0.2.1+1),c_0.2.2)).2).2).1)*6364136223846793005))+(IntKind.u64.wrap (IntKind.i64.wrap xq1))))+550289),(((c_0.1,(IntKind.i64.wrap (c_0.2.1+1),c_0.2.2)).2).2).2))),())))
  ((shrI IntKind.u64 (((((c_0.1,(IntKind.i64.wrap (c_0.2.1+1),c_0.2.2)).1,(((c_0.1,(IntKind.i64.wrap (c_0.2.1+1),c_0.2.2)).2).1,(IntKind.u64.wrap ((IntKind.u64.wrap ((IntKind.u64.wrap (((((c_0.1,(IntKind.i64.wrap (c_0.2.1+1),c_0.2.2)).2).2).1)*6364136223846793005))+(IntKind.u64.wrap (IntKind.i64.wrap xq1))))+550289),(((c_0.1,(IntKind.i64.wrap (c_0.2.1+1),c_0.2.2)).2).2).2))).2).2).1) 40).bind fun xq2 =>
  some (IntKind.i64.wrap (bitI .and IntKind.u64 xq2 255),(((c_0.1,(IntKind.i64.wrap (c_0.2.1+1),c_0.2.2)).1,(((c_0.1,(IntKind.i64.wrap (c_0.2.1+1),c_0.2.2)).2).1,(IntKind.u64.wrap ((IntKind.u64.wrap ((IntKind.u64.wrap (((((c_0.1,(IntKind.i64.wrap (c_0.2.1+1),c_0.2.2)).2).2).1)*6364136223846793005))+(IntKind.u64.wrap (IntKind.i64.wrap xq1))))+550289),(((c_0.1,(IntKind.i64.wrap (c_0.2.1+1),c_0.2.2)).2).2).2))),()))))
  (cond (decide (((((c_0.1,(IntKind.i64.wrap (c_0.2.1+1),c_0.2.2)).1,(((c_0.1,(IntKind.i64.wrap (c_0.2.1+1),c_0.2.2)).2).1,(IntKind.u64.wrap ((IntKind.u64.wrap ((IntKind.u64.wrap (((((c_0.1,(IntKind.i64.wrap (c_0.2.1+1),c_0.2.2)).2).2).1)*6364136223846793005))+(IntKind.u64.wrap 0)))+550289),(((c_0.1,(IntKind.i64.wrap (c_0.2.1+1),c_0.2.2)).2).2).2))).2).1)≤((((c_0.1,(IntKind.i64.wrap (c_0.2.1+1),c_0.2.2)).1,(((c_0.1,(IntKind.i64.wrap (c_0.2.1+1),c_0.2.2)).2).1,(IntKind.u64.wrap ((IntKind.u64.wrap ((IntKind.u64.wrap (((((c_0.1,(IntKind.i64.wrap (c_0.2.1+1),c_0.2.2)).2).2).1)*6364136223846793005))+(IntKind.u64.wrap 0)))+550289),(((c_0.1,(IntKind.i64.wrap (c_0.2.1+1),c_0.2.2)).2).2).2))).1).length:Int)))
  (some (0,(((c_0.1,(IntKind.i64.wrap (c_0.2.1+1),c_0.2.2)).1,(((c_0.1,(IntKind.i64.wrap (c_0.2.1+1),c_0.2.2)).2).1,(IntKind.u64.wrap ((IntKind.u64.wrap ((IntKind.u64.wrap (((((c_0.1,(IntKind.i64.wrap (c_0.2.1+1),c_0.2.2)).2).2).1)*6364136223846793005))+(IntKind.u64.wrap 0)))+550289),(((c_0.1,(IntKind.i64.wrap (c_0.2.1+1),c_0.2.2)).2).2).2))),())))
  ((shrI IntKind.u64 (((((c_0.1,(IntKind.i64.wrap (c_0.2.1+1),c_0.2.2)).1,(((c_0.1,(IntKind.i64.wrap (c_0.2.1+1),c_0.2.2)).2).1,(IntKind.u64.wrap ((IntKind.u64.wrap ((IntKind.u64.wrap (((((c_0.1,(IntKind.i64.wrap (c_0.2.1+1),c_0.2.2)).2).2).1)*6364136223846793005))+(IntKind.u64.wrap 0)))+550289),(((c_0.1,(IntKind.i64.wrap (c_0.2.1+1),c_0.2.2)).2).2).2))).2).2).1) 40).bind fun xq3 =>
  some (IntKind.i64.wrap (bitI .and IntKind.u64 xq3 255),(((c_0.1,(IntKind.i64.wrap (c_0.2.1+1),c_0.2.2)).1,(((c_0.1,(IntKind.i64.wrap (c_0.2.1+1),c_0.2.2)).2).1,(IntKind.u64.wrap ((IntKind.u64.wrap ((IntKind.u64.wrap (((((c_0.1,(IntKind.i64.wrap (c_0.2.1+1),c_0.2.2)).2).2).1)*6364136223846793005))+(IntKind.u64.wrap 0)))+550289),(((c_0.1,(IntKind.i64.wrap (c_0.2.1+1),c_0.2.2)).2).2).2))),()))))
def V1 (c_0:Z9):Option (Int×(Z9×Unit)):=V1_s c_0
def S_V1:Sig:=⟨(.pair Q0 .unit),[1],[O6],(.pair Q0 .unit),I,.i,fun x=>V1 x.1⟩
def A_V1:Cfg:=mkCfg tab [] []
theorem run_V1 (N x):runF A_V1 N Try.f29 S_V1 x=V1 x.1:=by kernel_rfl
theorem ok_V1:OK 29 S_V1:=gdR (A:=A_V1) tc Try.func29 (jeh trivial) (run_V1 big)
def V2_s (c_0:Z9) (n_1:Int):Option (Int×(Z9×Unit)) :=
  cond (decide (n_1≤1))
  (some (0,(c_0,())))
  ((V1 c_0).bind fun rq1 =>
  cond (decide (200<n_1))
  ((V1 rq1.2.1).bind fun rq2 =>
  (remI (IntKind.i64.wrap ((IntKind.i64.wrap (rq1.1*256))+rq2.1)) n_1).bind fun xq3 =>
  some (xq3,(rq2.2.1,())))
  ((remI rq1.1 n_1).bind fun xq4 =>
  some (xq4,(rq1.2.1,()))))
def V2 (c_0:Z9) (n_1:Int):Option (Int×(Z9×Unit)):=V2_s c_0 n_1
def S_V2:Sig:=⟨(.pair Q0 (.pair I .unit)),[1,0],[O6],(.pair Q0 .unit),I,.i,fun x=>V2 x.1 x.2.1⟩
def A_V2:Cfg:=mkCfg tab [(29,S_V1)] []
theorem run_V2 (N x):runF A_V2 N Try.f16 S_V2 x=V2 x.1 x.2.1:=by kernel_rfl
theorem ok_V2:OK 16 S_V2:=gdR (A:=A_V2) tc Try.func16 (jeh ⟨ok_V1,trivial⟩) (run_V2 big)
def V3_s (c_0:Z9) (list_1:Y4):Option (Int×(Z9×Unit)) :=
  (V2 c_0 (list_1.length:Int)).bind fun rq1 =>
  (atI list_1 rq1.1).bind fun xq2 =>
  some (xq2,(rq1.2.1,()))
def V3 (c_0:Z9) (list_1:Y4):Option (Int×(Z9×Unit)):=V3_s c_0 list_1
def S_V3:Sig:=⟨(.pair Q0 Q2),[1,0],[O6],(.pair Q0 .unit),I,.i,fun x=>V3 x.1 x.2.1⟩
def A_V3:Cfg:=mkCfg tab [(16,S_V2)] []
theorem run_V3 (N x):runF A_V3 N Try.f28 S_V3 x=V3 x.1 x.2.1:=by kernel_rfl
theorem ok_V3:OK 28 S_V3:=gdR (A:=A_V3) tc Try.func28 (jeh ⟨ok_V2,trivial⟩) (run_V3 big)
def V4_s (c_0:Z9) (n_1:Int):Option (Bool×(Z9×Unit)) :=
  (V2 c_0 n_1).bind fun rq1 =>
  some (decide (rq1.1=0),(rq1.2.1,()))
def V4 (c_0:Z9) (n_1:Int):Option (Bool×(Z9×Unit)):=V4_s c_0 n_1
def S_V4:Sig:=⟨(.pair Q0 (.pair I .unit)),[1,0],[O6],(.pair Q0 .unit),.bool,.i,fun x=>V4 x.1 x.2.1⟩
def A_V4:Cfg:=mkCfg tab [(16,S_V2)] []
theorem run_V4 (N x):runF A_V4 N Try.f49 S_V4 x=V4 x.1 x.2.1:=by kernel_rfl
theorem ok_V4:OK 49 S_V4:=gdR (A:=A_V4) tc Try.func49 (jeh ⟨ok_V2,trivial⟩) (run_V4 big)
def V5_s (sign_0:Int) (s_1 t_2:Y4):Z0 :=
  (appI [sign_0] s_1).bind fun xq1 =>
  (appI xq1 t_2).bind fun xq2 =>
  some (xq2,(()))
def V5 (sign_0:Int) (s_1 t_2:Y4):Z0:=V5_s sign_0 s_1 t_2
def S_V5:Sig:=⟨(.pair I Q7),[0,0,0],[],.unit,Q1,O6,fun x=>V5 x.1 x.2.1 x.2.2.1⟩
def A_V5:Cfg:=mkCfg tab [] []
theorem run_V5 (N x):runF A_V5 N Try.f17 S_V5 x=V5 x.1 x.2.1 x.2.2.1:=by kernel_rfl
theorem ok_V5:OK 17 S_V5:=gdR (A:=A_V5) tc Try.func17 (jeh trivial) (run_V5 big)
def T_V6 (self:T14):Sig:={ a:=(.pair Q0 (.pair I .unit)),md:=[1,0],mf:=[O6],m:=(.pair Q0 .unit),r:=Q1,rf:=O6,f:=self }
def V6_s (self_V6:T14) (c_0:Z9) (size_1:Int):Z5 :=
  cond (decide (size_1≤1))
  ((V2 c_0 4).bind fun rq1 =>
  some ([rq1.1],(rq1.2.1,())))
  ((V4 c_0 4).bind fun rq2 =>
  cond rq2.1
  ((V2 rq2.2.1 4).bind fun rq3 =>
  some ([rq3.1],(rq3.2.1,())))
  ((V2 rq2.2.1 (IntKind.i64.wrap (size_1-1))).bind fun rq4 =>
  (V2 rq4.2.1 2).bind fun rq5 =>
  (self_V6 (rq5.2.1,IntKind.i64.wrap (1+rq4.1),())).bind fun rq6 =>
  (self_V6 (rq6.2.1,IntKind.i64.wrap (size_1-(IntKind.i64.wrap (1+rq4.1))),())).bind fun rq7 =>
  (V5 (IntKind.i64.wrap ((-1:Int)-rq5.1)) rq6.1 rq7.1).bind fun rq8 =>
  some (rq8.1,(rq7.2.1,()))))
def V6 (self_V6:T14) (c_0:Z9) (size_1:Int):Z5:=V6_s self_V6 c_0 size_1
def A_V6 (self_V6:T14):Cfg:=mkCfg tab [(16,S_V2),(49,S_V4),(27,T_V6 self_V6),(17,S_V5)] []
theorem run_V6 (self_V6:T14) (N:Nat) (x:((T_V6 self_V6)).a.den):runF (A_V6 self_V6) N Try.f27 (T_V6 self_V6) x=V6 self_V6 x.1 x.2.1:=by kernel_rfl
theorem fn_V6:FnOk Try.prog 27:=⟨_,Try.func27,by kernel_rfl,by kernel_rfl⟩
def R_V6:Nat→(Z9×Z2)→Z5
  | 0,_=>none
  | d+1,x=>V6 (R_V6 d) x.1 x.2.1
def S_V6:Sig:=T_V6 (R_V6 big)
theorem xf:∀d,Gx.Good Try.prog 27 (T_V6 (R_V6 d))
  | 0=>fun x r h=>by cases h
  | d+1=>ux Try.func27 (of_decide_eq_true (by kernel_rfl)) fun x r h=>⟨A_V6 (R_V6 d),big,uy tabOk,jeh (show SigsOk Try.prog [(16,S_V2),(49,S_V4),(27,T_V6 (R_V6 d)),(17,S_V5)] from⟨ok_V2,ok_V4,⟨fn_V6,xf d⟩,ok_V5,trivial⟩),(run_V6 (R_V6 d) big x).trans h⟩
theorem good_V6:Gx.Good Try.prog 27 S_V6:=xf big
def wev (rec k:Z9→Y4→Z5) (a0:Z9) (a3:Y4):Z5 :=
  (V2 a0 4).bind fun rq10 =>
  cond (decide ((a3.length:Int)<(IntKind.i64.wrap (38+rq10.1))))
  ((V2 rq10.2.1 2).bind fun rq11 =>
  (V2 rq11.2.1 5).bind fun rq12 =>
  (V5 (IntKind.i64.wrap ((-1:Int)-rq11.1)) [rq12.1] a3).bind fun rq13 =>
  rec rq12.2.1 rq13.1)
  (k rq10.2.1 a3)
def weu (a0:Z9) (a3:Y4):Z5 :=
  some (a3,(a0,()))
def V8_s (L10:Z9→Y4→Z5) (c_0:Z9):Z5 :=
  (V3 c_0 [1,2,3,4,5,6,7]).bind fun rq1 =>
  (R_V6 big (rq1.2.1,rq1.1,())).bind fun rq2 =>
  (V2 rq2.2.1 24).bind fun rq3 =>
  cond (decide (rq3.1=0))
  ((V3 rq3.2.1 [0,(-1:Int)]).bind fun rq4 =>
  (appI rq2.1 [rq4.1]).bind fun xq5 =>
  some (xq5,(rq4.2.1,())))
  (cond (decide (rq3.1=1))
  ((V2 rq3.2.1 (rq2.1.length:Int)).bind fun rq6 =>
  (V3 rq6.2.1 [(-3:Int),5,4,(-1:Int),0]).bind fun rq7 =>
  (atI rq2.1 rq6.1).bind fun _ =>
  (rq2.1[rq6.1.toNat]?).bind fun xq8 =>
  some (rq2.1.set rq6.1.toNat rq7.1,(rq7.2.1,())))
  (cond (decide (rq3.1=2))
  ((slI rq2.1 1 rq2.1.length).bind fun xq9 =>
  some (xq9,(rq3.2.1,())))
  (cond (decide (rq3.1=3))
  (L10 rq3.2.1 rq2.1)
  (some (rq2.1,(rq3.2.1,()))))))
def wa2 (N:Nat) (k:Z9→Y4→Z5):Nat→Z9→Y4→Z5
  | 0,_,_=>none
  | m+1,a0,a3=>wev (wa2 N k m) k a0 a3
def wid (N:Nat):=wa2 N (weu) N
def V8 (N:Nat) (c_0:Z9):Z5:=V8_s (wid N) c_0
def S_V8:Sig:=⟨(.pair Q0 .unit),[1],[O6],(.pair Q0 .unit),Q1,.i,fun x=>V8 big x.1⟩
def A_V8:Cfg:=mkCfg tab [(28,S_V3),(27,S_V6),(16,S_V2),(17,S_V5)] [(20,[.as Q0 O6,D0,D0,.as Q1 O6]),(25,[.as Q0 O6,D0,D0,B2])]
noncomputable def zd (N n:Nat) (K:Ex→St→Z5) (a0:Z9) (a3:Y4):Z5:=itr A_V8 N 20 Try.f14 [1,1,0,1,0,1,1,1,1,1,1,1,0,0,0] n ([.val Q0 O6 a0,.u,.u,.val Q1 O6 a3]++us 47) K
noncomputable def V8_z:Ex→St→Z5:=finish A_V8 S_V8 Try.f14.results.toList
noncomputable def wet (kX:St→Z5) (a0:Z9) (a3:Y4):Z5:=kX ([.val Q0 O6 a0,.u,.u,W1 a3]++us 47)
noncomputable def wcj (kX:St→Z5) (kO:Nat→St→Z5):=exK V8_z 1 (A_V8.shape 25) kX kO
theorem wc5 (N kX kO):∀n,zd N n (wcj kX kO)=wa2 N (wet kX) n
 | 0=>rfl
 | m+1=>(show zd N (m+1) (wcj kX kO)=wev (zd N m (wcj kX kO)) (wet kX) by kernel_rfl).trans (by rw[wc5 N kX kO m];funext _ _;rfl)
noncomputable def wck (N:Nat):=(blockK 1 (blockK 0 (sqK A_V8 N 25 500012 Try.f14 [1,1,1] V8_z)))
noncomputable def wie (N:Nat) (st':St):Z5:=rn A_V8 N Try.f14 [1,1,1] st' V8_z
theorem wkn (N):zd N N (wck N)=wid N:=by
 rw[show zd N N (wck N)=zd N N (wcj (wie N) fun j=>(wck N) (.exit j)) from(by funext _ _;exact jlb),wc5,show wet (wie N)=weu by kernel_rfl];rfl
theorem run_V8 (N x):runF A_V8 N Try.f14 S_V8 x=V8 N x.1:=(show _=(V8_s (zd N N (wck N)) x.1) by kernel_rfl).trans (by rw[wkn N];rfl)
theorem ok_V8:OK 14 S_V8:=gdR (A:=A_V8) tc Try.func14 (jeh ⟨ok_V3,⟨fn_V6,good_V6⟩,ok_V2,ok_V5,trivial⟩) (run_V8 big)
def V9_s (x_0 a_1 b_2:Int):Z4 :=
  cond (decide (a_1≤x_0))
  (some (decide (x_0≤b_2),(())))
  (some (false,(())))
def V9 (x_0 a_1 b_2:Int):Z4:=V9_s x_0 a_1 b_2
def S_V9:Sig:=⟨(.pair I Q5),[0,0,0],[],.unit,.bool,.i,fun x=>V9 x.1 x.2.1 x.2.2.1⟩
def A_V9:Cfg:=mkCfg tab [] []
theorem run_V9 (N x):runF A_V9 N Try.f55 S_V9 x=V9 x.1 x.2.1 x.2.2.1:=by kernel_rfl
theorem ok_V9:OK 55 S_V9:=gdR (A:=A_V9) tc Try.func55 (jeh trivial) (run_V9 big)
def wdt (rec:Y4→Int→Int→Option Z2) (k:Option Z2) (a0:Y4) (a5 a6:Int):Option Z2 :=
  cond (decide (a6<(a0.length:Int)))
  ((atI a0 a6).bind fun xq1 =>
  cond (decide (xq1=(-1:Int)))
  (cond (decide ((IntKind.i64.wrap (a5+1))=0))
  (some (IntKind.i64.wrap (a6+1),(())))
  (rec a0 (IntKind.i64.wrap (a5+1)) (IntKind.i64.wrap (a6+1))))
  ((atI a0 a6).bind fun xq2 =>
  cond (decide (xq2=(-2:Int)))
  (cond (decide ((IntKind.i64.wrap (a5+1))=0))
  (some (IntKind.i64.wrap (a6+1),(())))
  (rec a0 (IntKind.i64.wrap (a5+1)) (IntKind.i64.wrap (a6+1))))
  ((atI a0 a6).bind fun xq3 =>
  (V9 xq3 0 4).bind fun rq4 =>
  cond rq4.1
  (cond (decide ((IntKind.i64.wrap (a5-1))=0))
  (some (IntKind.i64.wrap (a6+1),(())))
  (rec a0 (IntKind.i64.wrap (a5-1)) (IntKind.i64.wrap (a6+1))))
  (some ((-1:Int),(()))))))
  (k)
def wds:Option Z2 :=
  some ((-1:Int),(()))
def wfs (L3:Y4→Int→Int→Option Z2) (w_0:Y4) (from_1:Int):Option Z2 :=
  L3 w_0 1 from_1
def wan (N:Nat) (k:Option Z2):Nat→Y4→Int→Int→Option Z2
  | 0,_,_,_=>none
  | m+1,a0,a5,a6=>wdt (wan N k m) k a0 a5 a6
def wdq (N:Nat):=wan N (wds) N
def V10 (N:Nat) (w_0:Y4) (from_1:Int):Option Z2:=wfs (wdq N) w_0 from_1
def S_V10:Sig:=⟨(.pair Q1 (.pair I .unit)),[0,0],[],.unit,I,.i,fun x=>V10 big x.1 x.2.1⟩
def A_V10:Cfg:=mkCfg tab [(55,S_V9)] [(6,([B2]++dr 4 [B0,B0])),(25,[])]
noncomputable def yr (N n:Nat) (K:Ex→St→Option Z2) (a0:Y4) (a5 a6:Int):Option Z2:=itr A_V10 N 6 Try.f41 [1,1,0,1,0,0] n (([W1 a0]++ud 4 [W0 a5,W0 a6])++us 34) K
noncomputable def wft:Ex→St→Option Z2:=finish A_V10 S_V10 Try.f41.results.toList
noncomputable def wdr (kX:St→Option Z2):Option Z2:=kX ([]++us 41)
noncomputable def wbk (kX:St→Option Z2) (kO:Nat→St→Option Z2):Ex→St→Option Z2:=exK wft 0 (A_V10.shape 25) kX kO
theorem wc1 (N kX kO):∀n,yr N n (wbk kX kO)=wan N (wdr kX) n
 | 0=>rfl
 | m+1=>(show yr N (m+1) (wbk kX kO)=wdt (yr N m (wbk kX kO)) (wdr kX) by kernel_rfl).trans (by rw[wc1 N kX kO m];funext _ _ _;rfl)
noncomputable def wbl (N:Nat):Ex→St→Option Z2:=(blockK 0 (sqK A_V10 N 25 500012 Try.f41 [1,1,1] wft))
noncomputable def wgr (N:Nat) (st':St):Option Z2:=rn A_V10 N Try.f41 [1,1,1] st' wft
theorem wj2 (N):yr N N (wbl N)=wdq N:=by
 rw[show yr N N (wbl N)=yr N N (wbk (wgr N) fun j=>(wbl N) (.exit j)) from(by funext _ _ _;exact jlb),wc1,show wdr (wgr N)=wds by kernel_rfl];rfl
theorem run_V10 (N x):runF A_V10 N Try.f41 S_V10 x=V10 N x.1 x.2.1:=(show _=(wfs (yr N N (wbl N)) x.1 x.2.1) by kernel_rfl).trans (by rw[wj2 N];rfl)
theorem ok_V10:OK 41 S_V10:=gdR (A:=A_V10) tc Try.func41 (jeh ⟨ok_V9,trivial⟩) (run_V10 big)
def wja (w_0:Y4):Z4 :=
  cond (decide ((w_0.length:Int)≤40))
  ((V10 big w_0 0).bind fun rq1 =>
  cond (decide (rq1.1=(w_0.length:Int)))
  (some (decide (0<(w_0.length:Int)),(())))
  (some (false,(()))))
  (some (false,(())))
def V11 (w_0:Y4):Z4:=wja w_0
def S_V11:Sig:=⟨Q2,[0],[],.unit,.bool,.i,fun x=>V11 x.1⟩
def A_V11:Cfg:=mkCfg tab [(41,S_V10)] []
theorem run_V11 (N x):runF A_V11 N Try.f22 S_V11 x=V11 x.1:=by kernel_rfl
theorem ok_V11:OK 22 S_V11:=gdR (A:=A_V11) tc Try.func22 (jeh ⟨ok_V10,trivial⟩) (run_V11 big)
def wjb (s_0 t_1:Y4):Z4 :=
  (V11 s_0).bind fun rq1 =>
  cond rq1.1
  ((V11 t_1).bind fun rq2 =>
  some (rq2.1,(())))
  (some (false,(())))
def V12 (s_0 t_1:Y4):Z4:=wjb s_0 t_1
def S_V12:Sig:=⟨Q7,[0,0],[],.unit,.bool,.i,fun x=>V12 x.1 x.2.1⟩
def A_V12:Cfg:=mkCfg tab [(22,S_V11)] []
theorem run_V12 (N x):runF A_V12 N Try.f15 S_V12 x=V12 x.1 x.2.1:=by kernel_rfl
theorem ok_V12:OK 15 S_V12:=gdR (A:=A_V12) tc Try.func15 (jeh ⟨ok_V11,trivial⟩) (run_V12 big)
def wjc (code_0:Y4):Option ((Y4×Z6)×Unit) :=
  (V8 big (code_0,(0,(0,())))).bind fun rq1 =>
  (V8 big rq1.2.1).bind fun rq2 =>
  (V12 rq1.1 rq2.1).bind fun rq3 =>
  cond rq3.1
  ((V2 rq2.2.1 4).bind fun rq4 =>
  cond (decide (rq4.1=0))
  ((V5 (-2:Int) rq1.1 rq2.1).bind fun rq5 =>
  (V5 (-1:Int) rq1.1 rq5.1).bind fun rq6 =>
  some ((rq6.1,rq1.1,()),(())))
  (cond (decide (rq4.1=1))
  ((V5 (-2:Int) rq1.1 rq2.1).bind fun rq7 =>
  (V5 (-2:Int) rq2.1 rq1.1).bind fun rq8 =>
  some ((rq7.1,rq8.1,()),(())))
  (some ((rq1.1,rq2.1,()),(())))))
  (some ((rq1.1,rq2.1,()),(())))
def V13 (code_0:Y4):Option ((Y4×Z6)×Unit):=wjc code_0
def S_V13:Sig:=⟨(.pair (.sl (.int .u8)) .unit),[0],[],.unit,(.tup Q7),.i,fun x=>V13 x.1⟩
def A_V13:Cfg:=mkCfg tab [(14,S_V8),(15,S_V12),(16,S_V2),(17,S_V5)] []
theorem run_V13 (N x):runF A_V13 N Try.f5 S_V13 x=V13 x.1:=by kernel_rfl
theorem ok_V13:OK 5 S_V13:=gdR (A:=A_V13) tc Try.func5 (jeh ⟨ok_V8,ok_V12,ok_V2,ok_V5,trivial⟩) (run_V13 big)
def wdy (rec:Y4→Int→Int→Option Z2) (k:Int→Option Z2) (a0:Y4) (a1 a5:Int):Option Z2 :=
  cond (decide (0<a5))
  (cond (decide ((a0.length:Int)≤a1))
  (some ((-1:Int),(())))
  ((atI a0 a1).bind fun xq1 =>
  cond (decide (xq1<(-2:Int)))
  (some ((-1:Int),(())))
  ((atI a0 a1).bind fun xq2 =>
  cond (decide (5≤xq2))
  (some ((-1:Int),(())))
  ((atI a0 a1).bind fun xq3 =>
  cond (decide (0≤xq3))
  (rec a0 (IntKind.i64.wrap (a1+1)) (IntKind.i64.wrap (a5-1)))
  (rec a0 (IntKind.i64.wrap (a1+1)) (IntKind.i64.wrap (a5+1)))))))
  (k a1)
def wdx (a1:Int):Option Z2 :=
  some (a1,(()))
def wfu (L2:Y4→Int→Int→Option Z2) (w_0:Y4) (at_1:Int):Option Z2 :=
  L2 w_0 at_1 1
def wao (N:Nat) (k:Int→Option Z2):Nat→Y4→Int→Int→Option Z2
  | 0,_,_,_=>none
  | m+1,a0,a1,a5=>wdy (wao N k m) k a0 a1 a5
def wdv (N:Nat):=wao N (wdx) N
def V14 (N:Nat) (w_0:Y4) (at_1:Int):Option Z2:=wfu (wdv N) w_0 at_1
def S_V14:Sig:=⟨(.pair Q1 (.pair I .unit)),[0,0],[],.unit,I,.i,fun x=>V14 big x.1 x.2.1⟩
def A_V14:Cfg:=mkCfg tab [] [(4,([B2,B0]++dr 3 [B0])),(19,[D0,B0])]
noncomputable def yt (N n:Nat) (K:Ex→St→Option Z2) (a0:Y4) (a1 a5:Int):Option Z2:=itr A_V14 N 4 Try.f26 [1,0,1,0,0] n (([W1 a0,W0 a1]++ud 3 [W0 a5])++us 32) K
noncomputable def wfv:Ex→St→Option Z2:=finish A_V14 S_V14 Try.f26.results.toList
noncomputable def wdw (kX:St→Option Z2) (a1:Int):Option Z2:=kX ([.u,W0 a1]++us 36)
noncomputable def wbm (kX:St→Option Z2) (kO:Nat→St→Option Z2):Ex→St→Option Z2:=exK wfv 0 (A_V14.shape 19) kX kO
theorem wc2 (N kX kO):∀n,yt N n (wbm kX kO)=wao N (wdw kX) n
 | 0=>rfl
 | m+1=>(show yt N (m+1) (wbm kX kO)=wdy (yt N m (wbm kX kO)) (wdw kX) by kernel_rfl).trans (by rw[wc2 N kX kO m];funext _ _ _;rfl)
noncomputable def wbn (N:Nat):Ex→St→Option Z2:=(blockK 0 (sqK A_V14 N 19 500009 Try.f26 [1,1] wfv))
noncomputable def wgs (N:Nat) (st':St):Option Z2:=rn A_V14 N Try.f26 [1,1] st' wfv
theorem wj3 (N):yt N N (wbn N)=wdv N:=by
 rw[show yt N N (wbn N)=yt N N (wbm (wgs N) fun j=>(wbn N) (.exit j)) from(by funext _ _ _;exact jlb),wc2,show wdw (wgs N)=wdx by kernel_rfl];rfl
theorem run_V14 (N x):runF A_V14 N Try.f26 S_V14 x=V14 N x.1 x.2.1:=(show _=(wfu (yt N N (wbn N)) x.1 x.2.1) by kernel_rfl).trans (by rw[wj3 N];rfl)
theorem ok_V14:OK 26 S_V14:=gdR (A:=A_V14) tc Try.func26 (jeh trivial) (run_V14 big)
def wjd (w_0:Y4):Z4 :=
  cond (decide ((w_0.length:Int)≤40))
  ((V14 big w_0 0).bind fun rq1 =>
  some (decide (rq1.1=(w_0.length:Int)),(())))
  (some (false,(())))
def V15 (w_0:Y4):Z4:=wjd w_0
def S_V15:Sig:=⟨Q2,[0],[],.unit,.bool,.i,fun x=>V15 x.1⟩
def A_V15:Cfg:=mkCfg tab [(26,S_V14)] []
theorem run_V15 (N x):runF A_V15 N Try.f12 S_V15 x=V15 x.1:=by kernel_rfl
theorem ok_V15:OK 12 S_V15:=gdR (A:=A_V15) tc Try.func12 (jeh ⟨ok_V14,trivial⟩) (run_V15 big)
def wje (s_0 t_1:Y4):Z4 :=
  (V15 s_0).bind fun rq1 =>
  cond rq1.1
  ((V15 t_1).bind fun rq2 =>
  some (rq2.1,(())))
  (some (false,(())))
def V16 (s_0 t_1:Y4):Z4:=wje s_0 t_1
def S_V16:Sig:=⟨Q7,[0,0],[],.unit,.bool,.i,fun x=>V16 x.1 x.2.1⟩
def A_V16:Cfg:=mkCfg tab [(12,S_V15)] []
theorem run_V16 (N x):runF A_V16 N Try.f18 S_V16 x=V16 x.1 x.2.1:=by kernel_rfl
theorem ok_V16:OK 18 S_V16:=gdR (A:=A_V16) tc Try.func18 (jeh ⟨ok_V15,trivial⟩) (run_V16 big)
def T_V17 (self:(Z1×(Int×Z2))→Z8):Sig:={ a:=(.pair (.ptr Q3) Q5),md:=[1,0,0],mf:=[(.o (.p .i (.p .i (.p O6 .i))))],m:=(.pair (.ptr Q3) .unit),r := .bool,rf := .i,f:=self }
def T_V18 (self:(Z1×(Int×Z2))→Z8):Sig:={ a:=(.pair (.ptr Q3) Q5),md:=[1,0,0],mf:=[(.o (.p .i (.p .i (.p O6 .i))))],m:=(.pair (.ptr Q3) .unit),r := .bool,rf := .i,f:=self }
def wjf (self_V17 self_V18:(Z1×(Int×Z2))→Z8) (c_0:Z1) (i_1 k_2:Int):Z8 :=
  cond (!(((Option.getD (mget Q5 .bool c_0.2.2.1 (i_1,(k_2,()))) false,(Option.isSome (mget Q5 .bool c_0.2.2.1 (i_1,(k_2,()))),())).2).1))
  ((self_V18 (c_0,i_1,k_2,())).bind fun rq1 =>
  some (rq1.1,((rq1.2.1.1,(rq1.2.1.2.1,(mput Q5 .bool rq1.2.1.2.2.1 (i_1,(k_2,())) rq1.1,rq1.2.1.2.2.2))),())))
  (some ((Option.getD (mget Q5 .bool c_0.2.2.1 (i_1,(k_2,()))) false,(Option.isSome (mget Q5 .bool c_0.2.2.1 (i_1,(k_2,()))),())).1,(c_0,())))
def V17 (self_V17 self_V18:(Z1×(Int×Z2))→Z8) (c_0:Z1) (i_1 k_2:Int):Z8:=wjf self_V17 self_V18 c_0 i_1 k_2
def A_V17 (self_V17 self_V18:(Z1×(Int×Z2))→Z8):Cfg:=mkCfg tab [(57,T_V18 self_V18)] []
theorem run_V17 (self_V17 self_V18:(Z1×(Int×Z2))→Z8) (N:Nat) (x:((T_V17 self_V17)).a.den):runF (A_V17 self_V17 self_V18) N Try.f50 (T_V17 self_V17) x=V17 self_V17 self_V18 x.1 x.2.1 x.2.2.1:=by kernel_rfl
theorem fn_V17:FnOk Try.prog 50:=⟨_,Try.func50,by kernel_rfl,by kernel_rfl⟩
def wjg (self_V17 self_V18:(Z1×(Int×Z2))→Z8) (c_0:Z1) (i_1 k_2:Int):Z8 :=
  (atI c_0.1 i_1).bind fun xq1 =>
  (atI c_0.2.1 k_2).bind fun xq2 =>
  cond (decide (xq1=(-2:Int)))
  ((self_V17 (c_0,IntKind.i64.wrap (i_1+1),k_2,())).bind fun rq3 =>
  cond rq3.1
  ((V14 big rq3.2.1.1 (IntKind.i64.wrap (i_1+1))).bind fun rq4 =>
  (self_V17 (rq3.2.1,rq4.1,k_2,())).bind fun rq5 =>
  some (rq5.1,(rq5.2.1,())))
  (some (false,(rq3.2.1,()))))
  (cond (decide (xq2=(-1:Int)))
  ((self_V17 (c_0,i_1,IntKind.i64.wrap (k_2+1),())).bind fun rq6 =>
  cond rq6.1
  ((V14 big rq6.2.1.2.1 (IntKind.i64.wrap (k_2+1))).bind fun rq7 =>
  (self_V17 (rq6.2.1,i_1,rq7.1,())).bind fun rq8 =>
  some (rq8.1,(rq8.2.1,())))
  (some (false,(rq6.2.1,()))))
  (cond (decide (0≤xq1))
  (cond (decide (0≤xq2))
  (some (decide (xq1=xq2),(c_0,())))
  (cond (decide (xq1=(-1:Int)))
  ((self_V17 (c_0,IntKind.i64.wrap (i_1+1),k_2,())).bind fun rq9 =>
  cond rq9.1
  (some (true,(rq9.2.1,())))
  ((V14 big rq9.2.1.1 (IntKind.i64.wrap (i_1+1))).bind fun rq10 =>
  (self_V17 (rq9.2.1,rq10.1,k_2,())).bind fun rq11 =>
  cond rq11.1
  (some (true,(rq11.2.1,())))
  (cond (decide (xq2=(-2:Int)))
  ((self_V17 (rq11.2.1,i_1,IntKind.i64.wrap (k_2+1),())).bind fun rq12 =>
  cond rq12.1
  (some (true,(rq12.2.1,())))
  ((V14 big rq12.2.1.2.1 (IntKind.i64.wrap (k_2+1))).bind fun rq13 =>
  (self_V17 (rq12.2.1,i_1,rq13.1,())).bind fun rq14 =>
  some (rq14.1,(rq14.2.1,()))))
  (some (false,(rq11.2.1,()))))))
  (cond (decide (xq2=(-2:Int)))
  ((self_V17 (c_0,i_1,IntKind.i64.wrap (k_2+1),())).bind fun rq15 =>
  cond rq15.1
  (some (true,(rq15.2.1,())))
  ((V14 big rq15.2.1.2.1 (IntKind.i64.wrap (k_2+1))).bind fun rq16 =>
  (self_V17 (rq15.2.1,i_1,rq16.1,())).bind fun rq17 =>
  some (rq17.1,(rq17.2.1,()))))
  (some (false,(c_0,()))))))
  (cond (decide (xq1=(-1:Int)))
  ((self_V17 (c_0,IntKind.i64.wrap (i_1+1),k_2,())).bind fun rq18 =>
  cond rq18.1
  (some (true,(rq18.2.1,())))
  ((V14 big rq18.2.1.1 (IntKind.i64.wrap (i_1+1))).bind fun rq19 =>
  (self_V17 (rq18.2.1,rq19.1,k_2,())).bind fun rq20 =>
  cond rq20.1
  (some (true,(rq20.2.1,())))
  (cond (decide (xq2=(-2:Int)))
  ((self_V17 (rq20.2.1,i_1,IntKind.i64.wrap (k_2+1),())).bind fun rq21 =>
  cond rq21.1
  (some (true,(rq21.2.1,())))
  ((V14 big rq21.2.1.2.1 (IntKind.i64.wrap (k_2+1))).bind fun rq22 =>
  (self_V17 (rq21.2.1,i_1,rq22.1,())).bind fun rq23 =>
  some (rq23.1,(rq23.2.1,()))))
  (some (false,(rq20.2.1,()))))))
  (cond (decide (xq2=(-2:Int)))
  ((self_V17 (c_0,i_1,IntKind.i64.wrap (k_2+1),())).bind fun rq24 =>
  cond rq24.1
  (some (true,(rq24.2.1,())))
  ((V14 big rq24.2.1.2.1 (IntKind.i64.wrap (k_2+1))).bind fun rq25 =>
  (self_V17 (rq24.2.1,i_1,rq25.1,())).bind fun rq26 =>
  some (rq26.1,(rq26.2.1,()))))
  (some (false,(c_0,())))))))
def V18 (self_V17 self_V18:(Z1×(Int×Z2))→Z8) (c_0:Z1) (i_1 k_2:Int):Z8:=wjg self_V17 self_V18 c_0 i_1 k_2
def A_V18 (self_V17 self_V18:(Z1×(Int×Z2))→Z8):Cfg:=mkCfg tab [(50,T_V17 self_V17),(26,S_V14)] []
theorem run_V18 (self_V17 self_V18:(Z1×(Int×Z2))→Z8) (N:Nat) (x:((T_V18 self_V18)).a.den):runF (A_V18 self_V17 self_V18) N Try.f57 (T_V18 self_V18) x=V18 self_V17 self_V18 x.1 x.2.1 x.2.2.1:=by kernel_rfl
theorem fn_V18:FnOk Try.prog 57:=⟨_,Try.func57,by kernel_rfl,by kernel_rfl⟩
def wd:Nat→((Z1×(Int×Z2))→Z8)×((Z1×(Int×Z2))→Z8)
  | 0=>(fun _=>none,fun _=>none)
  | d+1=>(fun x=>V17 (wd d).1 (wd d).2 x.1 x.2.1 x.2.2.1,fun x=>V18 (wd d).1 (wd d).2 x.1 x.2.1 x.2.2.1)
def R_V17 (d:Nat):(Z1×(Int×Z2))→Z8:=(wd d).1
def S_V17:Sig:=T_V17 (R_V17 big)
def R_V18 (d:Nat):(Z1×(Int×Z2))→Z8:=(wd d).2
def S_V18:Sig:=T_V18 (R_V18 big)
theorem wg:∀d,Gx.Good Try.prog 50 (T_V17 (R_V17 d))∧Gx.Good Try.prog 57 (T_V18 (R_V18 d))
  | 0=>⟨(fun x r h=>by cases(show(none:Option _)=some r from h)),(fun x r h=>by cases(show(none:Option _)=some r from h))⟩
  | d+1=>⟨(ux Try.func50 (of_decide_eq_true (by kernel_rfl)) fun x r h=>⟨A_V17 (R_V17 d) (R_V18 d),big,uy tabOk,jeh (show SigsOk Try.prog [(57,T_V18 (R_V18 d))] from⟨⟨fn_V18,(wg d).2⟩,trivial⟩),(run_V17 (R_V17 d) (R_V18 d) big x).trans h⟩),(ux Try.func57 (of_decide_eq_true (by kernel_rfl)) fun x r h=>⟨A_V18 (R_V17 d) (R_V18 d),big,uy tabOk,jeh (show SigsOk Try.prog [(50,T_V17 (R_V17 d)),(26,S_V14)] from⟨⟨fn_V17,(wg d).1⟩,ok_V14,trivial⟩),(run_V18 (R_V17 d) (R_V18 d) big x).trans h⟩)⟩
theorem good_V17:Gx.Good Try.prog 50 S_V17:=(wg big).1
theorem good_V18:Gx.Good Try.prog 57 S_V18:=(wg big).2
def wjh (s_0 t_1:Y4):Z4 :=
  (R_V17 big ((s_0,(t_1,([],()))),0,0,())).bind fun rq1 =>
  some (rq1.1,(()))
def V20 (s_0 t_1:Y4):Z4:=wjh s_0 t_1
def S_V20:Sig:=⟨Q7,[0,0],[],.unit,.bool,.i,fun x=>V20 x.1 x.2.1⟩
def A_V20:Cfg:=mkCfg tab [(50,S_V17)] []
theorem run_V20 (N x):runF A_V20 N Try.f30 S_V20 x=V20 x.1 x.2.1:=by kernel_rfl
theorem ok_V20:OK 30 S_V20:=gdR (A:=A_V20) tc Try.func30 (jeh ⟨⟨fn_V17,good_V17⟩,trivial⟩) (run_V20 big)
def wfw (s_0 t_1:Y4):Z4 :=
  (V20 s_0 t_1).bind fun rq1 =>
  cond rq1.1
  ((V20 t_1 s_0).bind fun rq2 =>
  some (rq2.1,(())))
  (some (false,(())))
def V21 (s_0 t_1:Y4):Z4:=wfw s_0 t_1
def S_V21:Sig:=⟨Q7,[0,0],[],.unit,.bool,.i,fun x=>V21 x.1 x.2.1⟩
def A_V21:Cfg:=mkCfg tab [(30,S_V20)] []
theorem run_V21 (N x):runF A_V21 N Try.f19 S_V21 x=V21 x.1 x.2.1:=by kernel_rfl
theorem ok_V21:OK 19 S_V21:=gdR (A:=A_V21) tc Try.func19 (jeh ⟨ok_V20,trivial⟩) (run_V21 big)
def wda (s_0 t_1:Y4):Option ((Bool×(Bool×Unit))×Unit) :=
  (V16 s_0 t_1).bind fun rq1 =>
  cond (!rq1.1)
  (some ((false,false,()),(())))
  ((V21 s_0 t_1).bind fun rq2 =>
  some ((rq2.1,true,()),(())))
def V22 (s_0 t_1:Y4):Option ((Bool×(Bool×Unit))×Unit):=wda s_0 t_1
def S_V22:Sig:=⟨Q7,[0,0],[],.unit,(.tup (.pair .bool (.pair .bool .unit))),.i,fun x=>V22 x.1 x.2.1⟩
def A_V22:Cfg:=mkCfg tab [(18,S_V16),(19,S_V21)] []
theorem run_V22 (N x):runF A_V22 N Try.f6 S_V22 x=V22 x.1 x.2.1:=by kernel_rfl
theorem ok_V22:OK 6 S_V22:=gdR (A:=A_V22) tc Try.func6 (jeh ⟨ok_V16,ok_V21,trivial⟩) (run_V22 big)
def T_V23 (self:T12):Sig:={ a:=(.pair Q1 (.pair Q1 (.pair I (.pair I Q2)))),md:=[0,0,0,0,1],mf:=[O6],m:=Q2,r := .bool,rf := .i,f:=self }
def T_V24 (self:T12):Sig:={ a:=(.pair Q1 (.pair Q1 (.pair I (.pair I Q2)))),md:=[0,0,0,0,1],mf:=[O6],m:=Q2,r := .bool,rf := .i,f:=self }
def wji (self_V23 self_V24:T12) (s_0 t_1:Y4) (i_2 k_3:Int) (known_4:Y4):Z11 :=
  (atI known_4 (IntKind.i64.wrap ((IntKind.i64.wrap (i_2*(t_1.length:Int)))+k_3))).bind fun _ =>
  (known_4[(IntKind.i64.wrap ((IntKind.i64.wrap (i_2*(t_1.length:Int)))+k_3)).toNat]?).bind fun xq1 =>
  cond (decide (xq1=0))
  ((atI known_4 (IntKind.i64.wrap ((IntKind.i64.wrap (i_2*(t_1.length:Int)))+k_3))).bind fun _ =>
  (known_4[(IntKind.i64.wrap ((IntKind.i64.wrap (i_2*(t_1.length:Int)))+k_3)).toNat]?).bind fun xq2 =>
  (self_V24 (s_0,t_1,i_2,k_3,known_4.set ((IntKind.i64.wrap ((IntKind.i64.wrap (i_2*(t_1.length:Int)))+k_3)).toNat) 2,())).bind fun rq3 =>
  cond rq3.1
  ((atI rq3.2.1 (IntKind.i64.wrap ((IntKind.i64.wrap (i_2*(t_1.length:Int)))+k_3))).bind fun _ =>
  (rq3.2.1[(IntKind.i64.wrap ((IntKind.i64.wrap (i_2*(t_1.length:Int)))+k_3)).toNat]?).bind fun xq4 =>
  (atI (rq3.2.1.set ((IntKind.i64.wrap ((IntKind.i64.wrap (i_2*(t_1.length:Int)))+k_3)).toNat) 1) (IntKind.i64.wrap ((IntKind.i64.wrap (i_2*(t_1.length:Int)))+k_3))).bind fun _ =>
  ((rq3.2.1.set ((IntKind.i64.wrap ((IntKind.i64.wrap (i_2*(t_1.length:Int)))+k_3)).toNat) 1)[(IntKind.i64.wrap ((IntKind.i64.wrap (i_2*(t_1.length:Int)))+k_3)).toNat]?).bind fun xq5 =>
  some (decide (xq5=1),(rq3.2.1.set ((IntKind.i64.wrap ((IntKind.i64.wrap (i_2*(t_1.length:Int)))+k_3)).toNat) 1,())))
  ((atI rq3.2.1 (IntKind.i64.wrap ((IntKind.i64.wrap (i_2*(t_1.length:Int)))+k_3))).bind fun _ =>
  (rq3.2.1[(IntKind.i64.wrap ((IntKind.i64.wrap (i_2*(t_1.length:Int)))+k_3)).toNat]?).bind fun xq6 =>
  some (decide (xq6=1),(rq3.2.1,()))))
  ((atI known_4 (IntKind.i64.wrap ((IntKind.i64.wrap (i_2*(t_1.length:Int)))+k_3))).bind fun _ =>
  (known_4[(IntKind.i64.wrap ((IntKind.i64.wrap (i_2*(t_1.length:Int)))+k_3)).toNat]?).bind fun xq7 =>
  some (decide (xq7=1),(known_4,())))
def V23 (self_V23 self_V24:T12) (s_0 t_1:Y4) (i_2 k_3:Int) (known_4:Y4):Z11:=wji self_V23 self_V24 s_0 t_1 i_2 k_3 known_4
def A_V23 (self_V23 self_V24:T12):Cfg:=mkCfg tab [(51,T_V24 self_V24)] []
theorem run_V23 (self_V23 self_V24:T12) (N:Nat) (x:((T_V23 self_V23)).a.den):runF (A_V23 self_V23 self_V24) N Try.f31 (T_V23 self_V23) x=V23 self_V23 self_V24 x.1 x.2.1 x.2.2.1 x.2.2.2.1 x.2.2.2.2.1:=by kernel_rfl
theorem fn_V23:FnOk Try.prog 31:=⟨_,Try.func31,by kernel_rfl,by kernel_rfl⟩
def wjj (self_V23 self_V24:T12) (s_0 t_1:Y4) (i_2 k_3:Int) (known_4:Y4):Z11 :=
  (atI s_0 i_2).bind fun xq1 =>
  cond (decide (xq1=(-2:Int)))
  ((self_V23 (s_0,t_1,IntKind.i64.wrap (i_2+1),k_3,known_4,())).bind fun rq2 =>
  cond rq2.1
  ((V10 big s_0 (IntKind.i64.wrap (i_2+1))).bind fun rq3 =>
  (self_V23 (s_0,t_1,rq3.1,k_3,rq2.2.1,())).bind fun rq4 =>
  some (rq4.1,(rq4.2.1,())))
  (some (false,(rq2.2.1,()))))
  ((atI t_1 k_3).bind fun xq5 =>
  cond (decide (xq5=(-1:Int)))
  ((self_V23 (s_0,t_1,i_2,IntKind.i64.wrap (k_3+1),known_4,())).bind fun rq6 =>
  cond rq6.1
  ((V10 big t_1 (IntKind.i64.wrap (k_3+1))).bind fun rq7 =>
  (self_V23 (s_0,t_1,i_2,rq7.1,rq6.2.1,())).bind fun rq8 =>
  some (rq8.1,(rq8.2.1,())))
  (some (false,(rq6.2.1,()))))
  ((atI s_0 i_2).bind fun xq9 =>
  cond (decide (0≤xq9))
  ((atI t_1 k_3).bind fun xq10 =>
  cond (decide (0≤xq10))
  ((atI s_0 i_2).bind fun xq11 =>
  (atI t_1 k_3).bind fun xq12 =>
  some (decide (xq11=xq12),(known_4,())))
  ((atI s_0 i_2).bind fun xq13 =>
  cond (decide (xq13=(-1:Int)))
  ((self_V23 (s_0,t_1,IntKind.i64.wrap (i_2+1),k_3,known_4,())).bind fun rq14 =>
  cond rq14.1
  (some (true,(rq14.2.1,())))
  ((V10 big s_0 (IntKind.i64.wrap (i_2+1))).bind fun rq15 =>
  (self_V23 (s_0,t_1,rq15.1,k_3,rq14.2.1,())).bind fun rq16 =>
  cond rq16.1
  (some (true,(rq16.2.1,())))
  ((atI t_1 k_3).bind fun xq17 =>
  cond (decide (xq17=(-2:Int)))
  ((self_V23 (s_0,t_1,i_2,IntKind.i64.wrap (k_3+1),rq16.2.1,())).bind fun rq18 =>
  cond rq18.1
  (some (true,(rq18.2.1,())))
  ((V10 big t_1 (IntKind.i64.wrap (k_3+1))).bind fun rq19 =>
  (self_V23 (s_0,t_1,i_2,rq19.1,rq18.2.1,())).bind fun rq20 =>
  some (rq20.1,(rq20.2.1,()))))
  (some (false,(rq16.2.1,()))))))
  ((atI t_1 k_3).bind fun xq21 =>
  cond (decide (xq21=(-2:Int)))
  ((self_V23 (s_0,t_1,i_2,IntKind.i64.wrap (k_3+1),known_4,())).bind fun rq22 =>
  cond rq22.1
  (some (true,(rq22.2.1,())))
  ((V10 big t_1 (IntKind.i64.wrap (k_3+1))).bind fun rq23 =>
  (self_V23 (s_0,t_1,i_2,rq23.1,rq22.2.1,())).bind fun rq24 =>
  some (rq24.1,(rq24.2.1,()))))
  (some (false,(known_4,()))))))
  ((atI s_0 i_2).bind fun xq25 =>
  cond (decide (xq25=(-1:Int)))
  ((self_V23 (s_0,t_1,IntKind.i64.wrap (i_2+1),k_3,known_4,())).bind fun rq26 =>
  cond rq26.1
  (some (true,(rq26.2.1,())))
  ((V10 big s_0 (IntKind.i64.wrap (i_2+1))).bind fun rq27 =>
  (self_V23 (s_0,t_1,rq27.1,k_3,rq26.2.1,())).bind fun rq28 =>
  cond rq28.1
  (some (true,(rq28.2.1,())))
  ((atI t_1 k_3).bind fun xq29 =>
  cond (decide (xq29=(-2:Int)))
  ((self_V23 (s_0,t_1,i_2,IntKind.i64.wrap (k_3+1),rq28.2.1,())).bind fun rq30 =>
  cond rq30.1
  (some (true,(rq30.2.1,())))
  ((V10 big t_1 (IntKind.i64.wrap (k_3+1))).bind fun rq31 =>
  (self_V23 (s_0,t_1,i_2,rq31.1,rq30.2.1,())).bind fun rq32 =>
  some (rq32.1,(rq32.2.1,()))))
  (some (false,(rq28.2.1,()))))))
  ((atI t_1 k_3).bind fun xq33 =>
  cond (decide (xq33=(-2:Int)))
  ((self_V23 (s_0,t_1,i_2,IntKind.i64.wrap (k_3+1),known_4,())).bind fun rq34 =>
  cond rq34.1
  (some (true,(rq34.2.1,())))
  ((V10 big t_1 (IntKind.i64.wrap (k_3+1))).bind fun rq35 =>
  (self_V23 (s_0,t_1,i_2,rq35.1,rq34.2.1,())).bind fun rq36 =>
  some (rq36.1,(rq36.2.1,()))))
  (some (false,(known_4,())))))))
def V24 (self_V23 self_V24:T12) (s_0 t_1:Y4) (i_2 k_3:Int) (known_4:Y4):Z11:=wjj self_V23 self_V24 s_0 t_1 i_2 k_3 known_4
def A_V24 (self_V23 self_V24:T12):Cfg:=mkCfg tab [(31,T_V23 self_V23),(41,S_V10)] []
theorem run_V24 (self_V23 self_V24:T12) (N:Nat) (x:((T_V24 self_V24)).a.den):runF (A_V24 self_V23 self_V24) N Try.f51 (T_V24 self_V24) x=V24 self_V23 self_V24 x.1 x.2.1 x.2.2.1 x.2.2.2.1 x.2.2.2.2.1:=by kernel_rfl
theorem fn_V24:FnOk Try.prog 51:=⟨_,Try.func51,by kernel_rfl,by kernel_rfl⟩
def wi:Nat→(Z10→Z11)×(Z10→Z11)
  | 0=>(fun _=>none,fun _=>none)
  | d+1=>(fun x=>V23 (wi d).1 (wi d).2 x.1 x.2.1 x.2.2.1 x.2.2.2.1 x.2.2.2.2.1,fun x=>V24 (wi d).1 (wi d).2 x.1 x.2.1 x.2.2.1 x.2.2.2.1 x.2.2.2.2.1)
def R_V23 (d:Nat):Z10→Z11:=(wi d).1
def S_V23:Sig:=T_V23 (R_V23 big)
def R_V24 (d:Nat):Z10→Z11:=(wi d).2
def S_V24:Sig:=T_V24 (R_V24 big)
theorem wn:∀d,Gx.Good Try.prog 31 (T_V23 (R_V23 d))∧Gx.Good Try.prog 51 (T_V24 (R_V24 d))
  | 0=>⟨(fun x r h=>by cases(show(none:Option _)=some r from h)),(fun x r h=>by cases(show(none:Option _)=some r from h))⟩
  | d+1=>⟨(ux Try.func31 (of_decide_eq_true (by kernel_rfl)) fun x r h=>⟨A_V23 (R_V23 d) (R_V24 d),big,uy tabOk,jeh (show SigsOk Try.prog [(51,T_V24 (R_V24 d))] from⟨⟨fn_V24,(wn d).2⟩,trivial⟩),(run_V23 (R_V23 d) (R_V24 d) big x).trans h⟩),(ux Try.func51 (of_decide_eq_true (by kernel_rfl)) fun x r h=>⟨A_V24 (R_V23 d) (R_V24 d),big,uy tabOk,jeh (show SigsOk Try.prog [(31,T_V23 (R_V23 d)),(41,S_V10)] from⟨⟨fn_V23,(wn d).1⟩,ok_V10,trivial⟩),(run_V24 (R_V23 d) (R_V24 d) big x).trans h⟩)⟩
theorem good_V23:Gx.Good Try.prog 31 S_V23:=(wn big).1
theorem good_V24:Gx.Good Try.prog 51 S_V24:=(wn big).2
def wjk (s_0 t_1:Y4):Z4 :=
  (mkI (0:Int) (IntKind.i64.wrap ((s_0.length:Int)*(t_1.length:Int)))).bind fun xq1=>(mkI (0:Int) (IntKind.i64.wrap ((s_0.length:Int)*(t_1.length:Int)))).bind fun xq2=>cond (decide ((IntKind.i64.wrap ((s_0.length:Int)*(t_1.length:Int)))≤(IntKind.i64.wrap ((s_0.length:Int)*(t_1.length:Int)))))
  ((R_V23 big (s_0,t_1,0,0,xq2,())).bind fun rq3 =>
  some (rq3.1,(())))
  none
def V26 (s_0 t_1:Y4):Z4:=wjk s_0 t_1
def S_V26:Sig:=⟨Q7,[0,0],[],.unit,.bool,.i,fun x=>V26 x.1 x.2.1⟩
def A_V26:Cfg:=mkCfg tab [(31,S_V23)] []
theorem run_V26 (N x):runF A_V26 N Try.f20 S_V26 x=V26 x.1 x.2.1:=by kernel_rfl
theorem ok_V26:OK 20 S_V26:=gdR (A:=A_V26) tc Try.func20 (jeh ⟨⟨fn_V23,good_V23⟩,trivial⟩) (run_V26 big)
def wjl (s_0 t_1:Y4):Option ((Bool×(Bool×Unit))×Unit) :=
  (V12 s_0 t_1).bind fun rq1 =>
  cond (!rq1.1)
  (some ((false,false,()),(())))
  ((V26 s_0 t_1).bind fun rq2 =>
  cond rq2.1
  ((V26 t_1 s_0).bind fun rq3 =>
  some ((rq3.1,true,()),(())))
  (some ((false,true,()),(()))))
def V27 (s_0 t_1:Y4):Option ((Bool×(Bool×Unit))×Unit):=wjl s_0 t_1
def S_V27:Sig:=⟨Q7,[0,0],[],.unit,(.tup (.pair .bool (.pair .bool .unit))),.i,fun x=>V27 x.1 x.2.1⟩
def A_V27:Cfg:=mkCfg tab [(15,S_V12),(20,S_V26)] []
theorem run_V27 (N x):runF A_V27 N Try.f7 S_V27 x=V27 x.1 x.2.1:=by kernel_rfl
theorem ok_V27:OK 7 S_V27:=gdR (A:=A_V27) tc Try.func7 (jeh ⟨ok_V12,ok_V26,trivial⟩) (run_V27 big)
def wjm (list_0:Y4):Z0 :=
  (appI [] list_0).bind fun xq1 =>
  some (xq1,(()))
def V28 (list_0:Y4):Z0:=wjm list_0
def S_V28:Sig:=⟨Q2,[0],[],.unit,Q1,O6,fun x=>V28 x.1⟩
def A_V28:Cfg:=mkCfg tab [] []
theorem run_V28 (N x):runF A_V28 N Try.f33 S_V28 x=V28 x.1:=by kernel_rfl
theorem ok_V28:OK 33 S_V28:=gdR (A:=A_V28) tc Try.func33 (jeh trivial) (run_V28 big)
def wd1 (rec:Y4→Int→Int→Z0) (k:Y4→Z0) (a3:Y4) (a9 a10:Int):Z0 :=
  cond (decide (a10<a9))
  ((atI a3 a10).bind fun _ =>
  (a3[a10.toNat]?).bind fun xq2 =>
  cond (decide (xq2<0))
  ((atI a3 a10).bind fun _ =>
  (a3[a10.toNat]?).bind fun xq3 =>
  rec (a3.set a10.toNat (IntKind.i64.wrap ((-3:Int)-xq2))) a9 (IntKind.i64.wrap (a10+1)))
  (rec a3 a9 (IntKind.i64.wrap (a10+1))))
  (k a3)
def wbq (a3:Y4):Z0 :=
  some (a3,(()))
def wfx (L3:Y4→Int→Int→Z0) (w_0:Y4):Z0 :=
  (V28 w_0).bind fun rq1 =>
  L3 rq1.1 (rq1.1.length:Int) 0
def wap (N:Nat) (k:Y4→Z0):Nat→Y4→Int→Int→Z0
  | 0,_,_,_=>none
  | m+1,a3,a9,a10=>wd1 (wap N k m) k a3 a9 a10
def wdz (N:Nat):=wap N (wbq) N
def V29 (N:Nat) (w_0:Y4):Z0:=wfx (wdz N) w_0
def S_V29:Sig:=⟨Q2,[0],[],.unit,Q1,O6,fun x=>V29 big x.1⟩
def A_V29:Cfg:=mkCfg tab [(33,S_V28)] [(6,(dr 3 ([.as Q1 O6]++dr 4 [.keep,B0,B0]))),(17,(dr 3 [.as Q1 O6]))]
noncomputable def yu (N n:Nat) (K:T10) (a3:Y4) (a9 a10:Int):Z0:=itr A_V29 N 6 Try.f32 [1,1,0,1,0,0] n ([.u,.u,.u,.val Q1 O6 a3,.u,.u,.u,.u,.ref 3 [] .val,W0 a9,W0 a10]++us 13) K
noncomputable def wfy:Ex→St→Z0:=finish A_V29 S_V29 Try.f32.results.toList
noncomputable def wd0 (kX:T6) (a3:Y4):Z0:=kX ((ud 3 [.val Q1 O6 a3])++us 20)
noncomputable def wbo (kX:T6) (kO:T5):=exK wfy 0 (A_V29.shape 17) kX kO
theorem wc3 (N kX kO):∀n,yu N n (wbo kX kO)=wap N (wd0 kX) n
 | 0=>rfl
 | m+1=>(show yu N (m+1) (wbo kX kO)=wd1 (yu N m (wbo kX kO)) (wd0 kX) by kernel_rfl).trans (by rw[wc3 N kX kO m];funext _ _ _;rfl)
noncomputable def wbp (N:Nat):=(blockK 0 (sqK A_V29 N 17 500008 Try.f32 [1,1,1] wfy))
noncomputable def wgt (N:Nat) (st':St):Z0:=rn A_V29 N Try.f32 [1,1,1] st' wfy
theorem wj4 (N):yu N N (wbp N)=wdz N:=by
 rw[show yu N N (wbp N)=yu N N (wbo (wgt N) fun j=>(wbp N) (.exit j)) from(by funext _ _ _;exact jlb),wc3,show wd0 (wgt N)=wbq by kernel_rfl];rfl
theorem run_V29 (N x):runF A_V29 N Try.f32 S_V29 x=V29 N x.1:=(show _=(wfx (yu N N (wbp N)) x.1) by kernel_rfl).trans (by rw[wj4 N];rfl)
theorem ok_V29:OK 32 S_V29:=gdR (A:=A_V29) tc Try.func32 (jeh ⟨ok_V28,trivial⟩) (run_V29 big)
def wjn (w_0:Y4):Option ((Y4×Z6)×Unit) :=
  (V14 big w_0 1).bind fun rq1 =>
  (slI w_0 1 rq1.1).bind fun xq2 =>
  (slI w_0 rq1.1 w_0.length).bind fun xq3 =>
  some ((xq2,xq3,()),(()))
def V30 (w_0:Y4):Option ((Y4×Z6)×Unit):=wjn w_0
def S_V30:Sig:=⟨Q2,[0],[],.unit,(.tup Q7),.i,fun x=>V30 x.1⟩
def A_V30:Cfg:=mkCfg tab [(26,S_V14)] []
theorem run_V30 (N x):runF A_V30 N Try.f34 S_V30 x=V30 x.1:=by kernel_rfl
theorem ok_V30:OK 34 S_V30:=gdR (A:=A_V30) tc Try.func34 (jeh ⟨ok_V14,trivial⟩) (run_V30 big)
def wfz (sign_0:Int) (s_1 t_2:Y4):Z0 :=
  (appI [sign_0] s_1).bind fun xq1 =>
  (appI xq1 t_2).bind fun xq2 =>
  some (xq2,(()))
def V31 (sign_0:Int) (s_1 t_2:Y4):Z0:=wfz sign_0 s_1 t_2
def S_V31:Sig:=⟨(.pair I Q7),[0,0,0],[],.unit,Q1,O6,fun x=>V31 x.1 x.2.1 x.2.2.1⟩
def A_V31:Cfg:=mkCfg tab [] []
theorem run_V31 (N x):runF A_V31 N Try.f36 S_V31 x=V31 x.1 x.2.1 x.2.2.1:=by kernel_rfl
theorem ok_V31:OK 36 S_V31:=gdR (A:=A_V31) tc Try.func36 (jeh trivial) (run_V31 big)
def T_V32 (self:(Y4×Z2)→Option Y2):Sig:={ a:=(.pair Q1 (.pair I .unit)),md:=[0,0],mf:=[],m := .unit,r:=Q4,rf:=(.o O6),f:=self }
def wf0 (self_V32:(Y4×Z2)→Option Y2) (w_0:Y4) (sign_1:Int):Option Y2 :=
  (atI w_0 0).bind fun xq1 =>
  cond (decide (xq1≠sign_1))
  ((V28 w_0).bind fun rq2 =>
  some ([rq2.1],(())))
  ((V30 w_0).bind fun rq3 =>
  (self_V32 (rq3.1.1,sign_1,())).bind fun rq4 =>
  (self_V32 (rq3.1.2.1,sign_1,())).bind fun rq5 =>
  (appI rq4.1 rq5.1).bind fun xq6 =>
  some (xq6,(())))
def V32 (self_V32:(Y4×Z2)→Option Y2) (w_0:Y4) (sign_1:Int):Option Y2:=wf0 self_V32 w_0 sign_1
def A_V32 (self_V32:(Y4×Z2)→Option Y2):Cfg:=mkCfg tab [(33,S_V28),(34,S_V30),(35,T_V32 self_V32)] []
theorem run_V32 (self_V32:(Y4×Z2)→Option Y2) (N:Nat) (x:((T_V32 self_V32)).a.den):runF (A_V32 self_V32) N Try.f35 (T_V32 self_V32) x=V32 self_V32 x.1 x.2.1:=by kernel_rfl
theorem fn_V32:FnOk Try.prog 35:=⟨_,Try.func35,by kernel_rfl,by kernel_rfl⟩
def R_V32:Nat→(Y4×Z2)→Option Y2
  | 0,_=>none
  | d+1,x=>V32 (R_V32 d) x.1 x.2.1
def S_V32:Sig:=T_V32 (R_V32 big)
theorem xw:∀d,Gx.Good Try.prog 35 (T_V32 (R_V32 d))
  | 0=>fun x r h=>by cases h
  | d+1=>ux Try.func35 (of_decide_eq_true (by kernel_rfl)) fun x r h=>⟨A_V32 (R_V32 d),big,uy tabOk,jeh (show SigsOk Try.prog [(33,S_V28),(34,S_V30),(35,T_V32 (R_V32 d))] from⟨ok_V28,ok_V30,⟨fn_V32,xw d⟩,trivial⟩),(run_V32 (R_V32 d) big x).trans h⟩
theorem good_V32:Gx.Good Try.prog 35 S_V32:=xw big
def yc (rec:Y3→Int→Y4→Y3→Int→Int→Y3→Int→Int→Option Z2) (k:Y3→Y3→Int→Int→Option Z2) (a0:Y3) (a3:Int) (a4:Y4) (a7:Y3) (a8 a9:Int) (a14:Y3) (a15 a16:Int):Option Z2 :=
  cond (decide (a16<a15))
  ((atI a14 a16).bind fun xq2 =>
  cond (decide (a3=a16))
  (rec a0 a3 a4 a7 a8 a9 a14 a15 (IntKind.i64.wrap (a16+1)))
  ((V20 a4 xq2).bind fun rq3 =>
  cond (!rq3.1)
  (rec a0 a3 a4 a7 a8 a9 a14 a15 (IntKind.i64.wrap (a16+1)))
  (cond (decide (a16<a3))
  (some (a3,(())))
  ((V20 xq2 a4).bind fun rq4 =>
  cond (!rq4.1)
  (some (a3,(())))
  (rec a0 a3 a4 a7 a8 a9 a14 a15 (IntKind.i64.wrap (a16+1)))))))
  (k a0 a7 a8 a9)
def zl (rec:Y3→Y3→Int→Int→Option Z2) (a0 a7:Y3) (a8 a9:Int):Option Z2 :=
  rec a0 a7 a8 (IntKind.i64.wrap (a9+1))
def yb (L5:Y3→Int→Y4→Y3→Int→Int→Y3→Int→Int→Option Z2) (k:Option Z2) (a0 a7:Y3) (a8 a9:Int):Option Z2 :=
  cond (decide (a9<a8))
  ((atI a7 a9).bind fun xq1 =>
  L5 a0 a9 xq1 a7 a8 a9 a0 (a0.length:Int) 0)
  (k)
def ya:Option Z2 :=
  some ((-1:Int),(()))
def wdb (L2:Y3→Y3→Int→Int→Option Z2) (m_0:Y3):Option Z2 :=
  L2 m_0 m_0 (m_0.length:Int) 0
def wd4 (N:Nat) (k:Y3→Y3→Int→Int→Option Z2):=itN (fun r=>yc r k) fun _ _ _ _ _ _ _ _ _=>none
def yv (N:Nat) (rec:Y3→Y3→Int→Int→Option Z2) (k:Option Z2):=wd4 N (zl rec) N
def wd3 (N:Nat) (k:Option Z2):=itN (fun r=>yb (yv N r k) k) fun _ _ _ _=>none
def wd2 (N:Nat):=wd3 N (ya) N
def V34 (N:Nat) (m_0:Y3):Option Z2:=wdb (wd2 N) m_0
def S_V34:Sig:=⟨(.pair Q4 .unit),[0],[],.unit,I,.i,fun x=>V34 big x.1⟩
def A_V34:Cfg:=mkCfg tab [(30,S_V20)] [(4,([B1]++dr 6 [B1,B0,B0])),(10,([B1,D0,D0,B0,B2,D0,D0,B1,B0,B0]++dr 4 [B1,B0,B0])),(25,[]),(23,([B1]++dr 6 [B1,B0,B0]))]
noncomputable def yw (N n:Nat) (K:Ex→St→Option Z2) (a0 a7:Y3) (a8 a9:Int):Option Z2:=itr A_V34 N 4 Try.f37 [1,0,1,0,0] n (([W2 a0]++ud 6 [W2 a7,W0 a8,W0 a9])++us 32) K
noncomputable def waq (N n:Nat) (K:Ex→St→Option Z2) (a0:Y3) (a3:Int) (a4:Y4) (a7:Y3) (a8 a9:Int) (a14:Y3) (a15 a16:Int):Option Z2:=itr A_V34 N 10 Try.f37 [1,0,1,0,0,1,1,0,0,1,1,0,0] n (([W2 a0,.u,.u,W0 a3,W1 a4,.u,.u,W2 a7,W0 a8,W0 a9]++ud 4 [W2 a14,W0 a15,W0 a16])++us 25) K
noncomputable def wdc:Ex→St→Option Z2:=finish A_V34 S_V34 Try.f37.results.toList
noncomputable def wbt (kX:St→Option Z2):Option Z2:=kX ([]++us 42)
noncomputable def zk (kX:St→Option Z2) (kO:Nat→St→Option Z2):Ex→St→Option Z2:=exK wdc 0 (A_V34.shape 25) kX kO
noncomputable def wgv (kX:St→Option Z2) (a0 a7:Y3) (a8 a9:Int):Option Z2:=kX (([W2 a0]++ud 6 [W2 a7,W0 a8,W0 a9])++us 32)
noncomputable def wgu (kX:St→Option Z2) (kO:Nat→St→Option Z2):Ex→St→Option Z2:=exK wdc 2 (A_V34.shape 23) kX kO
theorem wgz (N kX kO):∀n,waq N n (wgu kX kO)=wd4 N (wgv kX) n :=
 itE rfl fun m=>by kernel_rfl
noncomputable def wbs (N m:Nat) (kX:St→Option Z2) (kO:Nat→St→Option Z2):Ex→St→Option Z2:=(blockK 2 (blockK 1 (sqK A_V34 N 23 500011 Try.f37 [1,0,1,0,0,1,1,1] (itK A_V34 N 4 Try.f37 [1,0,1,0,0] m (zk kX kO)))))
noncomputable def wg1 (N m:Nat) (kX:St→Option Z2) (kO:Nat→St→Option Z2) (st':St):Option Z2:=rn A_V34 N Try.f37 [1,0,1,0,0,1,1,1] st' (itK A_V34 N 4 Try.f37 [1,0,1,0,0] m (zk kX kO))
theorem wj6 (N m kX kO) {r}(h:yw N m (zk kX kO)=r):waq N N (wbs N m kX kO)=yv N r (wbt kX):=by
 rw[show waq N N (wbs N m kX kO)=waq N N (wgu (wg1 N m kX kO) fun j=>(wbs N m kX kO) (.exit j)) from(by funext _ _ _ _ _ _ _ _ _;exact jlb),wgz,show wgv (wg1 N m kX kO)=zl (yw N m (zk kX kO)) by kernel_rfl,h];rfl
theorem wgy (N kX kO):∀n,yw N n (zk kX kO)=wd3 N (wbt kX) n :=
 itE rfl fun m=>(show _=yb (waq N N (wbs N m kX kO)) (wbt kX) by kernel_rfl).trans (by rw[wj6 N m kX kO rfl]<;>rfl)
noncomputable def wbr (N:Nat):Ex→St→Option Z2:=(blockK 0 (sqK A_V34 N 25 500012 Try.f37 [1,1] wdc))
noncomputable def wg0 (N:Nat) (st':St):Option Z2:=rn A_V34 N Try.f37 [1,1] st' wdc
theorem wj5 (N):yw N N (wbr N)=wd2 N:=by
 rw[show yw N N (wbr N)=yw N N (zk (wg0 N) fun j=>(wbr N) (.exit j)) from(by funext _ _ _ _;exact jlb),wgy,show wbt (wg0 N)=ya by kernel_rfl];rfl
theorem run_V34 (N x):runF A_V34 N Try.f37 S_V34 x=V34 N x.1:=(show _=(wdb (yw N N (wbr N)) x.1) by kernel_rfl).trans (by rw[wj5 N];rfl)
theorem ok_V34:OK 37 S_V34:=gdR (A:=A_V34) tc Try.func37 (jeh ⟨ok_V20,trivial⟩) (run_V34 big)
def yz (rec:T2) (k:T1) (a1:Y4) (a6:Int) (a10:Y3) (a11 a12:Int) (a22:Y3) (a23 a24:Int):Z3 :=
  cond (decide (a24<a23))
  ((atI a22 a24).bind fun _ =>
  (a22[a24.toNat]?).bind fun xq4 =>
  (a22[a24.toNat]?).bind fun xq5 =>
  (V20 xq5 a1).bind fun rq6 =>
  cond rq6.1
  ((a22[a24.toNat]?).bind fun xq7 =>
  (R_V32 big (xq7,(-2:Int),())).bind fun rq8 =>
  some ((a6,rq8.1,()),(())))
  (rec a1 a6 a10 a11 a12 a22 a23 (IntKind.i64.wrap (a24+1))))
  (k a1 a10 a11 a12)
def zm (rec:T1) (a1:Y4) (a10:Y3) (a11 a12:Int):Z3 :=
  rec a1 a10 a11 (IntKind.i64.wrap (a12+1))
def yf (rec:T1) (L6:T2) (k:Z3) (a1:Y4) (a10:Y3) (a11 a12:Int):Z3 :=
  cond (decide (a12<a11))
  ((atI a10 a12).bind fun xq1 =>
  (atI xq1 0).bind fun xq2 =>
  cond (decide (xq2≠(-1:Int)))
  (rec a1 a10 a11 (IntKind.i64.wrap (a12+1)))
  ((R_V32 big (xq1,(-1:Int),())).bind fun rq3 =>
  L6 a1 a12 a10 a11 a12 rq3.1 (rq3.1.length:Int) 0))
  (k)
def xg:Z3 :=
  some (((-1:Int),[],()),(()))
def wdd (L2:T1) (m_0:Y3) (w_1:Y4):Z3 :=
  L2 w_1 m_0 (m_0.length:Int) 0
def wd7 (N:Nat) (k:T1):=itN (fun r=>yz r k) fun _ _ _ _ _ _ _ _=>none
def yd (N:Nat) (rec:T1) (k:Z3):=wd7 N (zm rec) N
def wd6 (N:Nat) (k:Z3):=itN (fun r=>yf r (yd N r k) k) fun _ _ _ _=>none
def wd5 (N:Nat):=wd6 N (xg) N
def V35 (N:Nat) (m_0:Y3) (w_1:Y4):Z3:=wdd (wd5 N) m_0 w_1
def S_V35:Sig:=⟨(.pair Q4 Q2),[0,0],[],.unit,(.tup (.pair I (.pair Q4 .unit))),(.p .i (.p (.o O6) .i)),fun x=>V35 big x.1 x.2.1⟩
def A_V35:Cfg:=mkCfg tab [(35,S_V32),(30,S_V20)] [(4,([D0,B2]++dr 8 [B1,B0,B0])),(12,([D0,B2]++dr 4 ([B0]++dr 3 ([B1,B0,B0]++dr 9 [.as Q4 (.o O6),B0,B0])))),(25,[]),(23,([D0,B2]++dr 8 [B1,B0,B0]))]
noncomputable def ye (N n:Nat) (K:Ex→St→Z3) (a1:Y4) (a10:Y3) (a11 a12:Int):Z3:=itr A_V35 N 4 Try.f38 [1,0,1,0,0] n (([.u,W1 a1]++ud 8 [W2 a10,W0 a11,W0 a12])++us 23) K
noncomputable def war (N n:Nat) (K:Ex→St→Z3) (a1:Y4) (a6:Int) (a10:Y3) (a11 a12:Int) (a22:Y3) (a23 a24:Int):Z3:=itr A_V35 N 12 Try.f38 [1,0,1,0,0,1,1,0,0,1,1,1,0,0] n (([.u,W1 a1]++ud 4 ([W0 a6]++ud 3 ([W2 a10,W0 a11,W0 a12]++ud 9 [.val Q4 (.o O6) a22,W0 a23,W0 a24])))++us 11) K
noncomputable def wde:Ex→St→Z3:=finish A_V35 S_V35 Try.f38.results.toList
noncomputable def wbw (kX:St→Z3):Z3:=kX ([]++us 36)
noncomputable def yx (kX:St→Z3) (kO:Nat→St→Z3):=exK wde 0 (A_V35.shape 25) kX kO
noncomputable def wg3 (kX:St→Z3) (a1:Y4) (a10:Y3) (a11 a12:Int):Z3:=kX (([.u,W1 a1]++ud 8 [W2 a10,W0 a11,W0 a12])++us 23)
noncomputable def wg2 (kX:St→Z3) (kO:Nat→St→Z3):=exK wde 2 (A_V35.shape 23) kX kO
theorem wg7 (N kX kO):∀n,war N n (wg2 kX kO)=wd7 N (wg3 kX) n :=
 itE rfl fun m=>by kernel_rfl
noncomputable def wbv (N m:Nat) (kX:St→Z3) (kO:Nat→St→Z3):=(blockK 2 (blockK 1 (sqK A_V35 N 23 500011 Try.f38 [1,0,1,0,0,1,1,1] (itK A_V35 N 4 Try.f38 [1,0,1,0,0] m (yx kX kO)))))
noncomputable def wg9 (N m:Nat) (kX:St→Z3) (kO:Nat→St→Z3) (st':St):Z3:=rn A_V35 N Try.f38 [1,0,1,0,0,1,1,1] st' (itK A_V35 N 4 Try.f38 [1,0,1,0,0] m (yx kX kO))
theorem wj8 (N m kX kO) {r}(h:ye N m (yx kX kO)=r):war N N (wbv N m kX kO)=yd N r (wbw kX):=by
 rw[show war N N (wbv N m kX kO)=war N N (wg2 (wg9 N m kX kO) fun j=>(wbv N m kX kO) (.exit j)) from(by funext _ _ _ _ _ _ _ _;exact jlb),wg7,show wg3 (wg9 N m kX kO)=zm (ye N m (yx kX kO)) by kernel_rfl,h];rfl
theorem wg6 (N kX kO):∀n,ye N n (yx kX kO)=wd6 N (wbw kX) n :=
 itE rfl fun m=>(show _=yf (ye N m (yx kX kO)) (war N N (wbv N m kX kO)) (wbw kX) by kernel_rfl).trans (by rw[wj8 N m kX kO rfl]<;>rfl)
noncomputable def wbu (N:Nat):=(blockK 0 (sqK A_V35 N 25 500012 Try.f38 [1,1] wde))
noncomputable def wg8 (N:Nat) (st':St):Z3:=rn A_V35 N Try.f38 [1,1] st' wde
theorem wj7 (N):ye N N (wbu N)=wd5 N:=by
 rw[show ye N N (wbu N)=ye N N (yx (wg8 N) fun j=>(wbu N) (.exit j)) from(by funext _ _ _ _;exact jlb),wg6,show wbw (wg8 N)=xg by kernel_rfl];rfl
theorem run_V35 (N x):runF A_V35 N Try.f38 S_V35 x=V35 N x.1 x.2.1:=(show _=(wdd (ye N N (wbu N)) x.1 x.2.1) by kernel_rfl).trans (by rw[wj7 N];rfl)
theorem ok_V35:OK 38 S_V35:=gdR (A:=A_V35) tc Try.func38 (jeh ⟨⟨fn_V32,good_V32⟩,ok_V20,trivial⟩) (run_V35 big)
end Go.Proofs.Ytiihhfkjppecaaa
