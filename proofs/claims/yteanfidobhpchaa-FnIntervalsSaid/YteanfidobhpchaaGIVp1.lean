import Derived.Test.YteanfidobhpchaaGxGen
import Derived.Test.YteanfidobhpchaaRows
import Derived.Test.YteanfidobhpchaaChecked
import Derived.KernelRfl
set_option maxRecDepth 100000
set_option linter.unusedVariables false
namespace Go.Proofs.Yteanfidobhpchaa
open Go Go.Gx Go.Proofs
abbrev I:=Ty.int .i64
abbrev Q0:Ty:=(.pair (.sl (.sl I)) .unit)
abbrev Q1:Ty:=(.ptr (.pair (.sl (.int .u8)) (.pair I (.pair (.int .u64) .unit))))
abbrev O2:Fl:=(.o (.p (.o (.o .i)) .i))
abbrev Q3:Ty:=(.opt (.pair (.sl (.sl .bool)) (.pair (.sl (.sl I)) Q0)))
abbrev Q4:Ty:=(.sl (.sl .bool))
abbrev O5:Fl:=(.o .i)
abbrev Q6:Ty:=(.pair I (.pair I .unit))
abbrev Q7:Ty:=(.ptr Q0)
abbrev Q8:Ty:=(.sl I)
abbrev Q9:Ty:=(.tup (.pair .bool (.pair .bool .unit)))
abbrev Q10:Ty:=(.pair (.ptr Q4) (.pair (.ptr I) (.pair (.ptr I) .unit)))
abbrev O11:Fl:=(.o O5)
abbrev Q12:Ty:=(.pair Q0 .unit)
abbrev Q13:Ty:=(.sl Q8)
abbrev Q14:Ty:=(.sl (.int .u8))
abbrev Q15:Ty:=(.pair .bool .unit)
abbrev Q16:Ty:=(.pair Q0 Q6)
abbrev Q17:Ty:=(.sl Q6)
abbrev W0:=V.val I .i
abbrev W1:=V.val Q7 O2
abbrev W2:=V.val Q7 O5
abbrev W3:=V.val Q8 O5
abbrev W4:=V.val Q8 .i
abbrev W5:=V.val Q4 O11
abbrev B0:=Sh.as I .i
abbrev B1:=Sh.as Q7 O2
abbrev B2:=Sh.as Q7 O5
abbrev B3:=Sh.as Q8 O5
abbrev B4:=Sh.as Q8 .i
abbrev B5:=Sh.as Q4 O11
abbrev D0:=Sh.drop
abbrev Y1:=(Option ((List (List Bool))×((List (List Int))×((List (List Int))×Unit))))
abbrev Y2:=((List (List Int))×Unit)
abbrev Y7:=(Int×((List (Int×((List Int)×Unit)))×Unit))
abbrev Y6:=(Int×((List Int)×Unit))
abbrev Y3:=(List (List Int))
abbrev Y4:=(List Int)
abbrev Y5:=(List (List Bool))
abbrev Z0:=(Bool×Unit)
abbrev Z1:=(Int×(Int×Unit))
abbrev Z2:=Option ((Bool×Z0)×Unit)
abbrev Z3:=Option (Y2×Unit)
abbrev Z4:=Option (Y2×((Y4×Z1)×Unit))
abbrev Z5:=Option (Int×Unit)
abbrev Z6:=Option ((Option Y4)×Unit)
abbrev Z7:=Option (Y4×Unit)
abbrev Z8:=Option ((Y3×Z0)×Unit)
abbrev Z9:=Option ((Y5×Z0)×Unit)
abbrev Z10:=Option ((Y4×Z0)×Unit)
abbrev Z11:=Option (Y5×Unit)
abbrev Z12:=(Y4×Z1)
abbrev Z13:=(List Z1)
abbrev Z14:=Option (Z13×Unit)
abbrev Z15:=Option (Y4×(Z12×Unit))
abbrev Z16:=(Y1×(Int×Unit))
abbrev T0:=Unit→Y1→Int→Int→Z2
abbrev T1:=Unit→Y1→Int→Int→Int→Int→Int→Z2
abbrev T2:=Nat→St→Z3
abbrev T3:=Int→Y5→Int→Y3→Int→Int→Y4→Int→Bool→Bool→Y4→Int→Int→Z9
abbrev T4:=Y1→Int→Int→Int→Int→Int→Z6
abbrev T5:=Nat→Prop
abbrev T6:=St→Z3
abbrev T7:=Y2→Y2→Y2→Y2→Int→Int→Int→Y4→Int→Z3
abbrev T8:=Z12→Y2→Int→Z13→Int→Z4
abbrev T9:=Int→Int→Y2→Y4→Int→Z10
abbrev T10:=Int→Y2→Y5→Int→Int→Z3
abbrev T11:=Int→Y2→Y5→Int→Z3
abbrev T12:=Int→Z13→Y2→Y5→Int→Z3
abbrev T13:=(Y5×Z1)→Y4→Int→Int→Z7
abbrev T14:=Y5→Y4→Int→Bool→Y4→Int→Int→Y4→Int→Int→Z5
abbrev T15:=Y1→Int→Int→Int→Int→Int→Int→Int→Int→Z6
abbrev T16:=Y2→Y2→Y2→Y2→Int→Int→Z3
abbrev T17:=Y5→Y5→Int→Int→Z11
abbrev T18:=Y1→Int→Int→Int→Z5
abbrev T19:=Y5→Y3→Int→Y4→Int→Int→Int→Int→Z8
abbrev T20:=Y1→Int→Int→Z6
abbrev T21:=Int→Y5→Y3→Int→Int→Z9
abbrev T22:=Int→Y2→Y5→Y2→Int→Z3
abbrev T23:=Y5→Y4→Y4→Int→Int→Z5
abbrev T24:=Y5→Y5→Int→Int→Int→Int→Int→Z11
abbrev T25:=Z12→Y2→Y2→Int→Y4→Z13→Int→Z4
abbrev T26:=Int→Y2→Y5→Y2→Int→Y4→Int→Z3
abbrev T27:=Ex→St→Z3
abbrev T28:=Nat→St→Z2
abbrev T29:=Z12→Y2→Int→Z13→Z4
abbrev T30:=Z12→Y2→Int→Z13→Int→Int→Z4
abbrev T31:=Int→Y2→Y5→Int→Int→Int→Z3
abbrev T32:=Z12→Y2→Int→Z13→Y4→Int→Z4
abbrev T33:=Y5→Y3→Int→Int→Z8
abbrev T34:=Y4→Y2→Y4→Int→Bool→Int→Z5
abbrev T35:=Nat→Y5→Prop
abbrev T36:=Nat→Y4→Prop
abbrev T37:=Nat→St→Z5
abbrev T38:=Y2→Y2→Y2→Int→Z3
abbrev T39:=Y4→Y2→Y4→Int→Z5
abbrev T40:=Y2→Y2→Y2→Int→Y4→Int→Z3
abbrev T41:=Y2→Y2→Y2→Y2→Int→Int→Int→Y4→Z3
abbrev T42:=St→Z2
abbrev T43:=Y2→Y2→Z3
abbrev T44:=Int→Int→Y1→Int→Int→Z2
abbrev T45:=Y2→Y2→Y2→Y2→Int→Int→Int→Z3
abbrev T46:=St→Z5
abbrev T47:=Y4→Y4→Y4→Int→Int→Z7
abbrev T48:=Y2→Y2→Y2→Y2→Int→Int→Int→Y4→Int→Int→Z3
abbrev T49:=Int→Y5→Y3→Int→Int→Y4→Int→Bool→Bool→Z9
abbrev T50:=Int→Y2→Y5→Z3
abbrev T51:=Z12→Int→Y4→Int→Z15
abbrev T52:=Int→Y5→Int→Int→Z11
abbrev T53:=Int→Int→Y2→Int→Z2
abbrev T54:=Y2→Z13→Int→Z14
abbrev T55:=Ex→St→Z2
abbrev T56:=Y4→Int→Int→Z7
abbrev T57:=Z12→Y2→Y2→Z4
abbrev T58:=Nat→St→Z4
abbrev T59:=Nat→St→Z6
abbrev T60:=Y5→Y4→Int→Bool→Y4→Int→Int→Z5
abbrev T61:=Ex→St→Z5
abbrev T62:=St→Z4
abbrev T63:=Y3→Int→Int→Z2
abbrev T64:=Y2→Y4→Int→Z5
abbrev T65:=St→Z7
abbrev T66:=Nat→St→Z11
abbrev T67:=St→Z6
abbrev T68:=Nat→St→Z7
abbrev T69:=Ex→St→Z7
abbrev T70:=Ex→St→Z4
abbrev T71:=St→Z11
abbrev T72:=Z3→Prop
abbrev T73:=Nat→Y3→Prop
def tab:Tab:={ es:=[(22,(.int .u8),.i),(24,Q8,O5),(28,I,.i),(37,Q6,.i),(53,(.sl .bool),O5),(54,(.sl .bool),O5),(66,.bool,.i)],ts:=[(3,I,.i),(4,.bool,.i),(5,(.int .u8),.i),(22,Q14,O5),(24,Q13,O11),(26,Q0,(.p O11 .i)),(28,Q8,O5),(36,Q6,.i),(37,Q17,O5),(51,Q3,.i),(53,Q4,O11),(54,Q4,O11),(56,(.pair Q4 (.pair Q13 Q0)),(.p O11 (.p O11 (.p O11 .i)))),(66,(.sl .bool),O5),(73,Q1,(.o (.p O5 .i))),(74,(.int .u64),.i),(76,(.pair Q14 (.pair I (.pair (.int .u64) .unit))),(.p O5 .i))],fs:=[(26,[(Q13,O11)]),(56,[(Q4,O11),(Q13,O11),(Q13,O11)]),(76,[(Q14,O5),(I,.i),((.int .u64),.i)])],ars:=[(36,I,.i,2)] }
theorem tabOk:tab.chk Try.prog=true:=by kernel_rfl
theorem tc {a b}:CfgOk Try.prog (mkCfg tab a b):=ur tabOk
abbrev OK (i:FuncId) (S:Sig):Prop:=FnOk Try.prog i∧Gx.Good Try.prog i S
def V0_s (code_0:Y4):Option Z0 :=
  some (decide (65536<(code_0.length:Int)),(()))
def V0 (code_0:Y4):Option Z0:=V0_s code_0
def S_V0:Sig:=⟨(.pair Q14 .unit),[0],[],.unit,.bool,.i,fun x=>V0 x.1⟩
def A_V0:Cfg:=mkCfg tab [] []
theorem run_V0 (N x):runF A_V0 N Try.f5 S_V0 x=V0 x.1:=by kernel_rfl
theorem ok_V0:OK 5 S_V0:=gdR (A:=A_V0) tc Try.func5 (jeb trivial) (run_V0 big)
def V1_s (c_0:Z12):Option (Int×(Z12×Unit)) :=
  cond (decide (c_0.2.1<(c_0.1.length:Int)))
  ((atI c_0.1 c_0.2.1).bind fun xq1 =>
  cond (decide (((((c_0.1,(IntKind.i64.wrap (c_0.2.1+1),c_0.2.2)).1,(((c_0.1,(IntKind.i64.wrap (c_0.2.1+1),c_0.2.2)).2).1,(IntKind.u64.wrap ((IntKind.u64.wrap ((IntKind.u64.wrap (((((c_0.1,(IntKind.i64.wrap (c_0.2.1+1),c_0.2.2)).2).2).1)*6364136223846793005))+(IntKind.u64.wrap (IntKind.i64.wrap xq1))))+550289),(((c_0.1,(IntKind.i64.wrap (c_0.2.1+1),c_0.2.2)).2).2).2))).2).1)≤((((c_0.1,(IntKind.i64.wrap (c_0.2.1+1),c_0.2.2)).1,(((c_0.1,(IntKind.i64.wrap (c_0.2.1+1),c_0.2.2)).2).1,(IntKind.u64.wrap ((IntKind.u64.wrap ((IntKind.u64.wrap (((((c_0.1,(IntKind.i64.wrap (c_0.2.1+1),c_0.2.2)).2).2).1)*6364136223846793005))+(IntKind.u64.wrap (IntKind.i64.wrap xq1))))+550289),(((c_0.1,(IntKind.i64.wrap (c_0.2.1+1),c_0.2.2)).2).2).2))).1).length:Int)))
  (some (IntKind.i64.wrap xq1,(((c_0.1,(IntKind.i64.wrap (c_0.2.1+1),c_0.2.2)).1,(((c_0.1,(IntKind.i64.wrap (c_0.2.1+1),c_0.2.2)).2).1,(IntKind.u64.wrap ((IntKind.u64.wrap ((IntKind.u64.wrap (((((c_0.1,(IntKind.i64.wrap (c_0.2.1+1),c_0.2.2)).2).2).1)*6364136223846793005))+(IntKind.u64.wrap (IntKind.i64.wrap xq1))))+550289),(((c_0.1,(IntKind.i64.wrap (c_0.2.1+1),c_0.2.2)).2).2).2))),())))
  ((shrI IntKind.u64 (((((c_0.1,(IntKind.i64.wrap (c_0.2.1+1),c_0.2.2)).1,(((c_0.1,(IntKind.i64.wrap (c_0.2.1+1),c_0.2.2)).2).1,(IntKind.u64.wrap ((IntKind.u64.wrap ((IntKind.u64.wrap (((((c_0.1,(IntKind.i64.wrap (c_0.2.1+1),c_0.2.2)).2).2).1)*6364136223846793005))+(IntKind.u64.wrap (IntKind.i64.wrap xq1))))+550289),(((c_0.1,(IntKind.i64.wrap (c_0.2.1+1),c_0.2.2)).2).2).2))).2).2).1) 40).bind fun xq2 =>
  some (IntKind.i64.wrap (bitI .and IntKind.u64 xq2 255),(((c_0.1,(IntKind.i64.wrap (c_0.2.1+1),c_0.2.2)).1,(((c_0.1,(IntKind.i64.wrap (c_0.2.1+1),c_0.2.2)).2).1,(IntKind.u64.wrap ((IntKind.u64.wrap ((IntKind.u64.wrap (((((c_0.1,(IntKind.i64.wrap (c_0.2.1+1),c_0.2.2)).2).2).1)*6364136223846793005))+(IntKind.u64.wrap (IntKind.i64.wrap xq1))))+550289),(((c_0.1,(IntKind.i64.wrap (c_0.2.1+1),c_0.2.2)).2).2).2))),()))))
  (cond (decide (((((c_0.1,(IntKind.i64.wrap (c_0.2.1+1),c_0.2.2)).1,(((c_0.1,(IntKind.i64.wrap (c_0.2.1+1),c_0.2.2)).2).1,(IntKind.u64.wrap ((IntKind.u64.wrap ((IntKind.u64.wrap (((((c_0.1,(IntKind.i64.wrap (c_0.2.1+1),c_0.2.2)).2).2).1)*6364136223846793005))+(IntKind.u64.wrap 0)))+550289),(((c_0.1,(IntKind.i64.wrap (c_0.2.1+1),c_0.2.2)).2).2).2))).2).1)≤((((c_0.1,(IntKind.i64.wrap (c_0.2.1+1),c_0.2.2)).1,(((c_0.1,(IntKind.i64.wrap (c_0.2.1+1),c_0.2.2)).2).1,(IntKind.u64.wrap ((IntKind.u64.wrap ((IntKind.u64.wrap (((((c_0.1,(IntKind.i64.wrap (c_0.2.1+1),c_0.2.2)).2).2).1)*6364136223846793005))+(IntKind.u64.wrap 0)))+550289),(((c_0.1,(IntKind.i64.wrap (c_0.2.1+1),c_0.2.2)).2).2).2))).1).length:Int)))
  (some (0,(((c_0.1,(IntKind.i64.wrap (c_0.2.1+1),c_0.2.2)).1,(((c_0.1,(IntKind.i64.wrap (c_0.2.1+1),c_0.2.2)).2).1,(IntKind.u64.wrap ((IntKind.u64.wrap ((IntKind.u64.wrap (((((c_0.1,(IntKind.i64.wrap (c_0.2.1+1),c_0.2.2)).2).2).1)*6364136223846793005))+(IntKind.u64.wrap 0)))+550289),(((c_0.1,(IntKind.i64.wrap (c_0.2.1+1),c_0.2.2)).2).2).2))),())))
  ((shrI IntKind.u64 (((((c_0.1,(IntKind.i64.wrap (c_0.2.1+1),c_0.2.2)).1,(((c_0.1,(IntKind.i64.wrap (c_0.2.1+1),c_0.2.2)).2).1,(IntKind.u64.wrap ((IntKind.u64.wrap ((IntKind.u64.wrap (((((c_0.1,(IntKind.i64.wrap (c_0.2.1+1),c_0.2.2)).2).2).1)*6364136223846793005))+(IntKind.u64.wrap 0)))+550289),(((c_0.1,(IntKind.i64.wrap (c_0.2.1+1),c_0.2.2)).2).2).2))).2).2).1) 40).bind fun xq3 =>
  some (IntKind.i64.wrap (bitI .and IntKind.u64 xq3 255),(((c_0.1,(IntKind.i64.wrap (c_0.2.1+1),c_0.2.2)).1,(((c_0.1,(IntKind.i64.wrap (c_0.2.1+1),c_0.2.2)).2).1,(IntKind.u64.wrap ((IntKind.u64.wrap ((IntKind.u64.wrap (((((c_0.1,(IntKind.i64.wrap (c_0.2.1+1),c_0.2.2)).2).2).1)*6364136223846793005))+(IntKind.u64.wrap 0)))+550289),(((c_0.1,(IntKind.i64.wrap (c_0.2.1+1),c_0.2.2)).2).2).2))),()))))
def V1 (c_0:Z12):Option (Int×(Z12×Unit)):=V1_s c_0
def S_V1:Sig:=⟨(.pair Q1 .unit),[1],[O5],(.pair Q1 .unit),I,.i,fun x=>V1 x.1⟩
def A_V1:Cfg:=mkCfg tab [] []
theorem run_V1 (N x):runF A_V1 N Try.f100 S_V1 x=V1 x.1:=by kernel_rfl
theorem ok_V1:OK 100 S_V1:=gdR (A:=A_V1) tc Try.func100 (jeb trivial) (run_V1 big)
def V2_s (c_0:Z12) (n_1:Int):Option (Int×(Z12×Unit)) :=
  cond (decide (n_1≤1))
  (some (0,(c_0,())))
  ((V1 c_0).bind fun rq1 =>
  cond (decide (200<n_1))
  ((V1 rq1.2.1).bind fun rq2 =>
  (remI (IntKind.i64.wrap ((IntKind.i64.wrap (rq1.1*256))+rq2.1)) n_1).bind fun xq3 =>
  some (xq3,(rq2.2.1,())))
  ((remI rq1.1 n_1).bind fun xq4 =>
  some (xq4,(rq1.2.1,()))))
def V2 (c_0:Z12) (n_1:Int):Option (Int×(Z12×Unit)):=V2_s c_0 n_1
def S_V2:Sig:=⟨(.pair Q1 (.pair I .unit)),[1,0],[O5],(.pair Q1 .unit),I,.i,fun x=>V2 x.1 x.2.1⟩
def A_V2:Cfg:=mkCfg tab [(100,S_V1)] []
theorem run_V2 (N x):runF A_V2 N Try.f63 S_V2 x=V2 x.1 x.2.1:=by kernel_rfl
theorem ok_V2:OK 63 S_V2:=gdR (A:=A_V2) tc Try.func63 (jeb ⟨ok_V1,trivial⟩) (run_V2 big)
def V3_s (c_0:Z12) (n_1:Int):Option (Bool×(Z12×Unit)) :=
  (V2 c_0 n_1).bind fun rq1 =>
  some (decide (rq1.1=0),(rq1.2.1,()))
def V3 (c_0:Z12) (n_1:Int):Option (Bool×(Z12×Unit)):=V3_s c_0 n_1
def S_V3:Sig:=⟨(.pair Q1 (.pair I .unit)),[1,0],[O5],(.pair Q1 .unit),.bool,.i,fun x=>V3 x.1 x.2.1⟩
def A_V3:Cfg:=mkCfg tab [(63,S_V2)] []
theorem run_V3 (N x):runF A_V3 N Try.f94 S_V3 x=V3 x.1 x.2.1:=by kernel_rfl
theorem ok_V3:OK 94 S_V3:=gdR (A:=A_V3) tc Try.func94 (jeb ⟨ok_V2,trivial⟩) (run_V3 big)
def V4_s (c_0:Z12) (list_1:Y4):Option (Int×(Z12×Unit)) :=
  (V2 c_0 (list_1.length:Int)).bind fun rq1 =>
  (atI list_1 rq1.1).bind fun xq2 =>
  some (xq2,(rq1.2.1,()))
def V4 (c_0:Z12) (list_1:Y4):Option (Int×(Z12×Unit)):=V4_s c_0 list_1
def S_V4:Sig:=⟨(.pair Q1 (.pair Q8 .unit)),[1,0],[O5],(.pair Q1 .unit),I,.i,fun x=>V4 x.1 x.2.1⟩
def A_V4:Cfg:=mkCfg tab [(63,S_V2)] []
theorem run_V4 (N x):runF A_V4 N Try.f118 S_V4 x=V4 x.1 x.2.1:=by kernel_rfl
theorem ok_V4:OK 118 S_V4:=gdR (A:=A_V4) tc Try.func118 (jeb ⟨ok_V2,trivial⟩) (run_V4 big)
def wie (rec:T51) (k:Z12→Int→Y4→Z15) (a0:Z12) (a1:Int) (a5:Y4) (a6:Int):Z15 :=
  cond (decide (a6<a1))
  ((V2 a0 (IntKind.i64.wrap ((a5.length:Int)+1))).bind fun rq1 =>
  (slI a5 0 rq1.1).bind fun xq2 =>
  (appI [] xq2).bind fun xq3 =>
  (appI xq3 [a6]).bind fun xq4 =>
  (slI a5 rq1.1 a5.length).bind fun xq5 =>
  (appI xq4 xq5).bind fun xq6 =>
  rec rq1.2.1 a1 xq6 (IntKind.i64.wrap (a6+1)))
  (k a0 a1 a5)
def wfy (a0:Z12) (a1:Int) (a5:Y4):Z15 :=
  (V2 a0 24).bind fun rq7 =>
  cond (decide (rq7.1=0))
  ((appI a5 [a1]).bind fun xq8 =>
  some (xq8,(rq7.2.1,())))
  (cond (decide (rq7.1=1))
  (cond (decide (0<a1))
  ((V2 rq7.2.1 a1).bind fun rq9 =>
  (V4 rq9.2.1 [0,(-1:Int),a1]).bind fun rq10 =>
  (atI a5 rq9.1).bind fun _ =>
  (a5[rq9.1.toNat]?).bind fun xq11 =>
  some (a5.set rq9.1.toNat rq10.1,(rq10.2.1,())))
  (some (a5,(rq7.2.1,()))))
  (some (a5,(rq7.2.1,()))))
def V5_s (L3:T51) (c_0:Z12) (n_1:Int):Z15 :=
  L3 c_0 n_1 [] 0
def wrt (N:Nat) (k:Z12→Int→Y4→Z15):=itN (fun r=>wie r k) fun _ _ _ _=>none
def wrs (N:Nat):=wrt N (wfy) N
def V5 (N:Nat) (c_0:Z12) (n_1:Int):Z15:=V5_s (wrs N) c_0 n_1
def S_V5:Sig:=⟨(.pair Q1 (.pair I .unit)),[1,0],[O5],(.pair Q1 .unit),Q8,O5,fun x=>V5 big x.1 x.2.1⟩
def A_V5:Cfg:=mkCfg tab [(63,S_V2),(118,S_V4)] [(6,([.as Q1 O5,B0]++dr 3 [B3,B0])),(13,([.as Q1 O5,B0]++dr 3 [B4,B0,B0])),(15,([.as Q1 O5,B0]++dr 3 [B3]))]
noncomputable def wid (N n:Nat) (K:Ex→St→Z15) (a0:Z12) (a1:Int) (a5:Y4) (a6:Int):Z15:=itr A_V5 N 6 Try.f96 [1,1,0,1,0,0] n (([.val Q1 O5 a0,W0 a1]++ud 3 [W3 a5,W0 a6])++us 46) K
noncomputable def V5_z:Ex→St→Z15:=finish A_V5 S_V5 Try.f96.results.toList
noncomputable def w0e (kX:St→Z15) (a0:Z12) (a1:Int) (a5:Y4):Z15:=kX (([.val Q1 O5 a0,W0 a1]++ud 3 [W3 a5])++us 47)
noncomputable def w0d (kX:St→Z15) (kO:Nat→St→Z15):=exK V5_z 0 (A_V5.shape 15) kX kO
theorem wzh (N kX kO):∀n,wid N n (w0d kX kO)=wrt N (w0e kX) n :=
 itE rfl fun m=>by kernel_rfl
noncomputable def wk4 (N:Nat):=(blockK 0 (sqK A_V5 N 15 500007 Try.f96 [1,1,1] V5_z))
noncomputable def w0f (N:Nat) (st':St):Z15:=rn A_V5 N Try.f96 [1,1,1] st' V5_z
theorem w4a (N):wid N N (wk4 N)=wrs N:=by
 rw[show wid N N (wk4 N)=wid N N (w0d (w0f N) fun j=>(wk4 N) (.exit j)) from(by funext _ _ _ _;exact jky),wzh,show w0e (w0f N)=wfy by kernel_rfl];rfl
theorem run_V5 (N x):runF A_V5 N Try.f96 S_V5 x=V5 N x.1 x.2.1:=(show _=(V5_s (wid N N (wk4 N)) x.1 x.2.1) by kernel_rfl).trans (by rw[w4a N];rfl)
theorem ok_V5:OK 96 S_V5:=gdR (A:=A_V5) tc Try.func96 (jeb ⟨ok_V2,ok_V4,trivial⟩) (run_V5 big)
def V6_s (x_0 a_1 b_2:Int):Option Z0 :=
  cond (decide (a_1≤x_0))
  (some (decide (x_0≤b_2),(())))
  (some (false,(())))
def V6 (x_0 a_1 b_2:Int):Option Z0:=V6_s x_0 a_1 b_2
def S_V6:Sig:=⟨(.pair I Q6),[0,0,0],[],.unit,.bool,.i,fun x=>V6 x.1 x.2.1 x.2.2.1⟩
def A_V6:Cfg:=mkCfg tab [] []
theorem run_V6 (N x):runF A_V6 N Try.f121 S_V6 x=V6 x.1 x.2.1 x.2.2.1:=by kernel_rfl
theorem ok_V6:OK 121 S_V6:=gdR (A:=A_V6) tc Try.func121 (jeb trivial) (run_V6 big)
def wi1 (rec:Int→Y4→Int→Option Z0) (k:Option Z0) (a0:Int) (a1:Y4) (a5:Int):Option Z0 :=
  cond (decide (a5<(a1.length:Int)))
  ((atI a1 a5).bind fun xq1 =>
  (V6 xq1 0 (IntKind.i64.wrap (a0-1))).bind fun rq2 =>
  cond (!rq2.1)
  (some (false,(())))
  (rec a0 a1 (IntKind.i64.wrap (a5+1))))
  (k)
def wfz:Option Z0 :=
  some (true,(()))
def V7_s (L2:Int→Y4→Int→Option Z0) (n_0:Int) (list_1:Y4):Option Z0 :=
  L2 n_0 list_1 0
def wsb (N:Nat) (k:Option Z0):=itN (fun r=>wi1 r k) fun _ _ _=>none
def wsa (N:Nat):=wsb N (wfz) N
def V7 (N:Nat) (n_0:Int) (list_1:Y4):Option Z0:=V7_s (wsa N) n_0 list_1
def S_V7:Sig:=⟨(.pair I (.pair Q8 .unit)),[0,0],[],.unit,.bool,.i,fun x=>V7 big x.1 x.2.1⟩
def A_V7:Cfg:=mkCfg tab [(121,S_V6)] [(4,([B0,B4]++dr 3 [B0])),(13,[])]
noncomputable def wi0 (N n:Nat) (K:Ex→St→Option Z0) (a0:Int) (a1:Y4) (a5:Int):Option Z0:=itr A_V7 N 4 Try.f119 [1,0,1,0,0] n (([W0 a0,W4 a1]++ud 3 [W0 a5])++us 14) K
noncomputable def V7_z:Ex→St→Option Z0:=finish A_V7 S_V7 Try.f119.results.toList
noncomputable def w0o (kX:St→Option Z0):Option Z0:=kX ([]++us 20)
noncomputable def w0n (kX:St→Option Z0) (kO:Nat→St→Option Z0):Ex→St→Option Z0:=exK V7_z 0 (A_V7.shape 13) kX kO
theorem wzi (N kX kO):∀n,wi0 N n (w0n kX kO)=wsb N (w0o kX) n :=
 itE rfl fun m=>by kernel_rfl
noncomputable def wlb (N:Nat):Ex→St→Option Z0:=(blockK 0 (sqK A_V7 N 13 500006 Try.f119 [1,1] V7_z))
noncomputable def w0p (N:Nat) (st':St):Option Z0:=rn A_V7 N Try.f119 [1,1] st' V7_z
theorem w4o (N):wi0 N N (wlb N)=wsa N:=by
 rw[show wi0 N N (wlb N)=wi0 N N (w0n (w0p N) fun j=>(wlb N) (.exit j)) from(by funext _ _ _;exact jky),wzi,show w0o (w0p N)=wfz by kernel_rfl];rfl
theorem run_V7 (N x):runF A_V7 N Try.f119 S_V7 x=V7 N x.1 x.2.1:=(show _=(V7_s (wi0 N N (wlb N)) x.1 x.2.1) by kernel_rfl).trans (by rw[w4o N];rfl)
theorem ok_V7:OK 119 S_V7:=gdR (A:=A_V7) tc Try.func119 (jeb ⟨ok_V6,trivial⟩) (run_V7 big)
def wja (rec:Y4→Int→(List Bool)→Int→Option Z0) (k:Option Z0) (a0:Y4) (a1:Int) (a5:(List Bool)) (a6:Int):Option Z0 :=
  cond (decide (a6<a1))
  ((atI a0 a6).bind fun xq4 =>
  (atI a5 xq4).bind fun _ =>
  (a5[xq4.toNat]?).bind fun xq5 =>
  cond xq5
  (some (false,(())))
  ((atI a0 a6).bind fun xq6 =>
  (atI a5 xq6).bind fun _ =>
  (a5[xq6.toNat]?).bind fun xq7 =>
  rec a0 a1 (a5.set xq6.toNat true) (IntKind.i64.wrap (a6+1))))
  (k)
def wf0:Option Z0 :=
  some (true,(()))
def V8_s (L5:Y4→Int→(List Bool)→Int→Option Z0) (l_0:Y4) (n_1:Int):Option Z0 :=
  cond (decide ((l_0.length:Int)≠n_1))
  (some (false,(())))
  ((V7 big n_1 l_0).bind fun rq1 =>
  cond (!rq1.1)
  (some (false,(())))
  ((mkI false n_1).bind fun xq2=>(mkI false n_1).bind fun xq3=>cond (decide (n_1≤n_1))
  (L5 l_0 n_1 xq3 0)
  none))
def wsj (N:Nat) (k:Option Z0):=itN (fun r=>wja r k) fun _ _ _ _=>none
def wsi (N:Nat):=wsj N (wf0) N
def V8 (N:Nat) (l_0:Y4) (n_1:Int):Option Z0:=V8_s (wsi N) l_0 n_1
def S_V8:Sig:=⟨(.pair Q8 (.pair I .unit)),[0,0],[],.unit,.bool,.i,fun x=>V8 big x.1 x.2.1⟩
def A_V8:Cfg:=mkCfg tab [(119,S_V7)] [(10,([B4,B0]++dr 3 [.as (.sl .bool) O5,B0])),(21,[])]
noncomputable def wi9 (N n:Nat) (K:Ex→St→Option Z0) (a0:Y4) (a1:Int) (a5:(List Bool)) (a6:Int):Option Z0:=itr A_V8 N 10 Try.f97 [1,1,1,0,1,0,0] n (([W4 a0,W0 a1]++ud 3 [.val (.sl .bool) O5 a5,W0 a6])++us 30) K
noncomputable def V8_z:Ex→St→Option Z0:=finish A_V8 S_V8 Try.f97.results.toList
noncomputable def w0u (kX:St→Option Z0):Option Z0:=kX ([]++us 37)
noncomputable def w0t (kX:St→Option Z0) (kO:Nat→St→Option Z0):Ex→St→Option Z0:=exK V8_z 0 (A_V8.shape 21) kX kO
theorem wzj (N kX kO):∀n,wi9 N n (w0t kX kO)=wsj N (w0u kX) n :=
 itE rfl fun m=>by kernel_rfl
noncomputable def wle (N:Nat):Ex→St→Option Z0:=(blockK 0 (sqK A_V8 N 21 500010 Try.f97 [1,1,1,1] V8_z))
noncomputable def w0v (N:Nat) (st':St):Option Z0:=rn A_V8 N Try.f97 [1,1,1,1] st' V8_z
theorem w4s (N):wi9 N N (wle N)=wsi N:=by
 rw[show wi9 N N (wle N)=wi9 N N (w0t (w0v N) fun j=>(wle N) (.exit j)) from(by funext _ _ _ _;exact jky),wzj,show w0u (w0v N)=wf0 by kernel_rfl];rfl
theorem run_V8 (N x):runF A_V8 N Try.f97 S_V8 x=V8 N x.1 x.2.1:=(show _=(V8_s (wi9 N N (wle N)) x.1 x.2.1) by kernel_rfl).trans (by rw[w4s N];rfl)
theorem ok_V8:OK 97 S_V8:=gdR (A:=A_V8) tc Try.func97 (jeb ⟨ok_V7,trivial⟩) (run_V8 big)
def wfg (rec:T26) (k:Int→Y2→Y5→Y2→Int→Y4→Z3) (a0:Int) (a4:Y2) (a5:Y5) (a12:Y2) (a13:Int) (a14:Y4) (a15:Int):Z3 :=
  cond (decide (a15<a0))
  ((atI a5 a15).bind fun _ =>
  (a5[a15.toNat]?).bind fun xq33 =>
  (a5[a15.toNat]?).bind fun xq34 =>
  (atI xq34 a13).bind fun _ =>
  (a5[a15.toNat]?).bind fun xq35 =>
  (xq35[a13.toNat]?).bind fun xq36 =>
  cond xq36
  ((appI a14 [a15]).bind fun xq37 =>
  rec a0 a4 a5 a12 a13 xq37 (IntKind.i64.wrap (a15+1)))
  (rec a0 a4 a5 a12 a13 a14 (IntKind.i64.wrap (a15+1))))
  (k a0 a4 a5 a12 a13 a14)
def wcj (rec:T22) (a0:Int) (a4:Y2) (a5:Y5) (a12:Y2) (a13:Int) (a14:Y4):Z3 :=
  (appI a12.1 [a14]).bind fun xq38 =>
  rec a0 a4 a5 (xq38,((),a12.2).2) (IntKind.i64.wrap (a13+1))
def wff (rec:T31) (k:T10) (a0:Int) (a4:Y2) (a5:Y5) (a9 a10 a11:Int):Z3 :=
  cond (decide (a11<a0))
  ((atI a5 a10).bind fun _ =>
  (a5[a10.toNat]?).bind fun xq11 =>
  (atI a5 a10).bind fun _ =>
  (a5[a10.toNat]?).bind fun xq12 =>
  (a5[a10.toNat]?).bind fun xq13 =>
  (atI xq13 a11).bind fun _ =>
  (a5[a10.toNat]?).bind fun xq14 =>
  (xq14[a11.toNat]?).bind fun xq15 =>
  cond xq15
  ((a5[a10.toNat]?).bind fun xq16 =>
  (atI xq16 a11).bind fun _ =>
  (a5[a10.toNat]?).bind fun xq17 =>
  (xq17[a11.toNat]?).bind fun xq18 =>
  rec a0 a4 (a5.set a10.toNat (xq17.set a11.toNat true)) a9 a10 (IntKind.i64.wrap (a11+1)))
  ((atI a5 a10).bind fun _ =>
  (a5[a10.toNat]?).bind fun xq19 =>
  (a5[a10.toNat]?).bind fun xq20 =>
  (atI xq20 a9).bind fun _ =>
  (a5[a10.toNat]?).bind fun xq21 =>
  (xq21[a9.toNat]?).bind fun xq22 =>
  cond xq22
  ((atI a5 a9).bind fun _ =>
  (a5[a9.toNat]?).bind fun xq23 =>
  (a5[a9.toNat]?).bind fun xq24 =>
  (atI xq24 a11).bind fun _ =>
  (a5[a9.toNat]?).bind fun xq25 =>
  (xq25[a11.toNat]?).bind fun xq26 =>
  (a5[a10.toNat]?).bind fun xq27 =>
  (atI xq27 a11).bind fun _ =>
  (a5[a10.toNat]?).bind fun xq28 =>
  (xq28[a11.toNat]?).bind fun xq29 =>
  rec a0 a4 (a5.set a10.toNat (xq28.set a11.toNat xq26)) a9 a10 (IntKind.i64.wrap (a11+1)))
  ((a5[a10.toNat]?).bind fun xq30 =>
  (atI xq30 a11).bind fun _ =>
  (a5[a10.toNat]?).bind fun xq31 =>
  (xq31[a11.toNat]?).bind fun xq32 =>
  rec a0 a4 (a5.set a10.toNat (xq31.set a11.toNat false)) a9 a10 (IntKind.i64.wrap (a11+1)))))
  (k a0 a4 a5 a9 a10)
def wci (rec:T10) (a0:Int) (a4:Y2) (a5:Y5) (a9 a10:Int):Z3 :=
  rec a0 a4 a5 a9 (IntKind.i64.wrap (a10+1))
def wcm (L28:T26) (k:T43) (a0:Int) (a4:Y2) (a5:Y5) (a12:Y2) (a13:Int):Z3 :=
  cond (decide (a13<a0))
  (L28 a0 a4 a5 a12 a13 [] 0)
  (k a4 a12)
def x5 (a4 a12:Y2):Z3 :=
  some (a12,(()))
def wcl (L19:T31) (k:T11) (a0:Int) (a4:Y2) (a5:Y5) (a9 a10:Int):Z3 :=
  cond (decide (a10<a0))
  (L19 a0 a4 a5 a9 a10 0)
  (k a0 a4 a5 a9)
def xz (rec:T11) (a0:Int) (a4:Y2) (a5:Y5) (a9:Int):Z3 :=
  rec a0 a4 a5 (IntKind.i64.wrap (a9+1))
def wck (L16:T10) (k:T50) (a0:Int) (a4:Y2) (a5:Y5) (a9:Int):Z3 :=
  cond (decide (a9<a0))
  (L16 a0 a4 a5 a9 0)
  (k a0 a4 a5)
def xy (L24:T22) (a0:Int) (a4:Y2) (a5:Y5):Z3 :=
  L24 a0 a4 a5 ([],()) 0
def wjn (rec:T12) (k:T50) (a0:Int) (a1:Z13) (a4:Y2) (a5:Y5) (a8:Int):Z3 :=
  cond (decide (a8<(a1.length:Int)))
  ((atI a1 a8).bind fun xq5 =>
  (atI a5 xq5.1).bind fun _ =>
  (a5[xq5.1.toNat]?).bind fun xq6 =>
  (atI a1 a8).bind fun xq7 =>
  (a5[xq5.1.toNat]?).bind fun xq8 =>
  (atI xq8 xq7.2.1).bind fun _ =>
  (a5[xq5.1.toNat]?).bind fun xq9 =>
  (xq9[xq7.2.1.toNat]?).bind fun xq10 =>
  rec a0 a1 a4 (a5.set xq5.1.toNat (xq9.set xq7.2.1.toNat true)) (IntKind.i64.wrap (a8+1)))
  (k a0 a4 a5)
def wf3 (L13:T11) (a0:Int) (a4:Y2) (a5:Y5):Z3 :=
  L13 a0 a4 a5 0
def wjm (rec:T12) (k:Int→Z13→Y2→Y5→Z3) (a0:Int) (a1:Z13) (a4:Y2) (a5:Y5) (a6:Int):Z3 :=
  cond (decide (a6<a0))
  ((mkI false a0).bind fun xq1=>(mkI false a0).bind fun xq2=>cond (decide (a0≤a0))
  ((atI xq2 a6).bind fun _ =>
  (xq2[a6.toNat]?).bind fun xq3 =>
  (appI a5 [xq2.set a6.toNat true]).bind fun xq4 =>
  rec a0 a1 a4 xq4 (IntKind.i64.wrap (a6+1)))
  none)
  (k a0 a1 a4 a5)
def wf2 (L9:T12) (a0:Int) (a1:Z13) (a4:Y2) (a5:Y5):Z3 :=
  L9 a0 a1 a4 a5 0
def V9_s (L3:T12) (n_0:Int) (pairs_1:Z13):Z3 :=
  L3 n_0 pairs_1 (([]:Y3),()) [] 0
def woa (N:Nat) (k:T10):=itN (fun r=>wff r k) fun _ _ _ _ _ _=>none
def wfb (N:Nat) (rec:T10) (k:T11):=woa N (wci rec) N
def wn9 (N:Nat) (k:T11):=itN (fun r=>wcl (wfb N r k) k) fun _ _ _ _ _=>none
def wfa (N:Nat) (rec:T11) (k:T50):=wn9 N (xz rec) N
def woc (N:Nat) (k:Int→Y2→Y5→Y2→Int→Y4→Z3):=itN (fun r=>wfg r k) fun _ _ _ _ _ _ _=>none
def wfc (N:Nat) (rec:T22) (k:T43):=woc N (wcj rec) N
def wsn (N:Nat) (k:Int→Z13→Y2→Y5→Z3):=itN (fun r=>wjm r k) fun _ _ _ _ _=>none
def wso (N:Nat) (k:T50):=itN (fun r=>wjn r k) fun _ _ _ _ _=>none
def wn8 (N:Nat) (k:T50):=itN (fun r=>wck (wfa N r k) k) fun _ _ _ _=>none
def wob (N:Nat) (k:T43):=itN (fun r=>wcm (wfc N r k) k) fun _ _ _ _ _=>none
def wv (N:Nat):=wob N (x5) N
def zl (N:Nat):=wn8 N (xy (wv N)) N
def wf1 (N:Nat):=wso N (wf3 (zl N)) N
def wsm (N:Nat):=wsn N (wf2 (wf1 N)) N
def V9 (N:Nat) (n_0:Int) (pairs_1:Z13):Z3:=V9_s (wsm N) n_0 pairs_1
def S_V9:Sig:=⟨(.pair I (.pair Q17 .unit)),[0,0],[],.unit,Q0,(.p O11 .i),fun x=>V9 big x.1 x.2.1⟩
def A_V9:Cfg:=mkCfg tab [] [(6,[B0,.as Q17 .i,D0,D0,B1,B5,B0]),(17,[B0,.as Q17 .i,D0,D0,B1,B5]),(18,[B0,.as Q17 .i,D0,D0,B1,B5,D0,D0,B0]),(25,([B0]++dr 3 [B1,B5])),(26,([B0]++dr 3 ([B1,B5]++dr 3 [B0]))),(32,([B0]++dr 3 ([B1,B5]++dr 3 [B0,B0]))),(45,([B0]++dr 3 [B1,B5])),(48,([B0]++dr 3 ([B1,B5]++dr 6 [B1,B0]))),(38,([B0]++dr 3 ([B1,B5]++dr 3 [B0,B0,B0]))),(29,([B0]++dr 3 ([B1,B5]++dr 3 [B0]))),(56,([B0]++dr 3 ([B1,B5]++dr 6 [B1,B0,B3,B0]))),(67,(dr 4 ([B1]++dr 7 [B1]))),(35,([B0]++dr 3 ([B1,B5]++dr 3 [B0,B0]))),(65,([B0]++dr 3 ([B1,B5]++dr 6 [B1,B0,B3])))]
noncomputable def wjh (N n:Nat) (K:T27) (a0:Int) (a1:Z13) (a4:Y2) (a5:Y5) (a6:Int):Z3:=itr A_V9 N 6 Try.f99 [1,1,0,1,0,0] n ([W0 a0,.val Q17 .i a1,.u,.u,W1 a4,W5 a5,W0 a6]++us 121) K
noncomputable def wji (N n:Nat) (K:T27) (a0:Int) (a1:Z13) (a4:Y2) (a5:Y5) (a8:Int):Z3:=itr A_V9 N 18 Try.f99 [1,1,1,0,1,0,0] n ([W0 a0,.val Q17 .i a1,.u,.u,W1 a4,W5 a5,.u,.u,W0 a8]++us 119) K
noncomputable def zm (N n:Nat) (K:T27) (a0:Int) (a4:Y2) (a5:Y5) (a9:Int):Z3:=itr A_V9 N 26 Try.f99 [1,1,1,1,0,1,0,0] n (([W0 a0]++ud 3 ([W1 a4,W5 a5]++ud 3 [W0 a9]))++us 118) K
noncomputable def zn (N n:Nat) (K:T27) (a0:Int) (a4:Y2) (a5:Y5) (a9 a10:Int):Z3:=itr A_V9 N 32 Try.f99 [1,1,1,1,0,1,0,0,1,0,0,1,0,0] n (([W0 a0]++ud 3 ([W1 a4,W5 a5]++ud 3 [W0 a9,W0 a10]))++us 117) K
noncomputable def zo (N n:Nat) (K:T27) (a0:Int) (a4:Y2) (a5:Y5) (a12:Y2) (a13:Int):Z3:=itr A_V9 N 48 Try.f99 [1,1,1,1,1,1,0,1,0,0] n (([W0 a0]++ud 3 ([W1 a4,W5 a5]++ud 6 [W1 a12,W0 a13]))++us 114) K
noncomputable def wfd (N n:Nat) (K:T27) (a0:Int) (a4:Y2) (a5:Y5) (a9 a10 a11:Int):Z3:=itr A_V9 N 38 Try.f99 [1,1,1,1,0,1,0,0,1,0,0,1,0,0,1,0,0,1,0,0] n (([W0 a0]++ud 3 ([W1 a4,W5 a5]++ud 3 [W0 a9,W0 a10,W0 a11]))++us 116) K
noncomputable def wfe (N n:Nat) (K:T27) (a0:Int) (a4:Y2) (a5:Y5) (a12:Y2) (a13:Int) (a14:Y4) (a15:Int):Z3:=itr A_V9 N 56 Try.f99 [1,1,1,1,1,1,0,1,0,0,1,0,0,1,0,1,0,0] n (([W0 a0]++ud 3 ([W1 a4,W5 a5]++ud 6 [W1 a12,W0 a13,W3 a14,W0 a15]))++us 112) K
noncomputable def V9_z:Ex→St→Z3:=finish A_V9 S_V9 Try.f99.results.toList
noncomputable def w0y (kX:T6) (a0:Int) (a1:Z13) (a4:Y2) (a5:Y5):Z3:=kX ([W0 a0,.val Q17 .i a1,.u,.u,W1 a4,W5 a5]++us 122)
noncomputable def w0w (kX:T6) (kO:T2):=exK V9_z 0 (A_V9.shape 17) kX kO
noncomputable def w0z (kX:T6) (a0:Int) (a4:Y2) (a5:Y5):Z3:=kX (([W0 a0]++ud 3 [W1 a4,W5 a5])++us 122)
noncomputable def w0x (kX:T6) (kO:T2):=exK V9_z 2 (A_V9.shape 25) kX kO
noncomputable def wjj (kX:T6) (a0:Int) (a4:Y2) (a5:Y5):Z3:=kX (([W0 a0]++ud 3 [W1 a4,W5 a5])++us 122)
noncomputable def wcf (kX:T6) (kO:T2):=exK V9_z 4 (A_V9.shape 45) kX kO
noncomputable def wjk (kX:T6) (a0:Int) (a4:Y2) (a5:Y5) (a9:Int):Z3:=kX (([W0 a0]++ud 3 ([W1 a4,W5 a5]++ud 3 [W0 a9]))++us 118)
noncomputable def wcg (kX:T6) (kO:T2):=exK V9_z 6 (A_V9.shape 29) kX kO
noncomputable def wjl (kX:T6) (a4 a12:Y2):Z3:=kX ((ud 4 ([W1 a4]++ud 7 [W1 a12]))++us 115)
noncomputable def wch (kX:T6) (kO:T2):=exK V9_z 10 (A_V9.shape 67) kX kO
noncomputable def wym (kX:T6) (a0:Int) (a4:Y2) (a5:Y5) (a9 a10:Int):Z3:=kX (([W0 a0]++ud 3 ([W1 a4,W5 a5]++ud 3 [W0 a9,W0 a10]))++us 117)
noncomputable def wyk (kX:T6) (kO:T2):=exK V9_z 8 (A_V9.shape 35) kX kO
noncomputable def wyn (kX:T6) (a0:Int) (a4:Y2) (a5:Y5) (a12:Y2) (a13:Int) (a14:Y4):Z3:=kX (([W0 a0]++ud 3 ([W1 a4,W5 a5]++ud 6 [W1 a12,W0 a13,W3 a14]))++us 113)
noncomputable def wyl (kX:T6) (kO:T2):=exK V9_z 12 (A_V9.shape 65) kX kO
theorem wzk (N kX kO):∀n,wjh N n (w0w kX kO)=wsn N (w0y kX) n :=
 itE rfl fun m=>by kernel_rfl
noncomputable def wlf (N:Nat):=(blockK 0 (sqK A_V9 N 17 500008 Try.f99 [1,1,1] V9_z))
theorem wzl (N kX kO):∀n,wji N n (w0x kX kO)=wso N (w0z kX) n :=
 itE rfl fun m=>by kernel_rfl
noncomputable def wlg (N:Nat):=(blockK 2 (sqK A_V9 N 25 500012 Try.f99 [1,1,1,1] V9_z))
theorem wyq (N kX kO):∀n,wfd N n (wyk kX kO)=woa N (wym kX) n :=
 itE rfl fun m=>by kernel_rfl
noncomputable def wje (N m:Nat) (kX:T6) (kO:T2):=(blockK 8 (blockK 7 (sqK A_V9 N 35 500017 Try.f99 [1,1,1,1,0,1,0,0,1,0,0,1,0,0,1,1] (itK A_V9 N 32 Try.f99 [1,1,1,1,0,1,0,0,1,0,0,1,0,0] m (wcg kX kO)))))
noncomputable def wyv (N m:Nat) (kX:T6) (kO:T2) (st':St):Z3:=rn A_V9 N Try.f99 [1,1,1,1,0,1,0,0,1,0,0,1,0,0,1,1] st' (itK A_V9 N 32 Try.f99 [1,1,1,1,0,1,0,0,1,0,0,1,0,0] m (wcg kX kO))
theorem w21 (N m kX kO) {r}(h:zn N m (wcg kX kO)=r):wfd N N (wje N m kX kO)=wfb N r (wjk kX):=by
 rw[show wfd N N (wje N m kX kO)=wfd N N (wyk (wyv N m kX kO) fun j=>(wje N m kX kO) (.exit j)) from(by funext _ _ _ _ _ _;exact jky),wyq,show wym (wyv N m kX kO)=wci (zn N m (wcg kX kO)) by kernel_rfl,h];rfl
theorem wyp (N kX kO):∀n,zn N n (wcg kX kO)=wn9 N (wjk kX) n :=
 itE rfl fun m=>(show _=wcl (wfd N N (wje N m kX kO)) (wjk kX) by kernel_rfl).trans (by rw[w21 N m kX kO rfl]<;>rfl)
noncomputable def wjd (N m:Nat) (kX:T6) (kO:T2):=(blockK 6 (blockK 5 (sqK A_V9 N 29 500014 Try.f99 [1,1,1,1,0,1,0,0,1,1] (itK A_V9 N 26 Try.f99 [1,1,1,1,0,1,0,0] m (wcf kX kO)))))
noncomputable def wyu (N m:Nat) (kX:T6) (kO:T2) (st':St):Z3:=rn A_V9 N Try.f99 [1,1,1,1,0,1,0,0,1,1] st' (itK A_V9 N 26 Try.f99 [1,1,1,1,0,1,0,0] m (wcf kX kO))
theorem w20 (N m kX kO) {r}(h:zm N m (wcf kX kO)=r):zn N N (wjd N m kX kO)=wfa N r (wjj kX):=by
 rw[show zn N N (wjd N m kX kO)=zn N N (wcg (wyu N m kX kO) fun j=>(wjd N m kX kO) (.exit j)) from(by funext _ _ _ _ _;exact jky),wyp,show wjk (wyu N m kX kO)=xz (zm N m (wcf kX kO)) by kernel_rfl,h];rfl
theorem wyo (N kX kO):∀n,zm N n (wcf kX kO)=wn8 N (wjj kX) n :=
 itE rfl fun m=>(show _=wck (zn N N (wjd N m kX kO)) (wjj kX) by kernel_rfl).trans (by rw[w20 N m kX kO rfl]<;>rfl)
noncomputable def wjc (N:Nat):=(blockK 4 (sqK A_V9 N 45 500022 Try.f99 [1,1,1,1,1] V9_z))
theorem wys (N kX kO):∀n,wfe N n (wyl kX kO)=woc N (wyn kX) n :=
 itE rfl fun m=>by kernel_rfl
noncomputable def wjg (N m:Nat) (kX:T6) (kO:T2):=(blockK 12 (sqK A_V9 N 65 500032 Try.f99 [1,1,1,1,1,1,0,1,0,0,1,0,0,1,1] (blockK 11 (sqK A_V9 N 51 500025 Try.f99 [1,1,1,1,1,1,0,1,0,0,1,1] (itK A_V9 N 48 Try.f99 [1,1,1,1,1,1,0,1,0,0] m (wch kX kO))))))
noncomputable def wyx (N m:Nat) (kX:T6) (kO:T2) (st':St):Z3:=rn A_V9 N Try.f99 [1,1,1,1,1,1,0,1,0,0,1,0,0,1,1] st' (blockK 11 (sqK A_V9 N 51 500025 Try.f99 [1,1,1,1,1,1,0,1,0,0,1,1] (itK A_V9 N 48 Try.f99 [1,1,1,1,1,1,0,1,0,0] m (wch kX kO))))
theorem w23 (N m kX kO) {r}(h:zo N m (wch kX kO)=r):wfe N N (wjg N m kX kO)=wfc N r (wjl kX):=by
 rw[show wfe N N (wjg N m kX kO)=wfe N N (wyl (wyx N m kX kO) fun j=>(wjg N m kX kO) (.exit j)) from(by funext _ _ _ _ _ _ _;exact jky),wys,show wyn (wyx N m kX kO)=wcj (zo N m (wch kX kO)) by kernel_rfl,h];rfl
theorem wyr (N kX kO):∀n,zo N n (wch kX kO)=wob N (wjl kX) n :=
 itE rfl fun m=>(show _=wcm (wfe N N (wjg N m kX kO)) (wjl kX) by kernel_rfl).trans (by rw[w23 N m kX kO rfl]<;>rfl)
noncomputable def wjf (N:Nat):=(blockK 10 (sqK A_V9 N 67 500033 Try.f99 [1,1,1,1,1,1,1] V9_z))
noncomputable def wyw (N:Nat) (st':St):Z3:=rn A_V9 N Try.f99 [1,1,1,1,1,1,1] st' V9_z
theorem w22 (N):zo N N (wjf N)=wv N:=by
 rw[show zo N N (wjf N)=zo N N (wch (wyw N) fun j=>(wjf N) (.exit j)) from(by funext _ _ _ _ _;exact jky),wyr,show wjl (wyw N)=x5 by kernel_rfl];rfl
noncomputable def wyt (N:Nat) (st':St):Z3:=rn A_V9 N Try.f99 [1,1,1,1,1] st' V9_z
theorem w2z (N):zm N N (wjc N)=zl N:=by
 rw[show zm N N (wjc N)=zm N N (wcf (wyt N) fun j=>(wjc N) (.exit j)) from(by funext _ _ _ _;exact jky),wyo,show wjj (wyt N)=xy (zo N N (wjf N)) by kernel_rfl,w22 N];rfl
noncomputable def w01 (N:Nat) (st':St):Z3:=rn A_V9 N Try.f99 [1,1,1,1] st' V9_z
theorem w4v (N):wji N N (wlg N)=wf1 N:=by
 rw[show wji N N (wlg N)=wji N N (w0x (w01 N) fun j=>(wlg N) (.exit j)) from(by funext _ _ _ _ _;exact jky),wzl,show w0z (w01 N)=wf3 (zm N N (wjc N)) by kernel_rfl,w2z N];rfl
noncomputable def w00 (N:Nat) (st':St):Z3:=rn A_V9 N Try.f99 [1,1,1] st' V9_z
theorem w4u (N):wjh N N (wlf N)=wsm N:=by
 rw[show wjh N N (wlf N)=wjh N N (w0w (w00 N) fun j=>(wlf N) (.exit j)) from(by funext _ _ _ _ _;exact jky),wzk,show w0y (w00 N)=wf2 (wji N N (wlg N)) by kernel_rfl,w4v N];rfl
theorem run_V9 (N x):runF A_V9 N Try.f99 S_V9 x=V9 N x.1 x.2.1:=(show _=(V9_s (wjh N N (wlf N)) x.1 x.2.1) by kernel_rfl).trans (by rw[w4u N];rfl)
theorem ok_V9:OK 99 S_V9:=gdR (A:=A_V9) tc Try.func99 (jeb trivial) (run_V9 big)
def wcx (rec k:T56) (a0:Y4) (a1 a5:Int):Z7 :=
  cond (decide (a5<(a0.length:Int)))
  ((atI a0 a5).bind fun xq1 =>
  cond (decide (xq1<a1))
  (rec a0 a1 (IntKind.i64.wrap (a5+1)))
  (k a0 a1 a5))
  (k a0 a1 a5)
def yo (a0:Y4) (a1 a5:Int):Z7 :=
  cond (decide (a5<(a0.length:Int)))
  ((atI a0 a5).bind fun xq2 =>
  cond (decide (xq2=a1))
  (some (a0,(())))
  ((slI a0 0 a5).bind fun xq3 =>
  (appI [] xq3).bind fun xq4 =>
  (appI xq4 [a1]).bind fun xq5 =>
  (slI a0 a5 a0.length).bind fun xq6 =>
  (appI xq5 xq6).bind fun xq7 =>
  some (xq7,(()))))
  ((slI a0 0 a5).bind fun xq8 =>
  (appI [] xq8).bind fun xq9 =>
  (appI xq9 [a1]).bind fun xq10 =>
  (slI a0 a5 a0.length).bind fun xq11 =>
  (appI xq10 xq11).bind fun xq12 =>
  some (xq12,(())))
def wqe (L2:T56) (l_0:Y4) (n_1:Int):Z7 :=
  L2 l_0 n_1 0
def wll (N:Nat) (k:T56):=itN (fun r=>wcx r k) fun _ _ _=>none
def wlk (N:Nat):=wll N (yo) N
def V10 (N:Nat) (l_0:Y4) (n_1:Int):Z7:=wqe (wlk N) l_0 n_1
def S_V10:Sig:=⟨(.pair Q8 (.pair I .unit)),[0,0],[],.unit,Q8,.i,fun x=>V10 big x.1 x.2.1⟩
def A_V10:Cfg:=mkCfg tab [] [(4,([B4,B0]++dr 3 [B0])),(9,([B4,B0]++dr 3 [B0]))]
noncomputable def wcw (N n:Nat) (K:T69) (a0:Y4) (a1 a5:Int):Z7:=itr A_V10 N 4 Try.f102 [1,1,0,0,0] n (([W4 a0,W0 a1]++ud 3 [W0 a5])++us 39) K
noncomputable def wqf:Ex→St→Z7:=finish A_V10 S_V10 Try.f102.results.toList
noncomputable def ws4 (kX:T65) (a0:Y4) (a1 a5:Int):Z7:=kX (([W4 a0,W0 a1]++ud 3 [W0 a5])++us 39)
noncomputable def ws3 (kX:T65) (kO:T68):=exK wqf 0 (A_V10.shape 9) kX kO
theorem ws5 (N kX kO):∀n,wcw N n (ws3 kX kO)=wll N (ws4 kX) n :=
 itE rfl fun m=>by kernel_rfl
noncomputable def wgl (N:Nat):=(blockK 0 (sqK A_V10 N 9 500004 Try.f102 [1,1,1] wqf))
noncomputable def ws6 (N:Nat) (st':St):Z7:=rn A_V10 N Try.f102 [1,1,1] st' wqf
theorem w05 (N):wcw N N (wgl N)=wlk N:=by
 rw[show wcw N N (wgl N)=wcw N N (ws3 (ws6 N) fun j=>(wgl N) (.exit j)) from(by funext _ _ _;exact jky),ws5,show ws4 (ws6 N)=yo by kernel_rfl];rfl
theorem run_V10 (N x):runF A_V10 N Try.f102 S_V10 x=V10 N x.1 x.2.1:=(show _=(wqe (wcw N N (wgl N)) x.1 x.2.1) by kernel_rfl).trans (by rw[w05 N];rfl)
theorem ok_V10:OK 102 S_V10:=gdR (A:=A_V10) tc Try.func102 (jeb trivial) (run_V10 big)
end Go.Proofs.Yteanfidobhpchaa
