import Derived.Test.YtmebolidmeljeaaGreatGxGen
import Derived.Test.YtmebolidmeljeaaGreatRows
import Derived.Test.YtmebolidmeljeaaGreatChecked
import Derived.KernelRfl
set_option maxRecDepth 100000
set_option linter.unusedVariables false
namespace Go.Proofs.YtmebolidmeljeaaGreat
open Go Go.Gx Go.Proofs
abbrev I:=Ty.int .i64
abbrev Q0:Ty:=(.pair (.sl (.sl I)) .unit)
abbrev Q1:Ty:=(.opt (.pair (.sl (.sl .bool)) (.pair (.sl (.sl I)) Q0)))
abbrev Q2:Ty:=(.ptr (.pair (.sl (.int .u8)) (.pair I (.pair (.int .u64) .unit))))
abbrev O3:Fl:=(.o (.p (.o (.o .i)) .i))
abbrev O4:Fl:=(.o .i)
abbrev Q5:Ty:=(.ptr Q0)
abbrev Q6:Ty:=(.sl I)
abbrev Q7:Ty:=(.sl (.sl .bool))
abbrev Q8:Ty:=(.pair I (.pair I .unit))
abbrev Q9:Ty:=(.pair Q6 .unit)
abbrev Q10:Ty:=(.pair Q0 .unit)
abbrev O11:Fl:=(.o O4)
abbrev Q12:Ty:=(.pair .bool .unit)
abbrev Q13:Ty:=(.pair (.ptr I) (.pair (.ptr I) .unit))
abbrev Q14:Ty:=(.sl (.int .u8))
abbrev Q15:Ty:=(.sl Q6)
abbrev Q16:Ty:=(.sl .bool)
abbrev Q17:Ty:=(.pair I .unit)
abbrev Q18:Ty:=(.pair Q0 (.pair Q0 Q9))
abbrev Q19:Ty:=(.sl Q8)
abbrev Q20:Ty:=(.pair Q2 .unit)
abbrev W0:=V.val I .i
abbrev W1:=V.val Q6 O4
abbrev W2:=V.val Q5 O3
abbrev W3:=V.val Q5 O4
abbrev W4:=V.val Q6 .i
abbrev W5:=V.val Q1 .i
abbrev W6:=V.val Q2 O4
abbrev W7:=V.val Q7 O11
abbrev W8:=V.val .bool .i
abbrev B0:=Sh.as I .i
abbrev B1:=Sh.as Q6 O4
abbrev B2:=Sh.as Q5 O3
abbrev B3:=Sh.as Q5 O4
abbrev B4:=Sh.as Q6 .i
abbrev B5:=Sh.as Q1 .i
abbrev B6:=Sh.as Q2 O4
abbrev B7:=Sh.as Q7 O11
abbrev B8:=Sh.as .bool .i
abbrev D0:=Sh.drop
abbrev Y1:=(Option ((List (List Bool))×((List (List Int))×((List (List Int))×Unit))))
abbrev Y2:=((List (List Int))×Unit)
abbrev Y7:=(Int×((List (Int×((List Int)×Unit)))×Unit))
abbrev Y6:=(Int×((List Int)×Unit))
abbrev Y3:=(List (List Int))
abbrev Y4:=(List Int)
abbrev Y5:=(List (List Bool))
abbrev Z0:=(Y4×(Int×(Int×Unit)))
abbrev Z1:=(Bool×Unit)
abbrev Z2:=Option ((Y4×Z1)×Unit)
abbrev Z3:=Option (Y4×Unit)
abbrev Z4:=Option (Y2×Unit)
abbrev Z5:=(List (Int×(Int×Unit)))
abbrev Z6:=Option (Y4×(Z0×Unit))
abbrev Z7:=Option (Int×Unit)
abbrev Z8:=Option (Y2×(Z0×Unit))
abbrev Z9:=Option ((Y3×Z1)×Unit)
abbrev Z10:=Option ((Option Y4)×Unit)
abbrev Z11:=Option ((Y5×Z1)×Unit)
abbrev Z12:=(List Bool)
abbrev Z13:=Option (Y5×Unit)
abbrev Z14:=Option ((Y2×(Y2×(Y4×Unit)))×Unit)
abbrev Z15:=Option (Z5×Unit)
abbrev Z16:=(Int×(Int×Unit))
abbrev T0:=Y4→Y2→Y2→Y4→Y4→Y4→Int→Z2
abbrev T1:=Nat→St→Z4
abbrev T2:=Y1→Z12→Bool→Y4→Int→Int→Int→Int→Int→Z3
abbrev T3:=Nat→Y4→Prop
abbrev T4:=Y4→Y2→Y2→Y4→Y4→Y4→Int→Int→Int→Z2
abbrev T5:=Y1→Z12→Bool→Y4→Int→Int→Z3
abbrev T6:=Nat→St→Z3
abbrev T7:=St→Z4
abbrev T8:=Z0→Y4→Int→Y2→Y2→Int→Z6
abbrev T9:=Nat→St→Z2
abbrev T10:=Nat→Prop
abbrev T11:=St→Z3
abbrev T12:=Z0→Y4→Int→Y2→Y2→Int→Int→Z6
abbrev T13:=Z0→Y2→Y2→Int→Y4→Z5→Int→Z8
abbrev T14:=Y4→Y1→Y1→Y4→Y4→Int→Int→Z2
abbrev T15:=Int→Y5→Int→Y3→Int→Int→Y4→Int→Bool→Bool→Y4→Int→Int→Z11
abbrev T16:=Y1→Int→Int→Int→Int→Int→Z10
abbrev T17:=Y1→Z12→Bool→Y4→Int→Int→Int→Int→Int→Y4→Int→Int→Z3
abbrev T18:=Y4→Y1→Y1→Y4→Y4→Y4→Int→Y4→Int→Int→Int→Int→Z2
abbrev T19:=St→Z2
abbrev T20:=Y4→Y1→Y1→Y4→Y4→Y4→Int→Int→Z2
abbrev T21:=Y2→Y2→Y2→Y2→Int→Int→Int→Y4→Int→Z4
abbrev T22:=Y2→Y4→Int→Z3
abbrev T23:=Y4→Y1→Y1→Y4→Int→Y4→Int→Int→Y4→Int→Int→Z2
abbrev T24:=Int→Y2→Y5→Int→Int→Z4
abbrev T25:=Int→Y2→Y5→Int→Z4
abbrev T26:=Ex→St→Z3
abbrev T27:=Y5→Y4→Int→Bool→Y4→Int→Int→Y4→Int→Int→Z7
abbrev T28:=Int→Z5→Y2→Y5→Int→Z4
abbrev T29:=Z0→Y2→Int→Z5→Int→Z8
abbrev T30:=Z0→Y2→Y2→Y4→Int→Int→Int→Int→Z6
abbrev T31:=Y1→Int→Int→Int→Int→Int→Int→Int→Int→Z10
abbrev T32:=Y2→Y2→Z4
abbrev T33:=Y2→Y2→Y2→Y2→Int→Int→Z4
abbrev T34:=Ex→St→Z4
abbrev T35:=Y4→Z3
abbrev T36:=Y4→Y2→Y4→Y4→Y4→Int→Z2
abbrev T37:=Y4→Y2→Y4→Y4→Y4→Int→Int→Z2
abbrev T38:=Y2→Int→Int→Int→Z2
abbrev T39:=Y5→Y5→Int→Int→Z13
abbrev T40:=Y1→Int→Int→Int→Z7
abbrev T41:=Y1→Int→Int→Z10
abbrev T42:=Y5→Y3→Int→Y4→Int→Int→Int→Int→Z9
abbrev T43:=Y2→Int→Int→Z2
abbrev T44:=Z0→Y4→Int→Y2→Y2→Int→Int→Int→Z6
abbrev T45:=Int→Y5→Y3→Int→Int→Z11
abbrev T46:=Y2→Y2→Z0→Y2→Y2→Y4→Int→Int→Z14
abbrev T47:=Y4→Y2→Y2→Y4→Y4→Y4→Int→Int→Z2
abbrev T48:=Int→Y2→Y5→Y2→Int→Z4
abbrev T49:=Y5→Y4→Y4→Int→Int→Z7
abbrev T50:=Y1→Z12→Bool→Z3
abbrev T51:=Y5→Y5→Int→Int→Int→Int→Int→Z13
abbrev T52:=Y2→Y2→Y4→Y2→Int→Z4
abbrev T53:=Nat→St→Z7
abbrev T54:=Int→Y2→Y5→Y2→Int→Y4→Int→Z4
abbrev T55:=Y2→Y2→Y4→Y2→Int→Y4→Int→Z4
abbrev T56:=Ex→St→Z2
abbrev T57:=Int→Y4→Int→Z3
abbrev T58:=St→Z7
abbrev T59:=Int→Y2→Y5→Int→Int→Int→Z4
abbrev T60:=Y4→Y2→Y4→Int→Bool→Int→Z7
abbrev T61:=Int→Int→Int→Y2→Y4→Int→Z3
abbrev T62:=Y2→Y4→Int→Int→Z3
abbrev T63:=Y5→Y3→Int→Int→Z9
abbrev T64:=Z0→Y2→Y2→Y4→Int→Z6
abbrev T65:=Nat→Y5→Prop
abbrev T66:=Z0→Y2→Int→Z5→Int→Int→Z8
abbrev T67:=Nat→St→Z6
abbrev T68:=Z0→Y2→Int→Z5→Z8
abbrev T69:=Y2→Y2→Y2→Int→Z4
abbrev T70:=Y4→Y2→Y4→Int→Z7
abbrev T71:=Z0→Y2→Int→Z5→Y4→Int→Z8
abbrev T72:=Y2→Y2→Y2→Int→Y4→Int→Z4
abbrev T73:=Z0→Y2→Y4→Int→Y2→Int→Z6
abbrev T74:=Y2→Y2→Y2→Y2→Int→Int→Int→Y4→Z4
abbrev T75:=Y4→Z2
abbrev T76:=(Y1×Unit)→Y4→Int→Int→Z3
abbrev T77:=Y2→Int→Int→Int→Int→Z2
abbrev T78:=(Y5×Z16)→Y4→Int→Int→Z3
abbrev T79:=St→Z6
abbrev T80:=Y2→Y2→Y2→Y2→Int→Int→Int→Z4
abbrev T81:=Y1→Int→Y4→Int→Int→Z7
abbrev T82:=Y2→Y4→Int→Int→Int→Z3
abbrev T83:=Y4→Y4→Y4→Int→Int→Z3
abbrev T84:=Y2→Y2→Y2→Y2→Int→Int→Int→Y4→Int→Int→Z4
abbrev T85:=Z0→Y2→Y2→Int→Z5→Z8
abbrev T86:=Int→Y5→Y3→Int→Int→Y4→Int→Bool→Bool→Z11
abbrev T87:=Int→Y2→Y5→Z4
abbrev T88:=Ex→St→Z7
abbrev T89:=Nat→St→Z8
abbrev T90:=Int→Y5→Int→Int→Z13
abbrev T91:=Y4→Y1→Y1→Y4→Y4→Y4→Y4→Int→Int→Z2
abbrev T92:=Y4→Z12→Int→Int→Z3
abbrev T93:=Z0→Int→Y4→Int→Z6
abbrev T94:=Y1→Y4→Int→Int→Z3
abbrev T95:=St→Z8
abbrev T96:=Nat→St→Z10
abbrev T97:=Y4→Int→Int→Z3
abbrev T98:=Y2→Z5→Int→Z15
abbrev T99:=Y1→Y4→Y3→Int→Z9
abbrev T100:=Y2→Y3→Y4→Int→Z9
abbrev T101:=Nat→Int→Prop
abbrev T102:=Z0→Y2→Y2→Z8
abbrev T103:=Ex→St→Z6
abbrev T104:=Y5→Y4→Int→Bool→Y4→Int→Int→Z7
abbrev T105:=Nat→Z0→Y4→Prop
abbrev T106:=Nat→St→Z9
abbrev T107:=St→Z10
abbrev T108:=Ex→St→Z8
abbrev T109:=Int→Y2→Y2→Int→Z4
abbrev T110:=Y2→Y4→Int→Z7
abbrev T111:=Z0→Y4→Int→Z6
abbrev T112:=Nat→St→Z13
abbrev T113:=Nat→Z12→Bool→Prop
def tab:Tab:={ es:=[(22,(.int .u8),.i),(24,Q6,O4),(27,I,.i),(57,Q16,O4),(58,Q16,O4),(61,.bool,.i),(86,Q8,.i)],ts:=[(3,I,.i),(4,.bool,.i),(5,(.int .u8),.i),(22,Q14,O4),(24,Q15,O11),(26,Q0,(.p O11 .i)),(27,Q6,O4),(43,Q2,(.o (.p O4 .i))),(44,(.int .u64),.i),(46,(.pair Q14 (.pair I (.pair (.int .u64) .unit))),(.p O4 .i)),(52,Q1,.i),(57,Q7,O11),(58,Q7,O11),(60,(.pair Q7 (.pair Q15 Q0)),(.p O11 (.p O11 (.p O11 .i)))),(61,Q16,O4),(83,(.int .u64),.i),(86,Q19,O4),(88,Q8,.i)],fs:=[(26,[(Q15,O11)]),(46,[(Q14,O4),(I,.i),((.int .u64),.i)]),(60,[(Q7,O11),(Q15,O11),(Q15,O11)])],ars:=[(88,I,.i,2)] }
theorem tabOk:tab.chk Tryz.prog=true:=by kernel_rfl
theorem tc {a b}:CfgOk Tryz.prog (mkCfg tab a b):=vc tabOk
abbrev OK (i:FuncId) (S:Sig):Prop:=FnOk Tryz.prog i∧Gx.Good Tryz.prog i S
def V0_s (code_0:Y4):Option Z1 :=
  some (decide (65536<(code_0.length:Int)),(()))
def V0 (code_0:Y4):Option Z1:=V0_s code_0
def S_V0:Sig:=⟨(.pair Q14 .unit),[0],[],.unit,.bool,.i,fun x=>V0 x.1⟩
def A_V0:Cfg:=mkCfg tab [] []
theorem run_V0 (N x):runF A_V0 N Tryz.f4 S_V0 x=V0 x.1:=by kernel_rfl
theorem ok_V0:OK 4 S_V0:=gdR (A:=A_V0) tc Tryz.func4 (jeq trivial) (run_V0 big)
def V1_s (c_0:Z0):Option (Int×(Z0×Unit)) :=
  cond (decide (c_0.2.1<(c_0.1.length:Int)))
  ((atI c_0.1 c_0.2.1).bind fun xq1 =>
  cond (decide (((((c_0.1,(IntKind.i64.wrap (c_0.2.1+1),c_0.2.2)).1,(((c_0.1,(IntKind.i64.wrap (c_0.2.1+1),c_0.2.2)).2).1,(IntKind.u64.wrap ((IntKind.u64.wrap ((IntKind.u64.wrap (((((c_0.1,(IntKind.i64.wrap (c_0.2.1+1),c_0.2.2)).2).2).1)*6364136223846793005))+(IntKind.u64.wrap (IntKind.i64.wrap xq1))))+550289),(((c_0.1,(IntKind.i64.wrap (c_0.2.1+1),c_0.2.2)).2).2).2))).2).1)≤((((c_0.1,(IntKind.i64.wrap (c_0.2.1+1),c_0.2.2)).1,(((c_0.1,(IntKind.i64.wrap (c_0.2.1+1),c_0.2.2)).2).1,(IntKind.u64.wrap ((IntKind.u64.wrap ((IntKind.u64.wrap (((((c_0.1,(IntKind.i64.wrap (c_0.2.1+1),c_0.2.2)).2).2).1)*6364136223846793005))+(IntKind.u64.wrap (IntKind.i64.wrap xq1))))+550289),(((c_0.1,(IntKind.i64.wrap (c_0.2.1+1),c_0.2.2)).2).2).2))).1).length:Int)))
  (some (IntKind.i64.wrap xq1,(((c_0.1,(IntKind.i64.wrap (c_0.2.1+1),c_0.2.2)).1,(((c_0.1,(IntKind.i64.wrap (c_0.2.1+1),c_0.2.2)).2).1,(IntKind.u64.wrap ((IntKind.u64.wrap ((IntKind.u64.wrap (((((c_0.1,(IntKind.i64.wrap (c_0.2.1+1),c_0.2.2)).2).2).1)*6364136223846793005))+(IntKind.u64.wrap (IntKind.i64.wrap xq1))))+550289),(((c_0.1,(IntKind.i64.wrap (c_0.2.1+1),c_0.2.2)).2).2).2))),())))
  ((shrI IntKind.u64 (((((c_0.1,(IntKind.i64.wrap (c_0.2.1+1),c_0.2.2)).1,(((c_0.1,(IntKind.i64.wrap (c_0.2.1+1),c_0.2.2)).2).1,(IntKind.u64.wrap ((IntKind.u64.wrap ((IntKind.u64.wrap (((((c_0.1,(IntKind.i64.wrap (c_0.2.1+1),c_0.2.2)).2).2).1)*6364136223846793005))+(IntKind.u64.wrap (IntKind.i64.wrap xq1))))+550289),(((c_0.1,(IntKind.i64.wrap (c_0.2.1+1),c_0.2.2)).2).2).2))).2).2).1) 40).bind fun xq2 =>
  some (IntKind.i64.wrap (bitI .and IntKind.u64 xq2 255),(((c_0.1,(IntKind.i64.wrap (c_0.2.1+1),c_0.2.2)).1,(((c_0.1,(IntKind.i64.wrap (c_0.2.1+1),c_0.2.2)).2).1,(IntKind.u64.wrap ((IntKind.u64.wrap ((IntKind.u64.wrap (((((c_0.1,(IntKind.i64.wrap (c_0.2.1+1),c_0.2.2)).2).2).1)*6364136223846793005))+(IntKind.u64.wrap (IntKind.i64.wrap xq1))))+550289),(((c_0.1,(IntKind.i64.wrap (c_0.2.1+1),c_0.2.2)).2).2).2))),()))))
  (cond (decide (((((c_0.1,(IntKind.i64.wrap (c_0.2.1+1),c_0.2.2)).1,(((c_0.1,(IntKind.i64.wrap (c_0.2.1+1),c_0.2.2)).2).1,(IntKind.u64.wrap ((IntKind.u64.wrap ((IntKind.u64.wrap (((((c_0.1,(IntKind.i64.wrap (c_0.2.1+1),c_0.2.2)).2).2).1)*6364136223846793005))+(IntKind.u64.wrap 0)))+550289),(((c_0.1,(IntKind.i64.wrap (c_0.2.1+1),c_0.2.2)).2).2).2))).2).1)≤((((c_0.1,(IntKind.i64.wrap (c_0.2.1+1),c_0.2.2)).1,(((c_0.1,(IntKind.i64.wrap (c_0.2.1+1),c_0.2.2)).2).1,(IntKind.u64.wrap ((IntKind.u64.wrap ((IntKind.u64.wrap (((((c_0.1,(IntKind.i64.wrap (c_0.2.1+1),c_0.2.2)).2).2).1)*6364136223846793005))+(IntKind.u64.wrap 0)))+550289),(((c_0.1,(IntKind.i64.wrap (c_0.2.1+1),c_0.2.2)).2).2).2))).1).length:Int)))
  (some (0,(((c_0.1,(IntKind.i64.wrap (c_0.2.1+1),c_0.2.2)).1,(((c_0.1,(IntKind.i64.wrap (c_0.2.1+1),c_0.2.2)).2).1,(IntKind.u64.wrap ((IntKind.u64.wrap ((IntKind.u64.wrap (((((c_0.1,(IntKind.i64.wrap (c_0.2.1+1),c_0.2.2)).2).2).1)*6364136223846793005))+(IntKind.u64.wrap 0)))+550289),(((c_0.1,(IntKind.i64.wrap (c_0.2.1+1),c_0.2.2)).2).2).2))),())))
  ((shrI IntKind.u64 (((((c_0.1,(IntKind.i64.wrap (c_0.2.1+1),c_0.2.2)).1,(((c_0.1,(IntKind.i64.wrap (c_0.2.1+1),c_0.2.2)).2).1,(IntKind.u64.wrap ((IntKind.u64.wrap ((IntKind.u64.wrap (((((c_0.1,(IntKind.i64.wrap (c_0.2.1+1),c_0.2.2)).2).2).1)*6364136223846793005))+(IntKind.u64.wrap 0)))+550289),(((c_0.1,(IntKind.i64.wrap (c_0.2.1+1),c_0.2.2)).2).2).2))).2).2).1) 40).bind fun xq3 =>
  some (IntKind.i64.wrap (bitI .and IntKind.u64 xq3 255),(((c_0.1,(IntKind.i64.wrap (c_0.2.1+1),c_0.2.2)).1,(((c_0.1,(IntKind.i64.wrap (c_0.2.1+1),c_0.2.2)).2).1,(IntKind.u64.wrap ((IntKind.u64.wrap ((IntKind.u64.wrap (((((c_0.1,(IntKind.i64.wrap (c_0.2.1+1),c_0.2.2)).2).2).1)*6364136223846793005))+(IntKind.u64.wrap 0)))+550289),(((c_0.1,(IntKind.i64.wrap (c_0.2.1+1),c_0.2.2)).2).2).2))),()))))
def V1 (c_0:Z0):Option (Int×(Z0×Unit)):=V1_s c_0
def S_V1:Sig:=⟨Q20,[1],[O4],Q20,I,.i,fun x=>V1 x.1⟩
def A_V1:Cfg:=mkCfg tab [] []
theorem run_V1 (N x):runF A_V1 N Tryz.f68 S_V1 x=V1 x.1:=by kernel_rfl
theorem ok_V1:OK 68 S_V1:=gdR (A:=A_V1) tc Tryz.func68 (jeq trivial) (run_V1 big)
def V2_s (c_0:Z0) (n_1:Int):Option (Int×(Z0×Unit)) :=
  cond (decide (n_1≤1))
  (some (0,(c_0,())))
  ((V1 c_0).bind fun rq1 =>
  cond (decide (200<n_1))
  ((V1 rq1.2.1).bind fun rq2 =>
  (remI (IntKind.i64.wrap ((IntKind.i64.wrap (rq1.1*256))+rq2.1)) n_1).bind fun xq3 =>
  some (xq3,(rq2.2.1,())))
  ((remI rq1.1 n_1).bind fun xq4 =>
  some (xq4,(rq1.2.1,()))))
def V2 (c_0:Z0) (n_1:Int):Option (Int×(Z0×Unit)):=V2_s c_0 n_1
def S_V2:Sig:=⟨(.pair Q2 Q17),[1,0],[O4],Q20,I,.i,fun x=>V2 x.1 x.2.1⟩
def A_V2:Cfg:=mkCfg tab [(68,S_V1)] []
theorem run_V2 (N x):runF A_V2 N Tryz.f24 S_V2 x=V2 x.1 x.2.1:=by kernel_rfl
theorem ok_V2:OK 24 S_V2:=gdR (A:=A_V2) tc Tryz.func24 (jeq ⟨ok_V1,trivial⟩) (run_V2 big)
def V3_s (c_0:Z0) (n_1:Int):Option (Bool×(Z0×Unit)) :=
  (V2 c_0 n_1).bind fun rq1 =>
  some (decide (rq1.1=0),(rq1.2.1,()))
def V3 (c_0:Z0) (n_1:Int):Option (Bool×(Z0×Unit)):=V3_s c_0 n_1
def S_V3:Sig:=⟨(.pair Q2 Q17),[1,0],[O4],Q20,.bool,.i,fun x=>V3 x.1 x.2.1⟩
def A_V3:Cfg:=mkCfg tab [(24,S_V2)] []
theorem run_V3 (N x):runF A_V3 N Tryz.f36 S_V3 x=V3 x.1 x.2.1:=by kernel_rfl
theorem ok_V3:OK 36 S_V3:=gdR (A:=A_V3) tc Tryz.func36 (jeq ⟨ok_V2,trivial⟩) (run_V3 big)
def V4_s (c_0:Z0) (list_1:Y4):Option (Int×(Z0×Unit)) :=
  (V2 c_0 (list_1.length:Int)).bind fun rq1 =>
  (atI list_1 rq1.1).bind fun xq2 =>
  some (xq2,(rq1.2.1,()))
def V4 (c_0:Z0) (list_1:Y4):Option (Int×(Z0×Unit)):=V4_s c_0 list_1
def S_V4:Sig:=⟨(.pair Q2 Q9),[1,0],[O4],Q20,I,.i,fun x=>V4 x.1 x.2.1⟩
def A_V4:Cfg:=mkCfg tab [(24,S_V2)] []
theorem run_V4 (N x):runF A_V4 N Tryz.f55 S_V4 x=V4 x.1 x.2.1:=by kernel_rfl
theorem ok_V4:OK 55 S_V4:=gdR (A:=A_V4) tc Tryz.func55 (jeq ⟨ok_V2,trivial⟩) (run_V4 big)
def wo6 (rec:T93) (k:Z0→Int→Y4→Z6) (a0:Z0) (a1:Int) (a5:Y4) (a6:Int):Z6 :=
  cond (decide (a6<a1))
  ((V2 a0 (IntKind.i64.wrap ((a5.length:Int)+1))).bind fun rq1 =>
  (slI a5 0 rq1.1).bind fun xq2 =>
  (appI [] xq2).bind fun xq3 =>
  (appI xq3 [a6]).bind fun xq4 =>
  (slI a5 rq1.1 a5.length).bind fun xq5 =>
  (appI xq4 xq5).bind fun xq6 =>
  rec rq1.2.1 a1 xq6 (IntKind.i64.wrap (a6+1)))
  (k a0 a1 a5)
def wl1 (a0:Z0) (a1:Int) (a5:Y4):Z6 :=
  (V2 a0 24).bind fun rq7 =>
  cond (decide (rq7.1=0))
  ((appI a5 [a1]).bind fun xq8 =>
  some (xq8,(rq7.2.1,())))
  (cond (decide (rq7.1=1))
  (cond (decide (0<a1))
  ((V2 rq7.2.1 a1).bind fun rq9 =>
  (V4 rq9.2.1 [(0:Int),(-1:Int),a1]).bind fun rq10 =>
  (atI a5 rq9.1).bind fun _ =>
  (a5[rq9.1.toNat]?).bind fun xq11 =>
  some (a5.set rq9.1.toNat rq10.1,(rq10.2.1,())))
  (some (a5,(rq7.2.1,()))))
  (some (a5,(rq7.2.1,()))))
def V5_s (L3:T93) (c_0:Z0) (n_1:Int):Z6 :=
  L3 c_0 n_1 [] 0
def w30 (N:Nat) (k:Z0→Int→Y4→Z6):=itN (fun r=>wo6 r k) fun _ _ _ _=>none
def w3z (N:Nat):=w30 N (wl1) N
def V5 (N:Nat) (c_0:Z0) (n_1:Int):Z6:=V5_s (w3z N) c_0 n_1
def S_V5:Sig:=⟨(.pair Q2 Q17),[1,0],[O4],Q20,Q6,O4,fun x=>V5 big x.1 x.2.1⟩
def A_V5:Cfg:=mkCfg tab [(24,S_V2),(55,S_V4)] [(6,([B6,B0]++dr 3 [B1,B0])),(13,([B6,B0]++dr 3 [B4,B0,B0])),(15,([B6,B0]++dr 3 [B1]))]
noncomputable def wo5 (N n:Nat) (K:T103) (a0:Z0) (a1:Int) (a5:Y4) (a6:Int):Z6:=itr A_V5 N 6 Tryz.f60 [1,1,0,1,0,0] n (([W6 a0,W0 a1]++ud 3 [W1 a5,W0 a6])++us 46) K
noncomputable def V5_z:Ex→St→Z6:=finish A_V5 S_V5 Tryz.f60.results.toList
noncomputable def xgl (kX:T79) (a0:Z0) (a1:Int) (a5:Y4):Z6:=kX (([W6 a0,W0 a1]++ud 3 [W1 a5])++us 47)
noncomputable def xgk (kX:T79) (kO:T67):=exK V5_z 0 (A_V5.shape 15) kX kO
theorem xe9 (N kX kO):∀n,wo5 N n (xgk kX kO)=w30 N (xgl kX) n :=
 itE rfl fun m=>by kernel_rfl
noncomputable def wto (N:Nat):=(blockK 0 (sqK A_V5 N 15 500007 Tryz.f60 [1,1,1] V5_z))
noncomputable def xgm (N:Nat) (st':St):Z6:=rn A_V5 N Tryz.f60 [1,1,1] st' V5_z
theorem xme (N):wo5 N N (wto N)=w3z N:=by
 rw[show wo5 N N (wto N)=wo5 N N (xgk (xgm N) fun j=>(wto N) (.exit j)) from(by funext _ _ _ _;exact jlo),xe9,show xgl (xgm N)=wl1 by kernel_rfl];rfl
theorem run_V5 (N x):runF A_V5 N Tryz.f60 S_V5 x=V5 N x.1 x.2.1:=(show _=(V5_s (wo5 N N (wto N)) x.1 x.2.1) by kernel_rfl).trans (by rw[xme N];rfl)
theorem ok_V5:OK 60 S_V5:=gdR (A:=A_V5) tc Tryz.func60 (jeq ⟨ok_V2,ok_V4,trivial⟩) (run_V5 big)
def V6_s (x_0 a_1 b_2:Int):Option Z1 :=
  cond (decide (a_1≤x_0))
  (some (decide (x_0≤b_2),(())))
  (some (false,(())))
def V6 (x_0 a_1 b_2:Int):Option Z1:=V6_s x_0 a_1 b_2
def S_V6:Sig:=⟨(.pair I Q8),[0,0,0],[],.unit,.bool,.i,fun x=>V6 x.1 x.2.1 x.2.2.1⟩
def A_V6:Cfg:=mkCfg tab [] []
theorem run_V6 (N x):runF A_V6 N Tryz.f56 S_V6 x=V6 x.1 x.2.1 x.2.2.1:=by kernel_rfl
theorem ok_V6:OK 56 S_V6:=gdR (A:=A_V6) tc Tryz.func56 (jeq trivial) (run_V6 big)
def zu (rec:Int→Y4→Int→Option Z1) (k:Option Z1) (a0:Int) (a1:Y4) (a5:Int):Option Z1 :=
  cond (decide (a5<(a1.length:Int)))
  ((atI a1 a5).bind fun xq1 =>
  (V6 xq1 0 (IntKind.i64.wrap (a0-1))).bind fun rq2 =>
  cond (!rq2.1)
  (some (false,(())))
  (rec a0 a1 (IntKind.i64.wrap (a5+1))))
  (k)
def yp:Option Z1 :=
  some (true,(()))
def V7_s (L2:Int→Y4→Int→Option Z1) (n_0:Int) (list_1:Y4):Option Z1 :=
  L2 n_0 list_1 0
def wtu (N:Nat) (k:Option Z1):=itN (fun r=>zu r k) fun _ _ _=>none
def wts (N:Nat):=wtu N (yp) N
def V7 (N:Nat) (n_0:Int) (list_1:Y4):Option Z1:=V7_s (wts N) n_0 list_1
def S_V7:Sig:=⟨(.pair I Q9),[0,0],[],.unit,.bool,.i,fun x=>V7 big x.1 x.2.1⟩
def A_V7:Cfg:=mkCfg tab [(56,S_V6)] [(4,([B0,B4]++dr 3 [B0])),(13,[])]
noncomputable def wpm (N n:Nat) (K:Ex→St→Option Z1) (a0:Int) (a1:Y4) (a5:Int):Option Z1:=itr A_V7 N 4 Tryz.f30 [1,0,1,0,0] n (([W0 a0,W4 a1]++ud 3 [W0 a5])++us 14) K
noncomputable def V7_z:Ex→St→Option Z1:=finish A_V7 S_V7 Tryz.f30.results.toList
noncomputable def xgz (kX:St→Option Z1):Option Z1:=kX ([]++us 20)
noncomputable def xgy (kX:St→Option Z1) (kO:Nat→St→Option Z1):Ex→St→Option Z1:=exK V7_z 0 (A_V7.shape 13) kX kO
theorem xfc (N kX kO):∀n,wpm N n (xgy kX kO)=wtu N (xgz kX) n :=
 itE rfl fun m=>by kernel_rfl
noncomputable def wtt (N:Nat):Ex→St→Option Z1:=(blockK 0 (sqK A_V7 N 13 500006 Tryz.f30 [1,1] V7_z))
noncomputable def xg0 (N:Nat) (st':St):Option Z1:=rn A_V7 N Tryz.f30 [1,1] st' V7_z
theorem xmo (N):wpm N N (wtt N)=wts N:=by
 rw[show wpm N N (wtt N)=wpm N N (xgy (xg0 N) fun j=>(wtt N) (.exit j)) from(by funext _ _ _;exact jlo),xfc,show xgz (xg0 N)=yp by kernel_rfl];rfl
theorem run_V7 (N x):runF A_V7 N Tryz.f30 S_V7 x=V7 N x.1 x.2.1:=(show _=(V7_s (wpm N N (wtt N)) x.1 x.2.1) by kernel_rfl).trans (by rw[xmo N];rfl)
theorem ok_V7:OK 30 S_V7:=gdR (A:=A_V7) tc Tryz.func30 (jeq ⟨ok_V6,trivial⟩) (run_V7 big)
def wql (rec:Y4→Int→Z12→Int→Option Z1) (k:Option Z1) (a0:Y4) (a1:Int) (a5:Z12) (a6:Int):Option Z1 :=
  cond (decide (a6<a1))
  ((atI a0 a6).bind fun xq4 =>
  (atI a5 xq4).bind fun _ =>
  (a5[xq4.toNat]?).bind fun xq5 =>
  cond xq5
  (some (false,(())))
  ((atI a0 a6).bind fun xq6 =>
  (atI a5 xq6).bind fun _ =>
  (a5[xq6.toNat]?).bind fun xq7 =>
  rec a0 a1 (a5.set xq6.toNat true) (IntKind.i64.wrap (a6+1))))
  (k)
def wmb:Option Z1 :=
  some (true,(()))
def V8_s (L5:Y4→Int→Z12→Int→Option Z1) (l_0:Y4) (n_1:Int):Option Z1 :=
  cond (decide ((l_0.length:Int)≠n_1))
  (some (false,(())))
  ((V7 big n_1 l_0).bind fun rq1 =>
  cond (!rq1.1)
  (some (false,(())))
  ((mkI false n_1).bind fun xq2=>(mkI false n_1).bind fun xq3=>cond (decide (n_1≤n_1))
  (L5 l_0 n_1 xq3 0)
  none))
def w4s (N:Nat) (k:Option Z1):=itN (fun r=>wql r k) fun _ _ _ _=>none
def w4r (N:Nat):=w4s N (wmb) N
def V8 (N:Nat) (l_0:Y4) (n_1:Int):Option Z1:=V8_s (w4r N) l_0 n_1
def S_V8:Sig:=⟨(.pair Q6 Q17),[0,0],[],.unit,.bool,.i,fun x=>V8 big x.1 x.2.1⟩
def A_V8:Cfg:=mkCfg tab [(30,S_V7)] [(10,([B4,B0]++dr 3 [.as Q16 O4,B0])),(21,[])]
noncomputable def wqk (N n:Nat) (K:Ex→St→Option Z1) (a0:Y4) (a1:Int) (a5:Z12) (a6:Int):Option Z1:=itr A_V8 N 10 Tryz.f61 [1,1,1,0,1,0,0] n (([W4 a0,W0 a1]++ud 3 [.val Q16 O4 a5,W0 a6])++us 30) K
noncomputable def V8_z:Ex→St→Option Z1:=finish A_V8 S_V8 Tryz.f61.results.toList
noncomputable def xg4 (kX:St→Option Z1):Option Z1:=kX ([]++us 37)
noncomputable def xg3 (kX:St→Option Z1) (kO:Nat→St→Option Z1):Ex→St→Option Z1:=exK V8_z 0 (A_V8.shape 21) kX kO
theorem xfh (N kX kO):∀n,wqk N n (xg3 kX kO)=w4s N (xg4 kX) n :=
 itE rfl fun m=>by kernel_rfl
noncomputable def wt2 (N:Nat):Ex→St→Option Z1:=(blockK 0 (sqK A_V8 N 21 500010 Tryz.f61 [1,1,1,1] V8_z))
noncomputable def xg5 (N:Nat) (st':St):Option Z1:=rn A_V8 N Tryz.f61 [1,1,1,1] st' V8_z
theorem xm4 (N):wqk N N (wt2 N)=w4r N:=by
 rw[show wqk N N (wt2 N)=wqk N N (xg3 (xg5 N) fun j=>(wt2 N) (.exit j)) from(by funext _ _ _ _;exact jlo),xfh,show xg4 (xg5 N)=wmb by kernel_rfl];rfl
theorem run_V8 (N x):runF A_V8 N Tryz.f61 S_V8 x=V8 N x.1 x.2.1:=(show _=(V8_s (wqk N N (wt2 N)) x.1 x.2.1) by kernel_rfl).trans (by rw[xm4 N];rfl)
theorem ok_V8:OK 61 S_V8:=gdR (A:=A_V8) tc Tryz.func61 (jeq ⟨ok_V7,trivial⟩) (run_V8 big)
def wkz (rec:T54) (k:Int→Y2→Y5→Y2→Int→Y4→Z4) (a0:Int) (a4:Y2) (a5:Y5) (a12:Y2) (a13:Int) (a14:Y4) (a15:Int):Z4 :=
  cond (decide (a15<a0))
  ((atI a5 a15).bind fun _ =>
  (a5[a15.toNat]?).bind fun xq33 =>
  (a5[a15.toNat]?).bind fun xq34 =>
  (atI xq34 a13).bind fun _ =>
  (a5[a15.toNat]?).bind fun xq35 =>
  (xq35[a13.toNat]?).bind fun xq36 =>
  cond xq36
  ((appI a14 [a15]).bind fun xq37 =>
  rec a0 a4 a5 a12 a13 xq37 (IntKind.i64.wrap (a15+1)))
  (rec a0 a4 a5 a12 a13 a14 (IntKind.i64.wrap (a15+1))))
  (k a0 a4 a5 a12 a13 a14)
def wgx (rec:T48) (a0:Int) (a4:Y2) (a5:Y5) (a12:Y2) (a13:Int) (a14:Y4):Z4 :=
  (appI a12.1 [a14]).bind fun xq38 =>
  rec a0 a4 a5 (xq38,((),a12.2).2) (IntKind.i64.wrap (a13+1))
def wky (rec:T59) (k:T24) (a0:Int) (a4:Y2) (a5:Y5) (a9 a10 a11:Int):Z4 :=
  cond (decide (a11<a0))
  ((atI a5 a10).bind fun _ =>
  (a5[a10.toNat]?).bind fun xq11 =>
  (atI a5 a10).bind fun _ =>
  (a5[a10.toNat]?).bind fun xq12 =>
  (a5[a10.toNat]?).bind fun xq13 =>
  (atI xq13 a11).bind fun _ =>
  (a5[a10.toNat]?).bind fun xq14 =>
  (xq14[a11.toNat]?).bind fun xq15 =>
  cond xq15
  ((a5[a10.toNat]?).bind fun xq16 =>
  (atI xq16 a11).bind fun _ =>
  (a5[a10.toNat]?).bind fun xq17 =>
  (xq17[a11.toNat]?).bind fun xq18 =>
  rec a0 a4 (a5.set a10.toNat (xq17.set a11.toNat true)) a9 a10 (IntKind.i64.wrap (a11+1)))
  ((atI a5 a10).bind fun _ =>
  (a5[a10.toNat]?).bind fun xq19 =>
  (a5[a10.toNat]?).bind fun xq20 =>
  (atI xq20 a9).bind fun _ =>
  (a5[a10.toNat]?).bind fun xq21 =>
  (xq21[a9.toNat]?).bind fun xq22 =>
  cond xq22
  ((atI a5 a9).bind fun _ =>
  (a5[a9.toNat]?).bind fun xq23 =>
  (a5[a9.toNat]?).bind fun xq24 =>
  (atI xq24 a11).bind fun _ =>
  (a5[a9.toNat]?).bind fun xq25 =>
  (xq25[a11.toNat]?).bind fun xq26 =>
  (a5[a10.toNat]?).bind fun xq27 =>
  (atI xq27 a11).bind fun _ =>
  (a5[a10.toNat]?).bind fun xq28 =>
  (xq28[a11.toNat]?).bind fun xq29 =>
  rec a0 a4 (a5.set a10.toNat (xq28.set a11.toNat xq26)) a9 a10 (IntKind.i64.wrap (a11+1)))
  ((a5[a10.toNat]?).bind fun xq30 =>
  (atI xq30 a11).bind fun _ =>
  (a5[a10.toNat]?).bind fun xq31 =>
  (xq31[a11.toNat]?).bind fun xq32 =>
  rec a0 a4 (a5.set a10.toNat (xq31.set a11.toNat false)) a9 a10 (IntKind.i64.wrap (a11+1)))))
  (k a0 a4 a5 a9 a10)
def wgw (rec:T24) (a0:Int) (a4:Y2) (a5:Y5) (a9 a10:Int):Z4 :=
  rec a0 a4 a5 a9 (IntKind.i64.wrap (a10+1))
def wg0 (L28:T54) (k:T32) (a0:Int) (a4:Y2) (a5:Y5) (a12:Y2) (a13:Int):Z4 :=
  cond (decide (a13<a0))
  (L28 a0 a4 a5 a12 a13 [] 0)
  (k a4 a12)
def zo (a4 a12:Y2):Z4 :=
  some (a12,(()))
def wgz (L19:T59) (k:T25) (a0:Int) (a4:Y2) (a5:Y5) (a9 a10:Int):Z4 :=
  cond (decide (a10<a0))
  (L19 a0 a4 a5 a9 a10 0)
  (k a0 a4 a5 a9)
def zn (rec:T25) (a0:Int) (a4:Y2) (a5:Y5) (a9:Int):Z4 :=
  rec a0 a4 a5 (IntKind.i64.wrap (a9+1))
def wgy (L16:T24) (k:T87) (a0:Int) (a4:Y2) (a5:Y5) (a9:Int):Z4 :=
  cond (decide (a9<a0))
  (L16 a0 a4 a5 a9 0)
  (k a0 a4 a5)
def zm (L24:T48) (a0:Int) (a4:Y2) (a5:Y5):Z4 :=
  L24 a0 a4 a5 ([],()) 0
def wq9 (rec:T28) (k:T87) (a0:Int) (a1:Z5) (a4:Y2) (a5:Y5) (a8:Int):Z4 :=
  cond (decide (a8<(a1.length:Int)))
  ((atI a1 a8).bind fun xq5 =>
  (atI a5 xq5.1).bind fun _ =>
  (a5[xq5.1.toNat]?).bind fun xq6 =>
  (atI a1 a8).bind fun xq7 =>
  (a5[xq5.1.toNat]?).bind fun xq8 =>
  (atI xq8 xq7.2.1).bind fun _ =>
  (a5[xq5.1.toNat]?).bind fun xq9 =>
  (xq9[xq7.2.1.toNat]?).bind fun xq10 =>
  rec a0 a1 a4 (a5.set xq5.1.toNat (xq9.set xq7.2.1.toNat true)) (IntKind.i64.wrap (a8+1)))
  (k a0 a4 a5)
def wmi (L13:T25) (a0:Int) (a4:Y2) (a5:Y5):Z4 :=
  L13 a0 a4 a5 0
def wq8 (rec:T28) (k:Int→Z5→Y2→Y5→Z4) (a0:Int) (a1:Z5) (a4:Y2) (a5:Y5) (a6:Int):Z4 :=
  cond (decide (a6<a0))
  ((mkI false a0).bind fun xq1=>(mkI false a0).bind fun xq2=>cond (decide (a0≤a0))
  ((atI xq2 a6).bind fun _ =>
  (xq2[a6.toNat]?).bind fun xq3 =>
  (appI a5 [xq2.set a6.toNat true]).bind fun xq4 =>
  rec a0 a1 a4 xq4 (IntKind.i64.wrap (a6+1)))
  none)
  (k a0 a1 a4 a5)
def wmh (L9:T28) (a0:Int) (a1:Z5) (a4:Y2) (a5:Y5):Z4 :=
  L9 a0 a1 a4 a5 0
def V9_s (L3:T28) (n_0:Int) (pairs_1:Z5):Z4 :=
  L3 n_0 pairs_1 (([]:Y3),()) [] 0
def wyb (N:Nat) (k:T24):=itN (fun r=>wky r k) fun _ _ _ _ _ _=>none
def wku (N:Nat) (rec:T24) (k:T25):=wyb N (wgw rec) N
def wya (N:Nat) (k:T25):=itN (fun r=>wgz (wku N r k) k) fun _ _ _ _ _=>none
def wkt (N:Nat) (rec:T25) (k:T87):=wya N (zn rec) N
def wyd (N:Nat) (k:Int→Y2→Y5→Y2→Int→Y4→Z4):=itN (fun r=>wkz r k) fun _ _ _ _ _ _ _=>none
def wkv (N:Nat) (rec:T48) (k:T32):=wyd N (wgx rec) N
def w49 (N:Nat) (k:Int→Z5→Y2→Y5→Z4):=itN (fun r=>wq8 r k) fun _ _ _ _ _=>none
def w5a (N:Nat) (k:T87):=itN (fun r=>wq9 r k) fun _ _ _ _ _=>none
def wx9 (N:Nat) (k:T87):=itN (fun r=>wgy (wkt N r k) k) fun _ _ _ _=>none
def wyc (N:Nat) (k:T32):=itN (fun r=>wg0 (wkv N r k) k) fun _ _ _ _ _=>none
def x7 (N:Nat):=wyc N (zo) N
def wb3 (N:Nat):=wx9 N (zm (x7 N)) N
def wmg (N:Nat):=w5a N (wmi (wb3 N)) N
def w48 (N:Nat):=w49 N (wmh (wmg N)) N
def V9 (N:Nat) (n_0:Int) (pairs_1:Z5):Z4:=V9_s (w48 N) n_0 pairs_1
def S_V9:Sig:=⟨(.pair I (.pair Q19 .unit)),[0,0],[],.unit,Q0,(.p O11 .i),fun x=>V9 big x.1 x.2.1⟩
def A_V9:Cfg:=mkCfg tab [] [(6,[B0,.as Q19 .i,D0,D0,B2,B7,B0]),(17,[B0,.as Q19 .i,D0,D0,B2,B7]),(18,[B0,.as Q19 .i,D0,D0,B2,B7,D0,D0,B0]),(25,([B0]++dr 3 [B2,B7])),(26,([B0]++dr 3 ([B2,B7]++dr 3 [B0]))),(32,([B0]++dr 3 ([B2,B7]++dr 3 [B0,B0]))),(45,([B0]++dr 3 [B2,B7])),(48,([B0]++dr 3 ([B2,B7]++dr 6 [B2,B0]))),(38,([B0]++dr 3 ([B2,B7]++dr 3 [B0,B0,B0]))),(29,([B0]++dr 3 ([B2,B7]++dr 3 [B0]))),(56,([B0]++dr 3 ([B2,B7]++dr 6 [B2,B0,B1,B0]))),(67,(dr 4 ([B2]++dr 7 [B2]))),(35,([B0]++dr 3 ([B2,B7]++dr 3 [B0,B0]))),(65,([B0]++dr 3 ([B2,B7]++dr 6 [B2,B0,B1])))]
noncomputable def wq3 (N n:Nat) (K:T34) (a0:Int) (a1:Z5) (a4:Y2) (a5:Y5) (a6:Int):Z4:=itr A_V9 N 6 Tryz.f63 [1,1,0,1,0,0] n ([W0 a0,.val Q19 .i a1,.u,.u,W2 a4,W7 a5,W0 a6]++us 121) K
noncomputable def wq4 (N n:Nat) (K:T34) (a0:Int) (a1:Z5) (a4:Y2) (a5:Y5) (a8:Int):Z4:=itr A_V9 N 18 Tryz.f63 [1,1,1,0,1,0,0] n ([W0 a0,.val Q19 .i a1,.u,.u,W2 a4,W7 a5,.u,.u,W0 a8]++us 119) K
noncomputable def wb4 (N n:Nat) (K:T34) (a0:Int) (a4:Y2) (a5:Y5) (a9:Int):Z4:=itr A_V9 N 26 Tryz.f63 [1,1,1,1,0,1,0,0] n (([W0 a0]++ud 3 ([W2 a4,W7 a5]++ud 3 [W0 a9]))++us 118) K
noncomputable def wb5 (N n:Nat) (K:T34) (a0:Int) (a4:Y2) (a5:Y5) (a9 a10:Int):Z4:=itr A_V9 N 32 Tryz.f63 [1,1,1,1,0,1,0,0,1,0,0,1,0,0] n (([W0 a0]++ud 3 ([W2 a4,W7 a5]++ud 3 [W0 a9,W0 a10]))++us 117) K
noncomputable def wb6 (N n:Nat) (K:T34) (a0:Int) (a4:Y2) (a5:Y5) (a12:Y2) (a13:Int):Z4:=itr A_V9 N 48 Tryz.f63 [1,1,1,1,1,1,0,1,0,0] n (([W0 a0]++ud 3 ([W2 a4,W7 a5]++ud 6 [W2 a12,W0 a13]))++us 114) K
noncomputable def wkw (N n:Nat) (K:T34) (a0:Int) (a4:Y2) (a5:Y5) (a9 a10 a11:Int):Z4:=itr A_V9 N 38 Tryz.f63 [1,1,1,1,0,1,0,0,1,0,0,1,0,0,1,0,0,1,0,0] n (([W0 a0]++ud 3 ([W2 a4,W7 a5]++ud 3 [W0 a9,W0 a10,W0 a11]))++us 116) K
noncomputable def wkx (N n:Nat) (K:T34) (a0:Int) (a4:Y2) (a5:Y5) (a12:Y2) (a13:Int) (a14:Y4) (a15:Int):Z4:=itr A_V9 N 56 Tryz.f63 [1,1,1,1,1,1,0,1,0,0,1,0,0,1,0,1,0,0] n (([W0 a0]++ud 3 ([W2 a4,W7 a5]++ud 6 [W2 a12,W0 a13,W1 a14,W0 a15]))++us 112) K
noncomputable def V9_z:Ex→St→Z4:=finish A_V9 S_V9 Tryz.f63.results.toList
noncomputable def xhb (kX:T7) (a0:Int) (a1:Z5) (a4:Y2) (a5:Y5):Z4:=kX ([W0 a0,.val Q19 .i a1,.u,.u,W2 a4,W7 a5]++us 122)
noncomputable def xg9 (kX:T7) (kO:T1):=exK V9_z 0 (A_V9.shape 17) kX kO
noncomputable def xhc (kX:T7) (a0:Int) (a4:Y2) (a5:Y5):Z4:=kX (([W0 a0]++ud 3 [W2 a4,W7 a5])++us 122)
noncomputable def xha (kX:T7) (kO:T1):=exK V9_z 2 (A_V9.shape 25) kX kO
noncomputable def wq5 (kX:T7) (a0:Int) (a4:Y2) (a5:Y5):Z4:=kX (([W0 a0]++ud 3 [W2 a4,W7 a5])++us 122)
noncomputable def wgt (kX:T7) (kO:T1):=exK V9_z 4 (A_V9.shape 45) kX kO
noncomputable def wq6 (kX:T7) (a0:Int) (a4:Y2) (a5:Y5) (a9:Int):Z4:=kX (([W0 a0]++ud 3 ([W2 a4,W7 a5]++ud 3 [W0 a9]))++us 118)
noncomputable def wgu (kX:T7) (kO:T1):=exK V9_z 6 (A_V9.shape 29) kX kO
noncomputable def wq7 (kX:T7) (a4 a12:Y2):Z4:=kX ((ud 4 ([W2 a4]++ud 7 [W2 a12]))++us 115)
noncomputable def wgv (kX:T7) (kO:T1):=exK V9_z 10 (A_V9.shape 67) kX kO
noncomputable def xds (kX:T7) (a0:Int) (a4:Y2) (a5:Y5) (a9 a10:Int):Z4:=kX (([W0 a0]++ud 3 ([W2 a4,W7 a5]++ud 3 [W0 a9,W0 a10]))++us 117)
noncomputable def xdq (kX:T7) (kO:T1):=exK V9_z 8 (A_V9.shape 35) kX kO
noncomputable def xdt (kX:T7) (a0:Int) (a4:Y2) (a5:Y5) (a12:Y2) (a13:Int) (a14:Y4):Z4:=kX (([W0 a0]++ud 3 ([W2 a4,W7 a5]++ud 6 [W2 a12,W0 a13,W1 a14]))++us 113)
noncomputable def xdr (kX:T7) (kO:T1):=exK V9_z 12 (A_V9.shape 65) kX kO
theorem xfk (N kX kO):∀n,wq3 N n (xg9 kX kO)=w49 N (xhb kX) n :=
 itE rfl fun m=>by kernel_rfl
noncomputable def wt3 (N:Nat):=(blockK 0 (sqK A_V9 N 17 500008 Tryz.f63 [1,1,1] V9_z))
theorem xfl (N kX kO):∀n,wq4 N n (xha kX kO)=w5a N (xhc kX) n :=
 itE rfl fun m=>by kernel_rfl
noncomputable def wt4 (N:Nat):=(blockK 2 (sqK A_V9 N 25 500012 Tryz.f63 [1,1,1,1] V9_z))
theorem xdw (N kX kO):∀n,wkw N n (xdq kX kO)=wyb N (xds kX) n :=
 itE rfl fun m=>by kernel_rfl
noncomputable def wq0 (N m:Nat) (kX:T7) (kO:T1):=(blockK 8 (blockK 7 (sqK A_V9 N 35 500017 Tryz.f63 [1,1,1,1,0,1,0,0,1,0,0,1,0,0,1,1] (itK A_V9 N 32 Tryz.f63 [1,1,1,1,0,1,0,0,1,0,0,1,0,0] m (wgu kX kO)))))
noncomputable def xd1 (N m:Nat) (kX:T7) (kO:T1) (st':St):Z4:=rn A_V9 N Tryz.f63 [1,1,1,1,0,1,0,0,1,0,0,1,0,0,1,1] st' (itK A_V9 N 32 Tryz.f63 [1,1,1,1,0,1,0,0,1,0,0,1,0,0] m (wgu kX kO))
theorem xkk (N m kX kO) {r}(h:wb5 N m (wgu kX kO)=r):wkw N N (wq0 N m kX kO)=wku N r (wq6 kX):=by
 rw[show wkw N N (wq0 N m kX kO)=wkw N N (xdq (xd1 N m kX kO) fun j=>(wq0 N m kX kO) (.exit j)) from(by funext _ _ _ _ _ _;exact jlo),xdw,show xds (xd1 N m kX kO)=wgw (wb5 N m (wgu kX kO)) by kernel_rfl,h];rfl
theorem xdv (N kX kO):∀n,wb5 N n (wgu kX kO)=wya N (wq6 kX) n :=
 itE rfl fun m=>(show _=wgz (wkw N N (wq0 N m kX kO)) (wq6 kX) by kernel_rfl).trans (by rw[xkk N m kX kO rfl]<;>rfl)
noncomputable def wqz (N m:Nat) (kX:T7) (kO:T1):=(blockK 6 (blockK 5 (sqK A_V9 N 29 500014 Tryz.f63 [1,1,1,1,0,1,0,0,1,1] (itK A_V9 N 26 Tryz.f63 [1,1,1,1,0,1,0,0] m (wgt kX kO)))))
noncomputable def xd0 (N m:Nat) (kX:T7) (kO:T1) (st':St):Z4:=rn A_V9 N Tryz.f63 [1,1,1,1,0,1,0,0,1,1] st' (itK A_V9 N 26 Tryz.f63 [1,1,1,1,0,1,0,0] m (wgt kX kO))
theorem xkj (N m kX kO) {r}(h:wb4 N m (wgt kX kO)=r):wb5 N N (wqz N m kX kO)=wkt N r (wq5 kX):=by
 rw[show wb5 N N (wqz N m kX kO)=wb5 N N (wgu (xd0 N m kX kO) fun j=>(wqz N m kX kO) (.exit j)) from(by funext _ _ _ _ _;exact jlo),xdv,show wq6 (xd0 N m kX kO)=zn (wb4 N m (wgt kX kO)) by kernel_rfl,h];rfl
theorem xdu (N kX kO):∀n,wb4 N n (wgt kX kO)=wx9 N (wq5 kX) n :=
 itE rfl fun m=>(show _=wgy (wb5 N N (wqz N m kX kO)) (wq5 kX) by kernel_rfl).trans (by rw[xkj N m kX kO rfl]<;>rfl)
noncomputable def wqy (N:Nat):=(blockK 4 (sqK A_V9 N 45 500022 Tryz.f63 [1,1,1,1,1] V9_z))
theorem xdy (N kX kO):∀n,wkx N n (xdr kX kO)=wyd N (xdt kX) n :=
 itE rfl fun m=>by kernel_rfl
noncomputable def wq2 (N m:Nat) (kX:T7) (kO:T1):=(blockK 12 (sqK A_V9 N 65 500032 Tryz.f63 [1,1,1,1,1,1,0,1,0,0,1,0,0,1,1] (blockK 11 (sqK A_V9 N 51 500025 Tryz.f63 [1,1,1,1,1,1,0,1,0,0,1,1] (itK A_V9 N 48 Tryz.f63 [1,1,1,1,1,1,0,1,0,0] m (wgv kX kO))))))
noncomputable def xd3 (N m:Nat) (kX:T7) (kO:T1) (st':St):Z4:=rn A_V9 N Tryz.f63 [1,1,1,1,1,1,0,1,0,0,1,0,0,1,1] st' (blockK 11 (sqK A_V9 N 51 500025 Tryz.f63 [1,1,1,1,1,1,0,1,0,0,1,1] (itK A_V9 N 48 Tryz.f63 [1,1,1,1,1,1,0,1,0,0] m (wgv kX kO))))
theorem xkm (N m kX kO) {r}(h:wb6 N m (wgv kX kO)=r):wkx N N (wq2 N m kX kO)=wkv N r (wq7 kX):=by
 rw[show wkx N N (wq2 N m kX kO)=wkx N N (xdr (xd3 N m kX kO) fun j=>(wq2 N m kX kO) (.exit j)) from(by funext _ _ _ _ _ _ _;exact jlo),xdy,show xdt (xd3 N m kX kO)=wgx (wb6 N m (wgv kX kO)) by kernel_rfl,h];rfl
theorem xdx (N kX kO):∀n,wb6 N n (wgv kX kO)=wyc N (wq7 kX) n :=
 itE rfl fun m=>(show _=wg0 (wkx N N (wq2 N m kX kO)) (wq7 kX) by kernel_rfl).trans (by rw[xkm N m kX kO rfl]<;>rfl)
noncomputable def wq1 (N:Nat):=(blockK 10 (sqK A_V9 N 67 500033 Tryz.f63 [1,1,1,1,1,1,1] V9_z))
noncomputable def xd2 (N:Nat) (st':St):Z4:=rn A_V9 N Tryz.f63 [1,1,1,1,1,1,1] st' V9_z
theorem xkl (N):wb6 N N (wq1 N)=x7 N:=by
 rw[show wb6 N N (wq1 N)=wb6 N N (wgv (xd2 N) fun j=>(wq1 N) (.exit j)) from(by funext _ _ _ _ _;exact jlo),xdx,show wq7 (xd2 N)=zo by kernel_rfl];rfl
noncomputable def xdz (N:Nat) (st':St):Z4:=rn A_V9 N Tryz.f63 [1,1,1,1,1] st' V9_z
theorem xki (N):wb4 N N (wqy N)=wb3 N:=by
 rw[show wb4 N N (wqy N)=wb4 N N (wgt (xdz N) fun j=>(wqy N) (.exit j)) from(by funext _ _ _ _;exact jlo),xdu,show wq5 (xdz N)=zm (wb6 N N (wq1 N)) by kernel_rfl,xkl N];rfl
noncomputable def xhe (N:Nat) (st':St):Z4:=rn A_V9 N Tryz.f63 [1,1,1,1] st' V9_z
theorem xne (N):wq4 N N (wt4 N)=wmg N:=by
 rw[show wq4 N N (wt4 N)=wq4 N N (xha (xhe N) fun j=>(wt4 N) (.exit j)) from(by funext _ _ _ _ _;exact jlo),xfl,show xhc (xhe N)=wmi (wb4 N N (wqy N)) by kernel_rfl,xki N];rfl
noncomputable def xhd (N:Nat) (st':St):Z4:=rn A_V9 N Tryz.f63 [1,1,1] st' V9_z
theorem xnd (N):wq3 N N (wt3 N)=w48 N:=by
 rw[show wq3 N N (wt3 N)=wq3 N N (xg9 (xhd N) fun j=>(wt3 N) (.exit j)) from(by funext _ _ _ _ _;exact jlo),xfk,show xhb (xhd N)=wmh (wq4 N N (wt4 N)) by kernel_rfl,xne N];rfl
theorem run_V9 (N x):runF A_V9 N Tryz.f63 S_V9 x=V9 N x.1 x.2.1:=(show _=(V9_s (wq3 N N (wt3 N)) x.1 x.2.1) by kernel_rfl).trans (by rw[xnd N];rfl)
theorem ok_V9:OK 63 S_V9:=gdR (A:=A_V9) tc Tryz.func63 (jeq trivial) (run_V9 big)
def whl (rec k:T97) (a0:Y4) (a1 a5:Int):Z3 :=
  cond (decide (a5<(a0.length:Int)))
  ((atI a0 a5).bind fun xq1 =>
  cond (decide (xq1<a1))
  (rec a0 a1 (IntKind.i64.wrap (a5+1)))
  (k a0 a1 a5))
  (k a0 a1 a5)
def wa1 (a0:Y4) (a1 a5:Int):Z3 :=
  cond (decide (a5<(a0.length:Int)))
  ((atI a0 a5).bind fun xq2 =>
  cond (decide (xq2=a1))
  (some (a0,(())))
  ((slI a0 0 a5).bind fun xq3 =>
  (appI [] xq3).bind fun xq4 =>
  (appI xq4 [a1]).bind fun xq5 =>
  (slI a0 a5 a0.length).bind fun xq6 =>
  (appI xq5 xq6).bind fun xq7 =>
  some (xq7,(()))))
  ((slI a0 0 a5).bind fun xq8 =>
  (appI [] xq8).bind fun xq9 =>
  (appI xq9 [a1]).bind fun xq10 =>
  (slI a0 a5 a0.length).bind fun xq11 =>
  (appI xq10 xq11).bind fun xq12 =>
  some (xq12,(())))
def w2c (L2:T97) (l_0:Y4) (n_1:Int):Z3 :=
  L2 l_0 n_1 0
def wuo (N:Nat) (k:T97):=itN (fun r=>whl r k) fun _ _ _=>none
def wun (N:Nat):=wuo N (wa1) N
def V10 (N:Nat) (l_0:Y4) (n_1:Int):Z3:=w2c (wun N) l_0 n_1
def S_V10:Sig:=⟨(.pair Q6 Q17),[0,0],[],.unit,Q6,.i,fun x=>V10 big x.1 x.2.1⟩
def A_V10:Cfg:=mkCfg tab [] [(4,([B4,B0]++dr 3 [B0])),(9,([B4,B0]++dr 3 [B0]))]
noncomputable def whk (N n:Nat) (K:T26) (a0:Y4) (a1 a5:Int):Z3:=itr A_V10 N 4 Tryz.f115 [1,1,0,0,0] n (([W4 a0,W0 a1]++ud 3 [W0 a5])++us 39) K
noncomputable def w2d:Ex→St→Z3:=finish A_V10 S_V10 Tryz.f115.results.toList
noncomputable def w5z (kX:T11) (a0:Y4) (a1 a5:Int):Z3:=kX (([W4 a0,W0 a1]++ud 3 [W0 a5])++us 39)
noncomputable def w5y (kX:T11) (kO:T6):=exK w2d 0 (A_V10.shape 9) kX kO
theorem w50 (N kX kO):∀n,whk N n (w5y kX kO)=wuo N (w5z kX) n :=
 itE rfl fun m=>by kernel_rfl
noncomputable def wm4 (N:Nat):=(blockK 0 (sqK A_V10 N 9 500004 Tryz.f115 [1,1,1] w2d))
noncomputable def w51 (N:Nat) (st':St):Z3:=rn A_V10 N Tryz.f115 [1,1,1] st' w2d
theorem xht (N):whk N N (wm4 N)=wun N:=by
 rw[show whk N N (wm4 N)=whk N N (w5y (w51 N) fun j=>(wm4 N) (.exit j)) from(by funext _ _ _;exact jlo),w50,show w5z (w51 N)=wa1 by kernel_rfl];rfl
theorem run_V10 (N x):runF A_V10 N Tryz.f115 S_V10 x=V10 N x.1 x.2.1:=(show _=(w2c (whk N N (wm4 N)) x.1 x.2.1) by kernel_rfl).trans (by rw[xht N];rfl)
theorem ok_V10:OK 115 S_V10:=gdR (A:=A_V10) tc Tryz.func115 (jeq trivial) (run_V10 big)
end Go.Proofs.YtmebolidmeljeaaGreat
