import Derived.Test.YtclaienmkbpkaaaGreatGxGen
import Derived.Test.YtclaienmkbpkaaaGreatRows
import Derived.Test.YtclaienmkbpkaaaGreatChecked
import Derived.KernelRfl
set_option maxRecDepth 100000
set_option linter.unusedVariables false
namespace Go.Proofs.YtclaienmkbpkaaaGreat
open Go Go.Gx Go.Proofs
abbrev I:=Ty.int .i64
abbrev Q0:Ty:=(.pair (.sl (.sl I)) .unit)
abbrev Q1:Ty:=(.ptr (.pair (.sl (.int .u8)) (.pair I (.pair (.int .u64) .unit))))
abbrev O2:Fl:=(.o (.p (.o (.o .i)) .i))
abbrev Q3:Ty:=(.opt (.pair (.sl (.sl .bool)) (.pair (.sl (.sl I)) Q0)))
abbrev O4:Fl:=(.o .i)
abbrev Q5:Ty:=(.pair I (.pair (.sl (.pair I (.pair (.sl I) .unit))) .unit))
abbrev Q6:Ty:=(.sl I)
abbrev Q7:Ty:=(.ptr Q0)
abbrev Q8:Ty:=(.sl (.sl .bool))
abbrev Q9:Ty:=(.pair I (.pair I .unit))
abbrev Q10:Ty:=(.pair Q6 .unit)
abbrev O11:Fl:=(.o O4)
abbrev Q12:Ty:=(.pair .bool .unit)
abbrev Q13:Ty:=(.sl Q6)
abbrev Q14:Ty:=(.pair I Q10)
abbrev Q15:Ty:=(.pair Q0 .unit)
abbrev Q16:Ty:=(.pair (.ptr I) .unit)
abbrev Q17:Ty:=(.pair I .unit)
abbrev O18:Fl:=(.o (.p .i (.p O4 .i)))
abbrev Q19:Ty:=(.pair (.sl (.int .u8)) .unit)
abbrev Q20:Ty:=(.pair Q1 .unit)
abbrev Q21:Ty:=(.pair (.ptr Q3) (.pair (.ptr I) (.pair (.ptr I) Q16)))
abbrev Q22:Ty:=(.sl Q9)
abbrev Q23:Ty:=(.ptr Q5)
abbrev W0:=V.val I .i
abbrev W1:=V.val Q6 O4
abbrev W2:=V.val Q7 O2
abbrev W3:=V.val Q7 O4
abbrev W4:=V.val Q6 .i
abbrev W5:=V.val .bool .i
abbrev W6:=V.val Q8 O11
abbrev W7:=V.val Q13 O11
abbrev B0:=Sh.as I .i
abbrev B1:=Sh.as Q6 O4
abbrev B2:=Sh.as Q7 O2
abbrev B3:=Sh.as Q7 O4
abbrev B4:=Sh.as Q6 .i
abbrev B5:=Sh.as .bool .i
abbrev B6:=Sh.as Q8 O11
abbrev B7:=Sh.as Q13 O11
abbrev B8:=Sh.as Q1 O4
abbrev D0:=Sh.drop
abbrev Y1:=(Option ((List (List Bool))×((List (List Int))×((List (List Int))×Unit))))
abbrev Y2:=((List (List Int))×Unit)
abbrev Y7:=(Int×((List (Int×((List Int)×Unit)))×Unit))
abbrev Y6:=(Int×((List Int)×Unit))
abbrev Y3:=(List (List Int))
abbrev Y4:=(List Int)
abbrev Y5:=(List (List Bool))
abbrev Z0:=Option (Bool×Unit)
abbrev Z1:=(Int×(Int×Unit))
abbrev Z2:=Option (Y4×Unit)
abbrev Z3:=Option ((Y3×(Bool×Unit))×Unit)
abbrev Z4:=Option (Y2×Unit)
abbrev Z5:=Option (Y2×((Y4×Z1)×Unit))
abbrev Z6:=Option (Int×Unit)
abbrev Z7:=Option (Bool×(Y4×Unit))
abbrev Z8:=Option ((Y4×(Bool×Unit))×Unit)
abbrev Z9:=Option (Y4×((Y4×Z1)×Unit))
abbrev Z10:=Option ((Option Y4)×Unit)
abbrev Z11:=Option ((Y5×(Bool×Unit))×Unit)
abbrev Z12:=Option ((Int×(Bool×Unit))×Unit)
abbrev Z13:=(Y4×Z1)
abbrev Z14:=Option (Y5×Unit)
abbrev Z15:=(List Z1)
abbrev Z16:=(List ((List UInt8)×Bool))
abbrev Z17:=Option (Z15×Unit)
abbrev Z18:=Option (Y4×(Unit×Unit))
abbrev Z19:=Option ((List UInt8)×Unit)
abbrev T0:=Y4→Y7→Bool→Bool→Y6→Int→Int→(List Y6)→Int→Int→Z7
abbrev T1:=Y4→Y7→Bool→Bool→(List Y6)→Int→Int→Z7
abbrev T2:=Nat→St→Z0
abbrev T3:=St→Z0
abbrev T4:=Nat→St→Z4
abbrev T5:=Nat→St→Z2
abbrev T6:=Nat→Y4→Prop
abbrev T7:=St→Z2
abbrev T8:=Z13→Y2→Y2→Int→Y4→Z15→Int→Z5
abbrev T9:=Y4→Y7→Bool→Bool→Y6→Int→Int→(List Y6)→Int→Int→Y4→Int→Int→Z7
abbrev T10:=Nat→Prop
abbrev T11:=Int→Y5→Int→Y3→Int→Int→Y4→Int→Bool→Bool→Y4→Int→Int→Z11
abbrev T12:=Ex→St→Z0
abbrev T13:=St→Z4
abbrev T14:=Y1→Int→Int→Int→Int→Int→Z10
abbrev T15:=Y5→Int→Int→Int→Int→Int→Z0
abbrev T16:=Y4→Y4→Int→Int→Z2
abbrev T17:=Y4→Y4→Int→Z0
abbrev T18:=Ex→St→Z2
abbrev T19:=Y2→Y4→Y2→Int→Y4→Int→Z2
abbrev T20:=Y2→Y2→Y2→Y2→Int→Int→Int→Y4→Int→Z4
abbrev T21:=Y4→Z2
abbrev T22:=Z13→Y2→Int→Z15→Int→Z5
abbrev T23:=Int→Y2→Y5→Int→Int→Z4
abbrev T24:=Int→Y2→Y5→Int→Z4
abbrev T25:=Int→Z15→Y2→Y5→Int→Z4
abbrev T26:=Y5→Y4→Int→Bool→Y4→Int→Int→Y4→Int→Int→Z6
abbrev T27:=Y2→Y4→Y2→Int→Z2
abbrev T28:=Y4→Y7→Bool→Bool→Z7
abbrev T29:=Y2→Int→Int→Z0
abbrev T30:=Y1→Int→Int→Int→Int→Int→Int→Int→Int→Z10
abbrev T31:=Y5→Int→Int→Int→Int→Int→Int→Int→Int→Z0
abbrev T32:=Y2→Y2→Y2→Y2→Int→Int→Z4
abbrev T33:=Z13→Int→Y4→Int→Z9
abbrev T34:=Y5→Y5→Int→Int→Z14
abbrev T35:=Y1→Int→Int→Int→Z6
abbrev T36:=Y2→Int→Int→Int→Z8
abbrev T37:=Y1→Int→Int→Z10
abbrev T38:=Y4→Y4→Int→Int→Z0
abbrev T39:=Y3→Y3→Z16→Int→Z3
abbrev T40:=Y5→Y3→Int→Y4→Int→Int→Int→Int→Z3
abbrev T41:=Y5→Int→Int→Z0
abbrev T42:=Y2→Int→Int→Z8
abbrev T43:=Int→Y5→Y3→Int→Int→Z11
abbrev T44:=Ex→St→Z4
abbrev T45:=Nat→St→Z6
abbrev T46:=Nat→St→Z3
abbrev T47:=Int→Y2→Y4→Y4→Int→Int→Z2
abbrev T48:=Int→Y2→Y5→Y2→Int→Z4
abbrev T49:=Y5→Y4→Y4→Int→Int→Z6
abbrev T50:=Int→Y2→Y4→Y4→Int→Z2
abbrev T51:=Y5→Y5→Int→Int→Int→Int→Int→Z14
abbrev T52:=Y4→Int→Int→Z2
abbrev T53:=Y2→Y2→Z4
abbrev T54:=Int→Y2→Y5→Y2→Int→Y4→Int→Z4
abbrev T55:=St→Z6
abbrev T56:=Y2→Y4→Y2→Int→Y4→Int→Int→Z2
abbrev T57:=Z13→Y2→Int→Z15→Z5
abbrev T58:=St→Z3
abbrev T59:=Z13→Y2→Int→Z15→Int→Int→Z5
abbrev T60:=Int→Y2→Y5→Int→Int→Int→Z4
abbrev T61:=Z13→Y2→Int→Z15→Y4→Int→Z5
abbrev T62:=Y5→Y3→Int→Int→Z3
abbrev T63:=Y4→Y2→Y4→Int→Bool→Int→Z6
abbrev T64:=Y2→Y2→Int→Z0
abbrev T65:=Int→Int→Int→Y2→Y4→Int→Z2
abbrev T66:=Y2→Y4→Int→Z2
abbrev T67:=Y3→Y3→Z16→Int→Int→Int→Z3
abbrev T68:=Y7→Y3→Int→Z3
abbrev T69:=Y4→Y2→Int→Z0
abbrev T70:=Nat→Y5→Prop
abbrev T71:=Nat→St→Z7
abbrev T72:=Y2→Y2→Y2→Int→Z4
abbrev T73:=Y4→Y2→Y4→Int→Z6
abbrev T74:=Y2→Y2→Y2→Int→Y4→Int→Z4
abbrev T75:=Y2→Y2→Y2→Y2→Int→Int→Int→Y4→Z4
abbrev T76:=(Y1×Unit)→Y4→Int→Int→Z2
abbrev T77:=Y4→Int→(List Bool)→Int→Z0
abbrev T78:=Y2→Int→Int→Int→Int→Z8
abbrev T79:=Y4→Int→Int→Int→Int→Z7
abbrev T80:=Y5→Int→Int→Int→Int→Z0
abbrev T81:=Y2→Y2→Y2→Y2→Int→Int→Int→Z4
abbrev T82:=Z13→Y2→Y2→Int→Z15→Z5
abbrev T83:=Ex→St→Z6
abbrev T84:=(Y5×Z1)→Y4→Int→Int→Z2
abbrev T85:=Y7→Y4→Z15→Int→Int→Z2
abbrev T86:=Y1→Int→Y4→Int→Int→Z6
abbrev T87:=Y7→(List Y6)→Int→Int→Z0
abbrev T88:=Y1→Y3→Y4→Int→Int→Z3
abbrev T89:=Y2→Y2→Y2→Y2→Int→Int→Int→Y4→Int→Int→Z4
abbrev T90:=Int→Y4→Int→Z0
abbrev T91:=Int→Y5→Y3→Int→Int→Y4→Int→Bool→Bool→Z11
abbrev T92:=Int→Y2→Y5→Z4
abbrev T93:=St→Z7
abbrev T94:=Nat→St→Z5
abbrev T95:=Int→Y5→Int→Int→Z14
abbrev T96:=Int→Int→Y2→Int→Z0
abbrev T97:=Y2→Int→Int→Int→Z0
abbrev T98:=Y4→Y1→Int→Int→Z12
abbrev T99:=Y4→Y4→Int→Int→Z19
abbrev T100:=Y2→Z15→Int→Z17
abbrev T101:=Int→Int→Int→Z6
abbrev T102:=Y4→Int→Int→Z18
abbrev T103:=Ex→St→Z3
abbrev T104:=Y1→Y4→Int→Int→Z2
abbrev T105:=Y2→Y2→Int→Int→Z0
abbrev T106:=Y7→Y3→Int→Int→Z3
abbrev T107:=Int→Y2→Y4→Int→Z2
abbrev T108:=Y4→Y2→Int→Int→Z0
abbrev T109:=Y2→Y4→Int→Int→Z2
abbrev T110:=St→Z5
abbrev T111:=Nat→St→Z10
abbrev T112:=Y4→Y2→Y4→Int→Z2
abbrev T113:=Y2→Y3→Y4→Int→Z3
abbrev T114:=Z13→Y2→Y2→Z5
abbrev T115:=Y4→Y4→Int→Int→Int→Z2
abbrev T116:=Nat→St→Z8
abbrev T117:=Y5→Y4→Int→Bool→Y4→Int→Int→Z6
abbrev T118:=Y3→Z3
abbrev T119:=Y4→Int→Int→Z0
abbrev T120:=Int→Z6
abbrev T121:=St→Z10
abbrev T122:=Y4→Y2→Int→Z12
abbrev T123:=Ex→St→Z5
abbrev T124:=Int→Y2→Y2→Int→Z4
abbrev T125:=Y2→Y4→Int→Z6
abbrev T126:=Z13→Y2→Y4→Int→Z9
abbrev T127:=Y3→Y3→Int→Z0
abbrev T128:=Nat→Y3→Prop
abbrev T129:=Nat→St→Z14
def tab:Tab:={ es:=[(22,(.int .u8),.i),(24,Q6,O4),(29,I,.i),(35,Q14,(.p .i (.p O4 .i))),(62,(.sl .bool),O4),(63,(.sl .bool),O4),(89,Q9,.i),(108,.bool,.i)],ts:=[(3,I,.i),(4,.bool,.i),(5,(.int .u8),.i),(9,.str,.i),(22,(.sl (.int .u8)),O4),(24,Q13,O11),(26,Q0,(.p O11 .i)),(29,Q6,O4),(35,(.sl Q14),O18),(37,Q5,(.p .i (.p O18 .i))),(52,Q1,(.o (.p O4 .i))),(53,(.int .u64),.i),(55,(.pair (.sl (.int .u8)) (.pair I (.pair (.int .u64) .unit))),(.p O4 .i)),(58,Q3,.i),(62,Q8,O11),(63,Q8,O11),(65,(.pair Q8 (.pair Q13 Q0)),(.p O11 (.p O11 (.p O11 .i)))),(73,Q14,(.p .i (.p O4 .i))),(89,Q22,O4),(91,Q9,.i),(108,(.sl .bool),O4)],fs:=[(26,[(Q13,O11)]),(37,[(I,.i),((.sl Q14),O18)]),(55,[((.sl (.int .u8)),O4),(I,.i),((.int .u64),.i)]),(65,[(Q8,O11),(Q13,O11),(Q13,O11)]),(73,[(I,.i),(Q6,O4)])],ars:=[(91,I,.i,2)],ms:=[(119,.str,.bool)] }
theorem tabOk:tab.chk Tryz.prog=true:=by kernel_rfl
theorem tc {a b}:CfgOk Tryz.prog (mkCfg tab a b):=vc tabOk
abbrev OK (i:FuncId) (S:Sig):Prop:=FnOk Tryz.prog i∧Gx.Good Tryz.prog i S
def V0_s (code_0:Y4):Z0 :=
  some (decide (65536<(code_0.length:Int)),(()))
def V0 (code_0:Y4):Z0:=V0_s code_0
def S_V0:Sig:=⟨Q19,[0],[],.unit,.bool,.i,fun x=>V0 x.1⟩
def A_V0:Cfg:=mkCfg tab [] []
theorem run_V0 (N x):runF A_V0 N Tryz.f4 S_V0 x=V0 x.1:=by kernel_rfl
theorem ok_V0:OK 4 S_V0:=gdR (A:=A_V0) tc Tryz.func4 (jeq trivial) (run_V0 big)
def V1_s (c_0:Z13):Option (Int×(Z13×Unit)) :=
  cond (decide (c_0.2.1<(c_0.1.length:Int)))
  ((atI c_0.1 c_0.2.1).bind fun xq1 =>
  cond (decide (((((c_0.1,(IntKind.i64.wrap (c_0.2.1+1),c_0.2.2)).1,(((c_0.1,(IntKind.i64.wrap (c_0.2.1+1),c_0.2.2)).2).1,(IntKind.u64.wrap ((IntKind.u64.wrap ((IntKind.u64.wrap (((((c_0.1,(IntKind.i64.wrap (c_0.2.1+1),c_0.2.2)).2).2).1)*6364136223846793005))+(IntKind.u64.wrap (IntKind.i64.wrap xq1))))+550289),(((c_0.1,(IntKind.i64.wrap (c_0.2.1+1),c_0.2.2)).2).2).2))).2).1)≤((((c_0.1,(IntKind.i64.wrap (c_0.2.1+1),c_0.2.2)).1,(((c_0.1,(IntKind.i64.wrap (c_0.2.1+1),c_0.2.2)).2).1,(IntKind.u64.wrap ((IntKind.u64.wrap ((IntKind.u64.wrap (((((c_0.1,(IntKind.i64.wrap (c_0.2.1+1),c_0.2.2)).2).2).1)*6364136223846793005))+(IntKind.u64.wrap (IntKind.i64.wrap xq1))))+550289),(((c_0.1,(IntKind.i64.wrap (c_0.2.1+1),c_0.2.2)).2).2).2))).1).length:Int)))
  (some (IntKind.i64.wrap xq1,(((c_0.1,(IntKind.i64.wrap (c_0.2.1+1),c_0.2.2)).1,(((c_0.1,(IntKind.i64.wrap (c_0.2.1+1),c_0.2.2)).2).1,(IntKind.u64.wrap ((IntKind.u64.wrap ((IntKind.u64.wrap (((((c_0.1,(IntKind.i64.wrap (c_0.2.1+1),c_0.2.2)).2).2).1)*6364136223846793005))+(IntKind.u64.wrap (IntKind.i64.wrap xq1))))+550289),(((c_0.1,(IntKind.i64.wrap (c_0.2.1+1),c_0.2.2)).2).2).2))),())))
  ((shrI IntKind.u64 (((((c_0.1,(IntKind.i64.wrap (c_0.2.1+1),c_0.2.2)).1,(((c_0.1,(IntKind.i64.wrap (c_0.2.1+1),c_0.2.2)).2).1,(IntKind.u64.wrap ((IntKind.u64.wrap ((IntKind.u64.wrap (((((c_0.1,(IntKind.i64.wrap (c_0.2.1+1),c_0.2.2)).2).2).1)*6364136223846793005))+(IntKind.u64.wrap (IntKind.i64.wrap xq1))))+550289),(((c_0.1,(IntKind.i64.wrap (c_0.2.1+1),c_0.2.2)).2).2).2))).2).2).1) 40).bind fun xq2 =>
  some (IntKind.i64.wrap (bitI .and IntKind.u64 xq2 255),(((c_0.1,(IntKind.i64.wrap (c_0.2.1+1),c_0.2.2)).1,(((c_0.1,(IntKind.i64.wrap (c_0.2.1+1),c_0.2.2)).2).1,(IntKind.u64.wrap ((IntKind.u64.wrap ((IntKind.u64.wrap (((((c_0.1,(IntKind.i64.wrap (c_0.2.1+1),c_0.2.2)).2).2).1)*6364136223846793005))+(IntKind.u64.wrap (IntKind.i64.wrap xq1))))+550289),(((c_0.1,(IntKind.i64.wrap (c_0.2.1+1),c_0.2.2)).2).2).2))),()))))
  (cond (decide (((((c_0.1,(IntKind.i64.wrap (c_0.2.1+1),c_0.2.2)).1,(((c_0.1,(IntKind.i64.wrap (c_0.2.1+1),c_0.2.2)).2).1,(IntKind.u64.wrap ((IntKind.u64.wrap ((IntKind.u64.wrap (((((c_0.1,(IntKind.i64.wrap (c_0.2.1+1),c_0.2.2)).2).2).1)*6364136223846793005))+(IntKind.u64.wrap 0)))+550289),(((c_0.1,(IntKind.i64.wrap (c_0.2.1+1),c_0.2.2)).2).2).2))).2).1)≤((((c_0.1,(IntKind.i64.wrap (c_0.2.1+1),c_0.2.2)).1,(((c_0.1,(IntKind.i64.wrap (c_0.2.1+1),c_0.2.2)).2).1,(IntKind.u64.wrap ((IntKind.u64.wrap ((IntKind.u64.wrap (((((c_0.1,(IntKind.i64.wrap (c_0.2.1+1),c_0.2.2)).2).2).1)*6364136223846793005))+(IntKind.u64.wrap 0)))+550289),(((c_0.1,(IntKind.i64.wrap (c_0.2.1+1),c_0.2.2)).2).2).2))).1).length:Int)))
  (some (0,(((c_0.1,(IntKind.i64.wrap (c_0.2.1+1),c_0.2.2)).1,(((c_0.1,(IntKind.i64.wrap (c_0.2.1+1),c_0.2.2)).2).1,(IntKind.u64.wrap ((IntKind.u64.wrap ((IntKind.u64.wrap (((((c_0.1,(IntKind.i64.wrap (c_0.2.1+1),c_0.2.2)).2).2).1)*6364136223846793005))+(IntKind.u64.wrap 0)))+550289),(((c_0.1,(IntKind.i64.wrap (c_0.2.1+1),c_0.2.2)).2).2).2))),())))
  ((shrI IntKind.u64 (((((c_0.1,(IntKind.i64.wrap (c_0.2.1+1),c_0.2.2)).1,(((c_0.1,(IntKind.i64.wrap (c_0.2.1+1),c_0.2.2)).2).1,(IntKind.u64.wrap ((IntKind.u64.wrap ((IntKind.u64.wrap (((((c_0.1,(IntKind.i64.wrap (c_0.2.1+1),c_0.2.2)).2).2).1)*6364136223846793005))+(IntKind.u64.wrap 0)))+550289),(((c_0.1,(IntKind.i64.wrap (c_0.2.1+1),c_0.2.2)).2).2).2))).2).2).1) 40).bind fun xq3 =>
  some (IntKind.i64.wrap (bitI .and IntKind.u64 xq3 255),(((c_0.1,(IntKind.i64.wrap (c_0.2.1+1),c_0.2.2)).1,(((c_0.1,(IntKind.i64.wrap (c_0.2.1+1),c_0.2.2)).2).1,(IntKind.u64.wrap ((IntKind.u64.wrap ((IntKind.u64.wrap (((((c_0.1,(IntKind.i64.wrap (c_0.2.1+1),c_0.2.2)).2).2).1)*6364136223846793005))+(IntKind.u64.wrap 0)))+550289),(((c_0.1,(IntKind.i64.wrap (c_0.2.1+1),c_0.2.2)).2).2).2))),()))))
def V1 (c_0:Z13):Option (Int×(Z13×Unit)):=V1_s c_0
def S_V1:Sig:=⟨Q20,[1],[O4],Q20,I,.i,fun x=>V1 x.1⟩
def A_V1:Cfg:=mkCfg tab [] []
theorem run_V1 (N x):runF A_V1 N Tryz.f85 S_V1 x=V1 x.1:=by kernel_rfl
theorem ok_V1:OK 85 S_V1:=gdR (A:=A_V1) tc Tryz.func85 (jeq trivial) (run_V1 big)
def V2_s (c_0:Z13) (n_1:Int):Option (Int×(Z13×Unit)) :=
  cond (decide (n_1≤1))
  (some (0,(c_0,())))
  ((V1 c_0).bind fun rq1 =>
  cond (decide (200<n_1))
  ((V1 rq1.2.1).bind fun rq2 =>
  (remI (IntKind.i64.wrap ((IntKind.i64.wrap (rq1.1*256))+rq2.1)) n_1).bind fun xq3 =>
  some (xq3,(rq2.2.1,())))
  ((remI rq1.1 n_1).bind fun xq4 =>
  some (xq4,(rq1.2.1,()))))
def V2 (c_0:Z13) (n_1:Int):Option (Int×(Z13×Unit)):=V2_s c_0 n_1
def S_V2:Sig:=⟨(.pair Q1 Q17),[1,0],[O4],Q20,I,.i,fun x=>V2 x.1 x.2.1⟩
def A_V2:Cfg:=mkCfg tab [(85,S_V1)] []
theorem run_V2 (N x):runF A_V2 N Tryz.f41 S_V2 x=V2 x.1 x.2.1:=by kernel_rfl
theorem ok_V2:OK 41 S_V2:=gdR (A:=A_V2) tc Tryz.func41 (jeq ⟨ok_V1,trivial⟩) (run_V2 big)
def V3_s (c_0:Z13) (n_1:Int):Option (Bool×(Z13×Unit)) :=
  (V2 c_0 n_1).bind fun rq1 =>
  some (decide (rq1.1=0),(rq1.2.1,()))
def V3 (c_0:Z13) (n_1:Int):Option (Bool×(Z13×Unit)):=V3_s c_0 n_1
def S_V3:Sig:=⟨(.pair Q1 Q17),[1,0],[O4],Q20,.bool,.i,fun x=>V3 x.1 x.2.1⟩
def A_V3:Cfg:=mkCfg tab [(41,S_V2)] []
theorem run_V3 (N x):runF A_V3 N Tryz.f40 S_V3 x=V3 x.1 x.2.1:=by kernel_rfl
theorem ok_V3:OK 40 S_V3:=gdR (A:=A_V3) tc Tryz.func40 (jeq ⟨ok_V2,trivial⟩) (run_V3 big)
def V4_s (c_0:Z13) (list_1:Y4):Option (Int×(Z13×Unit)) :=
  (V2 c_0 (list_1.length:Int)).bind fun rq1 =>
  (atI list_1 rq1.1).bind fun xq2 =>
  some (xq2,(rq1.2.1,()))
def V4 (c_0:Z13) (list_1:Y4):Option (Int×(Z13×Unit)):=V4_s c_0 list_1
def S_V4:Sig:=⟨(.pair Q1 Q10),[1,0],[O4],Q20,I,.i,fun x=>V4 x.1 x.2.1⟩
def A_V4:Cfg:=mkCfg tab [(41,S_V2)] []
theorem run_V4 (N x):runF A_V4 N Tryz.f48 S_V4 x=V4 x.1 x.2.1:=by kernel_rfl
theorem ok_V4:OK 48 S_V4:=gdR (A:=A_V4) tc Tryz.func48 (jeq ⟨ok_V2,trivial⟩) (run_V4 big)
def woc (rec:T33) (k:Z13→Int→Y4→Z9) (a0:Z13) (a1:Int) (a5:Y4) (a6:Int):Z9 :=
  cond (decide (a6<a1))
  ((V2 a0 (IntKind.i64.wrap ((a5.length:Int)+1))).bind fun rq1 =>
  (slI a5 0 rq1.1).bind fun xq2 =>
  (appI [] xq2).bind fun xq3 =>
  (appI xq3 [a6]).bind fun xq4 =>
  (slI a5 rq1.1 a5.length).bind fun xq5 =>
  (appI xq4 xq5).bind fun xq6 =>
  rec rq1.2.1 a1 xq6 (IntKind.i64.wrap (a6+1)))
  (k a0 a1 a5)
def wk8 (a0:Z13) (a1:Int) (a5:Y4):Z9 :=
  (V2 a0 24).bind fun rq7 =>
  cond (decide (rq7.1=0))
  ((appI a5 [a1]).bind fun xq8 =>
  some (xq8,(rq7.2.1,())))
  (cond (decide (rq7.1=1))
  (cond (decide (0<a1))
  ((V2 rq7.2.1 a1).bind fun rq9 =>
  (V4 rq9.2.1 [0,(-1:Int),a1]).bind fun rq10 =>
  (atI a5 rq9.1).bind fun _ =>
  (a5[rq9.1.toNat]?).bind fun xq11 =>
  some (a5.set rq9.1.toNat rq10.1,(rq10.2.1,())))
  (some (a5,(rq7.2.1,()))))
  (some (a5,(rq7.2.1,()))))
def V5_s (L3:T33) (c_0:Z13) (n_1:Int):Z9 :=
  L3 c_0 n_1 [] 0
def w3o (N:Nat) (k:Z13→Int→Y4→Z9):=itN (fun r=>woc r k) fun _ _ _ _=>none
def w3n (N:Nat):=w3o N (wk8) N
def V5 (N:Nat) (c_0:Z13) (n_1:Int):Z9:=V5_s (w3n N) c_0 n_1
def S_V5:Sig:=⟨(.pair Q1 Q17),[1,0],[O4],Q20,Q6,O4,fun x=>V5 big x.1 x.2.1⟩
def A_V5:Cfg:=mkCfg tab [(41,S_V2),(48,S_V4)] [(6,([B8,B0]++dr 3 [B1,B0])),(13,([B8,B0]++dr 3 [B4,B0,B0])),(15,([B8,B0]++dr 3 [B1]))]
noncomputable def wob (N n:Nat) (K:Ex→St→Z9) (a0:Z13) (a1:Int) (a5:Y4) (a6:Int):Z9:=itr A_V5 N 6 Tryz.f64 [1,1,0,1,0,0] n (([.val Q1 O4 a0,W0 a1]++ud 3 [W1 a5,W0 a6])++us 46) K
noncomputable def V5_z:Ex→St→Z9:=finish A_V5 S_V5 Tryz.f64.results.toList
noncomputable def xgy (kX:St→Z9) (a0:Z13) (a1:Int) (a5:Y4):Z9:=kX (([.val Q1 O4 a0,W0 a1]++ud 3 [W1 a5])++us 47)
noncomputable def xgx (kX:St→Z9) (kO:Nat→St→Z9):=exK V5_z 0 (A_V5.shape 15) kX kO
theorem xfe (N kX kO):∀n,wob N n (xgx kX kO)=w3o N (xgy kX) n :=
 itE rfl fun m=>by kernel_rfl
noncomputable def wsl (N:Nat):=(blockK 0 (sqK A_V5 N 15 500007 Tryz.f64 [1,1,1] V5_z))
noncomputable def xgz (N:Nat) (st':St):Z9:=rn A_V5 N Tryz.f64 [1,1,1] st' V5_z
theorem xmd (N):wob N N (wsl N)=w3n N:=by
 rw[show wob N N (wsl N)=wob N N (xgx (xgz N) fun j=>(wsl N) (.exit j)) from(by funext _ _ _ _;exact jll),xfe,show xgy (xgz N)=wk8 by kernel_rfl];rfl
theorem run_V5 (N x):runF A_V5 N Tryz.f64 S_V5 x=V5 N x.1 x.2.1:=(show _=(V5_s (wob N N (wsl N)) x.1 x.2.1) by kernel_rfl).trans (by rw[xmd N];rfl)
theorem ok_V5:OK 64 S_V5:=gdR (A:=A_V5) tc Tryz.func64 (jeq ⟨ok_V2,ok_V4,trivial⟩) (run_V5 big)
def V6_s (x_0 a_1 b_2:Int):Z0 :=
  cond (decide (a_1≤x_0))
  (some (decide (x_0≤b_2),(())))
  (some (false,(())))
def V6 (x_0 a_1 b_2:Int):Z0:=V6_s x_0 a_1 b_2
def S_V6:Sig:=⟨(.pair I Q9),[0,0,0],[],.unit,.bool,.i,fun x=>V6 x.1 x.2.1 x.2.2.1⟩
def A_V6:Cfg:=mkCfg tab [] []
theorem run_V6 (N x):runF A_V6 N Tryz.f133 S_V6 x=V6 x.1 x.2.1 x.2.2.1:=by kernel_rfl
theorem ok_V6:OK 133 S_V6:=gdR (A:=A_V6) tc Tryz.func133 (jeq trivial) (run_V6 big)
def zq (rec:T90) (k:Z0) (a0:Int) (a1:Y4) (a5:Int):Z0 :=
  cond (decide (a5<(a1.length:Int)))
  ((atI a1 a5).bind fun xq1 =>
  (V6 xq1 0 (IntKind.i64.wrap (a0-1))).bind fun rq2 =>
  cond (!rq2.1)
  (some (false,(())))
  (rec a0 a1 (IntKind.i64.wrap (a5+1))))
  (k)
def yq:Z0 :=
  some (true,(()))
def V7_s (L2:T90) (n_0:Int) (list_1:Y4):Z0 :=
  L2 n_0 list_1 0
def wsq (N:Nat) (k:Z0):=itN (fun r=>zq r k) fun _ _ _=>none
def wso (N:Nat):=wsq N (yq) N
def V7 (N:Nat) (n_0:Int) (list_1:Y4):Z0:=V7_s (wso N) n_0 list_1
def S_V7:Sig:=⟨Q14,[0,0],[],.unit,.bool,.i,fun x=>V7 big x.1 x.2.1⟩
def A_V7:Cfg:=mkCfg tab [(133,S_V6)] [(4,([B0,B4]++dr 3 [B0])),(13,[])]
noncomputable def wot (N n:Nat) (K:T12) (a0:Int) (a1:Y4) (a5:Int):Z0:=itr A_V7 N 4 Tryz.f99 [1,0,1,0,0] n (([W0 a0,W4 a1]++ud 3 [W0 a5])++us 14) K
noncomputable def V7_z:Ex→St→Z0:=finish A_V7 S_V7 Tryz.f99.results.toList
noncomputable def xha (kX:T3):Z0:=kX ([]++us 20)
noncomputable def xg9 (kX:T3) (kO:T2):=exK V7_z 0 (A_V7.shape 13) kX kO
theorem xff (N kX kO):∀n,wot N n (xg9 kX kO)=wsq N (xha kX) n :=
 itE rfl fun m=>by kernel_rfl
noncomputable def wsp (N:Nat):=(blockK 0 (sqK A_V7 N 13 500006 Tryz.f99 [1,1] V7_z))
noncomputable def xhb (N:Nat) (st':St):Z0:=rn A_V7 N Tryz.f99 [1,1] st' V7_z
theorem xmp (N):wot N N (wsp N)=wso N:=by
 rw[show wot N N (wsp N)=wot N N (xg9 (xhb N) fun j=>(wsp N) (.exit j)) from(by funext _ _ _;exact jll),xff,show xha (xhb N)=yq by kernel_rfl];rfl
theorem run_V7 (N x):runF A_V7 N Tryz.f99 S_V7 x=V7 N x.1 x.2.1:=(show _=(V7_s (wot N N (wsp N)) x.1 x.2.1) by kernel_rfl).trans (by rw[xmp N];rfl)
theorem ok_V7:OK 99 S_V7:=gdR (A:=A_V7) tc Tryz.func99 (jeq ⟨ok_V6,trivial⟩) (run_V7 big)
def wo6 (rec:T77) (k:Z0) (a0:Y4) (a1:Int) (a5:(List Bool)) (a6:Int):Z0 :=
  cond (decide (a6<a1))
  ((atI a0 a6).bind fun xq4 =>
  (atI a5 xq4).bind fun _ =>
  (a5[xq4.toNat]?).bind fun xq5 =>
  cond xq5
  (some (false,(())))
  ((atI a0 a6).bind fun xq6 =>
  (atI a5 xq6).bind fun _ =>
  (a5[xq6.toNat]?).bind fun xq7 =>
  rec a0 a1 (a5.set xq6.toNat true) (IntKind.i64.wrap (a6+1))))
  (k)
def wld:Z0 :=
  some (true,(()))
def V8_s (L5:T77) (l_0:Y4) (n_1:Int):Z0 :=
  cond (decide ((l_0.length:Int)≠n_1))
  (some (false,(())))
  ((V7 big n_1 l_0).bind fun rq1 =>
  cond (!rq1.1)
  (some (false,(())))
  ((mkI false n_1).bind fun xq2=>(mkI false n_1).bind fun xq3=>cond (decide (n_1≤n_1))
  (L5 l_0 n_1 xq3 0)
  none))
def w4k (N:Nat) (k:Z0):=itN (fun r=>wo6 r k) fun _ _ _ _=>none
def w4j (N:Nat):=w4k N (wld) N
def V8 (N:Nat) (l_0:Y4) (n_1:Int):Z0:=V8_s (w4j N) l_0 n_1
def S_V8:Sig:=⟨(.pair Q6 Q17),[0,0],[],.unit,.bool,.i,fun x=>V8 big x.1 x.2.1⟩
def A_V8:Cfg:=mkCfg tab [(99,S_V7)] [(10,([B4,B0]++dr 3 [.as (.sl .bool) O4,B0])),(21,[])]
noncomputable def wo5 (N n:Nat) (K:T12) (a0:Y4) (a1:Int) (a5:(List Bool)) (a6:Int):Z0:=itr A_V8 N 10 Tryz.f65 [1,1,1,0,1,0,0] n (([W4 a0,W0 a1]++ud 3 [.val (.sl .bool) O4 a5,W0 a6])++us 30) K
noncomputable def V8_z:Ex→St→Z0:=finish A_V8 S_V8 Tryz.f65.results.toList
noncomputable def xhg (kX:T3):Z0:=kX ([]++us 37)
noncomputable def xhf (kX:T3) (kO:T2):=exK V8_z 0 (A_V8.shape 21) kX kO
theorem xfi (N kX kO):∀n,wo5 N n (xhf kX kO)=w4k N (xhg kX) n :=
 itE rfl fun m=>by kernel_rfl
noncomputable def wss (N:Nat):=(blockK 0 (sqK A_V8 N 21 500010 Tryz.f65 [1,1,1,1] V8_z))
noncomputable def xhh (N:Nat) (st':St):Z0:=rn A_V8 N Tryz.f65 [1,1,1,1] st' V8_z
theorem xmv (N):wo5 N N (wss N)=w4j N:=by
 rw[show wo5 N N (wss N)=wo5 N N (xhf (xhh N) fun j=>(wss N) (.exit j)) from(by funext _ _ _ _;exact jll),xfi,show xhg (xhh N)=wld by kernel_rfl];rfl
theorem run_V8 (N x):runF A_V8 N Tryz.f65 S_V8 x=V8 N x.1 x.2.1:=(show _=(V8_s (wo5 N N (wss N)) x.1 x.2.1) by kernel_rfl).trans (by rw[xmv N];rfl)
theorem ok_V8:OK 65 S_V8:=gdR (A:=A_V8) tc Tryz.func65 (jeq ⟨ok_V7,trivial⟩) (run_V8 big)
def wj4 (rec:T54) (k:Int→Y2→Y5→Y2→Int→Y4→Z4) (a0:Int) (a4:Y2) (a5:Y5) (a12:Y2) (a13:Int) (a14:Y4) (a15:Int):Z4 :=
  cond (decide (a15<a0))
  ((atI a5 a15).bind fun _ =>
  (a5[a15.toNat]?).bind fun xq33 =>
  (a5[a15.toNat]?).bind fun xq34 =>
  (atI xq34 a13).bind fun _ =>
  (a5[a15.toNat]?).bind fun xq35 =>
  (xq35[a13.toNat]?).bind fun xq36 =>
  cond xq36
  ((appI a14 [a15]).bind fun xq37 =>
  rec a0 a4 a5 a12 a13 xq37 (IntKind.i64.wrap (a15+1)))
  (rec a0 a4 a5 a12 a13 a14 (IntKind.i64.wrap (a15+1))))
  (k a0 a4 a5 a12 a13 a14)
def wf0 (rec:T48) (a0:Int) (a4:Y2) (a5:Y5) (a12:Y2) (a13:Int) (a14:Y4):Z4 :=
  (appI a12.1 [a14]).bind fun xq38 =>
  rec a0 a4 a5 (xq38,((),a12.2).2) (IntKind.i64.wrap (a13+1))
def wj3 (rec:T60) (k:T23) (a0:Int) (a4:Y2) (a5:Y5) (a9 a10 a11:Int):Z4 :=
  cond (decide (a11<a0))
  ((atI a5 a10).bind fun _ =>
  (a5[a10.toNat]?).bind fun xq11 =>
  (atI a5 a10).bind fun _ =>
  (a5[a10.toNat]?).bind fun xq12 =>
  (a5[a10.toNat]?).bind fun xq13 =>
  (atI xq13 a11).bind fun _ =>
  (a5[a10.toNat]?).bind fun xq14 =>
  (xq14[a11.toNat]?).bind fun xq15 =>
  cond xq15
  ((a5[a10.toNat]?).bind fun xq16 =>
  (atI xq16 a11).bind fun _ =>
  (a5[a10.toNat]?).bind fun xq17 =>
  (xq17[a11.toNat]?).bind fun xq18 =>
  rec a0 a4 (a5.set a10.toNat (xq17.set a11.toNat true)) a9 a10 (IntKind.i64.wrap (a11+1)))
  ((atI a5 a10).bind fun _ =>
  (a5[a10.toNat]?).bind fun xq19 =>
  (a5[a10.toNat]?).bind fun xq20 =>
  (atI xq20 a9).bind fun _ =>
  (a5[a10.toNat]?).bind fun xq21 =>
  (xq21[a9.toNat]?).bind fun xq22 =>
  cond xq22
  ((atI a5 a9).bind fun _ =>
  (a5[a9.toNat]?).bind fun xq23 =>
  (a5[a9.toNat]?).bind fun xq24 =>
  (atI xq24 a11).bind fun _ =>
  (a5[a9.toNat]?).bind fun xq25 =>
  (xq25[a11.toNat]?).bind fun xq26 =>
  (a5[a10.toNat]?).bind fun xq27 =>
  (atI xq27 a11).bind fun _ =>
  (a5[a10.toNat]?).bind fun xq28 =>
  (xq28[a11.toNat]?).bind fun xq29 =>
  rec a0 a4 (a5.set a10.toNat (xq28.set a11.toNat xq26)) a9 a10 (IntKind.i64.wrap (a11+1)))
  ((a5[a10.toNat]?).bind fun xq30 =>
  (atI xq30 a11).bind fun _ =>
  (a5[a10.toNat]?).bind fun xq31 =>
  (xq31[a11.toNat]?).bind fun xq32 =>
  rec a0 a4 (a5.set a10.toNat (xq31.set a11.toNat false)) a9 a10 (IntKind.i64.wrap (a11+1)))))
  (k a0 a4 a5 a9 a10)
def wfz (rec:T23) (a0:Int) (a4:Y2) (a5:Y5) (a9 a10:Int):Z4 :=
  rec a0 a4 a5 a9 (IntKind.i64.wrap (a10+1))
def wf3 (L28:T54) (k:T53) (a0:Int) (a4:Y2) (a5:Y5) (a12:Y2) (a13:Int):Z4 :=
  cond (decide (a13<a0))
  (L28 a0 a4 a5 a12 a13 [] 0)
  (k a4 a12)
def zk (a4 a12:Y2):Z4 :=
  some (a12,(()))
def wf2 (L19:T60) (k:T24) (a0:Int) (a4:Y2) (a5:Y5) (a9 a10:Int):Z4 :=
  cond (decide (a10<a0))
  (L19 a0 a4 a5 a9 a10 0)
  (k a0 a4 a5 a9)
def zj (rec:T24) (a0:Int) (a4:Y2) (a5:Y5) (a9:Int):Z4 :=
  rec a0 a4 a5 (IntKind.i64.wrap (a9+1))
def wf1 (L16:T23) (k:T92) (a0:Int) (a4:Y2) (a5:Y5) (a9:Int):Z4 :=
  cond (decide (a9<a0))
  (L16 a0 a4 a5 a9 0)
  (k a0 a4 a5)
def zi (L24:T48) (a0:Int) (a4:Y2) (a5:Y5):Z4 :=
  L24 a0 a4 a5 ([],()) 0
def wpr (rec:T25) (k:T92) (a0:Int) (a1:Z15) (a4:Y2) (a5:Y5) (a8:Int):Z4 :=
  cond (decide (a8<(a1.length:Int)))
  ((atI a1 a8).bind fun xq5 =>
  (atI a5 xq5.1).bind fun _ =>
  (a5[xq5.1.toNat]?).bind fun xq6 =>
  (atI a1 a8).bind fun xq7 =>
  (a5[xq5.1.toNat]?).bind fun xq8 =>
  (atI xq8 xq7.2.1).bind fun _ =>
  (a5[xq5.1.toNat]?).bind fun xq9 =>
  (xq9[xq7.2.1.toNat]?).bind fun xq10 =>
  rec a0 a1 a4 (a5.set xq5.1.toNat (xq9.set xq7.2.1.toNat true)) (IntKind.i64.wrap (a8+1)))
  (k a0 a4 a5)
def wlk (L13:T24) (a0:Int) (a4:Y2) (a5:Y5):Z4 :=
  L13 a0 a4 a5 0
def wpq (rec:T25) (k:Int→Z15→Y2→Y5→Z4) (a0:Int) (a1:Z15) (a4:Y2) (a5:Y5) (a6:Int):Z4 :=
  cond (decide (a6<a0))
  ((mkI false a0).bind fun xq1=>(mkI false a0).bind fun xq2=>cond (decide (a0≤a0))
  ((atI xq2 a6).bind fun _ =>
  (xq2[a6.toNat]?).bind fun xq3 =>
  (appI a5 [xq2.set a6.toNat true]).bind fun xq4 =>
  rec a0 a1 a4 xq4 (IntKind.i64.wrap (a6+1)))
  none)
  (k a0 a1 a4 a5)
def wlj (L9:T25) (a0:Int) (a1:Z15) (a4:Y2) (a5:Y5):Z4 :=
  L9 a0 a1 a4 a5 0
def V9_s (L3:T25) (n_0:Int) (pairs_1:Z15):Z4 :=
  L3 n_0 pairs_1 (([]:Y3),()) [] 0
def wxe (N:Nat) (k:T23):=itN (fun r=>wj3 r k) fun _ _ _ _ _ _=>none
def wjz (N:Nat) (rec:T23) (k:T24):=wxe N (wfz rec) N
def wxd (N:Nat) (k:T24):=itN (fun r=>wf2 (wjz N r k) k) fun _ _ _ _ _=>none
def wjy (N:Nat) (rec:T24) (k:T92):=wxd N (zj rec) N
def wxg (N:Nat) (k:Int→Y2→Y5→Y2→Int→Y4→Z4):=itN (fun r=>wj4 r k) fun _ _ _ _ _ _ _=>none
def wj0 (N:Nat) (rec:T48) (k:T53):=wxg N (wf0 rec) N
def w41 (N:Nat) (k:Int→Z15→Y2→Y5→Z4):=itN (fun r=>wpq r k) fun _ _ _ _ _=>none
def w42 (N:Nat) (k:T92):=itN (fun r=>wpr r k) fun _ _ _ _ _=>none
def wxc (N:Nat) (k:T92):=itN (fun r=>wf1 (wjy N r k) k) fun _ _ _ _=>none
def wxf (N:Nat) (k:T53):=itN (fun r=>wf3 (wj0 N r k) k) fun _ _ _ _ _=>none
def x8 (N:Nat):=wxf N (zk) N
def wbw (N:Nat):=wxc N (zi (x8 N)) N
def wli (N:Nat):=w42 N (wlk (wbw N)) N
def w40 (N:Nat):=w41 N (wlj (wli N)) N
def V9 (N:Nat) (n_0:Int) (pairs_1:Z15):Z4:=V9_s (w40 N) n_0 pairs_1
def S_V9:Sig:=⟨(.pair I (.pair Q22 .unit)),[0,0],[],.unit,Q0,(.p O11 .i),fun x=>V9 big x.1 x.2.1⟩
def A_V9:Cfg:=mkCfg tab [] [(6,[B0,.as Q22 .i,D0,D0,B2,B6,B0]),(17,[B0,.as Q22 .i,D0,D0,B2,B6]),(18,[B0,.as Q22 .i,D0,D0,B2,B6,D0,D0,B0]),(25,([B0]++dr 3 [B2,B6])),(26,([B0]++dr 3 ([B2,B6]++dr 3 [B0]))),(32,([B0]++dr 3 ([B2,B6]++dr 3 [B0,B0]))),(45,([B0]++dr 3 [B2,B6])),(48,([B0]++dr 3 ([B2,B6]++dr 6 [B2,B0]))),(38,([B0]++dr 3 ([B2,B6]++dr 3 [B0,B0,B0]))),(29,([B0]++dr 3 ([B2,B6]++dr 3 [B0]))),(56,([B0]++dr 3 ([B2,B6]++dr 6 [B2,B0,B1,B0]))),(67,(dr 4 ([B2]++dr 7 [B2]))),(35,([B0]++dr 3 ([B2,B6]++dr 3 [B0,B0]))),(65,([B0]++dr 3 ([B2,B6]++dr 6 [B2,B0,B1])))]
noncomputable def wpl (N n:Nat) (K:T44) (a0:Int) (a1:Z15) (a4:Y2) (a5:Y5) (a6:Int):Z4:=itr A_V9 N 6 Tryz.f67 [1,1,0,1,0,0] n ([W0 a0,.val Q22 .i a1,.u,.u,W2 a4,W6 a5,W0 a6]++us 121) K
noncomputable def wpm (N n:Nat) (K:T44) (a0:Int) (a1:Z15) (a4:Y2) (a5:Y5) (a8:Int):Z4:=itr A_V9 N 18 Tryz.f67 [1,1,1,0,1,0,0] n ([W0 a0,.val Q22 .i a1,.u,.u,W2 a4,W6 a5,.u,.u,W0 a8]++us 119) K
noncomputable def wbx (N n:Nat) (K:T44) (a0:Int) (a4:Y2) (a5:Y5) (a9:Int):Z4:=itr A_V9 N 26 Tryz.f67 [1,1,1,1,0,1,0,0] n (([W0 a0]++ud 3 ([W2 a4,W6 a5]++ud 3 [W0 a9]))++us 118) K
noncomputable def wby (N n:Nat) (K:T44) (a0:Int) (a4:Y2) (a5:Y5) (a9 a10:Int):Z4:=itr A_V9 N 32 Tryz.f67 [1,1,1,1,0,1,0,0,1,0,0,1,0,0] n (([W0 a0]++ud 3 ([W2 a4,W6 a5]++ud 3 [W0 a9,W0 a10]))++us 117) K
noncomputable def wbz (N n:Nat) (K:T44) (a0:Int) (a4:Y2) (a5:Y5) (a12:Y2) (a13:Int):Z4:=itr A_V9 N 48 Tryz.f67 [1,1,1,1,1,1,0,1,0,0] n (([W0 a0]++ud 3 ([W2 a4,W6 a5]++ud 6 [W2 a12,W0 a13]))++us 114) K
noncomputable def wj1 (N n:Nat) (K:T44) (a0:Int) (a4:Y2) (a5:Y5) (a9 a10 a11:Int):Z4:=itr A_V9 N 38 Tryz.f67 [1,1,1,1,0,1,0,0,1,0,0,1,0,0,1,0,0,1,0,0] n (([W0 a0]++ud 3 ([W2 a4,W6 a5]++ud 3 [W0 a9,W0 a10,W0 a11]))++us 116) K
noncomputable def wj2 (N n:Nat) (K:T44) (a0:Int) (a4:Y2) (a5:Y5) (a12:Y2) (a13:Int) (a14:Y4) (a15:Int):Z4:=itr A_V9 N 56 Tryz.f67 [1,1,1,1,1,1,0,1,0,0,1,0,0,1,0,1,0,0] n (([W0 a0]++ud 3 ([W2 a4,W6 a5]++ud 6 [W2 a12,W0 a13,W1 a14,W0 a15]))++us 112) K
noncomputable def V9_z:Ex→St→Z4:=finish A_V9 S_V9 Tryz.f67.results.toList
noncomputable def xhn (kX:T13) (a0:Int) (a1:Z15) (a4:Y2) (a5:Y5):Z4:=kX ([W0 a0,.val Q22 .i a1,.u,.u,W2 a4,W6 a5]++us 122)
noncomputable def xhl (kX:T13) (kO:T4):=exK V9_z 0 (A_V9.shape 17) kX kO
noncomputable def xho (kX:T13) (a0:Int) (a4:Y2) (a5:Y5):Z4:=kX (([W0 a0]++ud 3 [W2 a4,W6 a5])++us 122)
noncomputable def xhm (kX:T13) (kO:T4):=exK V9_z 2 (A_V9.shape 25) kX kO
noncomputable def wpn (kX:T13) (a0:Int) (a4:Y2) (a5:Y5):Z4:=kX (([W0 a0]++ud 3 [W2 a4,W6 a5])++us 122)
noncomputable def wfw (kX:T13) (kO:T4):=exK V9_z 4 (A_V9.shape 45) kX kO
noncomputable def wpo (kX:T13) (a0:Int) (a4:Y2) (a5:Y5) (a9:Int):Z4:=kX (([W0 a0]++ud 3 ([W2 a4,W6 a5]++ud 3 [W0 a9]))++us 118)
noncomputable def wfx (kX:T13) (kO:T4):=exK V9_z 6 (A_V9.shape 29) kX kO
noncomputable def wpp (kX:T13) (a4 a12:Y2):Z4:=kX ((ud 4 ([W2 a4]++ud 7 [W2 a12]))++us 115)
noncomputable def wfy (kX:T13) (kO:T4):=exK V9_z 10 (A_V9.shape 67) kX kO
noncomputable def xdj (kX:T13) (a0:Int) (a4:Y2) (a5:Y5) (a9 a10:Int):Z4:=kX (([W0 a0]++ud 3 ([W2 a4,W6 a5]++ud 3 [W0 a9,W0 a10]))++us 117)
noncomputable def xdh (kX:T13) (kO:T4):=exK V9_z 8 (A_V9.shape 35) kX kO
noncomputable def xdk (kX:T13) (a0:Int) (a4:Y2) (a5:Y5) (a12:Y2) (a13:Int) (a14:Y4):Z4:=kX (([W0 a0]++ud 3 ([W2 a4,W6 a5]++ud 6 [W2 a12,W0 a13,W1 a14]))++us 113)
noncomputable def xdi (kX:T13) (kO:T4):=exK V9_z 12 (A_V9.shape 65) kX kO
theorem xfl (N kX kO):∀n,wpl N n (xhl kX kO)=w41 N (xhn kX) n :=
 itE rfl fun m=>by kernel_rfl
noncomputable def wst (N:Nat):=(blockK 0 (sqK A_V9 N 17 500008 Tryz.f67 [1,1,1] V9_z))
theorem xfm (N kX kO):∀n,wpm N n (xhm kX kO)=w42 N (xho kX) n :=
 itE rfl fun m=>by kernel_rfl
noncomputable def wsu (N:Nat):=(blockK 2 (sqK A_V9 N 25 500012 Tryz.f67 [1,1,1,1] V9_z))
theorem xdn (N kX kO):∀n,wj1 N n (xdh kX kO)=wxe N (xdj kX) n :=
 itE rfl fun m=>by kernel_rfl
noncomputable def wpi (N m:Nat) (kX:T13) (kO:T4):=(blockK 8 (blockK 7 (sqK A_V9 N 35 500017 Tryz.f67 [1,1,1,1,0,1,0,0,1,0,0,1,0,0,1,1] (itK A_V9 N 32 Tryz.f67 [1,1,1,1,0,1,0,0,1,0,0,1,0,0] m (wfx kX kO)))))
noncomputable def xds (N m:Nat) (kX:T13) (kO:T4) (st':St):Z4:=rn A_V9 N Tryz.f67 [1,1,1,1,0,1,0,0,1,0,0,1,0,0,1,1] st' (itK A_V9 N 32 Tryz.f67 [1,1,1,1,0,1,0,0,1,0,0,1,0,0] m (wfx kX kO))
theorem xkp (N m kX kO) {r}(h:wby N m (wfx kX kO)=r):wj1 N N (wpi N m kX kO)=wjz N r (wpo kX):=by
 rw[show wj1 N N (wpi N m kX kO)=wj1 N N (xdh (xds N m kX kO) fun j=>(wpi N m kX kO) (.exit j)) from(by funext _ _ _ _ _ _;exact jll),xdn,show xdj (xds N m kX kO)=wfz (wby N m (wfx kX kO)) by kernel_rfl,h];rfl
theorem xdm (N kX kO):∀n,wby N n (wfx kX kO)=wxd N (wpo kX) n :=
 itE rfl fun m=>(show _=wf2 (wj1 N N (wpi N m kX kO)) (wpo kX) by kernel_rfl).trans (by rw[xkp N m kX kO rfl]<;>rfl)
noncomputable def wph (N m:Nat) (kX:T13) (kO:T4):=(blockK 6 (blockK 5 (sqK A_V9 N 29 500014 Tryz.f67 [1,1,1,1,0,1,0,0,1,1] (itK A_V9 N 26 Tryz.f67 [1,1,1,1,0,1,0,0] m (wfw kX kO)))))
noncomputable def xdr (N m:Nat) (kX:T13) (kO:T4) (st':St):Z4:=rn A_V9 N Tryz.f67 [1,1,1,1,0,1,0,0,1,1] st' (itK A_V9 N 26 Tryz.f67 [1,1,1,1,0,1,0,0] m (wfw kX kO))
theorem xko (N m kX kO) {r}(h:wbx N m (wfw kX kO)=r):wby N N (wph N m kX kO)=wjy N r (wpn kX):=by
 rw[show wby N N (wph N m kX kO)=wby N N (wfx (xdr N m kX kO) fun j=>(wph N m kX kO) (.exit j)) from(by funext _ _ _ _ _;exact jll),xdm,show wpo (xdr N m kX kO)=zj (wbx N m (wfw kX kO)) by kernel_rfl,h];rfl
theorem xdl (N kX kO):∀n,wbx N n (wfw kX kO)=wxc N (wpn kX) n :=
 itE rfl fun m=>(show _=wf1 (wby N N (wph N m kX kO)) (wpn kX) by kernel_rfl).trans (by rw[xko N m kX kO rfl]<;>rfl)
noncomputable def wpg (N:Nat):=(blockK 4 (sqK A_V9 N 45 500022 Tryz.f67 [1,1,1,1,1] V9_z))
theorem xdp (N kX kO):∀n,wj2 N n (xdi kX kO)=wxg N (xdk kX) n :=
 itE rfl fun m=>by kernel_rfl
noncomputable def wpk (N m:Nat) (kX:T13) (kO:T4):=(blockK 12 (sqK A_V9 N 65 500032 Tryz.f67 [1,1,1,1,1,1,0,1,0,0,1,0,0,1,1] (blockK 11 (sqK A_V9 N 51 500025 Tryz.f67 [1,1,1,1,1,1,0,1,0,0,1,1] (itK A_V9 N 48 Tryz.f67 [1,1,1,1,1,1,0,1,0,0] m (wfy kX kO))))))
noncomputable def xdu (N m:Nat) (kX:T13) (kO:T4) (st':St):Z4:=rn A_V9 N Tryz.f67 [1,1,1,1,1,1,0,1,0,0,1,0,0,1,1] st' (blockK 11 (sqK A_V9 N 51 500025 Tryz.f67 [1,1,1,1,1,1,0,1,0,0,1,1] (itK A_V9 N 48 Tryz.f67 [1,1,1,1,1,1,0,1,0,0] m (wfy kX kO))))
theorem xkr (N m kX kO) {r}(h:wbz N m (wfy kX kO)=r):wj2 N N (wpk N m kX kO)=wj0 N r (wpp kX):=by
 rw[show wj2 N N (wpk N m kX kO)=wj2 N N (xdi (xdu N m kX kO) fun j=>(wpk N m kX kO) (.exit j)) from(by funext _ _ _ _ _ _ _;exact jll),xdp,show xdk (xdu N m kX kO)=wf0 (wbz N m (wfy kX kO)) by kernel_rfl,h];rfl
theorem xdo (N kX kO):∀n,wbz N n (wfy kX kO)=wxf N (wpp kX) n :=
 itE rfl fun m=>(show _=wf3 (wj2 N N (wpk N m kX kO)) (wpp kX) by kernel_rfl).trans (by rw[xkr N m kX kO rfl]<;>rfl)
noncomputable def wpj (N:Nat):=(blockK 10 (sqK A_V9 N 67 500033 Tryz.f67 [1,1,1,1,1,1,1] V9_z))
noncomputable def xdt (N:Nat) (st':St):Z4:=rn A_V9 N Tryz.f67 [1,1,1,1,1,1,1] st' V9_z
theorem xkq (N):wbz N N (wpj N)=x8 N:=by
 rw[show wbz N N (wpj N)=wbz N N (wfy (xdt N) fun j=>(wpj N) (.exit j)) from(by funext _ _ _ _ _;exact jll),xdo,show wpp (xdt N)=zk by kernel_rfl];rfl
noncomputable def xdq (N:Nat) (st':St):Z4:=rn A_V9 N Tryz.f67 [1,1,1,1,1] st' V9_z
theorem xkn (N):wbx N N (wpg N)=wbw N:=by
 rw[show wbx N N (wpg N)=wbx N N (wfw (xdq N) fun j=>(wpg N) (.exit j)) from(by funext _ _ _ _;exact jll),xdl,show wpn (xdq N)=zi (wbz N N (wpj N)) by kernel_rfl,xkq N];rfl
noncomputable def xhq (N:Nat) (st':St):Z4:=rn A_V9 N Tryz.f67 [1,1,1,1] st' V9_z
theorem xm4 (N):wpm N N (wsu N)=wli N:=by
 rw[show wpm N N (wsu N)=wpm N N (xhm (xhq N) fun j=>(wsu N) (.exit j)) from(by funext _ _ _ _ _;exact jll),xfm,show xho (xhq N)=wlk (wbx N N (wpg N)) by kernel_rfl,xkn N];rfl
noncomputable def xhp (N:Nat) (st':St):Z4:=rn A_V9 N Tryz.f67 [1,1,1] st' V9_z
theorem xm3 (N):wpl N N (wst N)=w40 N:=by
 rw[show wpl N N (wst N)=wpl N N (xhl (xhp N) fun j=>(wst N) (.exit j)) from(by funext _ _ _ _ _;exact jll),xfl,show xhn (xhp N)=wlj (wpm N N (wsu N)) by kernel_rfl,xm4 N];rfl
theorem run_V9 (N x):runF A_V9 N Tryz.f67 S_V9 x=V9 N x.1 x.2.1:=(show _=(V9_s (wpl N N (wst N)) x.1 x.2.1) by kernel_rfl).trans (by rw[xm3 N];rfl)
theorem ok_V9:OK 67 S_V9:=gdR (A:=A_V9) tc Tryz.func67 (jeq trivial) (run_V9 big)
def wgw (rec k:T52) (a0:Y4) (a1 a5:Int):Z2 :=
  cond (decide (a5<(a0.length:Int)))
  ((atI a0 a5).bind fun xq1 =>
  cond (decide (xq1<a1))
  (rec a0 a1 (IntKind.i64.wrap (a5+1)))
  (k a0 a1 a5))
  (k a0 a1 a5)
def wa4 (a0:Y4) (a1 a5:Int):Z2 :=
  cond (decide (a5<(a0.length:Int)))
  ((atI a0 a5).bind fun xq2 =>
  cond (decide (xq2=a1))
  (some (a0,(())))
  ((slI a0 0 a5).bind fun xq3 =>
  (appI [] xq3).bind fun xq4 =>
  (appI xq4 [a1]).bind fun xq5 =>
  (slI a0 a5 a0.length).bind fun xq6 =>
  (appI xq5 xq6).bind fun xq7 =>
  some (xq7,(()))))
  ((slI a0 0 a5).bind fun xq8 =>
  (appI [] xq8).bind fun xq9 =>
  (appI xq9 [a1]).bind fun xq10 =>
  (slI a0 a5 a0.length).bind fun xq11 =>
  (appI xq10 xq11).bind fun xq12 =>
  some (xq12,(())))
def w1t (L2:T52) (l_0:Y4) (n_1:Int):Z2 :=
  L2 l_0 n_1 0
def wtd (N:Nat) (k:T52):=itN (fun r=>wgw r k) fun _ _ _=>none
def wtc (N:Nat):=wtd N (wa4) N
def V10 (N:Nat) (l_0:Y4) (n_1:Int):Z2:=w1t (wtc N) l_0 n_1
def S_V10:Sig:=⟨(.pair Q6 Q17),[0,0],[],.unit,Q6,.i,fun x=>V10 big x.1 x.2.1⟩
def A_V10:Cfg:=mkCfg tab [] [(4,([B4,B0]++dr 3 [B0])),(9,([B4,B0]++dr 3 [B0]))]
noncomputable def wgv (N n:Nat) (K:T18) (a0:Y4) (a1 a5:Int):Z2:=itr A_V10 N 4 Tryz.f125 [1,1,0,0,0] n (([W4 a0,W0 a1]++ud 3 [W0 a5])++us 39) K
noncomputable def w1u:Ex→St→Z2:=finish A_V10 S_V10 Tryz.f125.results.toList
noncomputable def w5u (kX:T7) (a0:Y4) (a1 a5:Int):Z2:=kX (([W4 a0,W0 a1]++ud 3 [W0 a5])++us 39)
noncomputable def w5t (kX:T7) (kO:T5):=exK w1u 0 (A_V10.shape 9) kX kO
theorem w5v (N kX kO):∀n,wgv N n (w5t kX kO)=wtd N (w5u kX) n :=
 itE rfl fun m=>by kernel_rfl
noncomputable def wmc (N:Nat):=(blockK 0 (sqK A_V10 N 9 500004 Tryz.f125 [1,1,1] w1u))
noncomputable def w5w (N:Nat) (st':St):Z2:=rn A_V10 N Tryz.f125 [1,1,1] st' w1u
theorem xh1 (N):wgv N N (wmc N)=wtc N:=by
 rw[show wgv N N (wmc N)=wgv N N (w5t (w5w N) fun j=>(wmc N) (.exit j)) from(by funext _ _ _;exact jll),w5v,show w5u (w5w N)=wa4 by kernel_rfl];rfl
theorem run_V10 (N x):runF A_V10 N Tryz.f125 S_V10 x=V10 N x.1 x.2.1:=(show _=(w1t (wgv N N (wmc N)) x.1 x.2.1) by kernel_rfl).trans (by rw[xh1 N];rfl)
theorem ok_V10:OK 125 S_V10:=gdR (A:=A_V10) tc Tryz.func125 (jeq trivial) (run_V10 big)
end Go.Proofs.YtclaienmkbpkaaaGreat
