import Derived.Test.YtaehhdpcmfagjaaGreatGxGen
import Derived.Test.YtaehhdpcmfagjaaGreatRows
import Derived.Test.YtaehhdpcmfagjaaGreatChecked
import Derived.KernelRfl
set_option maxRecDepth 100000
set_option linter.unusedVariables false
namespace Go.Proofs.YtaehhdpcmfagjaaGreat
open Go Go.Gx Go.Proofs
abbrev I:=Ty.int .i64
abbrev Q0:Ty:=(.pair (.sl (.sl I)) .unit)
abbrev Q1:Ty:=(.pair I (.pair (.sl (.pair I (.pair (.sl I) .unit))) .unit))
abbrev O2:Fl:=(.o .i)
abbrev Q3:Ty:=(.sl I)
abbrev Q4:Ty:=(.ptr (.pair (.sl (.int .u8)) (.pair I (.pair (.int .u64) .unit))))
abbrev O5:Fl:=(.o (.p (.o O2) .i))
abbrev Q6:Ty:=(.sl (.sl .bool))
abbrev Q7:Ty:=(.sl (.pair I (.pair I .unit)))
abbrev Q8:Ty:=(.ptr Q0)
abbrev Q9:Ty:=(.pair I (.pair Q3 .unit))
abbrev Q10:Ty:=(.opt (.pair Q6 (.pair (.sl Q3) Q0)))
abbrev Q11:Ty:=(.sl Q3)
abbrev O12:Fl:=(.o (.p .i (.p O2 .i)))
abbrev O13:Fl:=(.o O2)
abbrev Q14:Ty:=(.pair Q3 .unit)
abbrev Q15:Ty:=(.pair I .unit)
abbrev Q16:Ty:=(.pair .bool .unit)
abbrev Q17:Ty:=(.ptr Q1)
abbrev Q18:Ty:=(.pair Q0 .unit)
abbrev Q19:Ty:=(.pair (.ptr Q6) (.pair (.ptr I) (.pair (.ptr I) .unit)))
abbrev Q20:Ty:=(.ptr Q9)
abbrev Q21:Ty:=(.tup (.pair Q11 Q16))
abbrev Q22:Ty:=(.pair I Q15)
abbrev O23:Fl:=(.p .i (.p O12 .i))
abbrev Q24:Ty:=(.pair Q1 .unit)
abbrev W0:=V.val I .i
abbrev W1:=V.val Q3 O2
abbrev W2:=V.val Q3 .i
abbrev W3:=V.val Q8 O5
abbrev W4:=V.val Q11 .i
abbrev W5:=V.val .bool .i
abbrev W6:=V.val Q8 O2
abbrev W7:=V.val Q11 O13
abbrev W8:=V.val Q6 O13
abbrev W9:=V.val Q17 O2
abbrev W10:=V.val Q7 O2
abbrev B0:=Sh.as I .i
abbrev B1:=Sh.as Q3 O2
abbrev B2:=Sh.as Q3 .i
abbrev B3:=Sh.as Q8 O5
abbrev B4:=Sh.as Q11 .i
abbrev B5:=Sh.as .bool .i
abbrev B6:=Sh.as Q8 O2
abbrev B7:=Sh.as Q11 O13
abbrev B8:=Sh.as Q6 O13
abbrev B9:=Sh.as Q17 O2
abbrev B10:=Sh.as Q7 O2
abbrev D0:=Sh.drop
abbrev Y1:=(Option ((List (List Bool))×((List (List Int))×((List (List Int))×Unit))))
abbrev Y2:=((List (List Int))×Unit)
abbrev Y7:=(Int×((List (Int×((List Int)×Unit)))×Unit))
abbrev Y6:=(Int×((List Int)×Unit))
abbrev Y3:=(List (List Int))
abbrev Y4:=(List Int)
abbrev Y5:=(List (List Bool))
abbrev Z0:=Option (Bool×Unit)
abbrev Z1:=(Int×(Int×Unit))
abbrev Z2:=Option (Y4×Unit)
abbrev Z3:=Option ((Y3×(Bool×Unit))×Unit)
abbrev Z4:=Option (Y2×Unit)
abbrev Z5:=Option (Int×Unit)
abbrev Z6:=Option (((List Z1)×(Bool×Unit))×Unit)
abbrev Z7:=Option (Y2×((Y4×Z1)×Unit))
abbrev Z8:=Option (Bool×(Y4×Unit))
abbrev Z9:=Option ((Y4×(Bool×Unit))×Unit)
abbrev Z10:=Option ((Option Y3)×Unit)
abbrev Z11:=(List Z1)
abbrev Z12:=Option ((Y5×(Bool×Unit))×Unit)
abbrev Z13:=Option ((Y2×(Bool×Unit))×Unit)
abbrev Z14:=Option (Y5×Unit)
abbrev Z15:=(Y4×Z1)
abbrev Z16:=(List ((List UInt8)×Bool))
abbrev Z17:=Option (Y7×Unit)
abbrev Z18:=Option (Z11×Unit)
abbrev Z19:=Option ((List UInt8)×Unit)
abbrev Z20:=Option (Y4×(Z15×Unit))
abbrev Z21:=(List Y6)
abbrev T0:=Nat→St→Z0
abbrev T1:=St→Z0
abbrev T2:=Y4→Y7→Bool→Bool→Y6→Int→Int→Z21→Int→Int→Z8
abbrev T3:=Nat→St→Z2
abbrev T4:=St→Z2
abbrev T5:=Y4→Y7→Bool→Bool→Z21→Int→Int→Z8
abbrev T6:=Y3→Unit→Y4→Y3→Int→Int→Y3→Int→Int→Z10
abbrev T7:=Nat→Y4→Prop
abbrev T8:=Ex→St→Z0
abbrev T9:=Nat→St→Z4
abbrev T10:=Nat→Prop
abbrev T11:=Y4→Y4→Int→Int→Z2
abbrev T12:=Y4→Y4→Y4→Int→Int→Z2
abbrev T13:=Ex→St→Z2
abbrev T14:=Y4→Z2
abbrev T15:=Y4→Y4→Int→Z0
abbrev T16:=Y2→Y7→Int→Y2→Y6→Y6→Int→Z17
abbrev T17:=Y4→Y2→Y1→Y4→Y5→Int→Int→Z13
abbrev T18:=Int→Y5→Int→Y3→Int→Int→Y4→Int→Bool→Bool→Y4→Int→Int→Z12
abbrev T19:=Y3→Unit→Y3→Int→Int→Z10
abbrev T20:=Y4→Y7→Bool→Bool→Y6→Int→Int→Z21→Int→Int→Y4→Int→Int→Z8
abbrev T21:=St→Z4
abbrev T22:=Y3→Unit→Y4→Y4→Y3→Int→Int→Y3→Int→Int→Y3→Int→Int→Z10
abbrev T23:=Y5→Int→Int→Int→Int→Int→Z0
abbrev T24:=Y4→Y4→Int→Int→Z0
abbrev T25:=Y2→Y2→Y2→Y2→Int→Int→Int→Y4→Int→Z4
abbrev T26:=Y4→Y2→Y1→Y4→Y5→Int→Int→Int→Int→Int→Int→Z13
abbrev T27:=Z15→Y2→Int→Z11→Int→Z7
abbrev T28:=Int→Y2→Y5→Int→Int→Z4
abbrev T29:=Int→Y2→Y5→Int→Z4
abbrev T30:=Int→Z11→Y2→Y5→Int→Z4
abbrev T31:=Y1→Z11→Y4→Int→Int→Z6
abbrev T32:=Y5→Y4→Int→Bool→Y4→Int→Int→Y4→Int→Int→Z5
abbrev T33:=Y4→Y7→Y4→Int→Int→Z2
abbrev T34:=Y4→Y7→Y4→Int→Z2
abbrev T35:=Y4→Y7→Bool→Bool→Z8
abbrev T36:=Y2→Int→Int→Z0
abbrev T37:=Y5→Int→Int→Int→Int→Int→Int→Int→Int→Z0
abbrev T38:=Y1→Z11→Int→Y4→Int→Int→Y4→Int→Int→Z6
abbrev T39:=Y5→Y2→Y2→Int→Y4→Int→Int→Int→Int→Z4
abbrev T40:=Y2→Y2→Y2→Y2→Int→Int→Z4
abbrev T41:=Y3→Bool→Int→Int→Z9
abbrev T42:=Y5→Y5→Int→Int→Z14
abbrev T43:=Y3→Z11→Z11→Int→Z0
abbrev T44:=Y3→Bool→Int→Z9
abbrev T45:=Y3→Y3→Z16→Int→Z3
abbrev T46:=Y2→Z11→Y4→Int→Z6
abbrev T47:=Nat→St→Z5
abbrev T48:=Y5→Y3→Int→Y4→Int→Int→Int→Int→Z3
abbrev T49:=Y5→Int→Int→Z0
abbrev T50:=Y2→Y7→Int→Y2→Y6→Y6→Int→Int→Z17
abbrev T51:=Int→Y5→Y3→Int→Int→Z12
abbrev T52:=Y2→Y2→Z4
abbrev T53:=Ex→St→Z4
abbrev T54:=Int→Y2→Y5→Y2→Int→Z4
abbrev T55:=Y5→Y4→Y4→Int→Int→Z5
abbrev T56:=St→Z5
abbrev T57:=Y5→Y2→Y2→Int→Int→Z4
abbrev T58:=Y5→Y5→Int→Int→Int→Int→Int→Z14
abbrev T59:=Nat→Y5→Prop
abbrev T60:=Y4→Int→Int→Z2
abbrev T61:=Nat→St→Z3
abbrev T62:=Z15→Y2→Y2→Int→Y4→Z11→Int→Z7
abbrev T63:=Y4→Y4→Y4→Int→Int→Y4→Int→Int→Int→Y4→Int→Int→Int→Bool→Z2
abbrev T64:=Int→Y2→Y5→Y2→Int→Y4→Int→Z4
abbrev T65:=Y4→Y7→Y4→Int→Int→Y4→Int→Z2
abbrev T66:=Y4→Int→Int→Z0
abbrev T67:=Int→Y4→Int→Z2
abbrev T68:=Z15→Y2→Int→Z11→Z7
abbrev T69:=Int→Y4→Int→Int→Z0
abbrev T70:=Z15→Y2→Int→Z11→Int→Int→Z7
abbrev T71:=Int→Y2→Y5→Int→Int→Int→Z4
abbrev T72:=Z15→Y2→Int→Z11→Y4→Int→Z7
abbrev T73:=Y5→Y3→Int→Int→Z3
abbrev T74:=Y4→Y2→Y4→Int→Bool→Int→Z5
abbrev T75:=Y2→Y2→Int→Z0
abbrev T76:=Y3→Y3→Z16→Int→Int→Int→Z3
abbrev T77:=Y7→Y3→Int→Z3
abbrev T78:=Y2→Z11→Y4→Int→Y4→Int→Z6
abbrev T79:=Nat→St→Z8
abbrev T80:=Y2→Y2→Y2→Int→Z4
abbrev T81:=Y4→Y2→Y4→Int→Z5
abbrev T82:=Y4→Y4→Y4→Int→Z2
abbrev T83:=Y1→Y4→Y4→Y4→Int→Int→Z2
abbrev T84:=Y2→Y2→Y2→Int→Y4→Int→Z4
abbrev T85:=Y2→Y2→Y2→Y2→Int→Int→Int→Y4→Z4
abbrev T86:=St→Z3
abbrev T87:=Ex→St→Z5
abbrev T88:=(Y1×Unit)→Y4→Int→Int→Z2
abbrev T89:=Y3→Bool→Int→Int→Int→Z9
abbrev T90:=Y4→Int→(List Bool)→Int→Z0
abbrev T91:=Y5→Int→Int→Int→Int→Z0
abbrev T92:=Y4→Int→Int→Int→Int→Z8
abbrev T93:=Y3→Z11→Z11→Int→Int→Z0
abbrev T94:=Y2→Y2→Y2→Y2→Int→Int→Int→Z4
abbrev T95:=(Y5×Z1)→Y4→Int→Int→Z2
abbrev T96:=Y7→Y4→Z11→Int→Int→Z2
abbrev T97:=Y1→Z11→Y4→Int→Int→Z2
abbrev T98:=Y2→Y4→Int→Int→Int→Z2
abbrev T99:=Y4→Int→Int→Y4→Int→Z2
abbrev T100:=Int→Y4→Y7→Int→Int→Z5
abbrev T101:=Y1→Y4→Y4→Int→Int→Z0
abbrev T102:=Int→Int→Int→Z5
abbrev T103:=Y2→Y2→Y2→Y2→Int→Int→Int→Y4→Int→Int→Z4
abbrev T104:=Y4→Y2→Y4→Y4→Int→Z2
abbrev T105:=Nat→Y3→Prop
abbrev T106:=Int→Y5→Y3→Int→Int→Y4→Int→Bool→Bool→Z12
abbrev T107:=Int→Y2→Y5→Z4
abbrev T108:=St→Z8
abbrev T109:=Y2→Y4→Int→Z2
abbrev T110:=Nat→Z11→Prop
abbrev T111:=Z15→Int→Y4→Int→Z20
abbrev T112:=Int→Y5→Int→Int→Z14
abbrev T113:=Nat→St→Z6
abbrev T114:=Int→Int→Y2→Int→Z0
abbrev T115:=Y2→Int→Int→Int→Z0
abbrev T116:=Y7→Z21→Int→Int→Z0
abbrev T117:=Y4→Y4→Int→Int→Z19
abbrev T118:=Y2→Z11→Int→Z18
abbrev T119:=Y2→Y2→Int→Int→Z0
abbrev T120:=Y7→Int→Y6→Y6→Z17
abbrev T121:=Y7→Y3→Int→Int→Z3
abbrev T122:=Nat→St→Z10
abbrev T123:=Y1→Y4→Y3→Int→Z3
abbrev T124:=Y2→Y3→Y3→Int→Z0
abbrev T125:=Z15→Y2→Y2→Z7
abbrev T126:=Y4→Y4→Int→Int→Int→Z2
abbrev T127:=Nat→St→Z7
abbrev T128:=Nat→St→Z9
abbrev T129:=Y5→Y4→Int→Bool→Y4→Int→Int→Z5
abbrev T130:=Ex→St→Z3
abbrev T131:=St→Z7
abbrev T132:=St→Z6
abbrev T133:=Z21→Z21→Int→Z0
abbrev T134:=Int→Y4→Int→Z0
abbrev T135:=Int→Y2→Int→Z5
abbrev T136:=Y4→Int→Int→Z5
abbrev T137:=St→Z10
abbrev T138:=Int→Y6→Int→Z0
abbrev T139:=Int→Int→Y4→Int→Z2
abbrev T140:=Y2→Y4→Int→Z5
abbrev T141:=Y4→Y7→Int→Z2
abbrev T142:=Y3→Y3→Int→Z0
abbrev T143:=Y4→Y4→Int→Z2
abbrev T144:=Y3→Y4→Int→Z5
abbrev T145:=Nat→St→Z14
def tab:Tab:={ es:=[(22,(.int .u8),.i),(24,Q3,O2),(31,I,.i),(39,Q9,(.p .i (.p O2 .i))),(48,Q22,.i),(69,(.sl .bool),O2),(70,(.sl .bool),O2),(74,.bool,.i)],ts:=[(3,I,.i),(4,.bool,.i),(5,(.int .u8),.i),(9,.str,.i),(22,(.sl (.int .u8)),O2),(24,Q11,O13),(26,Q0,(.p O13 .i)),(31,Q3,O2),(39,(.sl Q9),O12),(41,Q1,O23),(48,Q7,O2),(51,Q22,.i),(53,Q10,.i),(69,Q6,O13),(70,Q6,O13),(73,(.pair Q6 (.pair Q11 Q0)),(.p O13 (.p O13 (.p O13 .i)))),(74,(.sl .bool),O2),(83,Q4,(.o (.p O2 .i))),(84,(.int .u64),.i),(86,(.pair (.sl (.int .u8)) (.pair I (.pair (.int .u64) .unit))),(.p O2 .i)),(93,Q9,(.p .i (.p O2 .i)))],fs:=[(26,[(Q11,O13)]),(41,[(I,.i),((.sl Q9),O12)]),(73,[(Q6,O13),(Q11,O13),(Q11,O13)]),(86,[((.sl (.int .u8)),O2),(I,.i),((.int .u64),.i)]),(93,[(I,.i),(Q3,O2)])],ars:=[(51,I,.i,2)],ms:=[(143,.str,.bool)] }
theorem tabOk:tab.chk Tryz.prog=true:=by kernel_rfl
theorem tc {a b}:CfgOk Tryz.prog (mkCfg tab a b):=ur tabOk
abbrev OK (i:FuncId) (S:Sig):Prop:=FnOk Tryz.prog i∧Gx.Good Tryz.prog i S
def V0_s (code_0:Y4):Z0 :=
  some (decide (65536<(code_0.length:Int)),(()))
def V0 (code_0:Y4):Z0:=V0_s code_0
def S_V0:Sig:=⟨(.pair (.sl (.int .u8)) .unit),[0],[],.unit,.bool,.i,fun x=>V0 x.1⟩
def A_V0:Cfg:=mkCfg tab [] []
theorem run_V0 (N x):runF A_V0 N Tryz.f4 S_V0 x=V0 x.1:=by kernel_rfl
theorem ok_V0:OK 4 S_V0:=gdR (A:=A_V0) tc Tryz.func4 (jed trivial) (run_V0 big)
def V1_s (c_0:Z15):Option (Int×(Z15×Unit)) :=
  cond (decide (c_0.2.1<(c_0.1.length:Int)))
  ((atI c_0.1 c_0.2.1).bind fun xq1 =>
  cond (decide (((((c_0.1,(IntKind.i64.wrap (c_0.2.1+1),c_0.2.2)).1,(((c_0.1,(IntKind.i64.wrap (c_0.2.1+1),c_0.2.2)).2).1,(IntKind.u64.wrap ((IntKind.u64.wrap ((IntKind.u64.wrap (((((c_0.1,(IntKind.i64.wrap (c_0.2.1+1),c_0.2.2)).2).2).1)*6364136223846793005))+(IntKind.u64.wrap (IntKind.i64.wrap xq1))))+550289),(((c_0.1,(IntKind.i64.wrap (c_0.2.1+1),c_0.2.2)).2).2).2))).2).1)≤((((c_0.1,(IntKind.i64.wrap (c_0.2.1+1),c_0.2.2)).1,(((c_0.1,(IntKind.i64.wrap (c_0.2.1+1),c_0.2.2)).2).1,(IntKind.u64.wrap ((IntKind.u64.wrap ((IntKind.u64.wrap (((((c_0.1,(IntKind.i64.wrap (c_0.2.1+1),c_0.2.2)).2).2).1)*6364136223846793005))+(IntKind.u64.wrap (IntKind.i64.wrap xq1))))+550289),(((c_0.1,(IntKind.i64.wrap (c_0.2.1+1),c_0.2.2)).2).2).2))).1).length:Int)))
  (some (IntKind.i64.wrap xq1,(((c_0.1,(IntKind.i64.wrap (c_0.2.1+1),c_0.2.2)).1,(((c_0.1,(IntKind.i64.wrap (c_0.2.1+1),c_0.2.2)).2).1,(IntKind.u64.wrap ((IntKind.u64.wrap ((IntKind.u64.wrap (((((c_0.1,(IntKind.i64.wrap (c_0.2.1+1),c_0.2.2)).2).2).1)*6364136223846793005))+(IntKind.u64.wrap (IntKind.i64.wrap xq1))))+550289),(((c_0.1,(IntKind.i64.wrap (c_0.2.1+1),c_0.2.2)).2).2).2))),())))
  ((shrI IntKind.u64 (((((c_0.1,(IntKind.i64.wrap (c_0.2.1+1),c_0.2.2)).1,(((c_0.1,(IntKind.i64.wrap (c_0.2.1+1),c_0.2.2)).2).1,(IntKind.u64.wrap ((IntKind.u64.wrap ((IntKind.u64.wrap (((((c_0.1,(IntKind.i64.wrap (c_0.2.1+1),c_0.2.2)).2).2).1)*6364136223846793005))+(IntKind.u64.wrap (IntKind.i64.wrap xq1))))+550289),(((c_0.1,(IntKind.i64.wrap (c_0.2.1+1),c_0.2.2)).2).2).2))).2).2).1) 40).bind fun xq2 =>
  some (IntKind.i64.wrap (bitI .and IntKind.u64 xq2 255),(((c_0.1,(IntKind.i64.wrap (c_0.2.1+1),c_0.2.2)).1,(((c_0.1,(IntKind.i64.wrap (c_0.2.1+1),c_0.2.2)).2).1,(IntKind.u64.wrap ((IntKind.u64.wrap ((IntKind.u64.wrap (((((c_0.1,(IntKind.i64.wrap (c_0.2.1+1),c_0.2.2)).2).2).1)*6364136223846793005))+(IntKind.u64.wrap (IntKind.i64.wrap xq1))))+550289),(((c_0.1,(IntKind.i64.wrap (c_0.2.1+1),c_0.2.2)).2).2).2))),()))))
  (cond (decide (((((c_0.1,(IntKind.i64.wrap (c_0.2.1+1),c_0.2.2)).1,(((c_0.1,(IntKind.i64.wrap (c_0.2.1+1),c_0.2.2)).2).1,(IntKind.u64.wrap ((IntKind.u64.wrap ((IntKind.u64.wrap (((((c_0.1,(IntKind.i64.wrap (c_0.2.1+1),c_0.2.2)).2).2).1)*6364136223846793005))+(IntKind.u64.wrap 0)))+550289),(((c_0.1,(IntKind.i64.wrap (c_0.2.1+1),c_0.2.2)).2).2).2))).2).1)≤((((c_0.1,(IntKind.i64.wrap (c_0.2.1+1),c_0.2.2)).1,(((c_0.1,(IntKind.i64.wrap (c_0.2.1+1),c_0.2.2)).2).1,(IntKind.u64.wrap ((IntKind.u64.wrap ((IntKind.u64.wrap (((((c_0.1,(IntKind.i64.wrap (c_0.2.1+1),c_0.2.2)).2).2).1)*6364136223846793005))+(IntKind.u64.wrap 0)))+550289),(((c_0.1,(IntKind.i64.wrap (c_0.2.1+1),c_0.2.2)).2).2).2))).1).length:Int)))
  (some (0,(((c_0.1,(IntKind.i64.wrap (c_0.2.1+1),c_0.2.2)).1,(((c_0.1,(IntKind.i64.wrap (c_0.2.1+1),c_0.2.2)).2).1,(IntKind.u64.wrap ((IntKind.u64.wrap ((IntKind.u64.wrap (((((c_0.1,(IntKind.i64.wrap (c_0.2.1+1),c_0.2.2)).2).2).1)*6364136223846793005))+(IntKind.u64.wrap 0)))+550289),(((c_0.1,(IntKind.i64.wrap (c_0.2.1+1),c_0.2.2)).2).2).2))),())))
  ((shrI IntKind.u64 (((((c_0.1,(IntKind.i64.wrap (c_0.2.1+1),c_0.2.2)).1,(((c_0.1,(IntKind.i64.wrap (c_0.2.1+1),c_0.2.2)).2).1,(IntKind.u64.wrap ((IntKind.u64.wrap ((IntKind.u64.wrap (((((c_0.1,(IntKind.i64.wrap (c_0.2.1+1),c_0.2.2)).2).2).1)*6364136223846793005))+(IntKind.u64.wrap 0)))+550289),(((c_0.1,(IntKind.i64.wrap (c_0.2.1+1),c_0.2.2)).2).2).2))).2).2).1) 40).bind fun xq3 =>
  some (IntKind.i64.wrap (bitI .and IntKind.u64 xq3 255),(((c_0.1,(IntKind.i64.wrap (c_0.2.1+1),c_0.2.2)).1,(((c_0.1,(IntKind.i64.wrap (c_0.2.1+1),c_0.2.2)).2).1,(IntKind.u64.wrap ((IntKind.u64.wrap ((IntKind.u64.wrap (((((c_0.1,(IntKind.i64.wrap (c_0.2.1+1),c_0.2.2)).2).2).1)*6364136223846793005))+(IntKind.u64.wrap 0)))+550289),(((c_0.1,(IntKind.i64.wrap (c_0.2.1+1),c_0.2.2)).2).2).2))),()))))
def V1 (c_0:Z15):Option (Int×(Z15×Unit)):=V1_s c_0
def S_V1:Sig:=⟨(.pair Q4 .unit),[1],[O2],(.pair Q4 .unit),I,.i,fun x=>V1 x.1⟩
def A_V1:Cfg:=mkCfg tab [] []
theorem run_V1 (N x):runF A_V1 N Tryz.f139 S_V1 x=V1 x.1:=by kernel_rfl
theorem ok_V1:OK 139 S_V1:=gdR (A:=A_V1) tc Tryz.func139 (jed trivial) (run_V1 big)
def V2_s (c_0:Z15) (n_1:Int):Option (Int×(Z15×Unit)) :=
  cond (decide (n_1≤1))
  (some (0,(c_0,())))
  ((V1 c_0).bind fun rq1 =>
  cond (decide (200<n_1))
  ((V1 rq1.2.1).bind fun rq2 =>
  (remI (IntKind.i64.wrap ((IntKind.i64.wrap (rq1.1*256))+rq2.1)) n_1).bind fun xq3 =>
  some (xq3,(rq2.2.1,())))
  ((remI rq1.1 n_1).bind fun xq4 =>
  some (xq4,(rq1.2.1,()))))
def V2 (c_0:Z15) (n_1:Int):Option (Int×(Z15×Unit)):=V2_s c_0 n_1
def S_V2:Sig:=⟨(.pair Q4 Q15),[1,0],[O2],(.pair Q4 .unit),I,.i,fun x=>V2 x.1 x.2.1⟩
def A_V2:Cfg:=mkCfg tab [(139,S_V1)] []
theorem run_V2 (N x):runF A_V2 N Tryz.f102 S_V2 x=V2 x.1 x.2.1:=by kernel_rfl
theorem ok_V2:OK 102 S_V2:=gdR (A:=A_V2) tc Tryz.func102 (jed ⟨ok_V1,trivial⟩) (run_V2 big)
def V3_s (c_0:Z15) (n_1:Int):Option (Bool×(Z15×Unit)) :=
  (V2 c_0 n_1).bind fun rq1 =>
  some (decide (rq1.1=0),(rq1.2.1,()))
def V3 (c_0:Z15) (n_1:Int):Option (Bool×(Z15×Unit)):=V3_s c_0 n_1
def S_V3:Sig:=⟨(.pair Q4 Q15),[1,0],[O2],(.pair Q4 .unit),.bool,.i,fun x=>V3 x.1 x.2.1⟩
def A_V3:Cfg:=mkCfg tab [(102,S_V2)] []
theorem run_V3 (N x):runF A_V3 N Tryz.f99 S_V3 x=V3 x.1 x.2.1:=by kernel_rfl
theorem ok_V3:OK 99 S_V3:=gdR (A:=A_V3) tc Tryz.func99 (jed ⟨ok_V2,trivial⟩) (run_V3 big)
def V4_s (c_0:Z15) (list_1:Y4):Option (Int×(Z15×Unit)) :=
  (V2 c_0 (list_1.length:Int)).bind fun rq1 =>
  (atI list_1 rq1.1).bind fun xq2 =>
  some (xq2,(rq1.2.1,()))
def V4 (c_0:Z15) (list_1:Y4):Option (Int×(Z15×Unit)):=V4_s c_0 list_1
def S_V4:Sig:=⟨(.pair Q4 Q14),[1,0],[O2],(.pair Q4 .unit),I,.i,fun x=>V4 x.1 x.2.1⟩
def A_V4:Cfg:=mkCfg tab [(102,S_V2)] []
theorem run_V4 (N x):runF A_V4 N Tryz.f136 S_V4 x=V4 x.1 x.2.1:=by kernel_rfl
theorem ok_V4:OK 136 S_V4:=gdR (A:=A_V4) tc Tryz.func136 (jed ⟨ok_V2,trivial⟩) (run_V4 big)
def wsi (rec:T111) (k:Z15→Int→Y4→Z20) (a0:Z15) (a1:Int) (a5:Y4) (a6:Int):Z20 :=
  cond (decide (a6<a1))
  ((V2 a0 (IntKind.i64.wrap ((a5.length:Int)+1))).bind fun rq1 =>
  (slI a5 0 rq1.1).bind fun xq2 =>
  (appI [] xq2).bind fun xq3 =>
  (appI xq3 [a6]).bind fun xq4 =>
  (slI a5 rq1.1 a5.length).bind fun xq5 =>
  (appI xq4 xq5).bind fun xq6 =>
  rec rq1.2.1 a1 xq6 (IntKind.i64.wrap (a6+1)))
  (k a0 a1 a5)
def wo6 (a0:Z15) (a1:Int) (a5:Y4):Z20 :=
  (V2 a0 24).bind fun rq7 =>
  cond (decide (rq7.1=0))
  ((appI a5 [a1]).bind fun xq8 =>
  some (xq8,(rq7.2.1,())))
  (cond (decide (rq7.1=1))
  (cond (decide (0<a1))
  ((V2 rq7.2.1 a1).bind fun rq9 =>
  (V4 rq9.2.1 [0,(-1:Int),a1]).bind fun rq10 =>
  (atI a5 rq9.1).bind fun _ =>
  (a5[rq9.1.toNat]?).bind fun xq11 =>
  some (a5.set rq9.1.toNat rq10.1,(rq10.2.1,())))
  (some (a5,(rq7.2.1,()))))
  (some (a5,(rq7.2.1,()))))
def V5_s (L3:T111) (c_0:Z15) (n_1:Int):Z20 :=
  L3 c_0 n_1 [] 0
def xbi (N:Nat) (k:Z15→Int→Y4→Z20):=itN (fun r=>wsi r k) fun _ _ _ _=>none
def xbh (N:Nat):=xbi N (wo6) N
def V5 (N:Nat) (c_0:Z15) (n_1:Int):Z20:=V5_s (xbh N) c_0 n_1
def S_V5:Sig:=⟨(.pair Q4 Q15),[1,0],[O2],(.pair Q4 .unit),Q3,O2,fun x=>V5 big x.1 x.2.1⟩
def A_V5:Cfg:=mkCfg tab [(102,S_V2),(136,S_V4)] [(6,([.as Q4 O2,B0]++dr 3 [B1,B0])),(13,([.as Q4 O2,B0]++dr 3 [B2,B0,B0])),(15,([.as Q4 O2,B0]++dr 3 [B1]))]
noncomputable def wsh (N n:Nat) (K:Ex→St→Z20) (a0:Z15) (a1:Int) (a5:Y4) (a6:Int):Z20:=itr A_V5 N 6 Tryz.f103 [1,1,0,1,0,0] n (([.val Q4 O2 a0,W0 a1]++ud 3 [W1 a5,W0 a6])++us 46) K
noncomputable def V5_z:Ex→St→Z20:=finish A_V5 S_V5 Tryz.f103.results.toList
noncomputable def xp6 (kX:St→Z20) (a0:Z15) (a1:Int) (a5:Y4):Z20:=kX (([.val Q4 O2 a0,W0 a1]++ud 3 [W1 a5])++us 47)
noncomputable def xp5 (kX:St→Z20) (kO:Nat→St→Z20):=exK V5_z 0 (A_V5.shape 15) kX kO
theorem xoj (N kX kO):∀n,wsh N n (xp5 kX kO)=xbi N (xp6 kX) n :=
 itE rfl fun m=>by kernel_rfl
noncomputable def wxo (N:Nat):=(blockK 0 (sqK A_V5 N 15 500007 Tryz.f103 [1,1,1] V5_z))
noncomputable def xp7 (N:Nat) (st':St):Z20:=rn A_V5 N Tryz.f103 [1,1,1] st' V5_z
theorem xwc (N):wsh N N (wxo N)=xbh N:=by
 rw[show wsh N N (wxo N)=wsh N N (xp5 (xp7 N) fun j=>(wxo N) (.exit j)) from(by funext _ _ _ _;exact jk7),xoj,show xp6 (xp7 N)=wo6 by kernel_rfl];rfl
theorem run_V5 (N x):runF A_V5 N Tryz.f103 S_V5 x=V5 N x.1 x.2.1:=(show _=(V5_s (wsh N N (wxo N)) x.1 x.2.1) by kernel_rfl).trans (by rw[xwc N];rfl)
theorem ok_V5:OK 103 S_V5:=gdR (A:=A_V5) tc Tryz.func103 (jed ⟨ok_V2,ok_V4,trivial⟩) (run_V5 big)
def V6_s (x_0 a_1 b_2:Int):Z0 :=
  cond (decide (a_1≤x_0))
  (some (decide (x_0≤b_2),(())))
  (some (false,(())))
def V6 (x_0 a_1 b_2:Int):Z0:=V6_s x_0 a_1 b_2
def S_V6:Sig:=⟨(.pair I Q22),[0,0,0],[],.unit,.bool,.i,fun x=>V6 x.1 x.2.1 x.2.2.1⟩
def A_V6:Cfg:=mkCfg tab [] []
theorem run_V6 (N x):runF A_V6 N Tryz.f130 S_V6 x=V6 x.1 x.2.1 x.2.2.1:=by kernel_rfl
theorem ok_V6:OK 130 S_V6:=gdR (A:=A_V6) tc Tryz.func130 (jed trivial) (run_V6 big)
def wte (rec:T134) (k:Z0) (a0:Int) (a1:Y4) (a5:Int):Z0 :=
  cond (decide (a5<(a1.length:Int)))
  ((atI a1 a5).bind fun xq1 =>
  (V6 xq1 0 (IntKind.i64.wrap (a0-1))).bind fun rq2 =>
  cond (!rq2.1)
  (some (false,(())))
  (rec a0 a1 (IntKind.i64.wrap (a5+1))))
  (k)
def wpc:Z0 :=
  some (true,(()))
def V7_s (L2:T134) (n_0:Int) (list_1:Y4):Z0 :=
  L2 n_0 list_1 0
def xcc (N:Nat) (k:Z0):=itN (fun r=>wte r k) fun _ _ _=>none
def xcb (N:Nat):=xcc N (wpc) N
def V7 (N:Nat) (n_0:Int) (list_1:Y4):Z0:=V7_s (xcb N) n_0 list_1
def S_V7:Sig:=⟨Q9,[0,0],[],.unit,.bool,.i,fun x=>V7 big x.1 x.2.1⟩
def A_V7:Cfg:=mkCfg tab [(130,S_V6)] [(4,([B0,B2]++dr 3 [B0])),(13,[])]
noncomputable def wtd (N n:Nat) (K:T8) (a0:Int) (a1:Y4) (a5:Int):Z0:=itr A_V7 N 4 Tryz.f140 [1,0,1,0,0] n (([W0 a0,W2 a1]++ud 3 [W0 a5])++us 14) K
noncomputable def V7_z:Ex→St→Z0:=finish A_V7 S_V7 Tryz.f140.results.toList
noncomputable def xqc (kX:T1):Z0:=kX ([]++us 20)
noncomputable def xqb (kX:T1) (kO:T0):=exK V7_z 0 (A_V7.shape 13) kX kO
theorem xoo (N kX kO):∀n,wtd N n (xqb kX kO)=xcc N (xqc kX) n :=
 itE rfl fun m=>by kernel_rfl
noncomputable def wxu (N:Nat):=(blockK 0 (sqK A_V7 N 13 500006 Tryz.f140 [1,1] V7_z))
noncomputable def xqd (N:Nat) (st':St):Z0:=rn A_V7 N Tryz.f140 [1,1] st' V7_z
theorem xwx (N):wtd N N (wxu N)=xcb N:=by
 rw[show wtd N N (wxu N)=wtd N N (xqb (xqd N) fun j=>(wxu N) (.exit j)) from(by funext _ _ _;exact jk7),xoo,show xqc (xqd N)=wpc by kernel_rfl];rfl
theorem run_V7 (N x):runF A_V7 N Tryz.f140 S_V7 x=V7 N x.1 x.2.1:=(show _=(V7_s (wtd N N (wxu N)) x.1 x.2.1) by kernel_rfl).trans (by rw[xwx N];rfl)
theorem ok_V7:OK 140 S_V7:=gdR (A:=A_V7) tc Tryz.func140 (jed ⟨ok_V6,trivial⟩) (run_V7 big)
def wto (rec:T90) (k:Z0) (a0:Y4) (a1:Int) (a5:(List Bool)) (a6:Int):Z0 :=
  cond (decide (a6<a1))
  ((atI a0 a6).bind fun xq4 =>
  (atI a5 xq4).bind fun _ =>
  (a5[xq4.toNat]?).bind fun xq5 =>
  cond xq5
  (some (false,(())))
  ((atI a0 a6).bind fun xq6 =>
  (atI a5 xq6).bind fun _ =>
  (a5[xq6.toNat]?).bind fun xq7 =>
  rec a0 a1 (a5.set xq6.toNat true) (IntKind.i64.wrap (a6+1))))
  (k)
def wpf:Z0 :=
  some (true,(()))
def V8_s (L5:T90) (l_0:Y4) (n_1:Int):Z0 :=
  cond (decide ((l_0.length:Int)≠n_1))
  (some (false,(())))
  ((V7 big n_1 l_0).bind fun rq1 =>
  cond (!rq1.1)
  (some (false,(())))
  ((mkI false n_1).bind fun xq2=>(mkI false n_1).bind fun xq3=>cond (decide (n_1≤n_1))
  (L5 l_0 n_1 xq3 0)
  none))
def xcu (N:Nat) (k:Z0):=itN (fun r=>wto r k) fun _ _ _ _=>none
def xct (N:Nat):=xcu N (wpf) N
def V8 (N:Nat) (l_0:Y4) (n_1:Int):Z0:=V8_s (xct N) l_0 n_1
def S_V8:Sig:=⟨(.pair Q3 Q15),[0,0],[],.unit,.bool,.i,fun x=>V8 big x.1 x.2.1⟩
def A_V8:Cfg:=mkCfg tab [(140,S_V7)] [(10,([B2,B0]++dr 3 [.as (.sl .bool) O2,B0])),(21,[])]
noncomputable def wtn (N n:Nat) (K:T8) (a0:Y4) (a1:Int) (a5:(List Bool)) (a6:Int):Z0:=itr A_V8 N 10 Tryz.f104 [1,1,1,0,1,0,0] n (([W2 a0,W0 a1]++ud 3 [.val (.sl .bool) O2 a5,W0 a6])++us 30) K
noncomputable def V8_z:Ex→St→Z0:=finish A_V8 S_V8 Tryz.f104.results.toList
noncomputable def xqh (kX:T1):Z0:=kX ([]++us 37)
noncomputable def xqg (kX:T1) (kO:T0):=exK V8_z 0 (A_V8.shape 21) kX kO
theorem xos (N kX kO):∀n,wtn N n (xqg kX kO)=xcu N (xqh kX) n :=
 itE rfl fun m=>by kernel_rfl
noncomputable def wxv (N:Nat):=(blockK 0 (sqK A_V8 N 21 500010 Tryz.f104 [1,1,1,1] V8_z))
noncomputable def xqi (N:Nat) (st':St):Z0:=rn A_V8 N Tryz.f104 [1,1,1,1] st' V8_z
theorem xw6 (N):wtn N N (wxv N)=xct N:=by
 rw[show wtn N N (wxv N)=wtn N N (xqg (xqi N) fun j=>(wxv N) (.exit j)) from(by funext _ _ _ _;exact jk7),xos,show xqh (xqi N)=wpf by kernel_rfl];rfl
theorem run_V8 (N x):runF A_V8 N Tryz.f104 S_V8 x=V8 N x.1 x.2.1:=(show _=(V8_s (wtn N N (wxv N)) x.1 x.2.1) by kernel_rfl).trans (by rw[xw6 N];rfl)
theorem ok_V8:OK 104 S_V8:=gdR (A:=A_V8) tc Tryz.func104 (jed ⟨ok_V7,trivial⟩) (run_V8 big)
def wm7 (rec:T64) (k:Int→Y2→Y5→Y2→Int→Y4→Z4) (a0:Int) (a4:Y2) (a5:Y5) (a12:Y2) (a13:Int) (a14:Y4) (a15:Int):Z4 :=
  cond (decide (a15<a0))
  ((atI a5 a15).bind fun _ =>
  (a5[a15.toNat]?).bind fun xq33 =>
  (a5[a15.toNat]?).bind fun xq34 =>
  (atI xq34 a13).bind fun _ =>
  (a5[a15.toNat]?).bind fun xq35 =>
  (xq35[a13.toNat]?).bind fun xq36 =>
  cond xq36
  ((appI a14 [a15]).bind fun xq37 =>
  rec a0 a4 a5 a12 a13 xq37 (IntKind.i64.wrap (a15+1)))
  (rec a0 a4 a5 a12 a13 a14 (IntKind.i64.wrap (a15+1))))
  (k a0 a4 a5 a12 a13 a14)
def wir (rec:T54) (a0:Int) (a4:Y2) (a5:Y5) (a12:Y2) (a13:Int) (a14:Y4):Z4 :=
  (appI a12.1 [a14]).bind fun xq38 =>
  rec a0 a4 a5 (xq38,((),a12.2).2) (IntKind.i64.wrap (a13+1))
def wm6 (rec:T71) (k:T28) (a0:Int) (a4:Y2) (a5:Y5) (a9 a10 a11:Int):Z4 :=
  cond (decide (a11<a0))
  ((atI a5 a10).bind fun _ =>
  (a5[a10.toNat]?).bind fun xq11 =>
  (atI a5 a10).bind fun _ =>
  (a5[a10.toNat]?).bind fun xq12 =>
  (a5[a10.toNat]?).bind fun xq13 =>
  (atI xq13 a11).bind fun _ =>
  (a5[a10.toNat]?).bind fun xq14 =>
  (xq14[a11.toNat]?).bind fun xq15 =>
  cond xq15
  ((a5[a10.toNat]?).bind fun xq16 =>
  (atI xq16 a11).bind fun _ =>
  (a5[a10.toNat]?).bind fun xq17 =>
  (xq17[a11.toNat]?).bind fun xq18 =>
  rec a0 a4 (a5.set a10.toNat (xq17.set a11.toNat true)) a9 a10 (IntKind.i64.wrap (a11+1)))
  ((atI a5 a10).bind fun _ =>
  (a5[a10.toNat]?).bind fun xq19 =>
  (a5[a10.toNat]?).bind fun xq20 =>
  (atI xq20 a9).bind fun _ =>
  (a5[a10.toNat]?).bind fun xq21 =>
  (xq21[a9.toNat]?).bind fun xq22 =>
  cond xq22
  ((atI a5 a9).bind fun _ =>
  (a5[a9.toNat]?).bind fun xq23 =>
  (a5[a9.toNat]?).bind fun xq24 =>
  (atI xq24 a11).bind fun _ =>
  (a5[a9.toNat]?).bind fun xq25 =>
  (xq25[a11.toNat]?).bind fun xq26 =>
  (a5[a10.toNat]?).bind fun xq27 =>
  (atI xq27 a11).bind fun _ =>
  (a5[a10.toNat]?).bind fun xq28 =>
  (xq28[a11.toNat]?).bind fun xq29 =>
  rec a0 a4 (a5.set a10.toNat (xq28.set a11.toNat xq26)) a9 a10 (IntKind.i64.wrap (a11+1)))
  ((a5[a10.toNat]?).bind fun xq30 =>
  (atI xq30 a11).bind fun _ =>
  (a5[a10.toNat]?).bind fun xq31 =>
  (xq31[a11.toNat]?).bind fun xq32 =>
  rec a0 a4 (a5.set a10.toNat (xq31.set a11.toNat false)) a9 a10 (IntKind.i64.wrap (a11+1)))))
  (k a0 a4 a5 a9 a10)
def wiq (rec:T28) (a0:Int) (a4:Y2) (a5:Y5) (a9 a10:Int):Z4 :=
  rec a0 a4 a5 a9 (IntKind.i64.wrap (a10+1))
def wiu (L28:T64) (k:T52) (a0:Int) (a4:Y2) (a5:Y5) (a12:Y2) (a13:Int):Z4 :=
  cond (decide (a13<a0))
  (L28 a0 a4 a5 a12 a13 [] 0)
  (k a4 a12)
def wag (a4 a12:Y2):Z4 :=
  some (a12,(()))
def wit (L19:T71) (k:T29) (a0:Int) (a4:Y2) (a5:Y5) (a9 a10:Int):Z4 :=
  cond (decide (a10<a0))
  (L19 a0 a4 a5 a9 a10 0)
  (k a0 a4 a5 a9)
def waf (rec:T29) (a0:Int) (a4:Y2) (a5:Y5) (a9:Int):Z4 :=
  rec a0 a4 a5 (IntKind.i64.wrap (a9+1))
def wis (L16:T28) (k:T107) (a0:Int) (a4:Y2) (a5:Y5) (a9:Int):Z4 :=
  cond (decide (a9<a0))
  (L16 a0 a4 a5 a9 0)
  (k a0 a4 a5)
def wae (L24:T54) (a0:Int) (a4:Y2) (a5:Y5):Z4 :=
  L24 a0 a4 a5 ([],()) 0
def wt8 (rec:T30) (k:T107) (a0:Int) (a1:Z11) (a4:Y2) (a5:Y5) (a8:Int):Z4 :=
  cond (decide (a8<(a1.length:Int)))
  ((atI a1 a8).bind fun xq5 =>
  (atI a5 xq5.1).bind fun _ =>
  (a5[xq5.1.toNat]?).bind fun xq6 =>
  (atI a1 a8).bind fun xq7 =>
  (a5[xq5.1.toNat]?).bind fun xq8 =>
  (atI xq8 xq7.2.1).bind fun _ =>
  (a5[xq5.1.toNat]?).bind fun xq9 =>
  (xq9[xq7.2.1.toNat]?).bind fun xq10 =>
  rec a0 a1 a4 (a5.set xq5.1.toNat (xq9.set xq7.2.1.toNat true)) (IntKind.i64.wrap (a8+1)))
  (k a0 a4 a5)
def wpl (L13:T29) (a0:Int) (a4:Y2) (a5:Y5):Z4 :=
  L13 a0 a4 a5 0
def wt7 (rec:T30) (k:Int→Z11→Y2→Y5→Z4) (a0:Int) (a1:Z11) (a4:Y2) (a5:Y5) (a6:Int):Z4 :=
  cond (decide (a6<a0))
  ((mkI false a0).bind fun xq1=>(mkI false a0).bind fun xq2=>cond (decide (a0≤a0))
  ((atI xq2 a6).bind fun _ =>
  (xq2[a6.toNat]?).bind fun xq3 =>
  (appI a5 [xq2.set a6.toNat true]).bind fun xq4 =>
  rec a0 a1 a4 xq4 (IntKind.i64.wrap (a6+1)))
  none)
  (k a0 a1 a4 a5)
def wpk (L9:T30) (a0:Int) (a1:Z11) (a4:Y2) (a5:Y5):Z4 :=
  L9 a0 a1 a4 a5 0
def V9_s (L3:T30) (n_0:Int) (pairs_1:Z11):Z4 :=
  L3 n_0 pairs_1 (([]:Y3),()) [] 0
def w26 (N:Nat) (k:T28):=itN (fun r=>wm6 r k) fun _ _ _ _ _ _=>none
def wm2 (N:Nat) (rec:T28) (k:T29):=w26 N (wiq rec) N
def w25 (N:Nat) (k:T29):=itN (fun r=>wit (wm2 N r k) k) fun _ _ _ _ _=>none
def wm1 (N:Nat) (rec:T29) (k:T107):=w25 N (waf rec) N
def w28 (N:Nat) (k:Int→Y2→Y5→Y2→Int→Y4→Z4):=itN (fun r=>wm7 r k) fun _ _ _ _ _ _ _=>none
def wm3 (N:Nat) (rec:T54) (k:T52):=w28 N (wir rec) N
def xdb (N:Nat) (k:Int→Z11→Y2→Y5→Z4):=itN (fun r=>wt7 r k) fun _ _ _ _ _=>none
def xdc (N:Nat) (k:T107):=itN (fun r=>wt8 r k) fun _ _ _ _ _=>none
def w24 (N:Nat) (k:T107):=itN (fun r=>wis (wm1 N r k) k) fun _ _ _ _=>none
def w27 (N:Nat) (k:T52):=itN (fun r=>wiu (wm3 N r k) k) fun _ _ _ _ _=>none
def ye (N:Nat):=w27 N (wag) N
def wdk (N:Nat):=w24 N (wae (ye N)) N
def wpj (N:Nat):=xdc N (wpl (wdk N)) N
def xda (N:Nat):=xdb N (wpk (wpj N)) N
def V9 (N:Nat) (n_0:Int) (pairs_1:Z11):Z4:=V9_s (xda N) n_0 pairs_1
def S_V9:Sig:=⟨(.pair I (.pair Q7 .unit)),[0,0],[],.unit,Q0,(.p O13 .i),fun x=>V9 big x.1 x.2.1⟩
def A_V9:Cfg:=mkCfg tab [] [(6,[B0,.as Q7 .i,D0,D0,B3,B8,B0]),(17,[B0,.as Q7 .i,D0,D0,B3,B8]),(18,[B0,.as Q7 .i,D0,D0,B3,B8,D0,D0,B0]),(25,([B0]++dr 3 [B3,B8])),(26,([B0]++dr 3 ([B3,B8]++dr 3 [B0]))),(32,([B0]++dr 3 ([B3,B8]++dr 3 [B0,B0]))),(45,([B0]++dr 3 [B3,B8])),(48,([B0]++dr 3 ([B3,B8]++dr 6 [B3,B0]))),(38,([B0]++dr 3 ([B3,B8]++dr 3 [B0,B0,B0]))),(29,([B0]++dr 3 ([B3,B8]++dr 3 [B0]))),(56,([B0]++dr 3 ([B3,B8]++dr 6 [B3,B0,B1,B0]))),(67,(dr 4 ([B3]++dr 7 [B3]))),(35,([B0]++dr 3 ([B3,B8]++dr 3 [B0,B0]))),(65,([B0]++dr 3 ([B3,B8]++dr 6 [B3,B0,B1])))]
noncomputable def wt2 (N n:Nat) (K:T53) (a0:Int) (a1:Z11) (a4:Y2) (a5:Y5) (a6:Int):Z4:=itr A_V9 N 6 Tryz.f106 [1,1,0,1,0,0] n ([W0 a0,.val Q7 .i a1,.u,.u,W3 a4,W8 a5,W0 a6]++us 121) K
noncomputable def wt3 (N n:Nat) (K:T53) (a0:Int) (a1:Z11) (a4:Y2) (a5:Y5) (a8:Int):Z4:=itr A_V9 N 18 Tryz.f106 [1,1,1,0,1,0,0] n ([W0 a0,.val Q7 .i a1,.u,.u,W3 a4,W8 a5,.u,.u,W0 a8]++us 119) K
noncomputable def wdl (N n:Nat) (K:T53) (a0:Int) (a4:Y2) (a5:Y5) (a9:Int):Z4:=itr A_V9 N 26 Tryz.f106 [1,1,1,1,0,1,0,0] n (([W0 a0]++ud 3 ([W3 a4,W8 a5]++ud 3 [W0 a9]))++us 118) K
noncomputable def wdm (N n:Nat) (K:T53) (a0:Int) (a4:Y2) (a5:Y5) (a9 a10:Int):Z4:=itr A_V9 N 32 Tryz.f106 [1,1,1,1,0,1,0,0,1,0,0,1,0,0] n (([W0 a0]++ud 3 ([W3 a4,W8 a5]++ud 3 [W0 a9,W0 a10]))++us 117) K
noncomputable def wdn (N n:Nat) (K:T53) (a0:Int) (a4:Y2) (a5:Y5) (a12:Y2) (a13:Int):Z4:=itr A_V9 N 48 Tryz.f106 [1,1,1,1,1,1,0,1,0,0] n (([W0 a0]++ud 3 ([W3 a4,W8 a5]++ud 6 [W3 a12,W0 a13]))++us 114) K
noncomputable def wm4 (N n:Nat) (K:T53) (a0:Int) (a4:Y2) (a5:Y5) (a9 a10 a11:Int):Z4:=itr A_V9 N 38 Tryz.f106 [1,1,1,1,0,1,0,0,1,0,0,1,0,0,1,0,0,1,0,0] n (([W0 a0]++ud 3 ([W3 a4,W8 a5]++ud 3 [W0 a9,W0 a10,W0 a11]))++us 116) K
noncomputable def wm5 (N n:Nat) (K:T53) (a0:Int) (a4:Y2) (a5:Y5) (a12:Y2) (a13:Int) (a14:Y4) (a15:Int):Z4:=itr A_V9 N 56 Tryz.f106 [1,1,1,1,1,1,0,1,0,0,1,0,0,1,0,1,0,0] n (([W0 a0]++ud 3 ([W3 a4,W8 a5]++ud 6 [W3 a12,W0 a13,W1 a14,W0 a15]))++us 112) K
noncomputable def V9_z:Ex→St→Z4:=finish A_V9 S_V9 Tryz.f106.results.toList
noncomputable def xqn (kX:T21) (a0:Int) (a1:Z11) (a4:Y2) (a5:Y5):Z4:=kX ([W0 a0,.val Q7 .i a1,.u,.u,W3 a4,W8 a5]++us 122)
noncomputable def xql (kX:T21) (kO:T9):=exK V9_z 0 (A_V9.shape 17) kX kO
noncomputable def xqo (kX:T21) (a0:Int) (a4:Y2) (a5:Y5):Z4:=kX (([W0 a0]++ud 3 [W3 a4,W8 a5])++us 122)
noncomputable def xqm (kX:T21) (kO:T9):=exK V9_z 2 (A_V9.shape 25) kX kO
noncomputable def wt4 (kX:T21) (a0:Int) (a4:Y2) (a5:Y5):Z4:=kX (([W0 a0]++ud 3 [W3 a4,W8 a5])++us 122)
noncomputable def wim (kX:T21) (kO:T9):=exK V9_z 4 (A_V9.shape 45) kX kO
noncomputable def wt5 (kX:T21) (a0:Int) (a4:Y2) (a5:Y5) (a9:Int):Z4:=kX (([W0 a0]++ud 3 ([W3 a4,W8 a5]++ud 3 [W0 a9]))++us 118)
noncomputable def wio (kX:T21) (kO:T9):=exK V9_z 6 (A_V9.shape 29) kX kO
noncomputable def wt6 (kX:T21) (a4 a12:Y2):Z4:=kX ((ud 4 ([W3 a4]++ud 7 [W3 a12]))++us 115)
noncomputable def wip (kX:T21) (kO:T9):=exK V9_z 10 (A_V9.shape 67) kX kO
noncomputable def xl8 (kX:T21) (a0:Int) (a4:Y2) (a5:Y5) (a9 a10:Int):Z4:=kX (([W0 a0]++ud 3 ([W3 a4,W8 a5]++ud 3 [W0 a9,W0 a10]))++us 117)
noncomputable def xl6 (kX:T21) (kO:T9):=exK V9_z 8 (A_V9.shape 35) kX kO
noncomputable def xl9 (kX:T21) (a0:Int) (a4:Y2) (a5:Y5) (a12:Y2) (a13:Int) (a14:Y4):Z4:=kX (([W0 a0]++ud 3 ([W3 a4,W8 a5]++ud 6 [W3 a12,W0 a13,W1 a14]))++us 113)
noncomputable def xl7 (kX:T21) (kO:T9):=exK V9_z 12 (A_V9.shape 65) kX kO
theorem xov (N kX kO):∀n,wt2 N n (xql kX kO)=xdb N (xqn kX) n :=
 itE rfl fun m=>by kernel_rfl
noncomputable def wxw (N:Nat):=(blockK 0 (sqK A_V9 N 17 500008 Tryz.f106 [1,1,1] V9_z))
theorem xow (N kX kO):∀n,wt3 N n (xqm kX kO)=xdc N (xqo kX) n :=
 itE rfl fun m=>by kernel_rfl
noncomputable def wxx (N:Nat):=(blockK 2 (sqK A_V9 N 25 500012 Tryz.f106 [1,1,1,1] V9_z))
theorem xmc (N kX kO):∀n,wm4 N n (xl6 kX kO)=w26 N (xl8 kX) n :=
 itE rfl fun m=>by kernel_rfl
noncomputable def wtz (N m:Nat) (kX:T21) (kO:T9):=(blockK 8 (blockK 7 (sqK A_V9 N 35 500017 Tryz.f106 [1,1,1,1,0,1,0,0,1,0,0,1,0,0,1,1] (itK A_V9 N 32 Tryz.f106 [1,1,1,1,0,1,0,0,1,0,0,1,0,0] m (wio kX kO)))))
noncomputable def xmh (N m:Nat) (kX:T21) (kO:T9) (st':St):Z4:=rn A_V9 N Tryz.f106 [1,1,1,1,0,1,0,0,1,0,0,1,0,0,1,1] st' (itK A_V9 N 32 Tryz.f106 [1,1,1,1,0,1,0,0,1,0,0,1,0,0] m (wio kX kO))
theorem xun (N m kX kO) {r}(h:wdm N m (wio kX kO)=r):wm4 N N (wtz N m kX kO)=wm2 N r (wt5 kX):=by
 rw[show wm4 N N (wtz N m kX kO)=wm4 N N (xl6 (xmh N m kX kO) fun j=>(wtz N m kX kO) (.exit j)) from(by funext _ _ _ _ _ _;exact jk7),xmc,show xl8 (xmh N m kX kO)=wiq (wdm N m (wio kX kO)) by kernel_rfl,h];rfl
theorem xmb (N kX kO):∀n,wdm N n (wio kX kO)=w25 N (wt5 kX) n :=
 itE rfl fun m=>(show _=wit (wm4 N N (wtz N m kX kO)) (wt5 kX) by kernel_rfl).trans (by rw[xun N m kX kO rfl]<;>rfl)
noncomputable def wty (N m:Nat) (kX:T21) (kO:T9):=(blockK 6 (blockK 5 (sqK A_V9 N 29 500014 Tryz.f106 [1,1,1,1,0,1,0,0,1,1] (itK A_V9 N 26 Tryz.f106 [1,1,1,1,0,1,0,0] m (wim kX kO)))))
noncomputable def xmg (N m:Nat) (kX:T21) (kO:T9) (st':St):Z4:=rn A_V9 N Tryz.f106 [1,1,1,1,0,1,0,0,1,1] st' (itK A_V9 N 26 Tryz.f106 [1,1,1,1,0,1,0,0] m (wim kX kO))
theorem xum (N m kX kO) {r}(h:wdl N m (wim kX kO)=r):wdm N N (wty N m kX kO)=wm1 N r (wt4 kX):=by
 rw[show wdm N N (wty N m kX kO)=wdm N N (wio (xmg N m kX kO) fun j=>(wty N m kX kO) (.exit j)) from(by funext _ _ _ _ _;exact jk7),xmb,show wt5 (xmg N m kX kO)=waf (wdl N m (wim kX kO)) by kernel_rfl,h];rfl
theorem xma (N kX kO):∀n,wdl N n (wim kX kO)=w24 N (wt4 kX) n :=
 itE rfl fun m=>(show _=wis (wdm N N (wty N m kX kO)) (wt4 kX) by kernel_rfl).trans (by rw[xum N m kX kO rfl]<;>rfl)
noncomputable def wtx (N:Nat):=(blockK 4 (sqK A_V9 N 45 500022 Tryz.f106 [1,1,1,1,1] V9_z))
theorem xme (N kX kO):∀n,wm5 N n (xl7 kX kO)=w28 N (xl9 kX) n :=
 itE rfl fun m=>by kernel_rfl
noncomputable def wt1 (N m:Nat) (kX:T21) (kO:T9):=(blockK 12 (sqK A_V9 N 65 500032 Tryz.f106 [1,1,1,1,1,1,0,1,0,0,1,0,0,1,1] (blockK 11 (sqK A_V9 N 51 500025 Tryz.f106 [1,1,1,1,1,1,0,1,0,0,1,1] (itK A_V9 N 48 Tryz.f106 [1,1,1,1,1,1,0,1,0,0] m (wip kX kO))))))
noncomputable def xmj (N m:Nat) (kX:T21) (kO:T9) (st':St):Z4:=rn A_V9 N Tryz.f106 [1,1,1,1,1,1,0,1,0,0,1,0,0,1,1] st' (blockK 11 (sqK A_V9 N 51 500025 Tryz.f106 [1,1,1,1,1,1,0,1,0,0,1,1] (itK A_V9 N 48 Tryz.f106 [1,1,1,1,1,1,0,1,0,0] m (wip kX kO))))
theorem xup (N m kX kO) {r}(h:wdn N m (wip kX kO)=r):wm5 N N (wt1 N m kX kO)=wm3 N r (wt6 kX):=by
 rw[show wm5 N N (wt1 N m kX kO)=wm5 N N (xl7 (xmj N m kX kO) fun j=>(wt1 N m kX kO) (.exit j)) from(by funext _ _ _ _ _ _ _;exact jk7),xme,show xl9 (xmj N m kX kO)=wir (wdn N m (wip kX kO)) by kernel_rfl,h];rfl
theorem xmd (N kX kO):∀n,wdn N n (wip kX kO)=w27 N (wt6 kX) n :=
 itE rfl fun m=>(show _=wiu (wm5 N N (wt1 N m kX kO)) (wt6 kX) by kernel_rfl).trans (by rw[xup N m kX kO rfl]<;>rfl)
noncomputable def wt0 (N:Nat):=(blockK 10 (sqK A_V9 N 67 500033 Tryz.f106 [1,1,1,1,1,1,1] V9_z))
noncomputable def xmi (N:Nat) (st':St):Z4:=rn A_V9 N Tryz.f106 [1,1,1,1,1,1,1] st' V9_z
theorem xuo (N):wdn N N (wt0 N)=ye N:=by
 rw[show wdn N N (wt0 N)=wdn N N (wip (xmi N) fun j=>(wt0 N) (.exit j)) from(by funext _ _ _ _ _;exact jk7),xmd,show wt6 (xmi N)=wag by kernel_rfl];rfl
noncomputable def xmf (N:Nat) (st':St):Z4:=rn A_V9 N Tryz.f106 [1,1,1,1,1] st' V9_z
theorem xul (N):wdl N N (wtx N)=wdk N:=by
 rw[show wdl N N (wtx N)=wdl N N (wim (xmf N) fun j=>(wtx N) (.exit j)) from(by funext _ _ _ _;exact jk7),xma,show wt4 (xmf N)=wae (wdn N N (wt0 N)) by kernel_rfl,xuo N];rfl
noncomputable def xqq (N:Nat) (st':St):Z4:=rn A_V9 N Tryz.f106 [1,1,1,1] st' V9_z
theorem xxf (N):wt3 N N (wxx N)=wpj N:=by
 rw[show wt3 N N (wxx N)=wt3 N N (xqm (xqq N) fun j=>(wxx N) (.exit j)) from(by funext _ _ _ _ _;exact jk7),xow,show xqo (xqq N)=wpl (wdl N N (wtx N)) by kernel_rfl,xul N];rfl
noncomputable def xqp (N:Nat) (st':St):Z4:=rn A_V9 N Tryz.f106 [1,1,1] st' V9_z
theorem xxe (N):wt2 N N (wxw N)=xda N:=by
 rw[show wt2 N N (wxw N)=wt2 N N (xql (xqp N) fun j=>(wxw N) (.exit j)) from(by funext _ _ _ _ _;exact jk7),xov,show xqn (xqp N)=wpk (wt3 N N (wxx N)) by kernel_rfl,xxf N];rfl
theorem run_V9 (N x):runF A_V9 N Tryz.f106 S_V9 x=V9 N x.1 x.2.1:=(show _=(V9_s (wt2 N N (wxw N)) x.1 x.2.1) by kernel_rfl).trans (by rw[xxe N];rfl)
theorem ok_V9:OK 106 S_V9:=gdR (A:=A_V9) tc Tryz.func106 (jed trivial) (run_V9 big)
def wjp (rec k:T60) (a0:Y4) (a1 a5:Int):Z2 :=
  cond (decide (a5<(a0.length:Int)))
  ((atI a0 a5).bind fun xq1 =>
  cond (decide (xq1<a1))
  (rec a0 a1 (IntKind.i64.wrap (a5+1)))
  (k a0 a1 a5))
  (k a0 a1 a5)
def wcn (a0:Y4) (a1 a5:Int):Z2 :=
  cond (decide (a5<(a0.length:Int)))
  ((atI a0 a5).bind fun xq2 =>
  cond (decide (xq2=a1))
  (some (a0,(())))
  ((slI a0 0 a5).bind fun xq3 =>
  (appI [] xq3).bind fun xq4 =>
  (appI xq4 [a1]).bind fun xq5 =>
  (slI a0 a5 a0.length).bind fun xq6 =>
  (appI xq5 xq6).bind fun xq7 =>
  some (xq7,(()))))
  ((slI a0 0 a5).bind fun xq8 =>
  (appI [] xq8).bind fun xq9 =>
  (appI xq9 [a1]).bind fun xq10 =>
  (slI a0 a5 a0.length).bind fun xq11 =>
  (appI xq10 xq11).bind fun xq12 =>
  some (xq12,(())))
def w85 (L2:T60) (l_0:Y4) (n_1:Int):Z2 :=
  L2 l_0 n_1 0
def wyh (N:Nat) (k:T60):=itN (fun r=>wjp r k) fun _ _ _=>none
def wyg (N:Nat):=wyh N (wcn) N
def V10 (N:Nat) (l_0:Y4) (n_1:Int):Z2:=w85 (wyg N) l_0 n_1
def S_V10:Sig:=⟨(.pair Q3 Q15),[0,0],[],.unit,Q3,.i,fun x=>V10 big x.1 x.2.1⟩
def A_V10:Cfg:=mkCfg tab [] [(4,([B2,B0]++dr 3 [B0])),(9,([B2,B0]++dr 3 [B0]))]
noncomputable def wjo (N n:Nat) (K:T13) (a0:Y4) (a1 a5:Int):Z2:=itr A_V10 N 4 Tryz.f137 [1,1,0,0,0] n (([W2 a0,W0 a1]++ud 3 [W0 a5])++us 39) K
noncomputable def w86:Ex→St→Z2:=finish A_V10 S_V10 Tryz.f137.results.toList
noncomputable def xd9 (kX:T4) (a0:Y4) (a1 a5:Int):Z2:=kX (([W2 a0,W0 a1]++ud 3 [W0 a5])++us 39)
noncomputable def xd8 (kX:T4) (kO:T3):=exK w86 0 (A_V10.shape 9) kX kO
theorem xea (N kX kO):∀n,wjo N n (xd8 kX kO)=wyh N (xd9 kX) n :=
 itE rfl fun m=>by kernel_rfl
noncomputable def wqm (N:Nat):=(blockK 0 (sqK A_V10 N 9 500004 Tryz.f137 [1,1,1] w86))
noncomputable def xeb (N:Nat) (st':St):Z2:=rn A_V10 N Tryz.f137 [1,1,1] st' w86
theorem xrb (N):wjo N N (wqm N)=wyg N:=by
 rw[show wjo N N (wqm N)=wjo N N (xd8 (xeb N) fun j=>(wqm N) (.exit j)) from(by funext _ _ _;exact jk7),xea,show xd9 (xeb N)=wcn by kernel_rfl];rfl
theorem run_V10 (N x):runF A_V10 N Tryz.f137 S_V10 x=V10 N x.1 x.2.1:=(show _=(w85 (wjo N N (wqm N)) x.1 x.2.1) by kernel_rfl).trans (by rw[xrb N];rfl)
theorem ok_V10:OK 137 S_V10:=gdR (A:=A_V10) tc Tryz.func137 (jed trivial) (run_V10 big)
end Go.Proofs.YtaehhdpcmfagjaaGreat
