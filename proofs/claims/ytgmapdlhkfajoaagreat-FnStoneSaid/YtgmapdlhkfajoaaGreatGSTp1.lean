import Derived.Test.YtgmapdlhkfajoaaGreatGxGen
import Derived.Test.YtgmapdlhkfajoaaGreatRows
import Derived.Test.YtgmapdlhkfajoaaGreatChecked
import Derived.KernelRfl
set_option maxRecDepth 100000
set_option linter.unusedVariables false
namespace Go.Proofs.YtgmapdlhkfajoaaGreat
open Go Go.Gx Go.Proofs
abbrev I:=Ty.int .i64
abbrev Q0:Ty:=(.pair (.sl (.sl I)) .unit)
abbrev Q1:Ty:=(.pair I (.pair (.sl (.pair I (.pair (.sl I) .unit))) .unit))
abbrev O2:Fl:=(.o (.p (.o (.o .i)) .i))
abbrev Q3:Ty:=(.ptr (.pair (.sl (.int .u8)) (.pair I (.pair (.int .u64) .unit))))
abbrev Q4:Ty:=(.opt (.pair (.sl (.sl .bool)) (.pair (.sl (.sl I)) Q0)))
abbrev O5:Fl:=(.o (.p .i (.p (.o .i) .i)))
abbrev Q6:Ty:=(.pair I (.pair (.sl I) .unit))
abbrev O7:Fl:=(.o .i)
abbrev Q8:Ty:=(.sl (.sl .bool))
abbrev Q9:Ty:=(.ptr Q0)
abbrev Q10:Ty:=(.sl I)
abbrev Q11:Ty:=(.pair I (.pair I .unit))
abbrev O12:Fl:=(.o (.p .i (.p O5 .i)))
abbrev Q13:Ty:=(.ptr Q1)
abbrev O14:Fl:=(.o O7)
abbrev Q15:Ty:=(.ptr Q6)
abbrev Q16:Ty:=(.pair Q10 (.pair Q10 .unit))
abbrev Q17:Ty:=(.pair Q0 .unit)
abbrev Q18:Ty:=(.pair .bool .unit)
abbrev Q19:Ty:=(.pair (.ptr I) (.pair (.ptr I) .unit))
abbrev Q20:Ty:=(.sl Q10)
abbrev Q21:Ty:=(.sl Q11)
abbrev Q22:Ty:=(.pair I .unit)
abbrev Q23:Ty:=(.pair Q3 .unit)
abbrev O24:Fl:=(.p .i (.p O5 .i))
abbrev Q25:Ty:=(.sl (.int .u8))
abbrev W0:=V.val I .i
abbrev W1:=V.val Q10 O7
abbrev W2:=V.val Q9 O2
abbrev W3:=V.val Q9 O7
abbrev W4:=V.val Q10 .i
abbrev W5:=V.val Q8 O14
abbrev W6:=V.val Q15 O5
abbrev W7:=V.val Q13 O12
abbrev W8:=V.val Q13 O7
abbrev B0:=Sh.as I .i
abbrev B1:=Sh.as Q10 O7
abbrev B2:=Sh.as Q9 O2
abbrev B3:=Sh.as Q9 O7
abbrev B4:=Sh.as Q10 .i
abbrev B5:=Sh.as Q8 O14
abbrev B6:=Sh.as Q15 O5
abbrev B7:=Sh.as Q13 O12
abbrev B8:=Sh.as Q3 O7
abbrev B9:=Sh.as Q13 O7
abbrev B10:=Sh.as Q4 .i
abbrev D0:=Sh.drop
abbrev Y1:=(Option ((List (List Bool))×((List (List Int))×((List (List Int))×Unit))))
abbrev Y2:=((List (List Int))×Unit)
abbrev Y7:=(Int×((List (Int×((List Int)×Unit)))×Unit))
abbrev Y6:=(Int×((List Int)×Unit))
abbrev Y3:=(List (List Int))
abbrev Y4:=(List Int)
abbrev Y5:=(List (List Bool))
abbrev Z0:=(Bool×Unit)
abbrev Z1:=(Int×(Int×Unit))
abbrev Z2:=Option (Y2×Unit)
abbrev Z3:=Option (Y4×Unit)
abbrev Z4:=Option (Int×Unit)
abbrev Z5:=Option ((Y4×Z0)×Unit)
abbrev Z6:=Option (Y2×((Y4×Z1)×Unit))
abbrev Z7:=Option ((Y2×Z0)×Unit)
abbrev Z8:=Option (Y7×((Y4×Z1)×Unit))
abbrev Z9:=Option (Y5×Unit)
abbrev Z10:=Option ((Option Y4)×Unit)
abbrev Z11:=Option (Y7×Unit)
abbrev Z12:=Option (((Option Y4)×Z0)×Unit)
abbrev Z13:=(Y4×Z1)
abbrev Z14:=Option ((Y5×Z0)×Unit)
abbrev Z15:=Option ((Y3×Z0)×Unit)
abbrev Z16:=(List Z1)
abbrev Z17:=Option (Y6×Unit)
abbrev Z18:=Option (Z16×Unit)
abbrev Z19:=Option (Y4×(Z13×Unit))
abbrev Z20:=(Y4×(Y4×Unit))
abbrev T0:=Nat→St→Z2
abbrev T1:=St→Z2
abbrev T2:=Z13→Y2→Y2→Int→Y4→Z16→Int→Z6
abbrev T3:=Y2→Y7→Int→Y4→Y6→Y6→Int→Z11
abbrev T4:=Y2→Y7→Int→Y2→Y6→Y6→Int→Z11
abbrev T5:=Int→Y5→Int→Y3→Int→Int→Y4→Int→Bool→Bool→Y4→Int→Int→Z14
abbrev T6:=Nat→Y4→Prop
abbrev T7:=Nat→Prop
abbrev T8:=Y1→Int→Int→Int→Int→Int→Z10
abbrev T9:=Y7→Z20→Y4→Int→Y4→Int→Z12
abbrev T10:=Y2→Y2→Y2→Y2→Int→Int→Int→Y4→Int→Z2
abbrev T11:=Z13→Y2→Int→Z16→Int→Z6
abbrev T12:=Nat→St→Z4
abbrev T13:=Int→Y2→Y5→Int→Int→Z2
abbrev T14:=Int→Y2→Y5→Int→Z2
abbrev T15:=Int→Z16→Y2→Y5→Int→Z2
abbrev T16:=Int→Y4→Y5→Int→Int→Z9
abbrev T17:=Y5→Y4→Int→Bool→Y4→Int→Int→Y4→Int→Int→Z4
abbrev T18:=St→Z3
abbrev T19:=Nat→St→Z3
abbrev T20:=Y1→Int→Int→Int→Int→Int→Int→Int→Int→Z10
abbrev T21:=Y2→Y2→Z2
abbrev T22:=St→Z4
abbrev T23:=Y1→Y4→Int→Int→Int→Int→Y4→Int→Int→Z5
abbrev T24:=Y7→Z20→Y4→Int→Y4→Int→Y4→Int→Int→Z12
abbrev T25:=Y5→Y2→Y2→Int→Y4→Int→Int→Int→Int→Z2
abbrev T26:=Y2→Y2→Y2→Y2→Int→Int→Z2
abbrev T27:=Ex→St→Z2
abbrev T28:=Y1→Int→Int→Int→Z4
abbrev T29:=Y2→Int→Int→Int→Z5
abbrev T30:=Y1→Int→Int→Z10
abbrev T31:=Ex→St→Z3
abbrev T32:=Y5→Y3→Int→Y4→Int→Int→Int→Int→Z15
abbrev T33:=Y5→Y5→Int→Int→Z9
abbrev T34:=Y7→Int→Y6→Y6→Z11
abbrev T35:=Int→Y4→Y5→Int→Int→Int→Int→Int→Z9
abbrev T36:=Nat→St→Z5
abbrev T37:=Y2→Int→Int→Z5
abbrev T38:=Y2→Y7→Int→Y4→Y6→Y6→Int→Int→Z11
abbrev T39:=Y2→Y7→Int→Y2→Y6→Y6→Int→Int→Z11
abbrev T40:=Int→Y5→Y3→Int→Int→Z14
abbrev T41:=Y4→Y4→Y7→Y4→Int→Y6→Int→Int→Z4
abbrev T42:=Int→Y2→Y5→Y2→Int→Z2
abbrev T43:=Y5→Y4→Y4→Int→Int→Z4
abbrev T44:=Y4→Z3
abbrev T45:=Y5→Y2→Y2→Int→Int→Z2
abbrev T46:=Y4→Y4→Y7→Y4→Int→Z4
abbrev T47:=Nat→Y5→Prop
abbrev T48:=Y5→Y5→Int→Int→Int→Int→Int→Z9
abbrev T49:=Z13→Y7→Int→Y7→Z8
abbrev T50:=Int→Y2→Y5→Y2→Int→Y4→Int→Z2
abbrev T51:=Ex→St→Z4
abbrev T52:=(List Bool)→Y3→Int→Int→Z3
abbrev T53:=Z13→Y7→Int→Y7→Int→Z8
abbrev T54:=Z13→Y2→Int→Z16→Z6
abbrev T55:=Y5→Y3→Int→Int→Z15
abbrev T56:=St→Z5
abbrev T57:=Z13→Y2→Int→Z16→Int→Int→Z6
abbrev T58:=Int→Y2→Y5→Int→Int→Int→Z2
abbrev T59:=Z13→Y2→Int→Z16→Y4→Int→Z6
abbrev T60:=Y1→Y4→Int→Int→Z5
abbrev T61:=Y4→Y2→Y4→Int→Bool→Int→Z4
abbrev T62:=Int→Int→Int→Y2→Y4→Int→Z3
abbrev T63:=Y2→Y4→Int→Z3
abbrev T64:=Y2→Y4→Y4→Int→Int→Int→Z5
abbrev T65:=Y2→Y2→Y2→Int→Z2
abbrev T66:=Y4→Y2→Y4→Int→Z4
abbrev T67:=Y2→Y4→Y4→Int→Z5
abbrev T68:=Y7→Y2→Y2→Int→Z7
abbrev T69:=Y2→Y2→Y2→Int→Y4→Int→Z2
abbrev T70:=Y7→Y2→Y2→Int→Y4→Int→Z7
abbrev T71:=Y2→Y2→Y2→Y2→Int→Int→Int→Y4→Z2
abbrev T72:=(Y1×Unit)→Y4→Int→Int→Z3
abbrev T73:=Z13→Y7→Int→Y7→Int→Y6→Int→Z8
abbrev T74:=Y2→Int→Int→Int→Int→Z5
abbrev T75:=Y2→Y2→Y2→Y2→Int→Int→Int→Z2
abbrev T76:=Z13→Y2→Y2→Int→Z16→Z6
abbrev T77:=(Y5×Z1)→Y4→Int→Int→Z3
abbrev T78:=Y6→Y6→Y3→Int→Int→Z17
abbrev T79:=Y2→Y5→Int→Int→Z7
abbrev T80:=Int→Y4→Y7→Int→Int→Z4
abbrev T81:=Int→Int→Int→Z4
abbrev T82:=Y4→(List Y6)→Int→Int→Z3
abbrev T83:=Y2→Y2→Y2→Y2→Int→Int→Int→Y4→Int→Int→Z2
abbrev T84:=Nat→St→Z9
abbrev T85:=Int→Y5→Y3→Int→Int→Y4→Int→Bool→Bool→Z14
abbrev T86:=Int→Y2→Y5→Z2
abbrev T87:=Nat→St→Z11
abbrev T88:=Nat→Int→Prop
abbrev T89:=Z13→Int→Y4→Int→Z19
abbrev T90:=Nat→St→Z6
abbrev T91:=Nat→St→Z7
abbrev T92:=Int→Y5→Int→Int→Z9
abbrev T93:=Y2→Z16→Int→Z18
abbrev T94:=Y2→Y4→Int→Int→Z3
abbrev T95:=Y1→Y4→Int→Int→Z3
abbrev T96:=Y4→Int→Y7→Int→Z4
abbrev T97:=(List Bool)→Y3→Int→Int→Y4→Int→Int→Z3
abbrev T98:=St→Z6
abbrev T99:=St→Z9
abbrev T100:=Nat→St→Z10
abbrev T101:=Y4→Int→Int→Z3
abbrev T102:=Z13→Y2→Y2→Z6
abbrev T103:=St→Z11
abbrev T104:=Y5→Y4→Int→Bool→Y4→Int→Int→Z4
abbrev T105:=Ex→St→Z5
abbrev T106:=Y2→Y5→Int→Int→Int→Int→Int→Z7
abbrev T107:=St→Z7
abbrev T108:=Nat→Y6→Y6→Prop
abbrev T109:=Y6→Y6→Z17
abbrev T110:=Int→Z4
abbrev T111:=St→Z10
abbrev T112:=Ex→St→Z6
abbrev T113:=Int→Y2→Y2→Int→Z2
abbrev T114:=Y2→Y4→Int→Z4
abbrev T115:=Y7→Y4→Int→Z3
abbrev T116:=Y7→Y2→Y2→Z7
abbrev T117:=Nat→St→Z8
def tab:Tab:={ es:=[(22,(.int .u8),.i),(24,Q10,O7),(28,I,.i),(32,Q6,(.p .i (.p O7 .i))),(52,(.sl .bool),O7),(53,(.sl .bool),O7),(57,.bool,.i),(107,Q11,.i)],ts:=[(3,I,.i),(4,.bool,.i),(5,(.int .u8),.i),(9,.str,.i),(22,Q25,O7),(24,Q20,O14),(26,Q0,(.p O14 .i)),(28,Q10,O7),(32,(.sl Q6),O5),(34,Q1,O24),(46,Q16,(.p O7 (.p O7 .i))),(49,Q4,.i),(52,Q8,O14),(53,Q8,O14),(55,(.pair Q8 (.pair Q20 Q0)),(.p O14 (.p O14 (.p O14 .i)))),(57,(.sl .bool),O7),(65,Q6,(.p .i (.p O7 .i))),(79,Q3,(.o (.p O7 .i))),(80,(.int .u64),.i),(82,(.pair Q25 (.pair I (.pair (.int .u64) .unit))),(.p O7 .i)),(107,Q21,O7),(109,Q11,.i)],fs:=[(26,[(Q20,O14)]),(34,[(I,.i),((.sl Q6),O5)]),(46,[(Q10,O7),(Q10,O7)]),(55,[(Q8,O14),(Q20,O14),(Q20,O14)]),(65,[(I,.i),(Q10,O7)]),(82,[(Q25,O7),(I,.i),((.int .u64),.i)])],ars:=[(109,I,.i,2)] }
theorem tabOk:tab.chk Tryz.prog=true:=by kernel_rfl
theorem tc {a b}:CfgOk Tryz.prog (mkCfg tab a b):=vd tabOk
abbrev OK (i:FuncId) (S:Sig):Prop:=FnOk Tryz.prog i∧Gx.Good Tryz.prog i S
def V0_s (code_0:Y4):Option Z0 :=
  some (decide (65536<(code_0.length:Int)),(()))
def V0 (code_0:Y4):Option Z0:=V0_s code_0
def S_V0:Sig:=⟨(.pair Q25 .unit),[0],[],.unit,.bool,.i,fun x=>V0 x.1⟩
def A_V0:Cfg:=mkCfg tab [] []
theorem run_V0 (N x):runF A_V0 N Tryz.f4 S_V0 x=V0 x.1:=by kernel_rfl
theorem ok_V0:OK 4 S_V0:=gdR (A:=A_V0) tc Tryz.func4 (jes trivial) (run_V0 big)
def V1_s (c_0:Z13):Option (Int×(Z13×Unit)) :=
  cond (decide (c_0.2.1<(c_0.1.length:Int)))
  ((atI c_0.1 c_0.2.1).bind fun xq1 =>
  cond (decide (((((c_0.1,(IntKind.i64.wrap (c_0.2.1+1),c_0.2.2)).1,(((c_0.1,(IntKind.i64.wrap (c_0.2.1+1),c_0.2.2)).2).1,(IntKind.u64.wrap ((IntKind.u64.wrap ((IntKind.u64.wrap (((((c_0.1,(IntKind.i64.wrap (c_0.2.1+1),c_0.2.2)).2).2).1)*6364136223846793005))+(IntKind.u64.wrap (IntKind.i64.wrap xq1))))+550289),(((c_0.1,(IntKind.i64.wrap (c_0.2.1+1),c_0.2.2)).2).2).2))).2).1)≤((((c_0.1,(IntKind.i64.wrap (c_0.2.1+1),c_0.2.2)).1,(((c_0.1,(IntKind.i64.wrap (c_0.2.1+1),c_0.2.2)).2).1,(IntKind.u64.wrap ((IntKind.u64.wrap ((IntKind.u64.wrap (((((c_0.1,(IntKind.i64.wrap (c_0.2.1+1),c_0.2.2)).2).2).1)*6364136223846793005))+(IntKind.u64.wrap (IntKind.i64.wrap xq1))))+550289),(((c_0.1,(IntKind.i64.wrap (c_0.2.1+1),c_0.2.2)).2).2).2))).1).length:Int)))
  (some (IntKind.i64.wrap xq1,(((c_0.1,(IntKind.i64.wrap (c_0.2.1+1),c_0.2.2)).1,(((c_0.1,(IntKind.i64.wrap (c_0.2.1+1),c_0.2.2)).2).1,(IntKind.u64.wrap ((IntKind.u64.wrap ((IntKind.u64.wrap (((((c_0.1,(IntKind.i64.wrap (c_0.2.1+1),c_0.2.2)).2).2).1)*6364136223846793005))+(IntKind.u64.wrap (IntKind.i64.wrap xq1))))+550289),(((c_0.1,(IntKind.i64.wrap (c_0.2.1+1),c_0.2.2)).2).2).2))),())))
  ((shrI IntKind.u64 (((((c_0.1,(IntKind.i64.wrap (c_0.2.1+1),c_0.2.2)).1,(((c_0.1,(IntKind.i64.wrap (c_0.2.1+1),c_0.2.2)).2).1,(IntKind.u64.wrap ((IntKind.u64.wrap ((IntKind.u64.wrap (((((c_0.1,(IntKind.i64.wrap (c_0.2.1+1),c_0.2.2)).2).2).1)*6364136223846793005))+(IntKind.u64.wrap (IntKind.i64.wrap xq1))))+550289),(((c_0.1,(IntKind.i64.wrap (c_0.2.1+1),c_0.2.2)).2).2).2))).2).2).1) 40).bind fun xq2 =>
  some (IntKind.i64.wrap (bitI .and IntKind.u64 xq2 255),(((c_0.1,(IntKind.i64.wrap (c_0.2.1+1),c_0.2.2)).1,(((c_0.1,(IntKind.i64.wrap (c_0.2.1+1),c_0.2.2)).2).1,(IntKind.u64.wrap ((IntKind.u64.wrap ((IntKind.u64.wrap (((((c_0.1,(IntKind.i64.wrap (c_0.2.1+1),c_0.2.2)).2).2).1)*6364136223846793005))+(IntKind.u64.wrap (IntKind.i64.wrap xq1))))+550289),(((c_0.1,(IntKind.i64.wrap (c_0.2.1+1),c_0.2.2)).2).2).2))),()))))
  (cond (decide (((((c_0.1,(IntKind.i64.wrap (c_0.2.1+1),c_0.2.2)).1,(((c_0.1,(IntKind.i64.wrap (c_0.2.1+1),c_0.2.2)).2).1,(IntKind.u64.wrap ((IntKind.u64.wrap ((IntKind.u64.wrap (((((c_0.1,(IntKind.i64.wrap (c_0.2.1+1),c_0.2.2)).2).2).1)*6364136223846793005))+(IntKind.u64.wrap 0)))+550289),(((c_0.1,(IntKind.i64.wrap (c_0.2.1+1),c_0.2.2)).2).2).2))).2).1)≤((((c_0.1,(IntKind.i64.wrap (c_0.2.1+1),c_0.2.2)).1,(((c_0.1,(IntKind.i64.wrap (c_0.2.1+1),c_0.2.2)).2).1,(IntKind.u64.wrap ((IntKind.u64.wrap ((IntKind.u64.wrap (((((c_0.1,(IntKind.i64.wrap (c_0.2.1+1),c_0.2.2)).2).2).1)*6364136223846793005))+(IntKind.u64.wrap 0)))+550289),(((c_0.1,(IntKind.i64.wrap (c_0.2.1+1),c_0.2.2)).2).2).2))).1).length:Int)))
  (some (0,(((c_0.1,(IntKind.i64.wrap (c_0.2.1+1),c_0.2.2)).1,(((c_0.1,(IntKind.i64.wrap (c_0.2.1+1),c_0.2.2)).2).1,(IntKind.u64.wrap ((IntKind.u64.wrap ((IntKind.u64.wrap (((((c_0.1,(IntKind.i64.wrap (c_0.2.1+1),c_0.2.2)).2).2).1)*6364136223846793005))+(IntKind.u64.wrap 0)))+550289),(((c_0.1,(IntKind.i64.wrap (c_0.2.1+1),c_0.2.2)).2).2).2))),())))
  ((shrI IntKind.u64 (((((c_0.1,(IntKind.i64.wrap (c_0.2.1+1),c_0.2.2)).1,(((c_0.1,(IntKind.i64.wrap (c_0.2.1+1),c_0.2.2)).2).1,(IntKind.u64.wrap ((IntKind.u64.wrap ((IntKind.u64.wrap (((((c_0.1,(IntKind.i64.wrap (c_0.2.1+1),c_0.2.2)).2).2).1)*6364136223846793005))+(IntKind.u64.wrap 0)))+550289),(((c_0.1,(IntKind.i64.wrap (c_0.2.1+1),c_0.2.2)).2).2).2))).2).2).1) 40).bind fun xq3 =>
  some (IntKind.i64.wrap (bitI .and IntKind.u64 xq3 255),(((c_0.1,(IntKind.i64.wrap (c_0.2.1+1),c_0.2.2)).1,(((c_0.1,(IntKind.i64.wrap (c_0.2.1+1),c_0.2.2)).2).1,(IntKind.u64.wrap ((IntKind.u64.wrap ((IntKind.u64.wrap (((((c_0.1,(IntKind.i64.wrap (c_0.2.1+1),c_0.2.2)).2).2).1)*6364136223846793005))+(IntKind.u64.wrap 0)))+550289),(((c_0.1,(IntKind.i64.wrap (c_0.2.1+1),c_0.2.2)).2).2).2))),()))))
def V1 (c_0:Z13):Option (Int×(Z13×Unit)):=V1_s c_0
def S_V1:Sig:=⟨Q23,[1],[O7],Q23,I,.i,fun x=>V1 x.1⟩
def A_V1:Cfg:=mkCfg tab [] []
theorem run_V1 (N x):runF A_V1 N Tryz.f96 S_V1 x=V1 x.1:=by kernel_rfl
theorem ok_V1:OK 96 S_V1:=gdR (A:=A_V1) tc Tryz.func96 (jes trivial) (run_V1 big)
def V2_s (c_0:Z13) (n_1:Int):Option (Int×(Z13×Unit)) :=
  cond (decide (n_1≤1))
  (some (0,(c_0,())))
  ((V1 c_0).bind fun rq1 =>
  cond (decide (200<n_1))
  ((V1 rq1.2.1).bind fun rq2 =>
  (remI (IntKind.i64.wrap ((IntKind.i64.wrap (rq1.1*256))+rq2.1)) n_1).bind fun xq3 =>
  some (xq3,(rq2.2.1,())))
  ((remI rq1.1 n_1).bind fun xq4 =>
  some (xq4,(rq1.2.1,()))))
def V2 (c_0:Z13) (n_1:Int):Option (Int×(Z13×Unit)):=V2_s c_0 n_1
def S_V2:Sig:=⟨(.pair Q3 Q22),[1,0],[O7],Q23,I,.i,fun x=>V2 x.1 x.2.1⟩
def A_V2:Cfg:=mkCfg tab [(96,S_V1)] []
theorem run_V2 (N x):runF A_V2 N Tryz.f54 S_V2 x=V2 x.1 x.2.1:=by kernel_rfl
theorem ok_V2:OK 54 S_V2:=gdR (A:=A_V2) tc Tryz.func54 (jes ⟨ok_V1,trivial⟩) (run_V2 big)
def V3_s (c_0:Z13) (n_1:Int):Option (Bool×(Z13×Unit)) :=
  (V2 c_0 n_1).bind fun rq1 =>
  some (decide (rq1.1=0),(rq1.2.1,()))
def V3 (c_0:Z13) (n_1:Int):Option (Bool×(Z13×Unit)):=V3_s c_0 n_1
def S_V3:Sig:=⟨(.pair Q3 Q22),[1,0],[O7],Q23,.bool,.i,fun x=>V3 x.1 x.2.1⟩
def A_V3:Cfg:=mkCfg tab [(54,S_V2)] []
theorem run_V3 (N x):runF A_V3 N Tryz.f89 S_V3 x=V3 x.1 x.2.1:=by kernel_rfl
theorem ok_V3:OK 89 S_V3:=gdR (A:=A_V3) tc Tryz.func89 (jes ⟨ok_V2,trivial⟩) (run_V3 big)
def V4_s (c_0:Z13) (list_1:Y4):Option (Int×(Z13×Unit)) :=
  (V2 c_0 (list_1.length:Int)).bind fun rq1 =>
  (atI list_1 rq1.1).bind fun xq2 =>
  some (xq2,(rq1.2.1,()))
def V4 (c_0:Z13) (list_1:Y4):Option (Int×(Z13×Unit)):=V4_s c_0 list_1
def S_V4:Sig:=⟨(.pair Q3 (.pair Q10 .unit)),[1,0],[O7],Q23,I,.i,fun x=>V4 x.1 x.2.1⟩
def A_V4:Cfg:=mkCfg tab [(54,S_V2)] []
theorem run_V4 (N x):runF A_V4 N Tryz.f59 S_V4 x=V4 x.1 x.2.1:=by kernel_rfl
theorem ok_V4:OK 59 S_V4:=gdR (A:=A_V4) tc Tryz.func59 (jes ⟨ok_V2,trivial⟩) (run_V4 big)
def wod (rec:T89) (k:Z13→Int→Y4→Z19) (a0:Z13) (a1:Int) (a5:Y4) (a6:Int):Z19 :=
  cond (decide (a6<a1))
  ((V2 a0 (IntKind.i64.wrap ((a5.length:Int)+1))).bind fun rq1 =>
  (slI a5 0 rq1.1).bind fun xq2 =>
  (appI [] xq2).bind fun xq3 =>
  (appI xq3 [a6]).bind fun xq4 =>
  (slI a5 rq1.1 a5.length).bind fun xq5 =>
  (appI xq4 xq5).bind fun xq6 =>
  rec rq1.2.1 a1 xq6 (IntKind.i64.wrap (a6+1)))
  (k a0 a1 a5)
def wlh (a0:Z13) (a1:Int) (a5:Y4):Z19 :=
  (V2 a0 24).bind fun rq7 =>
  cond (decide (rq7.1=0))
  ((appI a5 [a1]).bind fun xq8 =>
  some (xq8,(rq7.2.1,())))
  (cond (decide (rq7.1=1))
  (cond (decide (0<a1))
  ((V2 rq7.2.1 a1).bind fun rq9 =>
  (V4 rq9.2.1 [(0:Int),(-1:Int),a1]).bind fun rq10 =>
  (atI a5 rq9.1).bind fun _ =>
  (a5[rq9.1.toNat]?).bind fun xq11 =>
  some (a5.set rq9.1.toNat rq10.1,(rq10.2.1,())))
  (some (a5,(rq7.2.1,()))))
  (some (a5,(rq7.2.1,()))))
def V5_s (L3:T89) (c_0:Z13) (n_1:Int):Z19 :=
  L3 c_0 n_1 [] 0
def w4m (N:Nat) (k:Z13→Int→Y4→Z19):=itN (fun r=>wod r k) fun _ _ _ _=>none
def w4l (N:Nat):=w4m N (wlh) N
def V5 (N:Nat) (c_0:Z13) (n_1:Int):Z19:=V5_s (w4l N) c_0 n_1
def S_V5:Sig:=⟨(.pair Q3 Q22),[1,0],[O7],Q23,Q10,O7,fun x=>V5 big x.1 x.2.1⟩
def A_V5:Cfg:=mkCfg tab [(54,S_V2),(59,S_V4)] [(6,([B8,B0]++dr 3 [B1,B0])),(13,([B8,B0]++dr 3 [B4,B0,B0])),(15,([B8,B0]++dr 3 [B1]))]
noncomputable def woc (N n:Nat) (K:Ex→St→Z19) (a0:Z13) (a1:Int) (a5:Y4) (a6:Int):Z19:=itr A_V5 N 6 Tryz.f91 [1,1,0,1,0,0] n (([.val Q3 O7 a0,W0 a1]++ud 3 [W1 a5,W0 a6])++us 46) K
noncomputable def V5_z:Ex→St→Z19:=finish A_V5 S_V5 Tryz.f91.results.toList
noncomputable def xg9 (kX:St→Z19) (a0:Z13) (a1:Int) (a5:Y4):Z19:=kX (([.val Q3 O7 a0,W0 a1]++ud 3 [W1 a5])++us 47)
noncomputable def xg8 (kX:St→Z19) (kO:Nat→St→Z19):=exK V5_z 0 (A_V5.shape 15) kX kO
theorem xfu (N kX kO):∀n,woc N n (xg8 kX kO)=w4m N (xg9 kX) n :=
 itE rfl fun m=>by kernel_rfl
noncomputable def wsd (N:Nat):=(blockK 0 (sqK A_V5 N 15 500007 Tryz.f91 [1,1,1] V5_z))
noncomputable def xha (N:Nat) (st':St):Z19:=rn A_V5 N Tryz.f91 [1,1,1] st' V5_z
theorem xmo (N):woc N N (wsd N)=w4l N:=by
 rw[show woc N N (wsd N)=woc N N (xg8 (xha N) fun j=>(wsd N) (.exit j)) from(by funext _ _ _ _;exact jlo),xfu,show xg9 (xha N)=wlh by kernel_rfl];rfl
theorem run_V5 (N x):runF A_V5 N Tryz.f91 S_V5 x=V5 N x.1 x.2.1:=(show _=(V5_s (woc N N (wsd N)) x.1 x.2.1) by kernel_rfl).trans (by rw[xmo N];rfl)
theorem ok_V5:OK 91 S_V5:=gdR (A:=A_V5) tc Tryz.func91 (jes ⟨ok_V2,ok_V4,trivial⟩) (run_V5 big)
def V6_s (x_0 a_1 b_2:Int):Option Z0 :=
  cond (decide (a_1≤x_0))
  (some (decide (x_0≤b_2),(())))
  (some (false,(())))
def V6 (x_0 a_1 b_2:Int):Option Z0:=V6_s x_0 a_1 b_2
def S_V6:Sig:=⟨(.pair I Q11),[0,0,0],[],.unit,.bool,.i,fun x=>V6 x.1 x.2.1 x.2.2.1⟩
def A_V6:Cfg:=mkCfg tab [] []
theorem run_V6 (N x):runF A_V6 N Tryz.f60 S_V6 x=V6 x.1 x.2.1 x.2.2.1:=by kernel_rfl
theorem ok_V6:OK 60 S_V6:=gdR (A:=A_V6) tc Tryz.func60 (jes trivial) (run_V6 big)
def wo3 (rec:Int→Y4→Int→Option Z0) (k:Option Z0) (a0:Int) (a1:Y4) (a5:Int):Option Z0 :=
  cond (decide (a5<(a1.length:Int)))
  ((atI a1 a5).bind fun xq1 =>
  (V6 xq1 0 (IntKind.i64.wrap (a0-1))).bind fun rq2 =>
  cond (!rq2.1)
  (some (false,(())))
  (rec a0 a1 (IntKind.i64.wrap (a5+1))))
  (k)
def wlk:Option Z0 :=
  some (true,(()))
def V7_s (L2:Int→Y4→Int→Option Z0) (n_0:Int) (list_1:Y4):Option Z0 :=
  L2 n_0 list_1 0
def w5c (N:Nat) (k:Option Z0):=itN (fun r=>wo3 r k) fun _ _ _=>none
def w5b (N:Nat):=w5c N (wlk) N
def V7 (N:Nat) (n_0:Int) (list_1:Y4):Option Z0:=V7_s (w5b N) n_0 list_1
def S_V7:Sig:=⟨Q6,[0,0],[],.unit,.bool,.i,fun x=>V7 big x.1 x.2.1⟩
def A_V7:Cfg:=mkCfg tab [(60,S_V6)] [(4,([B0,B4]++dr 3 [B0])),(13,[])]
noncomputable def wo2 (N n:Nat) (K:Ex→St→Option Z0) (a0:Int) (a1:Y4) (a5:Int):Option Z0:=itr A_V7 N 4 Tryz.f118 [1,0,1,0,0] n (([W0 a0,W4 a1]++ud 3 [W0 a5])++us 14) K
noncomputable def V7_z:Ex→St→Option Z0:=finish A_V7 S_V7 Tryz.f118.results.toList
noncomputable def xhg (kX:St→Option Z0):Option Z0:=kX ([]++us 20)
noncomputable def xhf (kX:St→Option Z0) (kO:Nat→St→Option Z0):Ex→St→Option Z0:=exK V7_z 0 (A_V7.shape 13) kX kO
theorem xfx (N kX kO):∀n,wo2 N n (xhf kX kO)=w5c N (xhg kX) n :=
 itE rfl fun m=>by kernel_rfl
noncomputable def wsi (N:Nat):Ex→St→Option Z0:=(blockK 0 (sqK A_V7 N 13 500006 Tryz.f118 [1,1] V7_z))
noncomputable def xhh (N:Nat) (st':St):Option Z0:=rn A_V7 N Tryz.f118 [1,1] st' V7_z
theorem xm6 (N):wo2 N N (wsi N)=w5b N:=by
 rw[show wo2 N N (wsi N)=wo2 N N (xhf (xhh N) fun j=>(wsi N) (.exit j)) from(by funext _ _ _;exact jlo),xfx,show xhg (xhh N)=wlk by kernel_rfl];rfl
theorem run_V7 (N x):runF A_V7 N Tryz.f118 S_V7 x=V7 N x.1 x.2.1:=(show _=(V7_s (wo2 N N (wsi N)) x.1 x.2.1) by kernel_rfl).trans (by rw[xm6 N];rfl)
theorem ok_V7:OK 118 S_V7:=gdR (A:=A_V7) tc Tryz.func118 (jes ⟨ok_V6,trivial⟩) (run_V7 big)
def wpc (rec:Y4→Int→(List Bool)→Int→Option Z0) (k:Option Z0) (a0:Y4) (a1:Int) (a5:(List Bool)) (a6:Int):Option Z0 :=
  cond (decide (a6<a1))
  ((atI a0 a6).bind fun xq4 =>
  (atI a5 xq4).bind fun _ =>
  (a5[xq4.toNat]?).bind fun xq5 =>
  cond xq5
  (some (false,(())))
  ((atI a0 a6).bind fun xq6 =>
  (atI a5 xq6).bind fun _ =>
  (a5[xq6.toNat]?).bind fun xq7 =>
  rec a0 a1 (a5.set xq6.toNat true) (IntKind.i64.wrap (a6+1))))
  (k)
def wll:Option Z0 :=
  some (true,(()))
def V8_s (L5:Y4→Int→(List Bool)→Int→Option Z0) (l_0:Y4) (n_1:Int):Option Z0 :=
  cond (decide ((l_0.length:Int)≠n_1))
  (some (false,(())))
  ((V7 big n_1 l_0).bind fun rq1 =>
  cond (!rq1.1)
  (some (false,(())))
  ((mkI false n_1).bind fun xq2=>(mkI false n_1).bind fun xq3=>cond (decide (n_1≤n_1))
  (L5 l_0 n_1 xq3 0)
  none))
def w5l (N:Nat) (k:Option Z0):=itN (fun r=>wpc r k) fun _ _ _ _=>none
def w5k (N:Nat):=w5l N (wll) N
def V8 (N:Nat) (l_0:Y4) (n_1:Int):Option Z0:=V8_s (w5k N) l_0 n_1
def S_V8:Sig:=⟨(.pair Q10 Q22),[0,0],[],.unit,.bool,.i,fun x=>V8 big x.1 x.2.1⟩
def A_V8:Cfg:=mkCfg tab [(118,S_V7)] [(10,([B4,B0]++dr 3 [.as (.sl .bool) O7,B0])),(21,[])]
noncomputable def wpb (N n:Nat) (K:Ex→St→Option Z0) (a0:Y4) (a1:Int) (a5:(List Bool)) (a6:Int):Option Z0:=itr A_V8 N 10 Tryz.f92 [1,1,1,0,1,0,0] n (([W4 a0,W0 a1]++ud 3 [.val (.sl .bool) O7 a5,W0 a6])++us 30) K
noncomputable def V8_z:Ex→St→Option Z0:=finish A_V8 S_V8 Tryz.f92.results.toList
noncomputable def xhm (kX:St→Option Z0):Option Z0:=kX ([]++us 37)
noncomputable def xhl (kX:St→Option Z0) (kO:Nat→St→Option Z0):Ex→St→Option Z0:=exK V8_z 0 (A_V8.shape 21) kX kO
theorem xfy (N kX kO):∀n,wpb N n (xhl kX kO)=w5l N (xhm kX) n :=
 itE rfl fun m=>by kernel_rfl
noncomputable def wsm (N:Nat):Ex→St→Option Z0:=(blockK 0 (sqK A_V8 N 21 500010 Tryz.f92 [1,1,1,1] V8_z))
noncomputable def xhn (N:Nat) (st':St):Option Z0:=rn A_V8 N Tryz.f92 [1,1,1,1] st' V8_z
theorem xnc (N):wpb N N (wsm N)=w5k N:=by
 rw[show wpb N N (wsm N)=wpb N N (xhl (xhn N) fun j=>(wsm N) (.exit j)) from(by funext _ _ _ _;exact jlo),xfy,show xhm (xhn N)=wll by kernel_rfl];rfl
theorem run_V8 (N x):runF A_V8 N Tryz.f92 S_V8 x=V8 N x.1 x.2.1:=(show _=(V8_s (wpb N N (wsm N)) x.1 x.2.1) by kernel_rfl).trans (by rw[xnc N];rfl)
theorem ok_V8:OK 92 S_V8:=gdR (A:=A_V8) tc Tryz.func92 (jes ⟨ok_V7,trivial⟩) (run_V8 big)
def wjy (rec:T50) (k:Int→Y2→Y5→Y2→Int→Y4→Z2) (a0:Int) (a4:Y2) (a5:Y5) (a12:Y2) (a13:Int) (a14:Y4) (a15:Int):Z2 :=
  cond (decide (a15<a0))
  ((atI a5 a15).bind fun _ =>
  (a5[a15.toNat]?).bind fun xq33 =>
  (a5[a15.toNat]?).bind fun xq34 =>
  (atI xq34 a13).bind fun _ =>
  (a5[a15.toNat]?).bind fun xq35 =>
  (xq35[a13.toNat]?).bind fun xq36 =>
  cond xq36
  ((appI a14 [a15]).bind fun xq37 =>
  rec a0 a4 a5 a12 a13 xq37 (IntKind.i64.wrap (a15+1)))
  (rec a0 a4 a5 a12 a13 a14 (IntKind.i64.wrap (a15+1))))
  (k a0 a4 a5 a12 a13 a14)
def wf4 (rec:T42) (a0:Int) (a4:Y2) (a5:Y5) (a12:Y2) (a13:Int) (a14:Y4):Z2 :=
  (appI a12.1 [a14]).bind fun xq38 =>
  rec a0 a4 a5 (xq38,((),a12.2).2) (IntKind.i64.wrap (a13+1))
def wjx (rec:T58) (k:T13) (a0:Int) (a4:Y2) (a5:Y5) (a9 a10 a11:Int):Z2 :=
  cond (decide (a11<a0))
  ((atI a5 a10).bind fun _ =>
  (a5[a10.toNat]?).bind fun xq11 =>
  (atI a5 a10).bind fun _ =>
  (a5[a10.toNat]?).bind fun xq12 =>
  (a5[a10.toNat]?).bind fun xq13 =>
  (atI xq13 a11).bind fun _ =>
  (a5[a10.toNat]?).bind fun xq14 =>
  (xq14[a11.toNat]?).bind fun xq15 =>
  cond xq15
  ((a5[a10.toNat]?).bind fun xq16 =>
  (atI xq16 a11).bind fun _ =>
  (a5[a10.toNat]?).bind fun xq17 =>
  (xq17[a11.toNat]?).bind fun xq18 =>
  rec a0 a4 (a5.set a10.toNat (xq17.set a11.toNat true)) a9 a10 (IntKind.i64.wrap (a11+1)))
  ((atI a5 a10).bind fun _ =>
  (a5[a10.toNat]?).bind fun xq19 =>
  (a5[a10.toNat]?).bind fun xq20 =>
  (atI xq20 a9).bind fun _ =>
  (a5[a10.toNat]?).bind fun xq21 =>
  (xq21[a9.toNat]?).bind fun xq22 =>
  cond xq22
  ((atI a5 a9).bind fun _ =>
  (a5[a9.toNat]?).bind fun xq23 =>
  (a5[a9.toNat]?).bind fun xq24 =>
  (atI xq24 a11).bind fun _ =>
  (a5[a9.toNat]?).bind fun xq25 =>
  (xq25[a11.toNat]?).bind fun xq26 =>
  (a5[a10.toNat]?).bind fun xq27 =>
  (atI xq27 a11).bind fun _ =>
  (a5[a10.toNat]?).bind fun xq28 =>
  (xq28[a11.toNat]?).bind fun xq29 =>
  rec a0 a4 (a5.set a10.toNat (xq28.set a11.toNat xq26)) a9 a10 (IntKind.i64.wrap (a11+1)))
  ((a5[a10.toNat]?).bind fun xq30 =>
  (atI xq30 a11).bind fun _ =>
  (a5[a10.toNat]?).bind fun xq31 =>
  (xq31[a11.toNat]?).bind fun xq32 =>
  rec a0 a4 (a5.set a10.toNat (xq31.set a11.toNat false)) a9 a10 (IntKind.i64.wrap (a11+1)))))
  (k a0 a4 a5 a9 a10)
def wf3 (rec:T13) (a0:Int) (a4:Y2) (a5:Y5) (a9 a10:Int):Z2 :=
  rec a0 a4 a5 a9 (IntKind.i64.wrap (a10+1))
def wf7 (L28:T50) (k:T21) (a0:Int) (a4:Y2) (a5:Y5) (a12:Y2) (a13:Int):Z2 :=
  cond (decide (a13<a0))
  (L28 a0 a4 a5 a12 a13 [] 0)
  (k a4 a12)
def zd (a4 a12:Y2):Z2 :=
  some (a12,(()))
def wf6 (L19:T58) (k:T14) (a0:Int) (a4:Y2) (a5:Y5) (a9 a10:Int):Z2 :=
  cond (decide (a10<a0))
  (L19 a0 a4 a5 a9 a10 0)
  (k a0 a4 a5 a9)
def zb (rec:T14) (a0:Int) (a4:Y2) (a5:Y5) (a9:Int):Z2 :=
  rec a0 a4 a5 (IntKind.i64.wrap (a9+1))
def wf5 (L16:T13) (k:T86) (a0:Int) (a4:Y2) (a5:Y5) (a9:Int):Z2 :=
  cond (decide (a9<a0))
  (L16 a0 a4 a5 a9 0)
  (k a0 a4 a5)
def za (L24:T42) (a0:Int) (a4:Y2) (a5:Y5):Z2 :=
  L24 a0 a4 a5 ([],()) 0
def wpy (rec:T15) (k:T86) (a0:Int) (a1:Z16) (a4:Y2) (a5:Y5) (a8:Int):Z2 :=
  cond (decide (a8<(a1.length:Int)))
  ((atI a1 a8).bind fun xq5 =>
  (atI a5 xq5.1).bind fun _ =>
  (a5[xq5.1.toNat]?).bind fun xq6 =>
  (atI a1 a8).bind fun xq7 =>
  (a5[xq5.1.toNat]?).bind fun xq8 =>
  (atI xq8 xq7.2.1).bind fun _ =>
  (a5[xq5.1.toNat]?).bind fun xq9 =>
  (xq9[xq7.2.1.toNat]?).bind fun xq10 =>
  rec a0 a1 a4 (a5.set xq5.1.toNat (xq9.set xq7.2.1.toNat true)) (IntKind.i64.wrap (a8+1)))
  (k a0 a4 a5)
def wlo (L13:T14) (a0:Int) (a4:Y2) (a5:Y5):Z2 :=
  L13 a0 a4 a5 0
def wpx (rec:T15) (k:Int→Z16→Y2→Y5→Z2) (a0:Int) (a1:Z16) (a4:Y2) (a5:Y5) (a6:Int):Z2 :=
  cond (decide (a6<a0))
  ((mkI false a0).bind fun xq1=>(mkI false a0).bind fun xq2=>cond (decide (a0≤a0))
  ((atI xq2 a6).bind fun _ =>
  (xq2[a6.toNat]?).bind fun xq3 =>
  (appI a5 [xq2.set a6.toNat true]).bind fun xq4 =>
  rec a0 a1 a4 xq4 (IntKind.i64.wrap (a6+1)))
  none)
  (k a0 a1 a4 a5)
def wln (L9:T15) (a0:Int) (a1:Z16) (a4:Y2) (a5:Y5):Z2 :=
  L9 a0 a1 a4 a5 0
def V9_s (L3:T15) (n_0:Int) (pairs_1:Z16):Z2 :=
  L3 n_0 pairs_1 (([]:Y3),()) [] 0
def wxe (N:Nat) (k:T13):=itN (fun r=>wjx r k) fun _ _ _ _ _ _=>none
def wjt (N:Nat) (rec:T13) (k:T14):=wxe N (wf3 rec) N
def wxd (N:Nat) (k:T14):=itN (fun r=>wf6 (wjt N r k) k) fun _ _ _ _ _=>none
def wjs (N:Nat) (rec:T14) (k:T86):=wxd N (zb rec) N
def wxg (N:Nat) (k:Int→Y2→Y5→Y2→Int→Y4→Z2):=itN (fun r=>wjy r k) fun _ _ _ _ _ _ _=>none
def wju (N:Nat) (rec:T42) (k:T21):=wxg N (wf4 rec) N
def w5r (N:Nat) (k:Int→Z16→Y2→Y5→Z2):=itN (fun r=>wpx r k) fun _ _ _ _ _=>none
def w5s (N:Nat) (k:T86):=itN (fun r=>wpy r k) fun _ _ _ _ _=>none
def wxc (N:Nat) (k:T86):=itN (fun r=>wf5 (wjs N r k) k) fun _ _ _ _=>none
def wxf (N:Nat) (k:T21):=itN (fun r=>wf7 (wju N r k) k) fun _ _ _ _ _=>none
def xo (N:Nat):=wxf N (zd) N
def wbr (N:Nat):=wxc N (za (xo N)) N
def wlm (N:Nat):=w5s N (wlo (wbr N)) N
def w5q (N:Nat):=w5r N (wln (wlm N)) N
def V9 (N:Nat) (n_0:Int) (pairs_1:Z16):Z2:=V9_s (w5q N) n_0 pairs_1
def S_V9:Sig:=⟨(.pair I (.pair Q21 .unit)),[0,0],[],.unit,Q0,(.p O14 .i),fun x=>V9 big x.1 x.2.1⟩
def A_V9:Cfg:=mkCfg tab [] [(6,[B0,.as Q21 .i,D0,D0,B2,B5,B0]),(17,[B0,.as Q21 .i,D0,D0,B2,B5]),(18,[B0,.as Q21 .i,D0,D0,B2,B5,D0,D0,B0]),(25,([B0]++dr 3 [B2,B5])),(26,([B0]++dr 3 ([B2,B5]++dr 3 [B0]))),(32,([B0]++dr 3 ([B2,B5]++dr 3 [B0,B0]))),(45,([B0]++dr 3 [B2,B5])),(48,([B0]++dr 3 ([B2,B5]++dr 6 [B2,B0]))),(38,([B0]++dr 3 ([B2,B5]++dr 3 [B0,B0,B0]))),(29,([B0]++dr 3 ([B2,B5]++dr 3 [B0]))),(56,([B0]++dr 3 ([B2,B5]++dr 6 [B2,B0,B1,B0]))),(67,(dr 4 ([B2]++dr 7 [B2]))),(35,([B0]++dr 3 ([B2,B5]++dr 3 [B0,B0]))),(65,([B0]++dr 3 ([B2,B5]++dr 6 [B2,B0,B1])))]
noncomputable def wps (N n:Nat) (K:T27) (a0:Int) (a1:Z16) (a4:Y2) (a5:Y5) (a6:Int):Z2:=itr A_V9 N 6 Tryz.f94 [1,1,0,1,0,0] n ([W0 a0,.val Q21 .i a1,.u,.u,W2 a4,W5 a5,W0 a6]++us 121) K
noncomputable def wpt (N n:Nat) (K:T27) (a0:Int) (a1:Z16) (a4:Y2) (a5:Y5) (a8:Int):Z2:=itr A_V9 N 18 Tryz.f94 [1,1,1,0,1,0,0] n ([W0 a0,.val Q21 .i a1,.u,.u,W2 a4,W5 a5,.u,.u,W0 a8]++us 119) K
noncomputable def wbs (N n:Nat) (K:T27) (a0:Int) (a4:Y2) (a5:Y5) (a9:Int):Z2:=itr A_V9 N 26 Tryz.f94 [1,1,1,1,0,1,0,0] n (([W0 a0]++ud 3 ([W2 a4,W5 a5]++ud 3 [W0 a9]))++us 118) K
noncomputable def wbt (N n:Nat) (K:T27) (a0:Int) (a4:Y2) (a5:Y5) (a9 a10:Int):Z2:=itr A_V9 N 32 Tryz.f94 [1,1,1,1,0,1,0,0,1,0,0,1,0,0] n (([W0 a0]++ud 3 ([W2 a4,W5 a5]++ud 3 [W0 a9,W0 a10]))++us 117) K
noncomputable def wbu (N n:Nat) (K:T27) (a0:Int) (a4:Y2) (a5:Y5) (a12:Y2) (a13:Int):Z2:=itr A_V9 N 48 Tryz.f94 [1,1,1,1,1,1,0,1,0,0] n (([W0 a0]++ud 3 ([W2 a4,W5 a5]++ud 6 [W2 a12,W0 a13]))++us 114) K
noncomputable def wjv (N n:Nat) (K:T27) (a0:Int) (a4:Y2) (a5:Y5) (a9 a10 a11:Int):Z2:=itr A_V9 N 38 Tryz.f94 [1,1,1,1,0,1,0,0,1,0,0,1,0,0,1,0,0,1,0,0] n (([W0 a0]++ud 3 ([W2 a4,W5 a5]++ud 3 [W0 a9,W0 a10,W0 a11]))++us 116) K
noncomputable def wjw (N n:Nat) (K:T27) (a0:Int) (a4:Y2) (a5:Y5) (a12:Y2) (a13:Int) (a14:Y4) (a15:Int):Z2:=itr A_V9 N 56 Tryz.f94 [1,1,1,1,1,1,0,1,0,0,1,0,0,1,0,1,0,0] n (([W0 a0]++ud 3 ([W2 a4,W5 a5]++ud 6 [W2 a12,W0 a13,W1 a14,W0 a15]))++us 112) K
noncomputable def V9_z:Ex→St→Z2:=finish A_V9 S_V9 Tryz.f94.results.toList
noncomputable def xhx (kX:T1) (a0:Int) (a1:Z16) (a4:Y2) (a5:Y5):Z2:=kX ([W0 a0,.val Q21 .i a1,.u,.u,W2 a4,W5 a5]++us 122)
noncomputable def xhv (kX:T1) (kO:T0):=exK V9_z 0 (A_V9.shape 17) kX kO
noncomputable def xhy (kX:T1) (a0:Int) (a4:Y2) (a5:Y5):Z2:=kX (([W0 a0]++ud 3 [W2 a4,W5 a5])++us 122)
noncomputable def xhw (kX:T1) (kO:T0):=exK V9_z 2 (A_V9.shape 25) kX kO
noncomputable def wpu (kX:T1) (a0:Int) (a4:Y2) (a5:Y5):Z2:=kX (([W0 a0]++ud 3 [W2 a4,W5 a5])++us 122)
noncomputable def wf0 (kX:T1) (kO:T0):=exK V9_z 4 (A_V9.shape 45) kX kO
noncomputable def wpv (kX:T1) (a0:Int) (a4:Y2) (a5:Y5) (a9:Int):Z2:=kX (([W0 a0]++ud 3 ([W2 a4,W5 a5]++ud 3 [W0 a9]))++us 118)
noncomputable def wf1 (kX:T1) (kO:T0):=exK V9_z 6 (A_V9.shape 29) kX kO
noncomputable def wpw (kX:T1) (a4 a12:Y2):Z2:=kX ((ud 4 ([W2 a4]++ud 7 [W2 a12]))++us 115)
noncomputable def wf2 (kX:T1) (kO:T0):=exK V9_z 10 (A_V9.shape 67) kX kO
noncomputable def xdw (kX:T1) (a0:Int) (a4:Y2) (a5:Y5) (a9 a10:Int):Z2:=kX (([W0 a0]++ud 3 ([W2 a4,W5 a5]++ud 3 [W0 a9,W0 a10]))++us 117)
noncomputable def xdu (kX:T1) (kO:T0):=exK V9_z 8 (A_V9.shape 35) kX kO
noncomputable def xdx (kX:T1) (a0:Int) (a4:Y2) (a5:Y5) (a12:Y2) (a13:Int) (a14:Y4):Z2:=kX (([W0 a0]++ud 3 ([W2 a4,W5 a5]++ud 6 [W2 a12,W0 a13,W1 a14]))++us 113)
noncomputable def xdv (kX:T1) (kO:T0):=exK V9_z 12 (A_V9.shape 65) kX kO
theorem xfz (N kX kO):∀n,wps N n (xhv kX kO)=w5r N (xhx kX) n :=
 itE rfl fun m=>by kernel_rfl
noncomputable def wsq (N:Nat):=(blockK 0 (sqK A_V9 N 17 500008 Tryz.f94 [1,1,1] V9_z))
theorem xf0 (N kX kO):∀n,wpt N n (xhw kX kO)=w5s N (xhy kX) n :=
 itE rfl fun m=>by kernel_rfl
noncomputable def wsr (N:Nat):=(blockK 2 (sqK A_V9 N 25 500012 Tryz.f94 [1,1,1,1] V9_z))
theorem xd0 (N kX kO):∀n,wjv N n (xdu kX kO)=wxe N (xdw kX) n :=
 itE rfl fun m=>by kernel_rfl
noncomputable def wpp (N m:Nat) (kX:T1) (kO:T0):=(blockK 8 (blockK 7 (sqK A_V9 N 35 500017 Tryz.f94 [1,1,1,1,0,1,0,0,1,0,0,1,0,0,1,1] (itK A_V9 N 32 Tryz.f94 [1,1,1,1,0,1,0,0,1,0,0,1,0,0] m (wf1 kX kO)))))
noncomputable def xd5 (N m:Nat) (kX:T1) (kO:T0) (st':St):Z2:=rn A_V9 N Tryz.f94 [1,1,1,1,0,1,0,0,1,0,0,1,0,0,1,1] st' (itK A_V9 N 32 Tryz.f94 [1,1,1,1,0,1,0,0,1,0,0,1,0,0] m (wf1 kX kO))
theorem xkz (N m kX kO) {r}(h:wbt N m (wf1 kX kO)=r):wjv N N (wpp N m kX kO)=wjt N r (wpv kX):=by
 rw[show wjv N N (wpp N m kX kO)=wjv N N (xdu (xd5 N m kX kO) fun j=>(wpp N m kX kO) (.exit j)) from(by funext _ _ _ _ _ _;exact jlo),xd0,show xdw (xd5 N m kX kO)=wf3 (wbt N m (wf1 kX kO)) by kernel_rfl,h];rfl
theorem xdz (N kX kO):∀n,wbt N n (wf1 kX kO)=wxd N (wpv kX) n :=
 itE rfl fun m=>(show _=wf6 (wjv N N (wpp N m kX kO)) (wpv kX) by kernel_rfl).trans (by rw[xkz N m kX kO rfl]<;>rfl)
noncomputable def wpo (N m:Nat) (kX:T1) (kO:T0):=(blockK 6 (blockK 5 (sqK A_V9 N 29 500014 Tryz.f94 [1,1,1,1,0,1,0,0,1,1] (itK A_V9 N 26 Tryz.f94 [1,1,1,1,0,1,0,0] m (wf0 kX kO)))))
noncomputable def xd4 (N m:Nat) (kX:T1) (kO:T0) (st':St):Z2:=rn A_V9 N Tryz.f94 [1,1,1,1,0,1,0,0,1,1] st' (itK A_V9 N 26 Tryz.f94 [1,1,1,1,0,1,0,0] m (wf0 kX kO))
theorem xky (N m kX kO) {r}(h:wbs N m (wf0 kX kO)=r):wbt N N (wpo N m kX kO)=wjs N r (wpu kX):=by
 rw[show wbt N N (wpo N m kX kO)=wbt N N (wf1 (xd4 N m kX kO) fun j=>(wpo N m kX kO) (.exit j)) from(by funext _ _ _ _ _;exact jlo),xdz,show wpv (xd4 N m kX kO)=zb (wbs N m (wf0 kX kO)) by kernel_rfl,h];rfl
theorem xdy (N kX kO):∀n,wbs N n (wf0 kX kO)=wxc N (wpu kX) n :=
 itE rfl fun m=>(show _=wf5 (wbt N N (wpo N m kX kO)) (wpu kX) by kernel_rfl).trans (by rw[xky N m kX kO rfl]<;>rfl)
noncomputable def wpn (N:Nat):=(blockK 4 (sqK A_V9 N 45 500022 Tryz.f94 [1,1,1,1,1] V9_z))
theorem xd2 (N kX kO):∀n,wjw N n (xdv kX kO)=wxg N (xdx kX) n :=
 itE rfl fun m=>by kernel_rfl
noncomputable def wpr (N m:Nat) (kX:T1) (kO:T0):=(blockK 12 (sqK A_V9 N 65 500032 Tryz.f94 [1,1,1,1,1,1,0,1,0,0,1,0,0,1,1] (blockK 11 (sqK A_V9 N 51 500025 Tryz.f94 [1,1,1,1,1,1,0,1,0,0,1,1] (itK A_V9 N 48 Tryz.f94 [1,1,1,1,1,1,0,1,0,0] m (wf2 kX kO))))))
noncomputable def xd7 (N m:Nat) (kX:T1) (kO:T0) (st':St):Z2:=rn A_V9 N Tryz.f94 [1,1,1,1,1,1,0,1,0,0,1,0,0,1,1] st' (blockK 11 (sqK A_V9 N 51 500025 Tryz.f94 [1,1,1,1,1,1,0,1,0,0,1,1] (itK A_V9 N 48 Tryz.f94 [1,1,1,1,1,1,0,1,0,0] m (wf2 kX kO))))
theorem xk1 (N m kX kO) {r}(h:wbu N m (wf2 kX kO)=r):wjw N N (wpr N m kX kO)=wju N r (wpw kX):=by
 rw[show wjw N N (wpr N m kX kO)=wjw N N (xdv (xd7 N m kX kO) fun j=>(wpr N m kX kO) (.exit j)) from(by funext _ _ _ _ _ _ _;exact jlo),xd2,show xdx (xd7 N m kX kO)=wf4 (wbu N m (wf2 kX kO)) by kernel_rfl,h];rfl
theorem xd1 (N kX kO):∀n,wbu N n (wf2 kX kO)=wxf N (wpw kX) n :=
 itE rfl fun m=>(show _=wf7 (wjw N N (wpr N m kX kO)) (wpw kX) by kernel_rfl).trans (by rw[xk1 N m kX kO rfl]<;>rfl)
noncomputable def wpq (N:Nat):=(blockK 10 (sqK A_V9 N 67 500033 Tryz.f94 [1,1,1,1,1,1,1] V9_z))
noncomputable def xd6 (N:Nat) (st':St):Z2:=rn A_V9 N Tryz.f94 [1,1,1,1,1,1,1] st' V9_z
theorem xk0 (N):wbu N N (wpq N)=xo N:=by
 rw[show wbu N N (wpq N)=wbu N N (wf2 (xd6 N) fun j=>(wpq N) (.exit j)) from(by funext _ _ _ _ _;exact jlo),xd1,show wpw (xd6 N)=zd by kernel_rfl];rfl
noncomputable def xd3 (N:Nat) (st':St):Z2:=rn A_V9 N Tryz.f94 [1,1,1,1,1] st' V9_z
theorem xkx (N):wbs N N (wpn N)=wbr N:=by
 rw[show wbs N N (wpn N)=wbs N N (wf0 (xd3 N) fun j=>(wpn N) (.exit j)) from(by funext _ _ _ _;exact jlo),xdy,show wpu (xd3 N)=za (wbu N N (wpq N)) by kernel_rfl,xk0 N];rfl
noncomputable def xh0 (N:Nat) (st':St):Z2:=rn A_V9 N Tryz.f94 [1,1,1,1] st' V9_z
theorem xnk (N):wpt N N (wsr N)=wlm N:=by
 rw[show wpt N N (wsr N)=wpt N N (xhw (xh0 N) fun j=>(wsr N) (.exit j)) from(by funext _ _ _ _ _;exact jlo),xf0,show xhy (xh0 N)=wlo (wbs N N (wpn N)) by kernel_rfl,xkx N];rfl
noncomputable def xhz (N:Nat) (st':St):Z2:=rn A_V9 N Tryz.f94 [1,1,1] st' V9_z
theorem xnj (N):wps N N (wsq N)=w5q N:=by
 rw[show wps N N (wsq N)=wps N N (xhv (xhz N) fun j=>(wsq N) (.exit j)) from(by funext _ _ _ _ _;exact jlo),xfz,show xhx (xhz N)=wln (wpt N N (wsr N)) by kernel_rfl,xnk N];rfl
theorem run_V9 (N x):runF A_V9 N Tryz.f94 S_V9 x=V9 N x.1 x.2.1:=(show _=(V9_s (wps N N (wsq N)) x.1 x.2.1) by kernel_rfl).trans (by rw[xnj N];rfl)
theorem ok_V9:OK 94 S_V9:=gdR (A:=A_V9) tc Tryz.func94 (jes trivial) (run_V9 big)
def wgy (rec k:T101) (a0:Y4) (a1 a5:Int):Z3 :=
  cond (decide (a5<(a0.length:Int)))
  ((atI a0 a5).bind fun xq1 =>
  cond (decide (xq1<a1))
  (rec a0 a1 (IntKind.i64.wrap (a5+1)))
  (k a0 a1 a5))
  (k a0 a1 a5)
def wap (a0:Y4) (a1 a5:Int):Z3 :=
  cond (decide (a5<(a0.length:Int)))
  ((atI a0 a5).bind fun xq2 =>
  cond (decide (xq2=a1))
  (some (a0,(())))
  ((slI a0 0 a5).bind fun xq3 =>
  (appI [] xq3).bind fun xq4 =>
  (appI xq4 [a1]).bind fun xq5 =>
  (slI a0 a5 a0.length).bind fun xq6 =>
  (appI xq5 xq6).bind fun xq7 =>
  some (xq7,(()))))
  ((slI a0 0 a5).bind fun xq8 =>
  (appI [] xq8).bind fun xq9 =>
  (appI xq9 [a1]).bind fun xq10 =>
  (slI a0 a5 a0.length).bind fun xq11 =>
  (appI xq10 xq11).bind fun xq12 =>
  some (xq12,(())))
def w2n (L2:T101) (l_0:Y4) (n_1:Int):Z3 :=
  L2 l_0 n_1 0
def ws9 (N:Nat) (k:T101):=itN (fun r=>wgy r k) fun _ _ _=>none
def ws8 (N:Nat):=ws9 N (wap) N
def V10 (N:Nat) (l_0:Y4) (n_1:Int):Z3:=w2n (ws8 N) l_0 n_1
def S_V10:Sig:=⟨(.pair Q10 Q22),[0,0],[],.unit,Q10,.i,fun x=>V10 big x.1 x.2.1⟩
def A_V10:Cfg:=mkCfg tab [] [(4,([B4,B0]++dr 3 [B0])),(9,([B4,B0]++dr 3 [B0]))]
noncomputable def wgx (N n:Nat) (K:T31) (a0:Y4) (a1 a5:Int):Z3:=itr A_V10 N 4 Tryz.f128 [1,1,0,0,0] n (([W4 a0,W0 a1]++ud 3 [W0 a5])++us 39) K
noncomputable def w2o:Ex→St→Z3:=finish A_V10 S_V10 Tryz.f128.results.toList
noncomputable def w6j (kX:T18) (a0:Y4) (a1 a5:Int):Z3:=kX (([W4 a0,W0 a1]++ud 3 [W0 a5])++us 39)
noncomputable def w6i (kX:T18) (kO:T19):=exK w2o 0 (A_V10.shape 9) kX kO
theorem w6k (N kX kO):∀n,wgx N n (w6i kX kO)=ws9 N (w6j kX) n :=
 itE rfl fun m=>by kernel_rfl
noncomputable def wmg (N:Nat):=(blockK 0 (sqK A_V10 N 9 500004 Tryz.f128 [1,1,1] w2o))
noncomputable def w6l (N:Nat) (st':St):Z3:=rn A_V10 N Tryz.f128 [1,1,1] st' w2o
theorem xib (N):wgx N N (wmg N)=ws8 N:=by
 rw[show wgx N N (wmg N)=wgx N N (w6i (w6l N) fun j=>(wmg N) (.exit j)) from(by funext _ _ _;exact jlo),w6k,show w6j (w6l N)=wap by kernel_rfl];rfl
theorem run_V10 (N x):runF A_V10 N Tryz.f128 S_V10 x=V10 N x.1 x.2.1:=(show _=(w2n (wgx N N (wmg N)) x.1 x.2.1) by kernel_rfl).trans (by rw[xib N];rfl)
theorem ok_V10:OK 128 S_V10:=gdR (A:=A_V10) tc Tryz.func128 (jes trivial) (run_V10 big)
end Go.Proofs.YtgmapdlhkfajoaaGreat
