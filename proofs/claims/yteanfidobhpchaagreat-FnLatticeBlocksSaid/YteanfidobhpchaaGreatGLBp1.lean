import Derived.Test.YteanfidobhpchaaGreatGxGen
import Derived.Test.YteanfidobhpchaaGreatRows
import Derived.Test.YteanfidobhpchaaGreatChecked
import Derived.KernelRfl
set_option maxRecDepth 100000
set_option linter.unusedVariables false
namespace Go.Proofs.YteanfidobhpchaaGreat
open Go Go.Gx Go.Proofs
abbrev I:=Ty.int .i64
abbrev Q0:Ty:=(.pair (.sl (.sl I)) .unit)
abbrev Q1:Ty:=(.ptr (.pair (.sl (.int .u8)) (.pair I (.pair (.int .u64) .unit))))
abbrev Q2:Ty:=(.pair I (.pair (.sl (.pair I (.pair (.sl I) .unit))) .unit))
abbrev Q3:Ty:=(.pair I (.pair I .unit))
abbrev O4:Fl:=(.o .i)
abbrev O5:Fl:=(.o (.p (.o O4) .i))
abbrev Q6:Ty:=(.sl (.sl .bool))
abbrev Q7:Ty:=(.sl I)
abbrev Q8:Ty:=(.ptr Q0)
abbrev Q9:Ty:=(.pair I (.pair Q7 .unit))
abbrev Q10:Ty:=(.opt (.pair Q6 (.pair (.sl Q7) Q0)))
abbrev O11:Fl:=(.o (.p .i (.p O4 .i)))
abbrev Q12:Ty:=(.sl Q3)
abbrev Q13:Ty:=(.pair (.ptr Q6) (.pair (.ptr I) (.pair (.ptr I) .unit)))
abbrev Q14:Ty:=(.pair Q7 .unit)
abbrev Q15:Ty:=(.sl Q7)
abbrev O16:Fl:=(.o O4)
abbrev Q17:Ty:=(.ptr Q2)
abbrev Q18:Ty:=(.sl (.int .u8))
abbrev Q19:Ty:=(.pair .bool .unit)
abbrev Q20:Ty:=(.pair Q1 .unit)
abbrev Q21:Ty:=(.ptr Q9)
abbrev Q22:Ty:=(.pair Q0 .unit)
abbrev Q23:Ty:=(.sl (.int .i64))
abbrev Q24:Ty:=(.pair I .unit)
abbrev O25:Fl:=(.o (.p .i (.p O11 .i)))
abbrev W0:=V.val I .i
abbrev W1:=V.val Q8 O5
abbrev W2:=V.val Q7 .i
abbrev W3:=V.val Q7 O4
abbrev W4:=V.val Q12 O4
abbrev W5:=V.val Q8 O4
abbrev W6:=V.val .bool .i
abbrev W7:=V.val Q6 O16
abbrev W8:=V.val Q17 O4
abbrev B0:=Sh.as I .i
abbrev B1:=Sh.as Q8 O5
abbrev B2:=Sh.as Q7 .i
abbrev B3:=Sh.as Q7 O4
abbrev B4:=Sh.as Q12 O4
abbrev B5:=Sh.as Q8 O4
abbrev B6:=Sh.as .bool .i
abbrev B7:=Sh.as Q6 O16
abbrev B8:=Sh.as Q17 O4
abbrev D0:=Sh.drop
abbrev Y1:=(Option ((List (List Bool))×((List (List Int))×((List (List Int))×Unit))))
abbrev Y2:=((List (List Int))×Unit)
abbrev Y7:=(Int×((List (Int×((List Int)×Unit)))×Unit))
abbrev Y6:=(Int×((List Int)×Unit))
abbrev Y3:=(List (List Int))
abbrev Y4:=(List Int)
abbrev Y5:=(List (List Bool))
abbrev Z0:=(Int×(Int×Unit))
abbrev Z1:=Option (Bool×Unit)
abbrev Z2:=Option (((List Z0)×(Bool×Unit))×Unit)
abbrev Z3:=Option (Y2×Unit)
abbrev Z4:=Option (Int×Unit)
abbrev Z5:=Option (Y4×Unit)
abbrev Z6:=Option (Y2×((Y4×Z0)×Unit))
abbrev Z7:=Option (Bool×(Y4×Unit))
abbrev Z8:=(List Z0)
abbrev Z9:=Option ((Y3×(Bool×Unit))×Unit)
abbrev Z10:=Option ((Y5×(Bool×Unit))×Unit)
abbrev Z11:=Option (Z8×Unit)
abbrev Z12:=Option (Y4×((Y4×Z0)×Unit))
abbrev Z13:=Option (Y5×Unit)
abbrev Z14:=(Y4×Z0)
abbrev Z15:=Option (Y7×Unit)
abbrev Z16:=(List (Z0×Bool))
abbrev T0:=Y4→Y7→Bool→Bool→Y6→Int→Int→(List Y6)→Int→Int→Z7
abbrev T1:=Nat→St→Z1
abbrev T2:=Y4→Y7→Bool→Bool→(List Y6)→Int→Int→Z7
abbrev T3:=St→Z1
abbrev T4:=Nat→St→Z3
abbrev T5:=Ex→St→Z1
abbrev T6:=Y4→Y7→Bool→Bool→Y6→Int→Int→(List Y6)→Int→Int→Y4→Int→Int→Z7
abbrev T7:=Y2→Y7→Int→Y2→Y6→Y6→Int→Z15
abbrev T8:=Int→Y5→Int→Y3→Int→Int→Y4→Int→Bool→Bool→Y4→Int→Int→Z10
abbrev T9:=Y5→Int→Int→Int→Int→Int→Z1
abbrev T10:=Y4→Y4→Int→Z1
abbrev T11:=St→Z3
abbrev T12:=Nat→Prop
abbrev T13:=Y4→Y2→Y4→Z8→Z8→Int→Z1
abbrev T14:=Y2→Y2→Y2→Y2→Int→Int→Int→Y4→Int→Z3
abbrev T15:=Int→Y2→Y5→Int→Int→Z3
abbrev T16:=Int→Y2→Y5→Int→Z3
abbrev T17:=Z14→Y2→Int→Z8→Int→Z6
abbrev T18:=(Y5×Z0)→Y4→Int→Int→Z5
abbrev T19:=Y1→Int→Y4→Int→Int→Z4
abbrev T20:=Y5→Y4→Int→Bool→Y4→Int→Int→Y4→Int→Int→Z4
abbrev T21:=Int→Z8→Y2→Y5→Int→Z3
abbrev T22:=Y4→Y7→Y4→Int→Int→Z5
abbrev T23:=Y4→Y7→Y4→Int→Z5
abbrev T24:=Y4→Y7→Bool→Bool→Z7
abbrev T25:=Nat→Y4→Prop
abbrev T26:=Y2→Int→Int→Z1
abbrev T27:=Y5→Int→Int→Int→Int→Int→Int→Int→Int→Z1
abbrev T28:=Y2→Y2→Y2→Y2→Int→Int→Z3
abbrev T29:=Nat→St→Z4
abbrev T30:=Y5→Y5→Int→Int→Z13
abbrev T31:=Y1→Int→Int→Int→Z4
abbrev T32:=Y5→Z8→Int→Int→Z11
abbrev T33:=Y1→Z16→Z8→Int→Z2
abbrev T34:=Nat→St→Z5
abbrev T35:=Int→Int→Z8→Bool→Bool→Int→Z1
abbrev T36:=St→Z4
abbrev T37:=Y5→Y3→Int→Y4→Int→Int→Int→Int→Z9
abbrev T38:=Y5→Int→Int→Z1
abbrev T39:=Y2→Y7→Int→Y2→Y6→Y6→Int→Int→Z15
abbrev T40:=Int→Y5→Y3→Int→Int→Z10
abbrev T41:=Y4→Int→Int→Y4→Int→Z5
abbrev T42:=Y4→Y2→Y4→Z8→Z8→Int→Z8→Int→Z1
abbrev T43:=Int→Y2→Y5→Y2→Int→Z3
abbrev T44:=St→Z5
abbrev T45:=Y5→Y4→Y4→Int→Int→Z4
abbrev T46:=Y5→Y5→Int→Int→Int→Int→Int→Z13
abbrev T47:=Y5→Z8→Int→Int→Int→Int→Int→Z11
abbrev T48:=Y1→Z16→Z8→Int→Z8→Int→Int→Z2
abbrev T49:=Int→Y2→Y5→Y2→Int→Y4→Int→Z3
abbrev T50:=Z14→Y2→Y2→Int→Y4→Z8→Int→Z6
abbrev T51:=Y4→Y7→Y4→Int→Int→Y4→Int→Z5
abbrev T52:=Nat→Z8→Prop
abbrev T53:=Ex→St→Z3
abbrev T54:=Y4→Y2→Y4→Z8→Z8→Y3→Int→Z1
abbrev T55:=Int→Y4→Int→Z1
abbrev T56:=Y2→Z8→Int→Z11
abbrev T57:=Int→Y2→Y5→Int→Int→Int→Z3
abbrev T58:=Z14→Y2→Int→Z8→Z6
abbrev T59:=Z14→Y2→Int→Z8→Int→Int→Z6
abbrev T60:=Y4→Y2→Y4→Int→Bool→Int→Z4
abbrev T61:=Ex→St→Z4
abbrev T62:=Y2→Y2→Int→Z1
abbrev T63:=Y5→Y3→Int→Int→Z9
abbrev T64:=Nat→Y5→Prop
abbrev T65:=Z14→Y2→Int→Z8→Y4→Int→Z6
abbrev T66:=Nat→St→Z7
abbrev T67:=Y2→Y2→Y2→Int→Z3
abbrev T68:=Y4→Y2→Y4→Int→Z4
abbrev T69:=Y2→Y2→Y2→Int→Y4→Int→Z3
abbrev T70:=Y2→Y2→Y2→Y2→Int→Int→Int→Y4→Z3
abbrev T71:=Y2→Y2→Z3
abbrev T72:=Ex→St→Z5
abbrev T73:=Y4→Int→(List Bool)→Int→Z1
abbrev T74:=Y4→Int→Int→Int→Int→Z7
abbrev T75:=Y5→Int→Int→Int→Int→Z1
abbrev T76:=Y2→Y2→Y2→Y2→Int→Int→Int→Z3
abbrev T77:=Y4→Z5
abbrev T78:=Int→Y4→Y7→Int→Int→Z4
abbrev T79:=Z16→Z8→Z8→Int→Int→Z2
abbrev T80:=Y1→Z8→Y3→Int→Int→Z2
abbrev T81:=Y4→Z8→Z8→Int→Int→Z2
abbrev T82:=Y2→Y2→Y2→Y2→Int→Int→Int→Y4→Int→Int→Z3
abbrev T83:=Nat→St→Z2
abbrev T84:=Int→Y5→Y3→Int→Int→Y4→Int→Bool→Bool→Z10
abbrev T85:=Int→Y2→Y5→Z3
abbrev T86:=Nat→St→Z11
abbrev T87:=St→Z7
abbrev T88:=St→Z2
abbrev T89:=Z14→Int→Y4→Int→Z12
abbrev T90:=Int→Y5→Int→Int→Z13
abbrev T91:=Int→Int→Y2→Int→Z1
abbrev T92:=Y2→Z8→Int→Int→Z11
abbrev T93:=Y2→Int→Int→Int→Z1
abbrev T94:=Y2→Y2→Int→Int→Z1
abbrev T95:=Y7→Int→Y6→Y6→Z15
abbrev T96:=Y4→Y4→Int→Int→Z1
abbrev T97:=Y4→Int→Int→Z5
abbrev T98:=Y2→Z8→Y3→Int→Z2
abbrev T99:=Y4→Z8→Z8→Int→Z2
abbrev T100:=Z14→Y2→Y2→Z6
abbrev T101:=St→Z11
abbrev T102:=Int→Z4
abbrev T103:=Nat→Int→Prop
abbrev T104:=Nat→St→Z6
abbrev T105:=Y5→Y4→Int→Bool→Y4→Int→Int→Z4
abbrev T106:=Ex→St→Z2
abbrev T107:=St→Z6
abbrev T108:=Y4→Int→Int→Z1
abbrev T109:=Int→Y6→Int→Z1
abbrev T110:=Int→Y4→Int→Z5
abbrev T111:=Y4→Int→Int→Z4
abbrev T112:=Int→Int→Y4→Int→Z5
abbrev T113:=Y2→Y4→Int→Z4
abbrev T114:=Y4→Y7→Int→Z5
abbrev T115:=Y4→Y4→Int→Z5
abbrev T116:=Nat→St→Z13
def tab:Tab:={ es:=[(22,(.int .u8),.i),(24,Q7,O4),(27,I,.i),(30,Q3,.i),(48,Q9,(.p .i (.p O4 .i))),(61,(.sl .bool),O4),(62,(.sl .bool),O4),(65,.bool,.i)],ts:=[(3,I,.i),(4,.bool,.i),(5,(.int .u8),.i),(22,Q18,O4),(24,Q15,O16),(26,Q0,(.p O16 .i)),(27,Q7,O4),(30,Q12,O4),(35,Q3,.i),(44,Q10,.i),(48,(.sl Q9),O11),(50,Q2,(.p .i (.p O11 .i))),(61,Q6,O16),(62,Q6,O16),(64,(.pair Q6 (.pair Q15 Q0)),(.p O16 (.p O16 (.p O16 .i)))),(65,(.sl .bool),O4),(72,Q1,(.o (.p O4 .i))),(73,(.int .u64),.i),(75,(.pair Q18 (.pair I (.pair (.int .u64) .unit))),(.p O4 .i)),(83,Q9,(.p .i (.p O4 .i)))],fs:=[(26,[(Q15,O16)]),(50,[(I,.i),((.sl Q9),O11)]),(64,[(Q6,O16),(Q15,O16),(Q15,O16)]),(75,[(Q18,O4),(I,.i),((.int .u64),.i)]),(83,[(I,.i),(Q7,O4)])],ars:=[(35,I,.i,2)],ms:=[(70,Q3,.bool)] }
theorem tabOk:tab.chk Tryz.prog=true:=by kernel_rfl
theorem tc {a b}:CfgOk Tryz.prog (mkCfg tab a b):=ur tabOk
abbrev OK (i:FuncId) (S:Sig):Prop:=FnOk Tryz.prog i∧Gx.Good Tryz.prog i S
def V0_s (code_0:Y4):Z1 :=
  some (decide (65536<(code_0.length:Int)),(()))
def V0 (code_0:Y4):Z1:=V0_s code_0
def S_V0:Sig:=⟨(.pair Q18 .unit),[0],[],.unit,.bool,.i,fun x=>V0 x.1⟩
def A_V0:Cfg:=mkCfg tab [] []
theorem run_V0 (N x):runF A_V0 N Tryz.f4 S_V0 x=V0 x.1:=by kernel_rfl
theorem ok_V0:OK 4 S_V0:=gdR (A:=A_V0) tc Tryz.func4 (jeb trivial) (run_V0 big)
def V1_s (c_0:Z14):Option (Int×(Z14×Unit)) :=
  cond (decide (c_0.2.1<(c_0.1.length:Int)))
  ((atI c_0.1 c_0.2.1).bind fun xq1 =>
  cond (decide (((((c_0.1,(IntKind.i64.wrap (c_0.2.1+1),c_0.2.2)).1,(((c_0.1,(IntKind.i64.wrap (c_0.2.1+1),c_0.2.2)).2).1,(IntKind.u64.wrap ((IntKind.u64.wrap ((IntKind.u64.wrap (((((c_0.1,(IntKind.i64.wrap (c_0.2.1+1),c_0.2.2)).2).2).1)*6364136223846793005))+(IntKind.u64.wrap (IntKind.i64.wrap xq1))))+550289),(((c_0.1,(IntKind.i64.wrap (c_0.2.1+1),c_0.2.2)).2).2).2))).2).1)≤((((c_0.1,(IntKind.i64.wrap (c_0.2.1+1),c_0.2.2)).1,(((c_0.1,(IntKind.i64.wrap (c_0.2.1+1),c_0.2.2)).2).1,(IntKind.u64.wrap ((IntKind.u64.wrap ((IntKind.u64.wrap (((((c_0.1,(IntKind.i64.wrap (c_0.2.1+1),c_0.2.2)).2).2).1)*6364136223846793005))+(IntKind.u64.wrap (IntKind.i64.wrap xq1))))+550289),(((c_0.1,(IntKind.i64.wrap (c_0.2.1+1),c_0.2.2)).2).2).2))).1).length:Int)))
  (some (IntKind.i64.wrap xq1,(((c_0.1,(IntKind.i64.wrap (c_0.2.1+1),c_0.2.2)).1,(((c_0.1,(IntKind.i64.wrap (c_0.2.1+1),c_0.2.2)).2).1,(IntKind.u64.wrap ((IntKind.u64.wrap ((IntKind.u64.wrap (((((c_0.1,(IntKind.i64.wrap (c_0.2.1+1),c_0.2.2)).2).2).1)*6364136223846793005))+(IntKind.u64.wrap (IntKind.i64.wrap xq1))))+550289),(((c_0.1,(IntKind.i64.wrap (c_0.2.1+1),c_0.2.2)).2).2).2))),())))
  ((shrI IntKind.u64 (((((c_0.1,(IntKind.i64.wrap (c_0.2.1+1),c_0.2.2)).1,(((c_0.1,(IntKind.i64.wrap (c_0.2.1+1),c_0.2.2)).2).1,(IntKind.u64.wrap ((IntKind.u64.wrap ((IntKind.u64.wrap (((((c_0.1,(IntKind.i64.wrap (c_0.2.1+1),c_0.2.2)).2).2).1)*6364136223846793005))+(IntKind.u64.wrap (IntKind.i64.wrap xq1))))+550289),(((c_0.1,(IntKind.i64.wrap (c_0.2.1+1),c_0.2.2)).2).2).2))).2).2).1) 40).bind fun xq2 =>
  some (IntKind.i64.wrap (bitI .and IntKind.u64 xq2 255),(((c_0.1,(IntKind.i64.wrap (c_0.2.1+1),c_0.2.2)).1,(((c_0.1,(IntKind.i64.wrap (c_0.2.1+1),c_0.2.2)).2).1,(IntKind.u64.wrap ((IntKind.u64.wrap ((IntKind.u64.wrap (((((c_0.1,(IntKind.i64.wrap (c_0.2.1+1),c_0.2.2)).2).2).1)*6364136223846793005))+(IntKind.u64.wrap (IntKind.i64.wrap xq1))))+550289),(((c_0.1,(IntKind.i64.wrap (c_0.2.1+1),c_0.2.2)).2).2).2))),()))))
  (cond (decide (((((c_0.1,(IntKind.i64.wrap (c_0.2.1+1),c_0.2.2)).1,(((c_0.1,(IntKind.i64.wrap (c_0.2.1+1),c_0.2.2)).2).1,(IntKind.u64.wrap ((IntKind.u64.wrap ((IntKind.u64.wrap (((((c_0.1,(IntKind.i64.wrap (c_0.2.1+1),c_0.2.2)).2).2).1)*6364136223846793005))+(IntKind.u64.wrap 0)))+550289),(((c_0.1,(IntKind.i64.wrap (c_0.2.1+1),c_0.2.2)).2).2).2))).2).1)≤((((c_0.1,(IntKind.i64.wrap (c_0.2.1+1),c_0.2.2)).1,(((c_0.1,(IntKind.i64.wrap (c_0.2.1+1),c_0.2.2)).2).1,(IntKind.u64.wrap ((IntKind.u64.wrap ((IntKind.u64.wrap (((((c_0.1,(IntKind.i64.wrap (c_0.2.1+1),c_0.2.2)).2).2).1)*6364136223846793005))+(IntKind.u64.wrap 0)))+550289),(((c_0.1,(IntKind.i64.wrap (c_0.2.1+1),c_0.2.2)).2).2).2))).1).length:Int)))
  (some (0,(((c_0.1,(IntKind.i64.wrap (c_0.2.1+1),c_0.2.2)).1,(((c_0.1,(IntKind.i64.wrap (c_0.2.1+1),c_0.2.2)).2).1,(IntKind.u64.wrap ((IntKind.u64.wrap ((IntKind.u64.wrap (((((c_0.1,(IntKind.i64.wrap (c_0.2.1+1),c_0.2.2)).2).2).1)*6364136223846793005))+(IntKind.u64.wrap 0)))+550289),(((c_0.1,(IntKind.i64.wrap (c_0.2.1+1),c_0.2.2)).2).2).2))),())))
  ((shrI IntKind.u64 (((((c_0.1,(IntKind.i64.wrap (c_0.2.1+1),c_0.2.2)).1,(((c_0.1,(IntKind.i64.wrap (c_0.2.1+1),c_0.2.2)).2).1,(IntKind.u64.wrap ((IntKind.u64.wrap ((IntKind.u64.wrap (((((c_0.1,(IntKind.i64.wrap (c_0.2.1+1),c_0.2.2)).2).2).1)*6364136223846793005))+(IntKind.u64.wrap 0)))+550289),(((c_0.1,(IntKind.i64.wrap (c_0.2.1+1),c_0.2.2)).2).2).2))).2).2).1) 40).bind fun xq3 =>
  some (IntKind.i64.wrap (bitI .and IntKind.u64 xq3 255),(((c_0.1,(IntKind.i64.wrap (c_0.2.1+1),c_0.2.2)).1,(((c_0.1,(IntKind.i64.wrap (c_0.2.1+1),c_0.2.2)).2).1,(IntKind.u64.wrap ((IntKind.u64.wrap ((IntKind.u64.wrap (((((c_0.1,(IntKind.i64.wrap (c_0.2.1+1),c_0.2.2)).2).2).1)*6364136223846793005))+(IntKind.u64.wrap 0)))+550289),(((c_0.1,(IntKind.i64.wrap (c_0.2.1+1),c_0.2.2)).2).2).2))),()))))
def V1 (c_0:Z14):Option (Int×(Z14×Unit)):=V1_s c_0
def S_V1:Sig:=⟨Q20,[1],[O4],Q20,I,.i,fun x=>V1 x.1⟩
def A_V1:Cfg:=mkCfg tab [] []
theorem run_V1 (N x):runF A_V1 N Tryz.f94 S_V1 x=V1 x.1:=by kernel_rfl
theorem ok_V1:OK 94 S_V1:=gdR (A:=A_V1) tc Tryz.func94 (jeb trivial) (run_V1 big)
def V2_s (c_0:Z14) (n_1:Int):Option (Int×(Z14×Unit)) :=
  cond (decide (n_1≤1))
  (some (0,(c_0,())))
  ((V1 c_0).bind fun rq1 =>
  cond (decide (200<n_1))
  ((V1 rq1.2.1).bind fun rq2 =>
  (remI (IntKind.i64.wrap ((IntKind.i64.wrap (rq1.1*256))+rq2.1)) n_1).bind fun xq3 =>
  some (xq3,(rq2.2.1,())))
  ((remI rq1.1 n_1).bind fun xq4 =>
  some (xq4,(rq1.2.1,()))))
def V2 (c_0:Z14) (n_1:Int):Option (Int×(Z14×Unit)):=V2_s c_0 n_1
def S_V2:Sig:=⟨(.pair Q1 Q24),[1,0],[O4],Q20,I,.i,fun x=>V2 x.1 x.2.1⟩
def A_V2:Cfg:=mkCfg tab [(94,S_V1)] []
theorem run_V2 (N x):runF A_V2 N Tryz.f66 S_V2 x=V2 x.1 x.2.1:=by kernel_rfl
theorem ok_V2:OK 66 S_V2:=gdR (A:=A_V2) tc Tryz.func66 (jeb ⟨ok_V1,trivial⟩) (run_V2 big)
def V3_s (c_0:Z14) (n_1:Int):Option (Bool×(Z14×Unit)) :=
  (V2 c_0 n_1).bind fun rq1 =>
  some (decide (rq1.1=0),(rq1.2.1,()))
def V3 (c_0:Z14) (n_1:Int):Option (Bool×(Z14×Unit)):=V3_s c_0 n_1
def S_V3:Sig:=⟨(.pair Q1 Q24),[1,0],[O4],Q20,.bool,.i,fun x=>V3 x.1 x.2.1⟩
def A_V3:Cfg:=mkCfg tab [(66,S_V2)] []
theorem run_V3 (N x):runF A_V3 N Tryz.f63 S_V3 x=V3 x.1 x.2.1:=by kernel_rfl
theorem ok_V3:OK 63 S_V3:=gdR (A:=A_V3) tc Tryz.func63 (jeb ⟨ok_V2,trivial⟩) (run_V3 big)
def V4_s (c_0:Z14) (list_1:Y4):Option (Int×(Z14×Unit)) :=
  (V2 c_0 (list_1.length:Int)).bind fun rq1 =>
  (atI list_1 rq1.1).bind fun xq2 =>
  some (xq2,(rq1.2.1,()))
def V4 (c_0:Z14) (list_1:Y4):Option (Int×(Z14×Unit)):=V4_s c_0 list_1
def S_V4:Sig:=⟨(.pair Q1 Q14),[1,0],[O4],Q20,I,.i,fun x=>V4 x.1 x.2.1⟩
def A_V4:Cfg:=mkCfg tab [(66,S_V2)] []
theorem run_V4 (N x):runF A_V4 N Tryz.f91 S_V4 x=V4 x.1 x.2.1:=by kernel_rfl
theorem ok_V4:OK 91 S_V4:=gdR (A:=A_V4) tc Tryz.func91 (jeb ⟨ok_V2,trivial⟩) (run_V4 big)
def wmj (rec:T89) (k:Z14→Int→Y4→Z12) (a0:Z14) (a1:Int) (a5:Y4) (a6:Int):Z12 :=
  cond (decide (a6<a1))
  ((V2 a0 (IntKind.i64.wrap ((a5.length:Int)+1))).bind fun rq1 =>
  (slI a5 0 rq1.1).bind fun xq2 =>
  (appI [] xq2).bind fun xq3 =>
  (appI xq3 [a6]).bind fun xq4 =>
  (slI a5 rq1.1 a5.length).bind fun xq5 =>
  (appI xq4 xq5).bind fun xq6 =>
  rec rq1.2.1 a1 xq6 (IntKind.i64.wrap (a6+1)))
  (k a0 a1 a5)
def wjj (a0:Z14) (a1:Int) (a5:Y4):Z12 :=
  (V2 a0 24).bind fun rq7 =>
  cond (decide (rq7.1=0))
  ((appI a5 [a1]).bind fun xq8 =>
  some (xq8,(rq7.2.1,())))
  (cond (decide (rq7.1=1))
  (cond (decide (0<a1))
  ((V2 rq7.2.1 a1).bind fun rq9 =>
  (V4 rq9.2.1 [0,(-1:Int),a1]).bind fun rq10 =>
  (atI a5 rq9.1).bind fun _ =>
  (a5[rq9.1.toNat]?).bind fun xq11 =>
  some (a5.set rq9.1.toNat rq10.1,(rq10.2.1,())))
  (some (a5,(rq7.2.1,()))))
  (some (a5,(rq7.2.1,()))))
def V5_s (L3:T89) (c_0:Z14) (n_1:Int):Z12 :=
  L3 c_0 n_1 [] 0
def wyy (N:Nat) (k:Z14→Int→Y4→Z12):=itN (fun r=>wmj r k) fun _ _ _ _=>none
def wyx (N:Nat):=wyy N (wjj) N
def V5 (N:Nat) (c_0:Z14) (n_1:Int):Z12:=V5_s (wyx N) c_0 n_1
def S_V5:Sig:=⟨(.pair Q1 Q24),[1,0],[O4],Q20,Q7,O4,fun x=>V5 big x.1 x.2.1⟩
def A_V5:Cfg:=mkCfg tab [(66,S_V2),(91,S_V4)] [(6,([.as Q1 O4,B0]++dr 3 [B3,B0])),(13,([.as Q1 O4,B0]++dr 3 [B2,B0,B0])),(15,([.as Q1 O4,B0]++dr 3 [B3]))]
noncomputable def wmi (N n:Nat) (K:Ex→St→Z12) (a0:Z14) (a1:Int) (a5:Y4) (a6:Int):Z12:=itr A_V5 N 6 Tryz.f67 [1,1,0,1,0,0] n (([.val Q1 O4 a0,W0 a1]++ud 3 [W3 a5,W0 a6])++us 46) K
noncomputable def V5_z:Ex→St→Z12:=finish A_V5 S_V5 Tryz.f67.results.toList
noncomputable def w98 (kX:St→Z12) (a0:Z14) (a1:Int) (a5:Y4):Z12:=kX (([.val Q1 O4 a0,W0 a1]++ud 3 [W3 a5])++us 47)
noncomputable def w97 (kX:St→Z12) (kO:Nat→St→Z12):=exK V5_z 0 (A_V5.shape 15) kX kO
theorem w86 (N kX kO):∀n,wmi N n (w97 kX kO)=wyy N (w98 kX) n :=
 itE rfl fun m=>by kernel_rfl
noncomputable def wp1 (N:Nat):=(blockK 0 (sqK A_V5 N 15 500007 Tryz.f67 [1,1,1] V5_z))
noncomputable def w99 (N:Nat) (st':St):Z12:=rn A_V5 N Tryz.f67 [1,1,1] st' V5_z
theorem xfl (N):wmi N N (wp1 N)=wyx N:=by
 rw[show wmi N N (wp1 N)=wmi N N (w97 (w99 N) fun j=>(wp1 N) (.exit j)) from(by funext _ _ _ _;exact jky),w86,show w98 (w99 N)=wjj by kernel_rfl];rfl
theorem run_V5 (N x):runF A_V5 N Tryz.f67 S_V5 x=V5 N x.1 x.2.1:=(show _=(V5_s (wmi N N (wp1 N)) x.1 x.2.1) by kernel_rfl).trans (by rw[xfl N];rfl)
theorem ok_V5:OK 67 S_V5:=gdR (A:=A_V5) tc Tryz.func67 (jeb ⟨ok_V2,ok_V4,trivial⟩) (run_V5 big)
def V6_s (x_0 a_1 b_2:Int):Z1 :=
  cond (decide (a_1≤x_0))
  (some (decide (x_0≤b_2),(())))
  (some (false,(())))
def V6 (x_0 a_1 b_2:Int):Z1:=V6_s x_0 a_1 b_2
def S_V6:Sig:=⟨(.pair I Q3),[0,0,0],[],.unit,.bool,.i,fun x=>V6 x.1 x.2.1 x.2.2.1⟩
def A_V6:Cfg:=mkCfg tab [] []
theorem run_V6 (N x):runF A_V6 N Tryz.f78 S_V6 x=V6 x.1 x.2.1 x.2.2.1:=by kernel_rfl
theorem ok_V6:OK 78 S_V6:=gdR (A:=A_V6) tc Tryz.func78 (jeb trivial) (run_V6 big)
def wnd (rec:T55) (k:Z1) (a0:Int) (a1:Y4) (a5:Int):Z1 :=
  cond (decide (a5<(a1.length:Int)))
  ((atI a1 a5).bind fun xq1 =>
  (V6 xq1 0 (IntKind.i64.wrap (a0-1))).bind fun rq2 =>
  cond (!rq2.1)
  (some (false,(())))
  (rec a0 a1 (IntKind.i64.wrap (a5+1))))
  (k)
def wjp:Z1 :=
  some (true,(()))
def V7_s (L2:T55) (n_0:Int) (list_1:Y4):Z1 :=
  L2 n_0 list_1 0
def wzo (N:Nat) (k:Z1):=itN (fun r=>wnd r k) fun _ _ _=>none
def wzn (N:Nat):=wzo N (wjp) N
def V7 (N:Nat) (n_0:Int) (list_1:Y4):Z1:=V7_s (wzn N) n_0 list_1
def S_V7:Sig:=⟨Q9,[0,0],[],.unit,.bool,.i,fun x=>V7 big x.1 x.2.1⟩
def A_V7:Cfg:=mkCfg tab [(78,S_V6)] [(4,([B0,B2]++dr 3 [B0])),(13,[])]
noncomputable def wnc (N n:Nat) (K:T5) (a0:Int) (a1:Y4) (a5:Int):Z1:=itr A_V7 N 4 Tryz.f95 [1,0,1,0,0] n (([W0 a0,W2 a1]++ud 3 [W0 a5])++us 14) K
noncomputable def V7_z:Ex→St→Z1:=finish A_V7 S_V7 Tryz.f95.results.toList
noncomputable def xag (kX:T3):Z1:=kX ([]++us 20)
noncomputable def xaf (kX:T3) (kO:T1):=exK V7_z 0 (A_V7.shape 13) kX kO
theorem w89 (N kX kO):∀n,wnc N n (xaf kX kO)=wzo N (xag kX) n :=
 itE rfl fun m=>by kernel_rfl
noncomputable def wp7 (N:Nat):=(blockK 0 (sqK A_V7 N 13 500006 Tryz.f95 [1,1] V7_z))
noncomputable def xah (N:Nat) (st':St):Z1:=rn A_V7 N Tryz.f95 [1,1] st' V7_z
theorem xf4 (N):wnc N N (wp7 N)=wzn N:=by
 rw[show wnc N N (wp7 N)=wnc N N (xaf (xah N) fun j=>(wp7 N) (.exit j)) from(by funext _ _ _;exact jky),w89,show xag (xah N)=wjp by kernel_rfl];rfl
theorem run_V7 (N x):runF A_V7 N Tryz.f95 S_V7 x=V7 N x.1 x.2.1:=(show _=(V7_s (wnc N N (wp7 N)) x.1 x.2.1) by kernel_rfl).trans (by rw[xf4 N];rfl)
theorem ok_V7:OK 95 S_V7:=gdR (A:=A_V7) tc Tryz.func95 (jeb ⟨ok_V6,trivial⟩) (run_V7 big)
def wni (rec:T73) (k:Z1) (a0:Y4) (a1:Int) (a5:(List Bool)) (a6:Int):Z1 :=
  cond (decide (a6<a1))
  ((atI a0 a6).bind fun xq4 =>
  (atI a5 xq4).bind fun _ =>
  (a5[xq4.toNat]?).bind fun xq5 =>
  cond xq5
  (some (false,(())))
  ((atI a0 a6).bind fun xq6 =>
  (atI a5 xq6).bind fun _ =>
  (a5[xq6.toNat]?).bind fun xq7 =>
  rec a0 a1 (a5.set xq6.toNat true) (IntKind.i64.wrap (a6+1))))
  (k)
def wjq:Z1 :=
  some (true,(()))
def V8_s (L5:T73) (l_0:Y4) (n_1:Int):Z1 :=
  cond (decide ((l_0.length:Int)≠n_1))
  (some (false,(())))
  ((V7 big n_1 l_0).bind fun rq1 =>
  cond (!rq1.1)
  (some (false,(())))
  ((mkI false n_1).bind fun xq2=>(mkI false n_1).bind fun xq3=>cond (decide (n_1≤n_1))
  (L5 l_0 n_1 xq3 0)
  none))
def wzw (N:Nat) (k:Z1):=itN (fun r=>wni r k) fun _ _ _ _=>none
def wzv (N:Nat):=wzw N (wjq) N
def V8 (N:Nat) (l_0:Y4) (n_1:Int):Z1:=V8_s (wzv N) l_0 n_1
def S_V8:Sig:=⟨(.pair Q7 Q24),[0,0],[],.unit,.bool,.i,fun x=>V8 big x.1 x.2.1⟩
def A_V8:Cfg:=mkCfg tab [(95,S_V7)] [(10,([B2,B0]++dr 3 [.as (.sl .bool) O4,B0])),(21,[])]
noncomputable def wnh (N n:Nat) (K:T5) (a0:Y4) (a1:Int) (a5:(List Bool)) (a6:Int):Z1:=itr A_V8 N 10 Tryz.f68 [1,1,1,0,1,0,0] n (([W2 a0,W0 a1]++ud 3 [.val (.sl .bool) O4 a5,W0 a6])++us 30) K
noncomputable def V8_z:Ex→St→Z1:=finish A_V8 S_V8 Tryz.f68.results.toList
noncomputable def xaq (kX:T3):Z1:=kX ([]++us 37)
noncomputable def xap (kX:T3) (kO:T1):=exK V8_z 0 (A_V8.shape 21) kX kO
theorem w9a (N kX kO):∀n,wnh N n (xap kX kO)=wzw N (xaq kX) n :=
 itE rfl fun m=>by kernel_rfl
noncomputable def wp8 (N:Nat):=(blockK 0 (sqK A_V8 N 21 500010 Tryz.f68 [1,1,1,1] V8_z))
noncomputable def xar (N:Nat) (st':St):Z1:=rn A_V8 N Tryz.f68 [1,1,1,1] st' V8_z
theorem xf8 (N):wnh N N (wp8 N)=wzv N:=by
 rw[show wnh N N (wp8 N)=wnh N N (xap (xar N) fun j=>(wp8 N) (.exit j)) from(by funext _ _ _ _;exact jky),w9a,show xaq (xar N)=wjq by kernel_rfl];rfl
theorem run_V8 (N x):runF A_V8 N Tryz.f68 S_V8 x=V8 N x.1 x.2.1:=(show _=(V8_s (wnh N N (wp8 N)) x.1 x.2.1) by kernel_rfl).trans (by rw[xf8 N];rfl)
theorem ok_V8:OK 68 S_V8:=gdR (A:=A_V8) tc Tryz.func68 (jeb ⟨ok_V7,trivial⟩) (run_V8 big)
def wiv (rec:T49) (k:Int→Y2→Y5→Y2→Int→Y4→Z3) (a0:Int) (a4:Y2) (a5:Y5) (a12:Y2) (a13:Int) (a14:Y4) (a15:Int):Z3 :=
  cond (decide (a15<a0))
  ((atI a5 a15).bind fun _ =>
  (a5[a15.toNat]?).bind fun xq33 =>
  (a5[a15.toNat]?).bind fun xq34 =>
  (atI xq34 a13).bind fun _ =>
  (a5[a15.toNat]?).bind fun xq35 =>
  (xq35[a13.toNat]?).bind fun xq36 =>
  cond xq36
  ((appI a14 [a15]).bind fun xq37 =>
  rec a0 a4 a5 a12 a13 xq37 (IntKind.i64.wrap (a15+1)))
  (rec a0 a4 a5 a12 a13 a14 (IntKind.i64.wrap (a15+1))))
  (k a0 a4 a5 a12 a13 a14)
def wem (rec:T43) (a0:Int) (a4:Y2) (a5:Y5) (a12:Y2) (a13:Int) (a14:Y4):Z3 :=
  (appI a12.1 [a14]).bind fun xq38 =>
  rec a0 a4 a5 (xq38,((),a12.2).2) (IntKind.i64.wrap (a13+1))
def wiu (rec:T57) (k:T15) (a0:Int) (a4:Y2) (a5:Y5) (a9 a10 a11:Int):Z3 :=
  cond (decide (a11<a0))
  ((atI a5 a10).bind fun _ =>
  (a5[a10.toNat]?).bind fun xq11 =>
  (atI a5 a10).bind fun _ =>
  (a5[a10.toNat]?).bind fun xq12 =>
  (a5[a10.toNat]?).bind fun xq13 =>
  (atI xq13 a11).bind fun _ =>
  (a5[a10.toNat]?).bind fun xq14 =>
  (xq14[a11.toNat]?).bind fun xq15 =>
  cond xq15
  ((a5[a10.toNat]?).bind fun xq16 =>
  (atI xq16 a11).bind fun _ =>
  (a5[a10.toNat]?).bind fun xq17 =>
  (xq17[a11.toNat]?).bind fun xq18 =>
  rec a0 a4 (a5.set a10.toNat (xq17.set a11.toNat true)) a9 a10 (IntKind.i64.wrap (a11+1)))
  ((atI a5 a10).bind fun _ =>
  (a5[a10.toNat]?).bind fun xq19 =>
  (a5[a10.toNat]?).bind fun xq20 =>
  (atI xq20 a9).bind fun _ =>
  (a5[a10.toNat]?).bind fun xq21 =>
  (xq21[a9.toNat]?).bind fun xq22 =>
  cond xq22
  ((atI a5 a9).bind fun _ =>
  (a5[a9.toNat]?).bind fun xq23 =>
  (a5[a9.toNat]?).bind fun xq24 =>
  (atI xq24 a11).bind fun _ =>
  (a5[a9.toNat]?).bind fun xq25 =>
  (xq25[a11.toNat]?).bind fun xq26 =>
  (a5[a10.toNat]?).bind fun xq27 =>
  (atI xq27 a11).bind fun _ =>
  (a5[a10.toNat]?).bind fun xq28 =>
  (xq28[a11.toNat]?).bind fun xq29 =>
  rec a0 a4 (a5.set a10.toNat (xq28.set a11.toNat xq26)) a9 a10 (IntKind.i64.wrap (a11+1)))
  ((a5[a10.toNat]?).bind fun xq30 =>
  (atI xq30 a11).bind fun _ =>
  (a5[a10.toNat]?).bind fun xq31 =>
  (xq31[a11.toNat]?).bind fun xq32 =>
  rec a0 a4 (a5.set a10.toNat (xq31.set a11.toNat false)) a9 a10 (IntKind.i64.wrap (a11+1)))))
  (k a0 a4 a5 a9 a10)
def wel (rec:T15) (a0:Int) (a4:Y2) (a5:Y5) (a9 a10:Int):Z3 :=
  rec a0 a4 a5 a9 (IntKind.i64.wrap (a10+1))
def wep (L28:T49) (k:T71) (a0:Int) (a4:Y2) (a5:Y5) (a12:Y2) (a13:Int):Z3 :=
  cond (decide (a13<a0))
  (L28 a0 a4 a5 a12 a13 [] 0)
  (k a4 a12)
def yw (a4 a12:Y2):Z3 :=
  some (a12,(()))
def weo (L19:T57) (k:T16) (a0:Int) (a4:Y2) (a5:Y5) (a9 a10:Int):Z3 :=
  cond (decide (a10<a0))
  (L19 a0 a4 a5 a9 a10 0)
  (k a0 a4 a5 a9)
def yv (rec:T16) (a0:Int) (a4:Y2) (a5:Y5) (a9:Int):Z3 :=
  rec a0 a4 a5 (IntKind.i64.wrap (a9+1))
def wen (L16:T15) (k:T85) (a0:Int) (a4:Y2) (a5:Y5) (a9:Int):Z3 :=
  cond (decide (a9<a0))
  (L16 a0 a4 a5 a9 0)
  (k a0 a4 a5)
def yu (L24:T43) (a0:Int) (a4:Y2) (a5:Y5):Z3 :=
  L24 a0 a4 a5 ([],()) 0
def wn4 (rec:T21) (k:T85) (a0:Int) (a1:Z8) (a4:Y2) (a5:Y5) (a8:Int):Z3 :=
  cond (decide (a8<(a1.length:Int)))
  ((atI a1 a8).bind fun xq5 =>
  (atI a5 xq5.1).bind fun _ =>
  (a5[xq5.1.toNat]?).bind fun xq6 =>
  (atI a1 a8).bind fun xq7 =>
  (a5[xq5.1.toNat]?).bind fun xq8 =>
  (atI xq8 xq7.2.1).bind fun _ =>
  (a5[xq5.1.toNat]?).bind fun xq9 =>
  (xq9[xq7.2.1.toNat]?).bind fun xq10 =>
  rec a0 a1 a4 (a5.set xq5.1.toNat (xq9.set xq7.2.1.toNat true)) (IntKind.i64.wrap (a8+1)))
  (k a0 a4 a5)
def wjv (L13:T16) (a0:Int) (a4:Y2) (a5:Y5):Z3 :=
  L13 a0 a4 a5 0
def wn3 (rec:T21) (k:Int→Z8→Y2→Y5→Z3) (a0:Int) (a1:Z8) (a4:Y2) (a5:Y5) (a6:Int):Z3 :=
  cond (decide (a6<a0))
  ((mkI false a0).bind fun xq1=>(mkI false a0).bind fun xq2=>cond (decide (a0≤a0))
  ((atI xq2 a6).bind fun _ =>
  (xq2[a6.toNat]?).bind fun xq3 =>
  (appI a5 [xq2.set a6.toNat true]).bind fun xq4 =>
  rec a0 a1 a4 xq4 (IntKind.i64.wrap (a6+1)))
  none)
  (k a0 a1 a4 a5)
def wju (L9:T21) (a0:Int) (a1:Z8) (a4:Y2) (a5:Y5):Z3 :=
  L9 a0 a1 a4 a5 0
def V9_s (L3:T21) (n_0:Int) (pairs_1:Z8):Z3 :=
  L3 n_0 pairs_1 (([]:Y3),()) [] 0
def wt1 (N:Nat) (k:T15):=itN (fun r=>wiu r k) fun _ _ _ _ _ _=>none
def wiq (N:Nat) (rec:T15) (k:T16):=wt1 N (wel rec) N
def wt0 (N:Nat) (k:T16):=itN (fun r=>weo (wiq N r k) k) fun _ _ _ _ _=>none
def wip (N:Nat) (rec:T16) (k:T85):=wt0 N (yv rec) N
def wt3 (N:Nat) (k:Int→Y2→Y5→Y2→Int→Y4→Z3):=itN (fun r=>wiv r k) fun _ _ _ _ _ _ _=>none
def wir (N:Nat) (rec:T43) (k:T71):=wt3 N (wem rec) N
def wz7 (N:Nat) (k:Int→Z8→Y2→Y5→Z3):=itN (fun r=>wn3 r k) fun _ _ _ _ _=>none
def wz8 (N:Nat) (k:T85):=itN (fun r=>wn4 r k) fun _ _ _ _ _=>none
def wtz (N:Nat) (k:T85):=itN (fun r=>wen (wip N r k) k) fun _ _ _ _=>none
def wt2 (N:Nat) (k:T71):=itN (fun r=>wep (wir N r k) k) fun _ _ _ _ _=>none
def xl (N:Nat):=wt2 N (yw) N
def wau (N:Nat):=wtz N (yu (xl N)) N
def wjt (N:Nat):=wz8 N (wjv (wau N)) N
def wz6 (N:Nat):=wz7 N (wju (wjt N)) N
def V9 (N:Nat) (n_0:Int) (pairs_1:Z8):Z3:=V9_s (wz6 N) n_0 pairs_1
def S_V9:Sig:=⟨(.pair I (.pair Q12 .unit)),[0,0],[],.unit,Q0,(.p O16 .i),fun x=>V9 big x.1 x.2.1⟩
def A_V9:Cfg:=mkCfg tab [] [(6,[B0,.as Q12 .i,D0,D0,B1,B7,B0]),(17,[B0,.as Q12 .i,D0,D0,B1,B7]),(18,[B0,.as Q12 .i,D0,D0,B1,B7,D0,D0,B0]),(25,([B0]++dr 3 [B1,B7])),(26,([B0]++dr 3 ([B1,B7]++dr 3 [B0]))),(32,([B0]++dr 3 ([B1,B7]++dr 3 [B0,B0]))),(45,([B0]++dr 3 [B1,B7])),(48,([B0]++dr 3 ([B1,B7]++dr 6 [B1,B0]))),(38,([B0]++dr 3 ([B1,B7]++dr 3 [B0,B0,B0]))),(29,([B0]++dr 3 ([B1,B7]++dr 3 [B0]))),(56,([B0]++dr 3 ([B1,B7]++dr 6 [B1,B0,B3,B0]))),(67,(dr 4 ([B1]++dr 7 [B1]))),(35,([B0]++dr 3 ([B1,B7]++dr 3 [B0,B0]))),(65,([B0]++dr 3 ([B1,B7]++dr 6 [B1,B0,B3])))]
noncomputable def wny (N n:Nat) (K:T53) (a0:Int) (a1:Z8) (a4:Y2) (a5:Y5) (a6:Int):Z3:=itr A_V9 N 6 Tryz.f69 [1,1,0,1,0,0] n ([W0 a0,.val Q12 .i a1,.u,.u,W1 a4,W7 a5,W0 a6]++us 121) K
noncomputable def wnz (N n:Nat) (K:T53) (a0:Int) (a1:Z8) (a4:Y2) (a5:Y5) (a8:Int):Z3:=itr A_V9 N 18 Tryz.f69 [1,1,1,0,1,0,0] n ([W0 a0,.val Q12 .i a1,.u,.u,W1 a4,W7 a5,.u,.u,W0 a8]++us 119) K
noncomputable def wav (N n:Nat) (K:T53) (a0:Int) (a4:Y2) (a5:Y5) (a9:Int):Z3:=itr A_V9 N 26 Tryz.f69 [1,1,1,1,0,1,0,0] n (([W0 a0]++ud 3 ([W1 a4,W7 a5]++ud 3 [W0 a9]))++us 118) K
noncomputable def waw (N n:Nat) (K:T53) (a0:Int) (a4:Y2) (a5:Y5) (a9 a10:Int):Z3:=itr A_V9 N 32 Tryz.f69 [1,1,1,1,0,1,0,0,1,0,0,1,0,0] n (([W0 a0]++ud 3 ([W1 a4,W7 a5]++ud 3 [W0 a9,W0 a10]))++us 117) K
noncomputable def wax (N n:Nat) (K:T53) (a0:Int) (a4:Y2) (a5:Y5) (a12:Y2) (a13:Int):Z3:=itr A_V9 N 48 Tryz.f69 [1,1,1,1,1,1,0,1,0,0] n (([W0 a0]++ud 3 ([W1 a4,W7 a5]++ud 6 [W1 a12,W0 a13]))++us 114) K
noncomputable def wis (N n:Nat) (K:T53) (a0:Int) (a4:Y2) (a5:Y5) (a9 a10 a11:Int):Z3:=itr A_V9 N 38 Tryz.f69 [1,1,1,1,0,1,0,0,1,0,0,1,0,0,1,0,0,1,0,0] n (([W0 a0]++ud 3 ([W1 a4,W7 a5]++ud 3 [W0 a9,W0 a10,W0 a11]))++us 116) K
noncomputable def wit (N n:Nat) (K:T53) (a0:Int) (a4:Y2) (a5:Y5) (a12:Y2) (a13:Int) (a14:Y4) (a15:Int):Z3:=itr A_V9 N 56 Tryz.f69 [1,1,1,1,1,1,0,1,0,0,1,0,0,1,0,1,0,0] n (([W0 a0]++ud 3 ([W1 a4,W7 a5]++ud 6 [W1 a12,W0 a13,W3 a14,W0 a15]))++us 112) K
noncomputable def V9_z:Ex→St→Z3:=finish A_V9 S_V9 Tryz.f69.results.toList
noncomputable def xaz (kX:T11) (a0:Int) (a1:Z8) (a4:Y2) (a5:Y5):Z3:=kX ([W0 a0,.val Q12 .i a1,.u,.u,W1 a4,W7 a5]++us 122)
noncomputable def xax (kX:T11) (kO:T4):=exK V9_z 0 (A_V9.shape 17) kX kO
noncomputable def xa0 (kX:T11) (a0:Int) (a4:Y2) (a5:Y5):Z3:=kX (([W0 a0]++ud 3 [W1 a4,W7 a5])++us 122)
noncomputable def xay (kX:T11) (kO:T4):=exK V9_z 2 (A_V9.shape 25) kX kO
noncomputable def wn0 (kX:T11) (a0:Int) (a4:Y2) (a5:Y5):Z3:=kX (([W0 a0]++ud 3 [W1 a4,W7 a5])++us 122)
noncomputable def wei (kX:T11) (kO:T4):=exK V9_z 4 (A_V9.shape 45) kX kO
noncomputable def wn1 (kX:T11) (a0:Int) (a4:Y2) (a5:Y5) (a9:Int):Z3:=kX (([W0 a0]++ud 3 ([W1 a4,W7 a5]++ud 3 [W0 a9]))++us 118)
noncomputable def wej (kX:T11) (kO:T4):=exK V9_z 6 (A_V9.shape 29) kX kO
noncomputable def wn2 (kX:T11) (a4 a12:Y2):Z3:=kX ((ud 4 ([W1 a4]++ud 7 [W1 a12]))++us 115)
noncomputable def wek (kX:T11) (kO:T4):=exK V9_z 10 (A_V9.shape 67) kX kO
noncomputable def w7x (kX:T11) (a0:Int) (a4:Y2) (a5:Y5) (a9 a10:Int):Z3:=kX (([W0 a0]++ud 3 ([W1 a4,W7 a5]++ud 3 [W0 a9,W0 a10]))++us 117)
noncomputable def w7v (kX:T11) (kO:T4):=exK V9_z 8 (A_V9.shape 35) kX kO
noncomputable def w7y (kX:T11) (a0:Int) (a4:Y2) (a5:Y5) (a12:Y2) (a13:Int) (a14:Y4):Z3:=kX (([W0 a0]++ud 3 ([W1 a4,W7 a5]++ud 6 [W1 a12,W0 a13,W3 a14]))++us 113)
noncomputable def w7w (kX:T11) (kO:T4):=exK V9_z 12 (A_V9.shape 65) kX kO
theorem w9d (N kX kO):∀n,wny N n (xax kX kO)=wz7 N (xaz kX) n :=
 itE rfl fun m=>by kernel_rfl
noncomputable def wqa (N:Nat):=(blockK 0 (sqK A_V9 N 17 500008 Tryz.f69 [1,1,1] V9_z))
theorem w9e (N kX kO):∀n,wnz N n (xay kX kO)=wz8 N (xa0 kX) n :=
 itE rfl fun m=>by kernel_rfl
noncomputable def wqb (N:Nat):=(blockK 2 (sqK A_V9 N 25 500012 Tryz.f69 [1,1,1,1] V9_z))
theorem w71 (N kX kO):∀n,wis N n (w7v kX kO)=wt1 N (w7x kX) n :=
 itE rfl fun m=>by kernel_rfl
noncomputable def wnv (N m:Nat) (kX:T11) (kO:T4):=(blockK 8 (blockK 7 (sqK A_V9 N 35 500017 Tryz.f69 [1,1,1,1,0,1,0,0,1,0,0,1,0,0,1,1] (itK A_V9 N 32 Tryz.f69 [1,1,1,1,0,1,0,0,1,0,0,1,0,0] m (wej kX kO)))))
noncomputable def w76 (N m:Nat) (kX:T11) (kO:T4) (st':St):Z3:=rn A_V9 N Tryz.f69 [1,1,1,1,0,1,0,0,1,0,0,1,0,0,1,1] st' (itK A_V9 N 32 Tryz.f69 [1,1,1,1,0,1,0,0,1,0,0,1,0,0] m (wej kX kO))
theorem xdt (N m kX kO) {r}(h:waw N m (wej kX kO)=r):wis N N (wnv N m kX kO)=wiq N r (wn1 kX):=by
 rw[show wis N N (wnv N m kX kO)=wis N N (w7v (w76 N m kX kO) fun j=>(wnv N m kX kO) (.exit j)) from(by funext _ _ _ _ _ _;exact jky),w71,show w7x (w76 N m kX kO)=wel (waw N m (wej kX kO)) by kernel_rfl,h];rfl
theorem w70 (N kX kO):∀n,waw N n (wej kX kO)=wt0 N (wn1 kX) n :=
 itE rfl fun m=>(show _=weo (wis N N (wnv N m kX kO)) (wn1 kX) by kernel_rfl).trans (by rw[xdt N m kX kO rfl]<;>rfl)
noncomputable def wnu (N m:Nat) (kX:T11) (kO:T4):=(blockK 6 (blockK 5 (sqK A_V9 N 29 500014 Tryz.f69 [1,1,1,1,0,1,0,0,1,1] (itK A_V9 N 26 Tryz.f69 [1,1,1,1,0,1,0,0] m (wei kX kO)))))
noncomputable def w75 (N m:Nat) (kX:T11) (kO:T4) (st':St):Z3:=rn A_V9 N Tryz.f69 [1,1,1,1,0,1,0,0,1,1] st' (itK A_V9 N 26 Tryz.f69 [1,1,1,1,0,1,0,0] m (wei kX kO))
theorem xds (N m kX kO) {r}(h:wav N m (wei kX kO)=r):waw N N (wnu N m kX kO)=wip N r (wn0 kX):=by
 rw[show waw N N (wnu N m kX kO)=waw N N (wej (w75 N m kX kO) fun j=>(wnu N m kX kO) (.exit j)) from(by funext _ _ _ _ _;exact jky),w70,show wn1 (w75 N m kX kO)=yv (wav N m (wei kX kO)) by kernel_rfl,h];rfl
theorem w7z (N kX kO):∀n,wav N n (wei kX kO)=wtz N (wn0 kX) n :=
 itE rfl fun m=>(show _=wen (waw N N (wnu N m kX kO)) (wn0 kX) by kernel_rfl).trans (by rw[xds N m kX kO rfl]<;>rfl)
noncomputable def wnt (N:Nat):=(blockK 4 (sqK A_V9 N 45 500022 Tryz.f69 [1,1,1,1,1] V9_z))
theorem w73 (N kX kO):∀n,wit N n (w7w kX kO)=wt3 N (w7y kX) n :=
 itE rfl fun m=>by kernel_rfl
noncomputable def wnx (N m:Nat) (kX:T11) (kO:T4):=(blockK 12 (sqK A_V9 N 65 500032 Tryz.f69 [1,1,1,1,1,1,0,1,0,0,1,0,0,1,1] (blockK 11 (sqK A_V9 N 51 500025 Tryz.f69 [1,1,1,1,1,1,0,1,0,0,1,1] (itK A_V9 N 48 Tryz.f69 [1,1,1,1,1,1,0,1,0,0] m (wek kX kO))))))
noncomputable def w78 (N m:Nat) (kX:T11) (kO:T4) (st':St):Z3:=rn A_V9 N Tryz.f69 [1,1,1,1,1,1,0,1,0,0,1,0,0,1,1] st' (blockK 11 (sqK A_V9 N 51 500025 Tryz.f69 [1,1,1,1,1,1,0,1,0,0,1,1] (itK A_V9 N 48 Tryz.f69 [1,1,1,1,1,1,0,1,0,0] m (wek kX kO))))
theorem xdv (N m kX kO) {r}(h:wax N m (wek kX kO)=r):wit N N (wnx N m kX kO)=wir N r (wn2 kX):=by
 rw[show wit N N (wnx N m kX kO)=wit N N (w7w (w78 N m kX kO) fun j=>(wnx N m kX kO) (.exit j)) from(by funext _ _ _ _ _ _ _;exact jky),w73,show w7y (w78 N m kX kO)=wem (wax N m (wek kX kO)) by kernel_rfl,h];rfl
theorem w72 (N kX kO):∀n,wax N n (wek kX kO)=wt2 N (wn2 kX) n :=
 itE rfl fun m=>(show _=wep (wit N N (wnx N m kX kO)) (wn2 kX) by kernel_rfl).trans (by rw[xdv N m kX kO rfl]<;>rfl)
noncomputable def wnw (N:Nat):=(blockK 10 (sqK A_V9 N 67 500033 Tryz.f69 [1,1,1,1,1,1,1] V9_z))
noncomputable def w77 (N:Nat) (st':St):Z3:=rn A_V9 N Tryz.f69 [1,1,1,1,1,1,1] st' V9_z
theorem xdu (N):wax N N (wnw N)=xl N:=by
 rw[show wax N N (wnw N)=wax N N (wek (w77 N) fun j=>(wnw N) (.exit j)) from(by funext _ _ _ _ _;exact jky),w72,show wn2 (w77 N)=yw by kernel_rfl];rfl
noncomputable def w74 (N:Nat) (st':St):Z3:=rn A_V9 N Tryz.f69 [1,1,1,1,1] st' V9_z
theorem xdr (N):wav N N (wnt N)=wau N:=by
 rw[show wav N N (wnt N)=wav N N (wei (w74 N) fun j=>(wnt N) (.exit j)) from(by funext _ _ _ _;exact jky),w7z,show wn0 (w74 N)=yu (wax N N (wnw N)) by kernel_rfl,xdu N];rfl
noncomputable def xa2 (N:Nat) (st':St):Z3:=rn A_V9 N Tryz.f69 [1,1,1,1] st' V9_z
theorem xgf (N):wnz N N (wqb N)=wjt N:=by
 rw[show wnz N N (wqb N)=wnz N N (xay (xa2 N) fun j=>(wqb N) (.exit j)) from(by funext _ _ _ _ _;exact jky),w9e,show xa0 (xa2 N)=wjv (wav N N (wnt N)) by kernel_rfl,xdr N];rfl
noncomputable def xa1 (N:Nat) (st':St):Z3:=rn A_V9 N Tryz.f69 [1,1,1] st' V9_z
theorem xge (N):wny N N (wqa N)=wz6 N:=by
 rw[show wny N N (wqa N)=wny N N (xax (xa1 N) fun j=>(wqa N) (.exit j)) from(by funext _ _ _ _ _;exact jky),w9d,show xaz (xa1 N)=wju (wnz N N (wqb N)) by kernel_rfl,xgf N];rfl
theorem run_V9 (N x):runF A_V9 N Tryz.f69 S_V9 x=V9 N x.1 x.2.1:=(show _=(V9_s (wny N N (wqa N)) x.1 x.2.1) by kernel_rfl).trans (by rw[xge N];rfl)
theorem ok_V9:OK 69 S_V9:=gdR (A:=A_V9) tc Tryz.func69 (jeb trivial) (run_V9 big)
def wfe (rec k:T97) (a0:Y4) (a1 a5:Int):Z5 :=
  cond (decide (a5<(a0.length:Int)))
  ((atI a0 a5).bind fun xq1 =>
  cond (decide (xq1<a1))
  (rec a0 a1 (IntKind.i64.wrap (a5+1)))
  (k a0 a1 a5))
  (k a0 a1 a5)
def zz (a0:Y4) (a1 a5:Int):Z5 :=
  cond (decide (a5<(a0.length:Int)))
  ((atI a0 a5).bind fun xq2 =>
  cond (decide (xq2=a1))
  (some (a0,(())))
  ((slI a0 0 a5).bind fun xq3 =>
  (appI [] xq3).bind fun xq4 =>
  (appI xq4 [a1]).bind fun xq5 =>
  (slI a0 a5 a0.length).bind fun xq6 =>
  (appI xq5 xq6).bind fun xq7 =>
  some (xq7,(()))))
  ((slI a0 0 a5).bind fun xq8 =>
  (appI [] xq8).bind fun xq9 =>
  (appI xq9 [a1]).bind fun xq10 =>
  (slI a0 a5 a0.length).bind fun xq11 =>
  (appI xq10 xq11).bind fun xq12 =>
  some (xq12,(())))
def wwz (L2:T97) (l_0:Y4) (n_1:Int):Z5 :=
  L2 l_0 n_1 0
def wqf (N:Nat) (k:T97):=itN (fun r=>wfe r k) fun _ _ _=>none
def wqe (N:Nat):=wqf N (zz) N
def V10 (N:Nat) (l_0:Y4) (n_1:Int):Z5:=wwz (wqe N) l_0 n_1
def S_V10:Sig:=⟨(.pair Q7 Q24),[0,0],[],.unit,Q7,.i,fun x=>V10 big x.1 x.2.1⟩
def A_V10:Cfg:=mkCfg tab [] [(4,([B2,B0]++dr 3 [B0])),(9,([B2,B0]++dr 3 [B0]))]
noncomputable def wfd (N n:Nat) (K:T72) (a0:Y4) (a1 a5:Int):Z5:=itr A_V10 N 4 Tryz.f92 [1,1,0,0,0] n (([W2 a0,W0 a1]++ud 3 [W0 a5])++us 39) K
noncomputable def ww0:Ex→St→Z5:=finish A_V10 S_V10 Tryz.f92.results.toList
noncomputable def w0x (kX:T44) (a0:Y4) (a1 a5:Int):Z5:=kX (([W2 a0,W0 a1]++ud 3 [W0 a5])++us 39)
noncomputable def w0w (kX:T44) (kO:T34):=exK ww0 0 (A_V10.shape 9) kX kO
theorem w0y (N kX kO):∀n,wfd N n (w0w kX kO)=wqf N (w0x kX) n :=
 itE rfl fun m=>by kernel_rfl
noncomputable def wkl (N:Nat):=(blockK 0 (sqK A_V10 N 9 500004 Tryz.f92 [1,1,1] ww0))
noncomputable def w0z (N:Nat) (st':St):Z5:=rn A_V10 N Tryz.f92 [1,1,1] st' ww0
theorem xba (N):wfd N N (wkl N)=wqe N:=by
 rw[show wfd N N (wkl N)=wfd N N (w0w (w0z N) fun j=>(wkl N) (.exit j)) from(by funext _ _ _;exact jky),w0y,show w0x (w0z N)=zz by kernel_rfl];rfl
theorem run_V10 (N x):runF A_V10 N Tryz.f92 S_V10 x=V10 N x.1 x.2.1:=(show _=(wwz (wfd N N (wkl N)) x.1 x.2.1) by kernel_rfl).trans (by rw[xba N];rfl)
theorem ok_V10:OK 92 S_V10:=gdR (A:=A_V10) tc Tryz.func92 (jeb trivial) (run_V10 big)
end Go.Proofs.YteanfidobhpchaaGreat
