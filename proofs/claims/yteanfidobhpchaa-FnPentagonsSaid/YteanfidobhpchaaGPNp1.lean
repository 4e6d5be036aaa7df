import Derived.Test.YteanfidobhpchaaGxGen
import Derived.Test.YteanfidobhpchaaRows
import Derived.Test.YteanfidobhpchaaChecked
import Derived.KernelRfl
set_option maxRecDepth 100000
set_option linter.unusedVariables false
namespace Go.Proofs.Yteanfidobhpchaa
open Go Go.Gx Go.Proofs
abbrev I:=Ty.int .i64
abbrev Q0:Ty:=(.pair (.sl (.sl I)) .unit)
abbrev P1:Fl:=(.o (.p (.o (.o .i)) .i))
abbrev Q2:Ty:=(.opt (.pair (.sl (.sl .bool)) (.pair (.sl (.sl I)) Q0)))
abbrev Q3:Ty:=(.ptr (.pair (.sl (.int .u8)) (.pair I (.pair (.int .u64) .unit))))
abbrev Q4:Ty:=(.ptr Q0)
abbrev P5:Fl:=(.o .i)
abbrev Q6:Ty:=(.sl (.sl .bool))
abbrev Q7:Ty:=(.sl I)
abbrev Q8:Ty:=(.pair I (.pair I .unit))
abbrev Q9:Ty:=(.tup (.pair Q7 (.pair .bool .unit)))
abbrev P10:Fl:=(.o P5)
abbrev Q11:Ty:=(.pair Q0 .unit)
abbrev Q12:Ty:=(.pair Q7 .unit)
abbrev Q13:Ty:=(.pair (.ptr Q6) (.pair (.ptr I) (.pair (.ptr I) .unit)))
abbrev Q14:Ty:=(.sl Q8)
abbrev Q15:Ty:=(.sl (.int .u8))
abbrev W0:=V.val I .i
abbrev W1:=V.val Q4 P1
abbrev W2:=V.val Q4 P5
abbrev W3:=V.val Q7 P5
abbrev W4:=V.val Q7 .i
abbrev W5:=V.val Q6 P10
abbrev W6:=V.val Q2 .i
abbrev Y1:=(Option ((List (List Bool))×((List (List Int))×((List (List Int))×Unit))))
abbrev Y2:=((List (List Int))×Unit)
abbrev Y7:=(Int×((List (Int×((List Int)×Unit)))×Unit))
abbrev Y6:=(Int×((List Int)×Unit))
abbrev Y3:=(List (List Int))
abbrev Y4:=(List Int)
abbrev Y5:=(List (List Bool))
abbrev Z0:=Option ((Y4×(Bool×Unit))×Unit)
abbrev Z1:=Option (Bool×Unit)
abbrev Z2:=(Int×(Int×Unit))
abbrev Z3:=Option (Y2×Unit)
abbrev Z4:=Option ((Option Y4)×Unit)
abbrev Z5:=Option (Y2×((Y4×Z2)×Unit))
abbrev Z6:=Option ((Y2×(Bool×Unit))×Unit)
abbrev Z7:=Option (Int×Unit)
abbrev Z8:=Option (Y4×Unit)
abbrev Z9:=Option ((Y5×(Bool×Unit))×Unit)
abbrev Z10:=Option ((Y3×(Bool×Unit))×Unit)
abbrev Z11:=Option ((Y2×(Y2×Unit))×Unit)
abbrev Z12:=Option ((Option Y4)×(Unit×Unit))
abbrev Z13:=Option (Y5×Unit)
abbrev Z14:=(List Z2)
abbrev Z15:=(Y4×Z2)
abbrev Z16:=Option (Z14×Unit)
abbrev Z17:=Option (Y4×(Z15×Unit))
abbrev Z18:=(Y2×(Y2×(Y4×Unit)))
abbrev Z19:=(Y1×(Y1×(Y4×Unit)))
def tab:Tab:={ es:=[(22,(.int .u8),.i),(24,Q7,P5),(28,I,.i),(37,Q8,.i),(53,(.sl .bool),P5),(54,(.sl .bool),P5),(66,.bool,.i)],ts:=[(3,I,.i),(4,.bool,.i),(5,(.int .u8),.i),(22,Q15,P5),(24,(.sl Q7),P10),(26,Q0,(.p P10 .i)),(28,Q7,P5),(36,Q8,.i),(37,Q14,P5),(51,Q2,.i),(53,Q6,P10),(54,Q6,P10),(56,(.pair Q6 (.pair (.sl Q7) Q0)),(.p P10 (.p P10 (.p P10 .i)))),(66,(.sl .bool),P5),(73,Q3,(.o (.p P5 .i))),(74,(.int .u64),.i),(76,(.pair Q15 (.pair I (.pair (.int .u64) .unit))),(.p P5 .i))],fs:=[(26,[((.sl Q7),P10)]),(56,[(Q6,P10),((.sl Q7),P10),((.sl Q7),P10)]),(76,[(Q15,P5),(I,.i),((.int .u64),.i)])],ars:=[(36,I,.i,2)] }
theorem tabOk:tab.chk Try.prog=true:=by kernel_rfl
theorem tc {a b}:CfgOk Try.prog (mkCfg tab a b):=vsd tabOk
def V0_s (code_0:Y4):Z1 :=
  some (decide ((65536:Int)<(code_0.length:Int)),(()))
def V0 (code_0:Y4):Z1:=V0_s code_0
def S_V0:Sig:=⟨(.pair Q15 .unit),[0],[],.unit,.bool,.i,fun x=>V0 x.1⟩
def A_V0:Cfg:=mkCfg tab [] []
theorem run_V0 (N x):runF (A_V0) N Try.f5 S_V0 x=V0 x.1:=by kernel_rfl
theorem ok_V0:FnOk Try.prog 5∧Gx.Good Try.prog 5 S_V0:=gdR (A:=A_V0) tc Try.func5 (by kernel_rfl) (vaa trivial) (run_V0 big)
def V1_s (c_0:Z15):Option (Int×(Z15×Unit)) :=
  cond (decide (c_0.2.1<(c_0.1.length:Int)))
  ((atI c_0.1 c_0.2.1).bind fun xq1 =>
  cond (decide (((((c_0.1,(IntKind.i64.wrap (c_0.2.1+1),c_0.2.2)).1,(((c_0.1,(IntKind.i64.wrap (c_0.2.1+1),c_0.2.2)).2).1,(IntKind.u64.wrap ((IntKind.u64.wrap ((IntKind.u64.wrap (((((c_0.1,(IntKind.i64.wrap (c_0.2.1+1),c_0.2.2)).2).2).1) * 6364136223846793005))+(IntKind.u64.wrap (IntKind.i64.wrap xq1))))+550289),(((c_0.1,(IntKind.i64.wrap (c_0.2.1+1),c_0.2.2)).2).2).2))).2).1)≤((((c_0.1,(IntKind.i64.wrap (c_0.2.1+1),c_0.2.2)).1,(((c_0.1,(IntKind.i64.wrap (c_0.2.1+1),c_0.2.2)).2).1,(IntKind.u64.wrap ((IntKind.u64.wrap ((IntKind.u64.wrap (((((c_0.1,(IntKind.i64.wrap (c_0.2.1+1),c_0.2.2)).2).2).1) * 6364136223846793005))+(IntKind.u64.wrap (IntKind.i64.wrap xq1))))+550289),(((c_0.1,(IntKind.i64.wrap (c_0.2.1+1),c_0.2.2)).2).2).2))).1).length:Int)))
  (some (IntKind.i64.wrap xq1,(((c_0.1,(IntKind.i64.wrap (c_0.2.1+1),c_0.2.2)).1,(((c_0.1,(IntKind.i64.wrap (c_0.2.1+1),c_0.2.2)).2).1,(IntKind.u64.wrap ((IntKind.u64.wrap ((IntKind.u64.wrap (((((c_0.1,(IntKind.i64.wrap (c_0.2.1+1),c_0.2.2)).2).2).1) * 6364136223846793005))+(IntKind.u64.wrap (IntKind.i64.wrap xq1))))+550289),(((c_0.1,(IntKind.i64.wrap (c_0.2.1+1),c_0.2.2)).2).2).2))),())))
  ((shrI IntKind.u64 (((((c_0.1,(IntKind.i64.wrap (c_0.2.1+1),c_0.2.2)).1,(((c_0.1,(IntKind.i64.wrap (c_0.2.1+1),c_0.2.2)).2).1,(IntKind.u64.wrap ((IntKind.u64.wrap ((IntKind.u64.wrap (((((c_0.1,(IntKind.i64.wrap (c_0.2.1+1),c_0.2.2)).2).2).1) * 6364136223846793005))+(IntKind.u64.wrap (IntKind.i64.wrap xq1))))+550289),(((c_0.1,(IntKind.i64.wrap (c_0.2.1+1),c_0.2.2)).2).2).2))).2).2).1) (40:Int)).bind fun xq2 =>
  some (IntKind.i64.wrap (bitI .and IntKind.u64 xq2 (255:Int)),(((c_0.1,(IntKind.i64.wrap (c_0.2.1+1),c_0.2.2)).1,(((c_0.1,(IntKind.i64.wrap (c_0.2.1+1),c_0.2.2)).2).1,(IntKind.u64.wrap ((IntKind.u64.wrap ((IntKind.u64.wrap (((((c_0.1,(IntKind.i64.wrap (c_0.2.1+1),c_0.2.2)).2).2).1) * 6364136223846793005))+(IntKind.u64.wrap (IntKind.i64.wrap xq1))))+550289),(((c_0.1,(IntKind.i64.wrap (c_0.2.1+1),c_0.2.2)).2).2).2))),()))))
  (cond (decide (((((c_0.1,(IntKind.i64.wrap (c_0.2.1+1),c_0.2.2)).1,(((c_0.1,(IntKind.i64.wrap (c_0.2.1+1),c_0.2.2)).2).1,(IntKind.u64.wrap ((IntKind.u64.wrap ((IntKind.u64.wrap (((((c_0.1,(IntKind.i64.wrap (c_0.2.1+1),c_0.2.2)).2).2).1) * 6364136223846793005))+(IntKind.u64.wrap (0:Int))))+550289),(((c_0.1,(IntKind.i64.wrap (c_0.2.1+1),c_0.2.2)).2).2).2))).2).1)≤((((c_0.1,(IntKind.i64.wrap (c_0.2.1+1),c_0.2.2)).1,(((c_0.1,(IntKind.i64.wrap (c_0.2.1+1),c_0.2.2)).2).1,(IntKind.u64.wrap ((IntKind.u64.wrap ((IntKind.u64.wrap (((((c_0.1,(IntKind.i64.wrap (c_0.2.1+1),c_0.2.2)).2).2).1) * 6364136223846793005))+(IntKind.u64.wrap (0:Int))))+550289),(((c_0.1,(IntKind.i64.wrap (c_0.2.1+1),c_0.2.2)).2).2).2))).1).length:Int)))
  (some ((0:Int),(((c_0.1,(IntKind.i64.wrap (c_0.2.1+1),c_0.2.2)).1,(((c_0.1,(IntKind.i64.wrap (c_0.2.1+1),c_0.2.2)).2).1,(IntKind.u64.wrap ((IntKind.u64.wrap ((IntKind.u64.wrap (((((c_0.1,(IntKind.i64.wrap (c_0.2.1+1),c_0.2.2)).2).2).1) * 6364136223846793005))+(IntKind.u64.wrap (0:Int))))+550289),(((c_0.1,(IntKind.i64.wrap (c_0.2.1+1),c_0.2.2)).2).2).2))),())))
  ((shrI IntKind.u64 (((((c_0.1,(IntKind.i64.wrap (c_0.2.1+1),c_0.2.2)).1,(((c_0.1,(IntKind.i64.wrap (c_0.2.1+1),c_0.2.2)).2).1,(IntKind.u64.wrap ((IntKind.u64.wrap ((IntKind.u64.wrap (((((c_0.1,(IntKind.i64.wrap (c_0.2.1+1),c_0.2.2)).2).2).1) * 6364136223846793005))+(IntKind.u64.wrap (0:Int))))+550289),(((c_0.1,(IntKind.i64.wrap (c_0.2.1+1),c_0.2.2)).2).2).2))).2).2).1) (40:Int)).bind fun xq3 =>
  some (IntKind.i64.wrap (bitI .and IntKind.u64 xq3 (255:Int)),(((c_0.1,(IntKind.i64.wrap (c_0.2.1+1),c_0.2.2)).1,(((c_0.1,(IntKind.i64.wrap (c_0.2.1+1),c_0.2.2)).2).1,(IntKind.u64.wrap ((IntKind.u64.wrap ((IntKind.u64.wrap (((((c_0.1,(IntKind.i64.wrap (c_0.2.1+1),c_0.2.2)).2).2).1) * 6364136223846793005))+(IntKind.u64.wrap (0:Int))))+550289),(((c_0.1,(IntKind.i64.wrap (c_0.2.1+1),c_0.2.2)).2).2).2))),()))))
def V1 (c_0:Z15):Option (Int×(Z15×Unit)):=V1_s c_0
def S_V1:Sig:=⟨(.pair Q3 .unit),[1],[P5],(.pair Q3 .unit),I,.i,fun x=>V1 x.1⟩
def A_V1:Cfg:=mkCfg tab [] []
theorem run_V1 (N x):runF (A_V1) N Try.f100 S_V1 x=V1 x.1:=by kernel_rfl
theorem ok_V1:FnOk Try.prog 100∧Gx.Good Try.prog 100 S_V1:=gdR (A:=A_V1) tc Try.func100 (by kernel_rfl) (vaa trivial) (run_V1 big)
def V2_s (c_0:Z15) (n_1:Int):Option (Int×(Z15×Unit)) :=
  cond (decide (n_1≤1))
  (some ((0:Int),(c_0,())))
  ((V1 c_0).bind fun rq1 =>
  cond (decide ((200:Int)<n_1))
  ((V1 rq1.2.1).bind fun rq2 =>
  (remI (IntKind.i64.wrap ((IntKind.i64.wrap (rq1.1 * 256))+rq2.1)) n_1).bind fun xq3 =>
  some (xq3,(rq2.2.1,())))
  ((remI rq1.1 n_1).bind fun xq4 =>
  some (xq4,(rq1.2.1,()))))
def V2 (c_0:Z15) (n_1:Int):Option (Int×(Z15×Unit)):=V2_s c_0 n_1
def S_V2:Sig:=⟨(.pair Q3 (.pair I .unit)),[1,0],[P5],(.pair Q3 .unit),I,.i,fun x=>V2 x.1 x.2.1⟩
def A_V2:Cfg:=mkCfg tab [(100,S_V1)] []
theorem run_V2 (N x):runF (A_V2) N Try.f63 S_V2 x=V2 x.1 x.2.1:=by kernel_rfl
theorem ok_V2:FnOk Try.prog 63∧Gx.Good Try.prog 63 S_V2:=gdR (A:=A_V2) tc Try.func63 (by kernel_rfl) (vaa ⟨ok_V1,trivial⟩) (run_V2 big)
def V3_s (c_0:Z15) (n_1:Int):Option (Bool×(Z15×Unit)) :=
  (V2 c_0 n_1).bind fun rq1 =>
  some (decide (rq1.1=0),(rq1.2.1,()))
def V3 (c_0:Z15) (n_1:Int):Option (Bool×(Z15×Unit)):=V3_s c_0 n_1
def S_V3:Sig:=⟨(.pair Q3 (.pair I .unit)),[1,0],[P5],(.pair Q3 .unit),.bool,.i,fun x=>V3 x.1 x.2.1⟩
def A_V3:Cfg:=mkCfg tab [(63,S_V2)] []
theorem run_V3 (N x):runF (A_V3) N Try.f94 S_V3 x=V3 x.1 x.2.1:=by kernel_rfl
theorem ok_V3:FnOk Try.prog 94∧Gx.Good Try.prog 94 S_V3:=gdR (A:=A_V3) tc Try.func94 (by kernel_rfl) (vaa ⟨ok_V2,trivial⟩) (run_V3 big)
def V4_s (c_0:Z15) (list_1:Y4):Option (Int×(Z15×Unit)) :=
  (V2 c_0 (list_1.length:Int)).bind fun rq1 =>
  (atI list_1 rq1.1).bind fun xq2 =>
  some (xq2,(rq1.2.1,()))
def V4 (c_0:Z15) (list_1:Y4):Option (Int×(Z15×Unit)):=V4_s c_0 list_1
def S_V4:Sig:=⟨(.pair Q3 Q12),[1,0],[P5],(.pair Q3 .unit),I,.i,fun x=>V4 x.1 x.2.1⟩
def A_V4:Cfg:=mkCfg tab [(63,S_V2)] []
theorem run_V4 (N x):runF (A_V4) N Try.f118 S_V4 x=V4 x.1 x.2.1:=by kernel_rfl
theorem ok_V4:FnOk Try.prog 118∧Gx.Good Try.prog 118 S_V4:=gdR (A:=A_V4) tc Try.func118 (by kernel_rfl) (vaa ⟨ok_V2,trivial⟩) (run_V4 big)
def vvo (rec:Z15→Int→Y4→Int→Z17) (k:Z15→Int→Y4→Z17) (c0:Z15) (n1:Int) (out5:Y4) (i6:Int):Z17 :=
  cond (decide (i6<n1))
  ((V2 c0 (IntKind.i64.wrap ((out5.length:Int)+1))).bind fun rq1 =>
  (slI out5 0 rq1.1).bind fun xq2 =>
  (appI [] xq2).bind fun xq3 =>
  (appI xq3 [i6]).bind fun xq4 =>
  (slI out5 rq1.1 out5.length).bind fun xq5 =>
  (appI xq4 xq5).bind fun xq6 =>
  rec rq1.2.1 n1 xq6 (IntKind.i64.wrap (i6+1)))
  (k c0 n1 out5)
def vwb (c0:Z15) (n1:Int) (out5:Y4):Z17 :=
  (V2 c0 (24:Int)).bind fun rq7 =>
  cond (decide (rq7.1=0))
  ((appI out5 [n1]).bind fun xq8 =>
  some (xq8,(rq7.2.1,())))
  (cond (decide (rq7.1=1))
  (cond (decide ((0:Int)<n1))
  ((V2 rq7.2.1 n1).bind fun rq9 =>
  (V4 rq9.2.1 [(0:Int),(-1:Int),n1]).bind fun rq10 =>
  (atI out5 rq9.1).bind fun _ =>
  (out5[rq9.1.toNat]?).bind fun xq11 =>
  some (out5.set rq9.1.toNat rq10.1,(rq10.2.1,())))
  (some (out5,(rq7.2.1,()))))
  (some (out5,(rq7.2.1,()))))
def V5_s (L3:Z15→Int→Y4→Int→Z17) (c_0:Z15) (n_1:Int):Z17 :=
  L3 c_0 n_1 [] (0:Int)
def vaps (N:Nat) (k:Z15→Int→Y4→Z17):Nat→Z15→Int→Y4→Int→Z17
  | 0,_,_,_,_=>none
  | m+1,c0,n1,out5,i6=>vvo (vaps N k m) k c0 n1 out5 i6
def vbbi (N:Nat) (c0:Z15) (n1:Int) (out5:Y4) (i6:Int):Z17:=vaps N (vwb) N c0 n1 out5 i6
def V5 (N:Nat) (c_0:Z15) (n_1:Int):Z17:=V5_s (vbbi N) c_0 n_1
def S_V5:Sig:=⟨(.pair Q3 (.pair I .unit)),[1,0],[P5],(.pair Q3 .unit),Q7,P5,fun x=>V5 big x.1 x.2.1⟩
def A_V5:Cfg:=mkCfg tab [(63,S_V2),(118,S_V4)] [(6,([.as Q3 P5,.as I .i]++dr 3 [.as Q7 P5,.as I .i])),(13,([.as Q3 P5,.as I .i]++dr 3 [.as Q7 .i,.as I .i,.as I .i])),(15,([.as Q3 P5,.as I .i]++dr 3 [.as Q7 P5]))]
noncomputable def vri (N n:Nat) (K:Ex→St→Z17) (c0:Z15) (n1:Int) (out5:Y4) (i6:Int):Z17:=iter ((A_V5).shape 6) (run (A_V5) N (codeAt Try.f96 [1,1,0,1,0,0])) n (([.val Q3 P5 c0,W0 n1]++ud 3 [W3 out5,W0 i6])++us 46) K
noncomputable abbrev V5_z:Ex→St→Z17:=finish (A_V5) S_V5 Try.f96.results.toList
noncomputable abbrev vbcr (kX:St→Z17) (c0:Z15) (n1:Int) (out5:Y4):Z17:=kX (([.val Q3 P5 c0,W0 n1]++ud 3 [W3 out5])++us 47)
noncomputable abbrev vaou (kX:St→Z17) (kO:Nat→St→Z17):Ex→St→Z17:=exK V5_z 0 ((A_V5).shape 15) kX kO
theorem varo (N kX kO):∀ n,vri N n (vaou kX kO)=vaps N (vbcr kX) n
 | 0=>rfl
 | m+1=>(show vri N (m+1) (vaou kX kO)=vvo (vri N m (vaou kX kO)) (vbcr kX) by kernel_rfl).trans (by rw[varo N kX kO m];funext _ _ _ _;rfl)
noncomputable abbrev vape (N:Nat):Ex→St→Z17:=(blockK 0 (sqK (A_V5) N 15 500007 (codeAt Try.f96 [1,1,1]) V5_z))
noncomputable abbrev vbmd (N:Nat) (st':St):Z17:=run (A_V5) N (codeAt Try.f96 [1,1,1]) st' V5_z
theorem vbtc (N):vri N N (vape N)=vbbi N:=by
 rw[show vri N N (vape N)=vri N N (vaou (vbmd N) fun j=>(vape N) (.exit j)) from (by funext _ _ _ _;exact vab (fun _=>by kernel_rfl) fun _=>by kernel_rfl),varo,show vbcr (vbmd N)=vwb by kernel_rfl];rfl
theorem run_V5 (N x):runF (A_V5) N Try.f96 S_V5 x=V5 N x.1 x.2.1:=(show _=(V5_s (vri N N (vape N)) x.1 x.2.1) by kernel_rfl).trans (by rw[vbtc N];rfl)
theorem ok_V5:FnOk Try.prog 96∧Gx.Good Try.prog 96 S_V5:=gdR (A:=A_V5) tc Try.func96 (by kernel_rfl) (vaa ⟨ok_V2,ok_V4,trivial⟩) (run_V5 big)
def V6_s (x_0 a_1 b_2:Int):Z1 :=
  cond (decide (a_1≤x_0))
  (some (decide (x_0≤b_2),(())))
  (some (false,(())))
def V6 (x_0 a_1 b_2:Int):Z1:=V6_s x_0 a_1 b_2
def S_V6:Sig:=⟨(.pair I Q8),[0,0,0],[],.unit,.bool,.i,fun x=>V6 x.1 x.2.1 x.2.2.1⟩
def A_V6:Cfg:=mkCfg tab [] []
theorem run_V6 (N x):runF (A_V6) N Try.f121 S_V6 x=V6 x.1 x.2.1 x.2.2.1:=by kernel_rfl
theorem ok_V6:FnOk Try.prog 121∧Gx.Good Try.prog 121 S_V6:=gdR (A:=A_V6) tc Try.func121 (by kernel_rfl) (vaa trivial) (run_V6 big)
def vvs (rec:Int→Y4→Int→Z1) (k:Z1) (n0:Int) (list1:Y4) (i5:Int):Z1 :=
  cond (decide (i5<(list1.length:Int)))
  ((atI list1 i5).bind fun xq1 =>
  (V6 xq1 (0:Int) (IntKind.i64.wrap (n0 - 1))).bind fun rq2 =>
  cond (!rq2.1)
  (some (false,(())))
  (rec n0 list1 (IntKind.i64.wrap (i5+1))))
  (k)
def vuj:Z1 :=
  some (true,(()))
def V7_s (L2:Int→Y4→Int→Z1) (n_0:Int) (list_1:Y4):Z1 :=
  L2 n_0 list_1 (0:Int)
def vapn (N:Nat) (k:Z1):Nat→Int→Y4→Int→Z1
  | 0,_,_,_=>none
  | m+1,n0,list1,i5=>vvs (vapn N k m) k n0 list1 i5
def vbbg (N:Nat) (n0:Int) (list1:Y4) (i5:Int):Z1:=vapn N (vuj) N n0 list1 i5
def V7 (N:Nat) (n_0:Int) (list_1:Y4):Z1:=V7_s (vbbg N) n_0 list_1
def S_V7:Sig:=⟨(.pair I Q12),[0,0],[],.unit,.bool,.i,fun x=>V7 big x.1 x.2.1⟩
def A_V7:Cfg:=mkCfg tab [(121,S_V6)] [(4,([.as I .i,.as Q7 .i]++dr 3 [.as I .i])),(13,[])]
noncomputable def vrv (N n:Nat) (K:Ex→St→Z1) (n0:Int) (list1:Y4) (i5:Int):Z1:=iter ((A_V7).shape 4) (run (A_V7) N (codeAt Try.f119 [1,0,1,0,0])) n (([W0 n0,W4 list1]++ud 3 [W0 i5])++us 14) K
noncomputable abbrev V7_z:Ex→St→Z1:=finish (A_V7) S_V7 Try.f119.results.toList
noncomputable abbrev vbas (kX:St→Z1):Z1:=kX ([]++us 20)
noncomputable abbrev vapv (kX:St→Z1) (kO:Nat→St→Z1):Ex→St→Z1:=exK V7_z 0 ((A_V7).shape 13) kX kO
theorem vauc (N kX kO):∀ n,vrv N n (vapv kX kO)=vapn N (vbas kX) n
 | 0=>rfl
 | m+1=>(show vrv N (m+1) (vapv kX kO)=vvs (vrv N m (vapv kX kO)) (vbas kX) by kernel_rfl).trans (by rw[vauc N kX kO m];funext _ _ _;rfl)
noncomputable abbrev vaoz (N:Nat):Ex→St→Z1:=(blockK 0 (sqK (A_V7) N 13 500006 (codeAt Try.f119 [1,1]) V7_z))
noncomputable abbrev vbmf (N:Nat) (st':St):Z1:=run (A_V7) N (codeAt Try.f119 [1,1]) st' V7_z
theorem vbsr (N):vrv N N (vaoz N)=vbbg N:=by
 rw[show vrv N N (vaoz N)=vrv N N (vapv (vbmf N) fun j=>(vaoz N) (.exit j)) from (by funext _ _ _;exact vab (fun _=>by kernel_rfl) fun _=>by kernel_rfl),vauc,show vbas (vbmf N)=vuj by kernel_rfl];rfl
theorem run_V7 (N x):runF (A_V7) N Try.f119 S_V7 x=V7 N x.1 x.2.1:=(show _=(V7_s (vrv N N (vaoz N)) x.1 x.2.1) by kernel_rfl).trans (by rw[vbsr N];rfl)
theorem ok_V7:FnOk Try.prog 119∧Gx.Good Try.prog 119 S_V7:=gdR (A:=A_V7) tc Try.func119 (by kernel_rfl) (vaa ⟨ok_V6,trivial⟩) (run_V7 big)
def vwu (rec:Y4→Int→(List Bool)→Int→Z1) (k:Z1) (l0:Y4) (n1:Int) (seen5:(List Bool)) (i6:Int):Z1 :=
  cond (decide (i6<n1))
  ((atI l0 i6).bind fun xq4 =>
  (atI seen5 xq4).bind fun _ =>
  (seen5[xq4.toNat]?).bind fun xq5 =>
  cond xq5
  (some (false,(())))
  ((atI l0 i6).bind fun xq6 =>
  (atI seen5 xq6).bind fun _ =>
  (seen5[xq6.toNat]?).bind fun xq7 =>
  rec l0 n1 (seen5.set xq6.toNat true) (IntKind.i64.wrap (i6+1))))
  (k)
def vvn:Z1 :=
  some (true,(()))
def V8_s (L5:Y4→Int→(List Bool)→Int→Z1) (l_0:Y4) (n_1:Int):Z1 :=
  cond (decide ((l_0.length:Int)≠n_1))
  (some (false,(())))
  ((V7 big n_1 l_0).bind fun rq1 =>
  cond (!rq1.1)
  (some (false,(())))
  ((mkI false n_1).bind fun xq2=>(mkI false n_1).bind fun xq3=>cond (decide (n_1≤n_1))
  (L5 l_0 n_1 xq3 (0:Int))
  none))
def vapc (N:Nat) (k:Z1):Nat→Y4→Int→(List Bool)→Int→Z1
  | 0,_,_,_,_=>none
  | m+1,l0,n1,seen5,i6=>vwu (vapc N k m) k l0 n1 seen5 i6
def vbct (N:Nat) (l0:Y4) (n1:Int) (seen5:(List Bool)) (i6:Int):Z1:=vapc N (vvn) N l0 n1 seen5 i6
def V8 (N:Nat) (l_0:Y4) (n_1:Int):Z1:=V8_s (vbct N) l_0 n_1
def S_V8:Sig:=⟨(.pair Q7 (.pair I .unit)),[0,0],[],.unit,.bool,.i,fun x=>V8 big x.1 x.2.1⟩
def A_V8:Cfg:=mkCfg tab [(119,S_V7)] [(10,([.as Q7 .i,.as I .i]++dr 3 [.as (.sl .bool) P5,.as I .i])),(21,[])]
noncomputable def vrq (N n:Nat) (K:Ex→St→Z1) (l0:Y4) (n1:Int) (seen5:(List Bool)) (i6:Int):Z1:=iter ((A_V8).shape 10) (run (A_V8) N (codeAt Try.f97 [1,1,1,0,1,0,0])) n (([W4 l0,W0 n1]++ud 3 [.val (.sl .bool) P5 seen5,W0 i6])++us 30) K
noncomputable abbrev V8_z:Ex→St→Z1:=finish (A_V8) S_V8 Try.f97.results.toList
noncomputable abbrev vazy (kX:St→Z1):Z1:=kX ([]++us 37)
noncomputable abbrev vaop (kX:St→Z1) (kO:Nat→St→Z1):Ex→St→Z1:=exK V8_z 0 ((A_V8).shape 21) kX kO
theorem vasx (N kX kO):∀ n,vrq N n (vaop kX kO)=vapc N (vazy kX) n
 | 0=>rfl
 | m+1=>(show vrq N (m+1) (vaop kX kO)=vwu (vrq N m (vaop kX kO)) (vazy kX) by kernel_rfl).trans (by rw[vasx N kX kO m];funext _ _ _ _;rfl)
noncomputable abbrev vaov (N:Nat):Ex→St→Z1:=(blockK 0 (sqK (A_V8) N 21 500010 (codeAt Try.f97 [1,1,1,1]) V8_z))
noncomputable abbrev vbmh (N:Nat) (st':St):Z1:=run (A_V8) N (codeAt Try.f97 [1,1,1,1]) st' V8_z
theorem vbty (N):vrq N N (vaov N)=vbct N:=by
 rw[show vrq N N (vaov N)=vrq N N (vaop (vbmh N) fun j=>(vaov N) (.exit j)) from (by funext _ _ _ _;exact vab (fun _=>by kernel_rfl) fun _=>by kernel_rfl),vasx,show vazy (vbmh N)=vvn by kernel_rfl];rfl
theorem run_V8 (N x):runF (A_V8) N Try.f97 S_V8 x=V8 N x.1 x.2.1:=(show _=(V8_s (vrq N N (vaov N)) x.1 x.2.1) by kernel_rfl).trans (by rw[vbty N];rfl)
theorem ok_V8:FnOk Try.prog 97∧Gx.Good Try.prog 97 S_V8:=gdR (A:=A_V8) tc Try.func97 (by kernel_rfl) (vaa ⟨ok_V7,trivial⟩) (run_V8 big)
def vny (rec:Int→Y2→Y5→Y2→Int→Y4→Int→Z3) (k:Int→Y2→Y5→Y2→Int→Y4→Z3) (n0:Int) (t4:Y2) (leq5:Y5) (p12:Y2) (y13:Int) (below14:Y4) (x15:Int):Z3 :=
  cond (decide (x15<n0))
  ((atI leq5 x15).bind fun _ =>
  (leq5[x15.toNat]?).bind fun xq33 =>
  (leq5[x15.toNat]?).bind fun xq34 =>
  (atI xq34 y13).bind fun _ =>
  (leq5[x15.toNat]?).bind fun xq35 =>
  (xq35[y13.toNat]?).bind fun xq36 =>
  cond xq36
  ((appI below14 [x15]).bind fun xq37 =>
  rec n0 t4 leq5 p12 y13 xq37 (IntKind.i64.wrap (x15+1)))
  (rec n0 t4 leq5 p12 y13 below14 (IntKind.i64.wrap (x15+1))))
  (k n0 t4 leq5 p12 y13 below14)
def vqw (rec:Int→Y2→Y5→Y2→Int→Z3) (n0:Int) (t4:Y2) (leq5:Y5) (p12:Y2) (y13:Int) (below14:Y4):Z3 :=
  (appI p12.1 [below14]).bind fun xq38 =>
  rec n0 t4 leq5 (xq38,((),p12.2).2) (IntKind.i64.wrap (y13+1))
def vpz (rec:Int→Y2→Y5→Int→Int→Int→Z3) (k:Int→Y2→Y5→Int→Int→Z3) (n0:Int) (t4:Y2) (leq5:Y5) (z9 x10 y11:Int):Z3 :=
  cond (decide (y11<n0))
  ((atI leq5 x10).bind fun _ =>
  (leq5[x10.toNat]?).bind fun xq11 =>
  (atI leq5 x10).bind fun _ =>
  (leq5[x10.toNat]?).bind fun xq12 =>
  (leq5[x10.toNat]?).bind fun xq13 =>
  (atI xq13 y11).bind fun _ =>
  (leq5[x10.toNat]?).bind fun xq14 =>
  (xq14[y11.toNat]?).bind fun xq15 =>
  cond xq15
  ((leq5[x10.toNat]?).bind fun xq16 =>
  (atI xq16 y11).bind fun _ =>
  (leq5[x10.toNat]?).bind fun xq17 =>
  (xq17[y11.toNat]?).bind fun xq18 =>
  rec n0 t4 (leq5.set x10.toNat (xq17.set y11.toNat true)) z9 x10 (IntKind.i64.wrap (y11+1)))
  ((atI leq5 x10).bind fun _ =>
  (leq5[x10.toNat]?).bind fun xq19 =>
  (leq5[x10.toNat]?).bind fun xq20 =>
  (atI xq20 z9).bind fun _ =>
  (leq5[x10.toNat]?).bind fun xq21 =>
  (xq21[z9.toNat]?).bind fun xq22 =>
  cond xq22
  ((atI leq5 z9).bind fun _ =>
  (leq5[z9.toNat]?).bind fun xq23 =>
  (leq5[z9.toNat]?).bind fun xq24 =>
  (atI xq24 y11).bind fun _ =>
  (leq5[z9.toNat]?).bind fun xq25 =>
  (xq25[y11.toNat]?).bind fun xq26 =>
  (leq5[x10.toNat]?).bind fun xq27 =>
  (atI xq27 y11).bind fun _ =>
  (leq5[x10.toNat]?).bind fun xq28 =>
  (xq28[y11.toNat]?).bind fun xq29 =>
  rec n0 t4 (leq5.set x10.toNat (xq28.set y11.toNat xq26)) z9 x10 (IntKind.i64.wrap (y11+1)))
  ((leq5[x10.toNat]?).bind fun xq30 =>
  (atI xq30 y11).bind fun _ =>
  (leq5[x10.toNat]?).bind fun xq31 =>
  (xq31[y11.toNat]?).bind fun xq32 =>
  rec n0 t4 (leq5.set x10.toNat (xq31.set y11.toNat false)) z9 x10 (IntKind.i64.wrap (y11+1)))))
  (k n0 t4 leq5 z9 x10)
def vps (rec:Int→Y2→Y5→Int→Int→Z3) (n0:Int) (t4:Y2) (leq5:Y5) (z9 x10:Int):Z3 :=
  rec n0 t4 leq5 z9 (IntKind.i64.wrap (x10+1))
def vqd (L28:Int→Y2→Y5→Y2→Int→Y4→Int→Z3) (k:Y2→Y2→Z3) (n0:Int) (t4:Y2) (leq5:Y5) (p12:Y2) (y13:Int):Z3 :=
  cond (decide (y13<n0))
  (L28 n0 t4 leq5 p12 y13 [] (0:Int))
  (k t4 p12)
def vhu (t4 p12:Y2):Z3 :=
  some (p12,(()))
def vqr (L19:Int→Y2→Y5→Int→Int→Int→Z3) (k:Int→Y2→Y5→Int→Z3) (n0:Int) (t4:Y2) (leq5:Y5) (z9 x10:Int):Z3 :=
  cond (decide (x10<n0))
  (L19 n0 t4 leq5 z9 x10 (0:Int))
  (k n0 t4 leq5 z9)
def vhx (rec:Int→Y2→Y5→Int→Z3) (n0:Int) (t4:Y2) (leq5:Y5) (z9:Int):Z3 :=
  rec n0 t4 leq5 (IntKind.i64.wrap (z9+1))
def vof (L16:Int→Y2→Y5→Int→Int→Z3) (k:Int→Y2→Y5→Z3) (n0:Int) (t4:Y2) (leq5:Y5) (z9:Int):Z3 :=
  cond (decide (z9<n0))
  (L16 n0 t4 leq5 z9 (0:Int))
  (k n0 t4 leq5)
def via (L24:Int→Y2→Y5→Y2→Int→Z3) (n0:Int) (t4:Y2) (leq5:Y5):Z3 :=
  L24 n0 t4 leq5 ([],()) (0:Int)
def vwk (rec:Int→Z14→Y2→Y5→Int→Z3) (k:Int→Y2→Y5→Z3) (n0:Int) (pairs1:Z14) (t4:Y2) (leq5:Y5) (i8:Int):Z3 :=
  cond (decide (i8<(pairs1.length:Int)))
  ((atI pairs1 i8).bind fun xq5 =>
  (atI leq5 xq5.1).bind fun _ =>
  (leq5[xq5.1.toNat]?).bind fun xq6 =>
  (atI pairs1 i8).bind fun xq7 =>
  (leq5[xq5.1.toNat]?).bind fun xq8 =>
  (atI xq8 xq7.2.1).bind fun _ =>
  (leq5[xq5.1.toNat]?).bind fun xq9 =>
  (xq9[xq7.2.1.toNat]?).bind fun xq10 =>
  rec n0 pairs1 t4 (leq5.set xq5.1.toNat (xq9.set xq7.2.1.toNat true)) (IntKind.i64.wrap (i8+1)))
  (k n0 t4 leq5)
def vun (L13:Int→Y2→Y5→Int→Z3) (n0:Int) (t4:Y2) (leq5:Y5):Z3 :=
  L13 n0 t4 leq5 (0:Int)
def vwt (rec:Int→Z14→Y2→Y5→Int→Z3) (k:Int→Z14→Y2→Y5→Z3) (n0:Int) (pairs1:Z14) (t4:Y2) (leq5:Y5) (x6:Int):Z3 :=
  cond (decide (x6<n0))
  ((mkI false n0).bind fun xq1=>(mkI false n0).bind fun xq2=>cond (decide (n0≤n0))
  ((atI xq2 x6).bind fun _ =>
  (xq2[x6.toNat]?).bind fun xq3 =>
  (appI leq5 [xq2.set x6.toNat true]).bind fun xq4 =>
  rec n0 pairs1 t4 xq4 (IntKind.i64.wrap (x6+1)))
  none)
  (k n0 pairs1 t4 leq5)
def vxe (L9:Int→Z14→Y2→Y5→Int→Z3) (n0:Int) (pairs1:Z14) (t4:Y2) (leq5:Y5):Z3 :=
  L9 n0 pairs1 t4 leq5 (0:Int)
def V9_s (L3:Int→Z14→Y2→Y5→Int→Z3) (n_0:Int) (pairs_1:Z14):Z3 :=
  L3 n_0 pairs_1 (([]:Y3),()) [] (0:Int)
def vzt (N:Nat) (k:Int→Y2→Y5→Int→Int→Z3):Nat→Int→Y2→Y5→Int→Int→Int→Z3
  | 0,_,_,_,_,_,_=>none
  | m+1,n0,t4,leq5,z9,x10,y11=>vpz (vzt N k m) k n0 t4 leq5 z9 x10 y11
def vti (N:Nat) (rec:Int→Y2→Y5→Int→Int→Z3) (k:Int→Y2→Y5→Int→Z3) (n0:Int) (t4:Y2) (leq5:Y5) (z9 x10 y11:Int):Z3:=vzt N (vps rec) N n0 t4 leq5 z9 x10 y11
def vaaf (N:Nat) (k:Int→Y2→Y5→Int→Z3):Nat→Int→Y2→Y5→Int→Int→Z3
  | 0,_,_,_,_,_=>none
  | m+1,n0,t4,leq5,z9,x10=>vqr (vti N (vaaf N k m) k) k n0 t4 leq5 z9 x10
def vsp (N:Nat) (rec:Int→Y2→Y5→Int→Z3) (k:Int→Y2→Y5→Z3) (n0:Int) (t4:Y2) (leq5:Y5) (z9 x10:Int):Z3:=vaaf N (vhx rec) N n0 t4 leq5 z9 x10
def vahr (N:Nat) (k:Int→Y2→Y5→Y2→Int→Y4→Z3):Nat→Int→Y2→Y5→Y2→Int→Y4→Int→Z3
  | 0,_,_,_,_,_,_,_=>none
  | m+1,n0,t4,leq5,p12,y13,below14,x15=>vny (vahr N k m) k n0 t4 leq5 p12 y13 below14 x15
def vua (N:Nat) (rec:Int→Y2→Y5→Y2→Int→Z3) (k:Y2→Y2→Z3) (n0:Int) (t4:Y2) (leq5:Y5) (p12:Y2) (y13:Int) (below14:Y4) (x15:Int):Z3:=vahr N (vqw rec) N n0 t4 leq5 p12 y13 below14 x15
def vaph (N:Nat) (k:Int→Z14→Y2→Y5→Z3):Nat→Int→Z14→Y2→Y5→Int→Z3
  | 0,_,_,_,_,_=>none
  | m+1,n0,pairs1,t4,leq5,x6=>vwt (vaph N k m) k n0 pairs1 t4 leq5 x6
def vapk (N:Nat) (k:Int→Y2→Y5→Z3):Nat→Int→Z14→Y2→Y5→Int→Z3
  | 0,_,_,_,_,_=>none
  | m+1,n0,pairs1,t4,leq5,i8=>vwk (vapk N k m) k n0 pairs1 t4 leq5 i8
def vyx (N:Nat) (k:Int→Y2→Y5→Z3):Nat→Int→Y2→Y5→Int→Z3
  | 0,_,_,_,_=>none
  | m+1,n0,t4,leq5,z9=>vof (vsp N (vyx N k m) k) k n0 t4 leq5 z9
def vadc (N:Nat) (k:Y2→Y2→Z3):Nat→Int→Y2→Y5→Y2→Int→Z3
  | 0,_,_,_,_,_=>none
  | m+1,n0,t4,leq5,p12,y13=>vqd (vua N (vadc N k m) k) k n0 t4 leq5 p12 y13
def vee (N:Nat) (n0:Int) (t4:Y2) (leq5:Y5) (p12:Y2) (y13:Int):Z3:=vadc N (vhu) N n0 t4 leq5 p12 y13
def vkg (N:Nat) (n0:Int) (t4:Y2) (leq5:Y5) (z9:Int):Z3:=vyx N (via (vee N)) N n0 t4 leq5 z9
def vxa (N:Nat) (n0:Int) (pairs1:Z14) (t4:Y2) (leq5:Y5) (i8:Int):Z3:=vapk N (vun (vkg N)) N n0 pairs1 t4 leq5 i8
def vbdb (N:Nat) (n0:Int) (pairs1:Z14) (t4:Y2) (leq5:Y5) (x6:Int):Z3:=vaph N (vxe (vxa N)) N n0 pairs1 t4 leq5 x6
def V9 (N:Nat) (n_0:Int) (pairs_1:Z14):Z3:=V9_s (vbdb N) n_0 pairs_1
def S_V9:Sig:=⟨(.pair I (.pair Q14 .unit)),[0,0],[],.unit,Q0,(.p P10 .i),fun x=>V9 big x.1 x.2.1⟩
def A_V9:Cfg:=mkCfg tab [] [(6,[.as I .i,.as Q14 .i,.drop,.drop,.as Q4 P1,.as Q6 P10,.as I .i]),(17,[.as I .i,.as Q14 .i,.drop,.drop,.as Q4 P1,.as Q6 P10]),(18,[.as I .i,.as Q14 .i,.drop,.drop,.as Q4 P1,.as Q6 P10,.drop,.drop,.as I .i]),(25,([.as I .i]++dr 3 [.as Q4 P1,.as Q6 P10])),(26,([.as I .i]++dr 3 ([.as Q4 P1,.as Q6 P10]++dr 3 [.as I .i]))),(32,([.as I .i]++dr 3 ([.as Q4 P1,.as Q6 P10]++dr 3 [.as I .i,.as I .i]))),(45,([.as I .i]++dr 3 [.as Q4 P1,.as Q6 P10])),(48,([.as I .i]++dr 3 ([.as Q4 P1,.as Q6 P10]++dr 6 [.as Q4 P1,.as I .i]))),(38,([.as I .i]++dr 3 ([.as Q4 P1,.as Q6 P10]++dr 3 [.as I .i,.as I .i,.as I .i]))),(29,([.as I .i]++dr 3 ([.as Q4 P1,.as Q6 P10]++dr 3 [.as I .i]))),(56,([.as I .i]++dr 3 ([.as Q4 P1,.as Q6 P10]++dr 6 [.as Q4 P1,.as I .i,.as Q7 P5,.as I .i]))),(67,(dr 4 ([.as Q4 P1]++dr 7 [.as Q4 P1]))),(35,([.as I .i]++dr 3 ([.as Q4 P1,.as Q6 P10]++dr 3 [.as I .i,.as I .i]))),(65,([.as I .i]++dr 3 ([.as Q4 P1,.as Q6 P10]++dr 6 [.as Q4 P1,.as I .i,.as Q7 P5])))]
noncomputable def vrf (N n:Nat) (K:Ex→St→Z3) (n0:Int) (pairs1:Z14) (t4:Y2) (leq5:Y5) (x6:Int):Z3:=iter ((A_V9).shape 6) (run (A_V9) N (codeAt Try.f99 [1,1,0,1,0,0])) n ([W0 n0,.val Q14 .i pairs1,.u,.u,W1 t4,W5 leq5,W0 x6]++us 121) K
noncomputable def vrx (N n:Nat) (K:Ex→St→Z3) (n0:Int) (pairs1:Z14) (t4:Y2) (leq5:Y5) (i8:Int):Z3:=iter ((A_V9).shape 18) (run (A_V9) N (codeAt Try.f99 [1,1,1,0,1,0,0])) n ([W0 n0,.val Q14 .i pairs1,.u,.u,W1 t4,W5 leq5,.u,.u,W0 i8]++us 119) K
noncomputable def vgw (N n:Nat) (K:Ex→St→Z3) (n0:Int) (t4:Y2) (leq5:Y5) (z9:Int):Z3:=iter ((A_V9).shape 26) (run (A_V9) N (codeAt Try.f99 [1,1,1,1,0,1,0,0])) n (([W0 n0]++ud 3 ([W1 t4,W5 leq5]++ud 3 [W0 z9]))++us 118) K
noncomputable def vhk (N n:Nat) (K:Ex→St→Z3) (n0:Int) (t4:Y2) (leq5:Y5) (z9 x10:Int):Z3:=iter ((A_V9).shape 32) (run (A_V9) N (codeAt Try.f99 [1,1,1,1,0,1,0,0,1,0,0,1,0,0])) n (([W0 n0]++ud 3 ([W1 t4,W5 leq5]++ud 3 [W0 z9,W0 x10]))++us 117) K
noncomputable def vfy (N n:Nat) (K:Ex→St→Z3) (n0:Int) (t4:Y2) (leq5:Y5) (p12:Y2) (y13:Int):Z3:=iter ((A_V9).shape 48) (run (A_V9) N (codeAt Try.f99 [1,1,1,1,1,1,0,1,0,0])) n (([W0 n0]++ud 3 ([W1 t4,W5 leq5]++ud 6 [W1 p12,W0 y13]))++us 114) K
noncomputable def vlc (N n:Nat) (K:Ex→St→Z3) (n0:Int) (t4:Y2) (leq5:Y5) (z9 x10 y11:Int):Z3:=iter ((A_V9).shape 38) (run (A_V9) N (codeAt Try.f99 [1,1,1,1,0,1,0,0,1,0,0,1,0,0,1,0,0,1,0,0])) n (([W0 n0]++ud 3 ([W1 t4,W5 leq5]++ud 3 [W0 z9,W0 x10,W0 y11]))++us 116) K
noncomputable def vmh (N n:Nat) (K:Ex→St→Z3) (n0:Int) (t4:Y2) (leq5:Y5) (p12:Y2) (y13:Int) (below14:Y4) (x15:Int):Z3:=iter ((A_V9).shape 56) (run (A_V9) N (codeAt Try.f99 [1,1,1,1,1,1,0,1,0,0,1,0,0,1,0,1,0,0])) n (([W0 n0]++ud 3 ([W1 t4,W5 leq5]++ud 6 [W1 p12,W0 y13,W3 below14,W0 x15]))++us 112) K
noncomputable abbrev V9_z:Ex→St→Z3:=finish (A_V9) S_V9 Try.f99.results.toList
noncomputable abbrev vbab (kX:St→Z3) (n0:Int) (pairs1:Z14) (t4:Y2) (leq5:Y5):Z3:=kX ([W0 n0,.val Q14 .i pairs1,.u,.u,W1 t4,W5 leq5]++us 122)
noncomputable abbrev vaon (kX:St→Z3) (kO:Nat→St→Z3):Ex→St→Z3:=exK V9_z 0 ((A_V9).shape 17) kX kO
noncomputable abbrev vbbt (kX:St→Z3) (n0:Int) (t4:Y2) (leq5:Y5):Z3:=kX (([W0 n0]++ud 3 [W1 t4,W5 leq5])++us 122)
noncomputable abbrev vaom (kX:St→Z3) (kO:Nat→St→Z3):Ex→St→Z3:=exK V9_z 2 ((A_V9).shape 25) kX kO
noncomputable abbrev vagn (kX:St→Z3) (n0:Int) (t4:Y2) (leq5:Y5):Z3:=kX (([W0 n0]++ud 3 [W1 t4,W5 leq5])++us 122)
noncomputable abbrev vlv (kX:St→Z3) (kO:Nat→St→Z3):Ex→St→Z3:=exK V9_z 4 ((A_V9).shape 45) kX kO
noncomputable abbrev vahk (kX:St→Z3) (n0:Int) (t4:Y2) (leq5:Y5) (z9:Int):Z3:=kX (([W0 n0]++ud 3 ([W1 t4,W5 leq5]++ud 3 [W0 z9]))++us 118)
noncomputable abbrev vjj (kX:St→Z3) (kO:Nat→St→Z3):Ex→St→Z3:=exK V9_z 6 ((A_V9).shape 29) kX kO
noncomputable abbrev vagd (kX:St→Z3) (t4 p12:Y2):Z3:=kX ((ud 4 ([W1 t4]++ud 7 [W1 p12]))++us 115)
noncomputable abbrev vmg (kX:St→Z3) (kO:Nat→St→Z3):Ex→St→Z3:=exK V9_z 10 ((A_V9).shape 67) kX kO
noncomputable abbrev vavn (kX:St→Z3) (n0:Int) (t4:Y2) (leq5:Y5) (z9 x10:Int):Z3:=kX (([W0 n0]++ud 3 ([W1 t4,W5 leq5]++ud 3 [W0 z9,W0 x10]))++us 117)
noncomputable abbrev vzp (kX:St→Z3) (kO:Nat→St→Z3):Ex→St→Z3:=exK V9_z 8 ((A_V9).shape 35) kX kO
noncomputable abbrev vaqt (kX:St→Z3) (n0:Int) (t4:Y2) (leq5:Y5) (p12:Y2) (y13:Int) (below14:Y4):Z3:=kX (([W0 n0]++ud 3 ([W1 t4,W5 leq5]++ud 6 [W1 p12,W0 y13,W3 below14]))++us 113)
noncomputable abbrev vabm (kX:St→Z3) (kO:Nat→St→Z3):Ex→St→Z3:=exK V9_z 12 ((A_V9).shape 65) kX kO
theorem vase (N kX kO):∀ n,vrf N n (vaon kX kO)=vaph N (vbab kX) n
 | 0=>rfl
 | m+1=>(show vrf N (m+1) (vaon kX kO)=vwt (vrf N m (vaon kX kO)) (vbab kX) by kernel_rfl).trans (by rw[vase N kX kO m];funext _ _ _ _ _;rfl)
noncomputable abbrev vapq (N:Nat):Ex→St→Z3:=(blockK 0 (sqK (A_V9) N 17 500008 (codeAt Try.f99 [1,1,1]) V9_z))
theorem vaqw (N kX kO):∀ n,vrx N n (vaom kX kO)=vapk N (vbbt kX) n
 | 0=>rfl
 | m+1=>(show vrx N (m+1) (vaom kX kO)=vwk (vrx N m (vaom kX kO)) (vbbt kX) by kernel_rfl).trans (by rw[vaqw N kX kO m];funext _ _ _ _ _;rfl)
noncomputable abbrev vapf (N:Nat):Ex→St→Z3:=(blockK 2 (sqK (A_V9) N 25 500012 (codeAt Try.f99 [1,1,1,1]) V9_z))
theorem vakw (N kX kO):∀ n,vlc N n (vzp kX kO)=vzt N (vavn kX) n
 | 0=>rfl
 | m+1=>(show vlc N (m+1) (vzp kX kO)=vpz (vlc N m (vzp kX kO)) (vavn kX) by kernel_rfl).trans (by rw[vakw N kX kO m];funext _ _ _ _ _ _;rfl)
noncomputable abbrev vys (N m:Nat) (kX:St→Z3) (kO:Nat→St→Z3):Ex→St→Z3:=(blockK 8 (blockK 7 (sqK (A_V9) N 35 500017 (codeAt Try.f99 [1,1,1,1,0,1,0,0,1,0,0,1,0,0,1,1]) (itK (A_V9) N 32 (codeAt Try.f99 [1,1,1,1,0,1,0,0,1,0,0,1,0,0]) m (vjj kX kO)))))
noncomputable abbrev vbeo (N m:Nat) (kX:St→Z3) (kO:Nat→St→Z3) (st':St):Z3:=run (A_V9) N (codeAt Try.f99 [1,1,1,1,0,1,0,0,1,0,0,1,0,0,1,1]) st' (itK (A_V9) N 32 (codeAt Try.f99 [1,1,1,1,0,1,0,0,1,0,0,1,0,0]) m (vjj kX kO))
theorem vbpx (N m kX kO) {r} (h:vhk N m (vjj kX kO)=r):vlc N N (vys N m kX kO)=vti N r (vahk kX):=by
 rw[show vlc N N (vys N m kX kO)=vlc N N (vzp (vbeo N m kX kO) fun j=>(vys N m kX kO) (.exit j)) from (by funext _ _ _ _ _ _;exact vab (fun _=>by kernel_rfl) fun _=>by kernel_rfl),vakw,show vavn (vbeo N m kX kO)=vps (vhk N m (vjj kX kO)) by kernel_rfl,h];rfl
theorem vakv (N kX kO):∀ n,vhk N n (vjj kX kO)=vaaf N (vahk kX) n
 | 0=>rfl
 | m+1=>(show vhk N (m+1) (vjj kX kO)=vqr (vlc N N (vys N m kX kO)) (vahk kX) by kernel_rfl).trans (by rw[vbpx N m kX kO (vakv N kX kO m)];funext _ _ _ _ _;rfl)
noncomputable abbrev vaad (N m:Nat) (kX:St→Z3) (kO:Nat→St→Z3):Ex→St→Z3:=(blockK 6 (blockK 5 (sqK (A_V9) N 29 500014 (codeAt Try.f99 [1,1,1,1,0,1,0,0,1,1]) (itK (A_V9) N 26 (codeAt Try.f99 [1,1,1,1,0,1,0,0]) m (vlv kX kO)))))
noncomputable abbrev vbfh (N m:Nat) (kX:St→Z3) (kO:Nat→St→Z3) (st':St):Z3:=run (A_V9) N (codeAt Try.f99 [1,1,1,1,0,1,0,0,1,1]) st' (itK (A_V9) N 26 (codeAt Try.f99 [1,1,1,1,0,1,0,0]) m (vlv kX kO))
theorem vbrf (N m kX kO) {r} (h:vgw N m (vlv kX kO)=r):vhk N N (vaad N m kX kO)=vsp N r (vagn kX):=by
 rw[show vhk N N (vaad N m kX kO)=vhk N N (vjj (vbfh N m kX kO) fun j=>(vaad N m kX kO) (.exit j)) from (by funext _ _ _ _ _;exact vab (fun _=>by kernel_rfl) fun _=>by kernel_rfl),vakv,show vahk (vbfh N m kX kO)=vhx (vgw N m (vlv kX kO)) by kernel_rfl,h];rfl
theorem vale (N kX kO):∀ n,vgw N n (vlv kX kO)=vyx N (vagn kX) n
 | 0=>rfl
 | m+1=>(show vgw N (m+1) (vlv kX kO)=vof (vhk N N (vaad N m kX kO)) (vagn kX) by kernel_rfl).trans (by rw[vbrf N m kX kO (vale N kX kO m)];funext _ _ _ _;rfl)
noncomputable abbrev vaft (N:Nat):Ex→St→Z3:=(blockK 4 (sqK (A_V9) N 45 500022 (codeAt Try.f99 [1,1,1,1,1]) V9_z))
theorem vakx (N kX kO):∀ n,vmh N n (vabm kX kO)=vahr N (vaqt kX) n
 | 0=>rfl
 | m+1=>(show vmh N (m+1) (vabm kX kO)=vny (vmh N m (vabm kX kO)) (vaqt kX) by kernel_rfl).trans (by rw[vakx N kX kO m];funext _ _ _ _ _ _ _;rfl)
noncomputable abbrev vaeu (N m:Nat) (kX:St→Z3) (kO:Nat→St→Z3):Ex→St→Z3:=(blockK 12 (sqK (A_V9) N 65 500032 (codeAt Try.f99 [1,1,1,1,1,1,0,1,0,0,1,0,0,1,1]) (blockK 11 (sqK (A_V9) N 51 500025 (codeAt Try.f99 [1,1,1,1,1,1,0,1,0,0,1,1]) (itK (A_V9) N 48 (codeAt Try.f99 [1,1,1,1,1,1,0,1,0,0]) m (vmg kX kO))))))
noncomputable abbrev vbhm (N m:Nat) (kX:St→Z3) (kO:Nat→St→Z3) (st':St):Z3:=run (A_V9) N (codeAt Try.f99 [1,1,1,1,1,1,0,1,0,0,1,0,0,1,1]) st' (blockK 11 (sqK (A_V9) N 51 500025 (codeAt Try.f99 [1,1,1,1,1,1,0,1,0,0,1,1]) (itK (A_V9) N 48 (codeAt Try.f99 [1,1,1,1,1,1,0,1,0,0]) m (vmg kX kO))))
theorem vbnh (N m kX kO) {r} (h:vfy N m (vmg kX kO)=r):vmh N N (vaeu N m kX kO)=vua N r (vagd kX):=by
 rw[show vmh N N (vaeu N m kX kO)=vmh N N (vabm (vbhm N m kX kO) fun j=>(vaeu N m kX kO) (.exit j)) from (by funext _ _ _ _ _ _ _;exact vab (fun _=>by kernel_rfl) fun _=>by kernel_rfl),vakx,show vaqt (vbhm N m kX kO)=vqw (vfy N m (vmg kX kO)) by kernel_rfl,h];rfl
theorem vako (N kX kO):∀ n,vfy N n (vmg kX kO)=vadc N (vagd kX) n
 | 0=>rfl
 | m+1=>(show vfy N (m+1) (vmg kX kO)=vqd (vmh N N (vaeu N m kX kO)) (vagd kX) by kernel_rfl).trans (by rw[vbnh N m kX kO (vako N kX kO m)];funext _ _ _ _ _;rfl)
noncomputable abbrev vabv (N:Nat):Ex→St→Z3:=(blockK 10 (sqK (A_V9) N 67 500033 (codeAt Try.f99 [1,1,1,1,1,1,1]) V9_z))
noncomputable abbrev vbee (N:Nat) (st':St):Z3:=run (A_V9) N (codeAt Try.f99 [1,1,1,1,1,1,1]) st' V9_z
theorem vbpm (N):vfy N N (vabv N)=vee N:=by
 rw[show vfy N N (vabv N)=vfy N N (vmg (vbee N) fun j=>(vabv N) (.exit j)) from (by funext _ _ _ _ _;exact vab (fun _=>by kernel_rfl) fun _=>by kernel_rfl),vako,show vagd (vbee N)=vhu by kernel_rfl];rfl
noncomputable abbrev vbjb (N:Nat) (st':St):Z3:=run (A_V9) N (codeAt Try.f99 [1,1,1,1,1]) st' V9_z
theorem vboi (N):vgw N N (vaft N)=vkg N:=by
 rw[show vgw N N (vaft N)=vgw N N (vlv (vbjb N) fun j=>(vaft N) (.exit j)) from (by funext _ _ _ _;exact vab (fun _=>by kernel_rfl) fun _=>by kernel_rfl),vale,show vagn (vbjb N)=via (vfy N N (vabv N)) by kernel_rfl,vbpm N];rfl
noncomputable abbrev vbmv (N:Nat) (st':St):Z3:=run (A_V9) N (codeAt Try.f99 [1,1,1,1]) st' V9_z
theorem vbto (N):vrx N N (vapf N)=vxa N:=by
 rw[show vrx N N (vapf N)=vrx N N (vaom (vbmv N) fun j=>(vapf N) (.exit j)) from (by funext _ _ _ _ _;exact vab (fun _=>by kernel_rfl) fun _=>by kernel_rfl),vaqw,show vbbt (vbmv N)=vun (vgw N N (vaft N)) by kernel_rfl,vboi N];rfl
noncomputable abbrev vbmq (N:Nat) (st':St):Z3:=run (A_V9) N (codeAt Try.f99 [1,1,1]) st' V9_z
theorem vbsa (N):vrf N N (vapq N)=vbdb N:=by
 rw[show vrf N N (vapq N)=vrf N N (vaon (vbmq N) fun j=>(vapq N) (.exit j)) from (by funext _ _ _ _ _;exact vab (fun _=>by kernel_rfl) fun _=>by kernel_rfl),vase,show vbab (vbmq N)=vxe (vrx N N (vapf N)) by kernel_rfl,vbto N];rfl
theorem run_V9 (N x):runF (A_V9) N Try.f99 S_V9 x=V9 N x.1 x.2.1:=(show _=(V9_s (vrf N N (vapq N)) x.1 x.2.1) by kernel_rfl).trans (by rw[vbsa N];rfl)
theorem ok_V9:FnOk Try.prog 99∧Gx.Good Try.prog 99 S_V9:=gdR (A:=A_V9) tc Try.func99 (by kernel_rfl) (vaa trivial) (run_V9 big)
def vcq (rec k:Y4→Int→Int→Z8) (l0:Y4) (n1 k5:Int):Z8 :=
  cond (decide (k5<(l0.length:Int)))
  ((atI l0 k5).bind fun xq1 =>
  cond (decide (xq1<n1))
  (rec l0 n1 (IntKind.i64.wrap (k5+1)))
  (k l0 n1 k5))
  (k l0 n1 k5)
def vca (l0:Y4) (n1 k5:Int):Z8 :=
  cond (decide (k5<(l0.length:Int)))
  ((atI l0 k5).bind fun xq2 =>
  cond (decide (xq2=n1))
  (some (l0,(())))
  ((slI l0 0 k5).bind fun xq3 =>
  (appI [] xq3).bind fun xq4 =>
  (appI xq4 [n1]).bind fun xq5 =>
  (slI l0 k5 l0.length).bind fun xq6 =>
  (appI xq5 xq6).bind fun xq7 =>
  some (xq7,(()))))
  ((slI l0 0 k5).bind fun xq8 =>
  (appI [] xq8).bind fun xq9 =>
  (appI xq9 [n1]).bind fun xq10 =>
  (slI l0 k5 l0.length).bind fun xq11 =>
  (appI xq10 xq11).bind fun xq12 =>
  some (xq12,(())))
def vapl (L2:Y4→Int→Int→Z8) (l_0:Y4) (n_1:Int):Z8 :=
  L2 l_0 n_1 (0:Int)
def vtb (N:Nat) (k:Y4→Int→Int→Z8):Nat→Y4→Int→Int→Z8
  | 0,_,_,_=>none
  | m+1,l0,n1,k5=>vcq (vtb N k m) k l0 n1 k5
def vafd (N:Nat) (l0:Y4) (n1 k5:Int):Z8:=vtb N (vca) N l0 n1 k5
def V10 (N:Nat) (l_0:Y4) (n_1:Int):Z8:=vapl (vafd N) l_0 n_1
def S_V10:Sig:=⟨(.pair Q7 (.pair I .unit)),[0,0],[],.unit,Q7,.i,fun x=>V10 big x.1 x.2.1⟩
def A_V10:Cfg:=mkCfg tab [] [(4,([.as Q7 .i,.as I .i]++dr 3 [.as I .i])),(9,([.as Q7 .i,.as I .i]++dr 3 [.as I .i]))]
noncomputable def vju (N n:Nat) (K:Ex→St→Z8) (l0:Y4) (n1 k5:Int):Z8:=iter ((A_V10).shape 4) (run (A_V10) N (codeAt Try.f102 [1,1,0,0,0])) n (([W4 l0,W0 n1]++ud 3 [W0 k5])++us 39) K
noncomputable abbrev vbbh:Ex→St→Z8:=finish (A_V10) S_V10 Try.f102.results.toList
noncomputable abbrev vavg (kX:St→Z8) (l0:Y4) (n1 k5:Int):Z8:=kX (([W4 l0,W0 n1]++ud 3 [W0 k5])++us 39)
noncomputable abbrev vaat (kX:St→Z8) (kO:Nat→St→Z8):Ex→St→Z8:=exK vbbh 0 ((A_V10).shape 9) kX kO
theorem vake (N kX kO):∀ n,vju N n (vaat kX kO)=vtb N (vavg kX) n
 | 0=>rfl
 | m+1=>(show vju N (m+1) (vaat kX kO)=vcq (vju N m (vaat kX kO)) (vavg kX) by kernel_rfl).trans (by rw[vake N kX kO m];funext _ _ _;rfl)
noncomputable abbrev vaet (N:Nat):Ex→St→Z8:=(blockK 0 (sqK (A_V10) N 9 500004 (codeAt Try.f102 [1,1,1]) vbbh))
noncomputable abbrev vbgi (N:Nat) (st':St):Z8:=run (A_V10) N (codeAt Try.f102 [1,1,1]) st' vbbh
theorem vbpy (N):vju N N (vaet N)=vafd N:=by
 rw[show vju N N (vaet N)=vju N N (vaat (vbgi N) fun j=>(vaet N) (.exit j)) from (by funext _ _ _;exact vab (fun _=>by kernel_rfl) fun _=>by kernel_rfl),vake,show vavg (vbgi N)=vca by kernel_rfl];rfl
theorem run_V10 (N x):runF (A_V10) N Try.f102 S_V10 x=V10 N x.1 x.2.1:=(show _=(vapl (vju N N (vaet N)) x.1 x.2.1) by kernel_rfl).trans (by rw[vbpy N];rfl)
theorem ok_V10:FnOk Try.prog 102∧Gx.Good Try.prog 102 S_V10:=gdR (A:=A_V10) tc Try.func102 (by kernel_rfl) (vaa trivial) (run_V10 big)
end Go.Proofs.Yteanfidobhpchaa
