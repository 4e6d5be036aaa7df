import Derived.Test.YtnolmlelfmadkaaGxBox
import Derived.Test.YtnolmlelfmadkaaRows
import Derived.Test.YtnolmlelfmadkaaChecked
import Derived.KernelRfl
set_option maxRecDepth 100000
set_option linter.unusedVariables false
namespace Go.Proofs.Ytnolmlelfmadkaa
open Go Go.Gx Go.Proofs
abbrev I:=Ty.int .i64
abbrev Q0:Ty:=(.sl I)
abbrev Q1:Ty:=(.pair Q0 (.pair Q0 (.pair (.map (.pair I (.pair I .unit)) .bool) .unit)))
abbrev Q2:Ty:=(.pair Q0 .unit)
abbrev Q3:Ty:=(.sl Q0)
abbrev Q4:Ty:=(.pair I (.pair I .unit))
abbrev O5:Fl:=(.o .i)
abbrev W0:=V.val I .i
abbrev W1:=V.val Q3 .i
abbrev W2:=V.val Q0 .i
abbrev B0:=Sh.as I .i
abbrev B1:=Sh.as Q3 .i
abbrev B2:=Sh.as Q0 .i
abbrev D0:=Sh.drop
abbrev Y1:=(Option ((List (List Bool))×((List (List Int))×((List (List Int))×Unit))))
abbrev Y2:=((List (List Int))×Unit)
abbrev Y7:=(Int×((List (Int×((List Int)×Unit)))×Unit))
abbrev Y6:=(Int×((List Int)×Unit))
abbrev Y3:=(List (List Int))
abbrev Y4:=(List Int)
abbrev Y5:=(List (List Bool))
abbrev Z0:=Option (Y4×Unit)
abbrev Z1:=(Y4×(Y4×((List ((Int×(Int×Unit))×Bool))×Unit)))
abbrev Z2:=Option (Int×Unit)
abbrev Z3:=Option ((Int×Y2)×Unit)
abbrev Z4:=Option (Bool×Unit)
abbrev Z5:=(Y4×Unit)
abbrev Z6:=Option (Y6×Unit)
abbrev Z7:=Option (Bool×(Z1×Unit))
abbrev Z8:=(Y4×(Y4×(Int×Y6)))
abbrev Z9:=(Int×(Int×Unit))
abbrev Z10:=Option (Bool×Z5)
abbrev T0:=Z5→Z0
abbrev T1:=Y4→Y3→Int→Int→Z3
abbrev T2:=Y3→Int→Y4→Y3→Int→Int→Y3→Int→Int→Z2
abbrev T3:=Y3→Y3→Int→Int→Z2
abbrev T4:=Y4→Int→Y3→Int→Int→Y3→Int→Int→Z3
abbrev T5:=Y3→Y4→Int→Z6
abbrev T6:=Nat→St→Z0
abbrev T7:=Nat→St→Z2
abbrev T8:=St→Z0
abbrev T9:=(Z1×Z9)→Z7
abbrev T10:=St→Z2
abbrev T11:=Y4→Y3→Z0
abbrev T12:=Y3→Y4→Int→Y3→Int→Z6
abbrev T13:=Y4→Int→Int→Z2
abbrev T14:=Ex→St→Z0
abbrev T15:=Y4→Y4→Int→Z4
abbrev T16:=Y3→Y4→Int→Z0
abbrev T17:=Y3→Int→Z2
abbrev T18:=Ex→St→Z2
abbrev T19:=Nat→Prop
abbrev T20:=Z8→Z10
abbrev T21:=Y3→Int→Int→Z2
abbrev T22:=Y4→Y4→Int→Z0
abbrev T23:=Y3→Y3→Int→Z0
abbrev T24:=Y4→Z0
def tab:Tab:={ es:=[(22,I,.i),(31,Q0,O5)],ts:=[(3,I,.i),(4,.bool,.i),(22,Q0,O5),(31,Q3,(.o O5)),(46,(.ptr Q1),(.o (.p O5 (.p O5 (.p O5 .i))))),(47,(.map Q4 .bool),O5),(49,Q1,(.p O5 (.p O5 (.p O5 .i)))),(61,Q4,.i)],fs:=[(49,[(Q0,O5),(Q0,O5),((.map Q4 .bool),O5)])],ars:=[(61,I,.i,2)],ms:=[(47,Q4,.bool)] }
theorem tabOk:tab.chk Try.prog=true:=by kernel_rfl
theorem tc {a b}:CfgOk Try.prog (mkCfg tab a b):=qu tabOk
abbrev OK (i:FuncId) (S:Sig):Prop:=FnOk Try.prog i∧Gx.Good Try.prog i S
def wfp (rec:T22) (k:T24) (a0 a3:Y4) (a4:Int):Z0 :=
  cond (decide (a4<(a0.length:Int)))
  ((atI a0 a4).bind fun xq3 =>
  (atI a3 a4).bind fun _ =>
  (a3[a4.toNat]?).bind fun xq4 =>
  rec a0 (a3.set a4.toNat xq3) (IntKind.i64.wrap (a4+1)))
  (k a3)
def wc6 (a3:Y4):Z0 :=
  some (a3,(()))
def V0_s (L3:T22) (a_0:Y4):Z0 :=
  (mkI (0:Int) (a_0.length:Int)).bind fun xq1=>(mkI (0:Int) (a_0.length:Int)).bind fun xq2=>cond (decide ((a_0.length:Int)≤(a_0.length:Int)))
  (L3 a_0 xq2 0)
  none
def wa4 (N:Nat) (k:T24):Nat→Y4→Y4→Int→Z0
  | 0,_,_,_=>none
  | m+1,a0,a3,a4=>wfp (wa4 N k m) k a0 a3 a4
def wfn (N:Nat):=wa4 N (wc6) N
def V0 (N:Nat) (a_0:Y4):Z0:=V0_s (wfn N) a_0
def S_V0:Sig:=⟨Q2,[0],[],.unit,Q0,O5,fun x=>V0 big x.1⟩
def A_V0:Cfg:=mkCfg tab [] [(6,[B2,D0,D0,.as Q0 O5,B0]),(13,(dr 3 [.as Q0 O5]))]
noncomputable def zq (N n:Nat) (K:T14) (a0 a3:Y4) (a4:Int):Z0:=itr A_V0 N 6 Try.f5 [1,1,0,1,0,0] n ([W2 a0,.u,.u,.val Q0 O5 a3,W0 a4]++us 17) K
noncomputable def V0_z:Ex→St→Z0:=finish A_V0 S_V0 Try.f5.results.toList
noncomputable def wfo (kX:T8) (a3:Y4):Z0:=kX ((ud 3 [.val Q0 O5 a3])++us 18)
noncomputable def wc4 (kX:T8) (kO:T6):=exK V0_z 0 (A_V0.shape 13) kX kO
theorem wdp (N kX kO):∀n,zq N n (wc4 kX kO)=wa4 N (wfo kX) n
 | 0=>rfl
 | m+1=>(show zq N (m+1) (wc4 kX kO)=wfp (zq N m (wc4 kX kO)) (wfo kX) by kernel_rfl).trans (by rw[wdp N kX kO m];funext _ _ _;rfl)
noncomputable def wc5 (N:Nat):=(blockK 0 (sqK A_V0 N 13 500006 Try.f5 [1,1,1] V0_z))
noncomputable def wi8 (N:Nat) (st':St):Z0:=rn A_V0 N Try.f5 [1,1,1] st' V0_z
theorem wkq (N):zq N N (wc5 N)=wfn N:=by
 rw[show zq N N (wc5 N)=zq N N (wc4 (wi8 N) fun j=>(wc5 N) (.exit j)) from(by funext _ _ _;exact jly),wdp,show wfo (wi8 N)=wc6 by kernel_rfl];rfl
theorem run_V0 (N x):runF A_V0 N Try.f5 S_V0 x=V0 N x.1:=(show _=(V0_s (zq N N (wc5 N)) x.1) by kernel_rfl).trans (by rw[wkq N];rfl)
theorem ok_V0:OK 5 S_V0:=gdR (A:=A_V0) tc Try.func5 (jc8 trivial) (run_V0 big)
def V1_s (x_0 a_1 b_2:Int):Z4 :=
  cond (decide (a_1≤x_0))
  (some (decide (x_0≤b_2),(())))
  (some (false,(())))
def V1 (x_0 a_1 b_2:Int):Z4:=V1_s x_0 a_1 b_2
def S_V1:Sig:=⟨(.pair I Q4),[0,0,0],[],.unit,.bool,.i,fun x=>V1 x.1 x.2.1 x.2.2.1⟩
def A_V1:Cfg:=mkCfg tab [] []
theorem run_V1 (N x):runF A_V1 N Try.f34 S_V1 x=V1 x.1 x.2.1 x.2.2.1:=by kernel_rfl
theorem ok_V1:OK 34 S_V1:=gdR (A:=A_V1) tc Try.func34 (jc8 trivial) (run_V1 big)
def wf6 (rec:T13) (k:Z2) (a0:Y4) (a5 a6:Int):Z2 :=
  cond (decide (a6<(a0.length:Int)))
  ((atI a0 a6).bind fun xq1 =>
  cond (decide (xq1=(-1:Int)))
  (cond (decide ((IntKind.i64.wrap (a5+1))=0))
  (some (IntKind.i64.wrap (a6+1),(())))
  (rec a0 (IntKind.i64.wrap (a5+1)) (IntKind.i64.wrap (a6+1))))
  ((atI a0 a6).bind fun xq2 =>
  cond (decide (xq2=(-2:Int)))
  (cond (decide ((IntKind.i64.wrap (a5+1))=0))
  (some (IntKind.i64.wrap (a6+1),(())))
  (rec a0 (IntKind.i64.wrap (a5+1)) (IntKind.i64.wrap (a6+1))))
  ((atI a0 a6).bind fun xq3 =>
  (V1 xq3 0 4).bind fun rq4 =>
  cond rq4.1
  (cond (decide ((IntKind.i64.wrap (a5-1))=0))
  (some (IntKind.i64.wrap (a6+1),(())))
  (rec a0 (IntKind.i64.wrap (a5-1)) (IntKind.i64.wrap (a6+1))))
  (some ((-1:Int),(()))))))
  (k)
def wf5:Z2 :=
  some ((-1:Int),(()))
def V2_s (L3:T13) (w_0:Y4) (from_1:Int):Z2 :=
  L3 w_0 1 from_1
def wbl (N:Nat) (k:Z2):Nat→Y4→Int→Int→Z2
  | 0,_,_,_=>none
  | m+1,a0,a5,a6=>wf6 (wbl N k m) k a0 a5 a6
def wf3 (N:Nat):=wbl N (wf5) N
def V2 (N:Nat) (w_0:Y4) (from_1:Int):Z2:=V2_s (wf3 N) w_0 from_1
def S_V2:Sig:=⟨(.pair Q0 (.pair I .unit)),[0,0],[],.unit,I,.i,fun x=>V2 big x.1 x.2.1⟩
def A_V2:Cfg:=mkCfg tab [(34,S_V1)] [(6,([B2]++dr 4 [B0,B0])),(25,[])]
noncomputable def zr (N n:Nat) (K:T18) (a0:Y4) (a5 a6:Int):Z2:=itr A_V2 N 6 Try.f15 [1,1,0,1,0,0] n (([W2 a0]++ud 4 [W0 a5,W0 a6])++us 34) K
noncomputable def V2_z:Ex→St→Z2:=finish A_V2 S_V2 Try.f15.results.toList
noncomputable def wf4 (kX:T10):Z2:=kX ([]++us 41)
noncomputable def wdb (kX:T10) (kO:T7):=exK V2_z 0 (A_V2.shape 25) kX kO
theorem web (N kX kO):∀n,zr N n (wdb kX kO)=wbl N (wf4 kX) n
 | 0=>rfl
 | m+1=>(show zr N (m+1) (wdb kX kO)=wf6 (zr N m (wdb kX kO)) (wf4 kX) by kernel_rfl).trans (by rw[web N kX kO m];funext _ _ _;rfl)
noncomputable def wdc (N:Nat):=(blockK 0 (sqK A_V2 N 25 500012 Try.f15 [1,1,1] V2_z))
noncomputable def wjg (N:Nat) (st':St):Z2:=rn A_V2 N Try.f15 [1,1,1] st' V2_z
theorem wku (N):zr N N (wdc N)=wf3 N:=by
 rw[show zr N N (wdc N)=zr N N (wdb (wjg N) fun j=>(wdc N) (.exit j)) from(by funext _ _ _;exact jly),web,show wf4 (wjg N)=wf5 by kernel_rfl];rfl
theorem run_V2 (N x):runF A_V2 N Try.f15 S_V2 x=V2 N x.1 x.2.1:=(show _=(V2_s (zr N N (wdc N)) x.1 x.2.1) by kernel_rfl).trans (by rw[wku N];rfl)
theorem ok_V2:OK 15 S_V2:=gdR (A:=A_V2) tc Try.func15 (jc8 ⟨ok_V1,trivial⟩) (run_V2 big)
def V3_s (w_0:Y4):Z4 :=
  cond (decide ((w_0.length:Int)≤40))
  ((V2 big w_0 0).bind fun rq1 =>
  cond (decide (rq1.1=(w_0.length:Int)))
  (some (decide (0<(w_0.length:Int)),(())))
  (some (false,(()))))
  (some (false,(())))
def V3 (w_0:Y4):Z4:=V3_s w_0
def S_V3:Sig:=⟨Q2,[0],[],.unit,.bool,.i,fun x=>V3 x.1⟩
def A_V3:Cfg:=mkCfg tab [(15,S_V2)] []
theorem run_V3 (N x):runF A_V3 N Try.f10 S_V3 x=V3 x.1:=by kernel_rfl
theorem ok_V3:OK 10 S_V3:=gdR (A:=A_V3) tc Try.func10 (jc8 ⟨ok_V2,trivial⟩) (run_V3 big)
def V4_s (l_0:Y4):Z0 :=
  (appI [] l_0).bind fun xq1 =>
  some (xq1,(()))
def V4 (l_0:Y4):Z0:=V4_s l_0
def S_V4:Sig:=⟨Q2,[0],[],.unit,Q0,O5,fun x=>V4 x.1⟩
def A_V4:Cfg:=mkCfg tab [] []
theorem run_V4 (N x):runF A_V4 N Try.f16 S_V4 x=V4 x.1:=by kernel_rfl
theorem ok_V4:OK 16 S_V4:=gdR (A:=A_V4) tc Try.func16 (jc8 trivial) (run_V4 big)
def wgh (rec:T22) (k:T24) (a0 a3:Y4) (a4:Int):Z0 :=
  cond (decide (a4<(a0.length:Int)))
  ((atI a0 a4).bind fun xq1 =>
  cond (decide (xq1<0))
  ((atI a0 a4).bind fun xq2 =>
  (appI a3 [IntKind.i64.wrap ((-3:Int)-xq2)]).bind fun xq3 =>
  rec a0 xq3 (IntKind.i64.wrap (a4+1)))
  ((atI a0 a4).bind fun xq4 =>
  (appI a3 [xq4]).bind fun xq5 =>
  rec a0 xq5 (IntKind.i64.wrap (a4+1))))
  (k a3)
def wdj (a3:Y4):Z0 :=
  some (a3,(()))
def V5_s (L3:T22) (w_0:Y4):Z0 :=
  L3 w_0 [] 0
def wb7 (N:Nat) (k:T24):Nat→Y4→Y4→Int→Z0
  | 0,_,_,_=>none
  | m+1,a0,a3,a4=>wgh (wb7 N k m) k a0 a3 a4
def wgf (N:Nat):=wb7 N (wdj) N
def V5 (N:Nat) (w_0:Y4):Z0:=V5_s (wgf N) w_0
def S_V5:Sig:=⟨Q2,[0],[],.unit,Q0,O5,fun x=>V5 big x.1⟩
def A_V5:Cfg:=mkCfg tab [] [(6,[B2,D0,D0,.as Q0 O5,B0]),(17,(dr 3 [.as Q0 O5]))]
noncomputable def zu (N n:Nat) (K:T14) (a0 a3:Y4) (a4:Int):Z0:=itr A_V5 N 6 Try.f17 [1,1,0,1,0,0] n ([W2 a0,.u,.u,.val Q0 O5 a3,W0 a4]++us 28) K
noncomputable def V5_z:Ex→St→Z0:=finish A_V5 S_V5 Try.f17.results.toList
noncomputable def wgg (kX:T8) (a3:Y4):Z0:=kX ((ud 3 [.val Q0 O5 a3])++us 29)
noncomputable def wdh (kX:T8) (kO:T6):=exK V5_z 0 (A_V5.shape 17) kX kO
theorem wev (N kX kO):∀n,zu N n (wdh kX kO)=wb7 N (wgg kX) n
 | 0=>rfl
 | m+1=>(show zu N (m+1) (wdh kX kO)=wgh (zu N m (wdh kX kO)) (wgg kX) by kernel_rfl).trans (by rw[wev N kX kO m];funext _ _ _;rfl)
noncomputable def wdi (N:Nat):=(blockK 0 (sqK A_V5 N 17 500008 Try.f17 [1,1,1] V5_z))
noncomputable def wjk (N:Nat) (st':St):Z0:=rn A_V5 N Try.f17 [1,1,1] st' V5_z
theorem wkx (N):zu N N (wdi N)=wgf N:=by
 rw[show zu N N (wdi N)=zu N N (wdh (wjk N) fun j=>(wdi N) (.exit j)) from(by funext _ _ _;exact jly),wev,show wgg (wjk N)=wdj by kernel_rfl];rfl
theorem run_V5 (N x):runF A_V5 N Try.f17 S_V5 x=V5 N x.1:=(show _=(V5_s (zu N N (wdi N)) x.1) by kernel_rfl).trans (by rw[wkx N];rfl)
theorem ok_V5:OK 17 S_V5:=gdR (A:=A_V5) tc Try.func17 (jc8 trivial) (run_V5 big)
def V6_s (w_0:Y4):Option ((Y4×Z5)×Unit) :=
  (V2 big w_0 1).bind fun rq1 =>
  (slI w_0 1 rq1.1).bind fun xq2 =>
  (slI w_0 rq1.1 w_0.length).bind fun xq3 =>
  some ((xq2,xq3,()),(()))
def V6 (w_0:Y4):Option ((Y4×Z5)×Unit):=V6_s w_0
def S_V6:Sig:=⟨Q2,[0],[],.unit,(.tup (.pair Q0 Q2)),.i,fun x=>V6 x.1⟩
def A_V6:Cfg:=mkCfg tab [(15,S_V2)] []
theorem run_V6 (N x):runF A_V6 N Try.f18 S_V6 x=V6 x.1:=by kernel_rfl
theorem ok_V6:OK 18 S_V6:=gdR (A:=A_V6) tc Try.func18 (jc8 ⟨ok_V2,trivial⟩) (run_V6 big)
def T_V7 (self:(Y4×(Int×Unit))→Option Y2):Sig:={ a:=(.pair Q0 (.pair I .unit)),md:=[0,0],mf:=[],m := .unit,r:=Q3,rf:=(.o O5),f:=self }
def V7_s (self_V7:(Y4×(Int×Unit))→Option Y2) (w_0:Y4) (sign_1:Int):Option Y2 :=
  (atI w_0 0).bind fun xq1 =>
  cond (decide (xq1≠sign_1))
  ((V4 w_0).bind fun rq2 =>
  some ([rq2.1],(())))
  ((V6 w_0).bind fun rq3 =>
  (self_V7 (rq3.1.1,sign_1,())).bind fun rq4 =>
  (self_V7 (rq3.1.2.1,sign_1,())).bind fun rq5 =>
  (appI rq4.1 rq5.1).bind fun xq6 =>
  some (xq6,(())))
def V7 (self_V7:(Y4×(Int×Unit))→Option Y2) (w_0:Y4) (sign_1:Int):Option Y2:=V7_s self_V7 w_0 sign_1
def A_V7 (self_V7:(Y4×(Int×Unit))→Option Y2):Cfg:=mkCfg tab [(16,S_V4),(18,S_V6),(19,T_V7 self_V7)] []
theorem run_V7 (self_V7:(Y4×(Int×Unit))→Option Y2) (N:Nat) (x:((T_V7 self_V7)).a.den):runF (A_V7 self_V7) N Try.f19 (T_V7 self_V7) x=V7 self_V7 x.1 x.2.1:=by kernel_rfl
theorem fn_V7:FnOk Try.prog 19:=⟨_,Try.func19,by kernel_rfl,by kernel_rfl⟩
def R_V7:Nat→(Y4×(Int×Unit))→Option Y2
  | 0,_=>none
  | d+1,x=>V7 (R_V7 d) x.1 x.2.1
def S_V7:Sig:=T_V7 (R_V7 big)
theorem xe:∀d,Gx.Good Try.prog 19 (T_V7 (R_V7 d))
  | 0=>fun x r h=>by cases h
  | d+1=>vg Try.func19 (of_decide_eq_true (by kernel_rfl)) fun x r h=>⟨A_V7 (R_V7 d),big,qu tabOk,jc8 (show SigsOk Try.prog [(16,S_V4),(18,S_V6),(19,T_V7 (R_V7 d))] from⟨ok_V4,ok_V6,⟨fn_V7,xe d⟩,trivial⟩),(run_V7 (R_V7 d) big x).trans h⟩
theorem good_V7:Gx.Good Try.prog 19 S_V7:=xe big
def T_V9 (self:T20):Sig:={ a:=(.pair Q0 (.pair Q0 (.pair I (.pair I Q2)))),md:=[0,0,0,0,1],mf:=[O5],m:=Q2,r := .bool,rf := .i,f:=self }
def T_V10 (self:T20):Sig:={ a:=(.pair Q0 (.pair Q0 (.pair I (.pair I Q2)))),md:=[0,0,0,0,1],mf:=[O5],m:=Q2,r := .bool,rf := .i,f:=self }
def V9_s (self_V9 self_V10:T20) (s_0 t_1:Y4) (i_2 k_3:Int) (known_4:Y4):Z10 :=
  (atI known_4 (IntKind.i64.wrap ((IntKind.i64.wrap (i_2*(t_1.length:Int)))+k_3))).bind fun _ =>
  (known_4[(IntKind.i64.wrap ((IntKind.i64.wrap (i_2*(t_1.length:Int)))+k_3)).toNat]?).bind fun xq1 =>
  cond (decide (xq1=0))
  ((atI known_4 (IntKind.i64.wrap ((IntKind.i64.wrap (i_2*(t_1.length:Int)))+k_3))).bind fun _ =>
  (known_4[(IntKind.i64.wrap ((IntKind.i64.wrap (i_2*(t_1.length:Int)))+k_3)).toNat]?).bind fun xq2 =>
  (self_V10 (s_0,t_1,i_2,k_3,known_4.set ((IntKind.i64.wrap ((IntKind.i64.wrap (i_2*(t_1.length:Int)))+k_3)).toNat) 2,())).bind fun rq3 =>
  cond rq3.1
  ((atI rq3.2.1 (IntKind.i64.wrap ((IntKind.i64.wrap (i_2*(t_1.length:Int)))+k_3))).bind fun _ =>
  (rq3.2.1[(IntKind.i64.wrap ((IntKind.i64.wrap (i_2*(t_1.length:Int)))+k_3)).toNat]?).bind fun xq4 =>
  (atI (rq3.2.1.set ((IntKind.i64.wrap ((IntKind.i64.wrap (i_2*(t_1.length:Int)))+k_3)).toNat) 1) (IntKind.i64.wrap ((IntKind.i64.wrap (i_2*(t_1.length:Int)))+k_3))).bind fun _ =>
  ((rq3.2.1.set ((IntKind.i64.wrap ((IntKind.i64.wrap (i_2*(t_1.length:Int)))+k_3)).toNat) 1)[(IntKind.i64.wrap ((IntKind.i64.wrap (i_2*(t_1.length:Int)))+k_3)).toNat]?).bind fun xq5 =>
  some (decide (xq5=1),(rq3.2.1.set ((IntKind.i64.wrap ((IntKind.i64.wrap (i_2*(t_1.length:Int)))+k_3)).toNat) 1,())))
  ((atI rq3.2.1 (IntKind.i64.wrap ((IntKind.i64.wrap (i_2*(t_1.length:Int)))+k_3))).bind fun _ =>
  (rq3.2.1[(IntKind.i64.wrap ((IntKind.i64.wrap (i_2*(t_1.length:Int)))+k_3)).toNat]?).bind fun xq6 =>
  some (decide (xq6=1),(rq3.2.1,()))))
  ((atI known_4 (IntKind.i64.wrap ((IntKind.i64.wrap (i_2*(t_1.length:Int)))+k_3))).bind fun _ =>
  (known_4[(IntKind.i64.wrap ((IntKind.i64.wrap (i_2*(t_1.length:Int)))+k_3)).toNat]?).bind fun xq7 =>
  some (decide (xq7=1),(known_4,())))
def V9 (self_V9 self_V10:T20) (s_0 t_1:Y4) (i_2 k_3:Int) (known_4:Y4):Z10:=V9_s self_V9 self_V10 s_0 t_1 i_2 k_3 known_4
def A_V9 (self_V9 self_V10:T20):Cfg:=mkCfg tab [(47,T_V10 self_V10)] []
theorem run_V9 (self_V9 self_V10:T20) (N:Nat) (x:((T_V9 self_V9)).a.den):runF (A_V9 self_V9 self_V10) N Try.f41 (T_V9 self_V9) x=V9 self_V9 self_V10 x.1 x.2.1 x.2.2.1 x.2.2.2.1 x.2.2.2.2.1:=by kernel_rfl
theorem fn_V9:FnOk Try.prog 41:=⟨_,Try.func41,by kernel_rfl,by kernel_rfl⟩
def wi9 (self_V9 self_V10:T20) (s_0 t_1:Y4) (i_2 k_3:Int) (known_4:Y4):Z10 :=
  (atI s_0 i_2).bind fun xq1 =>
  cond (decide (xq1=(-2:Int)))
  ((self_V9 (s_0,t_1,IntKind.i64.wrap (i_2+1),k_3,known_4,())).bind fun rq2 =>
  cond rq2.1
  ((V2 big s_0 (IntKind.i64.wrap (i_2+1))).bind fun rq3 =>
  (self_V9 (s_0,t_1,rq3.1,k_3,rq2.2.1,())).bind fun rq4 =>
  some (rq4.1,(rq4.2.1,())))
  (some (false,(rq2.2.1,()))))
  ((atI t_1 k_3).bind fun xq5 =>
  cond (decide (xq5=(-1:Int)))
  ((self_V9 (s_0,t_1,i_2,IntKind.i64.wrap (k_3+1),known_4,())).bind fun rq6 =>
  cond rq6.1
  ((V2 big t_1 (IntKind.i64.wrap (k_3+1))).bind fun rq7 =>
  (self_V9 (s_0,t_1,i_2,rq7.1,rq6.2.1,())).bind fun rq8 =>
  some (rq8.1,(rq8.2.1,())))
  (some (false,(rq6.2.1,()))))
  ((atI s_0 i_2).bind fun xq9 =>
  cond (decide (0≤xq9))
  ((atI t_1 k_3).bind fun xq10 =>
  cond (decide (0≤xq10))
  ((atI s_0 i_2).bind fun xq11 =>
  (atI t_1 k_3).bind fun xq12 =>
  some (decide (xq11=xq12),(known_4,())))
  ((atI s_0 i_2).bind fun xq13 =>
  cond (decide (xq13=(-1:Int)))
  ((self_V9 (s_0,t_1,IntKind.i64.wrap (i_2+1),k_3,known_4,())).bind fun rq14 =>
  cond rq14.1
  (some (true,(rq14.2.1,())))
  ((V2 big s_0 (IntKind.i64.wrap (i_2+1))).bind fun rq15 =>
  (self_V9 (s_0,t_1,rq15.1,k_3,rq14.2.1,())).bind fun rq16 =>
  cond rq16.1
  (some (true,(rq16.2.1,())))
  ((atI t_1 k_3).bind fun xq17 =>
  cond (decide (xq17=(-2:Int)))
  ((self_V9 (s_0,t_1,i_2,IntKind.i64.wrap (k_3+1),rq16.2.1,())).bind fun rq18 =>
  cond rq18.1
  (some (true,(rq18.2.1,())))
  ((V2 big t_1 (IntKind.i64.wrap (k_3+1))).bind fun rq19 =>
  (self_V9 (s_0,t_1,i_2,rq19.1,rq18.2.1,())).bind fun rq20 =>
  some (rq20.1,(rq20.2.1,()))))
  (some (false,(rq16.2.1,()))))))
  ((atI t_1 k_3).bind fun xq21 =>
  cond (decide (xq21=(-2:Int)))
  ((self_V9 (s_0,t_1,i_2,IntKind.i64.wrap (k_3+1),known_4,())).bind fun rq22 =>
  cond rq22.1
  (some (true,(rq22.2.1,())))
  ((V2 big t_1 (IntKind.i64.wrap (k_3+1))).bind fun rq23 =>
  (self_V9 (s_0,t_1,i_2,rq23.1,rq22.2.1,())).bind fun rq24 =>
  some (rq24.1,(rq24.2.1,()))))
  (some (false,(known_4,()))))))
  ((atI s_0 i_2).bind fun xq25 =>
  cond (decide (xq25=(-1:Int)))
  ((self_V9 (s_0,t_1,IntKind.i64.wrap (i_2+1),k_3,known_4,())).bind fun rq26 =>
  cond rq26.1
  (some (true,(rq26.2.1,())))
  ((V2 big s_0 (IntKind.i64.wrap (i_2+1))).bind fun rq27 =>
  (self_V9 (s_0,t_1,rq27.1,k_3,rq26.2.1,())).bind fun rq28 =>
  cond rq28.1
  (some (true,(rq28.2.1,())))
  ((atI t_1 k_3).bind fun xq29 =>
  cond (decide (xq29=(-2:Int)))
  ((self_V9 (s_0,t_1,i_2,IntKind.i64.wrap (k_3+1),rq28.2.1,())).bind fun rq30 =>
  cond rq30.1
  (some (true,(rq30.2.1,())))
  ((V2 big t_1 (IntKind.i64.wrap (k_3+1))).bind fun rq31 =>
  (self_V9 (s_0,t_1,i_2,rq31.1,rq30.2.1,())).bind fun rq32 =>
  some (rq32.1,(rq32.2.1,()))))
  (some (false,(rq28.2.1,()))))))
  ((atI t_1 k_3).bind fun xq33 =>
  cond (decide (xq33=(-2:Int)))
  ((self_V9 (s_0,t_1,i_2,IntKind.i64.wrap (k_3+1),known_4,())).bind fun rq34 =>
  cond rq34.1
  (some (true,(rq34.2.1,())))
  ((V2 big t_1 (IntKind.i64.wrap (k_3+1))).bind fun rq35 =>
  (self_V9 (s_0,t_1,i_2,rq35.1,rq34.2.1,())).bind fun rq36 =>
  some (rq36.1,(rq36.2.1,()))))
  (some (false,(known_4,())))))))
def V10 (self_V9 self_V10:T20) (s_0 t_1:Y4) (i_2 k_3:Int) (known_4:Y4):Z10:=wi9 self_V9 self_V10 s_0 t_1 i_2 k_3 known_4
def A_V10 (self_V9 self_V10:T20):Cfg:=mkCfg tab [(41,T_V9 self_V9),(15,S_V2)] []
theorem run_V10 (self_V9 self_V10:T20) (N:Nat) (x:((T_V10 self_V10)).a.den):runF (A_V10 self_V9 self_V10) N Try.f47 (T_V10 self_V10) x=V10 self_V9 self_V10 x.1 x.2.1 x.2.2.1 x.2.2.2.1 x.2.2.2.2.1:=by kernel_rfl
theorem fn_V10:FnOk Try.prog 47:=⟨_,Try.func47,by kernel_rfl,by kernel_rfl⟩
def wi:Nat→(Z8→Z10)×(Z8→Z10)
  | 0=>(fun _=>none,fun _=>none)
  | d+1=>(fun x=>V9 (wi d).1 (wi d).2 x.1 x.2.1 x.2.2.1 x.2.2.2.1 x.2.2.2.2.1,fun x=>V10 (wi d).1 (wi d).2 x.1 x.2.1 x.2.2.1 x.2.2.2.1 x.2.2.2.2.1)
def R_V9 (d:Nat):Z8→Z10:=(wi d).1
def S_V9:Sig:=T_V9 (R_V9 big)
def R_V10 (d:Nat):Z8→Z10:=(wi d).2
def S_V10:Sig:=T_V10 (R_V10 big)
theorem wl:∀d,Gx.Good Try.prog 41 (T_V9 (R_V9 d))∧Gx.Good Try.prog 47 (T_V10 (R_V10 d))
  | 0=>⟨(fun x r h=>by cases(show(none:Option _)=some r from h)),(fun x r h=>by cases(show(none:Option _)=some r from h))⟩
  | d+1=>⟨(vg Try.func41 (of_decide_eq_true (by kernel_rfl)) fun x r h=>⟨A_V9 (R_V9 d) (R_V10 d),big,qu tabOk,jc8 (show SigsOk Try.prog [(47,T_V10 (R_V10 d))] from⟨⟨fn_V10,(wl d).2⟩,trivial⟩),(run_V9 (R_V9 d) (R_V10 d) big x).trans h⟩),(vg Try.func47 (of_decide_eq_true (by kernel_rfl)) fun x r h=>⟨A_V10 (R_V9 d) (R_V10 d),big,qu tabOk,jc8 (show SigsOk Try.prog [(41,T_V9 (R_V9 d)),(15,S_V2)] from⟨⟨fn_V9,(wl d).1⟩,ok_V2,trivial⟩),(run_V10 (R_V9 d) (R_V10 d) big x).trans h⟩)⟩
theorem good_V9:Gx.Good Try.prog 41 S_V9:=(wl big).1
theorem good_V10:Gx.Good Try.prog 47 S_V10:=(wl big).2
def wja (s_0 t_1:Y4):Z4 :=
  (mkI (0:Int) (IntKind.i64.wrap ((s_0.length:Int)*(t_1.length:Int)))).bind fun xq1=>(mkI (0:Int) (IntKind.i64.wrap ((s_0.length:Int)*(t_1.length:Int)))).bind fun xq2=>cond (decide ((IntKind.i64.wrap ((s_0.length:Int)*(t_1.length:Int)))≤(IntKind.i64.wrap ((s_0.length:Int)*(t_1.length:Int)))))
  ((R_V9 big (s_0,t_1,0,0,xq2,())).bind fun rq3 =>
  some (rq3.1,(())))
  none
def V12 (s_0 t_1:Y4):Z4:=wja s_0 t_1
def S_V12:Sig:=⟨(.pair Q0 Q2),[0,0],[],.unit,.bool,.i,fun x=>V12 x.1 x.2.1⟩
def A_V12:Cfg:=mkCfg tab [(41,S_V9)] []
theorem run_V12 (N x):runF A_V12 N Try.f35 S_V12 x=V12 x.1 x.2.1:=by kernel_rfl
theorem ok_V12:OK 35 S_V12:=gdR (A:=A_V12) tc Try.func35 (jc8 ⟨⟨fn_V9,good_V9⟩,trivial⟩) (run_V12 big)
def xx (rec:T21) (k:T17) (a0:Y3) (a3 a4:Int):Z2 :=
  cond (decide (a4<(a0.length:Int)))
  (cond (decide (a3≠a4))
  ((atI a0 a3).bind fun xq1 =>
  (atI a0 a4).bind fun xq2 =>
  (V12 xq1 xq2).bind fun rq3 =>
  cond rq3.1
  (cond (decide (a4<a3))
  (some (a3,(())))
  ((atI a0 a4).bind fun xq4 =>
  (atI a0 a3).bind fun xq5 =>
  (V12 xq4 xq5).bind fun rq6 =>
  cond (!rq6.1)
  (some (a3,(())))
  (rec a0 a3 (IntKind.i64.wrap (a4+1)))))
  (rec a0 a3 (IntKind.i64.wrap (a4+1))))
  (rec a0 a3 (IntKind.i64.wrap (a4+1))))
  (k a0 a3)
def za (rec:T17) (a0:Y3) (a3:Int):Z2 :=
  rec a0 (IntKind.i64.wrap (a3+1))
def xw (L5:T21) (k:Z2) (a0:Y3) (a3:Int):Z2 :=
  cond (decide (a3<(a0.length:Int)))
  (L5 a0 a3 0)
  (k)
def xu:Z2 :=
  some ((-1:Int),(()))
def wc7 (L2:T17) (m_0:Y3):Z2 :=
  L2 m_0 0
def wds (N:Nat) (k:T17):=itN (fun r=>xx r k) fun _ _ _=>none
def yk (N:Nat) (rec:T17) (k:Z2):=wds N (za rec) N
def wdr (N:Nat) (k:Z2):=itN (fun r=>xw (yk N r k) k) fun _ _=>none
def wdq (N:Nat):=wdr N (xu) N
def V13 (N:Nat) (m_0:Y3):Z2:=wc7 (wdq N) m_0
def S_V13:Sig:=⟨(.pair Q3 .unit),[0],[],.unit,I,.i,fun x=>V13 big x.1⟩
def A_V13:Cfg:=mkCfg tab [(35,S_V12)] [(4,[B1,D0,D0,B0]),(10,[B1,D0,D0,B0,B0]),(19,[]),(7,[B1,D0,D0,B0])]
noncomputable def yl (N n:Nat) (K:T18) (a0:Y3) (a3:Int):Z2:=itr A_V13 N 4 Try.f20 [1,0,1,0,0] n ([W1 a0,.u,.u,W0 a3]++us 45) K
noncomputable def z9 (N n:Nat) (K:T18) (a0:Y3) (a3 a4:Int):Z2:=itr A_V13 N 10 Try.f20 [1,0,1,0,0,1,0,0,1,0,0] n ([W1 a0,.u,.u,W0 a3,W0 a4]++us 44) K
noncomputable def wc8:Ex→St→Z2:=finish A_V13 S_V13 Try.f20.results.toList
noncomputable def wa7 (kX:T10):Z2:=kX ([]++us 49)
noncomputable def y9 (kX:T10) (kO:T7):=exK wc8 0 (A_V13.shape 19) kX kO
noncomputable def wgw (kX:T10) (a0:Y3) (a3:Int):Z2:=kX ([W1 a0,.u,.u,W0 a3]++us 45)
noncomputable def wgv (kX:T10) (kO:T7):=exK wc8 2 (A_V13.shape 7) kX kO
theorem wg0 (N kX kO):∀n,z9 N n (wgv kX kO)=wds N (wgw kX) n :=
 itE rfl fun m=>by kernel_rfl
noncomputable def wa6 (N m:Nat) (kX:T10) (kO:T7):=(blockK 2 (blockK 1 (sqK A_V13 N 7 500003 Try.f20 [1,0,1,0,0,1,1] (itK A_V13 N 4 Try.f20 [1,0,1,0,0] m (y9 kX kO)))))
noncomputable def wg2 (N m:Nat) (kX:T10) (kO:T7) (st':St):Z2:=rn A_V13 N Try.f20 [1,0,1,0,0,1,1] st' (itK A_V13 N 4 Try.f20 [1,0,1,0,0] m (y9 kX kO))
theorem wjt (N m kX kO) {r}(h:yl N m (y9 kX kO)=r):z9 N N (wa6 N m kX kO)=yk N r (wa7 kX):=by
 rw[show z9 N N (wa6 N m kX kO)=z9 N N (wgv (wg2 N m kX kO) fun j=>(wa6 N m kX kO) (.exit j)) from(by funext _ _ _;exact jly),wg0,show wgw (wg2 N m kX kO)=za (yl N m (y9 kX kO)) by kernel_rfl,h];rfl
theorem wgz (N kX kO):∀n,yl N n (y9 kX kO)=wdr N (wa7 kX) n :=
 itE rfl fun m=>(show _=xw (z9 N N (wa6 N m kX kO)) (wa7 kX) by kernel_rfl).trans (by rw[wjt N m kX kO rfl]<;>rfl)
noncomputable def wa5 (N:Nat):=(blockK 0 (sqK A_V13 N 19 500009 Try.f20 [1,1] wc8))
noncomputable def wg1 (N:Nat) (st':St):Z2:=rn A_V13 N Try.f20 [1,1] st' wc8
theorem wjs (N):yl N N (wa5 N)=wdq N:=by
 rw[show yl N N (wa5 N)=yl N N (y9 (wg1 N) fun j=>(wa5 N) (.exit j)) from(by funext _ _;exact jly),wgz,show wa7 (wg1 N)=xu by kernel_rfl];rfl
theorem run_V13 (N x):runF A_V13 N Try.f20 S_V13 x=V13 N x.1:=(show _=(wc7 (yl N N (wa5 N)) x.1) by kernel_rfl).trans (by rw[wjs N];rfl)
theorem ok_V13:OK 20 S_V13:=gdR (A:=A_V13) tc Try.func20 (jc8 ⟨ok_V12,trivial⟩) (run_V13 big)
def yn (rec:T12) (k:T5) (a0:Y3) (a1:Y4) (a6:Int) (a7:Y3) (a8:Int):Z6 :=
  cond (decide (a8<(a7.length:Int)))
  ((atI a7 a8).bind fun xq5 =>
  (V12 xq5 a1).bind fun rq6 =>
  cond rq6.1
  ((atI a7 a8).bind fun xq7 =>
  some ((a6,xq7,()),(())))
  (rec a0 a1 a6 a7 (IntKind.i64.wrap (a8+1))))
  (k a0 a1 a6)
def zb (rec:T5) (a0:Y3) (a1:Y4) (a6:Int):Z6 :=
  rec a0 a1 (IntKind.i64.wrap (a6+1))
def x5 (rec:T5) (L7:T12) (k:Z6) (a0:Y3) (a1:Y4) (a6:Int):Z6 :=
  cond (decide (a6<(a0.length:Int)))
  ((atI a0 a6).bind fun xq1 =>
  (atI xq1 0).bind fun xq2 =>
  cond (decide (xq2≠(-1:Int)))
  (rec a0 a1 (IntKind.i64.wrap (a6+1)))
  ((atI a0 a6).bind fun xq3 =>
  (R_V7 big (xq3,(-1:Int),())).bind fun rq4 =>
  L7 a0 a1 a6 rq4.1 0))
  (k)
def w8:Z6 :=
  some (((-1:Int),[],()),(()))
def wc9 (L2:T5) (m_0:Y3) (whole_1:Y4):Z6 :=
  L2 m_0 whole_1 0
def wdw (N:Nat) (k:T5):=itN (fun r=>yn r k) fun _ _ _ _ _=>none
def xy (N:Nat) (rec:T5) (k:Z6):=wdw N (zb rec) N
def wdv (N:Nat) (k:Z6):=itN (fun r=>x5 r (xy N r k) k) fun _ _ _=>none
def wdt (N:Nat):=wdv N (w8) N
def V14 (N:Nat) (m_0:Y3) (whole_1:Y4):Z6:=wc9 (wdt N) m_0 whole_1
def S_V14:Sig:=⟨(.pair Q3 Q2),[0,0],[],.unit,(.tup (.pair I Q2)),.i,fun x=>V14 big x.1 x.2.1⟩
def A_V14:Cfg:=mkCfg tab [(19,S_V7),(35,S_V12)] [(4,([B1,B2]++dr 4 [B0])),(14,([B1,B2]++dr 4 [B0,B1,B0])),(23,[]),(21,([B1,B2]++dr 4 ([B0,B1,B0]++dr 29 [.as .bool .i]))),(7,([B1,B2]++dr 4 [B0]))]
noncomputable def xz (N n:Nat) (K:Ex→St→Z6) (a0:Y3) (a1:Y4) (a6:Int):Z6:=itr A_V14 N 4 Try.f21 [1,0,1,0,0] n (([W1 a0,W2 a1]++ud 4 [W0 a6])++us 38) K
noncomputable def waa (N n:Nat) (K:Ex→St→Z6) (a0:Y3) (a1:Y4) (a6:Int) (a7:Y3) (a8:Int):Z6:=itr A_V14 N 14 Try.f21 [1,0,1,0,0,1,0,0,1,1,1,0,0] n (([W1 a0,W2 a1]++ud 4 [W0 a6,W1 a7,W0 a8])++us 36) K
noncomputable def wda:Ex→St→Z6:=finish A_V14 S_V14 Try.f21.results.toList
noncomputable def wba (kX:St→Z6):Z6:=kX ([]++us 45)
noncomputable def ym (kX:St→Z6) (kO:Nat→St→Z6):=exK wda 0 (A_V14.shape 23) kX kO
noncomputable def wg4 (kX:St→Z6) (a0:Y3) (a1:Y4) (a6:Int):Z6:=kX (([W1 a0,W2 a1]++ud 4 [W0 a6])++us 38)
noncomputable def wg3 (kX:St→Z6) (kO:Nat→St→Z6):=exK wda 2 (A_V14.shape 7) kX kO
theorem wg8 (N kX kO):∀n,waa N n (wg3 kX kO)=wdw N (wg4 kX) n :=
 itE rfl fun m=>by kernel_rfl
noncomputable def wa9 (N m:Nat) (kX:St→Z6) (kO:Nat→St→Z6):=(blockK 2 (blockK 1 (sqK A_V14 N 7 500003 Try.f21 [1,0,1,0,0,1,1] (itK A_V14 N 4 Try.f21 [1,0,1,0,0] m (ym kX kO)))))
noncomputable def wha (N m:Nat) (kX:St→Z6) (kO:Nat→St→Z6) (st':St):Z6:=rn A_V14 N Try.f21 [1,0,1,0,0,1,1] st' (itK A_V14 N 4 Try.f21 [1,0,1,0,0] m (ym kX kO))
theorem wjv (N m kX kO) {r}(h:xz N m (ym kX kO)=r):waa N N (wa9 N m kX kO)=xy N r (wba kX):=by
 rw[show waa N N (wa9 N m kX kO)=waa N N (wg3 (wha N m kX kO) fun j=>(wa9 N m kX kO) (.exit j)) from(by funext _ _ _ _ _;exact jly),wg8,show wg4 (wha N m kX kO)=zb (xz N m (ym kX kO)) by kernel_rfl,h];rfl
theorem wg7 (N kX kO):∀n,xz N n (ym kX kO)=wdv N (wba kX) n :=
 itE rfl fun m=>(show _=x5 (xz N m (ym kX kO)) (waa N N (wa9 N m kX kO)) (wba kX) by kernel_rfl).trans (by rw[wjv N m kX kO rfl]<;>rfl)
noncomputable def wa8 (N:Nat):=(blockK 0 (sqK A_V14 N 23 500011 Try.f21 [1,1] wda))
noncomputable def wg9 (N:Nat) (st':St):Z6:=rn A_V14 N Try.f21 [1,1] st' wda
theorem wju (N):xz N N (wa8 N)=wdt N:=by
 rw[show xz N N (wa8 N)=xz N N (ym (wg9 N) fun j=>(wa8 N) (.exit j)) from(by funext _ _ _;exact jly),wg7,show wba (wg9 N)=w8 by kernel_rfl];rfl
theorem run_V14 (N x):runF A_V14 N Try.f21 S_V14 x=V14 N x.1 x.2.1:=(show _=(wc9 (xz N N (wa8 N)) x.1 x.2.1) by kernel_rfl).trans (by rw[wju N];rfl)
theorem ok_V14:OK 21 S_V14:=gdR (A:=A_V14) tc Try.func21 (jc8 ⟨⟨fn_V7,good_V7⟩,ok_V12,trivial⟩) (run_V14 big)
def wac (rec:T15) (k:Z4) (a0 a1:Y4) (a5:Int):Z4 :=
  cond (decide (a5<(a0.length:Int)))
  ((atI a0 a5).bind fun xq1 =>
  (atI a1 a5).bind fun xq2 =>
  cond (decide (xq1≠xq2))
  ((atI a0 a5).bind fun xq3 =>
  (atI a1 a5).bind fun xq4 =>
  some (decide (xq3<xq4),(())))
  (rec a0 a1 (IntKind.i64.wrap (a5+1))))
  (k)
def zd:Z4 :=
  some (false,(()))
def wfq (L2:T15) (a_0 b_1:Y4):Z4 :=
  L2 a_0 b_1 0
def wdy (N:Nat) (k:Z4):=itN (fun r=>wac r k) fun _ _ _=>none
def wdx (N:Nat):=wdy N (zd) N
def V15 (N:Nat) (a_0 b_1:Y4):Z4:=wfq (wdx N) a_0 b_1
def S_V15:Sig:=⟨(.pair Q0 Q2),[0,0],[],.unit,.bool,.i,fun x=>V15 big x.1 x.2.1⟩
def A_V15:Cfg:=mkCfg tab [] [(4,([B2,B2]++dr 3 [B0])),(13,[])]
noncomputable def wab (N n:Nat) (K:Ex→St→Z4) (a0 a1:Y4) (a5:Int):Z4:=itr A_V15 N 4 Try.f36 [1,0,1,0,0] n (([W2 a0,W2 a1]++ud 3 [W0 a5])++us 24) K
noncomputable def wfr:Ex→St→Z4:=finish A_V15 S_V15 Try.f36.results.toList
noncomputable def whc (kX:St→Z4):Z4:=kX ([]++us 30)
noncomputable def whb (kX:St→Z4) (kO:Nat→St→Z4):=exK wfr 0 (A_V15.shape 13) kX kO
theorem whd (N kX kO):∀n,wab N n (whb kX kO)=wdy N (whc kX) n :=
 itE rfl fun m=>by kernel_rfl
noncomputable def wbb (N:Nat):=(blockK 0 (sqK A_V15 N 13 500006 Try.f36 [1,1] wfr))
noncomputable def whe (N:Nat) (st':St):Z4:=rn A_V15 N Try.f36 [1,1] st' wfr
theorem wjw (N):wab N N (wbb N)=wdx N:=by
 rw[show wab N N (wbb N)=wab N N (whb (whe N) fun j=>(wbb N) (.exit j)) from(by funext _ _ _;exact jly),whd,show whc (whe N)=zd by kernel_rfl];rfl
theorem run_V15 (N x):runF A_V15 N Try.f36 S_V15 x=V15 N x.1 x.2.1:=(show _=(wfq (wab N N (wbb N)) x.1 x.2.1) by kernel_rfl).trans (by rw[wjw N];rfl)
theorem ok_V15:OK 36 S_V15:=gdR (A:=A_V15) tc Try.func36 (jc8 trivial) (run_V15 big)
def wd0 (rec k:Y3→Y4→Int→Option Y2) (a0:Y3) (a1:Y4) (a5:Int):Option Y2 :=
  cond (decide (0<a5))
  ((atI a0 (IntKind.i64.wrap (a5-1))).bind fun xq1 =>
  cond (decide ((a1.length:Int)<(xq1.length:Int)))
  (rec a0 a1 (IntKind.i64.wrap (a5-1)))
  ((atI a0 (IntKind.i64.wrap (a5-1))).bind fun xq2 =>
  cond (decide ((a1.length:Int)=(xq2.length:Int)))
  ((atI a0 (IntKind.i64.wrap (a5-1))).bind fun xq3 =>
  (V15 big a1 xq3).bind fun rq4 =>
  cond rq4.1
  (rec a0 a1 (IntKind.i64.wrap (a5-1)))
  (k a0 a1 a5))
  (k a0 a1 a5)))
  (k a0 a1 a5)
def yo (a0:Y3) (a1:Y4) (a5:Int):Option Y2 :=
  (slI a0 0 a5).bind fun xq5 =>
  (appI [] xq5).bind fun xq6 =>
  (appI xq6 [a1]).bind fun xq7 =>
  (slI a0 a5 a0.length).bind fun xq8 =>
  (appI xq7 xq8).bind fun xq9 =>
  some (xq9,(()))
def wfs (L2:Y3→Y4→Int→Option Y2) (lists_0:Y3) (l_1:Y4):Option Y2 :=
  L2 lists_0 l_1 (lists_0.length:Int)
def wd1 (N:Nat) (k:Y3→Y4→Int→Option Y2):=itN (fun r=>wd0 r k) fun _ _ _=>none
def wdz (N:Nat):=wd1 N (yo) N
def V16 (N:Nat) (lists_0:Y3) (l_1:Y4):Option Y2:=wfs (wdz N) lists_0 l_1
def S_V16:Sig:=⟨(.pair Q3 Q2),[0,0],[],.unit,Q3,.i,fun x=>V16 big x.1 x.2.1⟩
def A_V16:Cfg:=mkCfg tab [(36,S_V15)] [(4,([B1,B2]++dr 3 [B0])),(9,([B1,B2]++dr 3 [B0]))]
noncomputable def wad (N n:Nat) (K:Ex→St→Option Y2) (a0:Y3) (a1:Y4) (a5:Int):Option Y2:=itr A_V16 N 4 Try.f22 [1,1,0,0,0] n (([W1 a0,W2 a1]++ud 3 [W0 a5])++us 49) K
noncomputable def wft:Ex→St→Option Y2:=finish A_V16 S_V16 Try.f22.results.toList
noncomputable def whg (kX:St→Option Y2) (a0:Y3) (a1:Y4) (a5:Int):Option Y2:=kX (([W1 a0,W2 a1]++ud 3 [W0 a5])++us 49)
noncomputable def whf (kX:St→Option Y2) (kO:Nat→St→Option Y2):Ex→St→Option Y2:=exK wft 0 (A_V16.shape 9) kX kO
theorem whh (N kX kO):∀n,wad N n (whf kX kO)=wd1 N (whg kX) n :=
 itE rfl fun m=>by kernel_rfl
noncomputable def wbc (N:Nat):Ex→St→Option Y2:=(blockK 0 (sqK A_V16 N 9 500004 Try.f22 [1,1,1] wft))
noncomputable def whi (N:Nat) (st':St):Option Y2:=rn A_V16 N Try.f22 [1,1,1] st' wft
theorem wjx (N):wad N N (wbc N)=wdz N:=by
 rw[show wad N N (wbc N)=wad N N (whf (whi N) fun j=>(wbc N) (.exit j)) from(by funext _ _ _;exact jly),whh,show whg (whi N)=yo by kernel_rfl];rfl
theorem run_V16 (N x):runF A_V16 N Try.f22 S_V16 x=V16 N x.1 x.2.1:=(show _=(wfs (wad N N (wbc N)) x.1 x.2.1) by kernel_rfl).trans (by rw[wjx N];rfl)
theorem ok_V16:OK 22 S_V16:=gdR (A:=A_V16) tc Try.func22 (jc8 ⟨ok_V15,trivial⟩) (run_V16 big)
def wjb (sign_0:Int) (s_1 t_2:Y4):Z0 :=
  (appI [sign_0] s_1).bind fun xq1 =>
  (appI xq1 t_2).bind fun xq2 =>
  some (xq2,(()))
def V17 (sign_0:Int) (s_1 t_2:Y4):Z0:=wjb sign_0 s_1 t_2
def S_V17:Sig:=⟨(.pair I (.pair Q0 Q2)),[0,0,0],[],.unit,Q0,O5,fun x=>V17 x.1 x.2.1 x.2.2.1⟩
def A_V17:Cfg:=mkCfg tab [] []
theorem run_V17 (N x):runF A_V17 N Try.f23 S_V17 x=V17 x.1 x.2.1 x.2.2.1:=by kernel_rfl
theorem ok_V17:OK 23 S_V17:=gdR (A:=A_V17) tc Try.func23 (jc8 trivial) (run_V17 big)
def T_V18 (self:T0):Sig:={ a:=Q2,md:=[0],mf:=[],m := .unit,r:=Q0,rf := .i,f:=self }
def wcj (self_V18:T0) (rec:T16) (k:T24) (a9:Y3) (a11:Y4) (a12:Int):Z0 :=
  cond (decide (0≤a12))
  ((atI a9 a12).bind fun xq28 =>
  (V17 (-2:Int) xq28 a11).bind fun rq29 =>
  rec a9 rq29.1 (IntKind.i64.wrap (a12-1)))
  (k a11)
def zg (self_V18:T0) (a11:Y4):Z0 :=
  some (a11,(()))
def zh (self_V18:T0) (rec:T23) (k:Y3→Z0) (a5 a9:Y3) (a10:Int):Z0 :=
  cond (decide (a10<(a5.length:Int)))
  ((atI a5 a10).bind fun xq25 =>
  (V16 big a9 xq25).bind fun rq26 =>
  rec a5 rq26.1 (IntKind.i64.wrap (a10+1)))
  (k a9)
def yh (self_V18:T0) (L20:T16) (a9:Y3):Z0 :=
  (atI a9 (IntKind.i64.wrap ((a9.length:Int)-1))).bind fun xq27 =>
  L20 a9 xq27 (IntKind.i64.wrap ((a9.length:Int)-2))
def wd2 (self_V18:T0) (rec:T11) (k:Y3→Z0) (a0:Y4) (a5:Y3):Z0 :=
  (V13 big a5).bind fun rq13 =>
  cond (decide (0≤rq13.1))
  ((slI a5 0 rq13.1).bind fun xq14 =>
  (appI [] xq14).bind fun xq15 =>
  (slI a5 (IntKind.i64.wrap (rq13.1+1)) a5.length).bind fun xq16 =>
  (appI xq15 xq16).bind fun xq17 =>
  rec a0 xq17)
  ((V14 big a5 a0).bind fun rq18 =>
  cond (decide (rq18.1.1<0))
  (k a5)
  ((slI a5 0 rq18.1.1).bind fun xq19 =>
  (appI [] xq19).bind fun xq20 =>
  (R_V7 big (rq18.1.2.1,(-2:Int),())).bind fun rq21 =>
  (appI xq20 rq21.1).bind fun xq22 =>
  (slI a5 (IntKind.i64.wrap (rq18.1.1+1)) a5.length).bind fun xq23 =>
  (appI xq22 xq23).bind fun xq24 =>
  rec a0 xq24))
def yp (self_V18:T0) (L15:T23) (a5:Y3):Z0 :=
  L15 a5 [] 0
def wbf (self_V18:T0) (L7:T11) (w_0:Y4):Z0 :=
  (atI w_0 0).bind fun xq1 =>
  cond (decide (0≤xq1))
  ((V4 w_0).bind fun rq2 =>
  some (rq2.1,(())))
  ((atI w_0 0).bind fun xq3 =>
  cond (decide (xq3=(-1:Int)))
  ((V5 big w_0).bind fun rq4 =>
  (self_V18 (rq4.1,())).bind fun rq5 =>
  (V5 big rq5.1).bind fun rq6 =>
  some (rq6.1,(())))
  ((V6 w_0).bind fun rq7 =>
  (self_V18 (rq7.1.1,())).bind fun rq8 =>
  (R_V7 big (rq8.1,(-2:Int),())).bind fun rq9 =>
  (self_V18 (rq7.1.2.1,())).bind fun rq10 =>
  (R_V7 big (rq10.1,(-2:Int),())).bind fun rq11 =>
  (appI rq9.1 rq11.1).bind fun xq12 =>
  L7 w_0 xq12))
def wd3 (self_V18:T0) (N:Nat) (k:Y3→Z0):=itN (fun r=>wd2 self_V18 r k) fun _ _=>none
def wck (self_V18:T0) (N:Nat) (k:Y3→Z0):=itN (fun r=>zh self_V18 r k) fun _ _ _=>none
def wcl (self_V18:T0) (N:Nat) (k:T24):=itN (fun r=>wcj self_V18 r k) fun _ _ _=>none
def xo (self_V18:T0) (N:Nat):Y3→Y4→Int→Z0:=wcl self_V18 N (zg self_V18) N
def xn (self_V18:T0) (N:Nat):Y3→Y3→Int→Z0:=wck self_V18 N (yh self_V18 (xo self_V18 N)) N
def wbd (self_V18:T0) (N:Nat):Y4→Y3→Z0:=wd3 self_V18 N (yp self_V18 (xn self_V18 N)) N
def V18 (self_V18:T0) (N:Nat) (w_0:Y4):Z0:=wbf self_V18 (wbd self_V18 N) w_0
def A_V18 (self_V18:T0):Cfg:=mkCfg tab [(16,S_V4),(17,S_V5),(12,T_V18 self_V18),(18,S_V6),(19,S_V7),(20,S_V13),(21,S_V14),(22,S_V16),(23,S_V17)] [(14,([B2]++dr 4 [.as Q3 O5])),(19,([B2]++dr 4 ([B1,B0]++dr 35 [.as .bool .i]))),(27,(dr 5 [B1])),(30,(dr 5 ([B1]++dr 3 [B1,B0]))),(37,(dr 9 [B1])),(40,(dr 9 [B1,D0,B2,B0])),(47,(dr 11 [B2]))]
noncomputable def wae (self_V18:T0) (N n:Nat) (K:T14) (a0:Y4) (a5:Y3):Z0:=itr (A_V18 self_V18) N 14 Try.f12 [1,1,1,1,1,0,0,0] n (([W2 a0]++ud 4 [.val Q3 O5 a5])++us 101) K
noncomputable def ze (self_V18:T0) (N n:Nat) (K:T14) (a5 a9:Y3) (a10:Int):Z0:=itr (A_V18 self_V18) N 30 Try.f12 [1,1,1,1,1,1,1,0,1,0,0] n ((ud 5 ([W1 a5]++ud 3 [W1 a9,W0 a10]))++us 96) K
noncomputable def zf (self_V18:T0) (N n:Nat) (K:T14) (a9:Y3) (a11:Y4) (a12:Int):Z0:=itr (A_V18 self_V18) N 40 Try.f12 [1,1,1,1,1,1,1,1,1,0,1,0,0] n ((ud 9 [W1 a9,.u,W2 a11,W0 a12])++us 94) K
noncomputable def yf (self_V18:T0):Ex→St→Z0:=finish (A_V18 self_V18) (T_V18 self_V18) Try.f12.results.toList
noncomputable def whk (kX:T8) (a5:Y3):Z0:=kX ((ud 5 [W1 a5])++us 101)
noncomputable def whj (self_V18:T0) (kX:T8) (kO:T6):=exK (yf self_V18) 0 ((A_V18 self_V18).shape 27) kX kO
noncomputable def wfc (kX:T8) (a9:Y3):Z0:=kX ((ud 9 [W1 a9])++us 97)
noncomputable def wfa (self_V18:T0) (kX:T8) (kO:T6):=exK (yf self_V18) 2 ((A_V18 self_V18).shape 37) kX kO
noncomputable def wfd (kX:T8) (a11:Y4):Z0:=kX ((ud 11 [W2 a11])++us 95)
noncomputable def wfb (self_V18:T0) (kX:T8) (kO:T6):=exK (yf self_V18) 4 ((A_V18 self_V18).shape 47) kX kO
theorem whl (self_V18:T0) (N kX kO):∀n,wae self_V18 N n (whj self_V18 kX kO)=wd3 self_V18 N (whk kX) n :=
 itE rfl fun m=>by kernel_rfl
noncomputable def wbe (self_V18:T0) (N:Nat):=(blockK 0 (sqK (A_V18 self_V18) N 27 500013 Try.f12 [1,1,1,1,1,1] (yf self_V18)))
theorem wfu (self_V18:T0) (N kX kO):∀n,ze self_V18 N n (wfa self_V18 kX kO)=wck self_V18 N (wfc kX) n :=
 itE rfl fun m=>by kernel_rfl
noncomputable def wat (self_V18:T0) (N:Nat):=(blockK 2 (sqK (A_V18 self_V18) N 37 500018 Try.f12 [1,1,1,1,1,1,1,1] (yf self_V18)))
theorem wfv (self_V18:T0) (N kX kO):∀n,zf self_V18 N n (wfb self_V18 kX kO)=wcl self_V18 N (wfd kX) n :=
 itE rfl fun m=>by kernel_rfl
noncomputable def wau (self_V18:T0) (N:Nat):=(blockK 4 (sqK (A_V18 self_V18) N 47 500023 Try.f12 [1,1,1,1,1,1,1,1,1,1] (yf self_V18)))
noncomputable def wff (self_V18:T0) (N:Nat) (st':St):Z0:=rn (A_V18 self_V18) N Try.f12 [1,1,1,1,1,1,1,1,1,1] st' (yf self_V18)
theorem wit (self_V18:T0) (N):zf self_V18 N N (wau self_V18 N)=xo self_V18 N:=by
 rw[show zf self_V18 N N (wau self_V18 N)=zf self_V18 N N (wfb self_V18 (wff self_V18 N) fun j=>(wau self_V18 N) (.exit j)) from(by funext _ _ _;exact jly),wfv,show wfd (wff self_V18 N)=zg self_V18 by kernel_rfl];rfl
noncomputable def wfe (self_V18:T0) (N:Nat) (st':St):Z0:=rn (A_V18 self_V18) N Try.f12 [1,1,1,1,1,1,1,1] st' (yf self_V18)
theorem wis (self_V18:T0) (N):ze self_V18 N N (wat self_V18 N)=xn self_V18 N:=by
 rw[show ze self_V18 N N (wat self_V18 N)=ze self_V18 N N (wfa self_V18 (wfe self_V18 N) fun j=>(wat self_V18 N) (.exit j)) from(by funext _ _ _;exact jly),wfu,show wfc (wfe self_V18 N)=yh self_V18 (zf self_V18 N N (wau self_V18 N)) by kernel_rfl,wit self_V18 N];rfl
noncomputable def whm (self_V18:T0) (N:Nat) (st':St):Z0:=rn (A_V18 self_V18) N Try.f12 [1,1,1,1,1,1] st' (yf self_V18)
theorem wjz (self_V18:T0) (N):wae self_V18 N N (wbe self_V18 N)=wbd self_V18 N:=by
 rw[show wae self_V18 N N (wbe self_V18 N)=wae self_V18 N N (whj self_V18 (whm self_V18 N) fun j=>(wbe self_V18 N) (.exit j)) from(by funext _ _;exact jly),whl,show whk (whm self_V18 N)=yp self_V18 (ze self_V18 N N (wat self_V18 N)) by kernel_rfl,wis self_V18 N];rfl
theorem run_V18 (self_V18:T0) (N:Nat) (x:((T_V18 self_V18)).a.den):runF (A_V18 self_V18) N Try.f12 (T_V18 self_V18) x=V18 self_V18 N x.1:=(show _=(wbf self_V18 (wae self_V18 N N (wbe self_V18 N)) x.1) by kernel_rfl).trans (by rw[wjz self_V18 N];rfl)
theorem fn_V18:FnOk Try.prog 12:=⟨_,Try.func12,by kernel_rfl,by kernel_rfl⟩
def R_V18:Nat→Z5→Z0
  | 0,_=>none
  | d+1,x=>V18 (R_V18 d) big x.1
def S_V18:Sig:=T_V18 (R_V18 big)
theorem xm:∀d,Gx.Good Try.prog 12 (T_V18 (R_V18 d))
  | 0=>fun x r h=>by cases h
  | d+1=>vg Try.func12 (of_decide_eq_true (by kernel_rfl)) fun x r h=>⟨A_V18 (R_V18 d),big,qu tabOk,jc8 (show SigsOk Try.prog [(16,S_V4),(17,S_V5),(12,T_V18 (R_V18 d)),(18,S_V6),(19,S_V7),(20,S_V13),(21,S_V14),(22,S_V16),(23,S_V17)] from⟨ok_V4,ok_V5,⟨fn_V18,xm d⟩,ok_V6,⟨fn_V7,good_V7⟩,ok_V13,ok_V14,ok_V16,ok_V17,trivial⟩),(run_V18 (R_V18 d) big x).trans h⟩
theorem good_V18:Gx.Good Try.prog 12 S_V18:=xm big
def wjc (w_0:Y4):Option ((Y4×(Bool×Unit))×Unit) :=
  (V3 w_0).bind fun rq1 =>
  cond (!rq1.1)
  (some (([],false,()),(())))
  (some ((w_0,true,()),(())))
def V20 (w_0:Y4):Option ((Y4×(Bool×Unit))×Unit):=wjc w_0
def S_V20:Sig:=⟨Q2,[0],[],.unit,(.tup (.pair Q0 (.pair .bool .unit))),.i,fun x=>V20 x.1⟩
def A_V20:Cfg:=mkCfg tab [(10,S_V3)] []
theorem run_V20 (N x):runF A_V20 N Try.f11 S_V20 x=V20 x.1:=by kernel_rfl
theorem ok_V20:OK 11 S_V20:=gdR (A:=A_V20) tc Try.func11 (jc8 ⟨ok_V3,trivial⟩) (run_V20 big)
def wfw (w_0:Y4):Option ((Y4×(Bool×Unit))×Unit) :=
  (V3 w_0).bind fun rq1 =>
  cond (!rq1.1)
  (some (([],false,()),(())))
  ((R_V18 big (w_0,())).bind fun rq2 =>
  (V20 rq2.1).bind fun rq3 =>
  some ((rq3.1.1,rq3.1.2.1,()),(())))
def V21 (w_0:Y4):Option ((Y4×(Bool×Unit))×Unit):=wfw w_0
def S_V21:Sig:=⟨Q2,[0],[],.unit,(.tup (.pair Q0 (.pair .bool .unit))),.i,fun x=>V21 x.1⟩
def A_V21:Cfg:=mkCfg tab [(10,S_V3),(12,S_V18),(11,S_V20)] []
theorem run_V21 (N x):runF A_V21 N Try.f4 S_V21 x=V21 x.1:=by kernel_rfl
theorem ok_V21:OK 4 S_V21:=gdR (A:=A_V21) tc Try.func4 (jc8 ⟨ok_V3,⟨fn_V18,good_V18⟩,ok_V20,trivial⟩) (run_V21 big)
def wd7 (rec:T13) (k:Int→Z2) (a0:Y4) (a1 a5:Int):Z2 :=
  cond (decide (0<a5))
  (cond (decide ((a0.length:Int)≤a1))
  (some ((-1:Int),(())))
  ((atI a0 a1).bind fun xq1 =>
  cond (decide (xq1<(-2:Int)))
  (some ((-1:Int),(())))
  ((atI a0 a1).bind fun xq2 =>
  cond (decide (5≤xq2))
  (some ((-1:Int),(())))
  ((atI a0 a1).bind fun xq3 =>
  cond (decide (0≤xq3))
  (rec a0 (IntKind.i64.wrap (a1+1)) (IntKind.i64.wrap (a5-1)))
  (rec a0 (IntKind.i64.wrap (a1+1)) (IntKind.i64.wrap (a5+1)))))))
  (k a1)
def wd6 (a1:Int):Z2 :=
  some (a1,(()))
def wfx (L2:T13) (w_0:Y4) (at_1:Int):Z2 :=
  L2 w_0 at_1 1
def waf (N:Nat) (k:Int→Z2):Nat→Y4→Int→Int→Z2
  | 0,_,_,_=>none
  | m+1,a0,a1,a5=>wd7 (waf N k m) k a0 a1 a5
def wd4 (N:Nat):=waf N (wd6) N
def V22 (N:Nat) (w_0:Y4) (at_1:Int):Z2:=wfx (wd4 N) w_0 at_1
def S_V22:Sig:=⟨(.pair Q0 (.pair I .unit)),[0,0],[],.unit,I,.i,fun x=>V22 big x.1 x.2.1⟩
def A_V22:Cfg:=mkCfg tab [] [(4,([B2,B0]++dr 3 [B0])),(19,[D0,B0])]
noncomputable def yq (N n:Nat) (K:T18) (a0:Y4) (a1 a5:Int):Z2:=itr A_V22 N 4 Try.f24 [1,0,1,0,0] n (([W2 a0,W0 a1]++ud 3 [W0 a5])++us 32) K
noncomputable def wfy:Ex→St→Z2:=finish A_V22 S_V22 Try.f24.results.toList
noncomputable def wd5 (kX:T10) (a1:Int):Z2:=kX ([.u,W0 a1]++us 36)
noncomputable def wbg (kX:T10) (kO:T7):=exK wfy 0 (A_V22.shape 19) kX kO
theorem wct (N kX kO):∀n,yq N n (wbg kX kO)=waf N (wd5 kX) n
 | 0=>rfl
 | m+1=>(show yq N (m+1) (wbg kX kO)=wd7 (yq N m (wbg kX kO)) (wd5 kX) by kernel_rfl).trans (by rw[wct N kX kO m];funext _ _ _;rfl)
noncomputable def wbh (N:Nat):=(blockK 0 (sqK A_V22 N 19 500009 Try.f24 [1,1] wfy))
noncomputable def whn (N:Nat) (st':St):Z2:=rn A_V22 N Try.f24 [1,1] st' wfy
theorem wj1 (N):yq N N (wbh N)=wd4 N:=by
 rw[show yq N N (wbh N)=yq N N (wbg (whn N) fun j=>(wbh N) (.exit j)) from(by funext _ _ _;exact jly),wct,show wd5 (whn N)=wd6 by kernel_rfl];rfl
theorem run_V22 (N x):runF A_V22 N Try.f24 S_V22 x=V22 N x.1 x.2.1:=(show _=(wfx (yq N N (wbh N)) x.1 x.2.1) by kernel_rfl).trans (by rw[wj1 N];rfl)
theorem ok_V22:OK 24 S_V22:=gdR (A:=A_V22) tc Try.func24 (jc8 trivial) (run_V22 big)
def wjd (w_0:Y4):Z4 :=
  cond (decide ((w_0.length:Int)≤40))
  ((V22 big w_0 0).bind fun rq1 =>
  some (decide (rq1.1=(w_0.length:Int)),(())))
  (some (false,(())))
def V23 (w_0:Y4):Z4:=wjd w_0
def S_V23:Sig:=⟨Q2,[0],[],.unit,.bool,.i,fun x=>V23 x.1⟩
def A_V23:Cfg:=mkCfg tab [(24,S_V22)] []
theorem run_V23 (N x):runF A_V23 N Try.f13 S_V23 x=V23 x.1:=by kernel_rfl
theorem ok_V23:OK 13 S_V23:=gdR (A:=A_V23) tc Try.func13 (jc8 ⟨ok_V22,trivial⟩) (run_V23 big)
def wje (list_0:Y4):Z0 :=
  (appI [] list_0).bind fun xq1 =>
  some (xq1,(()))
def V24 (list_0:Y4):Z0:=wje list_0
def S_V24:Sig:=⟨Q2,[0],[],.unit,Q0,O5,fun x=>V24 x.1⟩
def A_V24:Cfg:=mkCfg tab [] []
theorem run_V24 (N x):runF A_V24 N Try.f26 S_V24 x=V24 x.1:=by kernel_rfl
theorem ok_V24:OK 26 S_V24:=gdR (A:=A_V24) tc Try.func26 (jc8 trivial) (run_V24 big)
def wea (rec:Y4→Int→Int→Z0) (k:T24) (a3:Y4) (a9 a10:Int):Z0 :=
  cond (decide (a10<a9))
  ((atI a3 a10).bind fun _ =>
  (a3[a10.toNat]?).bind fun xq2 =>
  cond (decide (xq2<0))
  ((atI a3 a10).bind fun _ =>
  (a3[a10.toNat]?).bind fun xq3 =>
  rec (a3.set a10.toNat (IntKind.i64.wrap ((-3:Int)-xq2))) a9 (IntKind.i64.wrap (a10+1)))
  (rec a3 a9 (IntKind.i64.wrap (a10+1))))
  (k a3)
def wbk (a3:Y4):Z0 :=
  some (a3,(()))
def wfz (L3:Y4→Int→Int→Z0) (w_0:Y4):Z0 :=
  (V24 w_0).bind fun rq1 =>
  L3 rq1.1 (rq1.1.length:Int) 0
def wag (N:Nat) (k:T24):Nat→Y4→Int→Int→Z0
  | 0,_,_,_=>none
  | m+1,a3,a9,a10=>wea (wag N k m) k a3 a9 a10
def wd8 (N:Nat):=wag N (wbk) N
def V25 (N:Nat) (w_0:Y4):Z0:=wfz (wd8 N) w_0
def S_V25:Sig:=⟨Q2,[0],[],.unit,Q0,O5,fun x=>V25 big x.1⟩
def A_V25:Cfg:=mkCfg tab [(26,S_V24)] [(6,(dr 3 ([.as Q0 O5]++dr 4 [.keep,B0,B0]))),(17,(dr 3 [.as Q0 O5]))]
noncomputable def yr (N n:Nat) (K:T14) (a3:Y4) (a9 a10:Int):Z0:=itr A_V25 N 6 Try.f25 [1,1,0,1,0,0] n ([.u,.u,.u,.val Q0 O5 a3,.u,.u,.u,.u,.ref 3 [] .val,W0 a9,W0 a10]++us 13) K
noncomputable def wf0:Ex→St→Z0:=finish A_V25 S_V25 Try.f25.results.toList
noncomputable def wd9 (kX:T8) (a3:Y4):Z0:=kX ((ud 3 [.val Q0 O5 a3])++us 20)
noncomputable def wbi (kX:T8) (kO:T6):=exK wf0 0 (A_V25.shape 17) kX kO
theorem wcu (N kX kO):∀n,yr N n (wbi kX kO)=wag N (wd9 kX) n
 | 0=>rfl
 | m+1=>(show yr N (m+1) (wbi kX kO)=wea (yr N m (wbi kX kO)) (wd9 kX) by kernel_rfl).trans (by rw[wcu N kX kO m];funext _ _ _;rfl)
noncomputable def wbj (N:Nat):=(blockK 0 (sqK A_V25 N 17 500008 Try.f25 [1,1,1] wf0))
noncomputable def who (N:Nat) (st':St):Z0:=rn A_V25 N Try.f25 [1,1,1] st' wf0
theorem wj2 (N):yr N N (wbj N)=wd8 N:=by
 rw[show yr N N (wbj N)=yr N N (wbi (who N) fun j=>(wbj N) (.exit j)) from(by funext _ _ _;exact jly),wcu,show wd9 (who N)=wbk by kernel_rfl];rfl
theorem run_V25 (N x):runF A_V25 N Try.f25 S_V25 x=V25 N x.1:=(show _=(wfz (yr N N (wbj N)) x.1) by kernel_rfl).trans (by rw[wj2 N];rfl)
theorem ok_V25:OK 25 S_V25:=gdR (A:=A_V25) tc Try.func25 (jc8 ⟨ok_V24,trivial⟩) (run_V25 big)
def wjf (w_0:Y4):Option ((Y4×Z5)×Unit) :=
  (V22 big w_0 1).bind fun rq1 =>
  (slI w_0 1 rq1.1).bind fun xq2 =>
  (slI w_0 rq1.1 w_0.length).bind fun xq3 =>
  some ((xq2,xq3,()),(()))
def V26 (w_0:Y4):Option ((Y4×Z5)×Unit):=wjf w_0
def S_V26:Sig:=⟨Q2,[0],[],.unit,(.tup (.pair Q0 Q2)),.i,fun x=>V26 x.1⟩
def A_V26:Cfg:=mkCfg tab [(24,S_V22)] []
theorem run_V26 (N x):runF A_V26 N Try.f27 S_V26 x=V26 x.1:=by kernel_rfl
theorem ok_V26:OK 27 S_V26:=gdR (A:=A_V26) tc Try.func27 (jc8 ⟨ok_V22,trivial⟩) (run_V26 big)
def wf1 (sign_0:Int) (s_1 t_2:Y4):Z0 :=
  (appI [sign_0] s_1).bind fun xq1 =>
  (appI xq1 t_2).bind fun xq2 =>
  some (xq2,(()))
def V27 (sign_0:Int) (s_1 t_2:Y4):Z0:=wf1 sign_0 s_1 t_2
def S_V27:Sig:=⟨(.pair I (.pair Q0 Q2)),[0,0,0],[],.unit,Q0,O5,fun x=>V27 x.1 x.2.1 x.2.2.1⟩
def A_V27:Cfg:=mkCfg tab [] []
theorem run_V27 (N x):runF A_V27 N Try.f29 S_V27 x=V27 x.1 x.2.1 x.2.2.1:=by kernel_rfl
theorem ok_V27:OK 29 S_V27:=gdR (A:=A_V27) tc Try.func29 (jc8 trivial) (run_V27 big)
def T_V28 (self:(Y4×(Int×Unit))→Option Y2):Sig:={ a:=(.pair Q0 (.pair I .unit)),md:=[0,0],mf:=[],m := .unit,r:=Q3,rf:=(.o O5),f:=self }
def wf2 (self_V28:(Y4×(Int×Unit))→Option Y2) (w_0:Y4) (sign_1:Int):Option Y2 :=
  (atI w_0 0).bind fun xq1 =>
  cond (decide (xq1≠sign_1))
  ((V24 w_0).bind fun rq2 =>
  some ([rq2.1],(())))
  ((V26 w_0).bind fun rq3 =>
  (self_V28 (rq3.1.1,sign_1,())).bind fun rq4 =>
  (self_V28 (rq3.1.2.1,sign_1,())).bind fun rq5 =>
  (appI rq4.1 rq5.1).bind fun xq6 =>
  some (xq6,(())))
def V28 (self_V28:(Y4×(Int×Unit))→Option Y2) (w_0:Y4) (sign_1:Int):Option Y2:=wf2 self_V28 w_0 sign_1
def A_V28 (self_V28:(Y4×(Int×Unit))→Option Y2):Cfg:=mkCfg tab [(26,S_V24),(27,S_V26),(28,T_V28 self_V28)] []
theorem run_V28 (self_V28:(Y4×(Int×Unit))→Option Y2) (N:Nat) (x:((T_V28 self_V28)).a.den):runF (A_V28 self_V28) N Try.f28 (T_V28 self_V28) x=V28 self_V28 x.1 x.2.1:=by kernel_rfl
theorem fn_V28:FnOk Try.prog 28:=⟨_,Try.func28,by kernel_rfl,by kernel_rfl⟩
def R_V28:Nat→(Y4×(Int×Unit))→Option Y2
  | 0,_=>none
  | d+1,x=>V28 (R_V28 d) x.1 x.2.1
def S_V28:Sig:=T_V28 (R_V28 big)
theorem xi:∀d,Gx.Good Try.prog 28 (T_V28 (R_V28 d))
  | 0=>fun x r h=>by cases h
  | d+1=>vg Try.func28 (of_decide_eq_true (by kernel_rfl)) fun x r h=>⟨A_V28 (R_V28 d),big,qu tabOk,jc8 (show SigsOk Try.prog [(26,S_V24),(27,S_V26),(28,T_V28 (R_V28 d))] from⟨ok_V24,ok_V26,⟨fn_V28,xi d⟩,trivial⟩),(run_V28 (R_V28 d) big x).trans h⟩
theorem good_V28:Gx.Good Try.prog 28 S_V28:=xi big
def T_V30 (self:T9):Sig:={ a:=(.pair (.ptr Q1) Q4),md:=[1,0,0],mf:=[(.o (.p .i (.p .i (.p O5 .i))))],m:=(.pair (.ptr Q1) .unit),r := .bool,rf := .i,f:=self }
def T_V31 (self:T9):Sig:={ a:=(.pair (.ptr Q1) Q4),md:=[1,0,0],mf:=[(.o (.p .i (.p .i (.p O5 .i))))],m:=(.pair (.ptr Q1) .unit),r := .bool,rf := .i,f:=self }
def wjh (self_V30 self_V31:T9) (c_0:Z1) (i_1 k_2:Int):Z7 :=
  cond (!(((Option.getD (mget Q4 .bool c_0.2.2.1 (i_1,(k_2,()))) false,(Option.isSome (mget Q4 .bool c_0.2.2.1 (i_1,(k_2,()))),())).2).1))
  ((self_V31 (c_0,i_1,k_2,())).bind fun rq1 =>
  some (rq1.1,((rq1.2.1.1,(rq1.2.1.2.1,(mput Q4 .bool rq1.2.1.2.2.1 (i_1,(k_2,())) rq1.1,rq1.2.1.2.2.2))),())))
  (some ((Option.getD (mget Q4 .bool c_0.2.2.1 (i_1,(k_2,()))) false,(Option.isSome (mget Q4 .bool c_0.2.2.1 (i_1,(k_2,()))),())).1,(c_0,())))
def V30 (self_V30 self_V31:T9) (c_0:Z1) (i_1 k_2:Int):Z7:=wjh self_V30 self_V31 c_0 i_1 k_2
def A_V30 (self_V30 self_V31:T9):Cfg:=mkCfg tab [(48,T_V31 self_V31)] []
theorem run_V30 (self_V30 self_V31:T9) (N:Nat) (x:((T_V30 self_V30)).a.den):runF (A_V30 self_V30 self_V31) N Try.f42 (T_V30 self_V30) x=V30 self_V30 self_V31 x.1 x.2.1 x.2.2.1:=by kernel_rfl
theorem fn_V30:FnOk Try.prog 42:=⟨_,Try.func42,by kernel_rfl,by kernel_rfl⟩
def wji (self_V30 self_V31:T9) (c_0:Z1) (i_1 k_2:Int):Z7 :=
  (atI c_0.1 i_1).bind fun xq1 =>
  (atI c_0.2.1 k_2).bind fun xq2 =>
  cond (decide (xq1=(-2:Int)))
  ((self_V30 (c_0,IntKind.i64.wrap (i_1+1),k_2,())).bind fun rq3 =>
  cond rq3.1
  ((V22 big rq3.2.1.1 (IntKind.i64.wrap (i_1+1))).bind fun rq4 =>
  (self_V30 (rq3.2.1,rq4.1,k_2,())).bind fun rq5 =>
  some (rq5.1,(rq5.2.1,())))
  (some (false,(rq3.2.1,()))))
  (cond (decide (xq2=(-1:Int)))
  ((self_V30 (c_0,i_1,IntKind.i64.wrap (k_2+1),())).bind fun rq6 =>
  cond rq6.1
  ((V22 big rq6.2.1.2.1 (IntKind.i64.wrap (k_2+1))).bind fun rq7 =>
  (self_V30 (rq6.2.1,i_1,rq7.1,())).bind fun rq8 =>
  some (rq8.1,(rq8.2.1,())))
  (some (false,(rq6.2.1,()))))
  (cond (decide (0≤xq1))
  (cond (decide (0≤xq2))
  (some (decide (xq1=xq2),(c_0,())))
  (cond (decide (xq1=(-1:Int)))
  ((self_V30 (c_0,IntKind.i64.wrap (i_1+1),k_2,())).bind fun rq9 =>
  cond rq9.1
  (some (true,(rq9.2.1,())))
  ((V22 big rq9.2.1.1 (IntKind.i64.wrap (i_1+1))).bind fun rq10 =>
  (self_V30 (rq9.2.1,rq10.1,k_2,())).bind fun rq11 =>
  cond rq11.1
  (some (true,(rq11.2.1,())))
  (cond (decide (xq2=(-2:Int)))
  ((self_V30 (rq11.2.1,i_1,IntKind.i64.wrap (k_2+1),())).bind fun rq12 =>
  cond rq12.1
  (some (true,(rq12.2.1,())))
  ((V22 big rq12.2.1.2.1 (IntKind.i64.wrap (k_2+1))).bind fun rq13 =>
  (self_V30 (rq12.2.1,i_1,rq13.1,())).bind fun rq14 =>
  some (rq14.1,(rq14.2.1,()))))
  (some (false,(rq11.2.1,()))))))
  (cond (decide (xq2=(-2:Int)))
  ((self_V30 (c_0,i_1,IntKind.i64.wrap (k_2+1),())).bind fun rq15 =>
  cond rq15.1
  (some (true,(rq15.2.1,())))
  ((V22 big rq15.2.1.2.1 (IntKind.i64.wrap (k_2+1))).bind fun rq16 =>
  (self_V30 (rq15.2.1,i_1,rq16.1,())).bind fun rq17 =>
  some (rq17.1,(rq17.2.1,()))))
  (some (false,(c_0,()))))))
  (cond (decide (xq1=(-1:Int)))
  ((self_V30 (c_0,IntKind.i64.wrap (i_1+1),k_2,())).bind fun rq18 =>
  cond rq18.1
  (some (true,(rq18.2.1,())))
  ((V22 big rq18.2.1.1 (IntKind.i64.wrap (i_1+1))).bind fun rq19 =>
  (self_V30 (rq18.2.1,rq19.1,k_2,())).bind fun rq20 =>
  cond rq20.1
  (some (true,(rq20.2.1,())))
  (cond (decide (xq2=(-2:Int)))
  ((self_V30 (rq20.2.1,i_1,IntKind.i64.wrap (k_2+1),())).bind fun rq21 =>
  cond rq21.1
  (some (true,(rq21.2.1,())))
  ((V22 big rq21.2.1.2.1 (IntKind.i64.wrap (k_2+1))).bind fun rq22 =>
  (self_V30 (rq21.2.1,i_1,rq22.1,())).bind fun rq23 =>
  some (rq23.1,(rq23.2.1,()))))
  (some (false,(rq20.2.1,()))))))
  (cond (decide (xq2=(-2:Int)))
  ((self_V30 (c_0,i_1,IntKind.i64.wrap (k_2+1),())).bind fun rq24 =>
  cond rq24.1
  (some (true,(rq24.2.1,())))
  ((V22 big rq24.2.1.2.1 (IntKind.i64.wrap (k_2+1))).bind fun rq25 =>
  (self_V30 (rq24.2.1,i_1,rq25.1,())).bind fun rq26 =>
  some (rq26.1,(rq26.2.1,()))))
  (some (false,(c_0,())))))))
def V31 (self_V30 self_V31:T9) (c_0:Z1) (i_1 k_2:Int):Z7:=wji self_V30 self_V31 c_0 i_1 k_2
def A_V31 (self_V30 self_V31:T9):Cfg:=mkCfg tab [(42,T_V30 self_V30),(24,S_V22)] []
theorem run_V31 (self_V30 self_V31:T9) (N:Nat) (x:((T_V31 self_V31)).a.den):runF (A_V31 self_V30 self_V31) N Try.f48 (T_V31 self_V31) x=V31 self_V30 self_V31 x.1 x.2.1 x.2.2.1:=by kernel_rfl
theorem fn_V31:FnOk Try.prog 48:=⟨_,Try.func48,by kernel_rfl,by kernel_rfl⟩
def wd:Nat→((Z1×Z9)→Z7)×((Z1×Z9)→Z7)
  | 0=>(fun _=>none,fun _=>none)
  | d+1=>(fun x=>V30 (wd d).1 (wd d).2 x.1 x.2.1 x.2.2.1,fun x=>V31 (wd d).1 (wd d).2 x.1 x.2.1 x.2.2.1)
def R_V30 (d:Nat):(Z1×Z9)→Z7:=(wd d).1
def S_V30:Sig:=T_V30 (R_V30 big)
def R_V31 (d:Nat):(Z1×Z9)→Z7:=(wd d).2
def S_V31:Sig:=T_V31 (R_V31 big)
theorem wg:∀d,Gx.Good Try.prog 42 (T_V30 (R_V30 d))∧Gx.Good Try.prog 48 (T_V31 (R_V31 d))
  | 0=>⟨(fun x r h=>by cases(show(none:Option _)=some r from h)),(fun x r h=>by cases(show(none:Option _)=some r from h))⟩
  | d+1=>⟨(vg Try.func42 (of_decide_eq_true (by kernel_rfl)) fun x r h=>⟨A_V30 (R_V30 d) (R_V31 d),big,qu tabOk,jc8 (show SigsOk Try.prog [(48,T_V31 (R_V31 d))] from⟨⟨fn_V31,(wg d).2⟩,trivial⟩),(run_V30 (R_V30 d) (R_V31 d) big x).trans h⟩),(vg Try.func48 (of_decide_eq_true (by kernel_rfl)) fun x r h=>⟨A_V31 (R_V30 d) (R_V31 d),big,qu tabOk,jc8 (show SigsOk Try.prog [(42,T_V30 (R_V30 d)),(24,S_V22)] from⟨⟨fn_V30,(wg d).1⟩,ok_V22,trivial⟩),(run_V31 (R_V30 d) (R_V31 d) big x).trans h⟩)⟩
theorem good_V30:Gx.Good Try.prog 42 S_V30:=(wg big).1
theorem good_V31:Gx.Good Try.prog 48 S_V31:=(wg big).2
def wjj (s_0 t_1:Y4):Z4 :=
  (R_V30 big ((s_0,(t_1,([],()))),0,0,())).bind fun rq1 =>
  some (rq1.1,(()))
def V33 (s_0 t_1:Y4):Z4:=wjj s_0 t_1
def S_V33:Sig:=⟨(.pair Q0 Q2),[0,0],[],.unit,.bool,.i,fun x=>V33 x.1 x.2.1⟩
def A_V33:Cfg:=mkCfg tab [(42,S_V30)] []
theorem run_V33 (N x):runF A_V33 N Try.f37 S_V33 x=V33 x.1 x.2.1:=by kernel_rfl
theorem ok_V33:OK 37 S_V33:=gdR (A:=A_V33) tc Try.func37 (jc8 ⟨⟨fn_V30,good_V30⟩,trivial⟩) (run_V33 big)
def yb (rec:T2) (k:T3) (a0:Y3) (a3:Int) (a4:Y4) (a7:Y3) (a8 a9:Int) (a14:Y3) (a15 a16:Int):Z2 :=
  cond (decide (a16<a15))
  ((atI a14 a16).bind fun xq2 =>
  cond (decide (a3=a16))
  (rec a0 a3 a4 a7 a8 a9 a14 a15 (IntKind.i64.wrap (a16+1)))
  ((V33 a4 xq2).bind fun rq3 =>
  cond (!rq3.1)
  (rec a0 a3 a4 a7 a8 a9 a14 a15 (IntKind.i64.wrap (a16+1)))
  (cond (decide (a16<a3))
  (some (a3,(())))
  ((V33 xq2 a4).bind fun rq4 =>
  cond (!rq4.1)
  (some (a3,(())))
  (rec a0 a3 a4 a7 a8 a9 a14 a15 (IntKind.i64.wrap (a16+1)))))))
  (k a0 a7 a8 a9)
def zj (rec:T3) (a0 a7:Y3) (a8 a9:Int):Z2 :=
  rec a0 a7 a8 (IntKind.i64.wrap (a9+1))
def ya (L5:T2) (k:Z2) (a0 a7:Y3) (a8 a9:Int):Z2 :=
  cond (decide (a9<a8))
  ((atI a7 a9).bind fun xq1 =>
  L5 a0 a9 xq1 a7 a8 a9 a0 (a0.length:Int) 0)
  (k)
def x9:Z2 :=
  some ((-1:Int),(()))
def wdd (L2:T3) (m_0:Y3):Z2 :=
  L2 m_0 m_0 (m_0.length:Int) 0
def wee (N:Nat) (k:T3):=itN (fun r=>yb r k) fun _ _ _ _ _ _ _ _ _=>none
def yt (N:Nat) (rec:T3) (k:Z2):=wee N (zj rec) N
def wed (N:Nat) (k:Z2):=itN (fun r=>ya (yt N r k) k) fun _ _ _ _=>none
def wec (N:Nat):=wed N (x9) N
def V34 (N:Nat) (m_0:Y3):Z2:=wdd (wec N) m_0
def S_V34:Sig:=⟨(.pair Q3 .unit),[0],[],.unit,I,.i,fun x=>V34 big x.1⟩
def A_V34:Cfg:=mkCfg tab [(37,S_V33)] [(4,([B1]++dr 6 [B1,B0,B0])),(10,([B1,D0,D0,B0,B2,D0,D0,B1,B0,B0]++dr 4 [B1,B0,B0])),(25,[]),(23,([B1]++dr 6 [B1,B0,B0]))]
noncomputable def yu (N n:Nat) (K:T18) (a0 a7:Y3) (a8 a9:Int):Z2:=itr A_V34 N 4 Try.f30 [1,0,1,0,0] n (([W1 a0]++ud 6 [W1 a7,W0 a8,W0 a9])++us 32) K
noncomputable def wah (N n:Nat) (K:T18) (a0:Y3) (a3:Int) (a4:Y4) (a7:Y3) (a8 a9:Int) (a14:Y3) (a15 a16:Int):Z2:=itr A_V34 N 10 Try.f30 [1,0,1,0,0,1,1,0,0,1,1,0,0] n (([W1 a0,.u,.u,W0 a3,W2 a4,.u,.u,W1 a7,W0 a8,W0 a9]++ud 4 [W1 a14,W0 a15,W0 a16])++us 25) K
noncomputable def wde:Ex→St→Z2:=finish A_V34 S_V34 Try.f30.results.toList
noncomputable def wbo (kX:T10):Z2:=kX ([]++us 42)
noncomputable def zi (kX:T10) (kO:T7):=exK wde 0 (A_V34.shape 25) kX kO
noncomputable def whq (kX:T10) (a0 a7:Y3) (a8 a9:Int):Z2:=kX (([W1 a0]++ud 6 [W1 a7,W0 a8,W0 a9])++us 32)
noncomputable def whp (kX:T10) (kO:T7):=exK wde 2 (A_V34.shape 23) kX kO
theorem whu (N kX kO):∀n,wah N n (whp kX kO)=wee N (whq kX) n :=
 itE rfl fun m=>by kernel_rfl
noncomputable def wbn (N m:Nat) (kX:T10) (kO:T7):=(blockK 2 (blockK 1 (sqK A_V34 N 23 500011 Try.f30 [1,0,1,0,0,1,1,1] (itK A_V34 N 4 Try.f30 [1,0,1,0,0] m (zi kX kO)))))
noncomputable def whw (N m:Nat) (kX:T10) (kO:T7) (st':St):Z2:=rn A_V34 N Try.f30 [1,0,1,0,0,1,1,1] st' (itK A_V34 N 4 Try.f30 [1,0,1,0,0] m (zi kX kO))
theorem wj4 (N m kX kO) {r}(h:yu N m (zi kX kO)=r):wah N N (wbn N m kX kO)=yt N r (wbo kX):=by
 rw[show wah N N (wbn N m kX kO)=wah N N (whp (whw N m kX kO) fun j=>(wbn N m kX kO) (.exit j)) from(by funext _ _ _ _ _ _ _ _ _;exact jly),whu,show whq (whw N m kX kO)=zj (yu N m (zi kX kO)) by kernel_rfl,h];rfl
theorem wht (N kX kO):∀n,yu N n (zi kX kO)=wed N (wbo kX) n :=
 itE rfl fun m=>(show _=ya (wah N N (wbn N m kX kO)) (wbo kX) by kernel_rfl).trans (by rw[wj4 N m kX kO rfl]<;>rfl)
noncomputable def wbm (N:Nat):=(blockK 0 (sqK A_V34 N 25 500012 Try.f30 [1,1] wde))
noncomputable def whv (N:Nat) (st':St):Z2:=rn A_V34 N Try.f30 [1,1] st' wde
theorem wj3 (N):yu N N (wbm N)=wec N:=by
 rw[show yu N N (wbm N)=yu N N (zi (whv N) fun j=>(wbm N) (.exit j)) from(by funext _ _ _ _;exact jly),wht,show wbo (whv N)=x9 by kernel_rfl];rfl
theorem run_V34 (N x):runF A_V34 N Try.f30 S_V34 x=V34 N x.1:=(show _=(wdd (yu N N (wbm N)) x.1) by kernel_rfl).trans (by rw[wj3 N];rfl)
theorem ok_V34:OK 30 S_V34:=gdR (A:=A_V34) tc Try.func30 (jc8 ⟨ok_V33,trivial⟩) (run_V34 big)
def yw (rec:T4) (k:T1) (a1:Y4) (a6:Int) (a10:Y3) (a11 a12:Int) (a22:Y3) (a23 a24:Int):Z3 :=
  cond (decide (a24<a23))
  ((atI a22 a24).bind fun _ =>
  (a22[a24.toNat]?).bind fun xq4 =>
  (a22[a24.toNat]?).bind fun xq5 =>
  (V33 xq5 a1).bind fun rq6 =>
  cond rq6.1
  ((a22[a24.toNat]?).bind fun xq7 =>
  (R_V28 big (xq7,(-2:Int),())).bind fun rq8 =>
  some ((a6,rq8.1,()),(())))
  (rec a1 a6 a10 a11 a12 a22 a23 (IntKind.i64.wrap (a24+1))))
  (k a1 a10 a11 a12)
def zk (rec:T1) (a1:Y4) (a10:Y3) (a11 a12:Int):Z3 :=
  rec a1 a10 a11 (IntKind.i64.wrap (a12+1))
def ye (rec:T1) (L6:T4) (k:Z3) (a1:Y4) (a10:Y3) (a11 a12:Int):Z3 :=
  cond (decide (a12<a11))
  ((atI a10 a12).bind fun xq1 =>
  (atI xq1 0).bind fun xq2 =>
  cond (decide (xq2≠(-1:Int)))
  (rec a1 a10 a11 (IntKind.i64.wrap (a12+1)))
  ((R_V28 big (xq1,(-1:Int),())).bind fun rq3 =>
  L6 a1 a12 a10 a11 a12 rq3.1 (rq3.1.length:Int) 0))
  (k)
def w9:Z3 :=
  some (((-1:Int),[],()),(()))
def wdf (L2:T1) (m_0:Y3) (w_1:Y4):Z3 :=
  L2 w_1 m_0 (m_0.length:Int) 0
def weh (N:Nat) (k:T1):=itN (fun r=>yw r k) fun _ _ _ _ _ _ _ _=>none
def yc (N:Nat) (rec:T1) (k:Z3):=weh N (zk rec) N
def weg (N:Nat) (k:Z3):=itN (fun r=>ye r (yc N r k) k) fun _ _ _ _=>none
def wef (N:Nat):=weg N (w9) N
def V35 (N:Nat) (m_0:Y3) (w_1:Y4):Z3:=wdf (wef N) m_0 w_1
def S_V35:Sig:=⟨(.pair Q3 Q2),[0,0],[],.unit,(.tup (.pair I (.pair Q3 .unit))),(.p .i (.p (.o O5) .i)),fun x=>V35 big x.1 x.2.1⟩
def A_V35:Cfg:=mkCfg tab [(28,S_V28),(37,S_V33)] [(4,([D0,B2]++dr 8 [B1,B0,B0])),(12,([D0,B2]++dr 4 ([B0]++dr 3 ([B1,B0,B0]++dr 9 [.as Q3 (.o O5),B0,B0])))),(25,[]),(23,([D0,B2]++dr 8 [B1,B0,B0]))]
noncomputable def yd (N n:Nat) (K:Ex→St→Z3) (a1:Y4) (a10:Y3) (a11 a12:Int):Z3:=itr A_V35 N 4 Try.f31 [1,0,1,0,0] n (([.u,W2 a1]++ud 8 [W1 a10,W0 a11,W0 a12])++us 23) K
noncomputable def wai (N n:Nat) (K:Ex→St→Z3) (a1:Y4) (a6:Int) (a10:Y3) (a11 a12:Int) (a22:Y3) (a23 a24:Int):Z3:=itr A_V35 N 12 Try.f31 [1,0,1,0,0,1,1,0,0,1,1,1,0,0] n (([.u,W2 a1]++ud 4 ([W0 a6]++ud 3 ([W1 a10,W0 a11,W0 a12]++ud 9 [.val Q3 (.o O5) a22,W0 a23,W0 a24])))++us 11) K
noncomputable def wdg:Ex→St→Z3:=finish A_V35 S_V35 Try.f31.results.toList
noncomputable def wbr (kX:St→Z3):Z3:=kX ([]++us 36)
noncomputable def yv (kX:St→Z3) (kO:Nat→St→Z3):=exK wdg 0 (A_V35.shape 25) kX kO
noncomputable def why (kX:St→Z3) (a1:Y4) (a10:Y3) (a11 a12:Int):Z3:=kX (([.u,W2 a1]++ud 8 [W1 a10,W0 a11,W0 a12])++us 23)
noncomputable def whx (kX:St→Z3) (kO:Nat→St→Z3):=exK wdg 2 (A_V35.shape 23) kX kO
theorem wh2 (N kX kO):∀n,wai N n (whx kX kO)=weh N (why kX) n :=
 itE rfl fun m=>by kernel_rfl
noncomputable def wbq (N m:Nat) (kX:St→Z3) (kO:Nat→St→Z3):=(blockK 2 (blockK 1 (sqK A_V35 N 23 500011 Try.f31 [1,0,1,0,0,1,1,1] (itK A_V35 N 4 Try.f31 [1,0,1,0,0] m (yv kX kO)))))
noncomputable def wh4 (N m:Nat) (kX:St→Z3) (kO:Nat→St→Z3) (st':St):Z3:=rn A_V35 N Try.f31 [1,0,1,0,0,1,1,1] st' (itK A_V35 N 4 Try.f31 [1,0,1,0,0] m (yv kX kO))
theorem wj6 (N m kX kO) {r}(h:yd N m (yv kX kO)=r):wai N N (wbq N m kX kO)=yc N r (wbr kX):=by
 rw[show wai N N (wbq N m kX kO)=wai N N (whx (wh4 N m kX kO) fun j=>(wbq N m kX kO) (.exit j)) from(by funext _ _ _ _ _ _ _ _;exact jly),wh2,show why (wh4 N m kX kO)=zk (yd N m (yv kX kO)) by kernel_rfl,h];rfl
theorem wh1 (N kX kO):∀n,yd N n (yv kX kO)=weg N (wbr kX) n :=
 itE rfl fun m=>(show _=ye (yd N m (yv kX kO)) (wai N N (wbq N m kX kO)) (wbr kX) by kernel_rfl).trans (by rw[wj6 N m kX kO rfl]<;>rfl)
noncomputable def wbp (N:Nat):=(blockK 0 (sqK A_V35 N 25 500012 Try.f31 [1,1] wdg))
noncomputable def wh3 (N:Nat) (st':St):Z3:=rn A_V35 N Try.f31 [1,1] st' wdg
theorem wj5 (N):yd N N (wbp N)=wef N:=by
 rw[show yd N N (wbp N)=yd N N (yv (wh3 N) fun j=>(wbp N) (.exit j)) from(by funext _ _ _ _;exact jly),wh1,show wbr (wh3 N)=w9 by kernel_rfl];rfl
theorem run_V35 (N x):runF A_V35 N Try.f31 S_V35 x=V35 N x.1 x.2.1:=(show _=(wdf (yd N N (wbp N)) x.1 x.2.1) by kernel_rfl).trans (by rw[wj5 N];rfl)
theorem ok_V35:OK 31 S_V35:=gdR (A:=A_V35) tc Try.func31 (jc8 ⟨⟨fn_V28,good_V28⟩,ok_V33,trivial⟩) (run_V35 big)
end Go.Proofs.Ytnolmlelfmadkaa
