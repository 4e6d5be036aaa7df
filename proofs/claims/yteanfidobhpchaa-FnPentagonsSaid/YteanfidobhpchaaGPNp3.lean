import Derived.Test.YteanfidobhpchaaGPNp2
set_option maxRecDepth 100000
set_option linter.unusedVariables false
namespace Go.Proofs.Yteanfidobhpchaa
open Go Go.Gx Go.Proofs
def vnq (rec:Y2→Y2→Int→Int→Z1) (k:Y2→Y2→Int→Z1) (p1 dual3:Y2) (x4 y5:Int):Z1 :=
  cond (decide (y5<x4))
  ((V44 big p1 [x4,y5]).bind fun rq3 =>
  cond (decide (rq3.1<0))
  (some (false,(())))
  ((V44 big dual3 [x4,y5]).bind fun rq4 =>
  cond (decide (rq4.1<0))
  (some (false,(())))
  (rec p1 dual3 x4 (IntKind.i64.wrap (y5+1)))))
  (k p1 dual3 x4)
def vnu (rec:Y2→Y2→Int→Z1) (p1 dual3:Y2) (x4:Int):Z1 :=
  rec p1 dual3 (IntKind.i64.wrap (x4+1))
def vnr (L8:Y2→Y2→Int→Int→Z1) (k:Z1) (p1 dual3:Y2) (x4:Int):Z1 :=
  cond (decide (x4<(p1.1.length:Int)))
  (L8 p1 dual3 x4 (0:Int))
  (k)
def vha:Z1 :=
  some (true,(()))
def vbda (L5:Y2→Y2→Int→Z1) (p_0:Y2):Z1 :=
  (V42 big p_0).bind fun rq1 =>
  cond (!rq1.1)
  (some (false,(())))
  (cond (decide ((p_0.1.length:Int)=0))
  (some (false,(())))
  ((V43 big p_0).bind fun rq2 =>
  L5 p_0 rq2.1 (0:Int)))
def vafu (N:Nat) (k:Y2→Y2→Int→Z1):Nat→Y2→Y2→Int→Int→Z1
  | 0,_,_,_,_=>none
  | m+1,p1,dual3,x4,y5=>vnq (vafu N k m) k p1 dual3 x4 y5
def vue (N:Nat) (rec:Y2→Y2→Int→Z1) (k:Z1) (p1 dual3:Y2) (x4 y5:Int):Z1:=vafu N (vnu rec) N p1 dual3 x4 y5
def vahh (N:Nat) (k:Z1):Nat→Y2→Y2→Int→Z1
  | 0,_,_,_=>none
  | m+1,p1,dual3,x4=>vnr (vue N (vahh N k m) k) k p1 dual3 x4
def vaqe (N:Nat) (p1 dual3:Y2) (x4:Int):Z1:=vahh N (vha) N p1 dual3 x4
def V45 (N:Nat) (p_0:Y2):Z1:=vbda (vaqe N) p_0
def S_V45:Sig:=⟨Q11,[0],[],.unit,.bool,.i,fun x=>V45 big x.1⟩
def A_V45:Cfg:=mkCfg tab [(85,S_V42),(78,S_V43),(86,S_V44)] [(10,[.drop,.as Q4 P5,.drop,.as Q4 P1,.as I .i]),(16,[.drop,.as Q4 P5,.drop,.as Q4 P1,.as I .i,.as I .i]),(25,[]),(13,[.drop,.as Q4 P5,.drop,.as Q4 P1,.as I .i])]
noncomputable def vhe (N n:Nat) (K:Ex→St→Z1) (p1 dual3:Y2) (x4:Int):Z1:=iter ((A_V45).shape 10) (run (A_V45) N (codeAt Try.f45 [1,1,1,0,1,0,0])) n ([.u,W2 p1,.u,W1 dual3,W0 x4]++us 38) K
noncomputable def vlk (N n:Nat) (K:Ex→St→Z1) (p1 dual3:Y2) (x4 y5:Int):Z1:=iter ((A_V45).shape 16) (run (A_V45) N (codeAt Try.f45 [1,1,1,0,1,0,0,1,0,0,1,0,0])) n ([.u,W2 p1,.u,W1 dual3,W0 x4,W0 y5]++us 37) K
noncomputable abbrev vaot:Ex→St→Z1:=finish (A_V45) S_V45 Try.f45.results.toList
noncomputable abbrev vacs (kX:St→Z1):Z1:=kX ([]++us 43)
noncomputable abbrev vlf (kX:St→Z1) (kO:Nat→St→Z1):Ex→St→Z1:=exK vaot 0 ((A_V45).shape 25) kX kO
noncomputable abbrev vaqh (kX:St→Z1) (p1 dual3:Y2) (x4:Int):Z1:=kX ([.u,W2 p1,.u,W1 dual3,W0 x4]++us 38)
noncomputable abbrev vzc (kX:St→Z1) (kO:Nat→St→Z1):Ex→St→Z1:=exK vaot 2 ((A_V45).shape 13) kX kO
theorem vaoa (N kX kO):∀ n,vlk N n (vzc kX kO)=vafu N (vaqh kX) n
 | 0=>rfl
 | m+1=>(show vlk N (m+1) (vzc kX kO)=vnq (vlk N m (vzc kX kO)) (vaqh kX) by kernel_rfl).trans (by rw[vaoa N kX kO m];funext _ _ _ _;rfl)
noncomputable abbrev vahd (N m:Nat) (kX:St→Z1) (kO:Nat→St→Z1):Ex→St→Z1:=(blockK 2 (blockK 1 (sqK (A_V45) N 13 500006 (codeAt Try.f45 [1,1,1,0,1,0,0,1,1]) (itK (A_V45) N 10 (codeAt Try.f45 [1,1,1,0,1,0,0]) m (vlf kX kO)))))
noncomputable abbrev vbii (N m:Nat) (kX:St→Z1) (kO:Nat→St→Z1) (st':St):Z1:=run (A_V45) N (codeAt Try.f45 [1,1,1,0,1,0,0,1,1]) st' (itK (A_V45) N 10 (codeAt Try.f45 [1,1,1,0,1,0,0]) m (vlf kX kO))
theorem vboc (N m kX kO) {r} (h:vhe N m (vlf kX kO)=r):vlk N N (vahd N m kX kO)=vue N r (vacs kX):=by
 rw[show vlk N N (vahd N m kX kO)=vlk N N (vzc (vbii N m kX kO) fun j=>(vahd N m kX kO) (.exit j)) from (by funext _ _ _ _;exact vab (fun _=>by kernel_rfl) fun _=>by kernel_rfl),vaoa,show vaqh (vbii N m kX kO)=vnu (vhe N m (vlf kX kO)) by kernel_rfl,h];rfl
theorem vanw (N kX kO):∀ n,vhe N n (vlf kX kO)=vahh N (vacs kX) n
 | 0=>rfl
 | m+1=>(show vhe N (m+1) (vlf kX kO)=vnr (vlk N N (vahd N m kX kO)) (vacs kX) by kernel_rfl).trans (by rw[vboc N m kX kO (vanw N kX kO m)];funext _ _ _;rfl)
noncomputable abbrev vack (N:Nat):Ex→St→Z1:=(blockK 0 (sqK (A_V45) N 25 500012 (codeAt Try.f45 [1,1,1,1]) vaot))
noncomputable abbrev vbiq (N:Nat) (st':St):Z1:=run (A_V45) N (codeAt Try.f45 [1,1,1,1]) st' vaot
theorem vbqj (N):vhe N N (vack N)=vaqe N:=by
 rw[show vhe N N (vack N)=vhe N N (vlf (vbiq N) fun j=>(vack N) (.exit j)) from (by funext _ _ _;exact vab (fun _=>by kernel_rfl) fun _=>by kernel_rfl),vanw,show vacs (vbiq N)=vha by kernel_rfl];rfl
theorem run_V45 (N x):runF (A_V45) N Try.f45 S_V45 x=V45 N x.1:=(show _=(vbda (vhe N N (vack N)) x.1) by kernel_rfl).trans (by rw[vbqj N];rfl)
theorem ok_V45:FnOk Try.prog 45∧Gx.Good Try.prog 45 S_V45:=gdR (A:=A_V45) tc Try.func45 (by kernel_rfl) (vaa ⟨ok_V42,ok_V43,ok_V44,trivial⟩) (run_V45 big)
def vbmb (p_0:Y2) (x_1 y_2:Int):Z7 :=
  (V44 big p_0 [x_1,y_2]).bind fun rq1 =>
  some (rq1.1,(()))
def V46 (p_0:Y2) (x_1 y_2:Int):Z7:=vbmb p_0 x_1 y_2
def S_V46:Sig:=⟨(.pair Q0 Q8),[0,0,0],[],.unit,I,.i,fun x=>V46 x.1 x.2.1 x.2.2.1⟩
def A_V46:Cfg:=mkCfg tab [(86,S_V44)] []
theorem run_V46 (N x):runF (A_V46) N Try.f46 S_V46 x=V46 x.1 x.2.1 x.2.2.1:=by kernel_rfl
theorem ok_V46:FnOk Try.prog 46∧Gx.Good Try.prog 46 S_V46:=gdR (A:=A_V46) tc Try.func46 (by kernel_rfl) (vaa ⟨ok_V44,trivial⟩) (run_V46 big)
def vbmx (p_0:Y2) (x_1 y_2:Int):Z7 :=
  (V43 big p_0).bind fun rq1 =>
  (V44 big rq1.1 [x_1,y_2]).bind fun rq2 =>
  some (rq2.1,(()))
def V47 (p_0:Y2) (x_1 y_2:Int):Z7:=vbmx p_0 x_1 y_2
def S_V47:Sig:=⟨(.pair Q0 Q8),[0,0,0],[],.unit,I,.i,fun x=>V47 x.1 x.2.1 x.2.2.1⟩
def A_V47:Cfg:=mkCfg tab [(78,S_V43),(86,S_V44)] []
theorem run_V47 (N x):runF (A_V47) N Try.f47 S_V47 x=V47 x.1 x.2.1 x.2.2.1:=by kernel_rfl
theorem ok_V47:FnOk Try.prog 47∧Gx.Good Try.prog 47 S_V47:=gdR (A:=A_V47) tc Try.func47 (by kernel_rfl) (vaa ⟨ok_V43,ok_V44,trivial⟩) (run_V47 big)
def vqh (rec:Y4→Int→Z1) (k:Z1) (list0:Y4) (i3:Int):Z1 :=
  cond (decide (i3<(list0.length:Int)))
  ((slI list0 0 i3).bind fun xq1 =>
  (atI list0 i3).bind fun xq2 =>
  (V14 big xq1 xq2).bind fun rq3 =>
  cond rq3.1
  (some (false,(())))
  (rec list0 (IntKind.i64.wrap (i3+1))))
  (k)
def vov:Z1 :=
  some (true,(()))
def vbcc (L2:Y4→Int→Z1) (list_0:Y4):Z1 :=
  L2 list_0 (0:Int)
def vaii (N:Nat) (k:Z1):Nat→Y4→Int→Z1
  | 0,_,_=>none
  | m+1,list0,i3=>vqh (vaii N k m) k list0 i3
def vatv (N:Nat) (list0:Y4) (i3:Int):Z1:=vaii N (vov) N list0 i3
def V48 (N:Nat) (list_0:Y4):Z1:=vbcc (vatv N) list_0
def S_V48:Sig:=⟨Q12,[0],[],.unit,.bool,.i,fun x=>V48 big x.1⟩
def A_V48:Cfg:=mkCfg tab [(87,S_V14)] [(4,[.as Q7 .i,.drop,.drop,.as I .i]),(13,[])]
noncomputable def vlb (N n:Nat) (K:Ex→St→Z1) (list0:Y4) (i3:Int):Z1:=iter ((A_V48).shape 4) (run (A_V48) N (codeAt Try.f49 [1,0,1,0,0])) n ([W4 list0,.u,.u,W0 i3]++us 14) K
noncomputable abbrev vbbo:Ex→St→Z1:=finish (A_V48) S_V48 Try.f49.results.toList
noncomputable abbrev vawc (kX:St→Z1):Z1:=kX ([]++us 18)
noncomputable abbrev vaem (kX:St→Z1) (kO:Nat→St→Z1):Ex→St→Z1:=exK vbbo 0 ((A_V48).shape 13) kX kO
theorem vanq (N kX kO):∀ n,vlb N n (vaem kX kO)=vaii N (vawc kX) n
 | 0=>rfl
 | m+1=>(show vlb N (m+1) (vaem kX kO)=vqh (vlb N m (vaem kX kO)) (vawc kX) by kernel_rfl).trans (by rw[vanq N kX kO m];funext _ _;rfl)
noncomputable abbrev vacc (N:Nat):Ex→St→Z1:=(blockK 0 (sqK (A_V48) N 13 500006 (codeAt Try.f49 [1,1]) vbbo))
noncomputable abbrev vbiu (N:Nat) (st':St):Z1:=run (A_V48) N (codeAt Try.f49 [1,1]) st' vbbo
theorem vbnq (N):vlb N N (vacc N)=vatv N:=by
 rw[show vlb N N (vacc N)=vlb N N (vaem (vbiu N) fun j=>(vacc N) (.exit j)) from (by funext _ _;exact vab (fun _=>by kernel_rfl) fun _=>by kernel_rfl),vanq,show vawc (vbiu N)=vov by kernel_rfl];rfl
theorem run_V48 (N x):runF (A_V48) N Try.f49 S_V48 x=V48 N x.1:=(show _=(vbcc (vlb N N (vacc N)) x.1) by kernel_rfl).trans (by rw[vbnq N];rfl)
theorem ok_V48:FnOk Try.prog 49∧Gx.Good Try.prog 49 S_V48:=gdR (A:=A_V48) tc Try.func49 (by kernel_rfl) (vaa ⟨ok_V14,trivial⟩) (run_V48 big)
def vpe (rec:Y4→Y4→Int→Z1) (k:Z1) (a0 b1:Y4) (i5:Int):Z1 :=
  cond (decide (i5<(a0.length:Int)))
  ((atI a0 i5).bind fun xq1 =>
  (atI b1 i5).bind fun xq2 =>
  cond (decide (xq1≠xq2))
  ((atI a0 i5).bind fun xq3 =>
  (atI b1 i5).bind fun xq4 =>
  some (decide (xq3<xq4),(())))
  (rec a0 b1 (IntKind.i64.wrap (i5+1))))
  (k)
def voi:Z1 :=
  some (false,(()))
def vbdd (L2:Y4→Y4→Int→Z1) (a_0 b_1:Y4):Z1 :=
  L2 a_0 b_1 (0:Int)
def vabe (N:Nat) (k:Z1):Nat→Y4→Y4→Int→Z1
  | 0,_,_,_=>none
  | m+1,a0,b1,i5=>vpe (vabe N k m) k a0 b1 i5
def vatp (N:Nat) (a0 b1:Y4) (i5:Int):Z1:=vabe N (voi) N a0 b1 i5
def V49 (N:Nat) (a_0 b_1:Y4):Z1:=vbdd (vatp N) a_0 b_1
def S_V49:Sig:=⟨(.pair Q7 Q12),[0,0],[],.unit,.bool,.i,fun x=>V49 big x.1 x.2.1⟩
def A_V49:Cfg:=mkCfg tab [] [(4,([.as Q7 .i,.as Q7 .i]++dr 3 [.as I .i])),(13,[])]
noncomputable def vly (N n:Nat) (K:Ex→St→Z1) (a0 b1:Y4) (i5:Int):Z1:=iter ((A_V49).shape 4) (run (A_V49) N (codeAt Try.f50 [1,0,1,0,0])) n (([W4 a0,W4 b1]++ud 3 [W0 i5])++us 24) K
noncomputable abbrev vbbv:Ex→St→Z1:=finish (A_V49) S_V49 Try.f50.results.toList
noncomputable abbrev varm (kX:St→Z1):Z1:=kX ([]++us 30)
noncomputable abbrev vzq (kX:St→Z1) (kO:Nat→St→Z1):Ex→St→Z1:=exK vbbv 0 ((A_V49).shape 13) kX kO
theorem vakr (N kX kO):∀ n,vly N n (vzq kX kO)=vabe N (varm kX) n
 | 0=>rfl
 | m+1=>(show vly N (m+1) (vzq kX kO)=vpe (vly N m (vzq kX kO)) (varm kX) by kernel_rfl).trans (by rw[vakr N kX kO m];funext _ _ _;rfl)
noncomputable abbrev vaau (N:Nat):Ex→St→Z1:=(blockK 0 (sqK (A_V49) N 13 500006 (codeAt Try.f50 [1,1]) vbbv))
noncomputable abbrev vber (N:Nat) (st':St):Z1:=run (A_V49) N (codeAt Try.f50 [1,1]) st' vbbv
theorem vbnx (N):vly N N (vaau N)=vatp N:=by
 rw[show vly N N (vaau N)=vly N N (vzq (vber N) fun j=>(vaau N) (.exit j)) from (by funext _ _ _;exact vab (fun _=>by kernel_rfl) fun _=>by kernel_rfl),vakr,show varm (vber N)=voi by kernel_rfl];rfl
theorem run_V49 (N x):runF (A_V49) N Try.f50 S_V49 x=V49 N x.1 x.2.1:=(show _=(vbdd (vly N N (vaau N)) x.1 x.2.1) by kernel_rfl).trans (by rw[vbnx N];rfl)
theorem ok_V49:FnOk Try.prog 50∧Gx.Good Try.prog 50 S_V49:=gdR (A:=A_V49) tc Try.func50 (by kernel_rfl) (vaa trivial) (run_V49 big)
def vdi (rec:Y2→Int→Y4→Int→Int→Int→Z0) (k:Y2→Int→Y4→Int→Int→Z0) (p1:Y2) (n4:Int) (best5:Y4) (a6 b7 c8:Int):Z0 :=
  cond (decide (c8<n4))
  ((V46 p1 a6 c8).bind fun rq2 =>
  (V47 p1 a6 c8).bind fun rq3 =>
  (V16 p1 a6 b7).bind fun rq4 =>
  cond (!rq4.1)
  (rec p1 n4 best5 a6 b7 (IntKind.i64.wrap (c8+1)))
  ((V46 p1 b7 c8).bind fun rq5 =>
  cond (decide (rq5.1≠rq2.1))
  (rec p1 n4 best5 a6 b7 (IntKind.i64.wrap (c8+1)))
  ((V47 p1 b7 c8).bind fun rq6 =>
  cond (decide (rq6.1≠rq3.1))
  (rec p1 n4 best5 a6 b7 (IntKind.i64.wrap (c8+1)))
  ((V48 big [rq2.1,a6,b7,c8,rq3.1]).bind fun rq7 =>
  cond rq7.1
  (cond (decide ((best5.length:Int)=0))
  (rec p1 n4 [rq2.1,a6,b7,c8,rq3.1] a6 b7 (IntKind.i64.wrap (c8+1)))
  ((V49 big [rq2.1,a6,b7,c8,rq3.1] best5).bind fun rq8 =>
  cond rq8.1
  (rec p1 n4 [rq2.1,a6,b7,c8,rq3.1] a6 b7 (IntKind.i64.wrap (c8+1)))
  (rec p1 n4 best5 a6 b7 (IntKind.i64.wrap (c8+1)))))
  (rec p1 n4 best5 a6 b7 (IntKind.i64.wrap (c8+1)))))))
  (k p1 n4 best5 a6 b7)
def vfh (rec:Y2→Int→Y4→Int→Int→Z0) (p1:Y2) (n4:Int) (best5:Y4) (a6 b7:Int):Z0 :=
  rec p1 n4 best5 a6 (IntKind.i64.wrap (b7+1))
def vgq (L12:Y2→Int→Y4→Int→Int→Int→Z0) (k:Y2→Int→Y4→Int→Z0) (p1:Y2) (n4:Int) (best5:Y4) (a6 b7:Int):Z0 :=
  cond (decide (b7<n4))
  (L12 p1 n4 best5 a6 b7 (0:Int))
  (k p1 n4 best5 a6)
def vdx (rec:Y2→Int→Y4→Int→Z0) (p1:Y2) (n4:Int) (best5:Y4) (a6:Int):Z0 :=
  rec p1 n4 best5 (IntKind.i64.wrap (a6+1))
def vhz (L9:Y2→Int→Y4→Int→Int→Z0) (k:Y4→Z0) (p1:Y2) (n4:Int) (best5:Y4) (a6:Int):Z0 :=
  cond (decide (a6<n4))
  (L9 p1 n4 best5 a6 (0:Int))
  (k best5)
def ved (best5:Y4):Z0 :=
  some ((best5,decide ((0:Int)<(best5.length:Int)),()),(()))
def vapa (L6:Y2→Int→Y4→Int→Z0) (p_0:Y2):Z0 :=
  (V45 big p_0).bind fun rq1 =>
  cond (!rq1.1)
  (some (([],false,()),(())))
  (L6 p_0 (p_0.1.length:Int) [] (0:Int))
def vvq (N:Nat) (k:Y2→Int→Y4→Int→Int→Z0):Nat→Y2→Int→Y4→Int→Int→Int→Z0
  | 0,_,_,_,_,_,_=>none
  | m+1,p1,n4,best5,a6,b7,c8=>vdi (vvq N k m) k p1 n4 best5 a6 b7 c8
def vnt (N:Nat) (rec:Y2→Int→Y4→Int→Int→Z0) (k:Y2→Int→Y4→Int→Z0) (p1:Y2) (n4:Int) (best5:Y4) (a6 b7 c8:Int):Z0:=vvq N (vfh rec) N p1 n4 best5 a6 b7 c8
def vaga (N:Nat) (k:Y2→Int→Y4→Int→Z0):Nat→Y2→Int→Y4→Int→Int→Z0
  | 0,_,_,_,_,_=>none
  | m+1,p1,n4,best5,a6,b7=>vgq (vnt N (vaga N k m) k) k p1 n4 best5 a6 b7
def vtf (N:Nat) (rec:Y2→Int→Y4→Int→Z0) (k:Y4→Z0) (p1:Y2) (n4:Int) (best5:Y4) (a6 b7:Int):Z0:=vaga N (vdx rec) N p1 n4 best5 a6 b7
def vags (N:Nat) (k:Y4→Z0):Nat→Y2→Int→Y4→Int→Z0
  | 0,_,_,_,_=>none
  | m+1,p1,n4,best5,a6=>vhz (vtf N (vags N k m) k) k p1 n4 best5 a6
def vaqx (N:Nat) (p1:Y2) (n4:Int) (best5:Y4) (a6:Int):Z0:=vags N (ved) N p1 n4 best5 a6
def V50 (N:Nat) (p_0:Y2):Z0:=vapa (vaqx N) p_0
def S_V50:Sig:=⟨Q11,[0],[],.unit,Q9,(.p P5 .i),fun x=>V50 big x.1⟩
def A_V50:Cfg:=mkCfg tab [(45,S_V45),(46,S_V46),(47,S_V47),(48,S_V16),(49,S_V48),(50,S_V49)] [(12,[.drop,.as Q4 P5,.drop,.drop,.as I .i,.as Q7 P5,.as I .i]),(18,[.drop,.as Q4 P5,.drop,.drop,.as I .i,.as Q7 P5,.as I .i,.as I .i]),(39,(dr 5 [.as Q7 P5])),(24,[.drop,.as Q4 P5,.drop,.drop,.as I .i,.as Q7 P5,.as I .i,.as I .i,.as I .i]),(15,[.drop,.as Q4 P5,.drop,.drop,.as I .i,.as Q7 P5,.as I .i]),(21,[.drop,.as Q4 P5,.drop,.drop,.as I .i,.as Q7 P5,.as I .i,.as I .i])]
noncomputable def vhd (N n:Nat) (K:Ex→St→Z0) (p1:Y2) (n4:Int) (best5:Y4) (a6:Int):Z0:=iter ((A_V50).shape 12) (run (A_V50) N (codeAt Try.f8 [1,1,1,1,0,1,0,0])) n ([.u,W2 p1,.u,.u,W0 n4,W3 best5,W0 a6]++us 80) K
noncomputable def vhw (N n:Nat) (K:Ex→St→Z0) (p1:Y2) (n4:Int) (best5:Y4) (a6 b7:Int):Z0:=iter ((A_V50).shape 18) (run (A_V50) N (codeAt Try.f8 [1,1,1,1,0,1,0,0,1,0,0,1,0,0])) n ([.u,W2 p1,.u,.u,W0 n4,W3 best5,W0 a6,W0 b7]++us 79) K
noncomputable def ver (N n:Nat) (K:Ex→St→Z0) (p1:Y2) (n4:Int) (best5:Y4) (a6 b7 c8:Int):Z0:=iter ((A_V50).shape 24) (run (A_V50) N (codeAt Try.f8 [1,1,1,1,0,1,0,0,1,0,0,1,0,0,1,0,0,1,0,0])) n ([.u,W2 p1,.u,.u,W0 n4,W3 best5,W0 a6,W0 b7,W0 c8]++us 78) K
noncomputable abbrev vabn:Ex→St→Z0:=finish (A_V50) S_V50 Try.f8.results.toList
noncomputable abbrev vafe (kX:St→Z0) (best5:Y4):Z0:=kX ((ud 5 [W3 best5])++us 81)
noncomputable abbrev vjh (kX:St→Z0) (kO:Nat→St→Z0):Ex→St→Z0:=exK vabn 0 ((A_V50).shape 39) kX kO
noncomputable abbrev vabx (kX:St→Z0) (p1:Y2) (n4:Int) (best5:Y4) (a6:Int):Z0:=kX ([.u,W2 p1,.u,.u,W0 n4,W3 best5,W0 a6]++us 80)
noncomputable abbrev vjr (kX:St→Z0) (kO:Nat→St→Z0):Ex→St→Z0:=exK vabn 2 ((A_V50).shape 15) kX kO
noncomputable abbrev vait (kX:St→Z0) (p1:Y2) (n4:Int) (best5:Y4) (a6 b7:Int):Z0:=kX ([.u,W2 p1,.u,.u,W0 n4,W3 best5,W0 a6,W0 b7]++us 79)
noncomputable abbrev vwe (kX:St→Z0) (kO:Nat→St→Z0):Ex→St→Z0:=exK vabn 4 ((A_V50).shape 21) kX kO
theorem vyn (N kX kO):∀ n,ver N n (vwe kX kO)=vvq N (vait kX) n
 | 0=>rfl
 | m+1=>(show ver N (m+1) (vwe kX kO)=vdi (ver N m (vwe kX kO)) (vait kX) by kernel_rfl).trans (by rw[vyn N kX kO m];funext _ _ _ _ _ _;rfl)
noncomputable abbrev vvi (N m:Nat) (kX:St→Z0) (kO:Nat→St→Z0):Ex→St→Z0:=(blockK 4 (blockK 3 (sqK (A_V50) N 21 500010 (codeAt Try.f8 [1,1,1,1,0,1,0,0,1,0,0,1,0,0,1,1]) (itK (A_V50) N 18 (codeAt Try.f8 [1,1,1,1,0,1,0,0,1,0,0,1,0,0]) m (vjr kX kO)))))
noncomputable abbrev vazp (N m:Nat) (kX:St→Z0) (kO:Nat→St→Z0) (st':St):Z0:=run (A_V50) N (codeAt Try.f8 [1,1,1,1,0,1,0,0,1,0,0,1,0,0,1,1]) st' (itK (A_V50) N 18 (codeAt Try.f8 [1,1,1,1,0,1,0,0,1,0,0,1,0,0]) m (vjr kX kO))
theorem vbkj (N m kX kO) {r} (h:vhw N m (vjr kX kO)=r):ver N N (vvi N m kX kO)=vnt N r (vabx kX):=by
 rw[show ver N N (vvi N m kX kO)=ver N N (vwe (vazp N m kX kO) fun j=>(vvi N m kX kO) (.exit j)) from (by funext _ _ _ _ _ _;exact vab (fun _=>by kernel_rfl) fun _=>by kernel_rfl),vyn,show vait (vazp N m kX kO)=vfh (vhw N m (vjr kX kO)) by kernel_rfl,h];rfl
theorem valf (N kX kO):∀ n,vhw N n (vjr kX kO)=vaga N (vabx kX) n
 | 0=>rfl
 | m+1=>(show vhw N (m+1) (vjr kX kO)=vgq (ver N N (vvi N m kX kO)) (vabx kX) by kernel_rfl).trans (by rw[vbkj N m kX kO (valf N kX kO m)];funext _ _ _ _ _;rfl)
noncomputable abbrev vzz (N m:Nat) (kX:St→Z0) (kO:Nat→St→Z0):Ex→St→Z0:=(blockK 2 (blockK 1 (sqK (A_V50) N 15 500007 (codeAt Try.f8 [1,1,1,1,0,1,0,0,1,1]) (itK (A_V50) N 12 (codeAt Try.f8 [1,1,1,1,0,1,0,0]) m (vjh kX kO)))))
noncomputable abbrev vbet (N m:Nat) (kX:St→Z0) (kO:Nat→St→Z0) (st':St):Z0:=run (A_V50) N (codeAt Try.f8 [1,1,1,1,0,1,0,0,1,1]) st' (itK (A_V50) N 12 (codeAt Try.f8 [1,1,1,1,0,1,0,0]) m (vjh kX kO))
theorem vbob (N m kX kO) {r} (h:vhd N m (vjh kX kO)=r):vhw N N (vzz N m kX kO)=vtf N r (vafe kX):=by
 rw[show vhw N N (vzz N m kX kO)=vhw N N (vjr (vbet N m kX kO) fun j=>(vzz N m kX kO) (.exit j)) from (by funext _ _ _ _ _;exact vab (fun _=>by kernel_rfl) fun _=>by kernel_rfl),valf,show vabx (vbet N m kX kO)=vdx (vhd N m (vjh kX kO)) by kernel_rfl,h];rfl
theorem valm (N kX kO):∀ n,vhd N n (vjh kX kO)=vags N (vafe kX) n
 | 0=>rfl
 | m+1=>(show vhd N (m+1) (vjh kX kO)=vhz (vhw N N (vzz N m kX kO)) (vafe kX) by kernel_rfl).trans (by rw[vbob N m kX kO (valm N kX kO m)];funext _ _ _ _;rfl)
noncomputable abbrev vafx (N:Nat):Ex→St→Z0:=(blockK 0 (sqK (A_V50) N 39 500019 (codeAt Try.f8 [1,1,1,1,1]) vabn))
noncomputable abbrev vbfl (N:Nat) (st':St):Z0:=run (A_V50) N (codeAt Try.f8 [1,1,1,1,1]) st' vabn
theorem vbpr (N):vhd N N (vafx N)=vaqx N:=by
 rw[show vhd N N (vafx N)=vhd N N (vjh (vbfl N) fun j=>(vafx N) (.exit j)) from (by funext _ _ _ _;exact vab (fun _=>by kernel_rfl) fun _=>by kernel_rfl),valm,show vafe (vbfl N)=ved by kernel_rfl];rfl
theorem run_V50 (N x):runF (A_V50) N Try.f8 S_V50 x=V50 N x.1:=(show _=(vapa (vhd N N (vafx N)) x.1) by kernel_rfl).trans (by rw[vbpr N];rfl)
theorem ok_V50:FnOk Try.prog 8∧Gx.Good Try.prog 8 S_V50:=gdR (A:=A_V50) tc Try.func8 (by kernel_rfl) (vaa ⟨ok_V45,ok_V46,ok_V47,ok_V16,ok_V48,ok_V49,trivial⟩) (run_V50 big)
def vqc (rec:Y4→Y4→Int→Z1) (k:Z1) (a0 b1:Y4) (i5:Int):Z1 :=
  cond (decide (i5<(a0.length:Int)))
  ((atI a0 i5).bind fun xq1 =>
  (atI b1 i5).bind fun xq2 =>
  cond (decide (xq1≠xq2))
  (some (false,(())))
  (rec a0 b1 (IntKind.i64.wrap (i5+1))))
  (k)
def vob:Z1 :=
  some (true,(()))
def vbcp (L4:Y4→Y4→Int→Z1) (a_0 b_1:Y4):Z1 :=
  cond (decide ((a_0.length:Int)≠(b_1.length:Int)))
  (some (false,(())))
  (L4 a_0 b_1 (0:Int))
def vacw (N:Nat) (k:Z1):Nat→Y4→Y4→Int→Z1
  | 0,_,_,_=>none
  | m+1,a0,b1,i5=>vqc (vacw N k m) k a0 b1 i5
def vawe (N:Nat) (a0 b1:Y4) (i5:Int):Z1:=vacw N (vob) N a0 b1 i5
def V51 (N:Nat) (a_0 b_1:Y4):Z1:=vbcp (vawe N) a_0 b_1
def S_V51:Sig:=⟨(.pair Q7 Q12),[0,0],[],.unit,.bool,.i,fun x=>V51 big x.1 x.2.1⟩
def A_V51:Cfg:=mkCfg tab [] [(8,([.as Q7 .i,.as Q7 .i]++dr 3 [.as I .i])),(17,[])]
noncomputable def vkq (N n:Nat) (K:Ex→St→Z1) (a0 b1:Y4) (i5:Int):Z1:=iter ((A_V51).shape 8) (run (A_V51) N (codeAt Try.f9 [1,1,0,1,0,0])) n (([W4 a0,W4 b1]++ud 3 [W0 i5])++us 20) K
noncomputable abbrev vbcn:Ex→St→Z1:=finish (A_V51) S_V51 Try.f9.results.toList
noncomputable abbrev vauo (kX:St→Z1):Z1:=kX ([]++us 26)
noncomputable abbrev vaac (kX:St→Z1) (kO:Nat→St→Z1):Ex→St→Z1:=exK vbcn 0 ((A_V51).shape 17) kX kO
theorem vakk (N kX kO):∀ n,vkq N n (vaac kX kO)=vacw N (vauo kX) n
 | 0=>rfl
 | m+1=>(show vkq N (m+1) (vaac kX kO)=vqc (vkq N m (vaac kX kO)) (vauo kX) by kernel_rfl).trans (by rw[vakk N kX kO m];funext _ _ _;rfl)
noncomputable abbrev vabf (N:Nat):Ex→St→Z1:=(blockK 0 (sqK (A_V51) N 17 500008 (codeAt Try.f9 [1,1,1]) vbcn))
noncomputable abbrev vbhi (N:Nat) (st':St):Z1:=run (A_V51) N (codeAt Try.f9 [1,1,1]) st' vbcn
theorem vbor (N):vkq N N (vabf N)=vawe N:=by
 rw[show vkq N N (vabf N)=vkq N N (vaac (vbhi N) fun j=>(vabf N) (.exit j)) from (by funext _ _ _;exact vab (fun _=>by kernel_rfl) fun _=>by kernel_rfl),vakk,show vauo (vbhi N)=vob by kernel_rfl];rfl
theorem run_V51 (N x):runF (A_V51) N Try.f9 S_V51 x=V51 N x.1 x.2.1:=(show _=(vbcp (vkq N N (vabf N)) x.1 x.2.1) by kernel_rfl).trans (by rw[vbor N];rfl)
theorem ok_V51:FnOk Try.prog 9∧Gx.Good Try.prog 9 S_V51:=gdR (A:=A_V51) tc Try.func9 (by kernel_rfl) (vaa trivial) (run_V51 big)
def vblz (l_0:Y1) (o_1 x_2 y_3 z_4 i_5:Int):Z1 :=
  (l_0).bind fun xq1 =>
  (atI xq1.2.1 x_2).bind fun xq2 =>
  (atI xq2 y_3).bind fun xq3 =>
  cond (decide (xq3=o_1))
  ((l_0).bind fun xq4 =>
  (atI xq4.2.1 y_3).bind fun xq5 =>
  (atI xq5 z_4).bind fun xq6 =>
  cond (decide (xq6=o_1))
  ((l_0).bind fun xq7 =>
  (atI xq7.2.2.1 x_2).bind fun xq8 =>
  (atI xq8 y_3).bind fun xq9 =>
  cond (decide (xq9=i_5))
  ((l_0).bind fun xq10 =>
  (atI xq10.2.2.1 y_3).bind fun xq11 =>
  (atI xq11 z_4).bind fun xq12 =>
  some (decide (xq12=i_5),(())))
  (some (false,(()))))
  (some (false,(()))))
  (some (false,(())))
def V52 (l_0:Y1) (o_1 x_2 y_3 z_4 i_5:Int):Z1:=vblz l_0 o_1 x_2 y_3 z_4 i_5
def S_V52:Sig:=⟨(.pair Q2 (.pair I (.pair I (.pair I Q8)))),[0,0,0,0,0,0],[],.unit,.bool,.i,fun x=>V52 x.1 x.2.1 x.2.2.1 x.2.2.2.1 x.2.2.2.2.1 x.2.2.2.2.2.1⟩
def A_V52:Cfg:=mkCfg tab [] []
theorem run_V52 (N x):runF (A_V52) N Try.f51 S_V52 x=V52 x.1 x.2.1 x.2.2.1 x.2.2.2.1 x.2.2.2.2.1 x.2.2.2.2.2.1:=by kernel_rfl
theorem ok_V52:FnOk Try.prog 51∧Gx.Good Try.prog 51 S_V52:=gdR (A:=A_V52) tc Try.func51 (by kernel_rfl) (vaa trivial) (run_V52 big)
def vcy (rec:Unit→Y1→Y4→Int→Int→Int→Int→Int→Int→Int→Int→Z0) (k:Unit→Y1→Y4→Int→Int→Int→Int→Int→Z0) (good1:Unit) (l6:Y1) (best8:Y4) (a9 b10 t26 t27 t34 t35 t42 t43:Int):Z0 :=
  cond (decide (t43<t42))
  ((l6).bind fun xq5 =>
  (atI xq5.2.1 a9).bind fun xq6 =>
  (atI xq6 t43).bind fun xq7 =>
  (l6).bind fun xq8 =>
  (atI xq8.2.2.1 a9).bind fun xq9 =>
  (atI xq9 t43).bind fun xq10 =>
  (V34 big [xq7,a9,b10,t43,xq10]).bind fun rq11 =>
  cond (!rq11.1)
  (rec good1 l6 best8 a9 b10 t26 t27 t34 t35 t42 (IntKind.i64.wrap (t43+1)))
  ((atI [xq7,a9,b10,t43,xq10] (0:Int)).bind fun _ =>
  ([xq7,a9,b10,t43,xq10][(0:Int).toNat]?).bind fun xq12 =>
  (atI [xq7,a9,b10,t43,xq10] (4:Int)).bind fun _ =>
  ([xq7,a9,b10,t43,xq10][(4:Int).toNat]?).bind fun xq13 =>
  (V52 l6 xq12 a9 b10 t43 xq13).bind fun rq14 =>
  cond (!rq14.1)
  (rec good1 l6 best8 a9 b10 t26 t27 t34 t35 t42 (IntKind.i64.wrap (t43+1)))
  (cond (decide ((best8.length:Int)=0))
  (rec good1 l6 [xq7,a9,b10,t43,xq10] a9 b10 t26 t27 t34 t35 t42 (IntKind.i64.wrap (t43+1)))
  ((V35 big [xq7,a9,b10,t43,xq10] best8).bind fun rq15 =>
  cond (decide (rq15.1<0))
  (rec good1 l6 [xq7,a9,b10,t43,xq10] a9 b10 t26 t27 t34 t35 t42 (IntKind.i64.wrap (t43+1)))
  (rec good1 l6 best8 a9 b10 t26 t27 t34 t35 t42 (IntKind.i64.wrap (t43+1)))))))
  (k good1 l6 best8 a9 t26 t27 t34 t35)
def vff (rec:Unit→Y1→Y4→Int→Int→Int→Int→Int→Z0) (good1:Unit) (l6:Y1) (best8:Y4) (a9 t26 t27 t34 t35:Int):Z0 :=
  rec good1 l6 best8 a9 t26 t27 t34 (IntKind.i64.wrap (t35+1))
def vgp (L12:Unit→Y1→Y4→Int→Int→Int→Int→Int→Int→Int→Int→Z0) (k:Unit→Y1→Y4→Int→Int→Z0) (good1:Unit) (l6:Y1) (best8:Y4) (a9 t26 t27 t34 t35:Int):Z0 :=
  cond (decide (t35<t34))
  ((l6).bind fun xq4 =>
  L12 good1 l6 best8 a9 t35 t26 t27 t34 t35 (xq4.1.length:Int) (0:Int))
  (k good1 l6 best8 t26 t27)
def vds (rec:Unit→Y1→Y4→Int→Int→Z0) (good1:Unit) (l6:Y1) (best8:Y4) (t26 t27:Int):Z0 :=
  rec good1 l6 best8 t26 (IntKind.i64.wrap (t27+1))
def vib (L9:Unit→Y1→Y4→Int→Int→Int→Int→Int→Z0) (k:Y4→Z0) (good1:Unit) (l6:Y1) (best8:Y4) (t26 t27:Int):Z0 :=
  cond (decide (t27<t26))
  ((l6).bind fun xq3 =>
  L9 good1 l6 best8 t27 t26 t27 (xq3.1.length:Int) (0:Int))
  (k best8)
def vea (best8:Y4):Z0 :=
  some ((best8,decide ((0:Int)<(best8.length:Int)),()),(()))
def vahf (L6:Unit→Y1→Y4→Int→Int→Z0) (p_0:Y2) (good_1:Unit):Z0 :=
  (V32 p_0).bind fun rq1 =>
  cond (!rq1.1.2.1)
  (some (([],false,()),(())))
  ((rq1.1.1).bind fun xq2 =>
  L6 good_1 rq1.1.1 [] (xq2.1.length:Int) (0:Int))
def vus (N:Nat) (k:Unit→Y1→Y4→Int→Int→Int→Int→Int→Z0):Nat→Unit→Y1→Y4→Int→Int→Int→Int→Int→Int→Int→Int→Z0
  | 0,_,_,_,_,_,_,_,_,_,_,_=>none
  | m+1,good1,l6,best8,a9,b10,t26,t27,t34,t35,t42,t43=>vcy (vus N k m) k good1 l6 best8 a9 b10 t26 t27 t34 t35 t42 t43
def vnh (N:Nat) (rec:Unit→Y1→Y4→Int→Int→Int→Int→Int→Z0) (k:Unit→Y1→Y4→Int→Int→Z0) (good1:Unit) (l6:Y1) (best8:Y4) (a9 b10 t26 t27 t34 t35 t42 t43:Int):Z0:=vus N (vff rec) N good1 l6 best8 a9 b10 t26 t27 t34 t35 t42 t43
def vafw (N:Nat) (k:Unit→Y1→Y4→Int→Int→Z0):Nat→Unit→Y1→Y4→Int→Int→Int→Int→Int→Z0
  | 0,_,_,_,_,_,_,_,_=>none
  | m+1,good1,l6,best8,a9,t26,t27,t34,t35=>vgp (vnh N (vafw N k m) k) k good1 l6 best8 a9 t26 t27 t34 t35
def vta (N:Nat) (rec:Unit→Y1→Y4→Int→Int→Z0) (k:Y4→Z0) (good1:Unit) (l6:Y1) (best8:Y4) (a9 t26 t27 t34 t35:Int):Z0:=vafw N (vds rec) N good1 l6 best8 a9 t26 t27 t34 t35
def vacz (N:Nat) (k:Y4→Z0):Nat→Unit→Y1→Y4→Int→Int→Z0
  | 0,_,_,_,_,_=>none
  | m+1,good1,l6,best8,t26,t27=>vib (vta N (vacz N k m) k) k good1 l6 best8 t26 t27
def vug (N:Nat) (good1:Unit) (l6:Y1) (best8:Y4) (t26 t27:Int):Z0:=vacz N (vea) N good1 l6 best8 t26 t27
def V53 (N:Nat) (p_0:Y2) (good_1:Unit):Z0:=vahf (vug N) p_0 good_1
def S_V53:Sig:=⟨(.pair Q0 (.pair (.clo 51 0 .unit) .unit)),[0,0],[],.unit,Q9,(.p P5 .i),fun x=>V53 big x.1 x.2.1⟩
def A_V53:Cfg:=mkCfg tab [(52,S_V32),(83,S_V34),(51,S_V52),(84,S_V35)] [(12,([.drop,.as (.clo 51 0 .unit) .i]++dr 4 ([.as Q2 .i,.drop,.as Q7 P5]++dr 17 [.as I .i,.as I .i]))),(18,([.drop,.as (.clo 51 0 .unit) .i]++dr 4 ([.as Q2 .i,.drop,.as Q7 P5,.as I .i]++dr 16 ([.as I .i,.as I .i]++dr 6 [.as I .i,.as I .i])))),(43,(dr 8 [.as Q7 P5])),(24,([.drop,.as (.clo 51 0 .unit) .i]++dr 4 ([.as Q2 .i,.drop,.as Q7 P5,.as I .i,.as I .i]++dr 15 ([.as I .i,.as I .i]++dr 6 ([.as I .i,.as I .i]++dr 6 [.as I .i,.as I .i]))))),(41,([.drop,.as (.clo 51 0 .unit) .i]++dr 4 ([.as Q2 .i,.drop,.as Q7 P5]++dr 17 [.as I .i,.as I .i]))),(39,([.drop,.as (.clo 51 0 .unit) .i]++dr 4 ([.as Q2 .i,.drop,.as Q7 P5,.as I .i]++dr 16 ([.as I .i,.as I .i]++dr 6 [.as I .i,.as I .i]))))]
noncomputable def vgn (N n:Nat) (K:Ex→St→Z0) (good1:Unit) (l6:Y1) (best8:Y4) (t26 t27:Int):Z0:=iter ((A_V53).shape 12) (run (A_V53) N (codeAt Try.f42 [1,1,1,1,0,1,0,0])) n (([.u,.val (.clo 51 0 .unit) .i good1]++ud 4 ([W6 l6,.u,W3 best8]++ud 17 [W0 t26,W0 t27]))++us 77) K
noncomputable def vgy (N n:Nat) (K:Ex→St→Z0) (good1:Unit) (l6:Y1) (best8:Y4) (a9 t26 t27 t34 t35:Int):Z0:=iter ((A_V53).shape 18) (run (A_V53) N (codeAt Try.f42 [1,1,1,1,0,1,0,0,1,1,0,0,1,1,0,0])) n (([.u,.val (.clo 51 0 .unit) .i good1]++ud 4 ([W6 l6,.u,W3 best8,W0 a9]++ud 16 ([W0 t26,W0 t27]++ud 6 [W0 t34,W0 t35])))++us 69) K
noncomputable def vek (N n:Nat) (K:Ex→St→Z0) (good1:Unit) (l6:Y1) (best8:Y4) (a9 b10 t26 t27 t34 t35 t42 t43:Int):Z0:=iter ((A_V53).shape 24) (run (A_V53) N (codeAt Try.f42 [1,1,1,1,0,1,0,0,1,1,0,0,1,1,0,0,1,1,0,0,1,1,0,0])) n (([.u,.val (.clo 51 0 .unit) .i good1]++ud 4 ([W6 l6,.u,W3 best8,W0 a9,W0 b10]++ud 15 ([W0 t26,W0 t27]++ud 6 ([W0 t34,W0 t35]++ud 6 [W0 t42,W0 t43]))))++us 61) K
noncomputable abbrev vadg:Ex→St→Z0:=finish (A_V53) S_V53 Try.f42.results.toList
noncomputable abbrev vafg (kX:St→Z0) (best8:Y4):Z0:=kX ((ud 8 [W3 best8])++us 96)
noncomputable abbrev vky (kX:St→Z0) (kO:Nat→St→Z0):Ex→St→Z0:=exK vadg 0 ((A_V53).shape 43) kX kO
noncomputable abbrev vafr (kX:St→Z0) (good1:Unit) (l6:Y1) (best8:Y4) (t26 t27:Int):Z0:=kX (([.u,.val (.clo 51 0 .unit) .i good1]++ud 4 ([W6 l6,.u,W3 best8]++ud 17 [W0 t26,W0 t27]))++us 77)
noncomputable abbrev vmc (kX:St→Z0) (kO:Nat→St→Z0):Ex→St→Z0:=exK vadg 2 ((A_V53).shape 41) kX kO
noncomputable abbrev vain (kX:St→Z0) (good1:Unit) (l6:Y1) (best8:Y4) (a9 t26 t27 t34 t35:Int):Z0:=kX (([.u,.val (.clo 51 0 .unit) .i good1]++ud 4 ([W6 l6,.u,W3 best8,W0 a9]++ud 16 ([W0 t26,W0 t27]++ud 6 [W0 t34,W0 t35])))++us 69)
noncomputable abbrev vww (kX:St→Z0) (kO:Nat→St→Z0):Ex→St→Z0:=exK vadg 4 ((A_V53).shape 39) kX kO
theorem vyz (N kX kO):∀ n,vek N n (vww kX kO)=vus N (vain kX) n
 | 0=>rfl
 | m+1=>(show vek N (m+1) (vww kX kO)=vcy (vek N m (vww kX kO)) (vain kX) by kernel_rfl).trans (by rw[vyz N kX kO m];funext _ _ _ _ _ _ _ _ _ _ _;rfl)
noncomputable abbrev vwh (N m:Nat) (kX:St→Z0) (kO:Nat→St→Z0):Ex→St→Z0:=(blockK 4 (blockK 3 (sqK (A_V53) N 39 500019 (codeAt Try.f42 [1,1,1,1,0,1,0,0,1,1,0,0,1,1,0,0,1,1,1]) (itK (A_V53) N 18 (codeAt Try.f42 [1,1,1,1,0,1,0,0,1,1,0,0,1,1,0,0]) m (vmc kX kO)))))
noncomputable abbrev vayh (N m:Nat) (kX:St→Z0) (kO:Nat→St→Z0) (st':St):Z0:=run (A_V53) N (codeAt Try.f42 [1,1,1,1,0,1,0,0,1,1,0,0,1,1,0,0,1,1,1]) st' (itK (A_V53) N 18 (codeAt Try.f42 [1,1,1,1,0,1,0,0,1,1,0,0,1,1,0,0]) m (vmc kX kO))
theorem vbjy (N m kX kO) {r} (h:vgy N m (vmc kX kO)=r):vek N N (vwh N m kX kO)=vnh N r (vafr kX):=by
 rw[show vek N N (vwh N m kX kO)=vek N N (vww (vayh N m kX kO) fun j=>(vwh N m kX kO) (.exit j)) from (by funext _ _ _ _ _ _ _ _ _ _ _;exact vab (fun _=>by kernel_rfl) fun _=>by kernel_rfl),vyz,show vain (vayh N m kX kO)=vff (vgy N m (vmc kX kO)) by kernel_rfl,h];rfl
theorem vaka (N kX kO):∀ n,vgy N n (vmc kX kO)=vafw N (vafr kX) n
 | 0=>rfl
 | m+1=>(show vgy N (m+1) (vmc kX kO)=vgp (vek N N (vwh N m kX kO)) (vafr kX) by kernel_rfl).trans (by rw[vbjy N m kX kO (vaka N kX kO m)];funext _ _ _ _ _ _ _ _;rfl)
noncomputable abbrev vafy (N m:Nat) (kX:St→Z0) (kO:Nat→St→Z0):Ex→St→Z0:=(blockK 2 (blockK 1 (sqK (A_V53) N 41 500020 (codeAt Try.f42 [1,1,1,1,0,1,0,0,1,1,1]) (itK (A_V53) N 12 (codeAt Try.f42 [1,1,1,1,0,1,0,0]) m (vky kX kO)))))
noncomputable abbrev vbip (N m:Nat) (kX:St→Z0) (kO:Nat→St→Z0) (st':St):Z0:=run (A_V53) N (codeAt Try.f42 [1,1,1,1,0,1,0,0,1,1,1]) st' (itK (A_V53) N 12 (codeAt Try.f42 [1,1,1,1,0,1,0,0]) m (vky kX kO))
theorem vbrh (N m kX kO) {r} (h:vgn N m (vky kX kO)=r):vgy N N (vafy N m kX kO)=vta N r (vafg kX):=by
 rw[show vgy N N (vafy N m kX kO)=vgy N N (vmc (vbip N m kX kO) fun j=>(vafy N m kX kO) (.exit j)) from (by funext _ _ _ _ _ _ _ _;exact vab (fun _=>by kernel_rfl) fun _=>by kernel_rfl),vaka,show vafr (vbip N m kX kO)=vds (vgn N m (vky kX kO)) by kernel_rfl,h];rfl
theorem vanj (N kX kO):∀ n,vgn N n (vky kX kO)=vacz N (vafg kX) n
 | 0=>rfl
 | m+1=>(show vgn N (m+1) (vky kX kO)=vib (vgy N N (vafy N m kX kO)) (vafg kX) by kernel_rfl).trans (by rw[vbrh N m kX kO (vanj N kX kO m)];funext _ _ _ _ _;rfl)
noncomputable abbrev vacv (N:Nat):Ex→St→Z0:=(blockK 0 (sqK (A_V53) N 43 500021 (codeAt Try.f42 [1,1,1,1,1]) vadg))
noncomputable abbrev vbhl (N:Nat) (st':St):Z0:=run (A_V53) N (codeAt Try.f42 [1,1,1,1,1]) st' vadg
theorem vbnk (N):vgn N N (vacv N)=vug N:=by
 rw[show vgn N N (vacv N)=vgn N N (vky (vbhl N) fun j=>(vacv N) (.exit j)) from (by funext _ _ _ _ _;exact vab (fun _=>by kernel_rfl) fun _=>by kernel_rfl),vanj,show vafg (vbhl N)=vea by kernel_rfl];rfl
theorem run_V53 (N x):runF (A_V53) N Try.f42 S_V53 x=V53 N x.1 x.2.1:=(show _=(vahf (vgn N N (vacv N)) x.1 x.2.1) by kernel_rfl).trans (by rw[vbnk N];rfl)
theorem ok_V53:FnOk Try.prog 42∧Gx.Good Try.prog 42 S_V53:=gdR (A:=A_V53) tc Try.func42 (by kernel_rfl) (vaa ⟨ok_V32,ok_V34,ok_V52,ok_V35,trivial⟩) (run_V53 big)
def vaor (p_0:Y2):Z0 :=
  (V53 big p_0 ()).bind fun rq1 =>
  some ((rq1.1.1,(((),rq1.1.2).2).1,()),(()))
def V54 (p_0:Y2):Z0:=vaor p_0
def S_V54:Sig:=⟨Q11,[0],[],.unit,Q9,(.p P5 .i),fun x=>V54 x.1⟩
def A_V54:Cfg:=mkCfg tab [(42,S_V53)] []
theorem run_V54 (N x):runF (A_V54) N Try.f10 S_V54 x=V54 x.1:=by kernel_rfl
theorem ok_V54:FnOk Try.prog 10∧Gx.Good Try.prog 10 S_V54:=gdR (A:=A_V54) tc Try.func10 (by kernel_rfl) (vaa ⟨ok_V53,trivial⟩) (run_V54 big)
def vdm (rec:Y2→Int→Y4→Int→Int→Int→Z0) (k:Y2→Int→Y4→Int→Int→Z0) (p1:Y2) (n4:Int) (best5:Y4) (x6 y7 z8:Int):Z0 :=
  cond (decide (z8<n4))
  ((V46 p1 x6 y7).bind fun rq2 =>
  (V47 p1 x6 y7).bind fun rq3 =>
  (V46 p1 x6 z8).bind fun rq4 =>
  cond (decide (rq4.1≠rq2.1))
  (rec p1 n4 best5 x6 y7 (IntKind.i64.wrap (z8+1)))
  ((V46 p1 y7 z8).bind fun rq5 =>
  cond (decide (rq5.1≠rq2.1))
  (rec p1 n4 best5 x6 y7 (IntKind.i64.wrap (z8+1)))
  ((V47 p1 x6 z8).bind fun rq6 =>
  cond (decide (rq6.1≠rq3.1))
  (rec p1 n4 best5 x6 y7 (IntKind.i64.wrap (z8+1)))
  ((V47 p1 y7 z8).bind fun rq7 =>
  cond (decide (rq7.1≠rq3.1))
  (rec p1 n4 best5 x6 y7 (IntKind.i64.wrap (z8+1)))
  ((V48 big [rq2.1,x6,y7,z8,rq3.1]).bind fun rq8 =>
  cond rq8.1
  (cond (decide ((best5.length:Int)=0))
  (rec p1 n4 [rq2.1,x6,y7,z8,rq3.1] x6 y7 (IntKind.i64.wrap (z8+1)))
  ((V49 big [rq2.1,x6,y7,z8,rq3.1] best5).bind fun rq9 =>
  cond rq9.1
  (rec p1 n4 [rq2.1,x6,y7,z8,rq3.1] x6 y7 (IntKind.i64.wrap (z8+1)))
  (rec p1 n4 best5 x6 y7 (IntKind.i64.wrap (z8+1)))))
  (rec p1 n4 best5 x6 y7 (IntKind.i64.wrap (z8+1))))))))
  (k p1 n4 best5 x6 y7)
def vfd (rec:Y2→Int→Y4→Int→Int→Z0) (p1:Y2) (n4:Int) (best5:Y4) (x6 y7:Int):Z0 :=
  rec p1 n4 best5 x6 (IntKind.i64.wrap (y7+1))
def vfs (L12:Y2→Int→Y4→Int→Int→Int→Z0) (k:Y2→Int→Y4→Int→Z0) (p1:Y2) (n4:Int) (best5:Y4) (x6 y7:Int):Z0 :=
  cond (decide (y7<n4))
  (L12 p1 n4 best5 x6 y7 (0:Int))
  (k p1 n4 best5 x6)
def veb (rec:Y2→Int→Y4→Int→Z0) (p1:Y2) (n4:Int) (best5:Y4) (x6:Int):Z0 :=
  rec p1 n4 best5 (IntKind.i64.wrap (x6+1))
def vht (L9:Y2→Int→Y4→Int→Int→Z0) (k:Y4→Z0) (p1:Y2) (n4:Int) (best5:Y4) (x6:Int):Z0 :=
  cond (decide (x6<n4))
  (L9 p1 n4 best5 x6 (0:Int))
  (k best5)
def vdu (best5:Y4):Z0 :=
  some ((best5,decide ((0:Int)<(best5.length:Int)),()),(()))
def vapj (L6:Y2→Int→Y4→Int→Z0) (p_0:Y2):Z0 :=
  (V45 big p_0).bind fun rq1 =>
  cond (!rq1.1)
  (some (([],false,()),(())))
  (L6 p_0 (p_0.1.length:Int) [] (0:Int))
def vvc (N:Nat) (k:Y2→Int→Y4→Int→Int→Z0):Nat→Y2→Int→Y4→Int→Int→Int→Z0
  | 0,_,_,_,_,_,_=>none
  | m+1,p1,n4,best5,x6,y7,z8=>vdm (vvc N k m) k p1 n4 best5 x6 y7 z8
def vpm (N:Nat) (rec:Y2→Int→Y4→Int→Int→Z0) (k:Y2→Int→Y4→Int→Z0) (p1:Y2) (n4:Int) (best5:Y4) (x6 y7 z8:Int):Z0:=vvc N (vfd rec) N p1 n4 best5 x6 y7 z8
def vahg (N:Nat) (k:Y2→Int→Y4→Int→Z0):Nat→Y2→Int→Y4→Int→Int→Z0
  | 0,_,_,_,_,_=>none
  | m+1,p1,n4,best5,x6,y7=>vfs (vpm N (vahg N k m) k) k p1 n4 best5 x6 y7
def vsv (N:Nat) (rec:Y2→Int→Y4→Int→Z0) (k:Y4→Z0) (p1:Y2) (n4:Int) (best5:Y4) (x6 y7:Int):Z0:=vahg N (veb rec) N p1 n4 best5 x6 y7
def vabj (N:Nat) (k:Y4→Z0):Nat→Y2→Int→Y4→Int→Z0
  | 0,_,_,_,_=>none
  | m+1,p1,n4,best5,x6=>vht (vsv N (vabj N k m) k) k p1 n4 best5 x6
def vasl (N:Nat) (p1:Y2) (n4:Int) (best5:Y4) (x6:Int):Z0:=vabj N (vdu) N p1 n4 best5 x6
def V55 (N:Nat) (p_0:Y2):Z0:=vapj (vasl N) p_0
def S_V55:Sig:=⟨Q11,[0],[],.unit,Q9,(.p P5 .i),fun x=>V55 big x.1⟩
def A_V55:Cfg:=mkCfg tab [(45,S_V45),(46,S_V46),(47,S_V47),(49,S_V48),(50,S_V49)] [(12,[.drop,.as Q4 P5,.drop,.drop,.as I .i,.as Q7 P5,.as I .i]),(18,[.drop,.as Q4 P5,.drop,.drop,.as I .i,.as Q7 P5,.as I .i,.as I .i]),(39,(dr 5 [.as Q7 P5])),(24,[.drop,.as Q4 P5,.drop,.drop,.as I .i,.as Q7 P5,.as I .i,.as I .i,.as I .i]),(15,[.drop,.as Q4 P5,.drop,.drop,.as I .i,.as Q7 P5,.as I .i]),(21,[.drop,.as Q4 P5,.drop,.drop,.as I .i,.as Q7 P5,.as I .i,.as I .i])]
noncomputable def vgu (N n:Nat) (K:Ex→St→Z0) (p1:Y2) (n4:Int) (best5:Y4) (x6:Int):Z0:=iter ((A_V55).shape 12) (run (A_V55) N (codeAt Try.f11 [1,1,1,1,0,1,0,0])) n ([.u,W2 p1,.u,.u,W0 n4,W3 best5,W0 x6]++us 89) K
noncomputable def vhq (N n:Nat) (K:Ex→St→Z0) (p1:Y2) (n4:Int) (best5:Y4) (x6 y7:Int):Z0:=iter ((A_V55).shape 18) (run (A_V55) N (codeAt Try.f11 [1,1,1,1,0,1,0,0,1,0,0,1,0,0])) n ([.u,W2 p1,.u,.u,W0 n4,W3 best5,W0 x6,W0 y7]++us 88) K
noncomputable def vem (N n:Nat) (K:Ex→St→Z0) (p1:Y2) (n4:Int) (best5:Y4) (x6 y7 z8:Int):Z0:=iter ((A_V55).shape 24) (run (A_V55) N (codeAt Try.f11 [1,1,1,1,0,1,0,0,1,0,0,1,0,0,1,0,0,1,0,0])) n ([.u,W2 p1,.u,.u,W0 n4,W3 best5,W0 x6,W0 y7,W0 z8]++us 87) K
noncomputable abbrev vagj:Ex→St→Z0:=finish (A_V55) S_V55 Try.f11.results.toList
noncomputable abbrev vaik (kX:St→Z0) (best5:Y4):Z0:=kX ((ud 5 [W3 best5])++us 90)
noncomputable abbrev vld (kX:St→Z0) (kO:Nat→St→Z0):Ex→St→Z0:=exK vagj 0 ((A_V55).shape 39) kX kO
noncomputable abbrev vacf (kX:St→Z0) (p1:Y2) (n4:Int) (best5:Y4) (x6:Int):Z0:=kX ([.u,W2 p1,.u,.u,W0 n4,W3 best5,W0 x6]++us 89)
noncomputable abbrev vmf (kX:St→Z0) (kO:Nat→St→Z0):Ex→St→Z0:=exK vagj 2 ((A_V55).shape 15) kX kO
noncomputable abbrev vajo (kX:St→Z0) (p1:Y2) (n4:Int) (best5:Y4) (x6 y7:Int):Z0:=kX ([.u,W2 p1,.u,.u,W0 n4,W3 best5,W0 x6,W0 y7]++us 88)
noncomputable abbrev vuo (kX:St→Z0) (kO:Nat→St→Z0):Ex→St→Z0:=exK vagj 4 ((A_V55).shape 21) kX kO
theorem vagm (N kX kO):∀ n,vem N n (vuo kX kO)=vvc N (vajo kX) n
 | 0=>rfl
 | m+1=>(show vem N (m+1) (vuo kX kO)=vdm (vem N m (vuo kX kO)) (vajo kX) by kernel_rfl).trans (by rw[vagm N kX kO m];funext _ _ _ _ _ _;rfl)
noncomputable abbrev vwx (N m:Nat) (kX:St→Z0) (kO:Nat→St→Z0):Ex→St→Z0:=(blockK 4 (blockK 3 (sqK (A_V55) N 21 500010 (codeAt Try.f11 [1,1,1,1,0,1,0,0,1,0,0,1,0,0,1,1]) (itK (A_V55) N 18 (codeAt Try.f11 [1,1,1,1,0,1,0,0,1,0,0,1,0,0]) m (vmf kX kO)))))
noncomputable abbrev vaxk (N m:Nat) (kX:St→Z0) (kO:Nat→St→Z0) (st':St):Z0:=run (A_V55) N (codeAt Try.f11 [1,1,1,1,0,1,0,0,1,0,0,1,0,0,1,1]) st' (itK (A_V55) N 18 (codeAt Try.f11 [1,1,1,1,0,1,0,0,1,0,0,1,0,0]) m (vmf kX kO))
theorem vbjs (N m kX kO) {r} (h:vhq N m (vmf kX kO)=r):vem N N (vwx N m kX kO)=vpm N r (vacf kX):=by
 rw[show vem N N (vwx N m kX kO)=vem N N (vuo (vaxk N m kX kO) fun j=>(vwx N m kX kO) (.exit j)) from (by funext _ _ _ _ _ _;exact vab (fun _=>by kernel_rfl) fun _=>by kernel_rfl),vagm,show vajo (vaxk N m kX kO)=vfd (vhq N m (vmf kX kO)) by kernel_rfl,h];rfl
theorem vane (N kX kO):∀ n,vhq N n (vmf kX kO)=vahg N (vacf kX) n
 | 0=>rfl
 | m+1=>(show vhq N (m+1) (vmf kX kO)=vfs (vem N N (vwx N m kX kO)) (vacf kX) by kernel_rfl).trans (by rw[vbjs N m kX kO (vane N kX kO m)];funext _ _ _ _ _;rfl)
noncomputable abbrev vagg (N m:Nat) (kX:St→Z0) (kO:Nat→St→Z0):Ex→St→Z0:=(blockK 2 (blockK 1 (sqK (A_V55) N 15 500007 (codeAt Try.f11 [1,1,1,1,0,1,0,0,1,1]) (itK (A_V55) N 12 (codeAt Try.f11 [1,1,1,1,0,1,0,0]) m (vld kX kO)))))
noncomputable abbrev vbgs (N m:Nat) (kX:St→Z0) (kO:Nat→St→Z0) (st':St):Z0:=run (A_V55) N (codeAt Try.f11 [1,1,1,1,0,1,0,0,1,1]) st' (itK (A_V55) N 12 (codeAt Try.f11 [1,1,1,1,0,1,0,0]) m (vld kX kO))
theorem vbog (N m kX kO) {r} (h:vgu N m (vld kX kO)=r):vhq N N (vagg N m kX kO)=vsv N r (vaik kX):=by
 rw[show vhq N N (vagg N m kX kO)=vhq N N (vmf (vbgs N m kX kO) fun j=>(vagg N m kX kO) (.exit j)) from (by funext _ _ _ _ _;exact vab (fun _=>by kernel_rfl) fun _=>by kernel_rfl),vane,show vacf (vbgs N m kX kO)=veb (vgu N m (vld kX kO)) by kernel_rfl,h];rfl
theorem vakt (N kX kO):∀ n,vgu N n (vld kX kO)=vabj N (vaik kX) n
 | 0=>rfl
 | m+1=>(show vgu N (m+1) (vld kX kO)=vht (vhq N N (vagg N m kX kO)) (vaik kX) by kernel_rfl).trans (by rw[vbog N m kX kO (vakt N kX kO m)];funext _ _ _ _;rfl)
noncomputable abbrev vaim (N:Nat):Ex→St→Z0:=(blockK 0 (sqK (A_V55) N 39 500019 (codeAt Try.f11 [1,1,1,1,1]) vagj))
noncomputable abbrev vbib (N:Nat) (st':St):Z0:=run (A_V55) N (codeAt Try.f11 [1,1,1,1,1]) st' vagj
theorem vbnt (N):vgu N N (vaim N)=vasl N:=by
 rw[show vgu N N (vaim N)=vgu N N (vld (vbib N) fun j=>(vaim N) (.exit j)) from (by funext _ _ _ _;exact vab (fun _=>by kernel_rfl) fun _=>by kernel_rfl),vakt,show vaik (vbib N)=vdu by kernel_rfl];rfl
theorem run_V55 (N x):runF (A_V55) N Try.f11 S_V55 x=V55 N x.1:=(show _=(vapj (vgu N N (vaim N)) x.1) by kernel_rfl).trans (by rw[vbnt N];rfl)
theorem ok_V55:FnOk Try.prog 11∧Gx.Good Try.prog 11 S_V55:=gdR (A:=A_V55) tc Try.func11 (by kernel_rfl) (vaa ⟨ok_V45,ok_V46,ok_V47,ok_V48,ok_V49,trivial⟩) (run_V55 big)
def voo (rec:Y1→Int→Int→Int→Int→Int→Int→Int→Int→Z4) (k:Y1→Int→Int→Int→Int→Int→Z4) (l0:Y1) (x3 y4 t10 t11 t18 t19 t26 t27:Int):Z4 :=
  cond (decide (t27<t26))
  ((l0).bind fun xq4 =>
  (atI xq4.1 x3).bind fun xq5 =>
  (atI xq5 t27).bind fun xq6 =>
  cond xq6
  ((l0).bind fun xq7 =>
  (atI xq7.2.2.1 x3).bind fun xq8 =>
  (l0).bind fun xq9 =>
  (atI xq9.2.1 y4).bind fun xq10 =>
  (atI xq10 t27).bind fun xq11 =>
  (atI xq8 xq11).bind fun xq12 =>
  (l0).bind fun xq13 =>
  (atI xq13.2.1 t27).bind fun xq14 =>
  (l0).bind fun xq15 =>
  (atI xq15.2.2.1 x3).bind fun xq16 =>
  (atI xq16 y4).bind fun xq17 =>
  (atI xq14 xq17).bind fun xq18 =>
  cond (decide (xq12≠xq18))
  (some ((some [x3,y4,t27]),(())))
  (rec l0 x3 y4 t10 t11 t18 t19 t26 (IntKind.i64.wrap (t27+1))))
  (rec l0 x3 y4 t10 t11 t18 t19 t26 (IntKind.i64.wrap (t27+1))))
  (k l0 x3 t10 t11 t18 t19)
def vpv (rec:Y1→Int→Int→Int→Int→Int→Z4) (l0:Y1) (x3 t10 t11 t18 t19:Int):Z4 :=
  rec l0 x3 t10 t11 t18 (IntKind.i64.wrap (t19+1))
def vqs (L8:Y1→Int→Int→Int→Int→Int→Int→Int→Int→Z4) (k:Y1→Int→Int→Z4) (l0:Y1) (x3 t10 t11 t18 t19:Int):Z4 :=
  cond (decide (t19<t18))
  ((l0).bind fun xq3 =>
  L8 l0 x3 t19 t10 t11 t18 t19 (xq3.1.length:Int) (0:Int))
  (k l0 t10 t11)
def vgt (rec:Y1→Int→Int→Z4) (l0:Y1) (t10 t11:Int):Z4 :=
  rec l0 t10 (IntKind.i64.wrap (t11+1))
def vpr (L5:Y1→Int→Int→Int→Int→Int→Z4) (k:Z4) (l0:Y1) (t10 t11:Int):Z4 :=
  cond (decide (t11<t10))
  ((l0).bind fun xq2 =>
  L5 l0 t11 t10 t11 (xq2.1.length:Int) (0:Int))
  (k)
def vft:Z4 :=
  some (none,(()))
def vbay (L2:Y1→Int→Int→Z4) (l_0:Y1):Z4 :=
  (l_0).bind fun xq1 =>
  L2 l_0 (xq1.1.length:Int) (0:Int)
def vzu (N:Nat) (k:Y1→Int→Int→Int→Int→Int→Z4):Nat→Y1→Int→Int→Int→Int→Int→Int→Int→Int→Z4
  | 0,_,_,_,_,_,_,_,_,_=>none
  | m+1,l0,x3,y4,t10,t11,t18,t19,t26,t27=>voo (vzu N k m) k l0 x3 y4 t10 t11 t18 t19 t26 t27
def vsh (N:Nat) (rec:Y1→Int→Int→Int→Int→Int→Z4) (k:Y1→Int→Int→Z4) (l0:Y1) (x3 y4 t10 t11 t18 t19 t26 t27:Int):Z4:=vzu N (vpv rec) N l0 x3 y4 t10 t11 t18 t19 t26 t27
def vahb (N:Nat) (k:Y1→Int→Int→Z4):Nat→Y1→Int→Int→Int→Int→Int→Z4
  | 0,_,_,_,_,_,_=>none
  | m+1,l0,x3,t10,t11,t18,t19=>vqs (vsh N (vahb N k m) k) k l0 x3 t10 t11 t18 t19
def vsu (N:Nat) (rec:Y1→Int→Int→Z4) (k:Z4) (l0:Y1) (x3 t10 t11 t18 t19:Int):Z4:=vahb N (vgt rec) N l0 x3 t10 t11 t18 t19
def vada (N:Nat) (k:Z4):Nat→Y1→Int→Int→Z4
  | 0,_,_,_=>none
  | m+1,l0,t10,t11=>vpr (vsu N (vada N k m) k) k l0 t10 t11
def vawb (N:Nat) (l0:Y1) (t10 t11:Int):Z4:=vada N (vft) N l0 t10 t11
def V56 (N:Nat) (l_0:Y1):Z4:=vbay (vawb N) l_0
def S_V56:Sig:=⟨(.pair Q2 .unit),[0],[],.unit,(.ns I),.i,fun x=>V56 big x.1⟩
def A_V56:Cfg:=mkCfg tab [] [(4,([.as Q2 .i]++dr 9 [.as I .i,.as I .i])),(10,([.as Q2 .i,.drop,.drop,.as I .i]++dr 6 ([.as I .i,.as I .i]++dr 6 [.as I .i,.as I .i]))),(31,[]),(16,([.as Q2 .i,.drop,.drop,.as I .i,.as I .i]++dr 5 ([.as I .i,.as I .i]++dr 6 ([.as I .i,.as I .i]++dr 6 [.as I .i,.as I .i])))),(29,([.as Q2 .i]++dr 9 [.as I .i,.as I .i])),(27,([.as Q2 .i,.drop,.drop,.as I .i]++dr 6 ([.as I .i,.as I .i]++dr 6 [.as I .i,.as I .i])))]
noncomputable def vgc (N n:Nat) (K:Ex→St→Z4) (l0:Y1) (t10 t11:Int):Z4:=iter ((A_V56).shape 4) (run (A_V56) N (codeAt Try.f53 [1,0,1,0,0])) n (([W6 l0]++ud 9 [W0 t10,W0 t11])++us 76) K
noncomputable def vgz (N n:Nat) (K:Ex→St→Z4) (l0:Y1) (x3 t10 t11 t18 t19:Int):Z4:=iter ((A_V56).shape 10) (run (A_V56) N (codeAt Try.f53 [1,0,1,0,0,1,1,0,0,1,1,0,0])) n (([W6 l0,.u,.u,W0 x3]++ud 6 ([W0 t10,W0 t11]++ud 6 [W0 t18,W0 t19]))++us 68) K
noncomputable def vks (N n:Nat) (K:Ex→St→Z4) (l0:Y1) (x3 y4 t10 t11 t18 t19 t26 t27:Int):Z4:=iter ((A_V56).shape 16) (run (A_V56) N (codeAt Try.f53 [1,0,1,0,0,1,1,0,0,1,1,0,0,1,1,0,0,1,1,0,0])) n (([W6 l0,.u,.u,W0 x3,W0 y4]++ud 5 ([W0 t10,W0 t11]++ud 6 ([W0 t18,W0 t19]++ud 6 [W0 t26,W0 t27])))++us 60) K
noncomputable abbrev vafs:Ex→St→Z4:=finish (A_V56) S_V56 Try.f53.results.toList
noncomputable abbrev vza (kX:St→Z4):Z4:=kX ([]++us 88)
noncomputable abbrev vkd (kX:St→Z4) (kO:Nat→St→Z4):Ex→St→Z4:=exK vafs 0 ((A_V56).shape 31) kX kO
noncomputable abbrev vaci (kX:St→Z4) (l0:Y1) (t10 t11:Int):Z4:=kX (([W6 l0]++ud 9 [W0 t10,W0 t11])++us 76)
noncomputable abbrev vjt (kX:St→Z4) (kO:Nat→St→Z4):Ex→St→Z4:=exK vafs 2 ((A_V56).shape 29) kX kO
noncomputable abbrev vapx (kX:St→Z4) (l0:Y1) (x3 t10 t11 t18 t19:Int):Z4:=kX (([W6 l0,.u,.u,W0 x3]++ud 6 ([W0 t10,W0 t11]++ud 6 [W0 t18,W0 t19]))++us 68)
noncomputable abbrev vaid (kX:St→Z4) (kO:Nat→St→Z4):Ex→St→Z4:=exK vafs 4 ((A_V56).shape 27) kX kO
theorem valn (N kX kO):∀ n,vks N n (vaid kX kO)=vzu N (vapx kX) n
 | 0=>rfl
 | m+1=>(show vks N (m+1) (vaid kX kO)=voo (vks N m (vaid kX kO)) (vapx kX) by kernel_rfl).trans (by rw[valn N kX kO m];funext _ _ _ _ _ _ _ _ _;rfl)
noncomputable abbrev vahn (N m:Nat) (kX:St→Z4) (kO:Nat→St→Z4):Ex→St→Z4:=(blockK 4 (blockK 3 (sqK (A_V56) N 27 500013 (codeAt Try.f53 [1,0,1,0,0,1,1,0,0,1,1,0,0,1,1,1]) (itK (A_V56) N 10 (codeAt Try.f53 [1,0,1,0,0,1,1,0,0,1,1,0,0]) m (vjt kX kO)))))
noncomputable abbrev vbdv (N m:Nat) (kX:St→Z4) (kO:Nat→St→Z4) (st':St):Z4:=run (A_V56) N (codeAt Try.f53 [1,0,1,0,0,1,1,0,0,1,1,0,0,1,1,1]) st' (itK (A_V56) N 10 (codeAt Try.f53 [1,0,1,0,0,1,1,0,0,1,1,0,0]) m (vjt kX kO))
theorem vbrc (N m kX kO) {r} (h:vgz N m (vjt kX kO)=r):vks N N (vahn N m kX kO)=vsh N r (vaci kX):=by
 rw[show vks N N (vahn N m kX kO)=vks N N (vaid (vbdv N m kX kO) fun j=>(vahn N m kX kO) (.exit j)) from (by funext _ _ _ _ _ _ _ _ _;exact vab (fun _=>by kernel_rfl) fun _=>by kernel_rfl),valn,show vapx (vbdv N m kX kO)=vpv (vgz N m (vjt kX kO)) by kernel_rfl,h];rfl
theorem vamm (N kX kO):∀ n,vgz N n (vjt kX kO)=vahb N (vaci kX) n
 | 0=>rfl
 | m+1=>(show vgz N (m+1) (vjt kX kO)=vqs (vks N N (vahn N m kX kO)) (vaci kX) by kernel_rfl).trans (by rw[vbrc N m kX kO (vamm N kX kO m)];funext _ _ _ _ _ _;rfl)
noncomputable abbrev vaen (N m:Nat) (kX:St→Z4) (kO:Nat→St→Z4):Ex→St→Z4:=(blockK 2 (blockK 1 (sqK (A_V56) N 29 500014 (codeAt Try.f53 [1,0,1,0,0,1,1,1]) (itK (A_V56) N 4 (codeAt Try.f53 [1,0,1,0,0]) m (vkd kX kO)))))
noncomputable abbrev vbhz (N m:Nat) (kX:St→Z4) (kO:Nat→St→Z4) (st':St):Z4:=run (A_V56) N (codeAt Try.f53 [1,0,1,0,0,1,1,1]) st' (itK (A_V56) N 4 (codeAt Try.f53 [1,0,1,0,0]) m (vkd kX kO))
theorem vbpp (N m kX kO) {r} (h:vgc N m (vkd kX kO)=r):vgz N N (vaen N m kX kO)=vsu N r (vza kX):=by
 rw[show vgz N N (vaen N m kX kO)=vgz N N (vjt (vbhz N m kX kO) fun j=>(vaen N m kX kO) (.exit j)) from (by funext _ _ _ _ _ _;exact vab (fun _=>by kernel_rfl) fun _=>by kernel_rfl),vamm,show vaci (vbhz N m kX kO)=vgt (vgc N m (vkd kX kO)) by kernel_rfl,h];rfl
theorem valp (N kX kO):∀ n,vgc N n (vkd kX kO)=vada N (vza kX) n
 | 0=>rfl
 | m+1=>(show vgc N (m+1) (vkd kX kO)=vpr (vgz N N (vaen N m kX kO)) (vza kX) by kernel_rfl).trans (by rw[vbpp N m kX kO (valp N kX kO m)];funext _ _ _;rfl)
noncomputable abbrev vadh (N:Nat):Ex→St→Z4:=(blockK 0 (sqK (A_V56) N 31 500015 (codeAt Try.f53 [1,1]) vafs))
noncomputable abbrev vbfb (N:Nat) (st':St):Z4:=run (A_V56) N (codeAt Try.f53 [1,1]) st' vafs
theorem vbpv (N):vgc N N (vadh N)=vawb N:=by
 rw[show vgc N N (vadh N)=vgc N N (vkd (vbfb N) fun j=>(vadh N) (.exit j)) from (by funext _ _ _;exact vab (fun _=>by kernel_rfl) fun _=>by kernel_rfl),valp,show vza (vbfb N)=vft by kernel_rfl];rfl
theorem run_V56 (N x):runF (A_V56) N Try.f53 S_V56 x=V56 N x.1:=(show _=(vbay (vgc N N (vadh N)) x.1) by kernel_rfl).trans (by rw[vbpv N];rfl)
theorem ok_V56:FnOk Try.prog 53∧Gx.Good Try.prog 53 S_V56:=gdR (A:=A_V56) tc Try.func53 (by kernel_rfl) (vaa trivial) (run_V56 big)
def vbbb (p_0:Y2):Option ((Bool×(Bool×Unit))×Unit) :=
  (V32 p_0).bind fun rq1 =>
  cond rq1.1.2.1
  ((V56 big rq1.1.1).bind fun rq2 =>
  some ((rq2.1.isNone,rq1.1.2.1,()),(())))
  (some ((false,rq1.1.2.1,()),(())))
def V57 (p_0:Y2):Option ((Bool×(Bool×Unit))×Unit):=vbbb p_0
def S_V57:Sig:=⟨Q11,[0],[],.unit,(.tup (.pair .bool (.pair .bool .unit))),.i,fun x=>V57 x.1⟩
def A_V57:Cfg:=mkCfg tab [(52,S_V32),(53,S_V56)] []
theorem run_V57 (N x):runF (A_V57) N Try.f12 S_V57 x=V57 x.1:=by kernel_rfl
theorem ok_V57:FnOk Try.prog 12∧Gx.Good Try.prog 12 S_V57:=gdR (A:=A_V57) tc Try.func12 (by kernel_rfl) (vaa ⟨ok_V32,ok_V56,trivial⟩) (run_V57 big)
def vqz (rec:Y2→Int→Int→Int→Int→Z0) (k:Y2→Int→Int→Int→Z0) (p1:Y2) (n4 x5 y6 z7:Int):Z0 :=
  cond (decide (z7<n4))
  ((V15 p1 x5 z7).bind fun rq1 =>
  cond rq1.1
  ((V46 p1 y6 z7).bind fun rq2 =>
  (V47 p1 x5 rq2.1).bind fun rq3 =>
  (V47 p1 x5 y6).bind fun rq4 =>
  (V46 p1 rq4.1 z7).bind fun rq5 =>
  cond (decide (rq3.1≠rq5.1))
  (some (([x5,y6,z7],true,()),(())))
  (rec p1 n4 x5 y6 (IntKind.i64.wrap (z7+1))))
  (rec p1 n4 x5 y6 (IntKind.i64.wrap (z7+1))))
  (k p1 n4 x5 y6)
def vpc (rec:Y2→Int→Int→Int→Z0) (p1:Y2) (n4 x5 y6:Int):Z0 :=
  rec p1 n4 x5 (IntKind.i64.wrap (y6+1))
def vqm (L9:Y2→Int→Int→Int→Int→Z0) (k:Y2→Int→Int→Z0) (p1:Y2) (n4 x5 y6:Int):Z0 :=
  cond (decide (y6<n4))
  (L9 p1 n4 x5 y6 (0:Int))
  (k p1 n4 x5)
def vgk (rec:Y2→Int→Int→Z0) (p1:Y2) (n4 x5:Int):Z0 :=
  rec p1 n4 (IntKind.i64.wrap (x5+1))
def vpb (L6:Y2→Int→Int→Int→Z0) (k:Z0) (p1:Y2) (n4 x5:Int):Z0 :=
  cond (decide (x5<n4))
  (L6 p1 n4 x5 (0:Int))
  (k)
def vgd:Z0 :=
  some (([],false,()),(()))
def vbdc (L3:Y2→Int→Int→Z0) (p_0:Y2):Z0 :=
  L3 p_0 (p_0.1.length:Int) (0:Int)
def vadj (N:Nat) (k:Y2→Int→Int→Int→Z0):Nat→Y2→Int→Int→Int→Int→Z0
  | 0,_,_,_,_,_=>none
  | m+1,p1,n4,x5,y6,z7=>vqz (vadj N k m) k p1 n4 x5 y6 z7
def vtl (N:Nat) (rec:Y2→Int→Int→Int→Z0) (k:Y2→Int→Int→Z0) (p1:Y2) (n4 x5 y6 z7:Int):Z0:=vadj N (vpc rec) N p1 n4 x5 y6 z7
def vacm (N:Nat) (k:Y2→Int→Int→Z0):Nat→Y2→Int→Int→Int→Z0
  | 0,_,_,_,_=>none
  | m+1,p1,n4,x5,y6=>vqm (vtl N (vacm N k m) k) k p1 n4 x5 y6
def vtk (N:Nat) (rec:Y2→Int→Int→Z0) (k:Z0) (p1:Y2) (n4 x5 y6:Int):Z0:=vacm N (vgk rec) N p1 n4 x5 y6
def vaho (N:Nat) (k:Z0):Nat→Y2→Int→Int→Z0
  | 0,_,_,_=>none
  | m+1,p1,n4,x5=>vpb (vtk N (vaho N k m) k) k p1 n4 x5
def vavk (N:Nat) (p1:Y2) (n4 x5:Int):Z0:=vaho N (vgd) N p1 n4 x5
def V58 (N:Nat) (p_0:Y2):Z0:=vbdc (vavk N) p_0
def S_V58:Sig:=⟨Q11,[0],[],.unit,Q9,(.p P5 .i),fun x=>V58 big x.1⟩
def A_V58:Cfg:=mkCfg tab [(66,S_V15),(46,S_V46),(47,S_V47)] [(6,[.drop,.as Q4 P5,.drop,.drop,.as I .i,.as I .i]),(12,[.drop,.as Q4 P5,.drop,.drop,.as I .i,.as I .i,.as I .i]),(27,[]),(18,[.drop,.as Q4 P5,.drop,.drop,.as I .i,.as I .i,.as I .i,.as I .i]),(9,[.drop,.as Q4 P5,.drop,.drop,.as I .i,.as I .i]),(15,[.drop,.as Q4 P5,.drop,.drop,.as I .i,.as I .i,.as I .i])]
noncomputable def vgs (N n:Nat) (K:Ex→St→Z0) (p1:Y2) (n4 x5:Int):Z0:=iter ((A_V58).shape 6) (run (A_V58) N (codeAt Try.f54 [1,1,0,1,0,0])) n ([.u,W2 p1,.u,.u,W0 n4,W0 x5]++us 46) K
noncomputable def vge (N n:Nat) (K:Ex→St→Z0) (p1:Y2) (n4 x5 y6:Int):Z0:=iter ((A_V58).shape 12) (run (A_V58) N (codeAt Try.f54 [1,1,0,1,0,0,1,0,0,1,0,0])) n ([.u,W2 p1,.u,.u,W0 n4,W0 x5,W0 y6]++us 45) K
noncomputable def vlq (N n:Nat) (K:Ex→St→Z0) (p1:Y2) (n4 x5 y6 z7:Int):Z0:=iter ((A_V58).shape 18) (run (A_V58) N (codeAt Try.f54 [1,1,0,1,0,0,1,0,0,1,0,0,1,0,0,1,0,0])) n ([.u,W2 p1,.u,.u,W0 n4,W0 x5,W0 y6,W0 z7]++us 44) K
noncomputable abbrev vagb:Ex→St→Z0:=finish (A_V58) S_V58 Try.f54.results.toList
noncomputable abbrev vahi (kX:St→Z0):Z0:=kX ([]++us 52)
noncomputable abbrev vma (kX:St→Z0) (kO:Nat→St→Z0):Ex→St→Z0:=exK vagb 0 ((A_V58).shape 27) kX kO
noncomputable abbrev vahy (kX:St→Z0) (p1:Y2) (n4 x5:Int):Z0:=kX ([.u,W2 p1,.u,.u,W0 n4,W0 x5]++us 46)
noncomputable abbrev vmb (kX:St→Z0) (kO:Nat→St→Z0):Ex→St→Z0:=exK vagb 2 ((A_V58).shape 9) kX kO
noncomputable abbrev vatw (kX:St→Z0) (p1:Y2) (n4 x5 y6:Int):Z0:=kX ([.u,W2 p1,.u,.u,W0 n4,W0 x5,W0 y6]++us 45)
noncomputable abbrev vzn (kX:St→Z0) (kO:Nat→St→Z0):Ex→St→Z0:=exK vagb 4 ((A_V58).shape 15) kX kO
theorem vanf (N kX kO):∀ n,vlq N n (vzn kX kO)=vadj N (vatw kX) n
 | 0=>rfl
 | m+1=>(show vlq N (m+1) (vzn kX kO)=vqz (vlq N m (vzn kX kO)) (vatw kX) by kernel_rfl).trans (by rw[vanf N kX kO m];funext _ _ _ _ _;rfl)
noncomputable abbrev vafn (N m:Nat) (kX:St→Z0) (kO:Nat→St→Z0):Ex→St→Z0:=(blockK 4 (blockK 3 (sqK (A_V58) N 15 500007 (codeAt Try.f54 [1,1,0,1,0,0,1,0,0,1,0,0,1,1]) (itK (A_V58) N 12 (codeAt Try.f54 [1,1,0,1,0,0,1,0,0,1,0,0]) m (vmb kX kO)))))
noncomputable abbrev vbeq (N m:Nat) (kX:St→Z0) (kO:Nat→St→Z0) (st':St):Z0:=run (A_V58) N (codeAt Try.f54 [1,1,0,1,0,0,1,0,0,1,0,0,1,1]) st' (itK (A_V58) N 12 (codeAt Try.f54 [1,1,0,1,0,0,1,0,0,1,0,0]) m (vmb kX kO))
theorem vboe (N m kX kO) {r} (h:vge N m (vmb kX kO)=r):vlq N N (vafn N m kX kO)=vtl N r (vahy kX):=by
 rw[show vlq N N (vafn N m kX kO)=vlq N N (vzn (vbeq N m kX kO) fun j=>(vafn N m kX kO) (.exit j)) from (by funext _ _ _ _ _;exact vab (fun _=>by kernel_rfl) fun _=>by kernel_rfl),vanf,show vatw (vbeq N m kX kO)=vpc (vge N m (vmb kX kO)) by kernel_rfl,h];rfl
theorem vamx (N kX kO):∀ n,vge N n (vmb kX kO)=vacm N (vahy kX) n
 | 0=>rfl
 | m+1=>(show vge N (m+1) (vmb kX kO)=vqm (vlq N N (vafn N m kX kO)) (vahy kX) by kernel_rfl).trans (by rw[vboe N m kX kO (vamx N kX kO m)];funext _ _ _ _;rfl)
noncomputable abbrev vahu (N m:Nat) (kX:St→Z0) (kO:Nat→St→Z0):Ex→St→Z0:=(blockK 2 (blockK 1 (sqK (A_V58) N 9 500004 (codeAt Try.f54 [1,1,0,1,0,0,1,1]) (itK (A_V58) N 6 (codeAt Try.f54 [1,1,0,1,0,0]) m (vma kX kO)))))
noncomputable abbrev vbiw (N m:Nat) (kX:St→Z0) (kO:Nat→St→Z0) (st':St):Z0:=run (A_V58) N (codeAt Try.f54 [1,1,0,1,0,0,1,1]) st' (itK (A_V58) N 6 (codeAt Try.f54 [1,1,0,1,0,0]) m (vma kX kO))
theorem vbnb (N m kX kO) {r} (h:vgs N m (vma kX kO)=r):vge N N (vahu N m kX kO)=vtk N r (vahi kX):=by
 rw[show vge N N (vahu N m kX kO)=vge N N (vmb (vbiw N m kX kO) fun j=>(vahu N m kX kO) (.exit j)) from (by funext _ _ _ _;exact vab (fun _=>by kernel_rfl) fun _=>by kernel_rfl),vamx,show vahy (vbiw N m kX kO)=vgk (vgs N m (vma kX kO)) by kernel_rfl,h];rfl
theorem valz (N kX kO):∀ n,vgs N n (vma kX kO)=vaho N (vahi kX) n
 | 0=>rfl
 | m+1=>(show vgs N (m+1) (vma kX kO)=vpb (vge N N (vahu N m kX kO)) (vahi kX) by kernel_rfl).trans (by rw[vbnb N m kX kO (valz N kX kO m)];funext _ _ _;rfl)
noncomputable abbrev vage (N:Nat):Ex→St→Z0:=(blockK 0 (sqK (A_V58) N 27 500013 (codeAt Try.f54 [1,1,1]) vagb))
noncomputable abbrev vbgl (N:Nat) (st':St):Z0:=run (A_V58) N (codeAt Try.f54 [1,1,1]) st' vagb
theorem vbpi (N):vgs N N (vage N)=vavk N:=by
 rw[show vgs N N (vage N)=vgs N N (vma (vbgl N) fun j=>(vage N) (.exit j)) from (by funext _ _ _;exact vab (fun _=>by kernel_rfl) fun _=>by kernel_rfl),valz,show vahi (vbgl N)=vgd by kernel_rfl];rfl
theorem run_V58 (N x):runF (A_V58) N Try.f54 S_V58 x=V58 N x.1:=(show _=(vbdc (vgs N N (vage N)) x.1) by kernel_rfl).trans (by rw[vbpi N];rfl)
theorem ok_V58:FnOk Try.prog 54∧Gx.Good Try.prog 54 S_V58:=gdR (A:=A_V58) tc Try.func54 (by kernel_rfl) (vaa ⟨ok_V15,ok_V46,ok_V47,trivial⟩) (run_V58 big)
def vbbl (p_0:Y2):Option ((Bool×(Bool×Unit))×Unit) :=
  (V45 big p_0).bind fun rq1 =>
  cond (!rq1.1)
  (some ((false,false,()),(())))
  ((V58 big p_0).bind fun rq2 =>
  some ((!((((),rq2.1.2).2).1),true,()),(())))
def V59 (p_0:Y2):Option ((Bool×(Bool×Unit))×Unit):=vbbl p_0
def S_V59:Sig:=⟨Q11,[0],[],.unit,(.tup (.pair .bool (.pair .bool .unit))),.i,fun x=>V59 x.1⟩
def A_V59:Cfg:=mkCfg tab [(45,S_V45),(54,S_V58)] []
theorem run_V59 (N x):runF (A_V59) N Try.f13 S_V59 x=V59 x.1:=by kernel_rfl
theorem ok_V59:FnOk Try.prog 13∧Gx.Good Try.prog 13 S_V59:=gdR (A:=A_V59) tc Try.func13 (by kernel_rfl) (vaa ⟨ok_V45,ok_V58,trivial⟩) (run_V59 big)
def vpi (rec:Y1→Int→Int→Int→Int→Int→Int→Int→Int→Z4) (k:Y1→Int→Int→Int→Int→Int→Z4) (l0:Y1) (x3 y4 t10 t11 t18 t19 t26 t27:Int):Z4 :=
  cond (decide (t27<t26))
  ((l0).bind fun xq4 =>
  (atI xq4.2.1 x3).bind fun xq5 =>
  (l0).bind fun xq6 =>
  (atI xq6.2.2.1 y4).bind fun xq7 =>
  (atI xq7 t27).bind fun xq8 =>
  (atI xq5 xq8).bind fun xq9 =>
  (l0).bind fun xq10 =>
  (l0).bind fun xq11 =>
  (atI xq11.2.1 x3).bind fun xq12 =>
  (atI xq12 y4).bind fun xq13 =>
  (atI xq10.2.2.1 xq13).bind fun xq14 =>
  (l0).bind fun xq15 =>
  (atI xq15.2.1 x3).bind fun xq16 =>
  (atI xq16 t27).bind fun xq17 =>
  (atI xq14 xq17).bind fun xq18 =>
  cond (decide (xq9≠xq18))
  (some ((some [x3,y4,t27]),(())))
  (rec l0 x3 y4 t10 t11 t18 t19 t26 (IntKind.i64.wrap (t27+1))))
  (k l0 x3 t10 t11 t18 t19)
def vox (rec:Y1→Int→Int→Int→Int→Int→Z4) (l0:Y1) (x3 t10 t11 t18 t19:Int):Z4 :=
  rec l0 x3 t10 t11 t18 (IntKind.i64.wrap (t19+1))
def voj (L8:Y1→Int→Int→Int→Int→Int→Int→Int→Int→Z4) (k:Y1→Int→Int→Z4) (l0:Y1) (x3 t10 t11 t18 t19:Int):Z4 :=
  cond (decide (t19<t18))
  ((l0).bind fun xq3 =>
  L8 l0 x3 t19 t10 t11 t18 t19 (xq3.1.length:Int) (0:Int))
  (k l0 t10 t11)
def vhc (rec:Y1→Int→Int→Z4) (l0:Y1) (t10 t11:Int):Z4 :=
  rec l0 t10 (IntKind.i64.wrap (t11+1))
def vqg (L5:Y1→Int→Int→Int→Int→Int→Z4) (k:Z4) (l0:Y1) (t10 t11:Int):Z4 :=
  cond (decide (t11<t10))
  ((l0).bind fun xq2 =>
  L5 l0 t11 t10 t11 (xq2.1.length:Int) (0:Int))
  (k)
def vgh:Z4 :=
  some (none,(()))
def vbal (L2:Y1→Int→Int→Z4) (l_0:Y1):Z4 :=
  (l_0).bind fun xq1 =>
  L2 l_0 (xq1.1.length:Int) (0:Int)
def vadt (N:Nat) (k:Y1→Int→Int→Int→Int→Int→Z4):Nat→Y1→Int→Int→Int→Int→Int→Int→Int→Int→Z4
  | 0,_,_,_,_,_,_,_,_,_=>none
  | m+1,l0,x3,y4,t10,t11,t18,t19,t26,t27=>vpi (vadt N k m) k l0 x3 y4 t10 t11 t18 t19 t26 t27
def vso (N:Nat) (rec:Y1→Int→Int→Int→Int→Int→Z4) (k:Y1→Int→Int→Z4) (l0:Y1) (x3 y4 t10 t11 t18 t19 t26 t27:Int):Z4:=vadt N (vox rec) N l0 x3 y4 t10 t11 t18 t19 t26 t27
def vaex (N:Nat) (k:Y1→Int→Int→Z4):Nat→Y1→Int→Int→Int→Int→Int→Z4
  | 0,_,_,_,_,_,_=>none
  | m+1,l0,x3,t10,t11,t18,t19=>voj (vso N (vaex N k m) k) k l0 x3 t10 t11 t18 t19
def vtz (N:Nat) (rec:Y1→Int→Int→Z4) (k:Z4) (l0:Y1) (x3 t10 t11 t18 t19:Int):Z4:=vaex N (vhc rec) N l0 x3 t10 t11 t18 t19
def vafv (N:Nat) (k:Z4):Nat→Y1→Int→Int→Z4
  | 0,_,_,_=>none
  | m+1,l0,t10,t11=>vqg (vtz N (vafv N k m) k) k l0 t10 t11
def vaso (N:Nat) (l0:Y1) (t10 t11:Int):Z4:=vafv N (vgh) N l0 t10 t11
def V60 (N:Nat) (l_0:Y1):Z4:=vbal (vaso N) l_0
def S_V60:Sig:=⟨(.pair Q2 .unit),[0],[],.unit,(.ns I),.i,fun x=>V60 big x.1⟩
def A_V60:Cfg:=mkCfg tab [] [(4,([.as Q2 .i]++dr 9 [.as I .i,.as I .i])),(10,([.as Q2 .i,.drop,.drop,.as I .i]++dr 6 ([.as I .i,.as I .i]++dr 6 [.as I .i,.as I .i]))),(31,[]),(16,([.as Q2 .i,.drop,.drop,.as I .i,.as I .i]++dr 5 ([.as I .i,.as I .i]++dr 6 ([.as I .i,.as I .i]++dr 6 [.as I .i,.as I .i])))),(29,([.as Q2 .i]++dr 9 [.as I .i,.as I .i])),(27,([.as Q2 .i,.drop,.drop,.as I .i]++dr 6 ([.as I .i,.as I .i]++dr 6 [.as I .i,.as I .i])))]
noncomputable def vgb (N n:Nat) (K:Ex→St→Z4) (l0:Y1) (t10 t11:Int):Z4:=iter ((A_V60).shape 4) (run (A_V60) N (codeAt Try.f55 [1,0,1,0,0])) n (([W6 l0]++ud 9 [W0 t10,W0 t11])++us 73) K
noncomputable def vho (N n:Nat) (K:Ex→St→Z4) (l0:Y1) (x3 t10 t11 t18 t19:Int):Z4:=iter ((A_V60).shape 10) (run (A_V60) N (codeAt Try.f55 [1,0,1,0,0,1,1,0,0,1,1,0,0])) n (([W6 l0,.u,.u,W0 x3]++ud 6 ([W0 t10,W0 t11]++ud 6 [W0 t18,W0 t19]))++us 65) K
noncomputable def vkw (N n:Nat) (K:Ex→St→Z4) (l0:Y1) (x3 y4 t10 t11 t18 t19 t26 t27:Int):Z4:=iter ((A_V60).shape 16) (run (A_V60) N (codeAt Try.f55 [1,0,1,0,0,1,1,0,0,1,1,0,0,1,1,0,0,1,1,0,0])) n (([W6 l0,.u,.u,W0 x3,W0 y4]++ud 5 ([W0 t10,W0 t11]++ud 6 ([W0 t18,W0 t19]++ud 6 [W0 t26,W0 t27])))++us 57) K
noncomputable abbrev vyr:Ex→St→Z4:=finish (A_V60) S_V60 Try.f55.results.toList
noncomputable abbrev vafo (kX:St→Z4):Z4:=kX ([]++us 85)
noncomputable abbrev vlr (kX:St→Z4) (kO:Nat→St→Z4):Ex→St→Z4:=exK vyr 0 ((A_V60).shape 31) kX kO
noncomputable abbrev vacb (kX:St→Z4) (l0:Y1) (t10 t11:Int):Z4:=kX (([W6 l0]++ud 9 [W0 t10,W0 t11])++us 73)
noncomputable abbrev vlx (kX:St→Z4) (kO:Nat→St→Z4):Ex→St→Z4:=exK vyr 2 ((A_V60).shape 29) kX kO
noncomputable abbrev vavm (kX:St→Z4) (l0:Y1) (x3 t10 t11 t18 t19:Int):Z4:=kX (([W6 l0,.u,.u,W0 x3]++ud 6 ([W0 t10,W0 t11]++ud 6 [W0 t18,W0 t19]))++us 65)
noncomputable abbrev vzi (kX:St→Z4) (kO:Nat→St→Z4):Ex→St→Z4:=exK vyr 4 ((A_V60).shape 27) kX kO
theorem vajz (N kX kO):∀ n,vkw N n (vzi kX kO)=vadt N (vavm kX) n
 | 0=>rfl
 | m+1=>(show vkw N (m+1) (vzi kX kO)=vpi (vkw N m (vzi kX kO)) (vavm kX) by kernel_rfl).trans (by rw[vajz N kX kO m];funext _ _ _ _ _ _ _ _ _;rfl)
noncomputable abbrev vabt (N m:Nat) (kX:St→Z4) (kO:Nat→St→Z4):Ex→St→Z4:=(blockK 4 (blockK 3 (sqK (A_V60) N 27 500013 (codeAt Try.f55 [1,0,1,0,0,1,1,0,0,1,1,0,0,1,1,1]) (itK (A_V60) N 10 (codeAt Try.f55 [1,0,1,0,0,1,1,0,0,1,1,0,0]) m (vlx kX kO)))))
noncomputable abbrev vbej (N m:Nat) (kX:St→Z4) (kO:Nat→St→Z4) (st':St):Z4:=run (A_V60) N (codeAt Try.f55 [1,0,1,0,0,1,1,0,0,1,1,0,0,1,1,1]) st' (itK (A_V60) N 10 (codeAt Try.f55 [1,0,1,0,0,1,1,0,0,1,1,0,0]) m (vlx kX kO))
theorem vbqq (N m kX kO) {r} (h:vho N m (vlx kX kO)=r):vkw N N (vabt N m kX kO)=vso N r (vacb kX):=by
 rw[show vkw N N (vabt N m kX kO)=vkw N N (vzi (vbej N m kX kO) fun j=>(vabt N m kX kO) (.exit j)) from (by funext _ _ _ _ _ _ _ _ _;exact vab (fun _=>by kernel_rfl) fun _=>by kernel_rfl),vajz,show vavm (vbej N m kX kO)=vox (vho N m (vlx kX kO)) by kernel_rfl,h];rfl
theorem vamp (N kX kO):∀ n,vho N n (vlx kX kO)=vaex N (vacb kX) n
 | 0=>rfl
 | m+1=>(show vho N (m+1) (vlx kX kO)=voj (vkw N N (vabt N m kX kO)) (vacb kX) by kernel_rfl).trans (by rw[vbqq N m kX kO (vamp N kX kO m)];funext _ _ _ _ _ _;rfl)
noncomputable abbrev vyw (N m:Nat) (kX:St→Z4) (kO:Nat→St→Z4):Ex→St→Z4:=(blockK 2 (blockK 1 (sqK (A_V60) N 29 500014 (codeAt Try.f55 [1,0,1,0,0,1,1,1]) (itK (A_V60) N 4 (codeAt Try.f55 [1,0,1,0,0]) m (vlr kX kO)))))
noncomputable abbrev vbeh (N m:Nat) (kX:St→Z4) (kO:Nat→St→Z4) (st':St):Z4:=run (A_V60) N (codeAt Try.f55 [1,0,1,0,0,1,1,1]) st' (itK (A_V60) N 4 (codeAt Try.f55 [1,0,1,0,0]) m (vlr kX kO))
theorem vbna (N m kX kO) {r} (h:vgb N m (vlr kX kO)=r):vho N N (vyw N m kX kO)=vtz N r (vafo kX):=by
 rw[show vho N N (vyw N m kX kO)=vho N N (vlx (vbeh N m kX kO) fun j=>(vyw N m kX kO) (.exit j)) from (by funext _ _ _ _ _ _;exact vab (fun _=>by kernel_rfl) fun _=>by kernel_rfl),vamp,show vacb (vbeh N m kX kO)=vhc (vgb N m (vlr kX kO)) by kernel_rfl,h];rfl
theorem vanb (N kX kO):∀ n,vgb N n (vlr kX kO)=vafv N (vafo kX) n
 | 0=>rfl
 | m+1=>(show vgb N (m+1) (vlr kX kO)=vqg (vho N N (vyw N m kX kO)) (vafo kX) by kernel_rfl).trans (by rw[vbna N m kX kO (vanb N kX kO m)];funext _ _ _;rfl)
noncomputable abbrev vyo (N:Nat):Ex→St→Z4:=(blockK 0 (sqK (A_V60) N 31 500015 (codeAt Try.f55 [1,1]) vyr))
noncomputable abbrev vben (N:Nat) (st':St):Z4:=run (A_V60) N (codeAt Try.f55 [1,1]) st' vyr
theorem vboj (N):vgb N N (vyo N)=vaso N:=by
 rw[show vgb N N (vyo N)=vgb N N (vlr (vben N) fun j=>(vyo N) (.exit j)) from (by funext _ _ _;exact vab (fun _=>by kernel_rfl) fun _=>by kernel_rfl),vanb,show vafo (vben N)=vgh by kernel_rfl];rfl
theorem run_V60 (N x):runF (A_V60) N Try.f55 S_V60 x=V60 N x.1:=(show _=(vbal (vgb N N (vyo N)) x.1) by kernel_rfl).trans (by rw[vboj N];rfl)
theorem ok_V60:FnOk Try.prog 55∧Gx.Good Try.prog 55 S_V60:=gdR (A:=A_V60) tc Try.func55 (by kernel_rfl) (vaa trivial) (run_V60 big)
def vbam (p_0:Y2):Option ((Bool×(Bool×Unit))×Unit) :=
  (V32 p_0).bind fun rq1 =>
  cond rq1.1.2.1
  ((V60 big rq1.1.1).bind fun rq2 =>
  some ((rq2.1.isNone,rq1.1.2.1,()),(())))
  (some ((false,rq1.1.2.1,()),(())))
def V61 (p_0:Y2):Option ((Bool×(Bool×Unit))×Unit):=vbam p_0
def S_V61:Sig:=⟨Q11,[0],[],.unit,(.tup (.pair .bool (.pair .bool .unit))),.i,fun x=>V61 x.1⟩
def A_V61:Cfg:=mkCfg tab [(52,S_V32),(55,S_V60)] []
theorem run_V61 (N x):runF (A_V61) N Try.f14 S_V61 x=V61 x.1:=by kernel_rfl
theorem ok_V61:FnOk Try.prog 14∧Gx.Good Try.prog 14 S_V61:=gdR (A:=A_V61) tc Try.func14 (by kernel_rfl) (vaa ⟨ok_V32,ok_V60,trivial⟩) (run_V61 big)
def vbak (p_0:Y2):Z0 :=
  (V32 p_0).bind fun rq1 =>
  cond (!rq1.1.2.1)
  (some (([],false,()),(())))
  ((V56 big rq1.1.1).bind fun rq2 =>
  cond rq2.1.isNone
  (some (([],false,()),(())))
  (some (((rq2.1.getD []),true,()),(()))))
def V62 (p_0:Y2):Z0:=vbak p_0
def S_V62:Sig:=⟨Q11,[0],[],.unit,Q9,.i,fun x=>V62 x.1⟩
def A_V62:Cfg:=mkCfg tab [(52,S_V32),(53,S_V56)] []
theorem run_V62 (N x):runF (A_V62) N Try.f15 S_V62 x=V62 x.1:=by kernel_rfl
theorem ok_V62:FnOk Try.prog 15∧Gx.Good Try.prog 15 S_V62:=gdR (A:=A_V62) tc Try.func15 (by kernel_rfl) (vaa ⟨ok_V32,ok_V56,trivial⟩) (run_V62 big)
def vbcx (p_0:Y2):Z0 :=
  (V45 big p_0).bind fun rq1 =>
  cond (!rq1.1)
  (some (([],false,()),(())))
  ((V58 big p_0).bind fun rq2 =>
  some ((rq2.1.1,(((),rq2.1.2).2).1,()),(())))
def V63 (p_0:Y2):Z0:=vbcx p_0
def S_V63:Sig:=⟨Q11,[0],[],.unit,Q9,(.p P5 .i),fun x=>V63 x.1⟩
def A_V63:Cfg:=mkCfg tab [(45,S_V45),(54,S_V58)] []
theorem run_V63 (N x):runF (A_V63) N Try.f16 S_V63 x=V63 x.1:=by kernel_rfl
theorem ok_V63:FnOk Try.prog 16∧Gx.Good Try.prog 16 S_V63:=gdR (A:=A_V63) tc Try.func16 (by kernel_rfl) (vaa ⟨ok_V45,ok_V58,trivial⟩) (run_V63 big)
def vbuo (o_0:Y5) (list_1:Y4):Z1 :=
  (V24 big list_1 (o_0.length:Int)).bind fun rq1 =>
  some (rq1.1,(()))
def V64 (o_0:Y5) (list_1:Y4):Z1:=vbuo o_0 list_1
def S_V64:Sig:=⟨(.pair Q6 Q12),[0,0],[],.unit,.bool,.i,fun x=>V64 x.1 x.2.1⟩
def A_V64:Cfg:=mkCfg tab [(90,S_V24)] []
theorem run_V64 (N x):runF (A_V64) N Try.f57 S_V64 x=V64 x.1 x.2.1:=by kernel_rfl
theorem ok_V64:FnOk Try.prog 57∧Gx.Good Try.prog 57 S_V64:=gdR (A:=A_V64) tc Try.func57 (by kernel_rfl) (vaa ⟨ok_V24,trivial⟩) (run_V64 big)
def vbgm (rec:Y5→Y2→Y2→Int→Y4→Int→Int→Int→Int→Z3) (k:Y5→Y2→Y2→Y4→Int→Int→Z3) (o0:Y5) (t2 p3:Y2) (x4:Int) (list5:Y4) (t10 t11 t16 t17:Int):Z3 :=
  cond (decide (t17<t16))
  ((atI o0 t17).bind fun xq1 =>
  (atI xq1 x4).bind fun xq2 =>
  cond xq2
  ((appI list5 [t17]).bind fun xq3 =>
  rec o0 t2 p3 x4 xq3 t10 t11 t16 (IntKind.i64.wrap (t17+1)))
  (rec o0 t2 p3 x4 list5 t10 t11 t16 (IntKind.i64.wrap (t17+1))))
  (k o0 t2 p3 list5 t10 t11)
def vbds (rec:Y5→Y2→Y2→Int→Int→Z3) (o0:Y5) (t2 p3:Y2) (list5:Y4) (t10 t11:Int):Z3 :=
  (appI p3.1 [list5]).bind fun xq4 =>
  rec o0 t2 (xq4,((),p3.2).2) t10 (IntKind.i64.wrap (t11+1))
def vbgr (L7:Y5→Y2→Y2→Int→Y4→Int→Int→Int→Int→Z3) (k:Y2→Y2→Z3) (o0:Y5) (t2 p3:Y2) (t10 t11:Int):Z3 :=
  cond (decide (t11<t10))
  (L7 o0 t2 p3 t11 [] t10 t11 (o0.length:Int) (0:Int))
  (k t2 p3)
def vbgd (t2 p3:Y2):Z3 :=
  some (p3,(()))
def vbmu (L3:Y5→Y2→Y2→Int→Int→Z3) (o_0:Y5):Z3 :=
  L3 o_0 (([]:Y3),()) ([],()) (o_0.length:Int) (0:Int)
def vaqp (N:Nat) (k:Y5→Y2→Y2→Y4→Int→Int→Z3):Nat→Y5→Y2→Y2→Int→Y4→Int→Int→Int→Int→Z3
  | 0,_,_,_,_,_,_,_,_,_=>none
  | m+1,o0,t2,p3,x4,list5,t10,t11,t16,t17=>vbgm (vaqp N k m) k o0 t2 p3 x4 list5 t10 t11 t16 t17
def vbgh (N:Nat) (rec:Y5→Y2→Y2→Int→Int→Z3) (k:Y2→Y2→Z3) (o0:Y5) (t2 p3:Y2) (x4:Int) (list5:Y4) (t10 t11 t16 t17:Int):Z3:=vaqp N (vbds rec) N o0 t2 p3 x4 list5 t10 t11 t16 t17
def vawd (N:Nat) (k:Y2→Y2→Z3):Nat→Y5→Y2→Y2→Int→Int→Z3
  | 0,_,_,_,_,_=>none
  | m+1,o0,t2,p3,t10,t11=>vbgr (vbgh N (vawd N k m) k) k o0 t2 p3 t10 t11
def vbic (N:Nat) (o0:Y5) (t2 p3:Y2) (t10 t11:Int):Z3:=vawd N (vbgd) N o0 t2 p3 t10 t11
def V65 (N:Nat) (o_0:Y5):Z3:=vbmu (vbic N) o_0
def S_V65:Sig:=⟨(.pair Q6 .unit),[0],[],.unit,Q0,(.p P10 .i),fun x=>V65 big x.1⟩
def A_V65:Cfg:=mkCfg tab [] [(6,([.as Q6 .i,.drop,.as Q4 P1,.as Q4 P1]++dr 6 [.as I .i,.as I .i])),(14,([.as Q6 .i,.drop,.as Q4 P1,.as Q4 P1,.as I .i,.as Q7 P5]++dr 4 ([.as I .i,.as I .i]++dr 4 [.as I .i,.as I .i]))),(29,[.drop,.drop,.as Q4 P1,.as Q4 P1]),(25,([.as Q6 .i,.drop,.as Q4 P1,.as Q4 P1,.drop,.as Q7 P5]++dr 4 [.as I .i,.as I .i]))]
noncomputable def vhp (N n:Nat) (K:Ex→St→Z3) (o0:Y5) (t2 p3:Y2) (t10 t11:Int):Z3:=iter ((A_V65).shape 6) (run (A_V65) N (codeAt Try.f59 [1,1,0,1,0,0])) n (([.val Q6 .i o0,.u,W1 t2,W1 p3]++ud 6 [W0 t10,W0 t11])++us 28) K
noncomputable def vlj (N n:Nat) (K:Ex→St→Z3) (o0:Y5) (t2 p3:Y2) (x4:Int) (list5:Y4) (t10 t11 t16 t17:Int):Z3:=iter ((A_V65).shape 14) (run (A_V65) N (codeAt Try.f59 [1,1,0,1,0,0,1,1,0,0,1,1,0,1,0,0])) n (([.val Q6 .i o0,.u,W1 t2,W1 p3,W0 x4,W3 list5]++ud 4 ([W0 t10,W0 t11]++ud 4 [W0 t16,W0 t17]))++us 22) K
noncomputable abbrev vapr:Ex→St→Z3:=finish (A_V65) S_V65 Try.f59.results.toList
noncomputable abbrev vadd (kX:St→Z3) (t2 p3:Y2):Z3:=kX ([.u,.u,W1 t2,W1 p3]++us 36)
noncomputable abbrev vlm (kX:St→Z3) (kO:Nat→St→Z3):Ex→St→Z3:=exK vapr 0 ((A_V65).shape 29) kX kO
noncomputable abbrev vath (kX:St→Z3) (o0:Y5) (t2 p3:Y2) (list5:Y4) (t10 t11:Int):Z3:=kX (([.val Q6 .i o0,.u,W1 t2,W1 p3,.u,W3 list5]++ud 4 [W0 t10,W0 t11])++us 28)
noncomputable abbrev vaco (kX:St→Z3) (kO:Nat→St→Z3):Ex→St→Z3:=exK vapr 2 ((A_V65).shape 25) kX kO
theorem vang (N kX kO):∀ n,vlj N n (vaco kX kO)=vaqp N (vath kX) n
 | 0=>rfl
 | m+1=>(show vlj N (m+1) (vaco kX kO)=vbgm (vlj N m (vaco kX kO)) (vath kX) by kernel_rfl).trans (by rw[vang N kX kO m];funext _ _ _ _ _ _ _ _ _;rfl)
noncomputable abbrev vagf (N m:Nat) (kX:St→Z3) (kO:Nat→St→Z3):Ex→St→Z3:=(blockK 2 (sqK (A_V65) N 25 500012 (codeAt Try.f59 [1,1,0,1,0,0,1,1,0,0,1,1,1]) (blockK 1 (sqK (A_V65) N 27 500013 (codeAt Try.f59 [1,1,0,1,0,0,1,1,1]) (itK (A_V65) N 6 (codeAt Try.f59 [1,1,0,1,0,0]) m (vlm kX kO))))))
noncomputable abbrev vbgu (N m:Nat) (kX:St→Z3) (kO:Nat→St→Z3) (st':St):Z3:=run (A_V65) N (codeAt Try.f59 [1,1,0,1,0,0,1,1,0,0,1,1,1]) st' (blockK 1 (sqK (A_V65) N 27 500013 (codeAt Try.f59 [1,1,0,1,0,0,1,1,1]) (itK (A_V65) N 6 (codeAt Try.f59 [1,1,0,1,0,0]) m (vlm kX kO))))
theorem vbow (N m kX kO) {r} (h:vhp N m (vlm kX kO)=r):vlj N N (vagf N m kX kO)=vbgh N r (vadd kX):=by
 rw[show vlj N N (vagf N m kX kO)=vlj N N (vaco (vbgu N m kX kO) fun j=>(vagf N m kX kO) (.exit j)) from (by funext _ _ _ _ _ _ _ _ _;exact vab (fun _=>by kernel_rfl) fun _=>by kernel_rfl),vang,show vath (vbgu N m kX kO)=vbds (vhp N m (vlm kX kO)) by kernel_rfl,h];rfl
theorem vakp (N kX kO):∀ n,vhp N n (vlm kX kO)=vawd N (vadd kX) n
 | 0=>rfl
 | m+1=>(show vhp N (m+1) (vlm kX kO)=vbgr (vlj N N (vagf N m kX kO)) (vadd kX) by kernel_rfl).trans (by rw[vbow N m kX kO (vakp N kX kO m)];funext _ _ _ _ _;rfl)
noncomputable abbrev vaei (N:Nat):Ex→St→Z3:=(blockK 0 (sqK (A_V65) N 29 500014 (codeAt Try.f59 [1,1,1]) vapr))
noncomputable abbrev vbfg (N:Nat) (st':St):Z3:=run (A_V65) N (codeAt Try.f59 [1,1,1]) st' vapr
theorem vbqp (N):vhp N N (vaei N)=vbic N:=by
 rw[show vhp N N (vaei N)=vhp N N (vlm (vbfg N) fun j=>(vaei N) (.exit j)) from (by funext _ _ _ _ _;exact vab (fun _=>by kernel_rfl) fun _=>by kernel_rfl),vakp,show vadd (vbfg N)=vbgd by kernel_rfl];rfl
theorem run_V65 (N x):runF (A_V65) N Try.f59 S_V65 x=V65 N x.1:=(show _=(vbmu (vhp N N (vaei N)) x.1) by kernel_rfl).trans (by rw[vbqp N];rfl)
theorem ok_V65:FnOk Try.prog 59∧Gx.Good Try.prog 59 S_V65:=gdR (A:=A_V65) tc Try.func59 (by kernel_rfl) (vaa trivial) (run_V65 big)
def vaxu (rec:Y2→Y5→Int→Int→Int→Int→Int→Int→Int→Int→Z6) (k:Y2→Y5→Int→Int→Int→Int→Int→Z6) (t4:Y2) (o6:Y5) (z10 x11 t71 t72 t76 t77 t81 t82:Int):Z6 :=
  cond (decide (t82<t81))
  ((atI o6 x11).bind fun _ =>
  (o6[x11.toNat]?).bind fun xq14 =>
  (atI o6 x11).bind fun _ =>
  (o6[x11.toNat]?).bind fun xq15 =>
  (o6[x11.toNat]?).bind fun xq16 =>
  (atI xq16 t82).bind fun _ =>
  (o6[x11.toNat]?).bind fun xq17 =>
  (xq17[t82.toNat]?).bind fun xq18 =>
  cond xq18
  ((o6[x11.toNat]?).bind fun xq19 =>
  (atI xq19 t82).bind fun _ =>
  (o6[x11.toNat]?).bind fun xq20 =>
  (xq20[t82.toNat]?).bind fun xq21 =>
  rec t4 (o6.set x11.toNat (xq20.set t82.toNat true)) z10 x11 t71 t72 t76 t77 t81 (IntKind.i64.wrap (t82+1)))
  ((atI o6 x11).bind fun _ =>
  (o6[x11.toNat]?).bind fun xq22 =>
  (o6[x11.toNat]?).bind fun xq23 =>
  (atI xq23 z10).bind fun _ =>
  (o6[x11.toNat]?).bind fun xq24 =>
  (xq24[z10.toNat]?).bind fun xq25 =>
  cond xq25
  ((atI o6 z10).bind fun _ =>
  (o6[z10.toNat]?).bind fun xq26 =>
  (o6[z10.toNat]?).bind fun xq27 =>
  (atI xq27 t82).bind fun _ =>
  (o6[z10.toNat]?).bind fun xq28 =>
  (xq28[t82.toNat]?).bind fun xq29 =>
  (o6[x11.toNat]?).bind fun xq30 =>
  (atI xq30 t82).bind fun _ =>
  (o6[x11.toNat]?).bind fun xq31 =>
  (xq31[t82.toNat]?).bind fun xq32 =>
  rec t4 (o6.set x11.toNat (xq31.set t82.toNat xq29)) z10 x11 t71 t72 t76 t77 t81 (IntKind.i64.wrap (t82+1)))
  ((o6[x11.toNat]?).bind fun xq33 =>
  (atI xq33 t82).bind fun _ =>
  (o6[x11.toNat]?).bind fun xq34 =>
  (xq34[t82.toNat]?).bind fun xq35 =>
  rec t4 (o6.set x11.toNat (xq34.set t82.toNat false)) z10 x11 t71 t72 t76 t77 t81 (IntKind.i64.wrap (t82+1)))))
  (k t4 o6 z10 t71 t72 t76 t77)
def vazd (rec:Y2→Y5→Int→Int→Int→Int→Int→Z6) (t4:Y2) (o6:Y5) (z10 t71 t72 t76 t77:Int):Z6 :=
  rec t4 o6 z10 t71 t72 t76 (IntKind.i64.wrap (t77+1))
def vaxj (L23:Y2→Y5→Int→Int→Int→Int→Int→Int→Int→Int→Z6) (k:Y2→Y5→Int→Int→Z6) (t4:Y2) (o6:Y5) (z10 t71 t72 t76 t77:Int):Z6 :=
  cond (decide (t77<t76))
  (L23 t4 o6 z10 t77 t71 t72 t76 t77 (o6.length:Int) (0:Int))
  (k t4 o6 t71 t72)
def vaxx (rec:Y2→Y5→Int→Int→Z6) (t4:Y2) (o6:Y5) (t71 t72:Int):Z6 :=
  rec t4 o6 t71 (IntKind.i64.wrap (t72+1))
def vaxy (L20:Y2→Y5→Int→Int→Int→Int→Int→Z6) (k:Y2→Y5→Z6) (t4:Y2) (o6:Y5) (t71 t72:Int):Z6 :=
  cond (decide (t72<t71))
  (L20 t4 o6 t72 t71 t72 (o6.length:Int) (0:Int))
  (k t4 o6)
def vazb (t4:Y2) (o6:Y5):Z6 :=
  (V25 big o6).bind fun rq12 =>
  cond (!rq12.1)
  (some (((([]:Y3),()),false,()),(())))
  ((V65 big o6).bind fun rq13 =>
  some ((rq13.1,true,()),(())))
def vazu (rec:Y2→Y5→Z14→Int→Int→Z6) (k:Y2→Y5→Z6) (t4:Y2) (o6:Y5) (t39:Z14) (t40 t41:Int):Z6 :=
  cond (decide (t41<t40))
  ((atI t39 t41).bind fun xq6 =>
  (V64 o6 [xq6.1,xq6.2.1]).bind fun rq7 =>
  cond (!rq7.1)
  (some (((([]:Y3),()),false,()),(())))
  (cond (decide (xq6.1=xq6.2.1))
  (some (((([]:Y3),()),false,()),(())))
  ((atI o6 xq6.1).bind fun _ =>
  (o6[xq6.1.toNat]?).bind fun xq8 =>
  (o6[xq6.1.toNat]?).bind fun xq9 =>
  (atI xq9 xq6.2.1).bind fun _ =>
  (o6[xq6.1.toNat]?).bind fun xq10 =>
  (xq10[xq6.2.1.toNat]?).bind fun xq11 =>
  rec t4 (o6.set xq6.1.toNat (xq10.set xq6.2.1.toNat true)) t39 t40 (IntKind.i64.wrap (t41+1)))))
  (k t4 o6)
def vayq (L17:Y2→Y5→Int→Int→Z6) (t4:Y2) (o6:Y5):Z6 :=
  L17 t4 o6 (o6.length:Int) (0:Int)
def vbjd (rec:Z14→Y2→Y5→Int→Int→Z6) (k:Z14→Y2→Y5→Z6) (pairs1:Z14) (t4:Y2) (o6:Y5) (t28 t29:Int):Z6 :=
  cond (decide (t29<t28))
  ((atI o6 t29).bind fun _ =>
  (o6[t29.toNat]?).bind fun xq2 =>
  (o6[t29.toNat]?).bind fun xq3 =>
  (atI xq3 t29).bind fun _ =>
  (o6[t29.toNat]?).bind fun xq4 =>
  (xq4[t29.toNat]?).bind fun xq5 =>
  rec pairs1 t4 (o6.set t29.toNat (xq4.set t29.toNat true)) t28 (IntKind.i64.wrap (t29+1)))
  (k pairs1 t4 o6)
def vbea (L10:Y2→Y5→Z14→Int→Int→Z6) (pairs1:Z14) (t4:Y2) (o6:Y5):Z6 :=
  L10 t4 o6 pairs1 (pairs1.length:Int) (0:Int)
def vbmn (L5:Z14→Y2→Y5→Int→Int→Z6) (n_0:Int) (pairs_1:Z14):Z6 :=
  cond (decide (n_0<0))
  (some (((([]:Y3),()),false,()),(())))
  (cond (decide ((10:Int)<n_0))
  (some (((([]:Y3),()),false,()),(())))
  (cond (decide ((60:Int)<(pairs_1.length:Int)))
  (some (((([]:Y3),()),false,()),(())))
  ((V22 big n_0).bind fun rq1 =>
  L5 pairs_1 (([]:Y3),()) rq1.1 (rq1.1.length:Int) (0:Int))))
def vajs (N:Nat) (k:Y2→Y5→Int→Int→Int→Int→Int→Z6):Nat→Y2→Y5→Int→Int→Int→Int→Int→Int→Int→Int→Z6
  | 0,_,_,_,_,_,_,_,_,_,_=>none
  | m+1,t4,o6,z10,x11,t71,t72,t76,t77,t81,t82=>vaxu (vajs N k m) k t4 o6 z10 x11 t71 t72 t76 t77 t81 t82
def vaze (N:Nat) (rec:Y2→Y5→Int→Int→Int→Int→Int→Z6) (k:Y2→Y5→Int→Int→Z6) (t4:Y2) (o6:Y5) (z10 x11 t71 t72 t76 t77 t81 t82:Int):Z6:=vajs N (vazd rec) N t4 o6 z10 x11 t71 t72 t76 t77 t81 t82
def vajv (N:Nat) (k:Y2→Y5→Int→Int→Z6):Nat→Y2→Y5→Int→Int→Int→Int→Int→Z6
  | 0,_,_,_,_,_,_,_=>none
  | m+1,t4,o6,z10,t71,t72,t76,t77=>vaxj (vaze N (vajv N k m) k) k t4 o6 z10 t71 t72 t76 t77
def vayu (N:Nat) (rec:Y2→Y5→Int→Int→Z6) (k:Y2→Y5→Z6) (t4:Y2) (o6:Y5) (z10 t71 t72 t76 t77:Int):Z6:=vajv N (vaxx rec) N t4 o6 z10 t71 t72 t76 t77
def vavq (N:Nat) (k:Z14→Y2→Y5→Z6):Nat→Z14→Y2→Y5→Int→Int→Z6
  | 0,_,_,_,_,_=>none
  | m+1,pairs1,t4,o6,t28,t29=>vbjd (vavq N k m) k pairs1 t4 o6 t28 t29
def vajb (N:Nat) (k:Y2→Y5→Z6):Nat→Y2→Y5→Z14→Int→Int→Z6
  | 0,_,_,_,_,_=>none
  | m+1,t4,o6,t39,t40,t41=>vazu (vajb N k m) k t4 o6 t39 t40 t41
def vajq (N:Nat) (k:Y2→Y5→Z6):Nat→Y2→Y5→Int→Int→Z6
  | 0,_,_,_,_=>none
  | m+1,t4,o6,t71,t72=>vaxy (vayu N (vajq N k m) k) k t4 o6 t71 t72
def vaxq (N:Nat) (t4:Y2) (o6:Y5) (t71 t72:Int):Z6:=vajq N (vazb) N t4 o6 t71 t72
def vazh (N:Nat) (t4:Y2) (o6:Y5) (t39:Z14) (t40 t41:Int):Z6:=vajb N (vayq (vaxq N)) N t4 o6 t39 t40 t41
def vbhj (N:Nat) (pairs1:Z14) (t4:Y2) (o6:Y5) (t28 t29:Int):Z6:=vavq N (vbea (vazh N)) N pairs1 t4 o6 t28 t29
def V66 (N:Nat) (n_0:Int) (pairs_1:Z14):Z6:=vbmn (vbhj N) n_0 pairs_1
def S_V66:Sig:=⟨(.pair I (.pair Q14 .unit)),[0,0],[],.unit,(.tup (.pair Q0 (.pair .bool .unit))),(.p (.p P10 .i) .i),fun x=>V66 big x.1 x.2.1⟩
def A_V66:Cfg:=mkCfg tab [(56,S_V22),(57,S_V64),(58,S_V25),(59,S_V65)] [(10,([.drop,.as Q14 .i,.drop,.drop,.as Q4 P1,.drop,.as Q6 P10]++dr 21 [.as I .i,.as I .i])),(19,[.drop,.as Q14 .i,.drop,.drop,.as Q4 P1,.drop,.as Q6 P10]),(20,(dr 4 ([.as Q4 P1,.drop,.as Q6 P10]++dr 32 [.as Q14 .i,.as I .i,.as I .i]))),(33,(dr 4 [.as Q4 P1,.drop,.as Q6 P10])),(34,(dr 4 ([.as Q4 P1,.drop,.as Q6 P10]++dr 64 [.as I .i,.as I .i]))),(40,(dr 4 ([.as Q4 P1,.drop,.as Q6 P10]++dr 3 ([.as I .i]++dr 60 ([.as I .i,.as I .i]++dr 3 [.as I .i,.as I .i]))))),(59,(dr 4 [.as Q4 P1,.drop,.as Q6 P10])),(46,(dr 4 ([.as Q4 P1,.drop,.as Q6 P10]++dr 3 ([.as I .i,.as I .i]++dr 59 ([.as I .i,.as I .i]++dr 3 ([.as I .i,.as I .i]++dr 3 [.as I .i,.as I .i])))))),(57,(dr 4 ([.as Q4 P1,.drop,.as Q6 P10]++dr 64 [.as I .i,.as I .i]))),(55,(dr 4 ([.as Q4 P1,.drop,.as Q6 P10]++dr 3 ([.as I .i]++dr 60 ([.as I .i,.as I .i]++dr 3 [.as I .i,.as I .i])))))]
noncomputable def vme (N n:Nat) (K:Ex→St→Z6) (pairs1:Z14) (t4:Y2) (o6:Y5) (t28 t29:Int):Z6:=iter ((A_V66).shape 10) (run (A_V66) N (codeAt Try.f17 [1,1,1,0,1,0,0])) n (([.u,.val Q14 .i pairs1,.u,.u,W1 t4,.u,W5 o6]++ud 21 [W0 t28,W0 t29])++us 95) K
noncomputable def vel (N n:Nat) (K:Ex→St→Z6) (t4:Y2) (o6:Y5) (t39:Z14) (t40 t41:Int):Z6:=iter ((A_V66).shape 20) (run (A_V66) N (codeAt Try.f17 [1,1,1,1,0,1,0,0])) n ((ud 4 ([W1 t4,.u,W5 o6]++ud 32 [.val Q14 .i t39,W0 t40,W0 t41]))++us 83) K
noncomputable def vdf (N n:Nat) (K:Ex→St→Z6) (t4:Y2) (o6:Y5) (t71 t72:Int):Z6:=iter ((A_V66).shape 34) (run (A_V66) N (codeAt Try.f17 [1,1,1,1,1,0,1,0,0])) n ((ud 4 ([W1 t4,.u,W5 o6]++ud 64 [W0 t71,W0 t72]))++us 52) K
noncomputable def vdo (N n:Nat) (K:Ex→St→Z6) (t4:Y2) (o6:Y5) (z10 t71 t72 t76 t77:Int):Z6:=iter ((A_V66).shape 40) (run (A_V66) N (codeAt Try.f17 [1,1,1,1,1,0,1,0,0,1,1,0,0,1,1,0,0])) n ((ud 4 ([W1 t4,.u,W5 o6]++ud 3 ([W0 z10]++ud 60 ([W0 t71,W0 t72]++ud 3 [W0 t76,W0 t77]))))++us 47) K
noncomputable def vev (N n:Nat) (K:Ex→St→Z6) (t4:Y2) (o6:Y5) (z10 x11 t71 t72 t76 t77 t81 t82:Int):Z6:=iter ((A_V66).shape 46) (run (A_V66) N (codeAt Try.f17 [1,1,1,1,1,0,1,0,0,1,1,0,0,1,1,0,0,1,1,0,0,1,1,0,0])) n ((ud 4 ([W1 t4,.u,W5 o6]++ud 3 ([W0 z10,W0 x11]++ud 59 ([W0 t71,W0 t72]++ud 3 ([W0 t76,W0 t77]++ud 3 [W0 t81,W0 t82])))))++us 42) K
noncomputable abbrev vdt:Ex→St→Z6:=finish (A_V66) S_V66 Try.f17.results.toList
noncomputable abbrev vatc (kX:St→Z6) (pairs1:Z14) (t4:Y2) (o6:Y5):Z6:=kX ([.u,.val Q14 .i pairs1,.u,.u,W1 t4,.u,W5 o6]++us 118)
noncomputable abbrev vaeh (kX:St→Z6) (kO:Nat→St→Z6):Ex→St→Z6:=exK vdt 0 ((A_V66).shape 19) kX kO
noncomputable abbrev vajj (kX:St→Z6) (t4:Y2) (o6:Y5):Z6:=kX ((ud 4 [W1 t4,.u,W5 o6])++us 118)
noncomputable abbrev vvl (kX:St→Z6) (kO:Nat→St→Z6):Ex→St→Z6:=exK vdt 2 ((A_V66).shape 33) kX kO
noncomputable abbrev vvf (kX:St→Z6) (t4:Y2) (o6:Y5):Z6:=kX ((ud 4 [W1 t4,.u,W5 o6])++us 118)
noncomputable abbrev vfi (kX:St→Z6) (kO:Nat→St→Z6):Ex→St→Z6:=exK vdt 4 ((A_V66).shape 59) kX kO
noncomputable abbrev vuw (kX:St→Z6) (t4:Y2) (o6:Y5) (t71 t72:Int):Z6:=kX ((ud 4 ([W1 t4,.u,W5 o6]++ud 64 [W0 t71,W0 t72]))++us 52)
noncomputable abbrev veo (kX:St→Z6) (kO:Nat→St→Z6):Ex→St→Z6:=exK vdt 6 ((A_V66).shape 57) kX kO
noncomputable abbrev vaje (kX:St→Z6) (t4:Y2) (o6:Y5) (z10 t71 t72 t76 t77:Int):Z6:=kX ((ud 4 ([W1 t4,.u,W5 o6]++ud 3 ([W0 z10]++ud 60 ([W0 t71,W0 t72]++ud 3 [W0 t76,W0 t77]))))++us 47)
noncomputable abbrev vwa (kX:St→Z6) (kO:Nat→St→Z6):Ex→St→Z6:=exK vdt 8 ((A_V66).shape 55) kX kO
theorem vame (N kX kO):∀ n,vme N n (vaeh kX kO)=vavq N (vatc kX) n
 | 0=>rfl
 | m+1=>(show vme N (m+1) (vaeh kX kO)=vbjd (vme N m (vaeh kX kO)) (vatc kX) by kernel_rfl).trans (by rw[vame N kX kO m];funext _ _ _ _ _;rfl)
noncomputable abbrev vadp (N:Nat):Ex→St→Z6:=(blockK 0 (sqK (A_V66) N 19 500009 (codeAt Try.f17 [1,1,1,1]) vdt))
theorem vaek (N kX kO):∀ n,vel N n (vvl kX kO)=vajb N (vajj kX) n
 | 0=>rfl
 | m+1=>(show vel N (m+1) (vvl kX kO)=vazu (vel N m (vvl kX kO)) (vajj kX) by kernel_rfl).trans (by rw[vaek N kX kO m];funext _ _ _ _ _;rfl)
noncomputable abbrev vur (N:Nat):Ex→St→Z6:=(blockK 2 (sqK (A_V66) N 33 500016 (codeAt Try.f17 [1,1,1,1,1]) vdt))
theorem vaby (N kX kO):∀ n,vev N n (vwa kX kO)=vajs N (vaje kX) n
 | 0=>rfl
 | m+1=>(show vev N (m+1) (vwa kX kO)=vaxu (vev N m (vwa kX kO)) (vaje kX) by kernel_rfl).trans (by rw[vaby N kX kO m];funext _ _ _ _ _ _ _ _ _ _;rfl)
noncomputable abbrev vwj (N m:Nat) (kX:St→Z6) (kO:Nat→St→Z6):Ex→St→Z6:=(blockK 8 (blockK 7 (sqK (A_V66) N 55 500027 (codeAt Try.f17 [1,1,1,1,1,0,1,0,0,1,1,0,0,1,1,0,0,1,1,1]) (itK (A_V66) N 40 (codeAt Try.f17 [1,1,1,1,1,0,1,0,0,1,1,0,0,1,1,0,0]) m (veo kX kO)))))
noncomputable abbrev vayz (N m:Nat) (kX:St→Z6) (kO:Nat→St→Z6) (st':St):Z6:=run (A_V66) N (codeAt Try.f17 [1,1,1,1,1,0,1,0,0,1,1,0,0,1,1,0,0,1,1,1]) st' (itK (A_V66) N 40 (codeAt Try.f17 [1,1,1,1,1,0,1,0,0,1,1,0,0,1,1,0,0]) m (veo kX kO))
theorem vbkc (N m kX kO) {r} (h:vdo N m (veo kX kO)=r):vev N N (vwj N m kX kO)=vaze N r (vuw kX):=by
 rw[show vev N N (vwj N m kX kO)=vev N N (vwa (vayz N m kX kO) fun j=>(vwj N m kX kO) (.exit j)) from (by funext _ _ _ _ _ _ _ _ _ _;exact vab (fun _=>by kernel_rfl) fun _=>by kernel_rfl),vaby,show vaje (vayz N m kX kO)=vazd (vdo N m (veo kX kO)) by kernel_rfl,h];rfl
theorem vagh (N kX kO):∀ n,vdo N n (veo kX kO)=vajv N (vuw kX) n
 | 0=>rfl
 | m+1=>(show vdo N (m+1) (veo kX kO)=vaxj (vev N N (vwj N m kX kO)) (vuw kX) by kernel_rfl).trans (by rw[vbkc N m kX kO (vagh N kX kO m)];funext _ _ _ _ _ _ _;rfl)
noncomputable abbrev vxf (N m:Nat) (kX:St→Z6) (kO:Nat→St→Z6):Ex→St→Z6:=(blockK 6 (blockK 5 (sqK (A_V66) N 57 500028 (codeAt Try.f17 [1,1,1,1,1,0,1,0,0,1,1,1]) (itK (A_V66) N 34 (codeAt Try.f17 [1,1,1,1,1,0,1,0,0]) m (vfi kX kO)))))
noncomputable abbrev vayj (N m:Nat) (kX:St→Z6) (kO:Nat→St→Z6) (st':St):Z6:=run (A_V66) N (codeAt Try.f17 [1,1,1,1,1,0,1,0,0,1,1,1]) st' (itK (A_V66) N 34 (codeAt Try.f17 [1,1,1,1,1,0,1,0,0]) m (vfi kX kO))
theorem vbjv (N m kX kO) {r} (h:vdf N m (vfi kX kO)=r):vdo N N (vxf N m kX kO)=vayu N r (vvf kX):=by
 rw[show vdo N N (vxf N m kX kO)=vdo N N (veo (vayj N m kX kO) fun j=>(vxf N m kX kO) (.exit j)) from (by funext _ _ _ _ _ _ _;exact vab (fun _=>by kernel_rfl) fun _=>by kernel_rfl),vagh,show vuw (vayj N m kX kO)=vaxx (vdf N m (vfi kX kO)) by kernel_rfl,h];rfl
theorem vabp (N kX kO):∀ n,vdf N n (vfi kX kO)=vajq N (vvf kX) n
 | 0=>rfl
 | m+1=>(show vdf N (m+1) (vfi kX kO)=vaxy (vdo N N (vxf N m kX kO)) (vvf kX) by kernel_rfl).trans (by rw[vbjv N m kX kO (vabp N kX kO m)];funext _ _ _ _;rfl)
noncomputable abbrev vve (N:Nat):Ex→St→Z6:=(blockK 4 (sqK (A_V66) N 59 500029 (codeAt Try.f17 [1,1,1,1,1,1]) vdt))
noncomputable abbrev vaxz (N:Nat) (st':St):Z6:=run (A_V66) N (codeAt Try.f17 [1,1,1,1,1,1]) st' vdt
theorem vbln (N):vdf N N (vve N)=vaxq N:=by
 rw[show vdf N N (vve N)=vdf N N (vfi (vaxz N) fun j=>(vve N) (.exit j)) from (by funext _ _ _ _;exact vab (fun _=>by kernel_rfl) fun _=>by kernel_rfl),vabp,show vvf (vaxz N)=vazb by kernel_rfl];rfl
noncomputable abbrev vayt (N:Nat) (st':St):Z6:=run (A_V66) N (codeAt Try.f17 [1,1,1,1,1]) st' vdt
theorem vbls (N):vel N N (vur N)=vazh N:=by
 rw[show vel N N (vur N)=vel N N (vvl (vayt N) fun j=>(vur N) (.exit j)) from (by funext _ _ _ _ _;exact vab (fun _=>by kernel_rfl) fun _=>by kernel_rfl),vaek,show vajj (vayt N)=vayq (vdf N N (vve N)) by kernel_rfl,vbln N];rfl
noncomputable abbrev vbga (N:Nat) (st':St):Z6:=run (A_V66) N (codeAt Try.f17 [1,1,1,1]) st' vdt
theorem vboq (N):vme N N (vadp N)=vbhj N:=by
 rw[show vme N N (vadp N)=vme N N (vaeh (vbga N) fun j=>(vadp N) (.exit j)) from (by funext _ _ _ _ _;exact vab (fun _=>by kernel_rfl) fun _=>by kernel_rfl),vame,show vatc (vbga N)=vbea (vel N N (vur N)) by kernel_rfl,vbls N];rfl
theorem run_V66 (N x):runF (A_V66) N Try.f17 S_V66 x=V66 N x.1 x.2.1:=(show _=(vbmn (vme N N (vadp N)) x.1 x.2.1) by kernel_rfl).trans (by rw[vboq N];rfl)
theorem ok_V66:FnOk Try.prog 17∧Gx.Good Try.prog 17 S_V66:=gdR (A:=A_V66) tc Try.func17 (by kernel_rfl) (vaa ⟨ok_V22,ok_V64,ok_V25,ok_V65,trivial⟩) (run_V66 big)
def vbbm (p_0 q_1:Y2):Option ((Y1×(Y1×(Bool×Unit)))×Unit) :=
  (V32 p_0).bind fun rq1 =>
  (V32 q_1).bind fun rq2 =>
  cond rq1.1.2.1
  (some ((rq1.1.1,rq2.1.1,rq2.1.2.1,()),(())))
  (some ((rq1.1.1,rq2.1.1,false,()),(())))
def V67 (p_0 q_1:Y2):Option ((Y1×(Y1×(Bool×Unit)))×Unit):=vbbm p_0 q_1
def S_V67:Sig:=⟨(.pair Q0 Q11),[0,0],[],.unit,(.tup (.pair Q2 (.pair Q2 (.pair .bool .unit)))),.i,fun x=>V67 x.1 x.2.1⟩
def A_V67:Cfg:=mkCfg tab [(52,S_V32)] []
theorem run_V67 (N x):runF (A_V67) N Try.f60 S_V67 x=V67 x.1 x.2.1:=by kernel_rfl
theorem ok_V67:FnOk Try.prog 60∧Gx.Good Try.prog 60 S_V67:=gdR (A:=A_V67) tc Try.func60 (by kernel_rfl) (vaa ⟨ok_V32,trivial⟩) (run_V67 big)
def vbmi (list_0:Y4):Z8 :=
  (appI [] list_0).bind fun xq1 =>
  some (xq1,(()))
def V68 (list_0:Y4):Z8:=vbmi list_0
def S_V68:Sig:=⟨Q12,[0],[],.unit,Q7,P5,fun x=>V68 x.1⟩
def A_V68:Cfg:=mkCfg tab [] []
theorem run_V68 (N x):runF (A_V68) N Try.f92 S_V68 x=V68 x.1:=by kernel_rfl
theorem ok_V68:FnOk Try.prog 92∧Gx.Good Try.prog 92 S_V68:=gdR (A:=A_V68) tc Try.func92 (by kernel_rfl) (vaa trivial) (run_V68 big)
def vpx (rec:Y1→Y1→Y4→Int→Int→Int→Int→Int→Z1) (k:Y1→Y1→Y4→Int→Int→Z1) (l0 m1:Y1) (f2:Y4) (x7 t12 t13 t17 t18:Int):Z1 :=
  cond (decide (t18<t17))
  ((m1).bind fun xq1 =>
  (atI xq1.2.1 x7).bind fun xq2 =>
  (atI xq2 t18).bind fun xq3 =>
  cond (decide (xq3<(f2.length:Int)))
  ((l0).bind fun xq4 =>
  (atI f2 x7).bind fun xq5 =>
  (atI xq4.2.1 xq5).bind fun xq6 =>
  (atI f2 t18).bind fun xq7 =>
  (atI xq6 xq7).bind fun xq8 =>
  (atI f2 xq3).bind fun xq9 =>
  cond (decide (xq8≠xq9))
  (some (false,(())))
  ((m1).bind fun xq10 =>
  (atI xq10.2.2.1 x7).bind fun xq11 =>
  (atI xq11 t18).bind fun xq12 =>
  cond (decide (xq12<(f2.length:Int)))
  ((l0).bind fun xq13 =>
  (atI f2 x7).bind fun xq14 =>
  (atI xq13.2.2.1 xq14).bind fun xq15 =>
  (atI f2 t18).bind fun xq16 =>
  (atI xq15 xq16).bind fun xq17 =>
  (atI f2 xq12).bind fun xq18 =>
  cond (decide (xq17≠xq18))
  (some (false,(())))
  (rec l0 m1 f2 x7 t12 t13 t17 (IntKind.i64.wrap (t18+1))))
  (rec l0 m1 f2 x7 t12 t13 t17 (IntKind.i64.wrap (t18+1)))))
  ((m1).bind fun xq19 =>
  (atI xq19.2.2.1 x7).bind fun xq20 =>
  (atI xq20 t18).bind fun xq21 =>
  cond (decide (xq21<(f2.length:Int)))
  ((l0).bind fun xq22 =>
  (atI f2 x7).bind fun xq23 =>
  (atI xq22.2.2.1 xq23).bind fun xq24 =>
  (atI f2 t18).bind fun xq25 =>
  (atI xq24 xq25).bind fun xq26 =>
  (atI f2 xq21).bind fun xq27 =>
  cond (decide (xq26≠xq27))
  (some (false,(())))
  (rec l0 m1 f2 x7 t12 t13 t17 (IntKind.i64.wrap (t18+1))))
  (rec l0 m1 f2 x7 t12 t13 t17 (IntKind.i64.wrap (t18+1)))))
  (k l0 m1 f2 t12 t13)
def voq (rec:Y1→Y1→Y4→Int→Int→Z1) (l0 m1:Y1) (f2:Y4) (t12 t13:Int):Z1 :=
  rec l0 m1 f2 t12 (IntKind.i64.wrap (t13+1))
def vou (L5:Y1→Y1→Y4→Int→Int→Int→Int→Int→Z1) (k:Z1) (l0 m1:Y1) (f2:Y4) (t12 t13:Int):Z1 :=
  cond (decide (t13<t12))
  (L5 l0 m1 f2 t13 t12 t13 (f2.length:Int) (0:Int))
  (k)
def vhl:Z1 :=
  some (true,(()))
def vbat (L2:Y1→Y1→Y4→Int→Int→Z1) (l_0 m_1:Y1) (f_2:Y4):Z1 :=
  L2 l_0 m_1 f_2 (f_2.length:Int) (0:Int)
def vaev (N:Nat) (k:Y1→Y1→Y4→Int→Int→Z1):Nat→Y1→Y1→Y4→Int→Int→Int→Int→Int→Z1
  | 0,_,_,_,_,_,_,_,_=>none
  | m+1,l0,m1,f2,x7,t12,t13,t17,t18=>vpx (vaev N k m) k l0 m1 f2 x7 t12 t13 t17 t18
def vsk (N:Nat) (rec:Y1→Y1→Y4→Int→Int→Z1) (k:Z1) (l0 m1:Y1) (f2:Y4) (x7 t12 t13 t17 t18:Int):Z1:=vaev N (voq rec) N l0 m1 f2 x7 t12 t13 t17 t18
def vaar (N:Nat) (k:Z1):Nat→Y1→Y1→Y4→Int→Int→Z1
  | 0,_,_,_,_,_=>none
  | m+1,l0,m1,f2,t12,t13=>vou (vsk N (vaar N k m) k) k l0 m1 f2 t12 t13
def vasm (N:Nat) (l0 m1:Y1) (f2:Y4) (t12 t13:Int):Z1:=vaar N (vhl) N l0 m1 f2 t12 t13
def V69 (N:Nat) (l_0 m_1:Y1) (f_2:Y4):Z1:=vbat (vasm N) l_0 m_1 f_2
def S_V69:Sig:=⟨(.pair Q2 (.pair Q2 Q12)),[0,0,0],[],.unit,.bool,.i,fun x=>V69 big x.1 x.2.1 x.2.2.1⟩
def A_V69:Cfg:=mkCfg tab [] [(4,([.as Q2 .i,.as Q2 .i,.as Q7 .i]++dr 9 [.as I .i,.as I .i])),(10,([.as Q2 .i,.as Q2 .i,.as Q7 .i]++dr 4 ([.as I .i]++dr 4 ([.as I .i,.as I .i]++dr 3 [.as I .i,.as I .i])))),(31,[]),(29,([.as Q2 .i,.as Q2 .i,.as Q7 .i]++dr 9 [.as I .i,.as I .i]))]
noncomputable def vgx (N n:Nat) (K:Ex→St→Z1) (l0 m1:Y1) (f2:Y4) (t12 t13:Int):Z1:=iter ((A_V69).shape 4) (run (A_V69) N (codeAt Try.f93 [1,0,1,0,0])) n (([W6 l0,W6 m1,W4 f2]++ud 9 [W0 t12,W0 t13])++us 83) K
noncomputable def vlg (N n:Nat) (K:Ex→St→Z1) (l0 m1:Y1) (f2:Y4) (x7 t12 t13 t17 t18:Int):Z1:=iter ((A_V69).shape 10) (run (A_V69) N (codeAt Try.f93 [1,0,1,0,0,1,1,0,0,1,1,0,0])) n (([W6 l0,W6 m1,W4 f2]++ud 4 ([W0 x7]++ud 4 ([W0 t12,W0 t13]++ud 3 [W0 t17,W0 t18])))++us 78) K
noncomputable abbrev vapb:Ex→St→Z1:=finish (A_V69) S_V69 Try.f93.results.toList
noncomputable abbrev vaff (kX:St→Z1):Z1:=kX ([]++us 97)
noncomputable abbrev vkj (kX:St→Z1) (kO:Nat→St→Z1):Ex→St→Z1:=exK vapb 0 ((A_V69).shape 31) kX kO
noncomputable abbrev vasr (kX:St→Z1) (l0 m1:Y1) (f2:Y4) (t12 t13:Int):Z1:=kX (([W6 l0,W6 m1,W4 f2]++ud 9 [W0 t12,W0 t13])++us 83)
noncomputable abbrev vagw (kX:St→Z1) (kO:Nat→St→Z1):Ex→St→Z1:=exK vapb 2 ((A_V69).shape 29) kX kO
theorem vani (N kX kO):∀ n,vlg N n (vagw kX kO)=vaev N (vasr kX) n
 | 0=>rfl
 | m+1=>(show vlg N (m+1) (vagw kX kO)=vpx (vlg N m (vagw kX kO)) (vasr kX) by kernel_rfl).trans (by rw[vani N kX kO m];funext _ _ _ _ _ _ _ _;rfl)
noncomputable abbrev vahw (N m:Nat) (kX:St→Z1) (kO:Nat→St→Z1):Ex→St→Z1:=(blockK 2 (blockK 1 (sqK (A_V69) N 29 500014 (codeAt Try.f93 [1,0,1,0,0,1,1,1]) (itK (A_V69) N 4 (codeAt Try.f93 [1,0,1,0,0]) m (vkj kX kO)))))
noncomputable abbrev vbjc (N m:Nat) (kX:St→Z1) (kO:Nat→St→Z1) (st':St):Z1:=run (A_V69) N (codeAt Try.f93 [1,0,1,0,0,1,1,1]) st' (itK (A_V69) N 4 (codeAt Try.f93 [1,0,1,0,0]) m (vkj kX kO))
theorem vbrg (N m kX kO) {r} (h:vgx N m (vkj kX kO)=r):vlg N N (vahw N m kX kO)=vsk N r (vaff kX):=by
 rw[show vlg N N (vahw N m kX kO)=vlg N N (vagw (vbjc N m kX kO) fun j=>(vahw N m kX kO) (.exit j)) from (by funext _ _ _ _ _ _ _ _;exact vab (fun _=>by kernel_rfl) fun _=>by kernel_rfl),vani,show vasr (vbjc N m kX kO)=voq (vgx N m (vkj kX kO)) by kernel_rfl,h];rfl
theorem vann (N kX kO):∀ n,vgx N n (vkj kX kO)=vaar N (vaff kX) n
 | 0=>rfl
 | m+1=>(show vgx N (m+1) (vkj kX kO)=vou (vlg N N (vahw N m kX kO)) (vaff kX) by kernel_rfl).trans (by rw[vbrg N m kX kO (vann N kX kO m)];funext _ _ _ _ _;rfl)
noncomputable abbrev vaay (N:Nat):Ex→St→Z1:=(blockK 0 (sqK (A_V69) N 31 500015 (codeAt Try.f93 [1,1]) vapb))
noncomputable abbrev vbhx (N:Nat) (st':St):Z1:=run (A_V69) N (codeAt Try.f93 [1,1]) st' vapb
theorem vbrj (N):vgx N N (vaay N)=vasm N:=by
 rw[show vgx N N (vaay N)=vgx N N (vkj (vbhx N) fun j=>(vaay N) (.exit j)) from (by funext _ _ _ _ _;exact vab (fun _=>by kernel_rfl) fun _=>by kernel_rfl),vann,show vaff (vbhx N)=vhl by kernel_rfl];rfl
theorem run_V69 (N x):runF (A_V69) N Try.f93 S_V69 x=V69 N x.1 x.2.1 x.2.2.1:=(show _=(vbat (vgx N N (vaay N)) x.1 x.2.1 x.2.2.1) by kernel_rfl).trans (by rw[vbrj N];rfl)
theorem ok_V69:FnOk Try.prog 93∧Gx.Good Try.prog 93 S_V69:=gdR (A:=A_V69) tc Try.func93 (by kernel_rfl) (vaa trivial) (run_V69 big)
def T_V70 (self:Z19→Z12):Sig:={ a:=(.pair Q2 (.pair Q2 Q12)),md:=[0,0,1],mf:=[P5],m:=(.pair (.any 1) .unit),r:=(.ns I),rf := .i,f:=self }
def vol (self_V70:Z19→Z12) (rec:Y1→Y1→Y4→Int→Int→Z12) (k:Y4→Z12) (l0 m1:Y1) (f2:Y4) (t23 t24:Int):Z12 :=
  cond (decide (t24<t23))
  ((V33 big f2 t24).bind fun rq4 =>
  cond (!rq4.1)
  (rec l0 m1 f2 t23 (IntKind.i64.wrap (t24+1)))
  ((V68 f2).bind fun rq5 =>
  (appI rq5.1 [t24]).bind fun xq6 =>
  (V69 big l0 m1 xq6).bind fun rq7 =>
  cond (!rq7.1)
  (rec l0 m1 f2 t23 (IntKind.i64.wrap (t24+1)))
  ((self_V70 (l0,m1,xq6,())).bind fun rq8 =>
  cond rq8.1.isSome
  (some (rq8.1,((),())))
  (rec l0 m1 f2 t23 (IntKind.i64.wrap (t24+1))))))
  (k f2)
def vpl (self_V70:Z19→Z12) (f2:Y4):Z12 :=
  some (none,((),()))
def vapd (self_V70:Z19→Z12) (L4:Y1→Y1→Y4→Int→Int→Z12) (l_0 m_1:Y1) (f_2:Y4):Z12 :=
  (m_1).bind fun xq1 =>
  cond (decide ((f_2.length:Int)=(xq1.1.length:Int)))
  ((neL f_2).bind fun xq2 =>
  some ((some xq2),((),())))
  ((l_0).bind fun xq3 =>
  L4 l_0 m_1 f_2 (xq3.1.length:Int) (0:Int))
def vahv (self_V70:Z19→Z12) (N:Nat) (k:Y4→Z12):Nat→Y1→Y1→Y4→Int→Int→Z12
  | 0,_,_,_,_,_=>none
  | m+1,l0,m1,f2,t23,t24=>vol self_V70 (vahv self_V70 N k m) k l0 m1 f2 t23 t24
def vavh (self_V70:Z19→Z12) (N:Nat) (l0 m1:Y1) (f2:Y4) (t23 t24:Int):Z12:=vahv self_V70 N (vpl self_V70) N l0 m1 f2 t23 t24
def V70 (self_V70:Z19→Z12) (N:Nat) (l_0 m_1:Y1) (f_2:Y4):Z12:=vapd self_V70 (vavh self_V70 N) l_0 m_1 f_2
def A_V70 (self_V70:Z19→Z12):Cfg:=mkCfg tab [(91,S_V33),(92,S_V68),(93,S_V69),(61,T_V70 self_V70)] [(8,([.as Q2 .i,.as Q2 .i,.as Q7 P5]++dr 20 [.as I .i,.as I .i])),(27,[.drop,.drop,.as Q7 P5])]
noncomputable def vla (self_V70:Z19→Z12) (N n:Nat) (K:Ex→St→Z12) (l0 m1:Y1) (f2:Y4) (t23 t24:Int):Z12:=iter ((A_V70 self_V70).shape 8) (run (A_V70 self_V70) N (codeAt Try.f61 [1,1,0,1,0,0])) n (([W6 l0,W6 m1,W3 f2]++ud 20 [W0 t23,W0 t24])++us 24) K
noncomputable abbrev vbcq (self_V70:Z19→Z12):Ex→St→Z12:=finish (A_V70 self_V70) (T_V70 self_V70) Try.f61.results.toList
noncomputable abbrev vasp (kX:St→Z12) (f2:Y4):Z12:=kX ([.u,.u,W3 f2]++us 46)
noncomputable abbrev vabh (self_V70:Z19→Z12) (kX:St→Z12) (kO:Nat→St→Z12):Ex→St→Z12:=exK (vbcq self_V70) 0 ((A_V70 self_V70).shape 27) kX kO
theorem vamf (self_V70:Z19→Z12) (N kX kO):∀ n,vla self_V70 N n (vabh self_V70 kX kO)=vahv self_V70 N (vasp kX) n
 | 0=>rfl
 | m+1=>(show vla self_V70 N (m+1) (vabh self_V70 kX kO)=vol self_V70 (vla self_V70 N m (vabh self_V70 kX kO)) (vasp kX) by kernel_rfl).trans (by rw[vamf self_V70 N kX kO m];funext _ _ _ _ _;rfl)
noncomputable abbrev vaao (self_V70:Z19→Z12) (N:Nat):Ex→St→Z12:=(blockK 0 (sqK (A_V70 self_V70) N 27 500013 (codeAt Try.f61 [1,1,1]) (vbcq self_V70)))
noncomputable abbrev vbgg (self_V70:Z19→Z12) (N:Nat) (st':St):Z12:=run (A_V70 self_V70) N (codeAt Try.f61 [1,1,1]) st' (vbcq self_V70)
theorem vbqh (self_V70:Z19→Z12) (N):vla self_V70 N N (vaao self_V70 N)=vavh self_V70 N:=by
 rw[show vla self_V70 N N (vaao self_V70 N)=vla self_V70 N N (vabh self_V70 (vbgg self_V70 N) fun j=>(vaao self_V70 N) (.exit j)) from (by funext _ _ _ _ _;exact vab (fun _=>by kernel_rfl) fun _=>by kernel_rfl),vamf,show vasp (vbgg self_V70 N)=vpl self_V70 by kernel_rfl];rfl
theorem run_V70 (self_V70:Z19→Z12) (N:Nat) (x:((T_V70 self_V70)).a.den):runF (A_V70 self_V70) N Try.f61 (T_V70 self_V70) x=V70 self_V70 N x.1 x.2.1 x.2.2.1:=(show _=(vapd self_V70 (vla self_V70 N N (vaao self_V70 N)) x.1 x.2.1 x.2.2.1) by kernel_rfl).trans (by rw[vbqh self_V70 N];rfl)
theorem fn_V70:FnOk Try.prog 61:=⟨_,Try.func61,by kernel_rfl,by kernel_rfl⟩
def R_V70:Nat→Z19→Z12
  | 0,_=>none
  | d+1,x=>V70 (R_V70 d) big x.1 x.2.1 x.2.2.1
def S_V70:Sig:=T_V70 (R_V70 big)
theorem vco:∀ d,Gx.Good Try.prog 61 (T_V70 (R_V70 d))
  | 0=>fun x r h=>by cases h
  | d+1=>vnc Try.func61 (of_decide_eq_true (by kernel_rfl)) fun x r h=>⟨A_V70 (R_V70 d),big,vsd tabOk,vaa (show SigsOk Try.prog [(91,S_V33),(92,S_V68),(93,S_V69),(61,T_V70 (R_V70 d))] from⟨ok_V33,ok_V68,ok_V69,⟨fn_V70,vco d⟩,trivial⟩),(run_V70 (R_V70 d) big x).trans h⟩
theorem good_V70:Gx.Good Try.prog 61 S_V70:=vco big
def vbau (p_0 q_1:Y2):Z0 :=
  (V67 p_0 q_1).bind fun rq1 =>
  cond (!rq1.1.2.2.1)
  (some (([],false,()),(())))
  ((R_V70 big (rq1.1.1,rq1.1.2.1,[],())).bind fun rq2 =>
  cond rq2.1.isNone
  (some (([],false,()),(())))
  (some (((rq2.1.getD []),true,()),(()))))
def V72 (p_0 q_1:Y2):Z0:=vbau p_0 q_1
def S_V72:Sig:=⟨(.pair Q0 Q11),[0,0],[],.unit,Q9,.i,fun x=>V72 x.1 x.2.1⟩
def A_V72:Cfg:=mkCfg tab [(60,S_V67),(61,S_V70)] []
theorem run_V72 (N x):runF (A_V72) N Try.f18 S_V72 x=V72 x.1 x.2.1:=by kernel_rfl
theorem ok_V72:FnOk Try.prog 18∧Gx.Good Try.prog 18 S_V72:=gdR (A:=A_V72) tc Try.func18 (by kernel_rfl) (vaa ⟨ok_V67,⟨fn_V70,good_V70⟩,trivial⟩) (run_V72 big)
def vbms (l_0:Y4):Z8 :=
  (appI [] l_0).bind fun xq1 =>
  some (xq1,(()))
def V73 (l_0:Y4):Z8:=vbms l_0
def S_V73:Sig:=⟨Q12,[0],[],.unit,Q7,P5,fun x=>V73 x.1⟩
def A_V73:Cfg:=mkCfg tab [] []
theorem run_V73 (N x):runF (A_V73) N Try.f103 S_V73 x=V73 x.1:=by kernel_rfl
theorem ok_V73:FnOk Try.prog 103∧Gx.Good Try.prog 103 S_V73:=gdR (A:=A_V73) tc Try.func103 (by kernel_rfl) (vaa trivial) (run_V73 big)
def vix (rec:Y2→Y4→Y2→Int→Y4→Int→Int→Z8) (k:Y2→Y4→Y2→Int→Y4→Int→Z8) (p2:Y2) (out5:Y4) (dual7:Y2) (n8:Int) (now9:Y4) (i10 k11:Int):Z8 :=
  cond (decide (k11<i10))
  ((atI now9 i10).bind fun _ =>
  (now9[i10.toNat]?).bind fun xq5 =>
  (atI now9 k11).bind fun _ =>
  (now9[k11.toNat]?).bind fun xq6 =>
  (V44 big p2 [xq5,xq6]).bind fun rq7 =>
  (V10 big out5 rq7.1).bind fun rq8 =>
  (atI now9 i10).bind fun _ =>
  (now9[i10.toNat]?).bind fun xq9 =>
  (atI now9 k11).bind fun _ =>
  (now9[k11.toNat]?).bind fun xq10 =>
  (V44 big dual7 [xq9,xq10]).bind fun rq11 =>
  (V10 big rq8.1 rq11.1).bind fun rq12 =>
  rec p2 rq12.1 dual7 n8 now9 i10 (IntKind.i64.wrap (k11+1)))
  (k p2 out5 dual7 n8 now9 i10)
def viy (rec:Y2→Y4→Y2→Int→Y4→Int→Z8) (p2:Y2) (out5:Y4) (dual7:Y2) (n8:Int) (now9:Y4) (i10:Int):Z8 :=
  rec p2 out5 dual7 n8 now9 (IntKind.i64.wrap (i10+1))
def vit (L15:Y2→Y4→Y2→Int→Y4→Int→Int→Z8) (k:Y2→Y4→Y2→Int→Z8) (p2:Y2) (out5:Y4) (dual7:Y2) (n8:Int) (now9:Y4) (i10:Int):Z8 :=
  cond (decide (i10<(now9.length:Int)))
  (L15 p2 out5 dual7 n8 now9 i10 (0:Int))
  (k p2 out5 dual7 n8)
def vde (rec:Y2→Y4→Y2→Int→Z8) (p2:Y2) (out5:Y4) (dual7:Y2) (n8:Int):Z8 :=
  rec p2 out5 dual7 (IntKind.i64.wrap (n8+1))
def vnp (L12:Y2→Y4→Y2→Int→Y4→Int→Z8) (k:Y4→Z8) (p2:Y2) (out5:Y4) (dual7:Y2) (n8:Int):Z8 :=
  cond (decide (n8<(p2.1.length:Int)))
  ((V73 out5).bind fun rq4 =>
  L12 p2 out5 dual7 n8 rq4.1 (0:Int))
  (k out5)
def vgv (out5:Y4):Z8 :=
  some (out5,(()))
def vog (rec:Y4→Y2→Y4→Int→Z8) (k:Y2→Y4→Z8) (some1:Y4) (p2:Y2) (out5:Y4) (i6:Int):Z8 :=
  cond (decide (i6<(some1.length:Int)))
  ((atI some1 i6).bind fun xq1 =>
  (V10 big out5 xq1).bind fun rq2 =>
  rec some1 p2 rq2.1 (IntKind.i64.wrap (i6+1)))
  (k p2 out5)
def vnk (L8:Y2→Y4→Y2→Int→Z8) (p2:Y2) (out5:Y4):Z8 :=
  (V43 big p2).bind fun rq3 =>
  L8 p2 out5 rq3.1 (0:Int)
def vbaj (L3:Y4→Y2→Y4→Int→Z8) (p_0:Y2) (some_1:Y4):Z8 :=
  L3 some_1 p_0 [] (0:Int)
def vwo (N:Nat) (k:Y2→Y4→Y2→Int→Y4→Int→Z8):Nat→Y2→Y4→Y2→Int→Y4→Int→Int→Z8
  | 0,_,_,_,_,_,_,_=>none
  | m+1,p2,out5,dual7,n8,now9,i10,k11=>vix (vwo N k m) k p2 out5 dual7 n8 now9 i10 k11
def vqu (N:Nat) (rec:Y2→Y4→Y2→Int→Y4→Int→Z8) (k:Y2→Y4→Y2→Int→Z8) (p2:Y2) (out5:Y4) (dual7:Y2) (n8:Int) (now9:Y4) (i10 k11:Int):Z8:=vwo N (viy rec) N p2 out5 dual7 n8 now9 i10 k11
def vvd (N:Nat) (k:Y2→Y4→Y2→Int→Z8):Nat→Y2→Y4→Y2→Int→Y4→Int→Z8
  | 0,_,_,_,_,_,_=>none
  | m+1,p2,out5,dual7,n8,now9,i10=>vit (vqu N (vvd N k m) k) k p2 out5 dual7 n8 now9 i10
def vqb (N:Nat) (rec:Y2→Y4→Y2→Int→Z8) (k:Y4→Z8) (p2:Y2) (out5:Y4) (dual7:Y2) (n8:Int) (now9:Y4) (i10:Int):Z8:=vvd N (vde rec) N p2 out5 dual7 n8 now9 i10
def vadi (N:Nat) (k:Y2→Y4→Z8):Nat→Y4→Y2→Y4→Int→Z8
  | 0,_,_,_,_=>none
  | m+1,some1,p2,out5,i6=>vog (vadi N k m) k some1 p2 out5 i6
def vaez (N:Nat) (k:Y4→Z8):Nat→Y2→Y4→Y2→Int→Z8
  | 0,_,_,_,_=>none
  | m+1,p2,out5,dual7,n8=>vnp (vqb N (vaez N k m) k) k p2 out5 dual7 n8
def vod (N:Nat) (p2:Y2) (out5:Y4) (dual7:Y2) (n8:Int):Z8:=vaez N (vgv) N p2 out5 dual7 n8
def vatt (N:Nat) (some1:Y4) (p2:Y2) (out5:Y4) (i6:Int):Z8:=vadi N (vnk (vod N)) N some1 p2 out5 i6
def V74 (N:Nat) (p_0:Y2) (some_1:Y4):Z8:=vbaj (vatt N) p_0 some_1
def S_V74:Sig:=⟨(.pair Q0 Q12),[0,0],[],.unit,Q7,.i,fun x=>V74 big x.1 x.2.1⟩
def A_V74:Cfg:=mkCfg tab [(102,S_V10),(78,S_V43),(103,S_V73),(86,S_V44)] [(6,[.drop,.as Q7 .i,.as Q4 P5,.drop,.drop,.as Q7 .i,.as I .i]),(13,[.drop,.drop,.as Q4 P5,.drop,.drop,.as Q7 .i]),(16,[.drop,.drop,.as Q4 P5,.drop,.drop,.as Q7 .i,.drop,.as Q4 P1,.as I .i]),(24,[.drop,.drop,.as Q4 P5,.drop,.drop,.as Q7 .i,.drop,.as Q4 P1,.as I .i,.as Q7 P5,.as I .i]),(37,(dr 5 [.as Q7 .i])),(30,[.drop,.drop,.as Q4 P5,.drop,.drop,.as Q7 .i,.drop,.as Q4 P1,.as I .i,.as Q7 P5,.as I .i,.as I .i]),(19,[.drop,.drop,.as Q4 P5,.drop,.drop,.as Q7 .i,.drop,.as Q4 P1,.as I .i]),(27,[.drop,.drop,.as Q4 P5,.drop,.drop,.as Q7 .i,.drop,.as Q4 P1,.as I .i,.as Q7 P5,.as I .i])]
noncomputable def vko (N n:Nat) (K:Ex→St→Z8) (some1:Y4) (p2:Y2) (out5:Y4) (i6:Int):Z8:=iter ((A_V74).shape 6) (run (A_V74) N (codeAt Try.f65 [1,1,0,1,0,0])) n ([.u,W4 some1,W2 p2,.u,.u,W4 out5,W0 i6]++us 66) K
noncomputable def vga (N n:Nat) (K:Ex→St→Z8) (p2:Y2) (out5:Y4) (dual7:Y2) (n8:Int):Z8:=iter ((A_V74).shape 16) (run (A_V74) N (codeAt Try.f65 [1,1,1,1,0,1,0,0])) n ([.u,.u,W2 p2,.u,.u,W4 out5,.u,W1 dual7,W0 n8]++us 64) K
noncomputable def vdl (N n:Nat) (K:Ex→St→Z8) (p2:Y2) (out5:Y4) (dual7:Y2) (n8:Int) (now9:Y4) (i10:Int):Z8:=iter ((A_V74).shape 24) (run (A_V74) N (codeAt Try.f65 [1,1,1,1,0,1,0,0,1,0,0,1,1,0,0])) n ([.u,.u,W2 p2,.u,.u,W4 out5,.u,W1 dual7,W0 n8,W3 now9,W0 i10]++us 62) K
noncomputable def ves (N n:Nat) (K:Ex→St→Z8) (p2:Y2) (out5:Y4) (dual7:Y2) (n8:Int) (now9:Y4) (i10 k11:Int):Z8:=iter ((A_V74).shape 30) (run (A_V74) N (codeAt Try.f65 [1,1,1,1,0,1,0,0,1,0,0,1,1,0,0,1,0,0,1,0,0])) n ([.u,.u,W2 p2,.u,.u,W4 out5,.u,W1 dual7,W0 n8,W3 now9,W0 i10,W0 k11]++us 61) K
noncomputable abbrev vmv:Ex→St→Z8:=finish (A_V74) S_V74 Try.f65.results.toList
noncomputable abbrev varw (kX:St→Z8) (p2:Y2) (out5:Y4):Z8:=kX ([.u,.u,W2 p2,.u,.u,W4 out5]++us 67)
noncomputable abbrev vadf (kX:St→Z8) (kO:Nat→St→Z8):Ex→St→Z8:=exK vmv 0 ((A_V74).shape 13) kX kO
noncomputable abbrev vyu (kX:St→Z8) (out5:Y4):Z8:=kX ((ud 5 [W4 out5])++us 67)
noncomputable abbrev vkb (kX:St→Z8) (kO:Nat→St→Z8):Ex→St→Z8:=exK vmv 2 ((A_V74).shape 37) kX kO
noncomputable abbrev vwf (kX:St→Z8) (p2:Y2) (out5:Y4) (dual7:Y2) (n8:Int):Z8:=kX ([.u,.u,W2 p2,.u,.u,W4 out5,.u,W1 dual7,W0 n8]++us 64)
noncomputable abbrev vfc (kX:St→Z8) (kO:Nat→St→Z8):Ex→St→Z8:=exK vmv 4 ((A_V74).shape 19) kX kO
noncomputable abbrev vais (kX:St→Z8) (p2:Y2) (out5:Y4) (dual7:Y2) (n8:Int) (now9:Y4) (i10:Int):Z8:=kX ([.u,.u,W2 p2,.u,.u,W4 out5,.u,W1 dual7,W0 n8,W3 now9,W0 i10]++us 62)
noncomputable abbrev vvu (kX:St→Z8) (kO:Nat→St→Z8):Ex→St→Z8:=exK vmv 6 ((A_V74).shape 27) kX kO
theorem valu (N kX kO):∀ n,vko N n (vadf kX kO)=vadi N (varw kX) n
 | 0=>rfl
 | m+1=>(show vko N (m+1) (vadf kX kO)=vog (vko N m (vadf kX kO)) (varw kX) by kernel_rfl).trans (by rw[valu N kX kO m];funext _ _ _ _;rfl)
noncomputable abbrev vago (N:Nat):Ex→St→Z8:=(blockK 0 (sqK (A_V74) N 13 500006 (codeAt Try.f65 [1,1,1]) vmv))
theorem vabr (N kX kO):∀ n,ves N n (vvu kX kO)=vwo N (vais kX) n
 | 0=>rfl
 | m+1=>(show ves N (m+1) (vvu kX kO)=vix (ves N m (vvu kX kO)) (vais kX) by kernel_rfl).trans (by rw[vabr N kX kO m];funext _ _ _ _ _ _ _;rfl)
noncomputable abbrev vvg (N m:Nat) (kX:St→Z8) (kO:Nat→St→Z8):Ex→St→Z8:=(blockK 6 (blockK 5 (sqK (A_V74) N 27 500013 (codeAt Try.f65 [1,1,1,1,0,1,0,0,1,0,0,1,1,0,0,1,1]) (itK (A_V74) N 24 (codeAt Try.f65 [1,1,1,1,0,1,0,0,1,0,0,1,1,0,0]) m (vfc kX kO)))))
noncomputable abbrev vaxm (N m:Nat) (kX:St→Z8) (kO:Nat→St→Z8) (st':St):Z8:=run (A_V74) N (codeAt Try.f65 [1,1,1,1,0,1,0,0,1,0,0,1,1,0,0,1,1]) st' (itK (A_V74) N 24 (codeAt Try.f65 [1,1,1,1,0,1,0,0,1,0,0,1,1,0,0]) m (vfc kX kO))
theorem vbkz (N m kX kO) {r} (h:vdl N m (vfc kX kO)=r):ves N N (vvg N m kX kO)=vqu N r (vwf kX):=by
 rw[show ves N N (vvg N m kX kO)=ves N N (vvu (vaxm N m kX kO) fun j=>(vvg N m kX kO) (.exit j)) from (by funext _ _ _ _ _ _ _;exact vab (fun _=>by kernel_rfl) fun _=>by kernel_rfl),vabr,show vais (vaxm N m kX kO)=viy (vdl N m (vfc kX kO)) by kernel_rfl,h];rfl
theorem vacj (N kX kO):∀ n,vdl N n (vfc kX kO)=vvd N (vwf kX) n
 | 0=>rfl
 | m+1=>(show vdl N (m+1) (vfc kX kO)=vit (ves N N (vvg N m kX kO)) (vwf kX) by kernel_rfl).trans (by rw[vbkz N m kX kO (vacj N kX kO m)];funext _ _ _ _ _ _;rfl)
noncomputable abbrev vvx (N m:Nat) (kX:St→Z8) (kO:Nat→St→Z8):Ex→St→Z8:=(blockK 4 (blockK 3 (sqK (A_V74) N 19 500009 (codeAt Try.f65 [1,1,1,1,0,1,0,0,1,1]) (itK (A_V74) N 16 (codeAt Try.f65 [1,1,1,1,0,1,0,0]) m (vkb kX kO)))))
noncomputable abbrev vazk (N m:Nat) (kX:St→Z8) (kO:Nat→St→Z8) (st':St):Z8:=run (A_V74) N (codeAt Try.f65 [1,1,1,1,0,1,0,0,1,1]) st' (itK (A_V74) N 16 (codeAt Try.f65 [1,1,1,1,0,1,0,0]) m (vkb kX kO))
theorem vbkn (N m kX kO) {r} (h:vga N m (vkb kX kO)=r):vdl N N (vvx N m kX kO)=vqb N r (vyu kX):=by
 rw[show vdl N N (vvx N m kX kO)=vdl N N (vfc (vazk N m kX kO) fun j=>(vvx N m kX kO) (.exit j)) from (by funext _ _ _ _ _ _;exact vab (fun _=>by kernel_rfl) fun _=>by kernel_rfl),vacj,show vwf (vazk N m kX kO)=vde (vga N m (vkb kX kO)) by kernel_rfl,h];rfl
theorem vakl (N kX kO):∀ n,vga N n (vkb kX kO)=vaez N (vyu kX) n
 | 0=>rfl
 | m+1=>(show vga N (m+1) (vkb kX kO)=vnp (vdl N N (vvx N m kX kO)) (vyu kX) by kernel_rfl).trans (by rw[vbkn N m kX kO (vakl N kX kO m)];funext _ _ _ _;rfl)
noncomputable abbrev vadk (N:Nat):Ex→St→Z8:=(blockK 2 (sqK (A_V74) N 37 500018 (codeAt Try.f65 [1,1,1,1,1]) vmv))
noncomputable abbrev vbiv (N:Nat) (st':St):Z8:=run (A_V74) N (codeAt Try.f65 [1,1,1,1,1]) st' vmv
theorem vbpa (N):vga N N (vadk N)=vod N:=by
 rw[show vga N N (vadk N)=vga N N (vkb (vbiv N) fun j=>(vadk N) (.exit j)) from (by funext _ _ _ _;exact vab (fun _=>by kernel_rfl) fun _=>by kernel_rfl),vakl,show vyu (vbiv N)=vgv by kernel_rfl];rfl
noncomputable abbrev vbhe (N:Nat) (st':St):Z8:=run (A_V74) N (codeAt Try.f65 [1,1,1]) st' vmv
theorem vbqf (N):vko N N (vago N)=vatt N:=by
 rw[show vko N N (vago N)=vko N N (vadf (vbhe N) fun j=>(vago N) (.exit j)) from (by funext _ _ _ _;exact vab (fun _=>by kernel_rfl) fun _=>by kernel_rfl),valu,show varw (vbhe N)=vnk (vga N N (vadk N)) by kernel_rfl,vbpa N];rfl
theorem run_V74 (N x):runF (A_V74) N Try.f65 S_V74 x=V74 N x.1 x.2.1:=(show _=(vbaj (vko N N (vago N)) x.1 x.2.1) by kernel_rfl).trans (by rw[vbqf N];rfl)
theorem ok_V74:FnOk Try.prog 65∧Gx.Good Try.prog 65 S_V74:=gdR (A:=A_V74) tc Try.func65 (by kernel_rfl) (vaa ⟨ok_V10,ok_V43,ok_V73,ok_V44,trivial⟩) (run_V74 big)
def vjb (rec:Y2→Y2→Y2→Y4→Y2→Int→Y4→Int→Z11) (k:Y2→Y2→Y2→Y4→Y2→Int→Y4→Z11) (t2 t3 p5:Y2) (sub6:Y4) (q7:Y2) (i8:Int) (below9:Y4) (k10:Int):Z11 :=
  cond (decide (k10<(sub6.length:Int)))
  ((atI sub6 k10).bind fun xq13 =>
  (atI sub6 i8).bind fun xq14 =>
  (V15 p5 xq13 xq14).bind fun rq15 =>
  cond rq15.1
  ((appI below9 [k10]).bind fun xq16 =>
  rec t2 t3 p5 sub6 q7 i8 xq16 (IntKind.i64.wrap (k10+1)))
  (rec t2 t3 p5 sub6 q7 i8 below9 (IntKind.i64.wrap (k10+1))))
  (k t2 t3 p5 sub6 q7 i8 below9)
def vje (rec:Y2→Y2→Y2→Y4→Y2→Int→Z11) (t2 t3 p5:Y2) (sub6:Y4) (q7:Y2) (i8:Int) (below9:Y4):Z11 :=
  (appI q7.1 [below9]).bind fun xq17 =>
  rec t2 t3 p5 sub6 (xq17,((),q7.2).2) (IntKind.i64.wrap (i8+1))
def vjg (L18:Y2→Y2→Y2→Y4→Y2→Int→Y4→Int→Z11) (k:Y2→Y2→Y2→Y2→Z11) (t2 t3 p5:Y2) (sub6:Y4) (q7:Y2) (i8:Int):Z11 :=
  cond (decide (i8<(sub6.length:Int)))
  (L18 t2 t3 p5 sub6 q7 i8 [] (0:Int))
  (k t2 t3 p5 q7)
def vdj (t2 t3 p5 q7:Y2):Z11 :=
  some ((p5,q7,()),(()))
def vbdl (L14:Y2→Y2→Y2→Y4→Y2→Int→Z11) (code_0:Y4):Z11 :=
  (V19 big (code_0,((0:Int),((0:Int),())))).bind fun rq1 =>
  (V2 rq1.2.1 (4:Int)).bind fun rq2 =>
  cond (decide (rq2.1=0))
  ((V13 (4:Int)).bind fun rq3 =>
  some ((rq1.1,rq3.1,()),(())))
  (cond (decide (rq2.1=1))
  ((V13 (5:Int)).bind fun rq4 =>
  some ((rq1.1,rq4.1,()),(())))
  (cond (decide (rq2.1=2))
  ((V45 big rq1.1).bind fun rq5 =>
  cond rq5.1
  ((V2 rq2.2.1 (rq1.1.1.length:Int)).bind fun rq6 =>
  (V2 rq6.2.1 (rq1.1.1.length:Int)).bind fun rq7 =>
  (V2 rq7.2.1 (rq1.1.1.length:Int)).bind fun rq8 =>
  (V74 big rq1.1 [rq6.1,rq7.1,rq8.1]).bind fun rq9 =>
  cond (decide ((0:Int)<(rq9.1.length:Int)))
  (L14 (([]:Y3),()) (([]:Y3),()) rq1.1 rq9.1 ([],()) (0:Int))
  ((V19 big rq8.2.1).bind fun rq10 =>
  some ((rq1.1,rq10.1,()),(()))))
  ((V19 big rq2.2.1).bind fun rq11 =>
  some ((rq1.1,rq11.1,()),(()))))
  ((V19 big rq2.2.1).bind fun rq12 =>
  some ((rq1.1,rq12.1,()),(())))))
def vwy (N:Nat) (k:Y2→Y2→Y2→Y4→Y2→Int→Y4→Z11):Nat→Y2→Y2→Y2→Y4→Y2→Int→Y4→Int→Z11
  | 0,_,_,_,_,_,_,_,_=>none
  | m+1,t2,t3,p5,sub6,q7,i8,below9,k10=>vjb (vwy N k m) k t2 t3 p5 sub6 q7 i8 below9 k10
def vpy (N:Nat) (rec:Y2→Y2→Y2→Y4→Y2→Int→Z11) (k:Y2→Y2→Y2→Y2→Z11) (t2 t3 p5:Y2) (sub6:Y4) (q7:Y2) (i8:Int) (below9:Y4) (k10:Int):Z11:=vwy N (vje rec) N t2 t3 p5 sub6 q7 i8 below9 k10
def vvj (N:Nat) (k:Y2→Y2→Y2→Y2→Z11):Nat→Y2→Y2→Y2→Y4→Y2→Int→Z11
  | 0,_,_,_,_,_,_=>none
  | m+1,t2,t3,p5,sub6,q7,i8=>vjg (vpy N (vvj N k m) k) k t2 t3 p5 sub6 q7 i8
def vaiq (N:Nat) (t2 t3 p5:Y2) (sub6:Y4) (q7:Y2) (i8:Int):Z11:=vvj N (vdj) N t2 t3 p5 sub6 q7 i8
def V75 (N:Nat) (code_0:Y4):Z11:=vbdl (vaiq N) code_0
def S_V75:Sig:=⟨(.pair Q15 .unit),[0],[],.unit,(.tup (.pair Q0 Q11)),.i,fun x=>V75 big x.1⟩
def A_V75:Cfg:=mkCfg tab [(62,S_V19),(63,S_V2),(64,S_V13),(45,S_V45),(65,S_V74),(66,S_V15)] [(28,[.drop,.drop,.as Q4 P1,.as Q4 P1,.drop,.as Q4 P5,.as Q7 .i,.as Q4 P1,.as I .i]),(36,[.drop,.drop,.as Q4 P1,.as Q4 P1,.drop,.as Q4 P5,.as Q7 .i,.as Q4 P1,.as I .i,.as Q7 P5,.as I .i]),(47,[.drop,.drop,.as Q4 P1,.as Q4 P1,.drop,.as Q4 P5,.drop,.as Q4 P1]),(45,[.drop,.drop,.as Q4 P1,.as Q4 P1,.drop,.as Q4 P5,.as Q7 .i,.as Q4 P1,.as I .i,.as Q7 P5])]
noncomputable def vcz (N n:Nat) (K:Ex→St→Z11) (t2 t3 p5:Y2) (sub6:Y4) (q7:Y2) (i8:Int):Z11:=iter ((A_V75).shape 28) (run (A_V75) N (codeAt Try.f19 [1,1,1,0,1,0,1,1,1,1,1,0,1,0,1,1,0,1,0,1,0,0])) n ([.u,.u,W1 t2,W1 t3,.u,W2 p5,W4 sub6,W1 q7,W0 i8]++us 82) K
noncomputable def vfb (N n:Nat) (K:Ex→St→Z11) (t2 t3 p5:Y2) (sub6:Y4) (q7:Y2) (i8:Int) (below9:Y4) (k10:Int):Z11:=iter ((A_V75).shape 36) (run (A_V75) N (codeAt Try.f19 [1,1,1,0,1,0,1,1,1,1,1,0,1,0,1,1,0,1,0,1,0,0,1,0,0,1,0,1,0,0])) n ([.u,.u,W1 t2,W1 t3,.u,W2 p5,W4 sub6,W1 q7,W0 i8,W3 below9,W0 k10]++us 80) K
noncomputable abbrev vapm:Ex→St→Z11:=finish (A_V75) S_V75 Try.f19.results.toList
noncomputable abbrev vvy (kX:St→Z11) (t2 t3 p5 q7:Y2):Z11:=kX ([.u,.u,W1 t2,W1 t3,.u,W2 p5,.u,W1 q7]++us 83)
noncomputable abbrev vet (kX:St→Z11) (kO:Nat→St→Z11):Ex→St→Z11:=exK vapm 1 ((A_V75).shape 47) kX kO
noncomputable abbrev vajk (kX:St→Z11) (t2 t3 p5:Y2) (sub6:Y4) (q7:Y2) (i8:Int) (below9:Y4):Z11:=kX ([.u,.u,W1 t2,W1 t3,.u,W2 p5,W4 sub6,W1 q7,W0 i8,W3 below9]++us 81)
noncomputable abbrev vwp (kX:St→Z11) (kO:Nat→St→Z11):Ex→St→Z11:=exK vapm 3 ((A_V75).shape 45) kX kO
theorem vagt (N kX kO):∀ n,vfb N n (vwp kX kO)=vwy N (vajk kX) n
 | 0=>rfl
 | m+1=>(show vfb N (m+1) (vwp kX kO)=vjb (vfb N m (vwp kX kO)) (vajk kX) by kernel_rfl).trans (by rw[vagt N kX kO m];funext _ _ _ _ _ _ _ _;rfl)
noncomputable abbrev vxc (N m:Nat) (kX:St→Z11) (kO:Nat→St→Z11):Ex→St→Z11:=(blockK 3 (sqK (A_V75) N 45 500022 (codeAt Try.f19 [1,1,1,0,1,0,1,1,1,1,1,0,1,0,1,1,0,1,0,1,0,0,1,0,0,1,1]) (blockK 2 (sqK (A_V75) N 31 500015 (codeAt Try.f19 [1,1,1,0,1,0,1,1,1,1,1,0,1,0,1,1,0,1,0,1,0,0,1,1]) (itK (A_V75) N 28 (codeAt Try.f19 [1,1,1,0,1,0,1,1,1,1,1,0,1,0,1,1,0,1,0,1,0,0]) m (vet kX kO))))))
noncomputable abbrev vayx (N m:Nat) (kX:St→Z11) (kO:Nat→St→Z11) (st':St):Z11:=run (A_V75) N (codeAt Try.f19 [1,1,1,0,1,0,1,1,1,1,1,0,1,0,1,1,0,1,0,1,0,0,1,0,0,1,1]) st' (blockK 2 (sqK (A_V75) N 31 500015 (codeAt Try.f19 [1,1,1,0,1,0,1,1,1,1,1,0,1,0,1,1,0,1,0,1,0,0,1,1]) (itK (A_V75) N 28 (codeAt Try.f19 [1,1,1,0,1,0,1,1,1,1,1,0,1,0,1,1,0,1,0,1,0,0]) m (vet kX kO))))
theorem vbkt (N m kX kO) {r} (h:vcz N m (vet kX kO)=r):vfb N N (vxc N m kX kO)=vpy N r (vvy kX):=by
 rw[show vfb N N (vxc N m kX kO)=vfb N N (vwp (vayx N m kX kO) fun j=>(vxc N m kX kO) (.exit j)) from (by funext _ _ _ _ _ _ _ _;exact vab (fun _=>by kernel_rfl) fun _=>by kernel_rfl),vagt,show vajk (vayx N m kX kO)=vje (vcz N m (vet kX kO)) by kernel_rfl,h];rfl
theorem vaic (N kX kO):∀ n,vcz N n (vet kX kO)=vvj N (vvy kX) n
 | 0=>rfl
 | m+1=>(show vcz N (m+1) (vet kX kO)=vjg (vfb N N (vxc N m kX kO)) (vvy kX) by kernel_rfl).trans (by rw[vbkt N m kX kO (vaic N kX kO m)];funext _ _ _ _ _ _;rfl)
noncomputable abbrev vvt (N:Nat):Ex→St→Z11:=(blockK 1 (sqK (A_V75) N 47 500023 (codeAt Try.f19 [1,1,1,0,1,0,1,1,1,1,1,0,1,0,1,1,0,1,1]) (blockK 0 (sqK (A_V75) N 49 500024 (codeAt Try.f19 [1,1,1,1]) vapm))))
noncomputable abbrev vaym (N:Nat) (st':St):Z11:=run (A_V75) N (codeAt Try.f19 [1,1,1,0,1,0,1,1,1,1,1,0,1,0,1,1,0,1,1]) st' (blockK 0 (sqK (A_V75) N 49 500024 (codeAt Try.f19 [1,1,1,1]) vapm))
theorem vblw (N):vcz N N (vvt N)=vaiq N:=by
 rw[show vcz N N (vvt N)=vcz N N (vet (vaym N) fun j=>(vvt N) (.exit j)) from (by funext _ _ _ _ _ _;exact vab (fun _=>by kernel_rfl) fun _=>by kernel_rfl),vaic,show vvy (vaym N)=vdj by kernel_rfl];rfl
theorem run_V75 (N x):runF (A_V75) N Try.f19 S_V75 x=V75 N x.1:=(show _=(vbdl (vcz N N (vvt N)) x.1) by kernel_rfl).trans (by rw[vblw N];rfl)
theorem ok_V75:FnOk Try.prog 19∧Gx.Good Try.prog 19 S_V75:=gdR (A:=A_V75) tc Try.func19 (by kernel_rfl) (vaa ⟨ok_V19,ok_V2,ok_V13,ok_V45,ok_V74,ok_V15,trivial⟩) (run_V75 big)
end Go.Proofs.Yteanfidobhpchaa
