import Derived.Test.YtclaienmkbpkaaaGreatVBC
set_option maxRecDepth 100000
set_option linter.unusedVariables false
namespace Go.Proofs.YtclaienmkbpkaaaGreat
open Go Go.Gx Go.Proofs
noncomputable section
def wfs (rec:T67) (k:T39) (a4 a7:Y3) (a8:Z16) (a9 a55 a56:Int):Z3 :=
  cond (decide (a56<a55))
  ((atI a4 a56).bind fun _ =>
  (a4[a56.toNat]?).bind fun xq8 =>
  (atI a7 a9).bind fun _ =>
  (a7[a9.toNat]?).bind fun xq9 =>
  (a7[a9.toNat]?).bind fun xq10 =>
  (a4[a56.toNat]?).bind fun xq11 =>
  (V92 big xq10 xq11).bind fun rq12 =>
  (V91 big rq12.1).bind fun rq13 =>
  cond (!(Option.getD (mget .str .bool a8 rq13.1) false))
  ((appI a7 [rq12.1]).bind fun xq14 =>
  cond (decide (200<(xq14.length:Int)))
  (some (([],false,()),(())))
  (rec a4 xq14 (mput .str .bool a8 rq13.1 true) a9 a55 (IntKind.i64.wrap (a56+1))))
  (cond (decide (200<(a7.length:Int)))
  (some (([],false,()),(())))
  (rec a4 a7 a8 a9 a55 (IntKind.i64.wrap (a56+1)))))
  (k a4 a7 a8 a9)
def way (rec:T39) (a4 a7:Y3) (a8:Z16) (a9:Int):Z3 :=
  rec a4 a7 a8 (IntKind.i64.wrap (a9+1))
def waz (L15:T67) (k:T118) (a4 a7:Y3) (a8:Z16) (a9:Int):Z3 :=
  cond (decide (a9<(a7.length:Int)))
  (L15 a4 a7 a8 a9 (a4.length:Int) 0)
  (k a7)
def w6 (a7:Y3):Z3 :=
  (ug a7 ()).bind fun rq7 =>
  some ((rq7.2.1,true,()),(()))
def wjr (rec:T106) (k:T68) (a1:Y7) (a4:Y3) (a5 a6:Int):Z3 :=
  cond (decide (a6<a1.1))
  ((V90 big a1 [(a5,(a6,()))]).bind fun rq5 =>
  (appI a4 [rq5.1]).bind fun xq6 =>
  rec a1 xq6 a5 (IntKind.i64.wrap (a6+1)))
  (k a1 a4 a5)
def wfr (rec:T68) (a1:Y7) (a4:Y3) (a5:Int):Z3 :=
  rec a1 a4 (IntKind.i64.wrap (a5+1))
def wft (L6:T106) (k:Y7→Y3→Z3) (a1:Y7) (a4:Y3) (a5:Int):Z3 :=
  cond (decide (a5<a1.1))
  (L6 a1 a4 a5 (IntKind.i64.wrap (a5+1)))
  (k a1 a4)
def zh (L12:T39) (a1:Y7) (a4:Y3):Z3 :=
  (V89 big a1.1).bind fun rq1 =>
  (atI [rq1.1] 0).bind fun _ =>
  ([rq1.1][(0:Int).toNat]?).bind fun xq2 =>
  ([rq1.1][(0:Int).toNat]?).bind fun xq3 =>
  (V91 big xq3).bind fun rq4 =>
  L12 a4 [rq1.1] (mput .str .bool [] rq4.1 true) 0
def w4t (L3:T68) (a_0:Y7):Z3 :=
  L3 a_0 [] 0
def ww5 (N:Nat) (k:T68):=itN (fun r=>wjr r k) fun _ _ _ _=>none
def wjp (N:Nat) (rec:T68) (k:Y7→Y3→Z3):=ww5 N (wfr rec) N
def wrk (N:Nat) (k:T39):=itN (fun r=>wfs r k) fun _ _ _ _ _ _=>none
def wfp (N:Nat) (rec:T39) (k:T118):=wrk N (way rec) N
def ww4 (N:Nat) (k:Y7→Y3→Z3):=itN (fun r=>wft (wjp N r k) k) fun _ _ _=>none
def wrj (N:Nat) (k:T118):=itN (fun r=>waz (wfp N r k) k) fun _ _ _ _=>none
def xg (N:Nat):=wrj N (w6) N
def ww3 (N:Nat):=ww4 N (zh (xg N)) N
def V93 (N:Nat) (a_0:Y7):Z3:=w4t (ww3 N) a_0
def S_V93:Sig:=⟨(.pair Q5 .unit),[0],[],.unit,(.tup (.pair Q13 Q12)),(.p O11 .i),fun x=>V93 big x.1⟩
def A_V93:Cfg:=mkCfg tab [(121,S_V89),(122,S_V91),(120,S_V90),(58,wh),(123,S_V92)] [(6,[D0,.as Q23 O4,D0,D0,B7,B0]),(12,[D0,.as Q23 O4,D0,D0,B7,B0,B0]),(19,[D0,.as Q23 O4,D0,D0,B7]),(24,(dr 4 [B7,D0,D0,B7,.as (.map .str .bool) O4,B0])),(9,[D0,.as Q23 O4,D0,D0,B7,B0]),(30,(dr 4 ([B7,D0,D0,B7,.as (.map .str .bool) O4,B0]++dr 44 [.keep,B0,B0]))),(51,(dr 7 [B7])),(27,(dr 4 [B7,D0,D0,B7,.as (.map .str .bool) O4,B0]))]
noncomputable def wbu (N n:Nat) (K:T103) (a1:Y7) (a4:Y3) (a5:Int):Z3:=itr A_V93 N 6 Tryz.f84 [1,1,0,1,0,0] n ([.u,.val Q23 O4 a1,.u,.u,W7 a4,W0 a5]++us 79) K
noncomputable def wjq (N n:Nat) (K:T103) (a1:Y7) (a4:Y3) (a5 a6:Int):Z3:=itr A_V93 N 12 Tryz.f84 [1,1,0,1,0,0,1,0,0,1,0,0] n ([.u,.val Q23 O4 a1,.u,.u,W7 a4,W0 a5,W0 a6]++us 78) K
noncomputable def yo (N n:Nat) (K:T103) (a4 a7:Y3) (a8:Z16) (a9:Int):Z3:=itr A_V93 N 24 Tryz.f84 [1,1,1,1,1,0,1,0,0] n ((ud 4 [W7 a4,.u,.u,W7 a7,.val (.map .str .bool) O4 a8,W0 a9])++us 75) K
noncomputable def wfq (N n:Nat) (K:T103) (a4 a7:Y3) (a8:Z16) (a9 a55 a56:Int):Z3:=itr A_V93 N 30 Tryz.f84 [1,1,1,1,1,0,1,0,0,1,0,0,1,0,0] n ([.u,.u,.u,.u,W7 a4,.u,.u,W7 a7,.val (.map .str .bool) O4 a8,W0 a9,.u,.u,.u,.u,.u,.u,.u,.u,.u,.u,.u,.u,.u,.u,.u,.u,.u,.u,.u,.u,.u,.u,.u,.u,.u,.u,.u,.u,.u,.u,.u,.u,.u,.u,.u,.u,.u,.u,.u,.u,.u,.u,.u,.u,.ref 4 [] .val,W0 a55,W0 a56]++us 28) K
noncomputable def wb4:Ex→St→Z3:=finish A_V93 S_V93 Tryz.f84.results.toList
noncomputable def wpc (kX:T58) (a1:Y7) (a4:Y3):Z3:=kX ([.u,.val Q23 O4 a1,.u,.u,W7 a4]++us 80)
noncomputable def wfo (kX:T58) (kO:T46):=exK wb4 0 (A_V93.shape 19) kX kO
noncomputable def xcz (kX:T58) (a1:Y7) (a4:Y3) (a5:Int):Z3:=kX ([.u,.val Q23 O4 a1,.u,.u,W7 a4,W0 a5]++us 79)
noncomputable def xcy (kX:T58) (kO:T46):=exK wb4 2 (A_V93.shape 9) kX kO
noncomputable def wlh (kX:T58) (a7:Y3):Z3:=kX ((ud 7 [W7 a7])++us 77)
noncomputable def wax (kX:T58) (kO:T46):=exK wb4 4 (A_V93.shape 51) kX kO
noncomputable def w00 (kX:T58) (a4 a7:Y3) (a8:Z16) (a9:Int):Z3:=kX ((ud 4 [W7 a4,.u,.u,W7 a7,.val (.map .str .bool) O4 a8,W0 a9])++us 75)
noncomputable def w0z (kX:T58) (kO:T46):=exK wb4 6 (A_V93.shape 27) kX kO
theorem xc1 (N kX kO):∀n,wjq N n (xcy kX kO)=ww5 N (xcz kX) n :=
 itE rfl fun m=>by kernel_rfl
noncomputable def wpb (N m:Nat) (kX:T58) (kO:T46):=(blockK 2 (blockK 1 (sqK A_V93 N 9 500004 Tryz.f84 [1,1,0,1,0,0,1,1] (itK A_V93 N 6 Tryz.f84 [1,1,0,1,0,0] m (wfo kX kO)))))
noncomputable def xc3 (N m:Nat) (kX:T58) (kO:T46) (st':St):Z3:=rn A_V93 N Tryz.f84 [1,1,0,1,0,0,1,1] st' (itK A_V93 N 6 Tryz.f84 [1,1,0,1,0,0] m (wfo kX kO))
theorem xkj (N m kX kO) {r}(h:wbu N m (wfo kX kO)=r):wjq N N (wpb N m kX kO)=wjp N r (wpc kX):=by
 rw[show wjq N N (wpb N m kX kO)=wjq N N (xcy (xc3 N m kX kO) fun j=>(wpb N m kX kO) (.exit j)) from(by funext _ _ _ _;exact jll),xc1,show xcz (xc3 N m kX kO)=wfr (wbu N m (wfo kX kO)) by kernel_rfl,h];rfl
theorem xc0 (N kX kO):∀n,wbu N n (wfo kX kO)=ww4 N (wpc kX) n :=
 itE rfl fun m=>(show _=wft (wjq N N (wpb N m kX kO)) (wpc kX) by kernel_rfl).trans (by rw[xkj N m kX kO rfl]<;>rfl)
noncomputable def wpa (N:Nat):=(blockK 0 (sqK A_V93 N 19 500009 Tryz.f84 [1,1,1] wb4))
theorem w4s (N kX kO):∀n,wfq N n (w0z kX kO)=wrk N (w00 kX) n :=
 itE rfl fun m=>by kernel_rfl
noncomputable def wlg (N m:Nat) (kX:T58) (kO:T46):=(blockK 6 (blockK 5 (sqK A_V93 N 27 500013 Tryz.f84 [1,1,1,1,1,0,1,0,0,1,1] (itK A_V93 N 24 Tryz.f84 [1,1,1,1,1,0,1,0,0] m (wax kX kO)))))
noncomputable def w02 (N m:Nat) (kX:T58) (kO:T46) (st':St):Z3:=rn A_V93 N Tryz.f84 [1,1,1,1,1,0,1,0,0,1,1] st' (itK A_V93 N 24 Tryz.f84 [1,1,1,1,1,0,1,0,0] m (wax kX kO))
theorem xfk (N m kX kO) {r}(h:yo N m (wax kX kO)=r):wfq N N (wlg N m kX kO)=wfp N r (wlh kX):=by
 rw[show wfq N N (wlg N m kX kO)=wfq N N (w0z (w02 N m kX kO) fun j=>(wlg N m kX kO) (.exit j)) from(by funext _ _ _ _ _ _;exact jll),w4s,show w00 (w02 N m kX kO)=way (yo N m (wax kX kO)) by kernel_rfl,h];rfl
theorem w4r (N kX kO):∀n,yo N n (wax kX kO)=wrj N (wlh kX) n :=
 itE rfl fun m=>(show _=waz (wfq N N (wlg N m kX kO)) (wlh kX) by kernel_rfl).trans (by rw[xfk N m kX kO rfl]<;>rfl)
noncomputable def wlf (N:Nat):=(blockK 4 (sqK A_V93 N 51 500025 Tryz.f84 [1,1,1,1,1,1] wb4))
noncomputable def w01 (N:Nat) (st':St):Z3:=rn A_V93 N Tryz.f84 [1,1,1,1,1,1] st' wb4
theorem xfj (N):yo N N (wlf N)=xg N:=by
 rw[show yo N N (wlf N)=yo N N (wax (w01 N) fun j=>(wlf N) (.exit j)) from(by funext _ _ _ _;exact jll),w4r,show wlh (w01 N)=w6 by kernel_rfl];rfl
noncomputable def xc2 (N:Nat) (st':St):Z3:=rn A_V93 N Tryz.f84 [1,1,1] st' wb4
theorem xki (N):wbu N N (wpa N)=ww3 N:=by
 rw[show wbu N N (wpa N)=wbu N N (wfo (xc2 N) fun j=>(wpa N) (.exit j)) from(by funext _ _ _;exact jll),xc0,show wpc (xc2 N)=zh (yo N N (wlf N)) by kernel_rfl,xfj N];rfl
theorem run_V93 (N x):runF A_V93 N Tryz.f84 S_V93 x=V93 N x.1:=(show _=(w4t (wbu N N (wpa N)) x.1) by kernel_rfl).trans (by rw[xki N];rfl)
theorem ok_V93:OK 84 S_V93:=gdR (A:=A_V93) tc Tryz.func84 (jeq ⟨ok_V89,ok_V91,ok_V90,⟨w9,ww⟩,ok_V92,trivial⟩) (run_V93 big)
def xhi (a_0:Y7):Z3 :=
  (V82 big a_0).bind fun rq1 =>
  cond (!rq1.1)
  (some (([],false,()),(())))
  ((V93 big a_0).bind fun rq2 =>
  some ((rq2.1.1,(((),rq2.1.2).2).1,()),(())))
def V94 (a_0:Y7):Z3:=xhi a_0
def S_V94:Sig:=⟨(.pair Q5 .unit),[0],[],.unit,(.tup (.pair Q13 Q12)),(.p O11 .i),fun x=>V94 x.1⟩
def A_V94:Cfg:=mkCfg tab [(37,S_V82),(84,S_V93)] []
theorem run_V94 (N x):runF A_V94 N Tryz.f39 S_V94 x=V94 x.1:=by kernel_rfl
theorem ok_V94:OK 39 S_V94:=gdR (A:=A_V94) tc Tryz.func39 (jeq ⟨ok_V82,ok_V93,trivial⟩) (run_V94 big)
def xhj (a_0:Y7):Z3 :=
  (V94 a_0).bind fun rq1 =>
  cond (!((((),rq1.1.2).2).1))
  (some (([],false,()),(())))
  (some ((rq1.1.1,true,()),(())))
def V95 (a_0:Y7):Z3:=xhj a_0
def S_V95:Sig:=⟨(.pair Q5 .unit),[0],[],.unit,(.tup (.pair Q13 Q12)),(.p O11 .i),fun x=>V95 x.1⟩
def A_V95:Cfg:=mkCfg tab [(39,S_V94)] []
theorem run_V95 (N x):runF A_V95 N Tryz.f12 S_V95 x=V95 x.1:=by kernel_rfl
theorem ok_V95:OK 12 S_V95:=gdR (A:=A_V95) tc Tryz.func12 (jeq ⟨ok_V94,trivial⟩) (run_V95 big)
def wju (rec:T33) (k:Z13→Y4→Z9) (a0:Z13) (a1:Int) (a5:Y4) (a6:Int):Z9 :=
  cond (decide (a6<a1))
  ((V2 a0 (IntKind.i64.wrap (a6+1))).bind fun rq1 =>
  cond (decide (rq1.1<a6))
  ((atI a5 rq1.1).bind fun _ =>
  (a5[rq1.1.toNat]?).bind fun xq2 =>
  (appI a5 [xq2]).bind fun xq3 =>
  rec rq1.2.1 a1 xq3 (IntKind.i64.wrap (a6+1)))
  ((appI a5 [rq1.1]).bind fun xq4 =>
  rec rq1.2.1 a1 xq4 (IntKind.i64.wrap (a6+1))))
  (k a0 a5)
def wjt (a0:Z13) (a5:Y4):Z9 :=
  some (a5,(a0,()))
def w4u (L3:T33) (c_0:Z13) (n_1:Int):Z9 :=
  L3 c_0 n_1 [] 0
def ww7 (N:Nat) (k:Z13→Y4→Z9):=itN (fun r=>wju r k) fun _ _ _ _=>none
def ww6 (N:Nat):=ww7 N (wjt) N
def V96 (N:Nat) (c_0:Z13) (n_1:Int):Z9:=w4u (ww6 N) c_0 n_1
def S_V96:Sig:=⟨(.pair Q1 Q17),[1,0],[O4],Q20,Q6,O4,fun x=>V96 big x.1 x.2.1⟩
def A_V96:Cfg:=mkCfg tab [(41,S_V2)] [(6,([B8,B0]++dr 3 [B1,B0])),(19,([B8]++dr 4 [B1]))]
noncomputable def wjs (N n:Nat) (K:Ex→St→Z9) (a0:Z13) (a1:Int) (a5:Y4) (a6:Int):Z9:=itr A_V96 N 6 Tryz.f42 [1,1,0,1,0,0] n (([.val Q1 O4 a0,W0 a1]++ud 3 [W1 a5,W0 a6])++us 23) K
noncomputable def w4v:Ex→St→Z9:=finish A_V96 S_V96 Tryz.f42.results.toList
noncomputable def xc5 (kX:St→Z9) (a0:Z13) (a5:Y4):Z9:=kX (([.val Q1 O4 a0]++ud 4 [W1 a5])++us 24)
noncomputable def xc4 (kX:St→Z9) (kO:Nat→St→Z9):=exK w4v 0 (A_V96.shape 19) kX kO
theorem xc6 (N kX kO):∀n,wjs N n (xc4 kX kO)=ww7 N (xc5 kX) n :=
 itE rfl fun m=>by kernel_rfl
noncomputable def wpd (N:Nat):=(blockK 0 (sqK A_V96 N 19 500009 Tryz.f42 [1,1,1] w4v))
noncomputable def xc7 (N:Nat) (st':St):Z9:=rn A_V96 N Tryz.f42 [1,1,1] st' w4v
theorem xkk (N):wjs N N (wpd N)=ww6 N:=by
 rw[show wjs N N (wpd N)=wjs N N (xc4 (xc7 N) fun j=>(wpd N) (.exit j)) from(by funext _ _ _ _;exact jll),xc6,show xc5 (xc7 N)=wjt by kernel_rfl];rfl
theorem run_V96 (N x):runF A_V96 N Tryz.f42 S_V96 x=V96 N x.1 x.2.1:=(show _=(w4u (wjs N N (wpd N)) x.1 x.2.1) by kernel_rfl).trans (by rw[xkk N];rfl)
theorem ok_V96:OK 42 S_V96:=gdR (A:=A_V96) tc Tryz.func42 (jeq ⟨ok_V2,trivial⟩) (run_V96 big)
def xhk (code_0:Y4):Option ((Y2×(Y4×Unit))×Unit) :=
  (V22 big (code_0,(0,(0,())))).bind fun rq1 =>
  (V68 rq1.1).bind fun rq2 =>
  cond rq2.1
  ((V3 rq1.2.1 3).bind fun rq3 =>
  cond (!rq3.1)
  ((V2 rq3.2.1 (rq1.1.1.length:Int)).bind fun rq4 =>
  (V72 big rq1.1 rq4.1).bind fun rq5 =>
  some ((rq1.1,rq5.1,()),(())))
  ((V96 big rq3.2.1 (rq1.1.1.length:Int)).bind fun rq6 =>
  some ((rq1.1,rq6.1,()),(()))))
  ((V96 big rq1.2.1 (rq1.1.1.length:Int)).bind fun rq7 =>
  some ((rq1.1,rq7.1,()),(())))
def V97 (code_0:Y4):Option ((Y2×(Y4×Unit))×Unit):=xhk code_0
def S_V97:Sig:=⟨Q19,[0],[],.unit,(.tup (.pair Q0 Q10)),.i,fun x=>V97 x.1⟩
def A_V97:Cfg:=mkCfg tab [(26,S_V22),(31,S_V68),(40,S_V3),(41,S_V2),(33,S_V72),(42,S_V96)] []
theorem run_V97 (N x):runF A_V97 N Tryz.f13 S_V97 x=V97 x.1:=by kernel_rfl
theorem ok_V97:OK 13 S_V97:=gdR (A:=A_V97) tc Tryz.func13 (jeq ⟨ok_V22,ok_V68,ok_V3,ok_V2,ok_V72,ok_V96,trivial⟩) (run_V97 big)
def wjw (rec:T17) (k:Z0) (a0 a1:Y4) (a5:Int):Z0 :=
  cond (decide (a5<(a0.length:Int)))
  ((atI a0 a5).bind fun xq1 =>
  (atI a1 a5).bind fun xq2 =>
  cond (decide (xq1≠xq2))
  (some (false,(())))
  (rec a0 a1 (IntKind.i64.wrap (a5+1))))
  (k)
def wfu:Z0 :=
  some (true,(()))
def w4w (L4:T17) (a_0 b_1:Y4):Z0 :=
  cond (decide ((a_0.length:Int)≠(b_1.length:Int)))
  (some (false,(())))
  (L4 a_0 b_1 0)
def ww9 (N:Nat) (k:Z0):=itN (fun r=>wjw r k) fun _ _ _=>none
def ww8 (N:Nat):=ww9 N (wfu) N
def V98 (N:Nat) (a_0 b_1:Y4):Z0:=w4w (ww8 N) a_0 b_1
def S_V98:Sig:=⟨(.pair Q6 Q10),[0,0],[],.unit,.bool,.i,fun x=>V98 big x.1 x.2.1⟩
def A_V98:Cfg:=mkCfg tab [] [(8,([B4,B4]++dr 3 [B0])),(17,[])]
noncomputable def wjv (N n:Nat) (K:T12) (a0 a1:Y4) (a5:Int):Z0:=itr A_V98 N 8 Tryz.f43 [1,1,0,1,0,0] n (([W4 a0,W4 a1]++ud 3 [W0 a5])++us 20) K
noncomputable def w4x:Ex→St→Z0:=finish A_V98 S_V98 Tryz.f43.results.toList
noncomputable def xc9 (kX:T3):Z0:=kX ([]++us 26)
noncomputable def xc8 (kX:T3) (kO:T2):=exK w4x 0 (A_V98.shape 17) kX kO
theorem xda (N kX kO):∀n,wjv N n (xc8 kX kO)=ww9 N (xc9 kX) n :=
 itE rfl fun m=>by kernel_rfl
noncomputable def wpe (N:Nat):=(blockK 0 (sqK A_V98 N 17 500008 Tryz.f43 [1,1,1] w4x))
noncomputable def xdb (N:Nat) (st':St):Z0:=rn A_V98 N Tryz.f43 [1,1,1] st' w4x
theorem xkl (N):wjv N N (wpe N)=ww8 N:=by
 rw[show wjv N N (wpe N)=wjv N N (xc8 (xdb N) fun j=>(wpe N) (.exit j)) from(by funext _ _ _;exact jll),xda,show xc9 (xdb N)=wfu by kernel_rfl];rfl
theorem run_V98 (N x):runF A_V98 N Tryz.f43 S_V98 x=V98 N x.1 x.2.1:=(show _=(w4w (wjv N N (wpe N)) x.1 x.2.1) by kernel_rfl).trans (by rw[xkl N];rfl)
theorem ok_V98:OK 43 S_V98:=gdR (A:=A_V98) tc Tryz.func43 (jeq trivial) (run_V98 big)
def wbv (rec:T122) (k:Z12) (a1:Y4) (a2:Y2) (a6:Int):Z12 :=
  cond (decide (a6<(a2.1.length:Int)))
  ((V72 big a2 a6).bind fun rq2 =>
  (V98 big rq2.1 a1).bind fun rq3 =>
  cond rq3.1
  (some ((a6,true,()),(())))
  (rec a1 a2 (IntKind.i64.wrap (a6+1))))
  (k)
def wfv:Z12 :=
  some ((0,false,()),(()))
def w4y (L4:T122) (p_0:Y2) (partition_1:Y4):Z12 :=
  (V68 p_0).bind fun rq1 =>
  cond (!rq1.1)
  (some ((0,false,()),(())))
  (L4 partition_1 p_0 0)
def wxb (N:Nat) (k:Z12):=itN (fun r=>wbv r k) fun _ _ _=>none
def wxa (N:Nat):=wxb N (wfv) N
def V99 (N:Nat) (p_0:Y2) (partition_1:Y4):Z12:=w4y (wxa N) p_0 partition_1
def S_V99:Sig:=⟨(.pair Q0 Q10),[0,0],[],.unit,(.tup (.pair I Q12)),.i,fun x=>V99 big x.1 x.2.1⟩
def A_V99:Cfg:=mkCfg tab [(31,S_V68),(33,S_V72),(43,S_V98)] [(8,([D0,B4,B3]++dr 3 [B0])),(17,[])]
noncomputable def wjx (N n:Nat) (K:Ex→St→Z12) (a1:Y4) (a2:Y2) (a6:Int):Z12:=itr A_V99 N 8 Tryz.f14 [1,1,0,1,0,0] n (([.u,W4 a1,W3 a2]++ud 3 [W0 a6])++us 16) K
noncomputable def w4z:Ex→St→Z12:=finish A_V99 S_V99 Tryz.f14.results.toList
noncomputable def xdd (kX:St→Z12):Z12:=kX ([]++us 23)
noncomputable def xdc (kX:St→Z12) (kO:Nat→St→Z12):=exK w4z 0 (A_V99.shape 17) kX kO
theorem xdf (N kX kO):∀n,wjx N n (xdc kX kO)=wxb N (xdd kX) n :=
 itE rfl fun m=>by kernel_rfl
noncomputable def wpf (N:Nat):=(blockK 0 (sqK A_V99 N 17 500008 Tryz.f14 [1,1,1] w4z))
noncomputable def xdg (N:Nat) (st':St):Z12:=rn A_V99 N Tryz.f14 [1,1,1] st' w4z
theorem xkm (N):wjx N N (wpf N)=wxa N:=by
 rw[show wjx N N (wpf N)=wjx N N (xdc (xdg N) fun j=>(wpf N) (.exit j)) from(by funext _ _ _;exact jll),xdf,show xdd (xdg N)=wfv by kernel_rfl];rfl
theorem run_V99 (N x):runF A_V99 N Tryz.f14 S_V99 x=V99 N x.1 x.2.1:=(show _=(w4y (wjx N N (wpf N)) x.1 x.2.1) by kernel_rfl).trans (by rw[xkm N];rfl)
theorem ok_V99:OK 14 S_V99:=gdR (A:=A_V99) tc Tryz.func14 (jeq ⟨ok_V68,ok_V72,ok_V98,trivial⟩) (run_V99 big)
def wqa (rec:T126) (k:Z13→Y4→Z9) (a0:Z13) (a3:Y2) (a5:Y4) (a6:Int):Z9 :=
  cond (decide (0<a6))
  ((V23 a0 a3).bind fun rq5 =>
  (appI a5 [rq5.1]).bind fun xq6 =>
  rec rq5.2.1 a3 xq6 (IntKind.i64.wrap (a6-1)))
  (k a0 a5)
def wke (a0:Z13) (a5:Y4):Z9 :=
  some (a5,(a0,()))
def wsy (L3:T126) (c_0:Z13) (p_1:Y2):Z9 :=
  (V2 c_0 24).bind fun rq1 =>
  (quoI IntKind.i64 rq1.1 11).bind fun xq2 =>
  (slI [0,1,2,2,3,3,20,21] 0 (IntKind.i64.wrap (6+xq2))).bind fun xq3 =>
  (V4 rq1.2.1 xq3).bind fun rq4 =>
  L3 rq4.2.1 p_1 [] rq4.1
def wqb (N:Nat) (k:Z13→Y4→Z9):=itN (fun r=>wqa r k) fun _ _ _ _=>none
def wp9 (N:Nat):=wqb N (wke) N
def V100 (N:Nat) (c_0:Z13) (p_1:Y2):Z9:=wsy (wp9 N) c_0 p_1
def S_V100:Sig:=⟨(.pair Q1 Q15),[1,0],[O4],Q20,Q6,O4,fun x=>V100 big x.1 x.2.1⟩
def A_V100:Cfg:=mkCfg tab [(41,S_V2),(48,S_V4),(27,S_V23)] [(6,[B8,D0,D0,B3,D0,B1,B0]),(13,([B8]++dr 4 [B1]))]
noncomputable def wb9 (N n:Nat) (K:Ex→St→Z9) (a0:Z13) (a3:Y2) (a5:Y4) (a6:Int):Z9:=itr A_V100 N 6 Tryz.f53 [1,1,0,1,0,0] n ([.val Q1 O4 a0,.u,.u,W3 a3,.u,W1 a5,W0 a6]++us 20) K
noncomputable def wsz:Ex→St→Z9:=finish A_V100 S_V100 Tryz.f53.results.toList
noncomputable def wyr (kX:St→Z9) (a0:Z13) (a5:Y4):Z9:=kX (([.val Q1 O4 a0]++ud 4 [W1 a5])++us 21)
noncomputable def wyq (kX:St→Z9) (kO:Nat→St→Z9):=exK wsz 0 (A_V100.shape 13) kX kO
theorem w1n (N kX kO):∀n,wb9 N n (wyq kX kO)=wqb N (wyr kX) n :=
 itE rfl fun m=>by kernel_rfl
noncomputable def wkd (N:Nat):=(blockK 0 (sqK A_V100 N 13 500006 Tryz.f53 [1,1,1] wsz))
noncomputable def wys (N:Nat) (st':St):Z9:=rn A_V100 N Tryz.f53 [1,1,1] st' wsz
theorem xen (N):wb9 N N (wkd N)=wp9 N:=by
 rw[show wb9 N N (wkd N)=wb9 N N (wyq (wys N) fun j=>(wkd N) (.exit j)) from(by funext _ _ _ _;exact jll),w1n,show wyr (wys N)=wke by kernel_rfl];rfl
theorem run_V100 (N x):runF A_V100 N Tryz.f53 S_V100 x=V100 N x.1 x.2.1:=(show _=(wsy (wb9 N N (wkd N)) x.1 x.2.1) by kernel_rfl).trans (by rw[xen N];rfl)
theorem ok_V100:OK 53 S_V100:=gdR (A:=A_V100) tc Tryz.func53 (jeq ⟨ok_V2,ok_V4,ok_V23,trivial⟩) (run_V100 big)
def ws0 (p_0:Y2) (some_1:Y4):Z0 :=
  (V59 big p_0).bind fun rq1 =>
  cond rq1.1
  (cond (decide ((some_1.length:Int)≤20))
  ((V7 big (p_0.1.length:Int) some_1).bind fun rq2 =>
  some (rq2.1,(())))
  (some (false,(()))))
  (some (false,(())))
def V101 (p_0:Y2) (some_1:Y4):Z0:=ws0 p_0 some_1
def S_V101:Sig:=⟨(.pair Q0 Q10),[0,0],[],.unit,.bool,.i,fun x=>V101 x.1 x.2.1⟩
def A_V101:Cfg:=mkCfg tab [(46,S_V59),(99,S_V7)] []
theorem run_V101 (N x):runF A_V101 N Tryz.f54 S_V101 x=V101 x.1 x.2.1:=by kernel_rfl
theorem ok_V101:OK 54 S_V101:=gdR (A:=A_V101) tc Tryz.func54 (jeq ⟨ok_V59,ok_V7,trivial⟩) (run_V101 big)
def wcb (rec k:T102) (a0:Y4) (a1 a5:Int):Z18 :=
  cond (decide (a5<(a0.length:Int)))
  ((atI a0 a5).bind fun _ =>
  (a0[a5.toNat]?).bind fun xq1 =>
  cond (decide (xq1<a1))
  (rec a0 a1 (IntKind.i64.wrap (a5+1)))
  (k a0 a1 a5))
  (k a0 a1 a5)
def yd (a0:Y4) (a1 a5:Int):Z18 :=
  cond (decide (a5<(a0.length:Int)))
  ((atI a0 a5).bind fun _ =>
  (a0[a5.toNat]?).bind fun xq2 =>
  cond (decide (xq2=a1))
  (some (a0,((),())))
  ((slI a0 0 a5).bind fun xq3 =>
  (appI [] xq3).bind fun xq4 =>
  (appI xq4 [a1]).bind fun xq5 =>
  (slI a0 a5 a0.length).bind fun xq6 =>
  (appI xq5 xq6).bind fun xq7 =>
  some (xq7,((),()))))
  ((slI a0 0 a5).bind fun xq8 =>
  (appI [] xq8).bind fun xq9 =>
  (appI xq9 [a1]).bind fun xq10 =>
  (slI a0 a5 a0.length).bind fun xq11 =>
  (appI xq10 xq11).bind fun xq12 =>
  some (xq12,((),())))
def ws1 (L2:T102) (l_0:Y4) (n_1:Int):Z18 :=
  L2 l_0 n_1 0
def wqd (N:Nat) (k:T102):=itN (fun r=>wcb r k) fun _ _ _=>none
def wqc (N:Nat):=wqd N (yd) N
def V102 (N:Nat) (l_0:Y4) (n_1:Int):Z18:=ws1 (wqc N) l_0 n_1
def S_V102:Sig:=⟨(.pair Q6 Q17),[1,0],[O4],(.pair (.any 1) .unit),Q6,O4,fun x=>V102 big x.1 x.2.1⟩
def A_V102:Cfg:=mkCfg tab [] [(4,([B1,B0]++dr 3 [B0])),(9,([B1,B0]++dr 3 [B0])),(13,([B4,B0]++dr 3 [B0]))]
noncomputable def wca (N n:Nat) (K:Ex→St→Z18) (a0:Y4) (a1 a5:Int):Z18:=itr A_V102 N 4 Tryz.f125 [1,1,0,0,0] n (([W1 a0,W0 a1]++ud 3 [W0 a5])++us 39) K
noncomputable def ws2:Ex→St→Z18:=finish A_V102 S_V102 Tryz.f125.results.toList
noncomputable def wyu (kX:St→Z18) (a0:Y4) (a1 a5:Int):Z18:=kX (([W1 a0,W0 a1]++ud 3 [W0 a5])++us 39)
noncomputable def wyt (kX:St→Z18) (kO:Nat→St→Z18):=exK ws2 0 (A_V102.shape 9) kX kO
theorem w1o (N kX kO):∀n,wca N n (wyt kX kO)=wqd N (wyu kX) n :=
 itE rfl fun m=>by kernel_rfl
noncomputable def wkf (N:Nat):=(blockK 0 (sqK A_V102 N 9 500004 Tryz.f125 [1,1,1] ws2))
noncomputable def wyv (N:Nat) (st':St):Z18:=rn A_V102 N Tryz.f125 [1,1,1] st' ws2
theorem xeo (N):wca N N (wkf N)=wqc N:=by
 rw[show wca N N (wkf N)=wca N N (wyt (wyv N) fun j=>(wkf N) (.exit j)) from(by funext _ _ _;exact jll),w1o,show wyu (wyv N)=yd by kernel_rfl];rfl
theorem run_V102 (N x):runF A_V102 N Tryz.f125 S_V102 x=V102 N x.1 x.2.1:=(show _=(ws1 (wca N N (wkf N)) x.1 x.2.1) by kernel_rfl).trans (by rw[xeo N];rfl)
theorem ok_V102:OK 125 S_V102:=gdR (A:=A_V102) tc Tryz.func125 (jeq trivial) (run_V102 big)
def w5n (l_0:Y4):Z2 :=
  (appI [] l_0).bind fun xq1 =>
  some (xq1,(()))
def V103 (l_0:Y4):Z2:=w5n l_0
def S_V103:Sig:=⟨Q10,[0],[],.unit,Q6,O4,fun x=>V103 x.1⟩
def A_V103:Cfg:=mkCfg tab [] []
theorem run_V103 (N x):runF A_V103 N Tryz.f127 S_V103 x=V103 x.1:=by kernel_rfl
theorem ok_V103:OK 127 S_V103:=gdR (A:=A_V103) tc Tryz.func127 (jeq trivial) (run_V103 big)
def wa3 (rec:T56) (k:T19) (a2:Y2) (a5:Y4) (a7:Y2) (a8:Int) (a9:Y4) (a10 a11:Int):Z2 :=
  cond (decide (a11<a10))
  ((atI a9 a10).bind fun _ =>
  (a9[a10.toNat]?).bind fun xq5 =>
  (atI a9 a11).bind fun _ =>
  (a9[a11.toNat]?).bind fun xq6 =>
  (V58 big a2 [xq5,xq6]).bind fun rq7 =>
  (V102 big a5 rq7.1).bind fun rq8 =>
  (atI a9 a10).bind fun _ =>
  (a9[a10.toNat]?).bind fun xq9 =>
  (atI a9 a11).bind fun _ =>
  (a9[a11.toNat]?).bind fun xq10 =>
  (V58 big a7 [xq9,xq10]).bind fun rq11 =>
  (V102 big rq8.1 rq11.1).bind fun rq12 =>
  rec a2 rq12.1 a7 a8 a9 a10 (IntKind.i64.wrap (a11+1)))
  (k a2 a5 a7 a8 a9 a10)
def yg (rec:T19) (a2:Y2) (a5:Y4) (a7:Y2) (a8:Int) (a9:Y4) (a10:Int):Z2 :=
  rec a2 a5 a7 a8 a9 (IntKind.i64.wrap (a10+1))
def yh (L15:T56) (k:T27) (a2:Y2) (a5:Y4) (a7:Y2) (a8:Int) (a9:Y4) (a10:Int):Z2 :=
  cond (decide (a10<(a9.length:Int)))
  (L15 a2 a5 a7 a8 a9 a10 0)
  (k a2 a5 a7 a8)
def xb (rec:T27) (a2:Y2) (a5:Y4) (a7:Y2) (a8:Int):Z2 :=
  rec a2 a5 a7 (IntKind.i64.wrap (a8+1))
def z7 (L12:T19) (k:T21) (a2:Y2) (a5:Y4) (a7:Y2) (a8:Int):Z2 :=
  cond (decide (a8<(a2.1.length:Int)))
  ((V103 a5).bind fun rq4 =>
  L12 a2 a5 a7 a8 rq4.1 0)
  (k a5)
def xn (a5:Y4):Z2 :=
  some (a5,(()))
def wcd (rec:T112) (k:Y2→Y4→Z2) (a1:Y4) (a2:Y2) (a5:Y4) (a6:Int):Z2 :=
  cond (decide (a6<(a1.length:Int)))
  ((atI a1 a6).bind fun xq1 =>
  (V102 big a5 xq1).bind fun rq2 =>
  rec a1 a2 rq2.1 (IntKind.i64.wrap (a6+1)))
  (k a2 a5)
def z6 (L8:T27) (a2:Y2) (a5:Y4):Z2 :=
  (V57 big a2).bind fun rq3 =>
  L8 a2 a5 rq3.1 0
def ws7 (L3:T112) (p_0:Y2) (some_1:Y4):Z2 :=
  L3 some_1 p_0 [] 0
def wl2 (N:Nat) (k:T19):=itN (fun r=>wa3 r k) fun _ _ _ _ _ _ _=>none
def wa1 (N:Nat) (rec:T19) (k:T27):=wl2 N (yg rec) N
def wl1 (N:Nat) (k:T27):=itN (fun r=>yh (wa1 N r k) k) fun _ _ _ _ _ _=>none
def wa0 (N:Nat) (rec:T27) (k:T21):=wl1 N (xb rec) N
def wqf (N:Nat) (k:Y2→Y4→Z2):=itN (fun r=>wcd r k) fun _ _ _ _=>none
def wqg (N:Nat) (k:T21):=itN (fun r=>z7 (wa0 N r k) k) fun _ _ _ _=>none
def zz (N:Nat):=wqg N (xn) N
def wqe (N:Nat):=wqf N (z6 (zz N)) N
def V104 (N:Nat) (p_0:Y2) (some_1:Y4):Z2:=ws7 (wqe N) p_0 some_1
def S_V104:Sig:=⟨(.pair Q0 Q10),[0,0],[],.unit,Q6,O4,fun x=>V104 big x.1 x.2.1⟩
def A_V104:Cfg:=mkCfg tab [(125,S_V102),(90,S_V57),(127,S_V103),(55,S_V58)] [(6,[D0,B4,B3,D0,D0,B1,B0]),(13,[D0,D0,B3,D0,D0,B1]),(16,[D0,D0,B3,D0,D0,B1,D0,B2,B0]),(24,[D0,D0,B3,D0,D0,B1,D0,B2,B0,B1,B0]),(37,(dr 5 [B1])),(30,[D0,D0,B3,D0,D0,B1,D0,B2,B0,B1,B0,B0]),(19,[D0,D0,B3,D0,D0,B1,D0,B2,B0]),(27,[D0,D0,B3,D0,D0,B1,D0,B2,B0,B1,B0])]
noncomputable def wcc (N n:Nat) (K:T18) (a1:Y4) (a2:Y2) (a5:Y4) (a6:Int):Z2:=itr A_V104 N 6 Tryz.f88 [1,1,0,1,0,0] n ([.u,W4 a1,W3 a2,.u,.u,W1 a5,W0 a6]++us 66) K
noncomputable def yf (N n:Nat) (K:T18) (a2:Y2) (a5:Y4) (a7:Y2) (a8:Int):Z2:=itr A_V104 N 16 Tryz.f88 [1,1,1,1,0,1,0,0] n ([.u,.u,W3 a2,.u,.u,W1 a5,.u,W2 a7,W0 a8]++us 64) K
noncomputable def xm (N n:Nat) (K:T18) (a2:Y2) (a5:Y4) (a7:Y2) (a8:Int) (a9:Y4) (a10:Int):Z2:=itr A_V104 N 24 Tryz.f88 [1,1,1,1,0,1,0,0,1,0,0,1,1,0,0] n ([.u,.u,W3 a2,.u,.u,W1 a5,.u,W2 a7,W0 a8,W1 a9,W0 a10]++us 62) K
noncomputable def wa2 (N n:Nat) (K:T18) (a2:Y2) (a5:Y4) (a7:Y2) (a8:Int) (a9:Y4) (a10 a11:Int):Z2:=itr A_V104 N 30 Tryz.f88 [1,1,1,1,0,1,0,0,1,0,0,1,1,0,0,1,0,0,1,0,0] n ([.u,.u,W3 a2,.u,.u,W1 a5,.u,W2 a7,W0 a8,W1 a9,W0 a10,W0 a11]++us 61) K
noncomputable def yt:Ex→St→Z2:=finish A_V104 S_V104 Tryz.f88.results.toList
noncomputable def wyx (kX:T7) (a2:Y2) (a5:Y4):Z2:=kX ([.u,.u,W3 a2,.u,.u,W1 a5]++us 67)
noncomputable def wyw (kX:T7) (kO:T5):=exK yt 0 (A_V104.shape 13) kX kO
noncomputable def wki (kX:T7) (a5:Y4):Z2:=kX ((ud 5 [W1 a5])++us 67)
noncomputable def zy (kX:T7) (kO:T5):=exK yt 2 (A_V104.shape 37) kX kO
noncomputable def wgc (kX:T7) (a2:Y2) (a5:Y4) (a7:Y2) (a8:Int):Z2:=kX ([.u,.u,W3 a2,.u,.u,W1 a5,.u,W2 a7,W0 a8]++us 64)
noncomputable def ye (kX:T7) (kO:T5):=exK yt 4 (A_V104.shape 19) kX kO
noncomputable def ws4 (kX:T7) (a2:Y2) (a5:Y4) (a7:Y2) (a8:Int) (a9:Y4) (a10:Int):Z2:=kX ([.u,.u,W3 a2,.u,.u,W1 a5,.u,W2 a7,W0 a8,W1 a9,W0 a10]++us 62)
noncomputable def ws3 (kX:T7) (kO:T5):=exK yt 6 (A_V104.shape 27) kX kO
theorem w1p (N kX kO):∀n,wcc N n (wyw kX kO)=wqf N (wyx kX) n :=
 itE rfl fun m=>by kernel_rfl
noncomputable def wkg (N:Nat):=(blockK 0 (sqK A_V104 N 13 500006 Tryz.f88 [1,1,1] yt))
theorem wx8 (N kX kO):∀n,wa2 N n (ws3 kX kO)=wl2 N (ws4 kX) n :=
 itE rfl fun m=>by kernel_rfl
noncomputable def wgb (N m:Nat) (kX:T7) (kO:T5):=(blockK 6 (blockK 5 (sqK A_V104 N 27 500013 Tryz.f88 [1,1,1,1,0,1,0,0,1,0,0,1,1,0,0,1,1] (itK A_V104 N 24 Tryz.f88 [1,1,1,1,0,1,0,0,1,0,0,1,1,0,0] m (ye kX kO)))))
noncomputable def ws6 (N m:Nat) (kX:T7) (kO:T5) (st':St):Z2:=rn A_V104 N Tryz.f88 [1,1,1,1,0,1,0,0,1,0,0,1,1,0,0,1,1] st' (itK A_V104 N 24 Tryz.f88 [1,1,1,1,0,1,0,0,1,0,0,1,1,0,0] m (ye kX kO))
theorem w5p (N m kX kO) {r}(h:xm N m (ye kX kO)=r):wa2 N N (wgb N m kX kO)=wa1 N r (wgc kX):=by
 rw[show wa2 N N (wgb N m kX kO)=wa2 N N (ws3 (ws6 N m kX kO) fun j=>(wgb N m kX kO) (.exit j)) from(by funext _ _ _ _ _ _ _;exact jll),wx8,show ws4 (ws6 N m kX kO)=yg (xm N m (ye kX kO)) by kernel_rfl,h];rfl
theorem wx7 (N kX kO):∀n,xm N n (ye kX kO)=wl1 N (wgc kX) n :=
 itE rfl fun m=>(show _=yh (wa2 N N (wgb N m kX kO)) (wgc kX) by kernel_rfl).trans (by rw[w5p N m kX kO rfl]<;>rfl)
noncomputable def wga (N m:Nat) (kX:T7) (kO:T5):=(blockK 4 (blockK 3 (sqK A_V104 N 19 500009 Tryz.f88 [1,1,1,1,0,1,0,0,1,1] (itK A_V104 N 16 Tryz.f88 [1,1,1,1,0,1,0,0] m (zy kX kO)))))
noncomputable def ws5 (N m:Nat) (kX:T7) (kO:T5) (st':St):Z2:=rn A_V104 N Tryz.f88 [1,1,1,1,0,1,0,0,1,1] st' (itK A_V104 N 16 Tryz.f88 [1,1,1,1,0,1,0,0] m (zy kX kO))
theorem w5o (N m kX kO) {r}(h:yf N m (zy kX kO)=r):xm N N (wga N m kX kO)=wa0 N r (wki kX):=by
 rw[show xm N N (wga N m kX kO)=xm N N (ye (ws5 N m kX kO) fun j=>(wga N m kX kO) (.exit j)) from(by funext _ _ _ _ _ _;exact jll),wx7,show wgc (ws5 N m kX kO)=xb (yf N m (zy kX kO)) by kernel_rfl,h];rfl
theorem w1q (N kX kO):∀n,yf N n (zy kX kO)=wqg N (wki kX) n :=
 itE rfl fun m=>(show _=z7 (xm N N (wga N m kX kO)) (wki kX) by kernel_rfl).trans (by rw[w5o N m kX kO rfl]<;>rfl)
noncomputable def wkh (N:Nat):=(blockK 2 (sqK A_V104 N 37 500018 Tryz.f88 [1,1,1,1,1] yt))
noncomputable def wyz (N:Nat) (st':St):Z2:=rn A_V104 N Tryz.f88 [1,1,1,1,1] st' yt
theorem xeq (N):yf N N (wkh N)=zz N:=by
 rw[show yf N N (wkh N)=yf N N (zy (wyz N) fun j=>(wkh N) (.exit j)) from(by funext _ _ _ _;exact jll),w1q,show wki (wyz N)=xn by kernel_rfl];rfl
noncomputable def wyy (N:Nat) (st':St):Z2:=rn A_V104 N Tryz.f88 [1,1,1] st' yt
theorem xep (N):wcc N N (wkg N)=wqe N:=by
 rw[show wcc N N (wkg N)=wcc N N (wyw (wyy N) fun j=>(wkg N) (.exit j)) from(by funext _ _ _ _;exact jll),w1p,show wyx (wyy N)=z6 (yf N N (wkh N)) by kernel_rfl,xeq N];rfl
theorem run_V104 (N x):runF A_V104 N Tryz.f88 S_V104 x=V104 N x.1 x.2.1:=(show _=(ws7 (wcc N N (wkg N)) x.1 x.2.1) by kernel_rfl).trans (by rw[xep N];rfl)
theorem ok_V104:OK 88 S_V104:=gdR (A:=A_V104) tc Tryz.func88 (jeq ⟨ok_V102,ok_V57,ok_V103,ok_V58,trivial⟩) (run_V104 big)
def w5q (c_0:Z13) (p_1:Y2):Z9 :=
  (V100 big c_0 p_1).bind fun rq1 =>
  (V101 p_1 rq1.1).bind fun rq2 =>
  cond rq2.1
  (cond (decide (0<(rq1.1.length:Int)))
  ((V3 rq1.2.1 8).bind fun rq3 =>
  cond (!rq3.1)
  ((V104 big p_1 rq1.1).bind fun rq4 =>
  some (rq4.1,(rq3.2.1,())))
  (some (rq1.1,(rq3.2.1,()))))
  (some (rq1.1,(rq1.2.1,()))))
  (some (rq1.1,(rq1.2.1,())))
def V105 (c_0:Z13) (p_1:Y2):Z9:=w5q c_0 p_1
def S_V105:Sig:=⟨(.pair Q1 Q15),[1,0],[O4],Q20,Q6,O4,fun x=>V105 x.1 x.2.1⟩
def A_V105:Cfg:=mkCfg tab [(53,S_V100),(54,S_V101),(40,S_V3),(88,S_V104)] []
theorem run_V105 (N x):runF A_V105 N Tryz.f45 S_V105 x=V105 x.1 x.2.1:=by kernel_rfl
theorem ok_V105:OK 45 S_V105:=gdR (A:=A_V105) tc Tryz.func45 (jeq ⟨ok_V100,ok_V101,ok_V3,ok_V104,trivial⟩) (run_V105 big)
def wcf (rec:T107) (k:T21) (a1:Int) (a2:Y2) (a5:Y4) (a6:Int):Z2 :=
  cond (decide (a6<(a2.1.length:Int)))
  ((V15 a2 a1 a6).bind fun rq1 =>
  cond rq1.1
  ((appI a5 [a6]).bind fun xq2 =>
  rec a1 a2 xq2 (IntKind.i64.wrap (a6+1)))
  (rec a1 a2 a5 (IntKind.i64.wrap (a6+1))))
  (k a5)
def z8 (a5:Y4):Z2 :=
  some (a5,(()))
def ws8 (L3:T107) (p_0:Y2) (x_1:Int):Z2 :=
  L3 x_1 p_0 [] 0
def wqi (N:Nat) (k:T21):=itN (fun r=>wcf r k) fun _ _ _ _=>none
def wqh (N:Nat):=wqi N (z8) N
def V106 (N:Nat) (p_0:Y2) (x_1:Int):Z2:=ws8 (wqh N) p_0 x_1
def S_V106:Sig:=⟨(.pair Q0 Q17),[0,0],[],.unit,Q6,O4,fun x=>V106 big x.1 x.2.1⟩
def A_V106:Cfg:=mkCfg tab [(76,S_V15)] [(6,[D0,B0,B3,D0,D0,B1,B0]),(15,(dr 5 [B1]))]
noncomputable def wce (N n:Nat) (K:T18) (a1:Int) (a2:Y2) (a5:Y4) (a6:Int):Z2:=itr A_V106 N 6 Tryz.f47 [1,1,0,1,0,0] n ([.u,W0 a1,W3 a2,.u,.u,W1 a5,W0 a6]++us 17) K
noncomputable def ws9:Ex→St→Z2:=finish A_V106 S_V106 Tryz.f47.results.toList
noncomputable def wy1 (kX:T7) (a5:Y4):Z2:=kX ((ud 5 [W1 a5])++us 18)
noncomputable def wy0 (kX:T7) (kO:T5):=exK ws9 0 (A_V106.shape 15) kX kO
theorem w1r (N kX kO):∀n,wce N n (wy0 kX kO)=wqi N (wy1 kX) n :=
 itE rfl fun m=>by kernel_rfl
noncomputable def wkj (N:Nat):=(blockK 0 (sqK A_V106 N 15 500007 Tryz.f47 [1,1,1] ws9))
noncomputable def wy2 (N:Nat) (st':St):Z2:=rn A_V106 N Tryz.f47 [1,1,1] st' ws9
theorem xet (N):wce N N (wkj N)=wqh N:=by
 rw[show wce N N (wkj N)=wce N N (wy0 (wy2 N) fun j=>(wkj N) (.exit j)) from(by funext _ _ _ _;exact jll),w1r,show wy1 (wy2 N)=z8 by kernel_rfl];rfl
theorem run_V106 (N x):runF A_V106 N Tryz.f47 S_V106 x=V106 N x.1 x.2.1:=(show _=(ws8 (wce N N (wkj N)) x.1 x.2.1) by kernel_rfl).trans (by rw[xet N];rfl)
theorem ok_V106:OK 47 S_V106:=gdR (A:=A_V106) tc Tryz.func47 (jeq ⟨ok_V15,trivial⟩) (run_V106 big)
def w5r (code_0:Y4):Option ((Y2×(Y4×Unit))×Unit) :=
  (V19 big (code_0,(0,(0,())))).bind fun rq1 =>
  (V105 rq1.2.1 rq1.1).bind fun rq2 =>
  (V59 big rq1.1).bind fun rq3 =>
  cond rq3.1
  ((V3 rq2.2.1 2).bind fun rq4 =>
  cond rq4.1
  ((V2 rq4.2.1 (rq1.1.1.length:Int)).bind fun rq5 =>
  (V106 big rq1.1 rq5.1).bind fun rq6 =>
  (V3 rq5.2.1 12).bind fun rq7 =>
  cond rq7.1
  ((V4 rq7.2.1 [0,(-1:Int),10]).bind fun rq8 =>
  (appI rq6.1 [rq8.1]).bind fun xq9 =>
  some ((rq1.1,xq9,()),(())))
  (some ((rq1.1,rq6.1,()),(()))))
  ((V3 rq4.2.1 12).bind fun rq10 =>
  cond rq10.1
  ((V4 rq10.2.1 [0,(-1:Int),10]).bind fun rq11 =>
  (appI rq2.1 [rq11.1]).bind fun xq12 =>
  some ((rq1.1,xq12,()),(())))
  (some ((rq1.1,rq2.1,()),(())))))
  ((V3 rq2.2.1 12).bind fun rq13 =>
  cond rq13.1
  ((V4 rq13.2.1 [0,(-1:Int),10]).bind fun rq14 =>
  (appI rq2.1 [rq14.1]).bind fun xq15 =>
  some ((rq1.1,xq15,()),(())))
  (some ((rq1.1,rq2.1,()),(()))))
def V107 (code_0:Y4):Option ((Y2×(Y4×Unit))×Unit):=w5r code_0
def S_V107:Sig:=⟨Q19,[0],[],.unit,(.tup (.pair Q0 Q10)),.i,fun x=>V107 x.1⟩
def A_V107:Cfg:=mkCfg tab [(44,S_V19),(45,S_V105),(46,S_V59),(40,S_V3),(41,S_V2),(47,S_V106),(48,S_V4)] []
theorem run_V107 (N x):runF A_V107 N Tryz.f15 S_V107 x=V107 x.1:=by kernel_rfl
theorem ok_V107:OK 15 S_V107:=gdR (A:=A_V107) tc Tryz.func15 (jeq ⟨ok_V19,ok_V105,ok_V59,ok_V3,ok_V2,ok_V106,ok_V4,trivial⟩) (run_V107 big)
def wch (rec:T86) (k:T120) (a0:Y1) (a5:Int) (a10:Y4) (a11 a12:Int):Z6 :=
  cond (decide (a12<a11))
  ((atI a10 a12).bind fun xq2 =>
  (a0).bind fun xq3 =>
  (atI xq3.2.1 a5).bind fun xq4 =>
  (atI xq4 xq2).bind fun xq5 =>
  rec a0 xq5 a10 a11 (IntKind.i64.wrap (a12+1)))
  (k a5)
def z9 (a5:Int):Z6 :=
  some (a5,(()))
def wta (L3:T86) (l_0:Y1) (list_1:Y4):Z6 :=
  (V39 big l_0).bind fun rq1 =>
  L3 l_0 rq1.1 list_1 (list_1.length:Int) 0
def wqk (N:Nat) (k:T120):=itN (fun r=>wch r k) fun _ _ _ _ _=>none
def wqj (N:Nat):=wqk N (z9) N
def V108 (N:Nat) (l_0:Y1) (list_1:Y4):Z6:=wta (wqj N) l_0 list_1
def S_V108:Sig:=⟨(.pair Q3 Q10),[0,0],[],.unit,I,.i,fun x=>V108 big x.1 x.2.1⟩
def A_V108:Cfg:=mkCfg tab [(96,S_V39)] [(6,([.as Q3 .i]++dr 4 ([B0]++dr 4 [B4,B0,B0]))),(15,(dr 5 [B0]))]
noncomputable def wcg (N n:Nat) (K:T83) (a0:Y1) (a5:Int) (a10:Y4) (a11 a12:Int):Z6:=itr A_V108 N 6 Tryz.f51 [1,1,0,1,0,0] n (([.val Q3 .i a0]++ud 4 ([W0 a5]++ud 4 [W4 a10,W0 a11,W0 a12]))++us 15) K
noncomputable def wtb:Ex→St→Z6:=finish A_V108 S_V108 Tryz.f51.results.toList
noncomputable def wy4 (kX:T55) (a5:Int):Z6:=kX ((ud 5 [W0 a5])++us 22)
noncomputable def wy3 (kX:T55) (kO:T45):=exK wtb 0 (A_V108.shape 15) kX kO
theorem w1s (N kX kO):∀n,wcg N n (wy3 kX kO)=wqk N (wy4 kX) n :=
 itE rfl fun m=>by kernel_rfl
noncomputable def wkk (N:Nat):=(blockK 0 (sqK A_V108 N 15 500007 Tryz.f51 [1,1,1] wtb))
noncomputable def wy5 (N:Nat) (st':St):Z6:=rn A_V108 N Tryz.f51 [1,1,1] st' wtb
theorem xeu (N):wcg N N (wkk N)=wqj N:=by
 rw[show wcg N N (wkk N)=wcg N N (wy3 (wy5 N) fun j=>(wkk N) (.exit j)) from(by funext _ _ _ _ _;exact jll),w1s,show wy4 (wy5 N)=z9 by kernel_rfl];rfl
theorem run_V108 (N x):runF A_V108 N Tryz.f51 S_V108 x=V108 N x.1 x.2.1:=(show _=(wta (wcg N N (wkk N)) x.1 x.2.1) by kernel_rfl).trans (by rw[xeu N];rfl)
theorem ok_V108:OK 51 S_V108:=gdR (A:=A_V108) tc Tryz.func51 (jeq ⟨ok_V39,trivial⟩) (run_V108 big)
def w5s (y_0:Int) (p_1:Y5) (p_2:Int):Z0 :=
  (atI p_1 p_2).bind fun xq1 =>
  (atI xq1 y_0).bind fun xq2 =>
  some (xq2,(()))
def V109 (y_0:Int) (p_1:Y5) (p_2:Int):Z0:=w5s y_0 p_1 p_2
def S_V109:Sig:=⟨(.pair I (.pair (.ptr Q8) Q16)),[0,0,0],[],.unit,.bool,.i,fun x=>V109 x.1 x.2.1 x.2.2.1⟩
def A_V109:Cfg:=mkCfg tab [] []
theorem run_V109 (N x):runF A_V109 N Tryz.f95 S_V109 x=V109 x.1 x.2.1 x.2.2.1:=by kernel_rfl
theorem ok_V109:OK 95 S_V109:=gdR (A:=A_V109) tc Tryz.func95 (jeq trivial) (run_V109 big)
def wcj (rec:(Y5×(Int×Unit))→Y4→Int→Int→Z2) (k:T21) (a1:(Y5×(Int×Unit))) (a5:Y4) (a9 a10:Int):Z2 :=
  cond (decide (a10<a9))
  ((V109 a10 a1.1 a1.2.1).bind fun rq1 =>
  cond rq1.1
  ((appI a5 [a10]).bind fun xq2 =>
  rec a1 xq2 a9 (IntKind.i64.wrap (a10+1)))
  (rec a1 a5 a9 (IntKind.i64.wrap (a10+1))))
  (k a5)
def waa (a5:Y4):Z2 :=
  some (a5,(()))
def wte (L3:(Y5×(Int×Unit))→Y4→Int→Int→Z2) (o_0:Y5) (so_1:(Y5×(Int×Unit))):Z2 :=
  L3 so_1 [] (o_0.length:Int) 0
def wqm (N:Nat) (k:T21):=itN (fun r=>wcj r k) fun _ _ _ _=>none
def wql (N:Nat):=wqm N (waa) N
def V110 (N:Nat) (o_0:Y5) (so_1:(Y5×(Int×Unit))):Z2:=wte (wql N) o_0 so_1
def S_V110:Sig:=⟨(.pair Q8 (.pair (.clo 95 0 (.pair (.ptr Q8) Q16)) .unit)),[0,0],[],.unit,Q6,O4,fun x=>V110 big x.1 x.2.1⟩
def A_V110:Cfg:=mkCfg tab [(95,S_V109)] [(6,([D0,.as (.clo 95 0 (.pair (.ptr Q8) Q16)) .i]++dr 3 ([B1]++dr 3 [B0,B0]))),(17,(dr 5 [B1]))]
noncomputable def wci (N n:Nat) (K:T18) (a1:(Y5×(Int×Unit))) (a5:Y4) (a9 a10:Int):Z2:=itr A_V110 N 6 Tryz.f94 [1,1,0,1,0,0] n (([.u,.val (.clo 95 0 (.pair (.ptr Q8) Q16)) .i a1]++ud 3 ([W1 a5]++ud 3 [W0 a9,W0 a10]))++us 11) K
noncomputable def wtf:Ex→St→Z2:=finish A_V110 S_V110 Tryz.f94.results.toList
noncomputable def wy7 (kX:T7) (a5:Y4):Z2:=kX ((ud 5 [W1 a5])++us 16)
noncomputable def wy6 (kX:T7) (kO:T5):=exK wtf 0 (A_V110.shape 17) kX kO
theorem w1v (N kX kO):∀n,wci N n (wy6 kX kO)=wqm N (wy7 kX) n :=
 itE rfl fun m=>by kernel_rfl
noncomputable def wkl (N:Nat):=(blockK 0 (sqK A_V110 N 17 500008 Tryz.f94 [1,1,1] wtf))
noncomputable def wy8 (N:Nat) (st':St):Z2:=rn A_V110 N Tryz.f94 [1,1,1] st' wtf
theorem xev (N):wci N N (wkl N)=wql N:=by
 rw[show wci N N (wkl N)=wci N N (wy6 (wy8 N) fun j=>(wkl N) (.exit j)) from(by funext _ _ _ _;exact jll),w1v,show wy7 (wy8 N)=waa by kernel_rfl];rfl
theorem run_V110 (N x):runF A_V110 N Tryz.f94 S_V110 x=V110 N x.1 x.2.1:=(show _=(wte (wci N N (wkl N)) x.1 x.2.1) by kernel_rfl).trans (by rw[xev N];rfl)
theorem ok_V110:OK 94 S_V110:=gdR (A:=A_V110) tc Tryz.func94 (jeq ⟨ok_V109,trivial⟩) (run_V110 big)
def w5x (o_0:Y5) (x_1:Int):Z2 :=
  (V110 big o_0 (o_0,x_1,())).bind fun rq1 =>
  some (rq1.1,(()))
def V111 (o_0:Y5) (x_1:Int):Z2:=w5x o_0 x_1
def S_V111:Sig:=⟨(.pair Q8 Q17),[0,0],[],.unit,Q6,O4,fun x=>V111 x.1 x.2.1⟩
def A_V111:Cfg:=mkCfg tab [(94,S_V110)] [(3,[D0,D0,.as (.ptr Q8) .i,.as (.ptr I) .i])]
theorem run_V111 (N x):runF A_V111 N Tryz.f50 S_V111 x=V111 x.1 x.2.1:=by kernel_rfl
theorem ok_V111:OK 50 S_V111:=gdR (A:=A_V111) tc Tryz.func50 (jeq ⟨ok_V110,trivial⟩) (run_V111 big)
def wtg (p_0:Y2) (list_1:Y4):Option ((Bool×(Bool×Unit))×Unit) :=
  (V35 p_0).bind fun rq1 =>
  cond (!rq1.1.2.1)
  (some ((false,false,()),(())))
  (cond (decide (0<(list_1.length:Int)))
  ((rq1.1.1).bind fun xq2 =>
  (V49 xq2.1 list_1).bind fun rq3 =>
  cond rq3.1
  ((rq1.1.1).bind fun xq4 =>
  (V108 big rq1.1.1 list_1).bind fun rq5 =>
  (V111 xq4.1 rq5.1).bind fun rq6 =>
  (V75 big list_1 rq6.1).bind fun rq7 =>
  some ((rq7.1,true,()),(())))
  (some ((false,true,()),(()))))
  (some ((false,true,()),(()))))
def V112 (p_0:Y2) (list_1:Y4):Option ((Bool×(Bool×Unit))×Unit):=wtg p_0 list_1
def S_V112:Sig:=⟨(.pair Q0 Q10),[0,0],[],.unit,(.tup (.pair .bool Q12)),.i,fun x=>V112 x.1 x.2.1⟩
def A_V112:Cfg:=mkCfg tab [(49,S_V35),(29,S_V49),(51,S_V108),(50,S_V111),(34,S_V75)] []
theorem run_V112 (N x):runF A_V112 N Tryz.f16 S_V112 x=V112 x.1 x.2.1:=by kernel_rfl
theorem ok_V112:OK 16 S_V112:=gdR (A:=A_V112) tc Tryz.func16 (jeq ⟨ok_V35,ok_V49,ok_V108,ok_V111,ok_V75,trivial⟩) (run_V112 big)
def wcm (rec:T108) (k:T69) (a1:Y4) (a2:Y2) (a5 a6:Int):Z0 :=
  cond (decide (a6<(a2.1.length:Int)))
  ((atI a1 a5).bind fun xq2 =>
  (V15 a2 xq2 a6).bind fun rq3 =>
  cond rq3.1
  ((V14 big a1 a6).bind fun rq4 =>
  cond (!rq4.1)
  (some (false,(())))
  ((V14 big a1 a6).bind fun rq5 =>
  cond rq5.1
  ((atI a1 a5).bind fun xq6 =>
  (V61 a2 xq6 a6).bind fun rq7 =>
  (V14 big a1 rq7.1).bind fun rq8 =>
  cond (!rq8.1)
  (some (false,(())))
  (rec a1 a2 a5 (IntKind.i64.wrap (a6+1))))
  (rec a1 a2 a5 (IntKind.i64.wrap (a6+1)))))
  ((V14 big a1 a6).bind fun rq9 =>
  cond rq9.1
  ((atI a1 a5).bind fun xq10 =>
  (V61 a2 xq10 a6).bind fun rq11 =>
  (V14 big a1 rq11.1).bind fun rq12 =>
  cond (!rq12.1)
  (some (false,(())))
  (rec a1 a2 a5 (IntKind.i64.wrap (a6+1))))
  (rec a1 a2 a5 (IntKind.i64.wrap (a6+1)))))
  (k a1 a2 a5)
def wac (rec:T69) (a1:Y4) (a2:Y2) (a5:Int):Z0 :=
  rec a1 a2 (IntKind.i64.wrap (a5+1))
def wad (L7:T108) (k:Z0) (a1:Y4) (a2:Y2) (a5:Int):Z0 :=
  cond (decide (a5<(a1.length:Int)))
  (L7 a1 a2 a5 0)
  (k)
def xo:Z0 :=
  some (true,(()))
def wth (L4:T69) (p_0:Y2) (list_1:Y4):Z0 :=
  cond (decide ((list_1.length:Int)=0))
  (some (false,(())))
  ((V54 big list_1 0 (IntKind.i64.wrap ((p_0.1.length:Int)-1))).bind fun rq1 =>
  cond (!rq1.1)
  (some (false,(())))
  (L4 list_1 p_0 0))
def wqp (N:Nat) (k:T69):=itN (fun r=>wcm r k) fun _ _ _ _=>none
def wck (N:Nat) (rec:T69) (k:Z0):=wqp N (wac rec) N
def wqo (N:Nat) (k:Z0):=itN (fun r=>wad (wck N r k) k) fun _ _ _=>none
def wqn (N:Nat):=wqo N (xo) N
def V113 (N:Nat) (p_0:Y2) (list_1:Y4):Z0:=wth (wqn N) p_0 list_1
def S_V113:Sig:=⟨(.pair Q0 Q10),[0,0],[],.unit,.bool,.i,fun x=>V113 big x.1 x.2.1⟩
def A_V113:Cfg:=mkCfg tab [(97,S_V54),(76,S_V15),(73,S_V14),(98,S_V61)] [(8,[D0,B4,B3,D0,D0,B0]),(14,[D0,B4,B3,D0,D0,B0,B0]),(23,[]),(11,[D0,B4,B3,D0,D0,B0])]
noncomputable def yi (N n:Nat) (K:T12) (a1:Y4) (a2:Y2) (a5:Int):Z0:=itr A_V113 N 8 Tryz.f52 [1,1,0,1,0,0] n ([.u,W4 a1,W3 a2,.u,.u,W0 a5]++us 56) K
noncomputable def wcl (N n:Nat) (K:T12) (a1:Y4) (a2:Y2) (a5 a6:Int):Z0:=itr A_V113 N 14 Tryz.f52 [1,1,0,1,0,0,1,0,0,1,0,0] n ([.u,W4 a1,W3 a2,.u,.u,W0 a5,W0 a6]++us 55) K
noncomputable def wmd:Ex→St→Z0:=finish A_V113 S_V113 Tryz.f52.results.toList
noncomputable def wko (kX:T3):Z0:=kX ([]++us 62)
noncomputable def wab (kX:T3) (kO:T2):=exK wmd 0 (A_V113.shape 23) kX kO
noncomputable def wza (kX:T3) (a1:Y4) (a2:Y2) (a5:Int):Z0:=kX ([.u,W4 a1,W3 a2,.u,.u,W0 a5]++us 56)
noncomputable def wy9 (kX:T3) (kO:T2):=exK wmd 2 (A_V113.shape 11) kX kO
theorem w1x (N kX kO):∀n,wcl N n (wy9 kX kO)=wqp N (wza kX) n :=
 itE rfl fun m=>by kernel_rfl
noncomputable def wkn (N m:Nat) (kX:T3) (kO:T2):=(blockK 2 (blockK 1 (sqK A_V113 N 11 500005 Tryz.f52 [1,1,0,1,0,0,1,1] (itK A_V113 N 8 Tryz.f52 [1,1,0,1,0,0] m (wab kX kO)))))
noncomputable def wzc (N m:Nat) (kX:T3) (kO:T2) (st':St):Z0:=rn A_V113 N Tryz.f52 [1,1,0,1,0,0,1,1] st' (itK A_V113 N 8 Tryz.f52 [1,1,0,1,0,0] m (wab kX kO))
theorem xex (N m kX kO) {r}(h:yi N m (wab kX kO)=r):wcl N N (wkn N m kX kO)=wck N r (wko kX):=by
 rw[show wcl N N (wkn N m kX kO)=wcl N N (wy9 (wzc N m kX kO) fun j=>(wkn N m kX kO) (.exit j)) from(by funext _ _ _ _;exact jll),w1x,show wza (wzc N m kX kO)=wac (yi N m (wab kX kO)) by kernel_rfl,h];rfl
theorem w1w (N kX kO):∀n,yi N n (wab kX kO)=wqo N (wko kX) n :=
 itE rfl fun m=>(show _=wad (wcl N N (wkn N m kX kO)) (wko kX) by kernel_rfl).trans (by rw[xex N m kX kO rfl]<;>rfl)
noncomputable def wkm (N:Nat):=(blockK 0 (sqK A_V113 N 23 500011 Tryz.f52 [1,1,1] wmd))
noncomputable def wzb (N:Nat) (st':St):Z0:=rn A_V113 N Tryz.f52 [1,1,1] st' wmd
theorem xew (N):yi N N (wkm N)=wqn N:=by
 rw[show yi N N (wkm N)=yi N N (wab (wzb N) fun j=>(wkm N) (.exit j)) from(by funext _ _ _;exact jll),w1w,show wko (wzb N)=xo by kernel_rfl];rfl
theorem run_V113 (N x):runF A_V113 N Tryz.f52 S_V113 x=V113 N x.1 x.2.1:=(show _=(wth (yi N N (wkm N)) x.1 x.2.1) by kernel_rfl).trans (by rw[xew N];rfl)
theorem ok_V113:OK 52 S_V113:=gdR (A:=A_V113) tc Tryz.func52 (jeq ⟨ok_V54,ok_V15,ok_V14,ok_V61,trivial⟩) (run_V113 big)
def w5y (p_0:Y2) (list_1:Y4):Option ((Bool×(Bool×Unit))×Unit) :=
  (V59 big p_0).bind fun rq1 =>
  cond (!rq1.1)
  (some ((false,false,()),(())))
  ((V113 big p_0 list_1).bind fun rq2 =>
  some ((rq2.1,true,()),(())))
def V114 (p_0:Y2) (list_1:Y4):Option ((Bool×(Bool×Unit))×Unit):=w5y p_0 list_1
def S_V114:Sig:=⟨(.pair Q0 Q10),[0,0],[],.unit,(.tup (.pair .bool Q12)),.i,fun x=>V114 x.1 x.2.1⟩
def A_V114:Cfg:=mkCfg tab [(46,S_V59),(52,S_V113)] []
theorem run_V114 (N x):runF A_V114 N Tryz.f17 S_V114 x=V114 x.1 x.2.1:=by kernel_rfl
theorem ok_V114:OK 17 S_V114:=gdR (A:=A_V114) tc Tryz.func17 (jeq ⟨ok_V59,ok_V113,trivial⟩) (run_V114 big)
def w5z (code_0:Y4):Option ((Y2×(Y4×Unit))×Unit) :=
  (V19 big (code_0,(0,(0,())))).bind fun rq1 =>
  (V100 big rq1.2.1 rq1.1).bind fun rq2 =>
  some ((rq1.1,rq2.1,()),(()))
def V115 (code_0:Y4):Option ((Y2×(Y4×Unit))×Unit):=w5z code_0
def S_V115:Sig:=⟨Q19,[0],[],.unit,(.tup (.pair Q0 Q10)),.i,fun x=>V115 x.1⟩
def A_V115:Cfg:=mkCfg tab [(44,S_V19),(53,S_V100)] []
theorem run_V115 (N x):runF A_V115 N Tryz.f18 S_V115 x=V115 x.1:=by kernel_rfl
theorem ok_V115:OK 18 S_V115:=gdR (A:=A_V115) tc Tryz.func18 (jeq ⟨ok_V19,ok_V100,trivial⟩) (run_V115 big)
def w50 (p_0:Y2) (some_1:Y4):Z8 :=
  (V35 p_0).bind fun rq1 =>
  cond (!rq1.1.2.1)
  (some (([],false,()),(())))
  (cond (decide ((some_1.length:Int)=0))
  (some (([],false,()),(())))
  (cond (decide (20<(some_1.length:Int)))
  (some (([],false,()),(())))
  ((rq1.1.1).bind fun xq2 =>
  (V49 xq2.1 some_1).bind fun rq3 =>
  cond (!rq3.1)
  (some (([],false,()),(())))
  ((rq1.1.1).bind fun xq4 =>
  (V108 big rq1.1.1 some_1).bind fun rq5 =>
  (V111 xq4.1 rq5.1).bind fun rq6 =>
  some ((rq6.1,true,()),(()))))))
def V116 (p_0:Y2) (some_1:Y4):Z8:=w50 p_0 some_1
def S_V116:Sig:=⟨(.pair Q0 Q10),[0,0],[],.unit,(.tup (.pair Q6 Q12)),(.p O4 .i),fun x=>V116 x.1 x.2.1⟩
def A_V116:Cfg:=mkCfg tab [(49,S_V35),(29,S_V49),(51,S_V108),(50,S_V111)] []
theorem run_V116 (N x):runF A_V116 N Tryz.f19 S_V116 x=V116 x.1 x.2.1:=by kernel_rfl
theorem ok_V116:OK 19 S_V116:=gdR (A:=A_V116) tc Tryz.func19 (jeq ⟨ok_V35,ok_V49,ok_V108,ok_V111,trivial⟩) (run_V116 big)
def w51 (p_0:Y2) (some_1:Y4):Z8 :=
  (V59 big p_0).bind fun rq1 =>
  cond (!rq1.1)
  (some (([],false,()),(())))
  ((V101 p_0 some_1).bind fun rq2 =>
  cond (!rq2.1)
  (some (([],false,()),(())))
  (cond (decide ((some_1.length:Int)=0))
  (some (([],false,()),(())))
  ((V58 big p_0 some_1).bind fun rq3 =>
  (V106 big p_0 rq3.1).bind fun rq4 =>
  some ((rq4.1,true,()),(())))))
def V117 (p_0:Y2) (some_1:Y4):Z8:=w51 p_0 some_1
def S_V117:Sig:=⟨(.pair Q0 Q10),[0,0],[],.unit,(.tup (.pair Q6 Q12)),(.p O4 .i),fun x=>V117 x.1 x.2.1⟩
def A_V117:Cfg:=mkCfg tab [(46,S_V59),(54,S_V101),(55,S_V58),(47,S_V106)] []
theorem run_V117 (N x):runF A_V117 N Tryz.f20 S_V117 x=V117 x.1 x.2.1:=by kernel_rfl
theorem ok_V117:OK 20 S_V117:=gdR (A:=A_V117) tc Tryz.func20 (jeq ⟨ok_V59,ok_V101,ok_V58,ok_V106,trivial⟩) (run_V117 big)
def w52 (code_0:Y4):Z4 :=
  (V19 big (code_0,(0,(0,())))).bind fun rq1 =>
  some (rq1.1,(()))
def V118 (code_0:Y4):Z4:=w52 code_0
def S_V118:Sig:=⟨Q19,[0],[],.unit,Q0,.i,fun x=>V118 x.1⟩
def A_V118:Cfg:=mkCfg tab [(44,S_V19)] []
theorem run_V118 (N x):runF A_V118 N Tryz.f56 S_V118 x=V118 x.1:=by kernel_rfl
theorem ok_V118:OK 56 S_V118:=gdR (A:=A_V118) tc Tryz.func56 (jeq ⟨ok_V19,trivial⟩) (run_V118 big)
def w53 (code_0:Y4):Z4 :=
  (V118 code_0).bind fun rq1 =>
  some (rq1.1,(()))
def V119 (code_0:Y4):Z4:=w53 code_0
def S_V119:Sig:=⟨Q19,[0],[],.unit,Q0,.i,fun x=>V119 x.1⟩
def A_V119:Cfg:=mkCfg tab [(56,S_V118)] []
theorem run_V119 (N x):runF A_V119 N Tryz.f21 S_V119 x=V119 x.1:=by kernel_rfl
theorem ok_V119:OK 21 S_V119:=gdR (A:=A_V119) tc Tryz.func21 (jeq ⟨ok_V118,trivial⟩) (run_V119 big)
def w6a (o_0:Y5) (x_1 y_2:Int):Z0 :=
  cond (decide (x_1≠y_2))
  ((atI o_0 x_1).bind fun xq1 =>
  (atI xq1 y_2).bind fun xq2 =>
  some (xq2,(())))
  (some (false,(())))
def V120 (o_0:Y5) (x_1 y_2:Int):Z0:=w6a o_0 x_1 y_2
def S_V120:Sig:=⟨(.pair Q8 Q9),[0,0,0],[],.unit,.bool,.i,fun x=>V120 x.1 x.2.1 x.2.2.1⟩
def A_V120:Cfg:=mkCfg tab [] []
theorem run_V120 (N x):runF A_V120 N Tryz.f143 S_V120 x=V120 x.1 x.2.1 x.2.2.1:=by kernel_rfl
theorem ok_V120:OK 143 S_V120:=gdR (A:=A_V120) tc Tryz.func143 (jeq trivial) (run_V120 big)
def wcv (rec:T80) (k:Z0) (a0:Y5) (a1 a2 a14 a15:Int):Z0 :=
  cond (decide (a15<a14))
  ((V120 a0 a1 a15).bind fun rq2 =>
  cond rq2.1
  ((V120 a0 a15 a2).bind fun rq3 =>
  cond rq3.1
  (some (false,(())))
  (rec a0 a1 a2 a14 (IntKind.i64.wrap (a15+1))))
  (rec a0 a1 a2 a14 (IntKind.i64.wrap (a15+1))))
  (k)
def waf:Z0 :=
  some (true,(()))
def wtm (L4:T80) (o_0:Y5) (x_1 y_2:Int):Z0 :=
  (V120 o_0 x_1 y_2).bind fun rq1 =>
  cond (!rq1.1)
  (some (false,(())))
  (L4 o_0 x_1 y_2 (o_0.length:Int) 0)
def wqu (N:Nat) (k:Z0):=itN (fun r=>wcv r k) fun _ _ _ _ _=>none
def wqt (N:Nat):=wqu N (waf) N
def V121 (N:Nat) (o_0:Y5) (x_1 y_2:Int):Z0:=wtm (wqt N) o_0 x_1 y_2
def S_V121:Sig:=⟨(.pair Q8 Q9),[0,0,0],[],.unit,.bool,.i,fun x=>V121 big x.1 x.2.1 x.2.2.1⟩
def A_V121:Cfg:=mkCfg tab [(143,S_V120)] [(8,([.as Q8 .i,B0,B0]++dr 11 [B0,B0])),(19,[])]
noncomputable def wcu (N n:Nat) (K:T12) (a0:Y5) (a1 a2 a14 a15:Int):Z0:=itr A_V121 N 8 Tryz.f135 [1,1,0,1,0,0] n (([.val Q8 .i a0,W0 a1,W0 a2]++ud 11 [W0 a14,W0 a15])++us 13) K
noncomputable def wtn:Ex→St→Z0:=finish A_V121 S_V121 Tryz.f135.results.toList
noncomputable def wzk (kX:T3):Z0:=kX ([]++us 29)
noncomputable def wzj (kX:T3) (kO:T2):=exK wtn 0 (A_V121.shape 19) kX kO
theorem w11 (N kX kO):∀n,wcu N n (wzj kX kO)=wqu N (wzk kX) n :=
 itE rfl fun m=>by kernel_rfl
noncomputable def wkq (N:Nat):=(blockK 0 (sqK A_V121 N 19 500009 Tryz.f135 [1,1,1] wtn))
noncomputable def wzl (N:Nat) (st':St):Z0:=rn A_V121 N Tryz.f135 [1,1,1] st' wtn
theorem xez (N):wcu N N (wkq N)=wqt N:=by
 rw[show wcu N N (wkq N)=wcu N N (wzj (wzl N) fun j=>(wkq N) (.exit j)) from(by funext _ _ _ _ _;exact jll),w11,show wzk (wzl N)=waf by kernel_rfl];rfl
theorem run_V121 (N x):runF A_V121 N Tryz.f135 S_V121 x=V121 N x.1 x.2.1 x.2.2.1:=(show _=(wtm (wcu N N (wkq N)) x.1 x.2.1 x.2.2.1) by kernel_rfl).trans (by rw[xez N];rfl)
theorem ok_V121:OK 135 S_V121:=gdR (A:=A_V121) tc Tryz.func135 (jeq ⟨ok_V120,trivial⟩) (run_V121 big)
def w6b (y_0:Int) (p_1:Y5) (p_2:Int):Z0 :=
  (V121 big p_1 p_2 y_0).bind fun rq1 =>
  some (rq1.1,(()))
def V122 (y_0:Int) (p_1:Y5) (p_2:Int):Z0:=w6b y_0 p_1 p_2
def S_V122:Sig:=⟨(.pair I (.pair (.ptr Q8) Q16)),[0,0,0],[],.unit,.bool,.i,fun x=>V122 x.1 x.2.1 x.2.2.1⟩
def A_V122:Cfg:=mkCfg tab [(135,S_V121)] []
theorem run_V122 (N x):runF A_V122 N Tryz.f134 S_V122 x=V122 x.1 x.2.1 x.2.2.1:=by kernel_rfl
theorem ok_V122:OK 134 S_V122:=gdR (A:=A_V122) tc Tryz.func134 (jeq ⟨ok_V121,trivial⟩) (run_V122 big)
def wcx (rec:(Y5×(Int×Unit))→Y4→Int→Int→Z2) (k:T21) (a1:(Y5×(Int×Unit))) (a5:Y4) (a9 a10:Int):Z2 :=
  cond (decide (a10<a9))
  ((V122 a10 a1.1 a1.2.1).bind fun rq1 =>
  cond rq1.1
  ((appI a5 [a10]).bind fun xq2 =>
  rec a1 xq2 a9 (IntKind.i64.wrap (a10+1)))
  (rec a1 a5 a9 (IntKind.i64.wrap (a10+1))))
  (k a5)
def wag (a5:Y4):Z2 :=
  some (a5,(()))
def wto (L3:(Y5×(Int×Unit))→Y4→Int→Int→Z2) (o_0:Y5) (so_1:(Y5×(Int×Unit))):Z2 :=
  L3 so_1 [] (o_0.length:Int) 0
def wqw (N:Nat) (k:T21):=itN (fun r=>wcx r k) fun _ _ _ _=>none
def wqv (N:Nat):=wqw N (wag) N
def V123 (N:Nat) (o_0:Y5) (so_1:(Y5×(Int×Unit))):Z2:=wto (wqv N) o_0 so_1
def S_V123:Sig:=⟨(.pair Q8 (.pair (.clo 134 0 (.pair (.ptr Q8) Q16)) .unit)),[0,0],[],.unit,Q6,O4,fun x=>V123 big x.1 x.2.1⟩
def A_V123:Cfg:=mkCfg tab [(134,S_V122)] [(6,([D0,.as (.clo 134 0 (.pair (.ptr Q8) Q16)) .i]++dr 3 ([B1]++dr 3 [B0,B0]))),(17,(dr 5 [B1]))]
noncomputable def wcw (N n:Nat) (K:T18) (a1:(Y5×(Int×Unit))) (a5:Y4) (a9 a10:Int):Z2:=itr A_V123 N 6 Tryz.f94 [1,1,0,1,0,0] n (([.u,.val (.clo 134 0 (.pair (.ptr Q8) Q16)) .i a1]++ud 3 ([W1 a5]++ud 3 [W0 a9,W0 a10]))++us 11) K
noncomputable def wtp:Ex→St→Z2:=finish A_V123 S_V123 Tryz.f94.results.toList
noncomputable def wzn (kX:T7) (a5:Y4):Z2:=kX ((ud 5 [W1 a5])++us 16)
noncomputable def wzm (kX:T7) (kO:T5):=exK wtp 0 (A_V123.shape 17) kX kO
theorem w12 (N kX kO):∀n,wcw N n (wzm kX kO)=wqw N (wzn kX) n :=
 itE rfl fun m=>by kernel_rfl
noncomputable def wkr (N:Nat):=(blockK 0 (sqK A_V123 N 17 500008 Tryz.f94 [1,1,1] wtp))
noncomputable def wzo (N:Nat) (st':St):Z2:=rn A_V123 N Tryz.f94 [1,1,1] st' wtp
theorem xe0 (N):wcw N N (wkr N)=wqv N:=by
 rw[show wcw N N (wkr N)=wcw N N (wzm (wzo N) fun j=>(wkr N) (.exit j)) from(by funext _ _ _ _;exact jll),w12,show wzn (wzo N)=wag by kernel_rfl];rfl
theorem run_V123 (N x):runF A_V123 N Tryz.f94 S_V123 x=V123 N x.1 x.2.1:=(show _=(wto (wcw N N (wkr N)) x.1 x.2.1) by kernel_rfl).trans (by rw[xe0 N];rfl)
theorem ok_V123:OK 94 S_V123:=gdR (A:=A_V123) tc Tryz.func94 (jeq ⟨ok_V122,trivial⟩) (run_V123 big)
def w6c (o_0:Y5) (x_1:Int):Z2 :=
  (V123 big o_0 (o_0,x_1,())).bind fun rq1 =>
  some (rq1.1,(()))
def V124 (o_0:Y5) (x_1:Int):Z2:=w6c o_0 x_1
def S_V124:Sig:=⟨(.pair Q8 Q17),[0,0],[],.unit,Q6,O4,fun x=>V124 x.1 x.2.1⟩
def A_V124:Cfg:=mkCfg tab [(94,S_V123)] [(3,[D0,D0,.as (.ptr Q8) .i,.as (.ptr I) .i])]
theorem run_V124 (N x):runF A_V124 N Tryz.f101 S_V124 x=V124 x.1 x.2.1:=by kernel_rfl
theorem ok_V124:OK 101 S_V124:=gdR (A:=A_V124) tc Tryz.func101 (jeq ⟨ok_V123,trivial⟩) (run_V124 big)
def w6d (l_0:Y1):Z2 :=
  (l_0).bind fun xq1 =>
  (V38 big l_0).bind fun rq2 =>
  (V124 xq1.1 rq2.1).bind fun rq3 =>
  some (rq3.1,(()))
def V125 (l_0:Y1):Z2:=w6d l_0
def S_V125:Sig:=⟨(.pair Q3 .unit),[0],[],.unit,Q6,O4,fun x=>V125 x.1⟩
def A_V125:Cfg:=mkCfg tab [(102,S_V38),(101,S_V124)] []
theorem run_V125 (N x):runF A_V125 N Tryz.f57 S_V125 x=V125 x.1:=by kernel_rfl
theorem ok_V125:OK 57 S_V125:=gdR (A:=A_V125) tc Tryz.func57 (jeq ⟨ok_V38,ok_V124,trivial⟩) (run_V125 big)
def wcz (rec:T88) (k:T118) (a4:Y1) (a6:Y3) (a19:Y4) (a20 a21:Int):Z3 :=
  cond (decide (a21<a20))
  ((atI a19 a21).bind fun _ =>
  (a19[a21.toNat]?).bind fun xq3 =>
  (a4).bind fun xq4 =>
  (V111 xq4.1 xq3).bind fun rq5 =>
  (appI a6 [rq5.1]).bind fun xq6 =>
  rec a4 xq6 a19 a20 (IntKind.i64.wrap (a21+1)))
  (k a6)
def wah (a6:Y3):Z3 :=
  (qg a6 ()).bind fun rq7 =>
  some ((rq7.2.1,true,()),(()))
def wmh (L6:T88) (p_0:Y2):Z3 :=
  (V35 p_0).bind fun rq1 =>
  cond (!rq1.1.2.1)
  (some (([],false,()),(())))
  ((V125 rq1.1.1).bind fun rq2 =>
  L6 rq1.1.1 [] rq2.1 (rq2.1.length:Int) 0)
def wqy (N:Nat) (k:T118):=itN (fun r=>wcz r k) fun _ _ _ _ _=>none
def wqx (N:Nat):=wqy N (wah) N
def V126 (N:Nat) (p_0:Y2):Z3:=wmh (wqx N) p_0
def S_V126:Sig:=⟨Q15,[0],[],.unit,(.tup (.pair Q13 Q12)),(.p O11 .i),fun x=>V126 big x.1⟩
def A_V126:Cfg:=mkCfg tab [(49,S_V35),(57,S_V125),(50,S_V111),(58,wl)] [(12,(dr 4 ([.as Q3 .i,D0,B7]++dr 12 [B1,B0,B0]))),(21,(dr 6 [B7]))]
noncomputable def wcy (N n:Nat) (K:T103) (a4:Y1) (a6:Y3) (a19:Y4) (a20 a21:Int):Z3:=itr A_V126 N 12 Tryz.f22 [1,1,1,1,0,1,0,0] n ((ud 4 ([.val Q3 .i a4,.u,W7 a6]++ud 12 [W1 a19,W0 a20,W0 a21]))++us 16) K
noncomputable def wtq:Ex→St→Z3:=finish A_V126 S_V126 Tryz.f22.results.toList
noncomputable def wzq (kX:T58) (a6:Y3):Z3:=kX ((ud 6 [W7 a6])++us 31)
noncomputable def wzp (kX:T58) (kO:T46):=exK wtq 0 (A_V126.shape 21) kX kO
theorem w13 (N kX kO):∀n,wcy N n (wzp kX kO)=wqy N (wzq kX) n :=
 itE rfl fun m=>by kernel_rfl
noncomputable def wks (N:Nat):=(blockK 0 (sqK A_V126 N 21 500010 Tryz.f22 [1,1,1,1,1] wtq))
noncomputable def wzr (N:Nat) (st':St):Z3:=rn A_V126 N Tryz.f22 [1,1,1,1,1] st' wtq
theorem xe1 (N):wcy N N (wks N)=wqx N:=by
 rw[show wcy N N (wks N)=wcy N N (wzp (wzr N) fun j=>(wks N) (.exit j)) from(by funext _ _ _ _ _;exact jll),w13,show wzq (wzr N)=wah by kernel_rfl];rfl
theorem run_V126 (N x):runF A_V126 N Tryz.f22 S_V126 x=V126 N x.1:=(show _=(wmh (wcy N N (wks N)) x.1) by kernel_rfl).trans (by rw[xe1 N];rfl)
theorem ok_V126:OK 22 S_V126:=gdR (A:=A_V126) tc Tryz.func22 (jeq ⟨ok_V35,ok_V125,ok_V111,⟨xy,xk⟩,trivial⟩) (run_V126 big)
def wc1 (rec:T109) (k:T21) (a1:Y2) (a3:Y4) (a4 a5:Int):Z2 :=
  cond (decide (a5<(a1.1.length:Int)))
  ((V17 big a1 a4 a5).bind fun rq2 =>
  cond rq2.1
  ((appI a3 [a5]).bind fun xq3 =>
  rec a1 xq3 a4 (IntKind.i64.wrap (a5+1)))
  (rec a1 a3 a4 (IntKind.i64.wrap (a5+1))))
  (k a3)
def wai (a3:Y4):Z2 :=
  some (a3,(()))
def wtr (L4:T109) (p_0:Y2):Z2 :=
  (V64 p_0).bind fun rq1 =>
  L4 p_0 [] rq1.1 0
def wq0 (N:Nat) (k:T21):=itN (fun r=>wc1 r k) fun _ _ _ _=>none
def wqz (N:Nat):=wq0 N (wai) N
def V127 (N:Nat) (p_0:Y2):Z2:=wtr (wqz N) p_0
def S_V127:Sig:=⟨Q15,[0],[],.unit,Q6,O4,fun x=>V127 big x.1⟩
def A_V127:Cfg:=mkCfg tab [(106,S_V64),(107,S_V17)] [(8,[D0,B3,D0,B1,B0,B0]),(17,(dr 3 [B1]))]
noncomputable def wc0 (N n:Nat) (K:T18) (a1:Y2) (a3:Y4) (a4 a5:Int):Z2:=itr A_V127 N 8 Tryz.f60 [1,1,1,0,1,0,0] n ([.u,W3 a1,.u,W1 a3,W0 a4,W0 a5]++us 19) K
noncomputable def wts:Ex→St→Z2:=finish A_V127 S_V127 Tryz.f60.results.toList
noncomputable def wzt (kX:T7) (a3:Y4):Z2:=kX ((ud 3 [W1 a3])++us 21)
noncomputable def wzs (kX:T7) (kO:T5):=exK wts 0 (A_V127.shape 17) kX kO
theorem w14 (N kX kO):∀n,wc0 N n (wzs kX kO)=wq0 N (wzt kX) n :=
 itE rfl fun m=>by kernel_rfl
noncomputable def wkt (N:Nat):=(blockK 0 (sqK A_V127 N 17 500008 Tryz.f60 [1,1,1,1] wts))
noncomputable def wzu (N:Nat) (st':St):Z2:=rn A_V127 N Tryz.f60 [1,1,1,1] st' wts
theorem xe2 (N):wc0 N N (wkt N)=wqz N:=by
 rw[show wc0 N N (wkt N)=wc0 N N (wzs (wzu N) fun j=>(wkt N) (.exit j)) from(by funext _ _ _ _;exact jll),w14,show wzt (wzu N)=wai by kernel_rfl];rfl
theorem run_V127 (N x):runF A_V127 N Tryz.f60 S_V127 x=V127 N x.1:=(show _=(wtr (wc0 N N (wkt N)) x.1) by kernel_rfl).trans (by rw[xe2 N];rfl)
theorem ok_V127:OK 60 S_V127:=gdR (A:=A_V127) tc Tryz.func60 (jeq ⟨ok_V64,ok_V17,trivial⟩) (run_V127 big)
def wc3 (rec:T17) (k:Z0) (a0 a1:Y4) (a5:Int):Z0 :=
  cond (decide (a5<(a0.length:Int)))
  ((atI a0 a5).bind fun xq1 =>
  (atI a1 a5).bind fun xq2 =>
  cond (decide (xq1≠xq2))
  ((atI a0 a5).bind fun xq3 =>
  (atI a1 a5).bind fun xq4 =>
  some (decide (xq3<xq4),(())))
  (rec a0 a1 (IntKind.i64.wrap (a5+1))))
  (k)
def waj:Z0 :=
  some (false,(()))
def wtt (L2:T17) (a_0 b_1:Y4):Z0 :=
  L2 a_0 b_1 0
def wq2 (N:Nat) (k:Z0):=itN (fun r=>wc3 r k) fun _ _ _=>none
def wq1 (N:Nat):=wq2 N (waj) N
def V128 (N:Nat) (a_0 b_1:Y4):Z0:=wtt (wq1 N) a_0 b_1
def S_V128:Sig:=⟨(.pair Q6 Q10),[0,0],[],.unit,.bool,.i,fun x=>V128 big x.1 x.2.1⟩
def A_V128:Cfg:=mkCfg tab [] [(4,([B4,B4]++dr 3 [B0])),(13,[])]
noncomputable def wc2 (N n:Nat) (K:T12) (a0 a1:Y4) (a5:Int):Z0:=itr A_V128 N 4 Tryz.f108 [1,0,1,0,0] n (([W4 a0,W4 a1]++ud 3 [W0 a5])++us 24) K
noncomputable def wtu:Ex→St→Z0:=finish A_V128 S_V128 Tryz.f108.results.toList
noncomputable def wzw (kX:T3):Z0:=kX ([]++us 30)
noncomputable def wzv (kX:T3) (kO:T2):=exK wtu 0 (A_V128.shape 13) kX kO
theorem w15 (N kX kO):∀n,wc2 N n (wzv kX kO)=wq2 N (wzw kX) n :=
 itE rfl fun m=>by kernel_rfl
noncomputable def wku (N:Nat):=(blockK 0 (sqK A_V128 N 13 500006 Tryz.f108 [1,1] wtu))
noncomputable def wzx (N:Nat) (st':St):Z0:=rn A_V128 N Tryz.f108 [1,1] st' wtu
theorem xe3 (N):wc2 N N (wku N)=wq1 N:=by
 rw[show wc2 N N (wku N)=wc2 N N (wzv (wzx N) fun j=>(wku N) (.exit j)) from(by funext _ _ _;exact jll),w15,show wzw (wzx N)=waj by kernel_rfl];rfl
theorem run_V128 (N x):runF A_V128 N Tryz.f108 S_V128 x=V128 N x.1 x.2.1:=(show _=(wtt (wc2 N N (wku N)) x.1 x.2.1) by kernel_rfl).trans (by rw[xe3 N];rfl)
theorem ok_V128:OK 108 S_V128:=gdR (A:=A_V128) tc Tryz.func108 (jeq trivial) (run_V128 big)
def wq4 (rec k:Y3→Y4→Int→Option Y2) (a0:Y3) (a1:Y4) (a5:Int):Option Y2 :=
  cond (decide (0<a5))
  ((atI a0 (IntKind.i64.wrap (a5-1))).bind fun xq1 =>
  cond (decide ((a1.length:Int)<(xq1.length:Int)))
  (rec a0 a1 (IntKind.i64.wrap (a5-1)))
  ((atI a0 (IntKind.i64.wrap (a5-1))).bind fun xq2 =>
  cond (decide ((a1.length:Int)=(xq2.length:Int)))
  ((atI a0 (IntKind.i64.wrap (a5-1))).bind fun xq3 =>
  (V128 big a1 xq3).bind fun rq4 =>
  cond rq4.1
  (rec a0 a1 (IntKind.i64.wrap (a5-1)))
  (k a0 a1 a5))
  (k a0 a1 a5)))
  (k a0 a1 a5)
def yk (a0:Y3) (a1:Y4) (a5:Int):Option Y2 :=
  (slI a0 0 a5).bind fun xq5 =>
  (appI [] xq5).bind fun xq6 =>
  (appI xq6 [a1]).bind fun xq7 =>
  (slI a0 a5 a0.length).bind fun xq8 =>
  (appI xq7 xq8).bind fun xq9 =>
  some (xq9,(()))
def wtv (L2:Y3→Y4→Int→Option Y2) (lists_0:Y3) (l_1:Y4):Option Y2 :=
  L2 lists_0 l_1 (lists_0.length:Int)
def wq5 (N:Nat) (k:Y3→Y4→Int→Option Y2):=itN (fun r=>wq4 r k) fun _ _ _=>none
def wq3 (N:Nat):=wq5 N (yk) N
def V129 (N:Nat) (lists_0:Y3) (l_1:Y4):Option Y2:=wtv (wq3 N) lists_0 l_1
def S_V129:Sig:=⟨(.pair Q13 Q10),[0,0],[],.unit,Q13,.i,fun x=>V129 big x.1 x.2.1⟩
def A_V129:Cfg:=mkCfg tab [(108,S_V128)] [(4,([.as Q13 .i,B4]++dr 3 [B0])),(9,([.as Q13 .i,B4]++dr 3 [B0]))]
noncomputable def wc4 (N n:Nat) (K:Ex→St→Option Y2) (a0:Y3) (a1:Y4) (a5:Int):Option Y2:=itr A_V129 N 4 Tryz.f61 [1,1,0,0,0] n (([.val Q13 .i a0,W4 a1]++ud 3 [W0 a5])++us 49) K
noncomputable def wtw:Ex→St→Option Y2:=finish A_V129 S_V129 Tryz.f61.results.toList
noncomputable def wzz (kX:St→Option Y2) (a0:Y3) (a1:Y4) (a5:Int):Option Y2:=kX (([.val Q13 .i a0,W4 a1]++ud 3 [W0 a5])++us 49)
noncomputable def wzy (kX:St→Option Y2) (kO:Nat→St→Option Y2):Ex→St→Option Y2:=exK wtw 0 (A_V129.shape 9) kX kO
theorem w16 (N kX kO):∀n,wc4 N n (wzy kX kO)=wq5 N (wzz kX) n :=
 itE rfl fun m=>by kernel_rfl
noncomputable def wkv (N:Nat):Ex→St→Option Y2:=(blockK 0 (sqK A_V129 N 9 500004 Tryz.f61 [1,1,1] wtw))
noncomputable def wz0 (N:Nat) (st':St):Option Y2:=rn A_V129 N Tryz.f61 [1,1,1] st' wtw
theorem xe4 (N):wc4 N N (wkv N)=wq3 N:=by
 rw[show wc4 N N (wkv N)=wc4 N N (wzy (wz0 N) fun j=>(wkv N) (.exit j)) from(by funext _ _ _;exact jll),w16,show wzz (wz0 N)=yk by kernel_rfl];rfl
theorem run_V129 (N x):runF A_V129 N Tryz.f61 S_V129 x=V129 N x.1 x.2.1:=(show _=(wtv (wc4 N N (wkv N)) x.1 x.2.1) by kernel_rfl).trans (by rw[xe4 N];rfl)
theorem ok_V129:OK 61 S_V129:=gdR (A:=A_V129) tc Tryz.func61 (jeq ⟨ok_V128,trivial⟩) (run_V129 big)
def wc9 (rec:T113) (k:T118) (a1:Y2) (a4:Y3) (a5:Y4) (a6:Int):Z3 :=
  cond (decide (a6<(a5.length:Int)))
  ((atI a5 a6).bind fun _ =>
  (a5[a6.toNat]?).bind fun xq3 =>
  (V106 big a1 xq3).bind fun rq4 =>
  (V129 big a4 rq4.1).bind fun rq5 =>
  rec a1 rq5.1 a5 (IntKind.i64.wrap (a6+1)))
  (k a4)
def wal (a4:Y3):Z3 :=
  some ((a4,true,()),(()))
def wmm (L6:T113) (p_0:Y2):Z3 :=
  (V59 big p_0).bind fun rq1 =>
  cond (!rq1.1)
  (some (([],false,()),(())))
  ((V127 big p_0).bind fun rq2 =>
  L6 p_0 [] rq2.1 0)
def wq7 (N:Nat) (k:T118):=itN (fun r=>wc9 r k) fun _ _ _ _=>none
def wq6 (N:Nat):=wq7 N (wal) N
def V130 (N:Nat) (p_0:Y2):Z3:=wmm (wq6 N) p_0
def S_V130:Sig:=⟨Q15,[0],[],.unit,(.tup (.pair Q13 Q12)),.i,fun x=>V130 big x.1⟩
def A_V130:Cfg:=mkCfg tab [(46,S_V59),(60,S_V127),(47,S_V106),(61,S_V129)] [(12,[D0,B3,D0,D0,.as Q13 .i,B1,B0]),(19,(dr 4 [.as Q13 .i]))]
noncomputable def wc8 (N n:Nat) (K:T103) (a1:Y2) (a4:Y3) (a5:Y4) (a6:Int):Z3:=itr A_V130 N 12 Tryz.f23 [1,1,1,1,0,1,0,0] n ([.u,W3 a1,.u,.u,.val Q13 .i a4,W1 a5,W0 a6]++us 22) K
noncomputable def wtx:Ex→St→Z3:=finish A_V130 S_V130 Tryz.f23.results.toList
noncomputable def w0d (kX:T58) (a4:Y3):Z3:=kX ((ud 4 [.val Q13 .i a4])++us 24)
noncomputable def w0c (kX:T58) (kO:T46):=exK wtx 0 (A_V130.shape 19) kX kO
theorem w19 (N kX kO):∀n,wc8 N n (w0c kX kO)=wq7 N (w0d kX) n :=
 itE rfl fun m=>by kernel_rfl
noncomputable def wk0 (N:Nat):=(blockK 0 (sqK A_V130 N 19 500009 Tryz.f23 [1,1,1,1,1] wtx))
noncomputable def w0e (N:Nat) (st':St):Z3:=rn A_V130 N Tryz.f23 [1,1,1,1,1] st' wtx
theorem xe7 (N):wc8 N N (wk0 N)=wq6 N:=by
 rw[show wc8 N N (wk0 N)=wc8 N N (w0c (w0e N) fun j=>(wk0 N) (.exit j)) from(by funext _ _ _ _;exact jll),w19,show w0d (w0e N)=wal by kernel_rfl];rfl
theorem run_V130 (N x):runF A_V130 N Tryz.f23 S_V130 x=V130 N x.1:=(show _=(wmm (wc8 N N (wk0 N)) x.1) by kernel_rfl).trans (by rw[xe7 N];rfl)
theorem ok_V130:OK 23 S_V130:=gdR (A:=A_V130) tc Tryz.func23 (jeq ⟨ok_V59,ok_V127,ok_V106,ok_V129,trivial⟩) (run_V130 big)
def wdb (rec:T127) (k:Z0) (a0 a1:Y3) (a5:Int):Z0 :=
  cond (decide (a5<(a0.length:Int)))
  ((atI a0 a5).bind fun xq1 =>
  (atI a1 a5).bind fun xq2 =>
  (V74 big xq1 xq2).bind fun rq3 =>
  cond (!rq3.1)
  (some (false,(())))
  (rec a0 a1 (IntKind.i64.wrap (a5+1))))
  (k)
def wam:Z0 :=
  some (true,(()))
def wty (L4:T127) (a_0 b_1:Y3):Z0 :=
  cond (decide ((a_0.length:Int)≠(b_1.length:Int)))
  (some (false,(())))
  (L4 a_0 b_1 0)
def wq9 (N:Nat) (k:Z0):=itN (fun r=>wdb r k) fun _ _ _=>none
def wq8 (N:Nat):=wq9 N (wam) N
def V131 (N:Nat) (a_0 b_1:Y3):Z0:=wty (wq8 N) a_0 b_1
def S_V131:Sig:=⟨(.pair Q13 Q0),[0,0],[],.unit,.bool,.i,fun x=>V131 big x.1 x.2.1⟩
def A_V131:Cfg:=mkCfg tab [(8,S_V74)] [(8,([.as Q13 .i,.as Q13 .i]++dr 3 [B0])),(17,[])]
noncomputable def wda (N n:Nat) (K:T12) (a0 a1:Y3) (a5:Int):Z0:=itr A_V131 N 8 Tryz.f24 [1,1,0,1,0,0] n (([.val Q13 .i a0,.val Q13 .i a1]++ud 3 [W0 a5])++us 21) K
noncomputable def wtz:Ex→St→Z0:=finish A_V131 S_V131 Tryz.f24.results.toList
noncomputable def w0g (kX:T3):Z0:=kX ([]++us 27)
noncomputable def w0f (kX:T3) (kO:T2):=exK wtz 0 (A_V131.shape 17) kX kO
theorem w2a (N kX kO):∀n,wda N n (w0f kX kO)=wq9 N (w0g kX) n :=
 itE rfl fun m=>by kernel_rfl
noncomputable def wk1 (N:Nat):=(blockK 0 (sqK A_V131 N 17 500008 Tryz.f24 [1,1,1] wtz))
noncomputable def w0h (N:Nat) (st':St):Z0:=rn A_V131 N Tryz.f24 [1,1,1] st' wtz
theorem xe8 (N):wda N N (wk1 N)=wq8 N:=by
 rw[show wda N N (wk1 N)=wda N N (w0f (w0h N) fun j=>(wk1 N) (.exit j)) from(by funext _ _ _;exact jll),w2a,show w0g (w0h N)=wam by kernel_rfl];rfl
theorem run_V131 (N x):runF A_V131 N Tryz.f24 S_V131 x=V131 N x.1 x.2.1:=(show _=(wty (wda N N (wk1 N)) x.1 x.2.1) by kernel_rfl).trans (by rw[xe8 N];rfl)
theorem ok_V131:OK 24 S_V131:=gdR (A:=A_V131) tc Tryz.func24 (jeq ⟨ok_V74,trivial⟩) (run_V131 big)
def wt0 (p_0:Y2) (list_1:Unit):Z8 :=
  (V35 p_0).bind fun rq1 =>
  cond (!rq1.1.2.1)
  (some (([],false,()),(())))
  ((V125 rq1.1.1).bind fun rq2 =>
  some ((rq2.1,true,()),(())))
def V132 (p_0:Y2) (list_1:Unit):Z8:=wt0 p_0 list_1
def S_V132:Sig:=⟨(.pair Q0 (.pair (.clo 57 0 .unit) .unit)),[0,0],[],.unit,(.tup (.pair Q6 Q12)),(.p O4 .i),fun x=>V132 x.1 x.2.1⟩
def A_V132:Cfg:=mkCfg tab [(49,S_V35),(57,S_V125)] []
theorem run_V132 (N x):runF A_V132 N Tryz.f62 S_V132 x=V132 x.1 x.2.1:=by kernel_rfl
theorem ok_V132:OK 62 S_V132:=gdR (A:=A_V132) tc Tryz.func62 (jeq ⟨ok_V35,ok_V125,trivial⟩) (run_V132 big)
def wt1 (p_0:Y2):Z8 :=
  (V132 p_0 ()).bind fun rq1 =>
  some ((rq1.1.1,(((),rq1.1.2).2).1,()),(()))
def V133 (p_0:Y2):Z8:=wt1 p_0
def S_V133:Sig:=⟨Q15,[0],[],.unit,(.tup (.pair Q6 Q12)),(.p O4 .i),fun x=>V133 x.1⟩
def A_V133:Cfg:=mkCfg tab [(62,S_V132)] []
theorem run_V133 (N x):runF A_V133 N Tryz.f25 S_V133 x=V133 x.1:=by kernel_rfl
theorem ok_V133:OK 25 S_V133:=gdR (A:=A_V133) tc Tryz.func25 (jeq ⟨ok_V132,trivial⟩) (run_V133 big)
def xhr (code_0:Y4):Z0 :=
  (V0 code_0).bind fun rq1 =>
  cond rq1.1
  (some (true,(())))
  ((V24 code_0).bind fun rq2 =>
  (V53 rq2.1.1 rq2.1.2.1).bind fun rq3 =>
  (V73 rq2.1.1 rq2.1.2.1).bind fun rq4 =>
  cond (((((),rq3.1.2).2).1) != ((((),rq4.1.2).2).1))
  (some (false,(())))
  ((V74 big rq3.1.1 rq4.1.1).bind fun rq5 =>
  cond (!rq5.1)
  (some (false,(())))
  (cond ((((),rq3.1.2).2).1)
  ((V76 big rq2.1.1 rq3.1.1).bind fun rq6 =>
  (V79 rq2.1.1).bind fun rq7 =>
  (V88 rq7.1.1 rq3.1.1).bind fun rq8 =>
  (V95 rq7.1.1).bind fun rq9 =>
  cond (!rq6.1.2.1)
  (some (false,(())))
  (cond (decide (rq6.1.1≠rq2.1.2.1))
  (some (false,(())))
  (cond (!((((),rq7.1.2).2).1))
  (some (false,(())))
  (cond (!rq8.1.2.1)
  (some (false,(())))
  (cond (!rq8.1.1)
  (some (false,(())))
  (cond (!((((),rq9.1.2).2).1))
  (some (false,(())))
  (cond (decide ((rq9.1.1.length:Int)≠(rq2.1.1.1.length:Int)))
  (some (false,(())))
  ((V97 code_0).bind fun rq10 =>
  (V76 big rq10.1.1 rq10.1.2.1).bind fun rq11 =>
  (V99 big rq10.1.1 rq10.1.2.1).bind fun rq12 =>
  cond (decide (rq11.1.1≠rq12.1.1))
  (some (false,(())))
  (cond (rq11.1.2.1 != rq12.1.2.1)
  (some (false,(())))
  ((V107 code_0).bind fun rq13 =>
  (V112 rq13.1.1 rq13.1.2.1).bind fun rq14 =>
  (V114 rq13.1.1 rq13.1.2.1).bind fun rq15 =>
  cond (rq14.1.1 != rq15.1.1)
  (some (false,(())))
  (cond (rq14.1.2.1 != rq15.1.2.1)
  (some (false,(())))
  ((V115 code_0).bind fun rq16 =>
  (V116 rq16.1.1 rq16.1.2.1).bind fun rq17 =>
  (V117 rq16.1.1 rq16.1.2.1).bind fun rq18 =>
  cond (((((),rq17.1.2).2).1) != ((((),rq18.1.2).2).1))
  (some (false,(())))
  ((V74 big rq17.1.1 rq18.1.1).bind fun rq19 =>
  cond (!rq19.1)
  (some (false,(())))
  (cond ((((),rq17.1.2).2).1)
  ((V112 rq16.1.1 rq17.1.1).bind fun rq20 =>
  cond (!rq20.1.2.1)
  (some (false,(())))
  (cond (!rq20.1.1)
  (some (false,(())))
  ((V119 code_0).bind fun rq21 =>
  (V126 big rq21.1).bind fun rq22 =>
  (V130 big rq21.1).bind fun rq23 =>
  cond (((((),rq22.1.2).2).1) != rq23.1.2.1)
  (some (false,(())))
  ((V131 big rq22.1.1 rq23.1.1).bind fun rq24 =>
  cond (!rq24.1)
  (some (false,(())))
  ((V133 rq21.1).bind fun rq25 =>
  cond (((((),rq25.1.2).2).1)==((((),rq22.1.2).2).1))
  (some (decide ((rq25.1.1.length:Int)=(rq22.1.1.length:Int)),(())))
  (some (false,(()))))))))
  ((V119 code_0).bind fun rq26 =>
  (V126 big rq26.1).bind fun rq27 =>
  (V130 big rq26.1).bind fun rq28 =>
  cond (((((),rq27.1.2).2).1) != rq28.1.2.1)
  (some (false,(())))
  ((V131 big rq27.1.1 rq28.1.1).bind fun rq29 =>
  cond (!rq29.1)
  (some (false,(())))
  ((V133 rq26.1).bind fun rq30 =>
  cond (((((),rq30.1.2).2).1)==((((),rq27.1.2).2).1))
  (some (decide ((rq30.1.1.length:Int)=(rq27.1.1.length:Int)),(())))
  (some (false,(()))))))))))))))))))))
  ((V97 code_0).bind fun rq31 =>
  (V76 big rq31.1.1 rq31.1.2.1).bind fun rq32 =>
  (V99 big rq31.1.1 rq31.1.2.1).bind fun rq33 =>
  cond (decide (rq32.1.1≠rq33.1.1))
  (some (false,(())))
  (cond (rq32.1.2.1 != rq33.1.2.1)
  (some (false,(())))
  ((V107 code_0).bind fun rq34 =>
  (V112 rq34.1.1 rq34.1.2.1).bind fun rq35 =>
  (V114 rq34.1.1 rq34.1.2.1).bind fun rq36 =>
  cond (rq35.1.1 != rq36.1.1)
  (some (false,(())))
  (cond (rq35.1.2.1 != rq36.1.2.1)
  (some (false,(())))
  ((V115 code_0).bind fun rq37 =>
  (V116 rq37.1.1 rq37.1.2.1).bind fun rq38 =>
  (V117 rq37.1.1 rq37.1.2.1).bind fun rq39 =>
  cond (((((),rq38.1.2).2).1) != ((((),rq39.1.2).2).1))
  (some (false,(())))
  ((V74 big rq38.1.1 rq39.1.1).bind fun rq40 =>
  cond (!rq40.1)
  (some (false,(())))
  (cond ((((),rq38.1.2).2).1)
  ((V112 rq37.1.1 rq38.1.1).bind fun rq41 =>
  cond (!rq41.1.2.1)
  (some (false,(())))
  (cond (!rq41.1.1)
  (some (false,(())))
  ((V119 code_0).bind fun rq42 =>
  (V126 big rq42.1).bind fun rq43 =>
  (V130 big rq42.1).bind fun rq44 =>
  cond (((((),rq43.1.2).2).1) != rq44.1.2.1)
  (some (false,(())))
  ((V131 big rq43.1.1 rq44.1.1).bind fun rq45 =>
  cond (!rq45.1)
  (some (false,(())))
  ((V133 rq42.1).bind fun rq46 =>
  cond (((((),rq46.1.2).2).1)==((((),rq43.1.2).2).1))
  (some (decide ((rq46.1.1.length:Int)=(rq43.1.1.length:Int)),(())))
  (some (false,(()))))))))
  ((V119 code_0).bind fun rq47 =>
  (V126 big rq47.1).bind fun rq48 =>
  (V130 big rq47.1).bind fun rq49 =>
  cond (((((),rq48.1.2).2).1) != rq49.1.2.1)
  (some (false,(())))
  ((V131 big rq48.1.1 rq49.1.1).bind fun rq50 =>
  cond (!rq50.1)
  (some (false,(())))
  ((V133 rq47.1).bind fun rq51 =>
  cond (((((),rq51.1.2).2).1)==((((),rq48.1.2).2).1))
  (some (decide ((rq51.1.1.length:Int)=(rq48.1.1.length:Int)),(())))
  (some (false,(()))))))))))))))))
def laws_FnBooleanCongruences (code_0:Y4):Z0:=xhr code_0
def S_laws_FnBooleanCongruences:Sig:=⟨Q19,[0],[],.unit,.bool,.i,fun x=>laws_FnBooleanCongruences x.1⟩
def A_Vx0:Cfg:=mkCfg tab [(4,S_V0),(5,S_V24),(6,S_V53),(7,S_V73),(8,S_V74),(9,S_V76),(10,S_V79),(11,S_V88),(12,S_V95),(13,S_V97),(14,S_V99),(15,S_V107),(16,S_V112),(17,S_V114),(18,S_V115),(19,S_V116),(20,S_V117),(21,S_V119),(22,S_V126),(23,S_V130),(24,S_V131),(25,S_V133)] []
theorem run_laws_FnBooleanCongruences (N x):runF A_Vx0 N Tryz.f3 S_laws_FnBooleanCongruences x=laws_FnBooleanCongruences x.1:=by kernel_rfl
theorem ok_laws_FnBooleanCongruences:OK 3 S_laws_FnBooleanCongruences:=gdR (A:=A_Vx0) tc Tryz.func3 (jeq ⟨ok_V0,ok_V24,ok_V53,ok_V73,ok_V74,ok_V76,ok_V79,ok_V88,ok_V95,ok_V97,ok_V99,ok_V107,ok_V112,ok_V114,ok_V115,ok_V116,ok_V117,ok_V119,ok_V126,ok_V130,ok_V131,ok_V133,trivial⟩) (run_laws_FnBooleanCongruences big)
theorem good_laws_FnBooleanCongruences:Gx.Good Tryz.prog 3 S_laws_FnBooleanCongruences:=ok_laws_FnBooleanCongruences.2
end
end Go.Proofs.YtclaienmkbpkaaaGreat
