import Derived.Test.YtmebolidmeljeaaGreatGBMp3
set_option maxRecDepth 100000
set_option linter.unusedVariables false
namespace Go.Proofs.YtmebolidmeljeaaGreat
open Go Go.Gx Go.Proofs
def waz (rec:T17) (k:T2) (a0:Y1) (a5:Z12) (a6:Bool) (a7:Y4) (a9 a25 a26 a31 a32:Int) (a56:Y4) (a57 a58:Int):Z3 :=
  cond (decide (a58<a57))
  ((atI a56 a58).bind fun _ =>
  (a56[a58.toNat]?).bind fun xq13 =>
  cond a6
  ((atI a5 xq13).bind fun _ =>
  (a5[xq13.toNat]?).bind fun xq14 =>
  rec a0 (a5.set xq13.toNat true) true a7 a9 a25 a26 a31 a32 a56 a57 (IntKind.i64.wrap (a58+1)))
  ((atI a5 xq13).bind fun _ =>
  (a5[xq13.toNat]?).bind fun xq15 =>
  (atI a5 xq13).bind fun _ =>
  (a5[xq13.toNat]?).bind fun xq16 =>
  rec a0 (a5.set xq13.toNat true) (!xq15) a7 a9 a25 a26 a31 a32 a56 a57 (IntKind.i64.wrap (a58+1))))
  (k a0 a5 a6 a7 a9 a25 a26 a31 a32)
def yk (rec:T2) (a0:Y1) (a5:Z12) (a6:Bool) (a7:Y4) (a9 a25 a26 a31 a32:Int):Z3 :=
  rec a0 a5 a6 a7 a9 a25 a26 a31 (IntKind.i64.wrap (a32+1))
def way (L13:T17) (k:T5) (a0:Y1) (a5:Z12) (a6:Bool) (a7:Y4) (a9 a25 a26 a31 a32:Int):Z3 :=
  cond (decide (a32<a31))
  ((atI a7 a32).bind fun _ =>
  (a7[a32.toNat]?).bind fun xq6 =>
  (a0).bind fun xq7 =>
  (atI xq7.2.1 a9).bind fun xq8 =>
  (atI xq8 xq6).bind fun xq9 =>
  (a0).bind fun xq10 =>
  (atI xq10.2.2.1 a9).bind fun xq11 =>
  (atI xq11 xq6).bind fun xq12 =>
  L13 a0 a5 a6 a7 a9 a25 a26 a31 a32 [xq9,xq12] ([xq9,xq12].length:Int) 0)
  (k a0 a5 a6 a7 a25 a26)
def xw (rec:T5) (a0:Y1) (a5:Z12) (a6:Bool) (a7:Y4) (a25 a26:Int):Z3 :=
  rec a0 a5 a6 a7 a25 (IntKind.i64.wrap (a26+1))
def wgq (L10:T2) (k:T50) (a0:Y1) (a5:Z12) (a6:Bool) (a7:Y4) (a25 a26:Int):Z3 :=
  cond (decide (a26<a25))
  ((atI a7 a26).bind fun _ =>
  (a7[a26.toNat]?).bind fun xq5 =>
  L10 a0 a5 a6 a7 xq5 a25 a26 (a7.length:Int) 0)
  (k a0 a5 a6)
def zl (rec:T50) (a0:Y1) (a5:Z12) (a6:Bool):Z3 :=
  rec a0 a5 a6
def wqv (L7:T5) (k:Z12→Z3) (a0:Y1) (a5:Z12) (a6:Bool):Z3 :=
  cond a6
  ((V95 big a5).bind fun rq3 =>
  L7 a0 a5 false rq3.1 (rq3.1.length:Int) 0)
  (k a5)
def wb2 (a5:Z12):Z3 :=
  (V95 big a5).bind fun rq4 =>
  some (rq4.1,(()))
def w43 (L3:T50) (l_0:Y1) (some_1:Y4):Z3 :=
  (l_0).bind fun xq1 =>
  (V94 big some_1 (xq1.1.length:Int)).bind fun rq2 =>
  L3 l_0 rq2.1 true
def wsp (N:Nat) (k:T2):=itN (fun r=>waz r k) fun _ _ _ _ _ _ _ _ _ _ _ _=>none
def wgo (N:Nat) (rec:T2) (k:T5):=wsp N (yk rec) N
def wso (N:Nat) (k:T5):=itN (fun r=>way (wgo N r k) k) fun _ _ _ _ _ _ _ _ _=>none
def wgn (N:Nat) (rec:T5) (k:T50):=wso N (xw rec) N
def wx4 (N:Nat) (k:T50):=itN (fun r=>wgq (wgn N r k) k) fun _ _ _ _ _ _=>none
def wqq (N:Nat) (rec:T50) (k:Z12→Z3):=wx4 N (zl rec) N
def wx3 (N:Nat) (k:Z12→Z3):=itN (fun r=>wqv (wqq N r k) k) fun _ _ _=>none
def wx2 (N:Nat):=wx3 N (wb2) N
def V96 (N:Nat) (l_0:Y1) (some_1:Y4):Z3:=w43 (wx2 N) l_0 some_1
def S_V96:Sig:=⟨(.pair Q1 Q9),[0,0],[],.unit,Q6,O4,fun x=>V96 big x.1 x.2.1⟩
def A_V96:Cfg:=mkCfg tab [(109,S_V94),(110,S_V95)] [(6,([B5]++dr 4 [.as Q16 O4,B8])),(14,([B5]++dr 4 ([.as Q16 O4,B8,B1]++dr 16 [.keep,B0,B0]))),(41,(dr 5 [.as Q16 O4])),(20,([B5]++dr 4 ([.as Q16 O4,B8,B1,D0,B0]++dr 14 ([.keep,B0,B0]++dr 3 [.keep,B0,B0])))),(26,([B5]++dr 4 ([.as Q16 O4,B8,B1,D0,B0]++dr 14 ([.keep,B0,B0]++dr 3 ([.keep,B0,B0]++dr 23 [B1,B0,B0]))))),(39,([B5]++dr 4 ([.as Q16 O4,B8,B1]++dr 16 [.keep,B0,B0]))),(37,([B5]++dr 4 ([.as Q16 O4,B8,B1,D0,B0]++dr 14 ([.keep,B0,B0]++dr 3 [.keep,B0,B0]))))]
noncomputable def wb0 (N n:Nat) (K:T26) (a0:Y1) (a5:Z12) (a6:Bool):Z3:=itr A_V96 N 6 Tryz.f85 [1,1,0,1,0,0] n (([W5 a0]++ud 4 [.val Q16 O4 a5,W8 a6])++us 71) K
noncomputable def wb1 (N n:Nat) (K:T26) (a0:Y1) (a5:Z12) (a6:Bool) (a7:Y4) (a25 a26:Int):Z3:=itr A_V96 N 14 Tryz.f85 [1,1,0,1,0,0,1,0,1,1,1,0,0] n ([W5 a0,.u,.u,.u,.u,.val Q16 O4 a5,W8 a6,W1 a7,.u,.u,.u,.u,.u,.u,.u,.u,.u,.u,.u,.u,.u,.u,.u,.u,.ref 7 [] .val,W0 a25,W0 a26]++us 51) K
noncomputable def yj (N n:Nat) (K:T26) (a0:Y1) (a5:Z12) (a6:Bool) (a7:Y4) (a9 a25 a26 a31 a32:Int):Z3:=itr A_V96 N 20 Tryz.f85 [1,1,0,1,0,0,1,0,1,1,1,0,0,1,1,0,0,1,1,0,0] n ([W5 a0,.u,.u,.u,.u,.val Q16 O4 a5,W8 a6,W1 a7,.u,W0 a9,.u,.u,.u,.u,.u,.u,.u,.u,.u,.u,.u,.u,.u,.u,.ref 7 [] .val,W0 a25,W0 a26,.u,.u,.u,.ref 7 [] .val,W0 a31,W0 a32]++us 45) K
noncomputable def wgp (N n:Nat) (K:T26) (a0:Y1) (a5:Z12) (a6:Bool) (a7:Y4) (a9 a25 a26 a31 a32:Int) (a56:Y4) (a57 a58:Int):Z3:=itr A_V96 N 26 Tryz.f85 [1,1,0,1,0,0,1,0,1,1,1,0,0,1,1,0,0,1,1,0,0,1,1,0,0,1,1,0,0] n ([W5 a0,.u,.u,.u,.u,.val Q16 O4 a5,W8 a6,W1 a7,.u,W0 a9,.u,.u,.u,.u,.u,.u,.u,.u,.u,.u,.u,.u,.u,.u,.ref 7 [] .val,W0 a25,W0 a26,.u,.u,.u,.ref 7 [] .val,W0 a31,W0 a32,.u,.u,.u,.u,.u,.u,.u,.u,.u,.u,.u,.u,.u,.u,.u,.u,.u,.u,.u,.u,.u,.u,.u,W1 a56,W0 a57,W0 a58]++us 19) K
noncomputable def wmf:Ex→St→Z3:=finish A_V96 S_V96 Tryz.f85.results.toList
noncomputable def wqt (kX:T11) (a5:Z12):Z3:=kX ((ud 5 [.val Q16 O4 a5])++us 72)
noncomputable def wgl (kX:T11) (kO:T6):=exK wmf 0 (A_V96.shape 41) kX kO
noncomputable def wqu (kX:T11) (a0:Y1) (a5:Z12) (a6:Bool):Z3:=kX (([W5 a0]++ud 4 [.val Q16 O4 a5,W8 a6])++us 71)
noncomputable def wgm (kX:T11) (kO:T6):=exK wmf 2 (A_V96.shape 6) kX kO
noncomputable def wme (kX:T11) (a0:Y1) (a5:Z12) (a6:Bool) (a7:Y4) (a25 a26:Int):Z3:=kX ([W5 a0,.u,.u,.u,.u,.val Q16 O4 a5,W8 a6,W1 a7,.u,.u,.u,.u,.u,.u,.u,.u,.u,.u,.u,.u,.u,.u,.u,.u,.ref 7 [] .val,W0 a25,W0 a26]++us 51)
noncomputable def wax (kX:T11) (kO:T6):=exK wmf 4 (A_V96.shape 39) kX kO
noncomputable def w1o (kX:T11) (a0:Y1) (a5:Z12) (a6:Bool) (a7:Y4) (a9 a25 a26 a31 a32:Int):Z3:=kX ([W5 a0,.u,.u,.u,.u,.val Q16 O4 a5,W8 a6,W1 a7,.u,W0 a9,.u,.u,.u,.u,.u,.u,.u,.u,.u,.u,.u,.u,.u,.u,.ref 7 [] .val,W0 a25,W0 a26,.u,.u,.u,.ref 7 [] .val,W0 a31,W0 a32]++us 45)
noncomputable def w1n (kX:T11) (kO:T6):=exK wmf 6 (A_V96.shape 37) kX kO
theorem w42 (N kX kO):∀n,wgp N n (w1n kX kO)=wsp N (w1o kX) n :=
 itE rfl fun m=>by kernel_rfl
noncomputable def wmd (N m:Nat) (kX:T11) (kO:T6):=(blockK 6 (blockK 5 (sqK A_V96 N 37 500018 Tryz.f85 [1,1,0,1,0,0,1,0,1,1,1,0,0,1,1,0,0,1,1,0,0,1,1,1] (itK A_V96 N 20 Tryz.f85 [1,1,0,1,0,0,1,0,1,1,1,0,0,1,1,0,0,1,1,0,0] m (wax kX kO)))))
noncomputable def w1q (N m:Nat) (kX:T11) (kO:T6) (st':St):Z3:=rn A_V96 N Tryz.f85 [1,1,0,1,0,0,1,0,1,1,1,0,0,1,1,0,0,1,1,0,0,1,1,1] st' (itK A_V96 N 20 Tryz.f85 [1,1,0,1,0,0,1,0,1,1,1,0,0,1,1,0,0,1,1,0,0] m (wax kX kO))
theorem xfj (N m kX kO) {r}(h:yj N m (wax kX kO)=r):wgp N N (wmd N m kX kO)=wgo N r (wme kX):=by
 rw[show wgp N N (wmd N m kX kO)=wgp N N (w1n (w1q N m kX kO) fun j=>(wmd N m kX kO) (.exit j)) from(by funext _ _ _ _ _ _ _ _ _ _ _ _;exact jlo),w42,show w1o (w1q N m kX kO)=yk (yj N m (wax kX kO)) by kernel_rfl,h];rfl
theorem w41 (N kX kO):∀n,yj N n (wax kX kO)=wso N (wme kX) n :=
 itE rfl fun m=>(show _=way (wgp N N (wmd N m kX kO)) (wme kX) by kernel_rfl).trans (by rw[xfj N m kX kO rfl]<;>rfl)
noncomputable def wmc (N m:Nat) (kX:T11) (kO:T6):=(blockK 4 (blockK 3 (sqK A_V96 N 39 500019 Tryz.f85 [1,1,0,1,0,0,1,0,1,1,1,0,0,1,1,1] (itK A_V96 N 14 Tryz.f85 [1,1,0,1,0,0,1,0,1,1,1,0,0] m (wgm kX kO)))))
noncomputable def w1p (N m:Nat) (kX:T11) (kO:T6) (st':St):Z3:=rn A_V96 N Tryz.f85 [1,1,0,1,0,0,1,0,1,1,1,0,0,1,1,1] st' (itK A_V96 N 14 Tryz.f85 [1,1,0,1,0,0,1,0,1,1,1,0,0] m (wgm kX kO))
theorem xfi (N m kX kO) {r}(h:wb1 N m (wgm kX kO)=r):yj N N (wmc N m kX kO)=wgn N r (wqu kX):=by
 rw[show yj N N (wmc N m kX kO)=yj N N (wax (w1p N m kX kO) fun j=>(wmc N m kX kO) (.exit j)) from(by funext _ _ _ _ _ _ _ _ _;exact jlo),w41,show wme (w1p N m kX kO)=xw (wb1 N m (wgm kX kO)) by kernel_rfl,h];rfl
theorem xdf (N kX kO):∀n,wb1 N n (wgm kX kO)=wx4 N (wqu kX) n :=
 itE rfl fun m=>(show _=wgq (yj N N (wmc N m kX kO)) (wqu kX) by kernel_rfl).trans (by rw[xfi N m kX kO rfl]<;>rfl)
noncomputable def wqs (N m:Nat) (kX:T11) (kO:T6):=(blockK 2 (blockK 1 (itK A_V96 N 6 Tryz.f85 [1,1,0,1,0,0] m (wgl kX kO))))
noncomputable def xdh (N m:Nat) (kX:T11) (kO:T6) (st':St):Z3:=itr A_V96 N 6 Tryz.f85 [1,1,0,1,0,0] m st' (wgl kX kO)
theorem xkf (N m kX kO) {r}(h:wb0 N m (wgl kX kO)=r):wb1 N N (wqs N m kX kO)=wqq N r (wqt kX):=by
 rw[show wb1 N N (wqs N m kX kO)=wb1 N N (wgm (xdh N m kX kO) fun j=>(wqs N m kX kO) (.exit j)) from(by funext _ _ _ _ _ _;exact jlo),xdf,show wqu (xdh N m kX kO)=zl (wb0 N m (wgl kX kO)) by kernel_rfl,h];rfl
theorem xde (N kX kO):∀n,wb0 N n (wgl kX kO)=wx3 N (wqt kX) n :=
 itE rfl fun m=>(show _=wqv (wb1 N N (wqs N m kX kO)) (wqt kX) by kernel_rfl).trans (by rw[xkf N m kX kO rfl]<;>rfl)
noncomputable def wqr (N:Nat):=(blockK 0 (sqK A_V96 N 41 500020 Tryz.f85 [1,1,1] wmf))
noncomputable def xdg (N:Nat) (st':St):Z3:=rn A_V96 N Tryz.f85 [1,1,1] st' wmf
theorem xke (N):wb0 N N (wqr N)=wx2 N:=by
 rw[show wb0 N N (wqr N)=wb0 N N (wgl (xdg N) fun j=>(wqr N) (.exit j)) from(by funext _ _ _;exact jlo),xde,show wqt (xdg N)=wb2 by kernel_rfl];rfl
theorem run_V96 (N x):runF A_V96 N Tryz.f85 S_V96 x=V96 N x.1 x.2.1:=(show _=(w43 (wb0 N N (wqr N)) x.1 x.2.1) by kernel_rfl).trans (by rw[xke N];rfl)
theorem ok_V96:OK 85 S_V96:=gdR (A:=A_V96) tc Tryz.func85 (jeq ⟨ok_V94,ok_V95,trivial⟩) (run_V96 big)
def xg8 (l_0:Y1) (list_1:Y4):Option Z1 :=
  cond (decide (0<(list_1.length:Int)))
  ((l_0).bind fun xq1 =>
  (V77 xq1.1 list_1).bind fun rq2 =>
  cond rq2.1
  ((V42 big list_1).bind fun rq3 =>
  cond rq3.1
  ((V96 big l_0 list_1).bind fun rq4 =>
  some (decide ((rq4.1.length:Int)=(list_1.length:Int)),(())))
  (some (false,(()))))
  (some (false,(()))))
  (some (false,(())))
def V97 (l_0:Y1) (list_1:Y4):Option Z1:=xg8 l_0 list_1
def S_V97:Sig:=⟨(.pair Q1 Q9),[0,0],[],.unit,.bool,.i,fun x=>V97 x.1 x.2.1⟩
def A_V97:Cfg:=mkCfg tab [(73,S_V77),(84,S_V42),(85,S_V96)] []
theorem run_V97 (N x):runF A_V97 N Tryz.f43 S_V97 x=V97 x.1 x.2.1:=by kernel_rfl
theorem ok_V97:OK 43 S_V97:=gdR (A:=A_V97) tc Tryz.func43 (jeq ⟨ok_V77,ok_V42,ok_V96,trivial⟩) (run_V97 big)
def wkq (rec:Int→Y4→Int→Int→Option Z1) (k:Option Z1) (a1:Int) (a7:Y4) (a8 a9:Int):Option Z1 :=
  cond (decide (a9<a8))
  ((atI a7 a9).bind fun xq1 =>
  cond (decide (a1=xq1))
  (some (false,(())))
  (rec a1 a7 a8 (IntKind.i64.wrap (a9+1))))
  (k)
def wgr:Option Z1 :=
  some (true,(()))
def w44 (L2:Int→Y4→Int→Int→Option Z1) (list_0:Y4) (x_1:Int):Option Z1 :=
  L2 x_1 list_0 (list_0.length:Int) 0
def wx6 (N:Nat) (k:Option Z1):=itN (fun r=>wkq r k) fun _ _ _ _=>none
def wx5 (N:Nat):=wx6 N (wgr) N
def V98 (N:Nat) (list_0:Y4) (x_1:Int):Option Z1:=w44 (wx5 N) list_0 x_1
def S_V98:Sig:=⟨(.pair Q6 Q17),[0,0],[],.unit,.bool,.i,fun x=>V98 big x.1 x.2.1⟩
def A_V98:Cfg:=mkCfg tab [] [(4,([D0,B0]++dr 5 [B4,B0,B0])),(15,[])]
noncomputable def wkp (N n:Nat) (K:Ex→St→Option Z1) (a1:Int) (a7:Y4) (a8 a9:Int):Option Z1:=itr A_V98 N 4 Tryz.f44 [1,0,1,0,0] n (([.u,W0 a1]++ud 5 [W4 a7,W0 a8,W0 a9])++us 7) K
noncomputable def w45:Ex→St→Option Z1:=finish A_V98 S_V98 Tryz.f44.results.toList
noncomputable def xdj (kX:St→Option Z1):Option Z1:=kX ([]++us 17)
noncomputable def xdi (kX:St→Option Z1) (kO:Nat→St→Option Z1):Ex→St→Option Z1:=exK w45 0 (A_V98.shape 15) kX kO
theorem xdk (N kX kO):∀n,wkp N n (xdi kX kO)=wx6 N (xdj kX) n :=
 itE rfl fun m=>by kernel_rfl
noncomputable def wqw (N:Nat):Ex→St→Option Z1:=(blockK 0 (sqK A_V98 N 15 500007 Tryz.f44 [1,1] w45))
noncomputable def xdl (N:Nat) (st':St):Option Z1:=rn A_V98 N Tryz.f44 [1,1] st' w45
theorem xkg (N):wkp N N (wqw N)=wx5 N:=by
 rw[show wkp N N (wqw N)=wkp N N (xdi (xdl N) fun j=>(wqw N) (.exit j)) from(by funext _ _ _ _;exact jlo),xdk,show xdj (xdl N)=wgr by kernel_rfl];rfl
theorem run_V98 (N x):runF A_V98 N Tryz.f44 S_V98 x=V98 N x.1 x.2.1:=(show _=(w44 (wkp N N (wqw N)) x.1 x.2.1) by kernel_rfl).trans (by rw[xkg N];rfl)
theorem ok_V98:OK 44 S_V98:=gdR (A:=A_V98) tc Tryz.func44 (jeq trivial) (run_V98 big)
def wks (rec:T83) (k:T35) (a1 a5 a11:Y4) (a12 a13:Int):Z3 :=
  cond (decide (a13<a12))
  ((atI a11 a13).bind fun xq3 =>
  (atI a1 xq3).bind fun xq4 =>
  (atI a5 a13).bind fun _ =>
  (a5[a13.toNat]?).bind fun xq5 =>
  rec a1 (a5.set a13.toNat xq4) a11 a12 (IntKind.i64.wrap (a13+1)))
  (k a5)
def wgs (a5:Y4):Z3 :=
  some (a5,(()))
def w46 (L3:T83) (f_0 g_1:Y4):Z3 :=
  (mkI (0:Int) (f_0.length:Int)).bind fun xq1=>(mkI (0:Int) (f_0.length:Int)).bind fun xq2=>cond (decide ((f_0.length:Int)≤(f_0.length:Int)))
  (L3 g_1 xq2 f_0 (f_0.length:Int) 0)
  none
def wx8 (N:Nat) (k:T35):=itN (fun r=>wks r k) fun _ _ _ _ _=>none
def wx7 (N:Nat):=wx8 N (wgs) N
def V99 (N:Nat) (f_0 g_1:Y4):Z3:=w46 (wx7 N) f_0 g_1
def S_V99:Sig:=⟨(.pair Q6 Q9),[0,0],[],.unit,Q6,O4,fun x=>V99 big x.1 x.2.1⟩
def A_V99:Cfg:=mkCfg tab [] [(6,([D0,B4]++dr 3 ([B1]++dr 5 [B4,B0,B0]))),(15,(dr 5 [B1]))]
noncomputable def wkr (N n:Nat) (K:T26) (a1 a5 a11:Y4) (a12 a13:Int):Z3:=itr A_V99 N 6 Tryz.f47 [1,1,0,1,0,0] n (([.u,W4 a1]++ud 3 ([W1 a5]++ud 5 [W4 a11,W0 a12,W0 a13]))++us 13) K
noncomputable def w47:Ex→St→Z3:=finish A_V99 S_V99 Tryz.f47.results.toList
noncomputable def xdn (kX:T11) (a5:Y4):Z3:=kX ((ud 5 [W1 a5])++us 21)
noncomputable def xdm (kX:T11) (kO:T6):=exK w47 0 (A_V99.shape 15) kX kO
theorem xdo (N kX kO):∀n,wkr N n (xdm kX kO)=wx8 N (xdn kX) n :=
 itE rfl fun m=>by kernel_rfl
noncomputable def wqx (N:Nat):=(blockK 0 (sqK A_V99 N 15 500007 Tryz.f47 [1,1,1] w47))
noncomputable def xdp (N:Nat) (st':St):Z3:=rn A_V99 N Tryz.f47 [1,1,1] st' w47
theorem xkh (N):wkr N N (wqx N)=wx7 N:=by
 rw[show wkr N N (wqx N)=wkr N N (xdm (xdp N) fun j=>(wqx N) (.exit j)) from(by funext _ _ _ _ _;exact jlo),xdo,show xdn (xdp N)=wgs by kernel_rfl];rfl
theorem run_V99 (N x):runF A_V99 N Tryz.f47 S_V99 x=V99 N x.1 x.2.1:=(show _=(w46 (wkr N N (wqx N)) x.1 x.2.1) by kernel_rfl).trans (by rw[xkh N];rfl)
theorem ok_V99:OK 47 S_V99:=gdR (A:=A_V99) tc Tryz.func47 (jeq trivial) (run_V99 big)
def wcp (rec:Y4→Y4→Int→Int→Option Z1) (k:Option Z1) (a1 a7:Y4) (a8 a9:Int):Option Z1 :=
  cond (decide (a9<a8))
  ((atI a7 a9).bind fun xq1 =>
  (V98 big a1 xq1).bind fun rq2 =>
  cond rq2.1
  (some (false,(())))
  (rec a1 a7 a8 (IntKind.i64.wrap (a9+1))))
  (k)
def zx:Option Z1 :=
  some (true,(()))
def wt8 (L2:Y4→Y4→Int→Int→Option Z1) (x_0 y_1:Y4):Option Z1 :=
  L2 y_1 x_0 (x_0.length:Int) 0
def wrr (N:Nat) (k:Option Z1):=itN (fun r=>wcp r k) fun _ _ _ _=>none
def wrq (N:Nat):=wrr N (zx) N
def V100 (N:Nat) (x_0 y_1:Y4):Option Z1:=wt8 (wrq N) x_0 y_1
def S_V100:Sig:=⟨(.pair Q6 Q9),[0,0],[],.unit,.bool,.i,fun x=>V100 big x.1 x.2.1⟩
def A_V100:Cfg:=mkCfg tab [(44,S_V98)] [(4,([D0,B4]++dr 5 [B4,B0,B0])),(15,[])]
noncomputable def wco (N n:Nat) (K:Ex→St→Option Z1) (a1 a7:Y4) (a8 a9:Int):Option Z1:=itr A_V100 N 4 Tryz.f46 [1,0,1,0,0] n (([.u,W4 a1]++ud 5 [W4 a7,W0 a8,W0 a9])++us 7) K
noncomputable def wt9:Ex→St→Option Z1:=finish A_V100 S_V100 Tryz.f46.results.toList
noncomputable def wzn (kX:St→Option Z1):Option Z1:=kX ([]++us 17)
noncomputable def wzm (kX:St→Option Z1) (kO:Nat→St→Option Z1):Ex→St→Option Z1:=exK wt9 0 (A_V100.shape 15) kX kO
theorem w12 (N kX kO):∀n,wco N n (wzm kX kO)=wrr N (wzn kX) n :=
 itE rfl fun m=>by kernel_rfl
noncomputable def wlc (N:Nat):Ex→St→Option Z1:=(blockK 0 (sqK A_V100 N 15 500007 Tryz.f46 [1,1] wt9))
noncomputable def wzo (N:Nat) (st':St):Option Z1:=rn A_V100 N Tryz.f46 [1,1] st' wt9
theorem xer (N):wco N N (wlc N)=wrq N:=by
 rw[show wco N N (wlc N)=wco N N (wzm (wzo N) fun j=>(wlc N) (.exit j)) from(by funext _ _ _ _;exact jlo),w12,show wzn (wzo N)=zx by kernel_rfl];rfl
theorem run_V100 (N x):runF A_V100 N Tryz.f46 S_V100 x=V100 N x.1 x.2.1:=(show _=(wt8 (wco N N (wlc N)) x.1 x.2.1) by kernel_rfl).trans (by rw[xer N];rfl)
theorem ok_V100:OK 46 S_V100:=gdR (A:=A_V100) tc Tryz.func46 (jeq ⟨ok_V98,trivial⟩) (run_V100 big)
end Go.Proofs.YtmebolidmeljeaaGreat
