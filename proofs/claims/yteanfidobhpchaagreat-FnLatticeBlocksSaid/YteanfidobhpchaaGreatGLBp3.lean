import Derived.Test.YteanfidobhpchaaGreatGLBp2
set_option maxRecDepth 100000
set_option linter.unusedVariables false
namespace Go.Proofs.YteanfidobhpchaaGreat
open Go Go.Gx Go.Proofs
def w94 (code_0:Y4):Option ((Y2×(Y4×Unit))×Unit) :=
  (V19 big (code_0,(0,(0,())))).bind fun rq1 =>
  (V49 rq1.2.1 rq1.1).bind fun rq2 =>
  some ((rq1.1,rq2.1,()),(()))
def V50 (code_0:Y4):Option ((Y2×(Y4×Unit))×Unit):=w94 code_0
def S_V50:Sig:=⟨(.pair Q18 .unit),[0],[],.unit,(.tup (.pair Q0 Q14)),.i,fun x=>V50 x.1⟩
def A_V50:Cfg:=mkCfg tab [(39,S_V19),(43,S_V49)] []
theorem run_V50 (N x):runF A_V50 N Tryz.f17 S_V50 x=V50 x.1:=by kernel_rfl
theorem ok_V50:OK 17 S_V50:=gdR (A:=A_V50) tc Tryz.func17 (jeb ⟨ok_V19,ok_V49,trivial⟩) (run_V50 big)
def w95 (code_0:Y4):Option ((Y2×(Y4×Unit))×Unit) :=
  (V50 code_0).bind fun rq1 =>
  some ((rq1.1.1,rq1.1.2.1,()),(()))
def V51 (code_0:Y4):Option ((Y2×(Y4×Unit))×Unit):=w95 code_0
def S_V51:Sig:=⟨(.pair Q18 .unit),[0],[],.unit,(.tup (.pair Q0 Q14)),.i,fun x=>V51 x.1⟩
def A_V51:Cfg:=mkCfg tab [(17,S_V50)] []
theorem run_V51 (N x):runF A_V51 N Tryz.f5 S_V51 x=V51 x.1:=by kernel_rfl
theorem ok_V51:OK 5 S_V51:=gdR (A:=A_V51) tc Tryz.func5 (jeb ⟨ok_V50,trivial⟩) (run_V51 big)
def wg8 (rec:T90) (k:Y5→Z13) (a0:Int) (a3:Y5) (a8 a9:Int):Z13 :=
  cond (decide (a9<a8))
  ((mkI false a0).bind fun xq3=>(mkI false a0).bind fun xq4=>cond (decide (a0≤a0))
  ((atI a3 a9).bind fun _ =>
  (a3[a9.toNat]?).bind fun xq5 =>
  rec a0 (a3.set a9.toNat xq4) a8 (IntKind.i64.wrap (a9+1)))
  none)
  (k a3)
def wcz (a3:Y5):Z13 :=
  some (a3,(()))
def wyl (L3:T90) (n_0:Int):Z13 :=
  (mkI ([]:(List Bool)) n_0).bind fun xq1=>(mkI ([]:(List Bool)) n_0).bind fun xq2=>cond (decide (n_0≤n_0))
  (L3 n_0 xq2 (xq2.length:Int) 0)
  none
def wsb (N:Nat) (k:Y5→Z13):=itN (fun r=>wg8 r k) fun _ _ _ _=>none
def wsa (N:Nat):=wsb N (wcz) N
def V52 (N:Nat) (n_0:Int):Z13:=wyl (wsa N) n_0
def S_V52:Sig:=⟨Q24,[0],[],.unit,Q6,O16,fun x=>V52 big x.1⟩
def A_V52:Cfg:=mkCfg tab [] [(6,([B0,D0,D0,B7]++dr 4 [B0,B0])),(15,(dr 3 [B7]))]
noncomputable def wg7 (N n:Nat) (K:Ex→St→Z13) (a0:Int) (a3:Y5) (a8 a9:Int):Z13:=itr A_V52 N 6 Tryz.f84 [1,1,0,1,0,0] n (([W0 a0,.u,.u,W7 a3]++ud 4 [W0 a8,W0 a9])++us 9) K
noncomputable def wym:Ex→St→Z13:=finish A_V52 S_V52 Tryz.f84.results.toList
noncomputable def w4s (kX:St→Z13) (a3:Y5):Z13:=kX ((ud 3 [W7 a3])++us 15)
noncomputable def w4r (kX:St→Z13) (kO:T116):=exK wym 0 (A_V52.shape 15) kX kO
theorem w4t (N kX kO):∀n,wg7 N n (w4r kX kO)=wsb N (w4s kX) n :=
 itE rfl fun m=>by kernel_rfl
noncomputable def wl2 (N:Nat):=(blockK 0 (sqK A_V52 N 15 500007 Tryz.f84 [1,1,1] wym))
noncomputable def w4u (N:Nat) (st':St):Z13:=rn A_V52 N Tryz.f84 [1,1,1] st' wym
theorem xcm (N):wg7 N N (wl2 N)=wsa N:=by
 rw[show wg7 N N (wl2 N)=wg7 N N (w4r (w4u N) fun j=>(wl2 N) (.exit j)) from(by funext _ _ _ _;exact jky),w4t,show w4s (w4u N)=wcz by kernel_rfl];rfl
theorem run_V52 (N x):runF A_V52 N Tryz.f84 S_V52 x=V52 N x.1:=(show _=(wyl (wg7 N N (wl2 N)) x.1) by kernel_rfl).trans (by rw[xcm N];rfl)
theorem ok_V52:OK 84 S_V52:=gdR (A:=A_V52) tc Tryz.func84 (jeb trivial) (run_V52 big)
def wsf (rec:Y4→Int→Z1) (k:Z1) (a0:Y4) (a3:Int):Z1 :=
  cond (decide (a3<(a0.length:Int)))
  ((atI a0 (IntKind.i64.wrap (a3-1))).bind fun xq1 =>
  (atI a0 a3).bind fun xq2 =>
  cond (decide (xq2≤xq1))
  (some (false,(())))
  (rec a0 (IntKind.i64.wrap (a3+1))))
  (k)
def wse:Z1 :=
  some (true,(()))
def wyn (L2:Y4→Int→Z1) (list_0:Y4):Z1 :=
  L2 list_0 1
def wg9 (N:Nat) (k:Z1):Nat→Y4→Int→Z1
  | 0,_,_=>none
  | m+1,a0,a3=>wsf (wg9 N k m) k a0 a3
def wsc (N:Nat):=wg9 N (wse) N
def V53 (N:Nat) (list_0:Y4):Z1:=wyn (wsc N) list_0
def S_V53:Sig:=⟨Q14,[0],[],.unit,.bool,.i,fun x=>V53 big x.1⟩
def A_V53:Cfg:=mkCfg tab [] [(4,[B2,D0,D0,B0]),(13,[])]
noncomputable def wag (N n:Nat) (K:T5) (a0:Y4) (a3:Int):Z1:=itr A_V53 N 4 Tryz.f85 [1,0,1,0,0] n ([W2 a0,.u,.u,W0 a3]++us 16) K
noncomputable def wyo:Ex→St→Z1:=finish A_V53 S_V53 Tryz.f85.results.toList
noncomputable def wsd (kX:T3):Z1:=kX ([]++us 20)
noncomputable def wl3 (kX:T3) (kO:T1):=exK wyo 0 (A_V53.shape 13) kX kO
theorem wo6 (N kX kO):∀n,wag N n (wl3 kX kO)=wg9 N (wsd kX) n
 | 0=>rfl
 | m+1=>(show wag N (m+1) (wl3 kX kO)=wsf (wag N m (wl3 kX kO)) (wsd kX) by kernel_rfl).trans (by rw[wo6 N kX kO m];funext _ _;rfl)
noncomputable def wl4 (N:Nat):=(blockK 0 (sqK A_V53 N 13 500006 Tryz.f85 [1,1] wyo))
noncomputable def w4v (N:Nat) (st':St):Z1:=rn A_V53 N Tryz.f85 [1,1] st' wyo
theorem xcn (N):wag N N (wl4 N)=wsc N:=by
 rw[show wag N N (wl4 N)=wag N N (wl3 (w4v N) fun j=>(wl4 N) (.exit j)) from(by funext _ _;exact jky),wo6,show wsd (w4v N)=wse by kernel_rfl];rfl
theorem run_V53 (N x):runF A_V53 N Tryz.f85 S_V53 x=V53 N x.1:=(show _=(wyn (wag N N (wl4 N)) x.1) by kernel_rfl).trans (by rw[xcn N];rfl)
theorem ok_V53:OK 85 S_V53:=gdR (A:=A_V53) tc Tryz.func85 (jeb trivial) (run_V53 big)
def wsj (rec:Int→Y4→Int→Int→Z1) (k:Z1) (a1:Int) (a7:Y4) (a8 a9:Int):Z1 :=
  cond (decide (a9<a8))
  ((atI a7 a9).bind fun xq1 =>
  cond (decide (xq1<0))
  (some (false,(())))
  (cond (decide (a1≤xq1))
  (some (false,(())))
  (rec a1 a7 a8 (IntKind.i64.wrap (a9+1)))))
  (k)
def wsi:Z1 :=
  some (true,(()))
def wyp (L2:Int→Y4→Int→Int→Z1) (list_0:Y4) (n_1:Int):Z1 :=
  L2 n_1 list_0 (list_0.length:Int) 0
def wha (N:Nat) (k:Z1):Nat→Int→Y4→Int→Int→Z1
  | 0,_,_,_,_=>none
  | m+1,a1,a7,a8,a9=>wsj (wha N k m) k a1 a7 a8 a9
def wsg (N:Nat):=wha N (wsi) N
def V54 (N:Nat) (list_0:Y4) (n_1:Int):Z1:=wyp (wsg N) list_0 n_1
def S_V54:Sig:=⟨(.pair Q7 Q24),[0,0],[],.unit,.bool,.i,fun x=>V54 big x.1 x.2.1⟩
def A_V54:Cfg:=mkCfg tab [] [(4,([D0,B0]++dr 5 [B2,B0,B0])),(15,[])]
noncomputable def wah (N n:Nat) (K:T5) (a1:Int) (a7:Y4) (a8 a9:Int):Z1:=itr A_V54 N 4 Tryz.f58 [1,0,1,0,0] n (([.u,W0 a1]++ud 5 [W2 a7,W0 a8,W0 a9])++us 11) K
noncomputable def wyq:Ex→St→Z1:=finish A_V54 S_V54 Tryz.f58.results.toList
noncomputable def wsh (kX:T3):Z1:=kX ([]++us 21)
noncomputable def wl5 (kX:T3) (kO:T1):=exK wyq 0 (A_V54.shape 15) kX kO
theorem wo7 (N kX kO):∀n,wah N n (wl5 kX kO)=wha N (wsh kX) n
 | 0=>rfl
 | m+1=>(show wah N (m+1) (wl5 kX kO)=wsj (wah N m (wl5 kX kO)) (wsh kX) by kernel_rfl).trans (by rw[wo7 N kX kO m];funext _ _ _ _;rfl)
noncomputable def wl6 (N:Nat):=(blockK 0 (sqK A_V54 N 15 500007 Tryz.f58 [1,1] wyq))
noncomputable def w4w (N:Nat) (st':St):Z1:=rn A_V54 N Tryz.f58 [1,1] st' wyq
theorem xco (N):wah N N (wl6 N)=wsg N:=by
 rw[show wah N N (wl6 N)=wah N N (wl5 (w4w N) fun j=>(wl6 N) (.exit j)) from(by funext _ _ _ _;exact jky),wo7,show wsh (w4w N)=wsi by kernel_rfl];rfl
theorem run_V54 (N x):runF A_V54 N Tryz.f58 S_V54 x=V54 N x.1 x.2.1:=(show _=(wyp (wah N N (wl6 N)) x.1 x.2.1) by kernel_rfl).trans (by rw[xco N];rfl)
theorem ok_V54:OK 58 S_V54:=gdR (A:=A_V54) tc Tryz.func58 (jeb trivial) (run_V54 big)
def wc3 (rec:T27) (k:T9) (a0:Y5) (a3 a4 a7 a8 a20 a21 a46 a47:Int):Z1 :=
  cond (decide (a47<a46))
  ((atI a0 a3).bind fun xq7 =>
  (atI xq7 a4).bind fun xq8 =>
  cond xq8
  ((atI a0 a4).bind fun xq9 =>
  (atI xq9 a47).bind fun xq10 =>
  cond xq10
  ((atI a0 a3).bind fun xq11 =>
  (atI xq11 a47).bind fun xq12 =>
  cond (!xq12)
  (some (false,(())))
  (rec a0 a3 a4 a7 a8 a20 a21 a46 (IntKind.i64.wrap (a47+1))))
  (rec a0 a3 a4 a7 a8 a20 a21 a46 (IntKind.i64.wrap (a47+1))))
  (rec a0 a3 a4 a7 a8 a20 a21 a46 (IntKind.i64.wrap (a47+1))))
  (k a0 a3 a7 a8 a20 a21)
def zm (rec:T9) (a0:Y5) (a3 a7 a8 a20 a21:Int):Z1 :=
  rec a0 a3 a7 a8 a20 (IntKind.i64.wrap (a21+1))
def wc5 (L12:T27) (k:T38) (a0:Y5) (a3 a7 a8 a20 a21:Int):Z1 :=
  cond (decide (a21<a20))
  (cond (decide (a3≠a21))
  ((atI a0 a3).bind fun xq3 =>
  (atI xq3 a21).bind fun xq4 =>
  cond xq4
  ((atI a0 a21).bind fun xq5 =>
  (atI xq5 a3).bind fun xq6 =>
  cond xq6
  (some (false,(())))
  (L12 a0 a3 a21 a7 a8 a20 a21 (a0.length:Int) 0))
  (L12 a0 a3 a21 a7 a8 a20 a21 (a0.length:Int) 0))
  (L12 a0 a3 a21 a7 a8 a20 a21 (a0.length:Int) 0))
  (k a0 a7 a8)
def xk (rec:T38) (a0:Y5) (a7 a8:Int):Z1 :=
  rec a0 a7 (IntKind.i64.wrap (a8+1))
def wc4 (L7:T9) (k:Z1) (a0:Y5) (a7 a8:Int):Z1 :=
  cond (decide (a8<a7))
  ((atI a0 a8).bind fun xq1 =>
  (atI xq1 a8).bind fun xq2 =>
  cond (!xq2)
  (some (false,(())))
  (L7 a0 a8 a7 a8 (a0.length:Int) 0))
  (k)
def yj:Z1 :=
  some (true,(()))
def wys (L2:T38) (o_0:Y5):Z1 :=
  L2 o_0 (o_0.length:Int) 0
def woo (N:Nat) (k:T9):=itN (fun r=>wc3 r k) fun _ _ _ _ _ _ _ _ _=>none
def zl (N:Nat) (rec:T9) (k:T38):=woo N (zm rec) N
def wsm (N:Nat) (k:T38):=itN (fun r=>wc5 (zl N r k) k) fun _ _ _ _ _ _=>none
def whb (N:Nat) (rec:T38) (k:Z1):=wsm N (xk rec) N
def wsl (N:Nat) (k:Z1):=itN (fun r=>wc4 (whb N r k) k) fun _ _ _=>none
def wsk (N:Nat):=wsl N (yj) N
def V55 (N:Nat) (o_0:Y5):Z1:=wys (wsk N) o_0
def S_V55:Sig:=⟨(.pair Q6 .unit),[0],[],.unit,.bool,.i,fun x=>V55 big x.1⟩
def A_V55:Cfg:=mkCfg tab [] [(4,([.as Q6 .i]++dr 6 [B0,B0])),(14,([.as Q6 .i,D0,D0,B0]++dr 3 ([B0,B0]++dr 11 [B0,B0]))),(39,[]),(24,([.as Q6 .i,D0,D0,B0,B0,D0,D0,B0,B0]++dr 11 ([B0,B0]++dr 24 [B0,B0]))),(37,([.as Q6 .i]++dr 6 [B0,B0])),(35,([.as Q6 .i,D0,D0,B0]++dr 3 ([B0,B0]++dr 11 [B0,B0])))]
noncomputable def wai (N n:Nat) (K:T5) (a0:Y5) (a7 a8:Int):Z1:=itr A_V55 N 4 Tryz.f86 [1,0,1,0,0] n (([.val Q6 .i a0]++ud 6 [W0 a7,W0 a8])++us 70) K
noncomputable def waj (N n:Nat) (K:T5) (a0:Y5) (a3 a7 a8 a20 a21:Int):Z1:=itr A_V55 N 14 Tryz.f86 [1,0,1,0,0,1,1,0,0,1,1,1,0,0] n (([.val Q6 .i a0,.u,.u,W0 a3]++ud 3 ([W0 a7,W0 a8]++ud 11 [W0 a20,W0 a21]))++us 57) K
noncomputable def wc2 (N n:Nat) (K:T5) (a0:Y5) (a3 a4 a7 a8 a20 a21 a46 a47:Int):Z1:=itr A_V55 N 24 Tryz.f86 [1,0,1,0,0,1,1,0,0,1,1,1,0,0,1,1,0,0,1,1,1,0,0] n (([.val Q6 .i a0,.u,.u,W0 a3,W0 a4,.u,.u,W0 a7,W0 a8]++ud 11 ([W0 a20,W0 a21]++ud 24 [W0 a46,W0 a47]))++us 31) K
noncomputable def wmb:Ex→St→Z1:=finish A_V55 S_V55 Tryz.f86.results.toList
noncomputable def wl9 (kX:T3):Z1:=kX ([]++us 79)
noncomputable def wc0 (kX:T3) (kO:T1):=exK wmb 0 (A_V55.shape 39) kX kO
noncomputable def wma (kX:T3) (a0:Y5) (a7 a8:Int):Z1:=kX (([.val Q6 .i a0]++ud 6 [W0 a7,W0 a8])++us 70)
noncomputable def wc1 (kX:T3) (kO:T1):=exK wmb 2 (A_V55.shape 37) kX kO
noncomputable def wvw (kX:T3) (a0:Y5) (a3 a7 a8 a20 a21:Int):Z1:=kX (([.val Q6 .i a0,.u,.u,W0 a3]++ud 3 ([W0 a7,W0 a8]++ud 11 [W0 a20,W0 a21]))++us 57)
noncomputable def wvv (kX:T3) (kO:T1):=exK wmb 4 (A_V55.shape 35) kX kO
theorem wyr (N kX kO):∀n,wc2 N n (wvv kX kO)=woo N (wvw kX) n :=
 itE rfl fun m=>by kernel_rfl
noncomputable def wjh (N m:Nat) (kX:T3) (kO:T1):=(blockK 4 (blockK 3 (sqK A_V55 N 35 500017 Tryz.f86 [1,0,1,0,0,1,1,0,0,1,1,1,0,0,1,1,1] (itK A_V55 N 14 Tryz.f86 [1,0,1,0,0,1,1,0,0,1,1,1,0,0] m (wc1 kX kO)))))
noncomputable def wvx (N m:Nat) (kX:T3) (kO:T1) (st':St):Z1:=rn A_V55 N Tryz.f86 [1,0,1,0,0,1,1,0,0,1,1,1,0,0,1,1,1] st' (itK A_V55 N 14 Tryz.f86 [1,0,1,0,0,1,1,0,0,1,1,1,0,0] m (wc1 kX kO))
theorem w84 (N m kX kO) {r}(h:waj N m (wc1 kX kO)=r):wc2 N N (wjh N m kX kO)=zl N r (wma kX):=by
 rw[show wc2 N N (wjh N m kX kO)=wc2 N N (wvv (wvx N m kX kO) fun j=>(wjh N m kX kO) (.exit j)) from(by funext _ _ _ _ _ _ _ _ _;exact jky),wyr,show wvw (wvx N m kX kO)=zm (waj N m (wc1 kX kO)) by kernel_rfl,h];rfl
theorem w4y (N kX kO):∀n,waj N n (wc1 kX kO)=wsm N (wma kX) n :=
 itE rfl fun m=>(show _=wc5 (wc2 N N (wjh N m kX kO)) (wma kX) by kernel_rfl).trans (by rw[w84 N m kX kO rfl]<;>rfl)
noncomputable def wl8 (N m:Nat) (kX:T3) (kO:T1):=(blockK 2 (blockK 1 (sqK A_V55 N 37 500018 Tryz.f86 [1,0,1,0,0,1,1,1] (itK A_V55 N 4 Tryz.f86 [1,0,1,0,0] m (wc0 kX kO)))))
noncomputable def w40 (N m:Nat) (kX:T3) (kO:T1) (st':St):Z1:=rn A_V55 N Tryz.f86 [1,0,1,0,0,1,1,1] st' (itK A_V55 N 4 Tryz.f86 [1,0,1,0,0] m (wc0 kX kO))
theorem xcr (N m kX kO) {r}(h:wai N m (wc0 kX kO)=r):waj N N (wl8 N m kX kO)=whb N r (wl9 kX):=by
 rw[show waj N N (wl8 N m kX kO)=waj N N (wc1 (w40 N m kX kO) fun j=>(wl8 N m kX kO) (.exit j)) from(by funext _ _ _ _ _ _;exact jky),w4y,show wma (w40 N m kX kO)=xk (wai N m (wc0 kX kO)) by kernel_rfl,h];rfl
theorem w4x (N kX kO):∀n,wai N n (wc0 kX kO)=wsl N (wl9 kX) n :=
 itE rfl fun m=>(show _=wc4 (waj N N (wl8 N m kX kO)) (wl9 kX) by kernel_rfl).trans (by rw[xcr N m kX kO rfl]<;>rfl)
noncomputable def wl7 (N:Nat):=(blockK 0 (sqK A_V55 N 39 500019 Tryz.f86 [1,1] wmb))
noncomputable def w4z (N:Nat) (st':St):Z1:=rn A_V55 N Tryz.f86 [1,1] st' wmb
theorem xcq (N):wai N N (wl7 N)=wsk N:=by
 rw[show wai N N (wl7 N)=wai N N (wc0 (w4z N) fun j=>(wl7 N) (.exit j)) from(by funext _ _ _;exact jky),w4x,show wl9 (w4z N)=yj by kernel_rfl];rfl
theorem run_V55 (N x):runF A_V55 N Tryz.f86 S_V55 x=V55 N x.1:=(show _=(wys (wai N N (wl7 N)) x.1) by kernel_rfl).trans (by rw[xcq N];rfl)
theorem ok_V55:OK 86 S_V55:=gdR (A:=A_V55) tc Tryz.func86 (jeb trivial) (run_V55 big)
def wc9 (rec:T8) (k:T84) (a4:Int) (a5:Y5) (a6:Int) (a18:Y3) (a19 a20:Int) (a29:Y4) (a30:Int) (a31 a32:Bool) (a34:Y4) (a35 a36:Int):Z10 :=
  cond (decide (a36<a35))
  ((atI a34 a36).bind fun xq6 =>
  (atI a5 xq6).bind fun _ =>
  (a5[xq6.toNat]?).bind fun xq7 =>
  (a5[xq6.toNat]?).bind fun xq8 =>
  (atI xq8 a6).bind fun _ =>
  (a5[xq6.toNat]?).bind fun xq9 =>
  (xq9[a6.toNat]?).bind fun xq10 =>
  rec a4 (a5.set xq6.toNat (xq9.set a6.toNat true)) a6 a18 a19 a20 a29 a30 a31 a32 a34 a35 (IntKind.i64.wrap (a36+1)))
  (k a4 a5 a18 a19 a20 a29 a30 a31 a32)
def zn (rec:T40) (a4:Int) (a5:Y5) (a18:Y3) (a19 a20:Int) (a29:Y4) (a30:Int) (a31 a32:Bool):Z10 :=
  rec a4 a5 a18 a19 (IntKind.i64.wrap (a20+1))
def wda (L11:T8) (k:Y5→Z10) (a4:Int) (a5:Y5) (a18:Y3) (a19 a20:Int):Z10 :=
  cond (decide (a20<a19))
  ((atI a18 a20).bind fun xq2 =>
  (V53 big xq2).bind fun rq3 =>
  cond (!rq3.1)
  (some (([],false,()),(())))
  ((V54 big xq2 a4).bind fun rq4 =>
  cond (!rq4.1)
  (some (([],false,()),(())))
  (L11 a4 a5 a20 a18 a19 a20 xq2 a4 rq4.1 (!rq4.1) xq2 (xq2.length:Int) 0)))
  (k a5)
def yk (a5:Y5):Z10 :=
  (V55 big a5).bind fun rq5 =>
  some ((a5,rq5.1,()),(()))
def wpy (L6:T40) (p_0:Y2):Z10 :=
  cond (decide (10<(p_0.1.length:Int)))
  (some (([],false,()),(())))
  ((V52 big (p_0.1.length:Int)).bind fun rq1 =>
  L6 (p_0.1.length:Int) rq1.1 p_0.1 (p_0.1.length:Int) 0)
def wop (N:Nat) (k:T84):=itN (fun r=>wc9 r k) fun _ _ _ _ _ _ _ _ _ _ _ _ _=>none
def wc7 (N:Nat) (rec:T40) (k:Y5→Z10):=wop N (zn rec) N
def wso (N:Nat) (k:Y5→Z10):=itN (fun r=>wda (wc7 N r k) k) fun _ _ _ _ _=>none
def wsn (N:Nat):=wso N (yk) N
def V56 (N:Nat) (p_0:Y2):Z10:=wpy (wsn N) p_0
def S_V56:Sig:=⟨Q22,[0],[],.unit,(.tup (.pair Q6 Q19)),(.p O16 .i),fun x=>V56 big x.1⟩
def A_V56:Cfg:=mkCfg tab [(84,S_V52),(85,S_V53),(58,S_V54),(86,S_V55)] [(12,(dr 4 ([B0,B7]++dr 12 [.as Q15 .i,B0,B0]))),(22,(dr 4 ([B0,B7,B0]++dr 11 ([.as Q15 .i,B0,B0]++dr 8 [B2,B0,B6,B6,D0,B2,B0,B0])))),(33,(dr 5 [B7])),(31,(dr 4 ([B0,B7]++dr 12 ([.as Q15 .i,B0,B0]++dr 8 [B2,B0,B6,B6]))))]
noncomputable def wak (N n:Nat) (K:Ex→St→Z10) (a4:Int) (a5:Y5) (a18:Y3) (a19 a20:Int):Z10:=itr A_V56 N 12 Tryz.f55 [1,1,1,1,0,1,0,0] n ((ud 4 ([W0 a4,W7 a5]++ud 12 [.val Q15 .i a18,W0 a19,W0 a20]))++us 30) K
noncomputable def wc8 (N n:Nat) (K:Ex→St→Z10) (a4:Int) (a5:Y5) (a6:Int) (a18:Y3) (a19 a20:Int) (a29:Y4) (a30:Int) (a31 a32:Bool) (a34:Y4) (a35 a36:Int):Z10:=itr A_V56 N 22 Tryz.f55 [1,1,1,1,0,1,0,0,1,1,0,0,1,1,1,0,0] n ((ud 4 ([W0 a4,W7 a5,W0 a6]++ud 11 ([.val Q15 .i a18,W0 a19,W0 a20]++ud 8 [W2 a29,W0 a30,W6 a31,W6 a32,.u,W2 a34,W0 a35,W0 a36])))++us 14) K
noncomputable def wpz:Ex→St→Z10:=finish A_V56 S_V56 Tryz.f55.results.toList
noncomputable def wmd (kX:St→Z10) (a5:Y5):Z10:=kX ((ud 5 [W7 a5])++us 45)
noncomputable def wc6 (kX:St→Z10) (kO:Nat→St→Z10):=exK wpz 0 (A_V56.shape 33) kX kO
noncomputable def wvz (kX:St→Z10) (a4:Int) (a5:Y5) (a18:Y3) (a19 a20:Int) (a29:Y4) (a30:Int) (a31 a32:Bool):Z10:=kX ((ud 4 ([W0 a4,W7 a5]++ud 12 ([.val Q15 .i a18,W0 a19,W0 a20]++ud 8 [W2 a29,W0 a30,W6 a31,W6 a32])))++us 18)
noncomputable def wvy (kX:St→Z10) (kO:Nat→St→Z10):=exK wpz 2 (A_V56.shape 31) kX kO
theorem wyt (N kX kO):∀n,wc8 N n (wvy kX kO)=wop N (wvz kX) n :=
 itE rfl fun m=>by kernel_rfl
noncomputable def wji (N m:Nat) (kX:St→Z10) (kO:Nat→St→Z10):=(blockK 2 (blockK 1 (sqK A_V56 N 31 500015 Tryz.f55 [1,1,1,1,0,1,0,0,1,1,1] (itK A_V56 N 12 Tryz.f55 [1,1,1,1,0,1,0,0] m (wc6 kX kO)))))
noncomputable def wv0 (N m:Nat) (kX:St→Z10) (kO:Nat→St→Z10) (st':St):Z10:=rn A_V56 N Tryz.f55 [1,1,1,1,0,1,0,0,1,1,1] st' (itK A_V56 N 12 Tryz.f55 [1,1,1,1,0,1,0,0] m (wc6 kX kO))
theorem w85 (N m kX kO) {r}(h:wak N m (wc6 kX kO)=r):wc8 N N (wji N m kX kO)=wc7 N r (wmd kX):=by
 rw[show wc8 N N (wji N m kX kO)=wc8 N N (wvy (wv0 N m kX kO) fun j=>(wji N m kX kO) (.exit j)) from(by funext _ _ _ _ _ _ _ _ _ _ _ _ _;exact jky),wyt,show wvz (wv0 N m kX kO)=zn (wak N m (wc6 kX kO)) by kernel_rfl,h];rfl
theorem w41 (N kX kO):∀n,wak N n (wc6 kX kO)=wso N (wmd kX) n :=
 itE rfl fun m=>(show _=wda (wc8 N N (wji N m kX kO)) (wmd kX) by kernel_rfl).trans (by rw[w85 N m kX kO rfl]<;>rfl)
noncomputable def wmc (N:Nat):=(blockK 0 (sqK A_V56 N 33 500016 Tryz.f55 [1,1,1,1,1] wpz))
noncomputable def w42 (N:Nat) (st':St):Z10:=rn A_V56 N Tryz.f55 [1,1,1,1,1] st' wpz
theorem xct (N):wak N N (wmc N)=wsn N:=by
 rw[show wak N N (wmc N)=wak N N (wc6 (w42 N) fun j=>(wmc N) (.exit j)) from(by funext _ _ _ _ _;exact jky),w41,show wmd (w42 N)=yk by kernel_rfl];rfl
theorem run_V56 (N x):runF A_V56 N Tryz.f55 S_V56 x=V56 N x.1:=(show _=(wpy (wak N N (wmc N)) x.1) by kernel_rfl).trans (by rw[xct N];rfl)
theorem ok_V56:OK 55 S_V56:=gdR (A:=A_V56) tc Tryz.func55 (jeb ⟨ok_V52,ok_V53,ok_V54,ok_V55,trivial⟩) (run_V56 big)
def whe (rec:T20) (k:T105) (a0:Y5) (a1:Y4) (a6:Int) (a7:Bool) (a10:Y4) (a11 a12:Int) (a16:Y4) (a17 a18:Int):Z4 :=
  cond (decide (a18<a17))
  ((atI a16 a18).bind fun xq2 =>
  cond a7
  ((atI a0 xq2).bind fun xq3 =>
  (atI xq3 a6).bind fun xq4 =>
  rec a0 a1 a6 xq4 a10 a11 a12 a16 a17 (IntKind.i64.wrap (a18+1)))
  (rec a0 a1 a6 false a10 a11 a12 a16 a17 (IntKind.i64.wrap (a18+1))))
  (k a0 a1 a6 a7 a10 a11 a12)
def wdc (rec:T45) (a0:Y5) (a1:Y4) (a6:Int) (a7:Bool) (a10:Y4) (a11 a12:Int):Z4 :=
  cond a7
  (some (a6,(())))
  (rec a0 a1 a10 a11 (IntKind.i64.wrap (a12+1)))
def wdd (L6:T20) (k:Z4) (a0:Y5) (a1 a10:Y4) (a11 a12:Int):Z4 :=
  cond (decide (a12<a11))
  ((atI a10 a12).bind fun xq1 =>
  L6 a0 a1 xq1 true a10 a11 a12 a1 (a1.length:Int) 0)
  (k)
def yl:Z4 :=
  some ((-1:Int),(()))
def wyu (L2:T45) (o_0:Y5) (list_1:Y4):Z4 :=
  L2 o_0 list_1 list_1 (list_1.length:Int) 0
def wsr (N:Nat) (k:T105):=itN (fun r=>whe r k) fun _ _ _ _ _ _ _ _ _ _=>none
def whc (N:Nat) (rec:T45) (k:Z4):=wsr N (wdc rec) N
def wsq (N:Nat) (k:Z4):=itN (fun r=>wdd (whc N r k) k) fun _ _ _ _ _=>none
def wsp (N:Nat):=wsq N (yl) N
def V57 (N:Nat) (o_0:Y5) (list_1:Y4):Z4:=wyu (wsp N) o_0 list_1
def S_V57:Sig:=⟨(.pair Q6 Q14),[0,0],[],.unit,I,.i,fun x=>V57 big x.1 x.2.1⟩
def A_V57:Cfg:=mkCfg tab [] [(4,([.as Q6 .i,B2]++dr 8 [B2,B0,B0])),(12,([.as Q6 .i,B2]++dr 4 ([B0,B6,D0,D0,B2,B0,B0]++dr 3 [B2,B0,B0]))),(27,[]),(21,([.as Q6 .i,B2]++dr 4 [B0,B6,D0,D0,B2,B0,B0]))]
noncomputable def wal (N n:Nat) (K:T61) (a0:Y5) (a1 a10:Y4) (a11 a12:Int):Z4:=itr A_V57 N 4 Tryz.f87 [1,0,1,0,0] n (([.val Q6 .i a0,W2 a1]++ud 8 [W2 a10,W0 a11,W0 a12])++us 23) K
noncomputable def whd (N n:Nat) (K:T61) (a0:Y5) (a1:Y4) (a6:Int) (a7:Bool) (a10:Y4) (a11 a12:Int) (a16:Y4) (a17 a18:Int):Z4:=itr A_V57 N 12 Tryz.f87 [1,0,1,0,0,1,1,0,0,1,1,0,1,0,0] n (([.val Q6 .i a0,W2 a1]++ud 4 ([W0 a6,W6 a7,.u,.u,W2 a10,W0 a11,W0 a12]++ud 3 [W2 a16,W0 a17,W0 a18]))++us 17) K
noncomputable def wp0:Ex→St→Z4:=finish A_V57 S_V57 Tryz.f87.results.toList
noncomputable def wmg (kX:T36):Z4:=kX ([]++us 36)
noncomputable def wdb (kX:T36) (kO:T29):=exK wp0 0 (A_V57.shape 27) kX kO
noncomputable def w44 (kX:T36) (a0:Y5) (a1:Y4) (a6:Int) (a7:Bool) (a10:Y4) (a11 a12:Int):Z4:=kX (([.val Q6 .i a0,W2 a1]++ud 4 [W0 a6,W6 a7,.u,.u,W2 a10,W0 a11,W0 a12])++us 23)
noncomputable def w43 (kX:T36) (kO:T29):=exK wp0 2 (A_V57.shape 21) kX kO
theorem w46 (N kX kO):∀n,whd N n (w43 kX kO)=wsr N (w44 kX) n :=
 itE rfl fun m=>by kernel_rfl
noncomputable def wmf (N m:Nat) (kX:T36) (kO:T29):=(blockK 2 (sqK A_V57 N 21 500010 Tryz.f87 [1,0,1,0,0,1,1,0,0,1,1,1] (blockK 1 (sqK A_V57 N 25 500012 Tryz.f87 [1,0,1,0,0,1,1,1] (itK A_V57 N 4 Tryz.f87 [1,0,1,0,0] m (wdb kX kO))))))
noncomputable def w48 (N m:Nat) (kX:T36) (kO:T29) (st':St):Z4:=rn A_V57 N Tryz.f87 [1,0,1,0,0,1,1,0,0,1,1,1] st' (blockK 1 (sqK A_V57 N 25 500012 Tryz.f87 [1,0,1,0,0,1,1,1] (itK A_V57 N 4 Tryz.f87 [1,0,1,0,0] m (wdb kX kO))))
theorem xcv (N m kX kO) {r}(h:wal N m (wdb kX kO)=r):whd N N (wmf N m kX kO)=whc N r (wmg kX):=by
 rw[show whd N N (wmf N m kX kO)=whd N N (w43 (w48 N m kX kO) fun j=>(wmf N m kX kO) (.exit j)) from(by funext _ _ _ _ _ _ _ _ _ _;exact jky),w46,show w44 (w48 N m kX kO)=wdc (wal N m (wdb kX kO)) by kernel_rfl,h];rfl
theorem w45 (N kX kO):∀n,wal N n (wdb kX kO)=wsq N (wmg kX) n :=
 itE rfl fun m=>(show _=wdd (whd N N (wmf N m kX kO)) (wmg kX) by kernel_rfl).trans (by rw[xcv N m kX kO rfl]<;>rfl)
noncomputable def wme (N:Nat):=(blockK 0 (sqK A_V57 N 27 500013 Tryz.f87 [1,1] wp0))
noncomputable def w47 (N:Nat) (st':St):Z4:=rn A_V57 N Tryz.f87 [1,1] st' wp0
theorem xcu (N):wal N N (wme N)=wsp N:=by
 rw[show wal N N (wme N)=wal N N (wdb (w47 N) fun j=>(wme N) (.exit j)) from(by funext _ _ _ _ _;exact jky),w45,show wmg (w47 N)=yl by kernel_rfl];rfl
theorem run_V57 (N x):runF A_V57 N Tryz.f87 S_V57 x=V57 N x.1 x.2.1:=(show _=(wyu (wal N N (wme N)) x.1 x.2.1) by kernel_rfl).trans (by rw[xcu N];rfl)
theorem ok_V57:OK 87 S_V57:=gdR (A:=A_V57) tc Tryz.func87 (jeb trivial) (run_V57 big)
def w96 (z_0:Int) (p_1:Y5) (p_2 p_3:Int):Z1 :=
  (atI p_1 z_0).bind fun xq1 =>
  (atI xq1 p_2).bind fun xq2 =>
  cond xq2
  ((atI p_1 z_0).bind fun xq3 =>
  (atI xq3 p_3).bind fun xq4 =>
  some (xq4,(())))
  (some (false,(())))
def V58 (z_0:Int) (p_1:Y5) (p_2 p_3:Int):Z1:=w96 z_0 p_1 p_2 p_3
def S_V58:Sig:=⟨(.pair I Q13),[0,0,0,0],[],.unit,.bool,.i,fun x=>V58 x.1 x.2.1 x.2.2.1 x.2.2.2.1⟩
def A_V58:Cfg:=mkCfg tab [] []
theorem run_V58 (N x):runF A_V58 N Tryz.f88 S_V58 x=V58 x.1 x.2.1 x.2.2.1 x.2.2.2.1:=by kernel_rfl
theorem ok_V58:OK 88 S_V58:=gdR (A:=A_V58) tc Tryz.func88 (jeb trivial) (run_V58 big)
def whg (rec:T18) (k:T77) (a1:(Y5×Z0)) (a5:Y4) (a9 a10:Int):Z5 :=
  cond (decide (a10<a9))
  ((V58 a10 a1.1 a1.2.1 a1.2.2.1).bind fun rq1 =>
  cond rq1.1
  ((appI a5 [a10]).bind fun xq2 =>
  rec a1 xq2 a9 (IntKind.i64.wrap (a10+1)))
  (rec a1 a5 a9 (IntKind.i64.wrap (a10+1))))
  (k a5)
def wde (a5:Y4):Z5 :=
  some (a5,(()))
def wyv (L3:T18) (o_0:Y5) (so_1:(Y5×Z0)):Z5 :=
  L3 so_1 [] (o_0.length:Int) 0
def wst (N:Nat) (k:T77):=itN (fun r=>whg r k) fun _ _ _ _=>none
def wss (N:Nat):=wst N (wde) N
def V59 (N:Nat) (o_0:Y5) (so_1:(Y5×Z0)):Z5:=wyv (wss N) o_0 so_1
def S_V59:Sig:=⟨(.pair Q6 (.pair (.clo 88 0 Q13) .unit)),[0,0],[],.unit,Q7,O4,fun x=>V59 big x.1 x.2.1⟩
def A_V59:Cfg:=mkCfg tab [(88,S_V58)] [(6,([D0,.as (.clo 88 0 Q13) .i]++dr 3 ([B3]++dr 3 [B0,B0]))),(17,(dr 5 [B3]))]
noncomputable def whf (N n:Nat) (K:T72) (a1:(Y5×Z0)) (a5:Y4) (a9 a10:Int):Z5:=itr A_V59 N 6 Tryz.f59 [1,1,0,1,0,0] n (([.u,.val (.clo 88 0 Q13) .i a1]++ud 3 ([W3 a5]++ud 3 [W0 a9,W0 a10]))++us 11) K
noncomputable def wyw:Ex→St→Z5:=finish A_V59 S_V59 Tryz.f59.results.toList
noncomputable def w5a (kX:T44) (a5:Y4):Z5:=kX ((ud 5 [W3 a5])++us 16)
noncomputable def w49 (kX:T44) (kO:T34):=exK wyw 0 (A_V59.shape 17) kX kO
theorem w5b (N kX kO):∀n,whf N n (w49 kX kO)=wst N (w5a kX) n :=
 itE rfl fun m=>by kernel_rfl
noncomputable def wmh (N:Nat):=(blockK 0 (sqK A_V59 N 17 500008 Tryz.f59 [1,1,1] wyw))
noncomputable def w5c (N:Nat) (st':St):Z5:=rn A_V59 N Tryz.f59 [1,1,1] st' wyw
theorem xcw (N):whf N N (wmh N)=wss N:=by
 rw[show whf N N (wmh N)=whf N N (w49 (w5c N) fun j=>(wmh N) (.exit j)) from(by funext _ _ _ _;exact jky),w5b,show w5a (w5c N)=wde by kernel_rfl];rfl
theorem run_V59 (N x):runF A_V59 N Tryz.f59 S_V59 x=V59 N x.1 x.2.1:=(show _=(wyv (whf N N (wmh N)) x.1 x.2.1) by kernel_rfl).trans (by rw[xcw N];rfl)
theorem ok_V59:OK 59 S_V59:=gdR (A:=A_V59) tc Tryz.func59 (jeb ⟨ok_V58,trivial⟩) (run_V59 big)
def whj (rec:T37) (k:Y5→Y3→Y4→Int→Int→Z9) (a1:Y5) (a4:Y3) (a5:Int) (a6:Y4) (a11 a12 a17 a18:Int):Z9 :=
  cond (decide (a18<a17))
  ((V59 big a1 (a1,a5,a18,())).bind fun rq1 =>
  (V57 big a1 rq1.1).bind fun rq2 =>
  cond (decide (rq2.1<0))
  (some (([],false,()),(())))
  ((appI a6 [rq2.1]).bind fun xq3 =>
  rec a1 a4 a5 xq3 a11 a12 a17 (IntKind.i64.wrap (a18+1))))
  (k a1 a4 a6 a11 a12)
def wdg (rec:T63) (a1:Y5) (a4:Y3) (a6:Y4) (a11 a12:Int):Z9 :=
  (appI a4 [a6]).bind fun xq4 =>
  rec a1 xq4 a11 (IntKind.i64.wrap (a12+1))
def wdh (L7:T37) (k:Y3→Z9) (a1:Y5) (a4:Y3) (a11 a12:Int):Z9 :=
  cond (decide (a12<a11))
  (L7 a1 a4 a12 [] a11 a12 (a1.length:Int) 0)
  (k a4)
def ym (a4:Y3):Z9 :=
  some ((a4,true,()),(()))
def wyz (L3:T63) (o_0:Y5):Z9 :=
  L3 o_0 [] (o_0.length:Int) 0
def wsw (N:Nat) (k:Y5→Y3→Y4→Int→Int→Z9):=itN (fun r=>whj r k) fun _ _ _ _ _ _ _ _=>none
def whh (N:Nat) (rec:T63) (k:Y3→Z9):=wsw N (wdg rec) N
def wsv (N:Nat) (k:Y3→Z9):=itN (fun r=>wdh (whh N r k) k) fun _ _ _ _=>none
def wsu (N:Nat):=wsv N (ym) N
def V60 (N:Nat) (o_0:Y5):Z9:=wyz (wsu N) o_0
def S_V60:Sig:=⟨(.pair Q6 .unit),[0],[],.unit,(.tup (.pair Q15 Q19)),(.p O16 .i),fun x=>V60 big x.1⟩
def A_V60:Cfg:=mkCfg tab [(59,S_V59),(87,S_V57)] [(6,([D0,.as (.ptr Q6) .i,D0,D0,.as Q15 O16]++dr 6 [B0,B0])),(14,([D0,.as (.ptr Q6) .i,D0,D0,.as Q15 O16,.as (.ptr I) .i,B3]++dr 4 ([B0,B0]++dr 4 [B0,B0]))),(33,(dr 4 [.as Q15 O16])),(19,([D0,.as (.ptr Q6) .i,D0,D0,.as Q15 O16,.as (.ptr I) .i,B3,.as (.ptr I) .i]++dr 3 ([B0,B0]++dr 4 [B0,B0]))),(29,([D0,.as (.ptr Q6) .i,D0,D0,.as Q15 O16,D0,B3]++dr 4 [B0,B0]))]
noncomputable def wam (N n:Nat) (K:Ex→St→Z9) (a1:Y5) (a4:Y3) (a11 a12:Int):Z9:=itr A_V60 N 6 Tryz.f56 [1,1,0,1,0,0] n (([.u,.val (.ptr Q6) .i a1,.u,.u,.val Q15 O16 a4]++ud 6 [W0 a11,W0 a12])++us 26) K
noncomputable def whi (N n:Nat) (K:Ex→St→Z9) (a1:Y5) (a4:Y3) (a5:Int) (a6:Y4) (a11 a12 a17 a18:Int):Z9:=itr A_V60 N 14 Tryz.f56 [1,1,0,1,0,0,1,1,0,0,1,1,0,1,0,0] n (([.u,.val (.ptr Q6) .i a1,.u,.u,.val Q15 O16 a4,.val (.ptr I) .i a5,W3 a6]++ud 4 ([W0 a11,W0 a12]++ud 4 [W0 a17,W0 a18]))++us 20) K
noncomputable def wp2:Ex→St→Z9:=finish A_V60 S_V60 Tryz.f56.results.toList
noncomputable def wmm (kX:St→Z9) (a4:Y3):Z9:=kX ((ud 4 [.val Q15 O16 a4])++us 34)
noncomputable def wdf (kX:St→Z9) (kO:Nat→St→Z9):=exK wp2 0 (A_V60.shape 33) kX kO
noncomputable def w5e (kX:St→Z9) (a1:Y5) (a4:Y3) (a6:Y4) (a11 a12:Int):Z9:=kX (([.u,.val (.ptr Q6) .i a1,.u,.u,.val Q15 O16 a4,.u,W3 a6]++ud 4 [W0 a11,W0 a12])++us 26)
noncomputable def w5d (kX:St→Z9) (kO:Nat→St→Z9):=exK wp2 2 (A_V60.shape 29) kX kO
theorem w5g (N kX kO):∀n,whi N n (w5d kX kO)=wsw N (w5e kX) n :=
 itE rfl fun m=>by kernel_rfl
noncomputable def wml (N m:Nat) (kX:St→Z9) (kO:Nat→St→Z9):=(blockK 2 (sqK A_V60 N 29 500014 Tryz.f56 [1,1,0,1,0,0,1,1,0,0,1,1,1] (blockK 1 (sqK A_V60 N 31 500015 Tryz.f56 [1,1,0,1,0,0,1,1,1] (itK A_V60 N 6 Tryz.f56 [1,1,0,1,0,0] m (wdf kX kO))))))
noncomputable def w5i (N m:Nat) (kX:St→Z9) (kO:Nat→St→Z9) (st':St):Z9:=rn A_V60 N Tryz.f56 [1,1,0,1,0,0,1,1,0,0,1,1,1] st' (blockK 1 (sqK A_V60 N 31 500015 Tryz.f56 [1,1,0,1,0,0,1,1,1] (itK A_V60 N 6 Tryz.f56 [1,1,0,1,0,0] m (wdf kX kO))))
theorem xcy (N m kX kO) {r}(h:wam N m (wdf kX kO)=r):whi N N (wml N m kX kO)=whh N r (wmm kX):=by
 rw[show whi N N (wml N m kX kO)=whi N N (w5d (w5i N m kX kO) fun j=>(wml N m kX kO) (.exit j)) from(by funext _ _ _ _ _ _ _ _;exact jky),w5g,show w5e (w5i N m kX kO)=wdg (wam N m (wdf kX kO)) by kernel_rfl,h];rfl
theorem w5f (N kX kO):∀n,wam N n (wdf kX kO)=wsv N (wmm kX) n :=
 itE rfl fun m=>(show _=wdh (whi N N (wml N m kX kO)) (wmm kX) by kernel_rfl).trans (by rw[xcy N m kX kO rfl]<;>rfl)
noncomputable def wmk (N:Nat):=(blockK 0 (sqK A_V60 N 33 500016 Tryz.f56 [1,1,1] wp2))
noncomputable def w5h (N:Nat) (st':St):Z9:=rn A_V60 N Tryz.f56 [1,1,1] st' wp2
theorem xcx (N):wam N N (wmk N)=wsu N:=by
 rw[show wam N N (wmk N)=wam N N (wdf (w5h N) fun j=>(wmk N) (.exit j)) from(by funext _ _ _ _;exact jky),w5f,show wmm (w5h N)=ym by kernel_rfl];rfl
theorem run_V60 (N x):runF A_V60 N Tryz.f56 S_V60 x=V60 N x.1:=(show _=(wyz (wam N N (wmk N)) x.1) by kernel_rfl).trans (by rw[xcx N];rfl)
theorem ok_V60:OK 56 S_V60:=gdR (A:=A_V60) tc Tryz.func56 (jeb ⟨ok_V59,ok_V57,trivial⟩) (run_V60 big)
def whm (rec:T46) (k:T30) (a0 a3:Y5) (a4 a10 a11 a15 a16:Int):Z13 :=
  cond (decide (a16<a15))
  ((atI a3 a4).bind fun _ =>
  (a3[a4.toNat]?).bind fun xq2 =>
  (atI a0 a16).bind fun xq3 =>
  (atI xq3 a4).bind fun xq4 =>
  (a3[a4.toNat]?).bind fun xq5 =>
  (atI xq5 a16).bind fun _ =>
  (a3[a4.toNat]?).bind fun xq6 =>
  (xq6[a16.toNat]?).bind fun xq7 =>
  rec a0 (a3.set a4.toNat (xq6.set a16.toNat xq4)) a4 a10 a11 a15 (IntKind.i64.wrap (a16+1)))
  (k a0 a3 a10 a11)
def wdj (rec:T30) (a0 a3:Y5) (a10 a11:Int):Z13 :=
  rec a0 a3 a10 (IntKind.i64.wrap (a11+1))
def wdk (L6:T46) (k:Y5→Z13) (a0 a3:Y5) (a10 a11:Int):Z13 :=
  cond (decide (a11<a10))
  (L6 a0 a3 a11 a10 a11 (a0.length:Int) 0)
  (k a3)
def yn (a3:Y5):Z13 :=
  some (a3,(()))
def wy0 (L3:T30) (o_0:Y5):Z13 :=
  (V52 big (o_0.length:Int)).bind fun rq1 =>
  L3 o_0 rq1.1 (o_0.length:Int) 0
def wsz (N:Nat) (k:T30):=itN (fun r=>whm r k) fun _ _ _ _ _ _ _=>none
def whk (N:Nat) (rec:T30) (k:Y5→Z13):=wsz N (wdj rec) N
def wsy (N:Nat) (k:Y5→Z13):=itN (fun r=>wdk (whk N r k) k) fun _ _ _ _=>none
def wsx (N:Nat):=wsy N (yn) N
def V61 (N:Nat) (o_0:Y5):Z13:=wy0 (wsx N) o_0
def S_V61:Sig:=⟨(.pair Q6 .unit),[0],[],.unit,Q6,O16,fun x=>V61 big x.1⟩
def A_V61:Cfg:=mkCfg tab [(84,S_V52)] [(6,([.as Q6 .i,D0,D0,B7]++dr 6 [B0,B0])),(12,([.as Q6 .i,D0,D0,B7,B0]++dr 5 ([B0,B0]++dr 3 [B0,B0]))),(23,(dr 3 [B7])),(21,([.as Q6 .i,D0,D0,B7]++dr 6 [B0,B0]))]
noncomputable def wan (N n:Nat) (K:Ex→St→Z13) (a0 a3:Y5) (a10 a11:Int):Z13:=itr A_V61 N 6 Tryz.f57 [1,1,0,1,0,0] n (([.val Q6 .i a0,.u,.u,W7 a3]++ud 6 [W0 a10,W0 a11])++us 23) K
noncomputable def whl (N n:Nat) (K:Ex→St→Z13) (a0 a3:Y5) (a4 a10 a11 a15 a16:Int):Z13:=itr A_V61 N 12 Tryz.f57 [1,1,0,1,0,0,1,1,0,0,1,1,0,0] n (([.val Q6 .i a0,.u,.u,W7 a3,W0 a4]++ud 5 ([W0 a10,W0 a11]++ud 3 [W0 a15,W0 a16]))++us 18) K
noncomputable def wp3:Ex→St→Z13:=finish A_V61 S_V61 Tryz.f57.results.toList
noncomputable def wmp (kX:St→Z13) (a3:Y5):Z13:=kX ((ud 3 [W7 a3])++us 31)
noncomputable def wdi (kX:St→Z13) (kO:T116):=exK wp3 0 (A_V61.shape 23) kX kO
noncomputable def w5k (kX:St→Z13) (a0 a3:Y5) (a10 a11:Int):Z13:=kX (([.val Q6 .i a0,.u,.u,W7 a3]++ud 6 [W0 a10,W0 a11])++us 23)
noncomputable def w5j (kX:St→Z13) (kO:T116):=exK wp3 2 (A_V61.shape 21) kX kO
theorem w5m (N kX kO):∀n,whl N n (w5j kX kO)=wsz N (w5k kX) n :=
 itE rfl fun m=>by kernel_rfl
noncomputable def wmo (N m:Nat) (kX:St→Z13) (kO:T116):=(blockK 2 (blockK 1 (sqK A_V61 N 21 500010 Tryz.f57 [1,1,0,1,0,0,1,1,1] (itK A_V61 N 6 Tryz.f57 [1,1,0,1,0,0] m (wdi kX kO)))))
noncomputable def w5o (N m:Nat) (kX:St→Z13) (kO:T116) (st':St):Z13:=rn A_V61 N Tryz.f57 [1,1,0,1,0,0,1,1,1] st' (itK A_V61 N 6 Tryz.f57 [1,1,0,1,0,0] m (wdi kX kO))
theorem xc0 (N m kX kO) {r}(h:wan N m (wdi kX kO)=r):whl N N (wmo N m kX kO)=whk N r (wmp kX):=by
 rw[show whl N N (wmo N m kX kO)=whl N N (w5j (w5o N m kX kO) fun j=>(wmo N m kX kO) (.exit j)) from(by funext _ _ _ _ _ _ _;exact jky),w5m,show w5k (w5o N m kX kO)=wdj (wan N m (wdi kX kO)) by kernel_rfl,h];rfl
theorem w5l (N kX kO):∀n,wan N n (wdi kX kO)=wsy N (wmp kX) n :=
 itE rfl fun m=>(show _=wdk (whl N N (wmo N m kX kO)) (wmp kX) by kernel_rfl).trans (by rw[xc0 N m kX kO rfl]<;>rfl)
noncomputable def wmn (N:Nat):=(blockK 0 (sqK A_V61 N 23 500011 Tryz.f57 [1,1,1] wp3))
noncomputable def w5n (N:Nat) (st':St):Z13:=rn A_V61 N Tryz.f57 [1,1,1] st' wp3
theorem xcz (N):wan N N (wmn N)=wsx N:=by
 rw[show wan N N (wmn N)=wan N N (wdi (w5n N) fun j=>(wmn N) (.exit j)) from(by funext _ _ _ _;exact jky),w5l,show wmp (w5n N)=yn by kernel_rfl];rfl
theorem run_V61 (N x):runF A_V61 N Tryz.f57 S_V61 x=V61 N x.1:=(show _=(wy0 (wan N N (wmn N)) x.1) by kernel_rfl).trans (by rw[xcz N];rfl)
theorem ok_V61:OK 57 S_V61:=gdR (A:=A_V61) tc Tryz.func57 (jeb ⟨ok_V52,trivial⟩) (run_V61 big)
def wp4 (p_0:Y2):Option ((Y1×(Bool×Unit))×Unit) :=
  (V56 big p_0).bind fun rq1 =>
  cond (!((((),rq1.1.2).2).1))
  (some ((none,false,()),(())))
  (cond (decide ((rq1.1.1.length:Int)=0))
  (some ((none,false,()),(())))
  ((V60 big rq1.1.1).bind fun rq2 =>
  (V61 big rq1.1.1).bind fun rq3 =>
  (V60 big rq3.1).bind fun rq4 =>
  cond ((((),rq2.1.2).2).1)
  (some ((some (rq1.1.1,(rq2.1.1,(rq4.1.1,()))),(((),rq4.1.2).2).1,()),(())))
  (some ((some (rq1.1.1,(rq2.1.1,(rq4.1.1,()))),false,()),(())))))
def V62 (p_0:Y2):Option ((Y1×(Bool×Unit))×Unit):=wp4 p_0
def S_V62:Sig:=⟨Q22,[0],[],.unit,(.tup (.pair Q10 Q19)),.i,fun x=>V62 x.1⟩
def A_V62:Cfg:=mkCfg tab [(55,S_V56),(56,S_V60),(57,S_V61)] []
theorem run_V62 (N x):runF A_V62 N Tryz.f32 S_V62 x=V62 x.1:=by kernel_rfl
theorem ok_V62:OK 32 S_V62:=gdR (A:=A_V62) tc Tryz.func32 (jeb ⟨ok_V56,ok_V60,ok_V61,trivial⟩) (run_V62 big)
def xaa (p_0:Y2):Option ((Y1×(Bool×Unit))×Unit) :=
  (V62 p_0).bind fun rq1 =>
  cond rq1.1.2.1
  ((rq1.1.1).bind fun xq2 =>
  some ((rq1.1.1,decide ((xq2.1.length:Int)≤8),()),(())))
  (some ((rq1.1.1,false,()),(())))
def V63 (p_0:Y2):Option ((Y1×(Bool×Unit))×Unit):=xaa p_0
def S_V63:Sig:=⟨Q22,[0],[],.unit,(.tup (.pair Q10 Q19)),.i,fun x=>V63 x.1⟩
def A_V63:Cfg:=mkCfg tab [(32,S_V62)] []
theorem run_V63 (N x):runF A_V63 N Tryz.f18 S_V63 x=V63 x.1:=by kernel_rfl
theorem ok_V63:OK 18 S_V63:=gdR (A:=A_V63) tc Tryz.func18 (jeb ⟨ok_V62,trivial⟩) (run_V63 big)
def who (rec:Y6→Y6→Y3→Int→Int→Option (Y6×Unit)) (k:Y6→Y6→Option (Y6×Unit)) (a2 a3:Y6) (a7:Y3) (a8 a9:Int):Option (Y6×Unit) :=
  cond (decide (a9<a8))
  ((atI a7 a9).bind fun xq1 =>
  (appI a3.2.1 xq1).bind fun xq2 =>
  rec a2 ((a3.1,((),a3.2.2)).1,(xq2,((a3.1,((),a3.2.2)).2).2)) a7 a8 (IntKind.i64.wrap (a9+1)))
  (k a2 a3)
def wdl (a2 a3:Y6):Option (Y6×Unit) :=
  some (a3,(()))
def wy1 (L3:Y6→Y6→Y3→Int→Int→Option (Y6×Unit)) (table_0:Y3):Option (Y6×Unit) :=
  L3 (0,(([]:Y4),())) (2,(([]:Y4),())) table_0 (table_0.length:Int) 0
def ws1 (N:Nat) (k:Y6→Y6→Option (Y6×Unit)):=itN (fun r=>who r k) fun _ _ _ _ _=>none
def ws0 (N:Nat):=ws1 N (wdl) N
def V64 (N:Nat) (table_0:Y3):Option (Y6×Unit):=wy1 (ws0 N) table_0
def S_V64:Sig:=⟨Q0,[0],[],.unit,Q9,(.p .i (.p O4 .i)),fun x=>V64 big x.1⟩
def A_V64:Cfg:=mkCfg tab [] [(6,([D0,D0,.as Q21 O11,.as Q21 O11]++dr 3 [.as Q15 .i,B0,B0])),(15,[D0,D0,.as Q21 O11,.as Q21 O11])]
noncomputable def whn (N n:Nat) (K:Ex→St→Option (Y6×Unit)) (a2 a3:Y6) (a7:Y3) (a8 a9:Int):Option (Y6×Unit):=itr A_V64 N 6 Tryz.f46 [1,1,0,1,0,0] n (([.u,.u,.val Q21 O11 a2,.val Q21 O11 a3]++ud 3 [.val Q15 .i a7,W0 a8,W0 a9])++us 10) K
noncomputable def wy2:Ex→St→Option (Y6×Unit):=finish A_V64 S_V64 Tryz.f46.results.toList
noncomputable def w5q (kX:St→Option (Y6×Unit)) (a2 a3:Y6):Option (Y6×Unit):=kX ([.u,.u,.val Q21 O11 a2,.val Q21 O11 a3]++us 16)
noncomputable def w5p (kX:St→Option (Y6×Unit)) (kO:Nat→St→Option (Y6×Unit)):Ex→St→Option (Y6×Unit):=exK wy2 0 (A_V64.shape 15) kX kO
theorem w5r (N kX kO):∀n,whn N n (w5p kX kO)=ws1 N (w5q kX) n :=
 itE rfl fun m=>by kernel_rfl
noncomputable def wmq (N:Nat):Ex→St→Option (Y6×Unit):=(blockK 0 (sqK A_V64 N 15 500007 Tryz.f46 [1,1,1] wy2))
noncomputable def w5s (N:Nat) (st':St):Option (Y6×Unit):=rn A_V64 N Tryz.f46 [1,1,1] st' wy2
theorem xc1 (N):whn N N (wmq N)=ws0 N:=by
 rw[show whn N N (wmq N)=whn N N (w5p (w5s N) fun j=>(wmq N) (.exit j)) from(by funext _ _ _ _ _;exact jky),w5r,show w5q (w5s N)=wdl by kernel_rfl];rfl
theorem run_V64 (N x):runF A_V64 N Tryz.f46 S_V64 x=V64 N x.1:=(show _=(wy1 (whn N N (wmq N)) x.1) by kernel_rfl).trans (by rw[xc1 N];rfl)
theorem ok_V64:OK 46 S_V64:=gdR (A:=A_V64) tc Tryz.func46 (jeb trivial) (run_V64 big)
def xab (l_0:Y1):Z15 :=
  (l_0).bind fun xq1 =>
  (l_0).bind fun xq2 =>
  (V64 big xq2.2.1).bind fun rq3 =>
  (l_0).bind fun xq4 =>
  (V64 big xq4.2.2.1).bind fun rq5 =>
  some (((xq1.1.length:Int),([rq3.1,rq5.1],())),(()))
def V65 (l_0:Y1):Z15:=xab l_0
def S_V65:Sig:=⟨(.pair Q10 .unit),[0],[],.unit,Q2,(.p .i (.p O11 .i)),fun x=>V65 x.1⟩
def A_V65:Cfg:=mkCfg tab [(46,S_V64)] []
theorem run_V65 (N x):runF A_V65 N Tryz.f20 S_V65 x=V65 x.1:=by kernel_rfl
theorem ok_V65:OK 20 S_V65:=gdR (A:=A_V65) tc Tryz.func20 (jeb ⟨ok_V64,trivial⟩) (run_V65 big)
def whq (rec:T96) (k:Z1) (a1 a11:Y4) (a12 a13:Int):Z1 :=
  cond (decide (a13<a12))
  ((atI a11 a13).bind fun xq1 =>
  cond (decide (xq1<0))
  (some (false,(())))
  (cond (decide (a13<xq1))
  (some (false,(())))
  ((atI a1 xq1).bind fun xq2 =>
  cond (decide (xq2≠xq1))
  (some (false,(())))
  (rec a1 a11 a12 (IntKind.i64.wrap (a13+1))))))
  (k)
def wdm:Z1 :=
  some (true,(()))
def wy3 (L4:T96) (n_0:Int) (p_1:Y4):Z1 :=
  cond (decide ((p_1.length:Int)≠n_0))
  (some (false,(())))
  (L4 p_1 p_1 (p_1.length:Int) 0)
def ws3 (N:Nat) (k:Z1):=itN (fun r=>whq r k) fun _ _ _ _=>none
def ws2 (N:Nat):=ws3 N (wdm) N
def V66 (N:Nat) (n_0:Int) (p_1:Y4):Z1:=wy3 (ws2 N) n_0 p_1
def S_V66:Sig:=⟨Q9,[0,0],[],.unit,.bool,.i,fun x=>V66 big x.1 x.2.1⟩
def A_V66:Cfg:=mkCfg tab [] [(8,([D0,B2]++dr 9 [B2,B0,B0])),(19,[])]
noncomputable def whp (N n:Nat) (K:T5) (a1 a11:Y4) (a12 a13:Int):Z1:=itr A_V66 N 8 Tryz.f31 [1,1,0,1,0,0] n (([.u,W2 a1]++ud 9 [W2 a11,W0 a12,W0 a13])++us 20) K
noncomputable def wy4:Ex→St→Z1:=finish A_V66 S_V66 Tryz.f31.results.toList
noncomputable def w5u (kX:T3):Z1:=kX ([]++us 34)
noncomputable def w5t (kX:T3) (kO:T1):=exK wy4 0 (A_V66.shape 19) kX kO
theorem w5v (N kX kO):∀n,whp N n (w5t kX kO)=ws3 N (w5u kX) n :=
 itE rfl fun m=>by kernel_rfl
noncomputable def wmr (N:Nat):=(blockK 0 (sqK A_V66 N 19 500009 Tryz.f31 [1,1,1] wy4))
noncomputable def w5w (N:Nat) (st':St):Z1:=rn A_V66 N Tryz.f31 [1,1,1] st' wy4
theorem xc2 (N):whp N N (wmr N)=ws2 N:=by
 rw[show whp N N (wmr N)=whp N N (w5t (w5w N) fun j=>(wmr N) (.exit j)) from(by funext _ _ _ _;exact jky),w5v,show w5u (w5w N)=wdm by kernel_rfl];rfl
theorem run_V66 (N x):runF A_V66 N Tryz.f31 S_V66 x=V66 N x.1 x.2.1:=(show _=(wy3 (whp N N (wmr N)) x.1 x.2.1) by kernel_rfl).trans (by rw[xc2 N];rfl)
theorem ok_V66:OK 31 S_V66:=gdR (A:=A_V66) tc Tryz.func31 (jeb trivial) (run_V66 big)
def xac (list_0:Y4):Z5 :=
  (appI [] list_0).bind fun xq1 =>
  some (xq1,(()))
def V67 (list_0:Y4):Z5:=xac list_0
def S_V67:Sig:=⟨Q14,[0],[],.unit,Q7,O4,fun x=>V67 x.1⟩
def A_V67:Cfg:=mkCfg tab [] []
theorem run_V67 (N x):runF A_V67 N Tryz.f45 S_V67 x=V67 x.1:=by kernel_rfl
theorem ok_V67:OK 45 S_V67:=gdR (A:=A_V67) tc Tryz.func45 (jeb trivial) (run_V67 big)
def whs (rec:T74) (k:Y4→Z7) (a0:Y4) (a1 a2 a25 a26:Int):Z7 :=
  cond (decide (a26<a25))
  ((atI a0 a26).bind fun _ =>
  (a0[a26.toNat]?).bind fun xq3 =>
  cond (decide (xq3=a2))
  ((atI a0 a26).bind fun _ =>
  (a0[a26.toNat]?).bind fun xq4 =>
  rec (a0.set a26.toNat a1) a1 a2 a25 (IntKind.i64.wrap (a26+1)))
  (rec a0 a1 a2 a25 (IntKind.i64.wrap (a26+1))))
  (k a0)
def wdn (a0:Y4):Z7 :=
  some (true,(a0,()))
def wy5 (L7:T74) (p_0:Y4) (x_1 y_2:Int):Z7 :=
  (atI p_0 x_1).bind fun _ =>
  (p_0[x_1.toNat]?).bind fun xq1 =>
  (atI p_0 y_2).bind fun _ =>
  (p_0[y_2.toNat]?).bind fun xq2 =>
  cond (decide (xq1=xq2))
  (some (false,(p_0,())))
  (cond (decide (xq2<xq1))
  (L7 p_0 xq2 xq1 (p_0.length:Int) 0)
  (L7 p_0 xq1 xq2 (p_0.length:Int) 0))
def ws4 (N:Nat) (k:Y4→Z7):=itN (fun r=>whs r k) fun _ _ _ _ _=>none
def wms (N:Nat):=ws4 N (wdn) N
def V68 (N:Nat) (p_0:Y4) (x_1 y_2:Int):Z7:=wy5 (wms N) p_0 x_1 y_2
def S_V68:Sig:=⟨(.pair Q7 Q3),[1,0,0],[O4],Q14,.bool,.i,fun x=>V68 big x.1 x.2.1 x.2.2.1⟩
def A_V68:Cfg:=mkCfg tab [] [(14,([B3,B0,B0]++dr 22 [B0,B0])),(25,[B3])]
noncomputable def whr (N n:Nat) (K:Ex→St→Z7) (a0:Y4) (a1 a2 a25 a26:Int):Z7:=itr A_V68 N 14 Tryz.f77 [1,1,1,1,0,1,0,0] n (([W3 a0,W0 a1,W0 a2]++ud 22 [W0 a25,W0 a26])++us 13) K
noncomputable def wy6:Ex→St→Z7:=finish A_V68 S_V68 Tryz.f77.results.toList
noncomputable def w5y (kX:T87) (a0:Y4):Z7:=kX ([W3 a0]++us 39)
noncomputable def w5x (kX:T87) (kO:T66):=exK wy6 0 (A_V68.shape 25) kX kO
theorem w5z (N kX kO):∀n,whr N n (w5x kX kO)=ws4 N (w5y kX) n :=
 itE rfl fun m=>by kernel_rfl
noncomputable def wmt (N:Nat):=(blockK 0 (sqK A_V68 N 25 500012 Tryz.f77 [1,1,1,1,1] wy6))
noncomputable def w50 (N:Nat) (st':St):Z7:=rn A_V68 N Tryz.f77 [1,1,1,1,1] st' wy6
theorem xc3 (N):whr N N (wmt N)=wms N:=by
 rw[show whr N N (wmt N)=whr N N (w5x (w50 N) fun j=>(wmt N) (.exit j)) from(by funext _ _ _ _ _;exact jky),w5z,show w5y (w50 N)=wdn by kernel_rfl];rfl
theorem run_V68 (N x):runF A_V68 N Tryz.f77 S_V68 x=V68 N x.1 x.2.1 x.2.2.1:=(show _=(wy5 (whr N N (wmt N)) x.1 x.2.1 x.2.2.1) by kernel_rfl).trans (by rw[xc3 N];rfl)
theorem ok_V68:OK 77 S_V68:=gdR (A:=A_V68) tc Tryz.func77 (jeb trivial) (run_V68 big)
def wdt (rec:T6) (k:T0) (a1:Y4) (a2:Y7) (a5 a6:Bool) (a8:Y6) (a9 a10:Int) (a16:(List Y6)) (a17 a18:Int) (a29:Y4) (a30 a31:Int):Z7 :=
  cond (decide (a31<a30))
  ((atI a29 a31).bind fun xq2 =>
  (quoI IntKind.i64 a31 a9).bind fun xq3 =>
  (remI xq3 a2.1).bind fun xq4 =>
  (atI a1 xq4).bind fun _ =>
  (a1[xq4.toNat]?).bind fun xq5 =>
  (atI a8.2.1 (IntKind.i64.wrap (a31+(IntKind.i64.wrap ((IntKind.i64.wrap (xq5-xq4))*a9))))).bind fun xq6 =>
  (V68 big a1 xq2 xq6).bind fun rq7 =>
  cond rq7.1
  (rec rq7.2.1 a2 true true a8 a9 a10 a16 a17 a18 a29 a30 (IntKind.i64.wrap (a31+1)))
  (rec rq7.2.1 a2 a5 a6 a8 a9 a10 a16 a17 a18 a29 a30 (IntKind.i64.wrap (a31+1))))
  (k a1 a2 a5 a6 a8 a9 a10 a16 a17 a18)
def zp (rec:T0) (a1:Y4) (a2:Y7) (a5 a6:Bool) (a8:Y6) (a9 a10:Int) (a16:(List Y6)) (a17 a18:Int):Z7 :=
  rec a1 a2 a5 a6 a8 (IntKind.i64.wrap (a9*a2.1)) (IntKind.i64.wrap (a10+1)) a16 a17 a18
def zq (L13:T6) (k:T2) (a1:Y4) (a2:Y7) (a5 a6:Bool) (a8:Y6) (a9 a10:Int) (a16:(List Y6)) (a17 a18:Int):Z7 :=
  cond (decide (a10<a8.1))
  (L13 a1 a2 a5 a6 a8 a9 a10 a16 a17 a18 a8.2.1 (a8.2.1.length:Int) 0)
  (k a1 a2 a5 a6 a16 a17 a18)
def xf (rec:T2) (a1:Y4) (a2:Y7) (a5 a6:Bool) (a16:(List Y6)) (a17 a18:Int):Z7 :=
  rec a1 a2 a5 a6 a16 a17 (IntKind.i64.wrap (a18+1))
def wdu (L10:T0) (k:T24) (a1:Y4) (a2:Y7) (a5 a6:Bool) (a16:(List Y6)) (a17 a18:Int):Z7 :=
  cond (decide (a18<a17))
  ((atI a16 a18).bind fun xq1 =>
  L10 a1 a2 a5 a6 xq1 1 0 a16 a17 a18)
  (k a1 a2 a5 a6)
def yo (rec:T24) (a1:Y4) (a2:Y7) (a5 a6:Bool):Z7 :=
  rec a1 a2 a5 a6
def wmz (L6:T2) (k:Y4→Bool→Z7) (a1:Y4) (a2:Y7) (a5 a6:Bool):Z7 :=
  cond a6
  (L6 a1 a2 a5 false a2.2.1 (a2.2.1.length:Int) 0)
  (k a1 a5)
def wht (a1:Y4) (a5:Bool):Z7 :=
  some (a5,(a1,()))
def wy9 (L3:T24) (a_0:Y7) (p_1:Y4):Z7 :=
  L3 p_1 a_0 false true
def wor (N:Nat) (k:T0):=itN (fun r=>wdt r k) fun _ _ _ _ _ _ _ _ _ _ _ _ _=>none
def wdr (N:Nat) (rec:T0) (k:T2):=wor N (zp rec) N
def woq (N:Nat) (k:T2):=itN (fun r=>zq (wdr N r k) k) fun _ _ _ _ _ _ _ _ _ _=>none
def wdq (N:Nat) (rec:T2) (k:T24):=woq N (xf rec) N
def ws7 (N:Nat) (k:T24):=itN (fun r=>wdu (wdq N r k) k) fun _ _ _ _ _ _ _=>none
def wmu (N:Nat) (rec:T24) (k:Y4→Bool→Z7):=ws7 N (yo rec) N
def ws6 (N:Nat) (k:Y4→Bool→Z7):=itN (fun r=>wmz (wmu N r k) k) fun _ _ _ _=>none
def ws5 (N:Nat):=ws6 N (wht) N
def V69 (N:Nat) (a_0:Y7) (p_1:Y4):Z7:=wy9 (ws5 N) a_0 p_1
def S_V69:Sig:=⟨(.pair Q2 Q14),[0,1],[O4],Q14,.bool,.i,fun x=>V69 big x.1 x.2.1⟩
def A_V69:Cfg:=mkCfg tab [(77,S_V68)] [(6,[D0,B3,B8,D0,D0,B6,B6]),(12,([D0,B3,B8,D0,D0,B6,B6]++dr 9 [.as (.sl Q9) .i,B0,B0])),(43,([D0,B3]++dr 3 [B6])),(20,([D0,B3,B8,D0,D0,B6,B6,D0,.as Q21 O4,B0,B0]++dr 5 [.as (.sl Q9) .i,B0,B0])),(26,([D0,B3,B8,D0,D0,B6,B6,D0,.as Q21 O4,B0,B0]++dr 5 ([.as (.sl Q9) .i,B0,B0]++dr 10 [B2,B0,B0]))),(41,([D0,B3,B8,D0,D0,B6,B6]++dr 9 [.as (.sl Q9) .i,B0,B0])),(39,([D0,B3,B8,D0,D0,B6,B6,D0,.as Q21 O4,B0,B0]++dr 5 [.as (.sl Q9) .i,B0,B0]))]
noncomputable def wao (N n:Nat) (K:Ex→St→Z7) (a1:Y4) (a2:Y7) (a5 a6:Bool):Z7:=itr A_V69 N 6 Tryz.f44 [1,1,0,1,0,0] n ([.u,W3 a1,W8 a2,.u,.u,W6 a5,W6 a6]++us 59) K
noncomputable def wap (N n:Nat) (K:Ex→St→Z7) (a1:Y4) (a2:Y7) (a5 a6:Bool) (a16:(List Y6)) (a17 a18:Int):Z7:=itr A_V69 N 12 Tryz.f44 [1,1,0,1,0,0,1,0,1,1,0,0] n (([.u,W3 a1,W8 a2,.u,.u,W6 a5,W6 a6]++ud 9 [.val (.sl Q9) .i a16,W0 a17,W0 a18])++us 47) K
noncomputable def xz (N n:Nat) (K:Ex→St→Z7) (a1:Y4) (a2:Y7) (a5 a6:Bool) (a8:Y6) (a9 a10:Int) (a16:(List Y6)) (a17 a18:Int):Z7:=itr A_V69 N 20 Tryz.f44 [1,1,0,1,0,0,1,0,1,1,0,0,1,1,0,0,1,1,1,0,0] n (([.u,W3 a1,W8 a2,.u,.u,W6 a5,W6 a6,.u,.val Q21 O4 a8,W0 a9,W0 a10]++ud 5 [.val (.sl Q9) .i a16,W0 a17,W0 a18])++us 47) K
noncomputable def wds (N n:Nat) (K:Ex→St→Z7) (a1:Y4) (a2:Y7) (a5 a6:Bool) (a8:Y6) (a9 a10:Int) (a16:(List Y6)) (a17 a18:Int) (a29:Y4) (a30 a31:Int):Z7:=itr A_V69 N 26 Tryz.f44 [1,1,0,1,0,0,1,0,1,1,0,0,1,1,0,0,1,1,1,0,0,1,0,0,0,1,0,0] n (([.u,W3 a1,W8 a2,.u,.u,W6 a5,W6 a6,.u,.val Q21 O4 a8,W0 a9,W0 a10]++ud 5 ([.val (.sl Q9) .i a16,W0 a17,W0 a18]++ud 10 [W2 a29,W0 a30,W0 a31]))++us 34) K
noncomputable def wjn:Ex→St→Z7:=finish A_V69 S_V69 Tryz.f44.results.toList
noncomputable def wmx (kX:T87) (a1:Y4) (a5:Bool):Z7:=kX (([.u,W3 a1]++ud 3 [W6 a5])++us 60)
noncomputable def wdo (kX:T87) (kO:T66):=exK wjn 0 (A_V69.shape 43) kX kO
noncomputable def wmy (kX:T87) (a1:Y4) (a2:Y7) (a5 a6:Bool):Z7:=kX ([.u,W3 a1,W8 a2,.u,.u,W6 a5,W6 a6]++us 59)
noncomputable def wdp (kX:T87) (kO:T66):=exK wjn 2 (A_V69.shape 6) kX kO
noncomputable def wjm (kX:T87) (a1:Y4) (a2:Y7) (a5 a6:Bool) (a16:(List Y6)) (a17 a18:Int):Z7:=kX (([.u,W3 a1,W8 a2,.u,.u,W6 a5,W6 a6]++ud 9 [.val (.sl Q9) .i a16,W0 a17,W0 a18])++us 47)
noncomputable def zo (kX:T87) (kO:T66):=exK wjn 4 (A_V69.shape 41) kX kO
noncomputable def wv2 (kX:T87) (a1:Y4) (a2:Y7) (a5 a6:Bool) (a8:Y6) (a9 a10:Int) (a16:(List Y6)) (a17 a18:Int):Z7:=kX (([.u,W3 a1,W8 a2,.u,.u,W6 a5,W6 a6,.u,.val Q21 O4 a8,W0 a9,W0 a10]++ud 5 [.val (.sl Q9) .i a16,W0 a17,W0 a18])++us 47)
noncomputable def wv1 (kX:T87) (kO:T66):=exK wjn 6 (A_V69.shape 39) kX kO
theorem wy8 (N kX kO):∀n,wds N n (wv1 kX kO)=wor N (wv2 kX) n :=
 itE rfl fun m=>by kernel_rfl
noncomputable def wjl (N m:Nat) (kX:T87) (kO:T66):=(blockK 6 (sqK A_V69 N 39 500019 Tryz.f44 [1,1,0,1,0,0,1,0,1,1,0,0,1,1,0,0,1,1,1,0,0,1,0,0,1] (blockK 5 (sqK A_V69 N 23 500011 Tryz.f44 [1,1,0,1,0,0,1,0,1,1,0,0,1,1,0,0,1,1,1,0,0,1,1] (itK A_V69 N 20 Tryz.f44 [1,1,0,1,0,0,1,0,1,1,0,0,1,1,0,0,1,1,1,0,0] m (zo kX kO))))))
noncomputable def wv4 (N m:Nat) (kX:T87) (kO:T66) (st':St):Z7:=rn A_V69 N Tryz.f44 [1,1,0,1,0,0,1,0,1,1,0,0,1,1,0,0,1,1,1,0,0,1,0,0,1] st' (blockK 5 (sqK A_V69 N 23 500011 Tryz.f44 [1,1,0,1,0,0,1,0,1,1,0,0,1,1,0,0,1,1,1,0,0,1,1] (itK A_V69 N 20 Tryz.f44 [1,1,0,1,0,0,1,0,1,1,0,0,1,1,0,0,1,1,1,0,0] m (zo kX kO))))
theorem w88 (N m kX kO) {r}(h:xz N m (zo kX kO)=r):wds N N (wjl N m kX kO)=wdr N r (wjm kX):=by
 rw[show wds N N (wjl N m kX kO)=wds N N (wv1 (wv4 N m kX kO) fun j=>(wjl N m kX kO) (.exit j)) from(by funext _ _ _ _ _ _ _ _ _ _ _ _ _;exact jky),wy8,show wv2 (wv4 N m kX kO)=zp (xz N m (zo kX kO)) by kernel_rfl,h];rfl
theorem wy7 (N kX kO):∀n,xz N n (zo kX kO)=woq N (wjm kX) n :=
 itE rfl fun m=>(show _=zq (wds N N (wjl N m kX kO)) (wjm kX) by kernel_rfl).trans (by rw[w88 N m kX kO rfl]<;>rfl)
noncomputable def wjk (N m:Nat) (kX:T87) (kO:T66):=(blockK 4 (blockK 3 (sqK A_V69 N 41 500020 Tryz.f44 [1,1,0,1,0,0,1,0,1,1,0,0,1,1,1] (itK A_V69 N 12 Tryz.f44 [1,1,0,1,0,0,1,0,1,1,0,0] m (wdp kX kO)))))
noncomputable def wv3 (N m:Nat) (kX:T87) (kO:T66) (st':St):Z7:=rn A_V69 N Tryz.f44 [1,1,0,1,0,0,1,0,1,1,0,0,1,1,1] st' (itK A_V69 N 12 Tryz.f44 [1,1,0,1,0,0,1,0,1,1,0,0] m (wdp kX kO))
theorem w87 (N m kX kO) {r}(h:wap N m (wdp kX kO)=r):xz N N (wjk N m kX kO)=wdq N r (wmy kX):=by
 rw[show xz N N (wjk N m kX kO)=xz N N (zo (wv3 N m kX kO) fun j=>(wjk N m kX kO) (.exit j)) from(by funext _ _ _ _ _ _ _ _ _ _;exact jky),wy7,show wjm (wv3 N m kX kO)=xf (wap N m (wdp kX kO)) by kernel_rfl,h];rfl
theorem w52 (N kX kO):∀n,wap N n (wdp kX kO)=ws7 N (wmy kX) n :=
 itE rfl fun m=>(show _=wdu (xz N N (wjk N m kX kO)) (wmy kX) by kernel_rfl).trans (by rw[w87 N m kX kO rfl]<;>rfl)
noncomputable def wmw (N m:Nat) (kX:T87) (kO:T66):=(blockK 2 (blockK 1 (itK A_V69 N 6 Tryz.f44 [1,1,0,1,0,0] m (wdo kX kO))))
noncomputable def w54 (N m:Nat) (kX:T87) (kO:T66) (st':St):Z7:=itr A_V69 N 6 Tryz.f44 [1,1,0,1,0,0] m st' (wdo kX kO)
theorem xc5 (N m kX kO) {r}(h:wao N m (wdo kX kO)=r):wap N N (wmw N m kX kO)=wmu N r (wmx kX):=by
 rw[show wap N N (wmw N m kX kO)=wap N N (wdp (w54 N m kX kO) fun j=>(wmw N m kX kO) (.exit j)) from(by funext _ _ _ _ _ _ _;exact jky),w52,show wmy (w54 N m kX kO)=yo (wao N m (wdo kX kO)) by kernel_rfl,h];rfl
theorem w51 (N kX kO):∀n,wao N n (wdo kX kO)=ws6 N (wmx kX) n :=
 itE rfl fun m=>(show _=wmz (wap N N (wmw N m kX kO)) (wmx kX) by kernel_rfl).trans (by rw[xc5 N m kX kO rfl]<;>rfl)
noncomputable def wmv (N:Nat):=(blockK 0 (sqK A_V69 N 43 500021 Tryz.f44 [1,1,1] wjn))
noncomputable def w53 (N:Nat) (st':St):Z7:=rn A_V69 N Tryz.f44 [1,1,1] st' wjn
theorem xc4 (N):wao N N (wmv N)=ws5 N:=by
 rw[show wao N N (wmv N)=wao N N (wdo (w53 N) fun j=>(wmv N) (.exit j)) from(by funext _ _ _ _;exact jky),w51,show wmx (w53 N)=wht by kernel_rfl];rfl
theorem run_V69 (N x):runF A_V69 N Tryz.f44 S_V69 x=V69 N x.1 x.2.1:=(show _=(wy9 (wao N N (wmv N)) x.1 x.2.1) by kernel_rfl).trans (by rw[xc4 N];rfl)
theorem ok_V69:OK 44 S_V69:=gdR (A:=A_V69) tc Tryz.func44 (jeb ⟨ok_V68,trivial⟩) (run_V69 big)
def xad (a_0:Y7) (p_1:Y4):Z1 :=
  (V66 big a_0.1 p_1).bind fun rq1 =>
  cond rq1.1
  ((V67 p_1).bind fun rq2 =>
  (V69 big a_0 rq2.1).bind fun rq3 =>
  some (!rq3.1,(())))
  (some (false,(())))
def V70 (a_0:Y7) (p_1:Y4):Z1:=xad a_0 p_1
def S_V70:Sig:=⟨(.pair Q2 Q14),[0,0],[],.unit,.bool,.i,fun x=>V70 x.1 x.2.1⟩
def A_V70:Cfg:=mkCfg tab [(31,S_V66),(45,S_V67),(44,S_V69)] []
theorem run_V70 (N x):runF A_V70 N Tryz.f19 S_V70 x=V70 x.1 x.2.1:=by kernel_rfl
theorem ok_V70:OK 19 S_V70:=gdR (A:=A_V70) tc Tryz.func19 (jeb ⟨ok_V66,ok_V67,ok_V69,trivial⟩) (run_V70 big)
end Go.Proofs.YteanfidobhpchaaGreat
