import Derived.Test.YtgmapdlhkfajoaaGreatGSTp2
set_option maxRecDepth 100000
set_option linter.unusedVariables false
namespace Go.Proofs.YtgmapdlhkfajoaaGreat
open Go Go.Gx Go.Proofs
def wih (rec:T69) (k:Y2→Y2→Y2→Int→Y4→Z2) (a1 a2 a3:Y2) (a4:Int) (a5:Y4) (a6:Int):Z2 :=
  cond (decide (a6<(a1.1.length:Int)))
  ((V15 a1 a4 a6).bind fun rq1 =>
  cond rq1.1
  ((appI a5 [a6]).bind fun xq2 =>
  rec a1 a2 a3 a4 xq2 (IntKind.i64.wrap (a6+1)))
  (rec a1 a2 a3 a4 a5 (IntKind.i64.wrap (a6+1))))
  (k a1 a2 a3 a4 a5)
def wet (rec:T65) (a1 a2 a3:Y2) (a4:Int) (a5:Y4):Z2 :=
  (appI a3.1 [a5]).bind fun xq3 =>
  rec a1 a2 (xq3,((),a3.2).2) (IntKind.i64.wrap (a4+1))
def weu (L7:T69) (k:T21) (a1 a2 a3:Y2) (a4:Int):Z2 :=
  cond (decide (a4<(a1.1.length:Int)))
  (L7 a1 a2 a3 a4 [] 0)
  (k a2 a3)
def yt (a2 a3:Y2):Z2 :=
  some (a3,(()))
def w4k (L3:T65) (p_0:Y2):Z2 :=
  L3 p_0 (([]:Y3),()) ([],()) 0
def wv1 (N:Nat) (k:Y2→Y2→Y2→Int→Y4→Z2):=itN (fun r=>wih r k) fun _ _ _ _ _ _=>none
def wif (N:Nat) (rec:T65) (k:T21):=wv1 N (wet rec) N
def wv0 (N:Nat) (k:T21):=itN (fun r=>weu (wif N r k) k) fun _ _ _ _=>none
def wvz (N:Nat):=wv0 N (yt) N
def V59 (N:Nat) (p_0:Y2):Z2:=w4k (wvz N) p_0
def S_V59:Sig:=⟨Q17,[0],[],.unit,Q0,(.p O14 .i),fun x=>V59 big x.1⟩
def A_V59:Cfg:=mkCfg tab [(31,S_V15)] [(6,[D0,B3,B2,B2,B0]),(14,[D0,B3,B2,B2,B0,B1,B0]),(25,[D0,D0,B2,B2]),(23,[D0,B3,B2,B2,B0,B1])]
noncomputable def wbf (N n:Nat) (K:T27) (a1 a2 a3:Y2) (a4:Int):Z2:=itr A_V59 N 6 Tryz.f78 [1,1,0,1,0,0] n ([.u,W3 a1,W2 a2,W2 a3,W0 a4]++us 34) K
noncomputable def wig (N n:Nat) (K:T27) (a1 a2 a3:Y2) (a4:Int) (a5:Y4) (a6:Int):Z2:=itr A_V59 N 14 Tryz.f78 [1,1,0,1,0,0,1,0,0,1,0,1,0,0] n ([.u,W3 a1,W2 a2,W2 a3,W0 a4,W1 a5,W0 a6]++us 32) K
noncomputable def wsc:Ex→St→Z2:=finish A_V59 S_V59 Tryz.f78.results.toList
noncomputable def wob (kX:T1) (a2 a3:Y2):Z2:=kX ([.u,.u,W2 a2,W2 a3]++us 35)
noncomputable def wes (kX:T1) (kO:T0):=exK wsc 0 (A_V59.shape 25) kX kO
noncomputable def xaw (kX:T1) (a1 a2 a3:Y2) (a4:Int) (a5:Y4):Z2:=kX ([.u,W3 a1,W2 a2,W2 a3,W0 a4,W1 a5]++us 33)
noncomputable def xav (kX:T1) (kO:T0):=exK wsc 2 (A_V59.shape 23) kX kO
theorem xay (N kX kO):∀n,wig N n (xav kX kO)=wv1 N (xaw kX) n :=
 itE rfl fun m=>by kernel_rfl
noncomputable def woa (N m:Nat) (kX:T1) (kO:T0):=(blockK 2 (sqK A_V59 N 23 500011 Tryz.f78 [1,1,0,1,0,0,1,0,0,1,1] (blockK 1 (sqK A_V59 N 9 500004 Tryz.f78 [1,1,0,1,0,0,1,1] (itK A_V59 N 6 Tryz.f78 [1,1,0,1,0,0] m (wes kX kO))))))
noncomputable def xa0 (N m:Nat) (kX:T1) (kO:T0) (st':St):Z2:=rn A_V59 N Tryz.f78 [1,1,0,1,0,0,1,0,0,1,1] st' (blockK 1 (sqK A_V59 N 9 500004 Tryz.f78 [1,1,0,1,0,0,1,1] (itK A_V59 N 6 Tryz.f78 [1,1,0,1,0,0] m (wes kX kO))))
theorem xj1 (N m kX kO) {r}(h:wbf N m (wes kX kO)=r):wig N N (woa N m kX kO)=wif N r (wob kX):=by
 rw[show wig N N (woa N m kX kO)=wig N N (xav (xa0 N m kX kO) fun j=>(woa N m kX kO) (.exit j)) from(by funext _ _ _ _ _ _;exact jlo),xay,show xaw (xa0 N m kX kO)=wet (wbf N m (wes kX kO)) by kernel_rfl,h];rfl
theorem xax (N kX kO):∀n,wbf N n (wes kX kO)=wv0 N (wob kX) n :=
 itE rfl fun m=>(show _=weu (wig N N (woa N m kX kO)) (wob kX) by kernel_rfl).trans (by rw[xj1 N m kX kO rfl]<;>rfl)
noncomputable def wn9 (N:Nat):=(blockK 0 (sqK A_V59 N 25 500012 Tryz.f78 [1,1,1] wsc))
noncomputable def xaz (N:Nat) (st':St):Z2:=rn A_V59 N Tryz.f78 [1,1,1] st' wsc
theorem xj0 (N):wbf N N (wn9 N)=wvz N:=by
 rw[show wbf N N (wn9 N)=wbf N N (wes (xaz N) fun j=>(wn9 N) (.exit j)) from(by funext _ _ _ _;exact jlo),xax,show wob (xaz N)=yt by kernel_rfl];rfl
theorem run_V59 (N x):runF A_V59 N Tryz.f78 S_V59 x=V59 N x.1:=(show _=(w4k (wbf N N (wn9 N)) x.1) by kernel_rfl).trans (by rw[xj0 N];rfl)
theorem ok_V59:OK 78 S_V59:=gdR (A:=A_V59) tc Tryz.func78 (jes ⟨ok_V15,trivial⟩) (run_V59 big)
def wey (rec:T114) (k:Z4) (a2:Y2) (a5:Y4) (a9:Int):Z4 :=
  cond (decide (a9<(a5.length:Int)))
  ((atI a5 a9).bind fun _ =>
  (a5[a9.toNat]?).bind fun xq4 =>
  (atI a2.1 xq4).bind fun xq5 =>
  (V57 big a5 xq5).bind fun rq6 =>
  cond rq6.1
  ((atI a5 a9).bind fun _ =>
  (a5[a9.toNat]?).bind fun xq7 =>
  some (xq7,(())))
  (rec a2 a5 (IntKind.i64.wrap (a9+1))))
  (k)
def wal:Z4 :=
  some ((-1:Int),(()))
def wik (rec:T61) (k:Y4→Y2→Y4→Int→Bool→Z4) (a1:Y4) (a2:Y2) (a5:Y4) (a6:Int) (a7:Bool) (a8:Int):Z4 :=
  cond (decide (a8<(a1.length:Int)))
  (cond a7
  ((atI a1 a8).bind fun xq1 =>
  (V15 a2 a6 xq1).bind fun rq2 =>
  rec a1 a2 a5 a6 rq2.1 (IntKind.i64.wrap (a8+1)))
  (rec a1 a2 a5 a6 false (IntKind.i64.wrap (a8+1))))
  (k a1 a2 a5 a6 a7)
def wex (rec:T66) (a1:Y4) (a2:Y2) (a5:Y4) (a6:Int) (a7:Bool):Z4 :=
  cond a7
  ((appI a5 [a6]).bind fun xq3 =>
  rec a1 a2 xq3 (IntKind.i64.wrap (a6+1)))
  (rec a1 a2 a5 (IntKind.i64.wrap (a6+1)))
def wez (L7:T61) (k:Y2→Y4→Z4) (a1:Y4) (a2:Y2) (a5:Y4) (a6:Int):Z4 :=
  cond (decide (a6<(a2.1.length:Int)))
  (L7 a1 a2 a5 a6 true 0)
  (k a2 a5)
def yu (L13:T114) (a2:Y2) (a5:Y4):Z4 :=
  L13 a2 a5 0
def w4o (L3:T66) (p_0:Y2) (some_1:Y4):Z4 :=
  L3 some_1 p_0 [] 0
def wv4 (N:Nat) (k:Y4→Y2→Y4→Int→Bool→Z4):=itN (fun r=>wik r k) fun _ _ _ _ _ _=>none
def wii (N:Nat) (rec:T66) (k:Y2→Y4→Z4):=wv4 N (wex rec) N
def wv3 (N:Nat) (k:Y2→Y4→Z4):=itN (fun r=>wez (wii N r k) k) fun _ _ _ _=>none
def wrh (N:Nat) (k:Z4):=itN (fun r=>wey r k) fun _ _ _=>none
def xk (N:Nat):=wrh N (wal) N
def wv2 (N:Nat):=wv3 N (yu (xk N)) N
def V60 (N:Nat) (p_0:Y2) (some_1:Y4):Z4:=w4o (wv2 N) p_0 some_1
def S_V60:Sig:=⟨(.pair Q0 (.pair Q10 .unit)),[0,0],[],.unit,I,.i,fun x=>V60 big x.1 x.2.1⟩
def A_V60:Cfg:=mkCfg tab [(31,S_V15),(109,S_V57)] [(6,[D0,B4,B3,D0,D0,B1,B0]),(14,[D0,B4,B3,D0,D0,B1,B0,.as .bool .i,B0]),(25,[D0,D0,B3,D0,D0,B1]),(26,([D0,D0,B3,D0,D0,B1]++dr 3 [B0])),(21,[D0,B4,B3,D0,D0,B1,B0,.as .bool .i]),(35,[])]
noncomputable def wbg (N n:Nat) (K:T51) (a1:Y4) (a2:Y2) (a5:Y4) (a6:Int):Z4:=itr A_V60 N 6 Tryz.f79 [1,1,0,1,0,0] n ([.u,W4 a1,W3 a2,.u,.u,W1 a5,W0 a6]++us 52) K
noncomputable def wij (N n:Nat) (K:T51) (a1:Y4) (a2:Y2) (a5:Y4) (a6:Int) (a7:Bool) (a8:Int):Z4:=itr A_V60 N 14 Tryz.f79 [1,1,0,1,0,0,1,0,0,1,0,1,0,0] n ([.u,W4 a1,W3 a2,.u,.u,W1 a5,W0 a6,.val .bool .i a7,W0 a8]++us 50) K
noncomputable def wew (N n:Nat) (K:T51) (a2:Y2) (a5:Y4) (a9:Int):Z4:=itr A_V60 N 26 Tryz.f79 [1,1,1,0,1,0,0] n (([.u,.u,W3 a2,.u,.u,W1 a5]++ud 3 [W0 a9])++us 49) K
noncomputable def wgo:Ex→St→Z4:=finish A_V60 S_V60 Tryz.f79.results.toList
noncomputable def wog (kX:T22) (a2:Y2) (a5:Y4):Z4:=kX ([.u,.u,W3 a2,.u,.u,W1 a5]++us 53)
noncomputable def wev (kX:T22) (kO:T12):=exK wgo 0 (A_V60.shape 25) kX kO
noncomputable def xa2 (kX:T22) (a1:Y4) (a2:Y2) (a5:Y4) (a6:Int) (a7:Bool):Z4:=kX ([.u,W4 a1,W3 a2,.u,.u,W1 a5,W0 a6,.val .bool .i a7]++us 51)
noncomputable def xa1 (kX:T22) (kO:T12):=exK wgo 2 (A_V60.shape 21) kX kO
noncomputable def w1t (kX:T22):Z4:=kX ([]++us 59)
noncomputable def w1s (kX:T22) (kO:T12):=exK wgo 4 (A_V60.shape 35) kX kO
theorem xa4 (N kX kO):∀n,wij N n (xa1 kX kO)=wv4 N (xa2 kX) n :=
 itE rfl fun m=>by kernel_rfl
noncomputable def wof (N m:Nat) (kX:T22) (kO:T12):=(blockK 2 (sqK A_V60 N 21 500010 Tryz.f79 [1,1,0,1,0,0,1,0,0,1,1] (blockK 1 (sqK A_V60 N 9 500004 Tryz.f79 [1,1,0,1,0,0,1,1] (itK A_V60 N 6 Tryz.f79 [1,1,0,1,0,0] m (wev kX kO))))))
noncomputable def xa6 (N m:Nat) (kX:T22) (kO:T12) (st':St):Z4:=rn A_V60 N Tryz.f79 [1,1,0,1,0,0,1,0,0,1,1] st' (blockK 1 (sqK A_V60 N 9 500004 Tryz.f79 [1,1,0,1,0,0,1,1] (itK A_V60 N 6 Tryz.f79 [1,1,0,1,0,0] m (wev kX kO))))
theorem xj4 (N m kX kO) {r}(h:wbg N m (wev kX kO)=r):wij N N (wof N m kX kO)=wii N r (wog kX):=by
 rw[show wij N N (wof N m kX kO)=wij N N (xa1 (xa6 N m kX kO) fun j=>(wof N m kX kO) (.exit j)) from(by funext _ _ _ _ _ _;exact jlo),xa4,show xa2 (xa6 N m kX kO)=wex (wbg N m (wev kX kO)) by kernel_rfl,h];rfl
theorem xa3 (N kX kO):∀n,wbg N n (wev kX kO)=wv3 N (wog kX) n :=
 itE rfl fun m=>(show _=wez (wij N N (wof N m kX kO)) (wog kX) by kernel_rfl).trans (by rw[xj4 N m kX kO rfl]<;>rfl)
noncomputable def woe (N:Nat):=(blockK 0 (sqK A_V60 N 25 500012 Tryz.f79 [1,1,1] wgo))
theorem w4n (N kX kO):∀n,wew N n (w1s kX kO)=wrh N (w1t kX) n :=
 itE rfl fun m=>by kernel_rfl
noncomputable def wli (N:Nat):=(blockK 4 (sqK A_V60 N 35 500017 Tryz.f79 [1,1,1,1] wgo))
noncomputable def w1u (N:Nat) (st':St):Z4:=rn A_V60 N Tryz.f79 [1,1,1,1] st' wgo
theorem xfv (N):wew N N (wli N)=xk N:=by
 rw[show wew N N (wli N)=wew N N (w1s (w1u N) fun j=>(wli N) (.exit j)) from(by funext _ _ _;exact jlo),w4n,show w1t (w1u N)=wal by kernel_rfl];rfl
noncomputable def xa5 (N:Nat) (st':St):Z4:=rn A_V60 N Tryz.f79 [1,1,1] st' wgo
theorem xj3 (N):wbg N N (woe N)=wv2 N:=by
 rw[show wbg N N (woe N)=wbg N N (wev (xa5 N) fun j=>(woe N) (.exit j)) from(by funext _ _ _ _;exact jlo),xa3,show wog (xa5 N)=yu (wew N N (wli N)) by kernel_rfl,xfv N];rfl
theorem run_V60 (N x):runF A_V60 N Tryz.f79 S_V60 x=V60 N x.1 x.2.1:=(show _=(w4o (wbg N N (woe N)) x.1 x.2.1) by kernel_rfl).trans (by rw[xj3 N];rfl)
theorem ok_V60:OK 79 S_V60:=gdR (A:=A_V60) tc Tryz.func79 (jes ⟨ok_V15,ok_V57,trivial⟩) (run_V60 big)
def wio (rec:Y2→Y2→Int→Int→Option Z0) (k:Y2→Y2→Int→Option Z0) (a1 a3:Y2) (a4 a5:Int):Option Z0 :=
  cond (decide (a5<a4))
  ((V60 big a1 [a4,a5]).bind fun rq3 =>
  cond (decide (rq3.1<0))
  (some (false,(())))
  ((V60 big a3 [a4,a5]).bind fun rq4 =>
  cond (decide (rq4.1<0))
  (some (false,(())))
  (rec a1 a3 a4 (IntKind.i64.wrap (a5+1)))))
  (k a1 a3 a4)
def we1 (rec:Y2→Y2→Int→Option Z0) (a1 a3:Y2) (a4:Int):Option Z0 :=
  rec a1 a3 (IntKind.i64.wrap (a4+1))
def we2 (L8:Y2→Y2→Int→Int→Option Z0) (k:Option Z0) (a1 a3:Y2) (a4:Int):Option Z0 :=
  cond (decide (a4<(a1.1.length:Int)))
  (L8 a1 a3 a4 0)
  (k)
def yv:Option Z0 :=
  some (true,(()))
def w4p (L5:Y2→Y2→Int→Option Z0) (p_0:Y2):Option Z0 :=
  (V58 big p_0).bind fun rq1 =>
  cond (!rq1.1)
  (some (false,(())))
  (cond (decide ((p_0.1.length:Int)=0))
  (some (false,(())))
  ((V59 big p_0).bind fun rq2 =>
  L5 p_0 rq2.1 0))
def wv7 (N:Nat) (k:Y2→Y2→Int→Option Z0):=itN (fun r=>wio r k) fun _ _ _ _=>none
def wil (N:Nat) (rec:Y2→Y2→Int→Option Z0) (k:Option Z0):=wv7 N (we1 rec) N
def wv6 (N:Nat) (k:Option Z0):=itN (fun r=>we2 (wil N r k) k) fun _ _ _=>none
def wv5 (N:Nat):=wv6 N (yv) N
def V61 (N:Nat) (p_0:Y2):Option Z0:=w4p (wv5 N) p_0
def S_V61:Sig:=⟨Q17,[0],[],.unit,.bool,.i,fun x=>V61 big x.1⟩
def A_V61:Cfg:=mkCfg tab [(122,S_V58),(78,S_V59),(79,S_V60)] [(10,[D0,B3,D0,B2,B0]),(16,[D0,B3,D0,B2,B0,B0]),(25,[]),(13,[D0,B3,D0,B2,B0])]
noncomputable def wbh (N n:Nat) (K:Ex→St→Option Z0) (a1 a3:Y2) (a4:Int):Option Z0:=itr A_V61 N 10 Tryz.f104 [1,1,1,0,1,0,0] n ([.u,W3 a1,.u,W2 a3,W0 a4]++us 38) K
noncomputable def wim (N n:Nat) (K:Ex→St→Option Z0) (a1 a3:Y2) (a4 a5:Int):Option Z0:=itr A_V61 N 16 Tryz.f104 [1,1,1,0,1,0,0,1,0,0,1,0,0] n ([.u,W3 a1,.u,W2 a3,W0 a4,W0 a5]++us 37) K
noncomputable def wse:Ex→St→Option Z0:=finish A_V61 S_V61 Tryz.f104.results.toList
noncomputable def woj (kX:St→Option Z0):Option Z0:=kX ([]++us 43)
noncomputable def we0 (kX:St→Option Z0) (kO:Nat→St→Option Z0):Ex→St→Option Z0:=exK wse 0 (A_V61.shape 25) kX kO
noncomputable def xa8 (kX:St→Option Z0) (a1 a3:Y2) (a4:Int):Option Z0:=kX ([.u,W3 a1,.u,W2 a3,W0 a4]++us 38)
noncomputable def xa7 (kX:St→Option Z0) (kO:Nat→St→Option Z0):Ex→St→Option Z0:=exK wse 2 (A_V61.shape 13) kX kO
theorem xba (N kX kO):∀n,wim N n (xa7 kX kO)=wv7 N (xa8 kX) n :=
 itE rfl fun m=>by kernel_rfl
noncomputable def woi (N m:Nat) (kX:St→Option Z0) (kO:Nat→St→Option Z0):Ex→St→Option Z0:=(blockK 2 (blockK 1 (sqK A_V61 N 13 500006 Tryz.f104 [1,1,1,0,1,0,0,1,1] (itK A_V61 N 10 Tryz.f104 [1,1,1,0,1,0,0] m (we0 kX kO)))))
noncomputable def xbc (N m:Nat) (kX:St→Option Z0) (kO:Nat→St→Option Z0) (st':St):Option Z0:=rn A_V61 N Tryz.f104 [1,1,1,0,1,0,0,1,1] st' (itK A_V61 N 10 Tryz.f104 [1,1,1,0,1,0,0] m (we0 kX kO))
theorem xj6 (N m kX kO) {r}(h:wbh N m (we0 kX kO)=r):wim N N (woi N m kX kO)=wil N r (woj kX):=by
 rw[show wim N N (woi N m kX kO)=wim N N (xa7 (xbc N m kX kO) fun j=>(woi N m kX kO) (.exit j)) from(by funext _ _ _ _;exact jlo),xba,show xa8 (xbc N m kX kO)=we1 (wbh N m (we0 kX kO)) by kernel_rfl,h];rfl
theorem xa9 (N kX kO):∀n,wbh N n (we0 kX kO)=wv6 N (woj kX) n :=
 itE rfl fun m=>(show _=we2 (wim N N (woi N m kX kO)) (woj kX) by kernel_rfl).trans (by rw[xj6 N m kX kO rfl]<;>rfl)
noncomputable def woh (N:Nat):Ex→St→Option Z0:=(blockK 0 (sqK A_V61 N 25 500012 Tryz.f104 [1,1,1,1] wse))
noncomputable def xbb (N:Nat) (st':St):Option Z0:=rn A_V61 N Tryz.f104 [1,1,1,1] st' wse
theorem xj5 (N):wbh N N (woh N)=wv5 N:=by
 rw[show wbh N N (woh N)=wbh N N (we0 (xbb N) fun j=>(woh N) (.exit j)) from(by funext _ _ _;exact jlo),xa9,show woj (xbb N)=yv by kernel_rfl];rfl
theorem run_V61 (N x):runF A_V61 N Tryz.f104 S_V61 x=V61 N x.1:=(show _=(w4p (wbh N N (woh N)) x.1) by kernel_rfl).trans (by rw[xj5 N];rfl)
theorem ok_V61:OK 104 S_V61:=gdR (A:=A_V61) tc Tryz.func104 (jes ⟨ok_V58,ok_V59,ok_V60,trivial⟩) (run_V61 big)
def xhb (p_0:Y2) (x_1 y_2:Int):Z4 :=
  (V59 big p_0).bind fun rq1 =>
  (V60 big rq1.1 [x_1,y_2]).bind fun rq2 =>
  some (rq2.1,(()))
def V62 (p_0:Y2) (x_1 y_2:Int):Z4:=xhb p_0 x_1 y_2
def S_V62:Sig:=⟨(.pair Q0 Q11),[0,0,0],[],.unit,I,.i,fun x=>V62 x.1 x.2.1 x.2.2.1⟩
def A_V62:Cfg:=mkCfg tab [(78,S_V59),(79,S_V60)] []
theorem run_V62 (N x):runF A_V62 N Tryz.f108 S_V62 x=V62 x.1 x.2.1 x.2.2.1:=by kernel_rfl
theorem ok_V62:OK 108 S_V62:=gdR (A:=A_V62) tc Tryz.func108 (jes ⟨ok_V59,ok_V60,trivial⟩) (run_V62 big)
def xhc (p_0:Y2) (x_1 y_2:Int):Z4 :=
  (V60 big p_0 [x_1,y_2]).bind fun rq1 =>
  some (rq1.1,(()))
def V63 (p_0:Y2) (x_1 y_2:Int):Z4:=xhc p_0 x_1 y_2
def S_V63:Sig:=⟨(.pair Q0 Q11),[0,0,0],[],.unit,I,.i,fun x=>V63 x.1 x.2.1 x.2.2.1⟩
def A_V63:Cfg:=mkCfg tab [(79,S_V60)] []
theorem run_V63 (N x):runF A_V63 N Tryz.f77 S_V63 x=V63 x.1 x.2.1 x.2.2.1:=by kernel_rfl
theorem ok_V63:OK 77 S_V63:=gdR (A:=A_V63) tc Tryz.func77 (jes ⟨ok_V60,trivial⟩) (run_V63 big)
def wis (rec:T74) (k:T29) (a1:Y2) (a4 a5 a6 a7:Int):Z5 :=
  cond (decide (a7<a4))
  ((V62 a1 a6 a7).bind fun rq1 =>
  (V63 a1 a5 rq1.1).bind fun rq2 =>
  (V63 a1 a5 a6).bind fun rq3 =>
  (V63 a1 a5 a7).bind fun rq4 =>
  (V62 a1 rq3.1 rq4.1).bind fun rq5 =>
  cond (decide (rq2.1≠rq5.1))
  (some (([a5,a6,a7],true,()),(())))
  (rec a1 a4 a5 a6 (IntKind.i64.wrap (a7+1))))
  (k a1 a4 a5 a6)
def we5 (rec:T29) (a1:Y2) (a4 a5 a6:Int):Z5 :=
  rec a1 a4 a5 (IntKind.i64.wrap (a6+1))
def we7 (L9:T74) (k:T37) (a1:Y2) (a4 a5 a6:Int):Z5 :=
  cond (decide (a6<a4))
  (L9 a1 a4 a5 a6 0)
  (k a1 a4 a5)
def yx (rec:T37) (a1:Y2) (a4 a5:Int):Z5 :=
  rec a1 a4 (IntKind.i64.wrap (a5+1))
def we6 (L6:T29) (k:Z5) (a1:Y2) (a4 a5:Int):Z5 :=
  cond (decide (a5<a4))
  (L6 a1 a4 a5 0)
  (k)
def yw:Z5 :=
  some (([],false,()),(()))
def w4q (L3:T37) (p_0:Y2):Z5 :=
  L3 p_0 (p_0.1.length:Int) 0
def wwb (N:Nat) (k:T29):=itN (fun r=>wis r k) fun _ _ _ _ _=>none
def wiq (N:Nat) (rec:T29) (k:T37):=wwb N (we5 rec) N
def wwa (N:Nat) (k:T37):=itN (fun r=>we7 (wiq N r k) k) fun _ _ _ _=>none
def wip (N:Nat) (rec:T37) (k:Z5):=wwa N (yx rec) N
def wv9 (N:Nat) (k:Z5):=itN (fun r=>we6 (wip N r k) k) fun _ _ _=>none
def wv8 (N:Nat):=wv9 N (yw) N
def V64 (N:Nat) (p_0:Y2):Z5:=w4q (wv8 N) p_0
def S_V64:Sig:=⟨Q17,[0],[],.unit,(.tup (.pair Q10 Q18)),(.p O7 .i),fun x=>V64 big x.1⟩
def A_V64:Cfg:=mkCfg tab [(108,S_V62),(77,S_V63)] [(6,[D0,B3,D0,D0,B0,B0]),(12,[D0,B3,D0,D0,B0,B0,B0]),(27,[]),(18,[D0,B3,D0,D0,B0,B0,B0,B0]),(9,[D0,B3,D0,D0,B0,B0]),(15,[D0,B3,D0,D0,B0,B0,B0])]
noncomputable def wbi (N n:Nat) (K:T105) (a1:Y2) (a4 a5:Int):Z5:=itr A_V64 N 6 Tryz.f105 [1,1,0,1,0,0] n ([.u,W3 a1,.u,.u,W0 a4,W0 a5]++us 43) K
noncomputable def wbj (N n:Nat) (K:T105) (a1:Y2) (a4 a5 a6:Int):Z5:=itr A_V64 N 12 Tryz.f105 [1,1,0,1,0,0,1,0,0,1,0,0] n ([.u,W3 a1,.u,.u,W0 a4,W0 a5,W0 a6]++us 42) K
noncomputable def wir (N n:Nat) (K:T105) (a1:Y2) (a4 a5 a6 a7:Int):Z5:=itr A_V64 N 18 Tryz.f105 [1,1,0,1,0,0,1,0,0,1,0,0,1,0,0,1,0,0] n ([.u,W3 a1,.u,.u,W0 a4,W0 a5,W0 a6,W0 a7]++us 41) K
noncomputable def wop:Ex→St→Z5:=finish A_V64 S_V64 Tryz.f105.results.toList
noncomputable def won (kX:T56):Z5:=kX ([]++us 49)
noncomputable def we3 (kX:T56) (kO:T36):=exK wop 0 (A_V64.shape 27) kX kO
noncomputable def woo (kX:T56) (a1:Y2) (a4 a5:Int):Z5:=kX ([.u,W3 a1,.u,.u,W0 a4,W0 a5]++us 43)
noncomputable def we4 (kX:T56) (kO:T36):=exK wop 2 (A_V64.shape 9) kX kO
noncomputable def xbe (kX:T56) (a1:Y2) (a4 a5 a6:Int):Z5:=kX ([.u,W3 a1,.u,.u,W0 a4,W0 a5,W0 a6]++us 42)
noncomputable def xbd (kX:T56) (kO:T36):=exK wop 4 (A_V64.shape 15) kX kO
theorem xbh (N kX kO):∀n,wir N n (xbd kX kO)=wwb N (xbe kX) n :=
 itE rfl fun m=>by kernel_rfl
noncomputable def wom (N m:Nat) (kX:T56) (kO:T36):=(blockK 4 (blockK 3 (sqK A_V64 N 15 500007 Tryz.f105 [1,1,0,1,0,0,1,0,0,1,0,0,1,1] (itK A_V64 N 12 Tryz.f105 [1,1,0,1,0,0,1,0,0,1,0,0] m (we4 kX kO)))))
noncomputable def xbk (N m:Nat) (kX:T56) (kO:T36) (st':St):Z5:=rn A_V64 N Tryz.f105 [1,1,0,1,0,0,1,0,0,1,0,0,1,1] st' (itK A_V64 N 12 Tryz.f105 [1,1,0,1,0,0,1,0,0,1,0,0] m (we4 kX kO))
theorem xj9 (N m kX kO) {r}(h:wbj N m (we4 kX kO)=r):wir N N (wom N m kX kO)=wiq N r (woo kX):=by
 rw[show wir N N (wom N m kX kO)=wir N N (xbd (xbk N m kX kO) fun j=>(wom N m kX kO) (.exit j)) from(by funext _ _ _ _ _;exact jlo),xbh,show xbe (xbk N m kX kO)=we5 (wbj N m (we4 kX kO)) by kernel_rfl,h];rfl
theorem xbg (N kX kO):∀n,wbj N n (we4 kX kO)=wwa N (woo kX) n :=
 itE rfl fun m=>(show _=we7 (wir N N (wom N m kX kO)) (woo kX) by kernel_rfl).trans (by rw[xj9 N m kX kO rfl]<;>rfl)
noncomputable def wol (N m:Nat) (kX:T56) (kO:T36):=(blockK 2 (blockK 1 (sqK A_V64 N 9 500004 Tryz.f105 [1,1,0,1,0,0,1,1] (itK A_V64 N 6 Tryz.f105 [1,1,0,1,0,0] m (we3 kX kO)))))
noncomputable def xbj (N m:Nat) (kX:T56) (kO:T36) (st':St):Z5:=rn A_V64 N Tryz.f105 [1,1,0,1,0,0,1,1] st' (itK A_V64 N 6 Tryz.f105 [1,1,0,1,0,0] m (we3 kX kO))
theorem xj8 (N m kX kO) {r}(h:wbi N m (we3 kX kO)=r):wbj N N (wol N m kX kO)=wip N r (won kX):=by
 rw[show wbj N N (wol N m kX kO)=wbj N N (we4 (xbj N m kX kO) fun j=>(wol N m kX kO) (.exit j)) from(by funext _ _ _ _;exact jlo),xbg,show woo (xbj N m kX kO)=yx (wbi N m (we3 kX kO)) by kernel_rfl,h];rfl
theorem xbf (N kX kO):∀n,wbi N n (we3 kX kO)=wv9 N (won kX) n :=
 itE rfl fun m=>(show _=we6 (wbj N N (wol N m kX kO)) (won kX) by kernel_rfl).trans (by rw[xj8 N m kX kO rfl]<;>rfl)
noncomputable def wok (N:Nat):=(blockK 0 (sqK A_V64 N 27 500013 Tryz.f105 [1,1,1] wop))
noncomputable def xbi (N:Nat) (st':St):Z5:=rn A_V64 N Tryz.f105 [1,1,1] st' wop
theorem xj7 (N):wbi N N (wok N)=wv8 N:=by
 rw[show wbi N N (wok N)=wbi N N (we3 (xbi N) fun j=>(wok N) (.exit j)) from(by funext _ _ _;exact jlo),xbf,show won (xbi N)=yw by kernel_rfl];rfl
theorem run_V64 (N x):runF A_V64 N Tryz.f105 S_V64 x=V64 N x.1:=(show _=(w4q (wbi N N (wok N)) x.1) by kernel_rfl).trans (by rw[xj7 N];rfl)
theorem ok_V64:OK 105 S_V64:=gdR (A:=A_V64) tc Tryz.func105 (jes ⟨ok_V62,ok_V63,trivial⟩) (run_V64 big)
def w4r (p_0:Y2):Option Z0 :=
  (V61 big p_0).bind fun rq1 =>
  cond (!rq1.1)
  (some (false,(())))
  ((V64 big p_0).bind fun rq2 =>
  some (!((((),rq2.1.2).2).1),(())))
def V65 (p_0:Y2):Option Z0:=w4r p_0
def S_V65:Sig:=⟨Q17,[0],[],.unit,.bool,.i,fun x=>V65 x.1⟩
def A_V65:Cfg:=mkCfg tab [(104,S_V61),(105,S_V64)] []
theorem run_V65 (N x):runF A_V65 N Tryz.f66 S_V65 x=V65 x.1:=by kernel_rfl
theorem ok_V65:OK 66 S_V65:=gdR (A:=A_V65) tc Tryz.func66 (jes ⟨ok_V61,ok_V64,trivial⟩) (run_V65 big)
def xhd (p_0:Y2):Z4 :=
  (V59 big p_0).bind fun rq1 =>
  (V60 big rq1.1 []).bind fun rq2 =>
  some (rq2.1,(()))
def V66 (p_0:Y2):Z4:=xhd p_0
def S_V66:Sig:=⟨Q17,[0],[],.unit,I,.i,fun x=>V66 x.1⟩
def A_V66:Cfg:=mkCfg tab [(78,S_V59),(79,S_V60)] []
theorem run_V66 (N x):runF A_V66 N Tryz.f69 S_V66 x=V66 x.1:=by kernel_rfl
theorem ok_V66:OK 69 S_V66:=gdR (A:=A_V66) tc Tryz.func69 (jes ⟨ok_V59,ok_V60,trivial⟩) (run_V66 big)
def xhe (p_0:Y2):Z4 :=
  (V60 big p_0 []).bind fun rq1 =>
  some (rq1.1,(()))
def V67 (p_0:Y2):Z4:=xhe p_0
def S_V67:Sig:=⟨Q17,[0],[],.unit,I,.i,fun x=>V67 x.1⟩
def A_V67:Cfg:=mkCfg tab [(79,S_V60)] []
theorem run_V67 (N x):runF A_V67 N Tryz.f73 S_V67 x=V67 x.1:=by kernel_rfl
theorem ok_V67:OK 73 S_V67:=gdR (A:=A_V67) tc Tryz.func73 (jes ⟨ok_V60,trivial⟩) (run_V67 big)
def wiu (rec:T62) (k:T44) (a1 a2 a3:Int) (a4:Y2) (a9:Y4) (a10:Int):Z3 :=
  cond (decide (a10<(a4.1.length:Int)))
  ((V63 a4 a2 a10).bind fun rq1 =>
  cond (decide (rq1.1=a1))
  ((V62 a4 a2 a10).bind fun rq2 =>
  cond (decide (rq2.1=a3))
  ((appI a9 [a10]).bind fun xq3 =>
  rec a1 a2 a3 a4 xq3 (IntKind.i64.wrap (a10+1)))
  (rec a1 a2 a3 a4 a9 (IntKind.i64.wrap (a10+1))))
  (rec a1 a2 a3 a4 a9 (IntKind.i64.wrap (a10+1))))
  (k a9)
def we8 (a9:Y4):Z3 :=
  some (a9,(()))
def w4s (L3:T62) (p_0:Y2) (x_1 y_2 z_3:Int):Z3 :=
  L3 x_1 y_2 z_3 p_0 [] 0
def wwd (N:Nat) (k:T44):=itN (fun r=>wiu r k) fun _ _ _ _ _ _=>none
def wwc (N:Nat):=wwd N (we8) N
def V68 (N:Nat) (p_0:Y2) (x_1 y_2 z_3:Int):Z3:=w4s (wwc N) p_0 x_1 y_2 z_3
def S_V68:Sig:=⟨(.pair Q0 (.pair I Q11)),[0,0,0,0],[],.unit,Q10,O7,fun x=>V68 big x.1 x.2.1 x.2.2.1 x.2.2.2.1⟩
def A_V68:Cfg:=mkCfg tab [(77,S_V63),(108,S_V62)] [(6,([D0,B0,B0,B0,B3]++dr 4 [B1,B0])),(15,(dr 9 [B1]))]
noncomputable def wit (N n:Nat) (K:T31) (a1 a2 a3:Int) (a4:Y2) (a9:Y4) (a10:Int):Z3:=itr A_V68 N 6 Tryz.f72 [1,1,0,1,0,0] n (([.u,W0 a1,W0 a2,W0 a3,W3 a4]++ud 4 [W1 a9,W0 a10])++us 27) K
noncomputable def w4t:Ex→St→Z3:=finish A_V68 S_V68 Tryz.f72.results.toList
noncomputable def xbm (kX:T18) (a9:Y4):Z3:=kX ((ud 9 [W1 a9])++us 28)
noncomputable def xbl (kX:T18) (kO:T19):=exK w4t 0 (A_V68.shape 15) kX kO
theorem xbn (N kX kO):∀n,wit N n (xbl kX kO)=wwd N (xbm kX) n :=
 itE rfl fun m=>by kernel_rfl
noncomputable def woq (N:Nat):=(blockK 0 (sqK A_V68 N 15 500007 Tryz.f72 [1,1,1] w4t))
noncomputable def xbo (N:Nat) (st':St):Z3:=rn A_V68 N Tryz.f72 [1,1,1] st' w4t
theorem xka (N):wit N N (woq N)=wwc N:=by
 rw[show wit N N (woq N)=wit N N (xbl (xbo N) fun j=>(woq N) (.exit j)) from(by funext _ _ _ _ _ _;exact jlo),xbn,show xbm (xbo N)=we8 by kernel_rfl];rfl
theorem run_V68 (N x):runF A_V68 N Tryz.f72 S_V68 x=V68 N x.1 x.2.1 x.2.2.1 x.2.2.2.1:=(show _=(w4s (wit N N (woq N)) x.1 x.2.1 x.2.2.1 x.2.2.2.1) by kernel_rfl).trans (by rw[xka N];rfl)
theorem ok_V68:OK 72 S_V68:=gdR (A:=A_V68) tc Tryz.func72 (jes ⟨ok_V63,ok_V62,trivial⟩) (run_V68 big)
def wiw (rec:T63) (k:T44) (a1:Y2) (a3:Y4) (a4:Int):Z3 :=
  cond (decide (a4<(a1.1.length:Int)))
  ((V66 a1).bind fun rq1 =>
  (V67 a1).bind fun rq2 =>
  (V68 big a1 rq1.1 a4 rq2.1).bind fun rq3 =>
  (appI a3 [(rq3.1.length:Int)]).bind fun xq4 =>
  rec a1 xq4 (IntKind.i64.wrap (a4+1)))
  (k a3)
def we9 (a3:Y4):Z3 :=
  some (a3,(()))
def w4u (L3:T63) (p_0:Y2):Z3 :=
  L3 p_0 [] 0
def wwf (N:Nat) (k:T44):=itN (fun r=>wiw r k) fun _ _ _=>none
def wwe (N:Nat):=wwf N (we9) N
def V69 (N:Nat) (p_0:Y2):Z3:=w4u (wwe N) p_0
def S_V69:Sig:=⟨Q17,[0],[],.unit,Q10,O7,fun x=>V69 big x.1⟩
def A_V69:Cfg:=mkCfg tab [(69,S_V66),(73,S_V67),(72,S_V68)] [(6,[D0,B3,D0,B1,B0]),(13,(dr 3 [B1]))]
noncomputable def wiv (N n:Nat) (K:T31) (a1:Y2) (a3:Y4) (a4:Int):Z3:=itr A_V69 N 6 Tryz.f68 [1,1,0,1,0,0] n ([.u,W3 a1,.u,W1 a3,W0 a4]++us 20) K
noncomputable def w4v:Ex→St→Z3:=finish A_V69 S_V69 Tryz.f68.results.toList
noncomputable def xbq (kX:T18) (a3:Y4):Z3:=kX ((ud 3 [W1 a3])++us 21)
noncomputable def xbp (kX:T18) (kO:T19):=exK w4v 0 (A_V69.shape 13) kX kO
theorem xbr (N kX kO):∀n,wiv N n (xbp kX kO)=wwf N (xbq kX) n :=
 itE rfl fun m=>by kernel_rfl
noncomputable def wor (N:Nat):=(blockK 0 (sqK A_V69 N 13 500006 Tryz.f68 [1,1,1] w4v))
noncomputable def xbs (N:Nat) (st':St):Z3:=rn A_V69 N Tryz.f68 [1,1,1] st' w4v
theorem xkb (N):wiv N N (wor N)=wwe N:=by
 rw[show wiv N N (wor N)=wiv N N (xbp (xbs N) fun j=>(wor N) (.exit j)) from(by funext _ _ _;exact jlo),xbr,show xbq (xbs N)=we9 by kernel_rfl];rfl
theorem run_V69 (N x):runF A_V69 N Tryz.f68 S_V69 x=V69 N x.1:=(show _=(w4u (wiv N N (wor N)) x.1) by kernel_rfl).trans (by rw[xkb N];rfl)
theorem ok_V69:OK 68 S_V69:=gdR (A:=A_V69) tc Tryz.func68 (jes ⟨ok_V66,ok_V67,ok_V68,trivial⟩) (run_V69 big)
def w4w (p_0:Y2):Option Z0 :=
  (V65 p_0).bind fun rq1 =>
  cond rq1.1
  ((V69 big p_0).bind fun rq2 =>
  (V14 big rq2.1 0).bind fun rq3 =>
  some (!rq3.1,(())))
  (some (false,(())))
def V70 (p_0:Y2):Option Z0:=w4w p_0
def S_V70:Sig:=⟨Q17,[0],[],.unit,.bool,.i,fun x=>V70 x.1⟩
def A_V70:Cfg:=mkCfg tab [(66,S_V65),(68,S_V69),(67,S_V14)] []
theorem run_V70 (N x):runF A_V70 N Tryz.f29 S_V70 x=V70 x.1:=by kernel_rfl
theorem ok_V70:OK 29 S_V70:=gdR (A:=A_V70) tc Tryz.func29 (jes ⟨ok_V65,ok_V69,ok_V14,trivial⟩) (run_V70 big)
def wiy (rec:T94) (k:T44) (a1:Y2) (a3:Y4) (a4 a5:Int):Z3 :=
  cond (decide (a5<(a1.1.length:Int)))
  ((V17 big a1 a4 a5).bind fun rq2 =>
  cond rq2.1
  ((appI a3 [a5]).bind fun xq3 =>
  rec a1 xq3 a4 (IntKind.i64.wrap (a5+1)))
  (rec a1 a3 a4 (IntKind.i64.wrap (a5+1))))
  (k a3)
def wfa (a3:Y4):Z3 :=
  some (a3,(()))
def w4x (L4:T94) (p_0:Y2):Z3 :=
  (V66 p_0).bind fun rq1 =>
  L4 p_0 [] rq1.1 0
def wwh (N:Nat) (k:T44):=itN (fun r=>wiy r k) fun _ _ _ _=>none
def wwg (N:Nat):=wwh N (wfa) N
def V71 (N:Nat) (p_0:Y2):Z3:=w4x (wwg N) p_0
def S_V71:Sig:=⟨Q17,[0],[],.unit,Q10,O7,fun x=>V71 big x.1⟩
def A_V71:Cfg:=mkCfg tab [(69,S_V66),(70,S_V17)] [(8,[D0,B3,D0,B1,B0,B0]),(17,(dr 3 [B1]))]
noncomputable def wix (N n:Nat) (K:T31) (a1:Y2) (a3:Y4) (a4 a5:Int):Z3:=itr A_V71 N 8 Tryz.f30 [1,1,1,0,1,0,0] n ([.u,W3 a1,.u,W1 a3,W0 a4,W0 a5]++us 19) K
noncomputable def w4y:Ex→St→Z3:=finish A_V71 S_V71 Tryz.f30.results.toList
noncomputable def xbu (kX:T18) (a3:Y4):Z3:=kX ((ud 3 [W1 a3])++us 21)
noncomputable def xbt (kX:T18) (kO:T19):=exK w4y 0 (A_V71.shape 17) kX kO
theorem xbv (N kX kO):∀n,wix N n (xbt kX kO)=wwh N (xbu kX) n :=
 itE rfl fun m=>by kernel_rfl
noncomputable def wos (N:Nat):=(blockK 0 (sqK A_V71 N 17 500008 Tryz.f30 [1,1,1,1] w4y))
noncomputable def xbw (N:Nat) (st':St):Z3:=rn A_V71 N Tryz.f30 [1,1,1,1] st' w4y
theorem xkc (N):wix N N (wos N)=wwg N:=by
 rw[show wix N N (wos N)=wix N N (xbt (xbw N) fun j=>(wos N) (.exit j)) from(by funext _ _ _ _;exact jlo),xbv,show xbu (xbw N)=wfa by kernel_rfl];rfl
theorem run_V71 (N x):runF A_V71 N Tryz.f30 S_V71 x=V71 N x.1:=(show _=(w4x (wix N N (wos N)) x.1) by kernel_rfl).trans (by rw[xkc N];rfl)
theorem ok_V71:OK 30 S_V71:=gdR (A:=A_V71) tc Tryz.func30 (jes ⟨ok_V66,ok_V17,trivial⟩) (run_V71 big)
def wfe (rec:T64) (k:Y2→Y4→Y4→Int→Int→Z5) (a1:Y2) (a4 a5:Y4) (a6 a7 a8:Int):Z5 :=
  cond (decide (a8<(a5.length:Int)))
  ((atI a5 a8).bind fun _ =>
  (a5[a8.toNat]?).bind fun xq3 =>
  (V15 a1 xq3 a6).bind fun rq4 =>
  cond rq4.1
  ((V20 big 2 a8).bind fun rq5 =>
  rec a1 a4 a5 a6 (IntKind.i64.wrap (a7+rq5.1)) (IntKind.i64.wrap (a8+1)))
  (rec a1 a4 a5 a6 a7 (IntKind.i64.wrap (a8+1))))
  (k a1 a4 a5 a6 a7)
def wam (rec:T67) (a1:Y2) (a4 a5:Y4) (a6 a7:Int):Z5 :=
  (appI a4 [a7]).bind fun xq6 =>
  rec a1 xq6 a5 (IntKind.i64.wrap (a6+1))
def wff (L10:T64) (k:Y4→Z5) (a1:Y2) (a4 a5:Y4) (a6:Int):Z5 :=
  cond (decide (a6<(a1.1.length:Int)))
  (L10 a1 a4 a5 a6 0 0)
  (k a4)
def yz (a4:Y4):Z5 :=
  some ((a4,true,()),(()))
def wsf (L6:T67) (p_0:Y2):Z5 :=
  (V70 p_0).bind fun rq1 =>
  cond (!rq1.1)
  (some (([],false,()),(())))
  ((V71 big p_0).bind fun rq2 =>
  L6 p_0 [] rq2.1 0)
def wri (N:Nat) (k:Y2→Y4→Y4→Int→Int→Z5):=itN (fun r=>wfe r k) fun _ _ _ _ _ _=>none
def wfc (N:Nat) (rec:T67) (k:Y4→Z5):=wri N (wam rec) N
def wwj (N:Nat) (k:Y4→Z5):=itN (fun r=>wff (wfc N r k) k) fun _ _ _ _=>none
def wwi (N:Nat):=wwj N (yz) N
def V72 (N:Nat) (p_0:Y2):Z5:=wsf (wwi N) p_0
def S_V72:Sig:=⟨Q17,[0],[],.unit,(.tup (.pair Q10 Q18)),(.p O7 .i),fun x=>V72 big x.1⟩
def A_V72:Cfg:=mkCfg tab [(29,S_V70),(30,S_V71),(31,S_V15),(32,S_V20)] [(12,[D0,B3,D0,D0,B1,B1,B0]),(20,[D0,B3,D0,D0,B1,B1,B0,B0,B0]),(31,(dr 4 [B1])),(29,[D0,B3,D0,D0,B1,B1,B0,B0])]
noncomputable def wbk (N n:Nat) (K:T105) (a1:Y2) (a4 a5:Y4) (a6:Int):Z5:=itr A_V72 N 12 Tryz.f7 [1,1,1,1,0,1,0,0] n ([.u,W3 a1,.u,.u,W1 a4,W1 a5,W0 a6]++us 38) K
noncomputable def wfd (N n:Nat) (K:T105) (a1:Y2) (a4 a5:Y4) (a6 a7 a8:Int):Z5:=itr A_V72 N 20 Tryz.f7 [1,1,1,1,0,1,0,0,1,0,0,1,0,1,0,0] n ([.u,W3 a1,.u,.u,W1 a4,W1 a5,W0 a6,W0 a7,W0 a8]++us 36) K
noncomputable def wsg:Ex→St→Z5:=finish A_V72 S_V72 Tryz.f7.results.toList
noncomputable def wou (kX:T56) (a4:Y4):Z5:=kX ((ud 4 [W1 a4])++us 40)
noncomputable def wfb (kX:T56) (kO:T36):=exK wsg 0 (A_V72.shape 31) kX kO
noncomputable def w1w (kX:T56) (a1:Y2) (a4 a5:Y4) (a6 a7:Int):Z5:=kX ([.u,W3 a1,.u,.u,W1 a4,W1 a5,W0 a6,W0 a7]++us 37)
noncomputable def w1v (kX:T56) (kO:T36):=exK wsg 2 (A_V72.shape 29) kX kO
theorem w4z (N kX kO):∀n,wfd N n (w1v kX kO)=wri N (w1w kX) n :=
 itE rfl fun m=>by kernel_rfl
noncomputable def wlj (N m:Nat) (kX:T56) (kO:T36):=(blockK 2 (sqK A_V72 N 29 500014 Tryz.f7 [1,1,1,1,0,1,0,0,1,0,0,1,1] (blockK 1 (sqK A_V72 N 15 500007 Tryz.f7 [1,1,1,1,0,1,0,0,1,1] (itK A_V72 N 12 Tryz.f7 [1,1,1,1,0,1,0,0] m (wfb kX kO))))))
noncomputable def w1x (N m:Nat) (kX:T56) (kO:T36) (st':St):Z5:=rn A_V72 N Tryz.f7 [1,1,1,1,0,1,0,0,1,0,0,1,1] st' (blockK 1 (sqK A_V72 N 15 500007 Tryz.f7 [1,1,1,1,0,1,0,0,1,1] (itK A_V72 N 12 Tryz.f7 [1,1,1,1,0,1,0,0] m (wfb kX kO))))
theorem xfw (N m kX kO) {r}(h:wbk N m (wfb kX kO)=r):wfd N N (wlj N m kX kO)=wfc N r (wou kX):=by
 rw[show wfd N N (wlj N m kX kO)=wfd N N (w1v (w1x N m kX kO) fun j=>(wlj N m kX kO) (.exit j)) from(by funext _ _ _ _ _ _;exact jlo),w4z,show w1w (w1x N m kX kO)=wam (wbk N m (wfb kX kO)) by kernel_rfl,h];rfl
theorem xbx (N kX kO):∀n,wbk N n (wfb kX kO)=wwj N (wou kX) n :=
 itE rfl fun m=>(show _=wff (wfd N N (wlj N m kX kO)) (wou kX) by kernel_rfl).trans (by rw[xfw N m kX kO rfl]<;>rfl)
noncomputable def wot (N:Nat):=(blockK 0 (sqK A_V72 N 31 500015 Tryz.f7 [1,1,1,1,1] wsg))
noncomputable def xby (N:Nat) (st':St):Z5:=rn A_V72 N Tryz.f7 [1,1,1,1,1] st' wsg
theorem xke (N):wbk N N (wot N)=wwi N:=by
 rw[show wbk N N (wot N)=wbk N N (wfb (xby N) fun j=>(wot N) (.exit j)) from(by funext _ _ _ _;exact jlo),xbx,show wou (xby N)=yz by kernel_rfl];rfl
theorem run_V72 (N x):runF A_V72 N Tryz.f7 S_V72 x=V72 N x.1:=(show _=(wsf (wbk N N (wot N)) x.1) by kernel_rfl).trans (by rw[xke N];rfl)
theorem ok_V72:OK 7 S_V72:=gdR (A:=A_V72) tc Tryz.func7 (jes ⟨ok_V70,ok_V71,ok_V15,ok_V20,trivial⟩) (run_V72 big)
def wi0 (rec:Y4→Y4→Int→Option Z0) (k:Option Z0) (a0 a1:Y4) (a5:Int):Option Z0 :=
  cond (decide (a5<(a0.length:Int)))
  ((atI a0 a5).bind fun xq1 =>
  (atI a1 a5).bind fun xq2 =>
  cond (decide (xq1≠xq2))
  (some (false,(())))
  (rec a0 a1 (IntKind.i64.wrap (a5+1))))
  (k)
def wfg:Option Z0 :=
  some (true,(()))
def w40 (L4:Y4→Y4→Int→Option Z0) (a_0 b_1:Y4):Option Z0 :=
  cond (decide ((a_0.length:Int)≠(b_1.length:Int)))
  (some (false,(())))
  (L4 a_0 b_1 0)
def wwl (N:Nat) (k:Option Z0):=itN (fun r=>wi0 r k) fun _ _ _=>none
def wwk (N:Nat):=wwl N (wfg) N
def V73 (N:Nat) (a_0 b_1:Y4):Option Z0:=w40 (wwk N) a_0 b_1
def S_V73:Sig:=⟨Q16,[0,0],[],.unit,.bool,.i,fun x=>V73 big x.1 x.2.1⟩
def A_V73:Cfg:=mkCfg tab [] [(8,([B4,B4]++dr 3 [B0])),(17,[])]
noncomputable def wiz (N n:Nat) (K:Ex→St→Option Z0) (a0 a1:Y4) (a5:Int):Option Z0:=itr A_V73 N 8 Tryz.f8 [1,1,0,1,0,0] n (([W4 a0,W4 a1]++ud 3 [W0 a5])++us 20) K
noncomputable def w41:Ex→St→Option Z0:=finish A_V73 S_V73 Tryz.f8.results.toList
noncomputable def xb0 (kX:St→Option Z0):Option Z0:=kX ([]++us 26)
noncomputable def xbz (kX:St→Option Z0) (kO:Nat→St→Option Z0):Ex→St→Option Z0:=exK w41 0 (A_V73.shape 17) kX kO
theorem xb1 (N kX kO):∀n,wiz N n (xbz kX kO)=wwl N (xb0 kX) n :=
 itE rfl fun m=>by kernel_rfl
noncomputable def wov (N:Nat):Ex→St→Option Z0:=(blockK 0 (sqK A_V73 N 17 500008 Tryz.f8 [1,1,1] w41))
noncomputable def xb2 (N:Nat) (st':St):Option Z0:=rn A_V73 N Tryz.f8 [1,1,1] st' w41
theorem xkf (N):wiz N N (wov N)=wwk N:=by
 rw[show wiz N N (wov N)=wiz N N (xbz (xb2 N) fun j=>(wov N) (.exit j)) from(by funext _ _ _;exact jlo),xb1,show xb0 (xb2 N)=wfg by kernel_rfl];rfl
theorem run_V73 (N x):runF A_V73 N Tryz.f8 S_V73 x=V73 N x.1 x.2.1:=(show _=(w40 (wiz N N (wov N)) x.1 x.2.1) by kernel_rfl).trans (by rw[xkf N];rfl)
theorem ok_V73:OK 8 S_V73:=gdR (A:=A_V73) tc Tryz.func8 (jes trivial) (run_V73 big)
def wi2 (rec:T95) (k:T44) (a0:Y1) (a3:Y4) (a10 a11:Int):Z3 :=
  cond (decide (a11<a10))
  ((V43 a0 a11).bind fun rq2 =>
  (atI rq2.1 0).bind fun _ =>
  (rq2.1[(0:Int).toNat]?).bind fun xq3 =>
  (appI a3 [xq3]).bind fun xq4 =>
  rec a0 xq4 a10 (IntKind.i64.wrap (a11+1)))
  (k a3)
def wfh (a3:Y4):Z3 :=
  some (a3,(()))
def w42 (L3:T95) (l_0:Y1):Z3 :=
  (l_0).bind fun xq1 =>
  L3 l_0 [] (xq1.1.length:Int) 0
def wwn (N:Nat) (k:T44):=itN (fun r=>wi2 r k) fun _ _ _ _=>none
def wwm (N:Nat):=wwn N (wfh) N
def V74 (N:Nat) (l_0:Y1):Z3:=w42 (wwm N) l_0
def S_V74:Sig:=⟨(.pair Q4 .unit),[0],[],.unit,Q10,O7,fun x=>V74 big x.1⟩
def A_V74:Cfg:=mkCfg tab [(71,S_V43)] [(6,([B10,D0,D0,B1]++dr 6 [B0,B0])),(15,(dr 3 [B1]))]
noncomputable def wi1 (N n:Nat) (K:T31) (a0:Y1) (a3:Y4) (a10 a11:Int):Z3:=itr A_V74 N 6 Tryz.f33 [1,1,0,1,0,0] n (([.val Q4 .i a0,.u,.u,W1 a3]++ud 6 [W0 a10,W0 a11])++us 12) K
noncomputable def w43:Ex→St→Z3:=finish A_V74 S_V74 Tryz.f33.results.toList
noncomputable def xb4 (kX:T18) (a3:Y4):Z3:=kX ((ud 3 [W1 a3])++us 20)
noncomputable def xb3 (kX:T18) (kO:T19):=exK w43 0 (A_V74.shape 15) kX kO
theorem xb5 (N kX kO):∀n,wi1 N n (xb3 kX kO)=wwn N (xb4 kX) n :=
 itE rfl fun m=>by kernel_rfl
noncomputable def wow (N:Nat):=(blockK 0 (sqK A_V74 N 15 500007 Tryz.f33 [1,1,1] w43))
noncomputable def xb6 (N:Nat) (st':St):Z3:=rn A_V74 N Tryz.f33 [1,1,1] st' w43
theorem xkg (N):wi1 N N (wow N)=wwm N:=by
 rw[show wi1 N N (wow N)=wi1 N N (xb3 (xb6 N) fun j=>(wow N) (.exit j)) from(by funext _ _ _ _;exact jlo),xb5,show xb4 (xb6 N)=wfh by kernel_rfl];rfl
theorem run_V74 (N x):runF A_V74 N Tryz.f33 S_V74 x=V74 N x.1:=(show _=(w42 (wi1 N N (wow N)) x.1) by kernel_rfl).trans (by rw[xkg N];rfl)
theorem ok_V74:OK 33 S_V74:=gdR (A:=A_V74) tc Tryz.func33 (jes ⟨ok_V43,trivial⟩) (run_V74 big)
def w44 (p_0:Y2):Z5 :=
  (V48 p_0).bind fun rq1 =>
  cond (!rq1.1.2.1)
  (some (([],false,()),(())))
  ((V74 big rq1.1.1).bind fun rq2 =>
  some ((rq2.1,true,()),(())))
def V75 (p_0:Y2):Z5:=w44 p_0
def S_V75:Sig:=⟨Q17,[0],[],.unit,(.tup (.pair Q10 Q18)),(.p O7 .i),fun x=>V75 x.1⟩
def A_V75:Cfg:=mkCfg tab [(27,S_V48),(33,S_V74)] []
theorem run_V75 (N x):runF A_V75 N Tryz.f9 S_V75 x=V75 x.1:=by kernel_rfl
theorem ok_V75:OK 9 S_V75:=gdR (A:=A_V75) tc Tryz.func9 (jes ⟨ok_V48,ok_V74,trivial⟩) (run_V75 big)
def wi4 (rec:T63) (k:T44) (a1:Y2) (a3:Y4) (a4:Int):Z3 :=
  cond (decide (a4<(a1.1.length:Int)))
  ((V66 a1).bind fun rq1 =>
  (V67 a1).bind fun rq2 =>
  (V68 big a1 rq1.1 a4 rq2.1).bind fun rq3 =>
  (atI rq3.1 0).bind fun _ =>
  (rq3.1[(0:Int).toNat]?).bind fun xq4 =>
  (appI a3 [xq4]).bind fun xq5 =>
  rec a1 xq5 (IntKind.i64.wrap (a4+1)))
  (k a3)
def wfi (a3:Y4):Z3 :=
  some (a3,(()))
def w45 (L3:T63) (p_0:Y2):Z3 :=
  L3 p_0 [] 0
def wwp (N:Nat) (k:T44):=itN (fun r=>wi4 r k) fun _ _ _=>none
def wwo (N:Nat):=wwp N (wfi) N
def V76 (N:Nat) (p_0:Y2):Z3:=w45 (wwo N) p_0
def S_V76:Sig:=⟨Q17,[0],[],.unit,Q10,O7,fun x=>V76 big x.1⟩
def A_V76:Cfg:=mkCfg tab [(69,S_V66),(73,S_V67),(72,S_V68)] [(6,[D0,B3,D0,B1,B0]),(13,(dr 3 [B1]))]
noncomputable def wi3 (N n:Nat) (K:T31) (a1:Y2) (a3:Y4) (a4:Int):Z3:=itr A_V76 N 6 Tryz.f34 [1,1,0,1,0,0] n ([.u,W3 a1,.u,W1 a3,W0 a4]++us 21) K
noncomputable def w46:Ex→St→Z3:=finish A_V76 S_V76 Tryz.f34.results.toList
noncomputable def xb8 (kX:T18) (a3:Y4):Z3:=kX ((ud 3 [W1 a3])++us 22)
noncomputable def xb7 (kX:T18) (kO:T19):=exK w46 0 (A_V76.shape 13) kX kO
theorem xb9 (N kX kO):∀n,wi3 N n (xb7 kX kO)=wwp N (xb8 kX) n :=
 itE rfl fun m=>by kernel_rfl
noncomputable def wox (N:Nat):=(blockK 0 (sqK A_V76 N 13 500006 Tryz.f34 [1,1,1] w46))
noncomputable def xca (N:Nat) (st':St):Z3:=rn A_V76 N Tryz.f34 [1,1,1] st' w46
theorem xkh (N):wi3 N N (wox N)=wwo N:=by
 rw[show wi3 N N (wox N)=wi3 N N (xb7 (xca N) fun j=>(wox N) (.exit j)) from(by funext _ _ _;exact jlo),xb9,show xb8 (xca N)=wfi by kernel_rfl];rfl
theorem run_V76 (N x):runF A_V76 N Tryz.f34 S_V76 x=V76 N x.1:=(show _=(w45 (wi3 N N (wox N)) x.1) by kernel_rfl).trans (by rw[xkh N];rfl)
theorem ok_V76:OK 34 S_V76:=gdR (A:=A_V76) tc Tryz.func34 (jes ⟨ok_V66,ok_V67,ok_V68,trivial⟩) (run_V76 big)
def w47 (p_0:Y2):Z5 :=
  (V70 p_0).bind fun rq1 =>
  cond (!rq1.1)
  (some (([],false,()),(())))
  ((V76 big p_0).bind fun rq2 =>
  some ((rq2.1,true,()),(())))
def V77 (p_0:Y2):Z5:=w47 p_0
def S_V77:Sig:=⟨Q17,[0],[],.unit,(.tup (.pair Q10 Q18)),(.p O7 .i),fun x=>V77 x.1⟩
def A_V77:Cfg:=mkCfg tab [(29,S_V70),(34,S_V76)] []
theorem run_V77 (N x):runF A_V77 N Tryz.f10 S_V77 x=V77 x.1:=by kernel_rfl
theorem ok_V77:OK 10 S_V77:=gdR (A:=A_V77) tc Tryz.func10 (jes ⟨ok_V70,ok_V76,trivial⟩) (run_V77 big)
def wi7 (rec:Y1→Y4→Y3→Int→Y4→Int→Int→Int→Int→Option Y2) (k:Y1→Y4→Y3→Y4→Int→Int→Option Y2) (a0:Y1) (a3:Y4) (a4:Y3) (a5:Int) (a6:Y4) (a15 a16 a24 a25:Int):Option Y2 :=
  cond (decide (a25<a24))
  ((a0).bind fun xq4 =>
  (a0).bind fun xq5 =>
  (atI xq5.2.1 a5).bind fun xq6 =>
  (atI a3 a25).bind fun _ =>
  (a3[a25.toNat]?).bind fun xq7 =>
  (atI xq6 xq7).bind fun xq8 =>
  (atI xq4.2.2.1 xq8).bind fun xq9 =>
  (a0).bind fun xq10 =>
  (atI a3 a5).bind fun _ =>
  (a3[a5.toNat]?).bind fun xq11 =>
  (atI xq10.2.1 xq11).bind fun xq12 =>
  (atI xq12 a25).bind fun xq13 =>
  (atI xq9 xq13).bind fun xq14 =>
  (appI a6 [xq14]).bind fun xq15 =>
  rec a0 a3 a4 a5 xq15 a15 a16 a24 (IntKind.i64.wrap (a25+1)))
  (k a0 a3 a4 a6 a15 a16)
def wfk (rec:Y1→Y4→Y3→Int→Int→Option Y2) (a0:Y1) (a3:Y4) (a4:Y3) (a6:Y4) (a15 a16:Int):Option Y2 :=
  (appI a4 [a6]).bind fun xq16 =>
  rec a0 a3 xq16 a15 (IntKind.i64.wrap (a16+1))
def wfl (L8:Y1→Y4→Y3→Int→Y4→Int→Int→Int→Int→Option Y2) (k:Y3→Option Y2) (a0:Y1) (a3:Y4) (a4:Y3) (a15 a16:Int):Option Y2 :=
  cond (decide (a16<a15))
  ((a0).bind fun xq3 =>
  L8 a0 a3 a4 a16 [] a15 a16 (xq3.1.length:Int) 0)
  (k a4)
def y5 (a4:Y3):Option Y2 :=
  some (a4,(()))
def w48 (L4:Y1→Y4→Y3→Int→Int→Option Y2) (l_0:Y1):Option Y2 :=
  (V74 big l_0).bind fun rq1 =>
  (l_0).bind fun xq2 =>
  L4 l_0 rq1.1 [] (xq2.1.length:Int) 0
def wws (N:Nat) (k:Y1→Y4→Y3→Y4→Int→Int→Option Y2):=itN (fun r=>wi7 r k) fun _ _ _ _ _ _ _ _ _=>none
def wi5 (N:Nat) (rec:Y1→Y4→Y3→Int→Int→Option Y2) (k:Y3→Option Y2):=wws N (wfk rec) N
def wwr (N:Nat) (k:Y3→Option Y2):=itN (fun r=>wfl (wi5 N r k) k) fun _ _ _ _ _=>none
def wwq (N:Nat):=wwr N (y5) N
def V78 (N:Nat) (l_0:Y1):Option Y2:=w48 (wwq N) l_0
def S_V78:Sig:=⟨(.pair Q4 .unit),[0],[],.unit,Q20,O14,fun x=>V78 big x.1⟩
def A_V78:Cfg:=mkCfg tab [(33,S_V74)] [(8,([B10,D0,D0,B1,.as Q20 O14]++dr 10 [B0,B0])),(16,([B10,D0,D0,B1,.as Q20 O14,B0,B1]++dr 8 ([B0,B0]++dr 7 [B0,B0]))),(29,(dr 4 [.as Q20 O14])),(25,([B10,D0,D0,B1,.as Q20 O14,D0,B1]++dr 8 [B0,B0]))]
noncomputable def wbl (N n:Nat) (K:Ex→St→Option Y2) (a0:Y1) (a3:Y4) (a4:Y3) (a15 a16:Int):Option Y2:=itr A_V78 N 8 Tryz.f75 [1,1,1,0,1,0,0] n (([.val Q4 .i a0,.u,.u,W1 a3,.val Q20 O14 a4]++ud 10 [W0 a15,W0 a16])++us 55) K
noncomputable def wi6 (N n:Nat) (K:Ex→St→Option Y2) (a0:Y1) (a3:Y4) (a4:Y3) (a5:Int) (a6:Y4) (a15 a16 a24 a25:Int):Option Y2:=itr A_V78 N 16 Tryz.f75 [1,1,1,0,1,0,0,1,1,0,0,1,1,0,1,0,0] n (([.val Q4 .i a0,.u,.u,W1 a3,.val Q20 O14 a4,W0 a5,W1 a6]++ud 8 ([W0 a15,W0 a16]++ud 7 [W0 a24,W0 a25]))++us 46) K
noncomputable def wsh:Ex→St→Option Y2:=finish A_V78 S_V78 Tryz.f75.results.toList
noncomputable def wo0 (kX:St→Option Y2) (a4:Y3):Option Y2:=kX ((ud 4 [.val Q20 O14 a4])++us 67)
noncomputable def wfj (kX:St→Option Y2) (kO:Nat→St→Option Y2):Ex→St→Option Y2:=exK wsh 0 (A_V78.shape 29) kX kO
noncomputable def xcc (kX:St→Option Y2) (a0:Y1) (a3:Y4) (a4:Y3) (a6:Y4) (a15 a16:Int):Option Y2:=kX (([.val Q4 .i a0,.u,.u,W1 a3,.val Q20 O14 a4,.u,W1 a6]++ud 8 [W0 a15,W0 a16])++us 55)
noncomputable def xcb (kX:St→Option Y2) (kO:Nat→St→Option Y2):Ex→St→Option Y2:=exK wsh 2 (A_V78.shape 25) kX kO
theorem xce (N kX kO):∀n,wi6 N n (xcb kX kO)=wws N (xcc kX) n :=
 itE rfl fun m=>by kernel_rfl
noncomputable def woz (N m:Nat) (kX:St→Option Y2) (kO:Nat→St→Option Y2):Ex→St→Option Y2:=(blockK 2 (sqK A_V78 N 25 500012 Tryz.f75 [1,1,1,0,1,0,0,1,1,0,0,1,1,1] (blockK 1 (sqK A_V78 N 27 500013 Tryz.f75 [1,1,1,0,1,0,0,1,1,1] (itK A_V78 N 8 Tryz.f75 [1,1,1,0,1,0,0] m (wfj kX kO))))))
noncomputable def xcg (N m:Nat) (kX:St→Option Y2) (kO:Nat→St→Option Y2) (st':St):Option Y2:=rn A_V78 N Tryz.f75 [1,1,1,0,1,0,0,1,1,0,0,1,1,1] st' (blockK 1 (sqK A_V78 N 27 500013 Tryz.f75 [1,1,1,0,1,0,0,1,1,1] (itK A_V78 N 8 Tryz.f75 [1,1,1,0,1,0,0] m (wfj kX kO))))
theorem xkj (N m kX kO) {r}(h:wbl N m (wfj kX kO)=r):wi6 N N (woz N m kX kO)=wi5 N r (wo0 kX):=by
 rw[show wi6 N N (woz N m kX kO)=wi6 N N (xcb (xcg N m kX kO) fun j=>(woz N m kX kO) (.exit j)) from(by funext _ _ _ _ _ _ _ _ _;exact jlo),xce,show xcc (xcg N m kX kO)=wfk (wbl N m (wfj kX kO)) by kernel_rfl,h];rfl
theorem xcd (N kX kO):∀n,wbl N n (wfj kX kO)=wwr N (wo0 kX) n :=
 itE rfl fun m=>(show _=wfl (wi6 N N (woz N m kX kO)) (wo0 kX) by kernel_rfl).trans (by rw[xkj N m kX kO rfl]<;>rfl)
noncomputable def woy (N:Nat):Ex→St→Option Y2:=(blockK 0 (sqK A_V78 N 29 500014 Tryz.f75 [1,1,1,1] wsh))
noncomputable def xcf (N:Nat) (st':St):Option Y2:=rn A_V78 N Tryz.f75 [1,1,1,1] st' wsh
theorem xki (N):wbl N N (woy N)=wwq N:=by
 rw[show wbl N N (woy N)=wbl N N (wfj (xcf N) fun j=>(woy N) (.exit j)) from(by funext _ _ _ _ _;exact jlo),xcd,show wo0 (xcf N)=y5 by kernel_rfl];rfl
theorem run_V78 (N x):runF A_V78 N Tryz.f75 S_V78 x=V78 N x.1:=(show _=(w48 (wbl N N (woy N)) x.1) by kernel_rfl).trans (by rw[xki N];rfl)
theorem ok_V78:OK 75 S_V78:=gdR (A:=A_V78) tc Tryz.func75 (jes ⟨ok_V74,trivial⟩) (run_V78 big)
def wi9 (rec:T78) (k:T109) (a2 a3:Y6) (a7:Y3) (a8 a9:Int):Z17 :=
  cond (decide (a9<a8))
  ((atI a7 a9).bind fun xq1 =>
  (appI a3.2.1 xq1).bind fun xq2 =>
  rec a2 ((a3.1,((),a3.2.2)).1,(xq2,((a3.1,((),a3.2.2)).2).2)) a7 a8 (IntKind.i64.wrap (a9+1)))
  (k a2 a3)
def wfm (a2 a3:Y6):Z17 :=
  some (a3,(()))
def w49 (L3:T78) (table_0:Y3):Z17 :=
  L3 (0,(([]:Y4),())) (2,(([]:Y4),())) table_0 (table_0.length:Int) 0
def wwu (N:Nat) (k:T109):=itN (fun r=>wi9 r k) fun _ _ _ _ _=>none
def wwt (N:Nat):=wwu N (wfm) N
def V79 (N:Nat) (table_0:Y3):Z17:=w49 (wwt N) table_0
def S_V79:Sig:=⟨Q0,[0],[],.unit,Q6,(.p .i (.p O7 .i)),fun x=>V79 big x.1⟩
def A_V79:Cfg:=mkCfg tab [] [(6,([D0,D0,B6,B6]++dr 3 [.as Q20 .i,B0,B0])),(15,[D0,D0,B6,B6])]
noncomputable def wi8 (N n:Nat) (K:Ex→St→Z17) (a2 a3:Y6) (a7:Y3) (a8 a9:Int):Z17:=itr A_V79 N 6 Tryz.f74 [1,1,0,1,0,0] n (([.u,.u,W6 a2,W6 a3]++ud 3 [.val Q20 .i a7,W0 a8,W0 a9])++us 10) K
noncomputable def w5a:Ex→St→Z17:=finish A_V79 S_V79 Tryz.f74.results.toList
noncomputable def xci (kX:St→Z17) (a2 a3:Y6):Z17:=kX ([.u,.u,W6 a2,W6 a3]++us 16)
noncomputable def xch (kX:St→Z17) (kO:Nat→St→Z17):=exK w5a 0 (A_V79.shape 15) kX kO
theorem xcj (N kX kO):∀n,wi8 N n (xch kX kO)=wwu N (xci kX) n :=
 itE rfl fun m=>by kernel_rfl
noncomputable def wo1 (N:Nat):=(blockK 0 (sqK A_V79 N 15 500007 Tryz.f74 [1,1,1] w5a))
noncomputable def xck (N:Nat) (st':St):Z17:=rn A_V79 N Tryz.f74 [1,1,1] st' w5a
theorem xkk (N):wi8 N N (wo1 N)=wwt N:=by
 rw[show wi8 N N (wo1 N)=wi8 N N (xch (xck N) fun j=>(wo1 N) (.exit j)) from(by funext _ _ _ _ _;exact jlo),xcj,show xci (xck N)=wfm by kernel_rfl];rfl
theorem run_V79 (N x):runF A_V79 N Tryz.f74 S_V79 x=V79 N x.1:=(show _=(w49 (wi8 N N (wo1 N)) x.1) by kernel_rfl).trans (by rw[xkk N];rfl)
theorem ok_V79:OK 74 S_V79:=gdR (A:=A_V79) tc Tryz.func74 (jes trivial) (run_V79 big)
def xhi (l_0:Y1):Z11 :=
  (l_0).bind fun xq1 =>
  (V78 big l_0).bind fun rq2 =>
  (V79 big rq2.1).bind fun rq3 =>
  (l_0).bind fun xq4 =>
  (V79 big xq4.2.1).bind fun rq5 =>
  some (((xq1.1.length:Int),([rq3.1,rq5.1],())),(()))
def V80 (l_0:Y1):Z11:=xhi l_0
def S_V80:Sig:=⟨(.pair Q4 .unit),[0],[],.unit,Q1,O24,fun x=>V80 x.1⟩
def A_V80:Cfg:=mkCfg tab [(75,S_V78),(74,S_V79)] []
theorem run_V80 (N x):runF A_V80 N Tryz.f35 S_V80 x=V80 x.1:=by kernel_rfl
theorem ok_V80:OK 35 S_V80:=gdR (A:=A_V80) tc Tryz.func35 (jes ⟨ok_V78,ok_V79,trivial⟩) (run_V80 big)
def wsj (p_0:Y2):Option ((Y7×Z0)×Unit) :=
  (V48 p_0).bind fun rq1 =>
  cond (!rq1.1.2.1)
  (some (((0,(([]:(List Y6)),())),false,()),(())))
  ((V80 rq1.1.1).bind fun rq2 =>
  some ((rq2.1,true,()),(())))
def V81 (p_0:Y2):Option ((Y7×Z0)×Unit):=wsj p_0
def S_V81:Sig:=⟨Q17,[0],[],.unit,(.tup (.pair Q1 Q18)),(.p O24 .i),fun x=>V81 x.1⟩
def A_V81:Cfg:=mkCfg tab [(27,S_V48),(35,S_V80)] []
theorem run_V81 (N x):runF A_V81 N Tryz.f11 S_V81 x=V81 x.1:=by kernel_rfl
theorem ok_V81:OK 11 S_V81:=gdR (A:=A_V81) tc Tryz.func11 (jes ⟨ok_V48,ok_V80,trivial⟩) (run_V81 big)
def xhj (p_0:Y2) (not_1:Y4) (x_2 y_3:Int):Z4 :=
  (atI not_1 y_3).bind fun xq1 =>
  (V63 p_0 x_2 xq1).bind fun rq2 =>
  (atI not_1 x_2).bind fun xq3 =>
  (V63 p_0 xq3 y_3).bind fun rq4 =>
  (V62 p_0 rq2.1 rq4.1).bind fun rq5 =>
  some (rq5.1,(()))
def V82 (p_0:Y2) (not_1:Y4) (x_2 y_3:Int):Z4:=xhj p_0 not_1 x_2 y_3
def S_V82:Sig:=⟨(.pair Q0 (.pair Q10 Q11)),[0,0,0,0],[],.unit,I,.i,fun x=>V82 x.1 x.2.1 x.2.2.1 x.2.2.2.1⟩
def A_V82:Cfg:=mkCfg tab [(77,S_V63),(108,S_V62)] []
theorem run_V82 (N x):runF A_V82 N Tryz.f76 S_V82 x=V82 x.1 x.2.1 x.2.2.1 x.2.2.2.1:=by kernel_rfl
theorem ok_V82:OK 76 S_V82:=gdR (A:=A_V82) tc Tryz.func76 (jes ⟨ok_V63,ok_V62,trivial⟩) (run_V82 big)
def wjc (rec:T38) (k:T3) (a1:Y2) (a2:Y7) (a3:Int) (a4:Y4) (a5 a6:Y6) (a7 a8:Int):Z11 :=
  cond (decide (a8<a3))
  ((V82 a1 a4 a7 a8).bind fun rq2 =>
  (appI a5.2.1 [rq2.1]).bind fun xq3 =>
  (V63 a1 a7 a8).bind fun rq4 =>
  (appI a6.2.1 [rq4.1]).bind fun xq5 =>
  rec a1 a2 a3 a4 ((a5.1,((),a5.2.2)).1,(xq3,((a5.1,((),a5.2.2)).2).2)) ((a6.1,((),a6.2.2)).1,(xq5,((a6.1,((),a6.2.2)).2).2)) a7 (IntKind.i64.wrap (a8+1)))
  (k a1 a2 a3 a4 a5 a6 a7)
def wfo (rec:T3) (a1:Y2) (a2:Y7) (a3:Int) (a4:Y4) (a5 a6:Y6) (a7:Int):Z11 :=
  rec a1 a2 a3 a4 a5 a6 (IntKind.i64.wrap (a7+1))
def wfp (L7:T38) (k:T34) (a1:Y2) (a2:Y7) (a3:Int) (a4:Y4) (a5 a6:Y6) (a7:Int):Z11 :=
  cond (decide (a7<a3))
  (L7 a1 a2 a3 a4 a5 a6 a7 0)
  (k a2 a3 a5 a6)
def y6 (a2:Y7) (a3:Int) (a5 a6:Y6):Z11 :=
  some ((a3,([a5,a6],())),(()))
def w5d (L4:T3) (p_0:Y2):Z11 :=
  (V76 big p_0).bind fun rq1 =>
  L4 p_0 (0,(([]:(List Y6)),())) (p_0.1.length:Int) rq1.1 (2,([],())) (2,([],())) 0
def wwx (N:Nat) (k:T3):=itN (fun r=>wjc r k) fun _ _ _ _ _ _ _ _=>none
def wja (N:Nat) (rec:T3) (k:T34):=wwx N (wfo rec) N
def www (N:Nat) (k:T34):=itN (fun r=>wfp (wja N r k) k) fun _ _ _ _ _ _ _=>none
def wwv (N:Nat):=www N (y6) N
def V83 (N:Nat) (p_0:Y2):Z11:=w5d (wwv N) p_0
def S_V83:Sig:=⟨Q17,[0],[],.unit,Q1,O24,fun x=>V83 big x.1⟩
def A_V83:Cfg:=mkCfg tab [(34,S_V76),(76,S_V82),(77,S_V63)] [(8,[D0,B3,B7,B0,B1,B6,B6,B0]),(14,[D0,B3,B7,B0,B1,B6,B6,B0,B0]),(23,[D0,D0,B7,B0,D0,B6,B6]),(11,[D0,B3,B7,B0,B1,B6,B6,B0])]
noncomputable def wbm (N n:Nat) (K:Ex→St→Z11) (a1:Y2) (a2:Y7) (a3:Int) (a4:Y4) (a5 a6:Y6) (a7:Int):Z11:=itr A_V83 N 8 Tryz.f36 [1,1,1,0,1,0,0] n ([.u,W3 a1,W7 a2,W0 a3,W1 a4,W6 a5,W6 a6,W0 a7]++us 44) K
noncomputable def wjb (N n:Nat) (K:Ex→St→Z11) (a1:Y2) (a2:Y7) (a3:Int) (a4:Y4) (a5 a6:Y6) (a7 a8:Int):Z11:=itr A_V83 N 14 Tryz.f36 [1,1,1,0,1,0,0,1,0,0,1,0,0] n ([.u,W3 a1,W7 a2,W0 a3,W1 a4,W6 a5,W6 a6,W0 a7,W0 a8]++us 43) K
noncomputable def wsk:Ex→St→Z11:=finish A_V83 S_V83 Tryz.f36.results.toList
noncomputable def wo6 (kX:T103) (a2:Y7) (a3:Int) (a5 a6:Y6):Z11:=kX ([.u,.u,W7 a2,W0 a3,.u,W6 a5,W6 a6]++us 45)
noncomputable def wfn (kX:T103) (kO:T87):=exK wsk 0 (A_V83.shape 23) kX kO
noncomputable def xcm (kX:T103) (a1:Y2) (a2:Y7) (a3:Int) (a4:Y4) (a5 a6:Y6) (a7:Int):Z11:=kX ([.u,W3 a1,W7 a2,W0 a3,W1 a4,W6 a5,W6 a6,W0 a7]++us 44)
noncomputable def xcl (kX:T103) (kO:T87):=exK wsk 2 (A_V83.shape 11) kX kO
theorem xco (N kX kO):∀n,wjb N n (xcl kX kO)=wwx N (xcm kX) n :=
 itE rfl fun m=>by kernel_rfl
noncomputable def wo5 (N m:Nat) (kX:T103) (kO:T87):=(blockK 2 (blockK 1 (sqK A_V83 N 11 500005 Tryz.f36 [1,1,1,0,1,0,0,1,1] (itK A_V83 N 8 Tryz.f36 [1,1,1,0,1,0,0] m (wfn kX kO)))))
noncomputable def xcq (N m:Nat) (kX:T103) (kO:T87) (st':St):Z11:=rn A_V83 N Tryz.f36 [1,1,1,0,1,0,0,1,1] st' (itK A_V83 N 8 Tryz.f36 [1,1,1,0,1,0,0] m (wfn kX kO))
theorem xkm (N m kX kO) {r}(h:wbm N m (wfn kX kO)=r):wjb N N (wo5 N m kX kO)=wja N r (wo6 kX):=by
 rw[show wjb N N (wo5 N m kX kO)=wjb N N (xcl (xcq N m kX kO) fun j=>(wo5 N m kX kO) (.exit j)) from(by funext _ _ _ _ _ _ _ _;exact jlo),xco,show xcm (xcq N m kX kO)=wfo (wbm N m (wfn kX kO)) by kernel_rfl,h];rfl
theorem xcn (N kX kO):∀n,wbm N n (wfn kX kO)=www N (wo6 kX) n :=
 itE rfl fun m=>(show _=wfp (wjb N N (wo5 N m kX kO)) (wo6 kX) by kernel_rfl).trans (by rw[xkm N m kX kO rfl]<;>rfl)
noncomputable def wo4 (N:Nat):=(blockK 0 (sqK A_V83 N 23 500011 Tryz.f36 [1,1,1,1] wsk))
noncomputable def xcp (N:Nat) (st':St):Z11:=rn A_V83 N Tryz.f36 [1,1,1,1] st' wsk
theorem xkl (N):wbm N N (wo4 N)=wwv N:=by
 rw[show wbm N N (wo4 N)=wbm N N (wfn (xcp N) fun j=>(wo4 N) (.exit j)) from(by funext _ _ _ _ _ _ _;exact jlo),xcn,show wo6 (xcp N)=y6 by kernel_rfl];rfl
theorem run_V83 (N x):runF A_V83 N Tryz.f36 S_V83 x=V83 N x.1:=(show _=(w5d (wbm N N (wo4 N)) x.1) by kernel_rfl).trans (by rw[xkl N];rfl)
theorem ok_V83:OK 36 S_V83:=gdR (A:=A_V83) tc Tryz.func36 (jes ⟨ok_V76,ok_V82,ok_V63,trivial⟩) (run_V83 big)
def w5e (p_0:Y2):Option ((Y7×Z0)×Unit) :=
  (V70 p_0).bind fun rq1 =>
  cond (!rq1.1)
  (some (((0,(([]:(List Y6)),())),false,()),(())))
  ((V83 big p_0).bind fun rq2 =>
  some ((rq2.1,true,()),(())))
def V84 (p_0:Y2):Option ((Y7×Z0)×Unit):=w5e p_0
def S_V84:Sig:=⟨Q17,[0],[],.unit,(.tup (.pair Q1 Q18)),(.p O24 .i),fun x=>V84 x.1⟩
def A_V84:Cfg:=mkCfg tab [(29,S_V70),(36,S_V83)] []
theorem run_V84 (N x):runF A_V84 N Tryz.f12 S_V84 x=V84 x.1:=by kernel_rfl
theorem ok_V84:OK 12 S_V84:=gdR (A:=A_V84) tc Tryz.func12 (jes ⟨ok_V70,ok_V83,trivial⟩) (run_V84 big)
def wjf (rec:Y7→Y7→Int→Option Z0) (k:Option Z0) (a2 a3:Y7) (a5:Int):Option Z0 :=
  cond (decide (a5<(a2.2.1.length:Int)))
  ((atI a2.2.1 a5).bind fun xq1 =>
  (atI a3.2.1 a5).bind fun xq2 =>
  cond (decide (xq1.1≠xq2.1))
  (some (false,(())))
  ((atI a2.2.1 a5).bind fun xq3 =>
  (atI a3.2.1 a5).bind fun xq4 =>
  (V73 big xq3.2.1 xq4.2.1).bind fun rq5 =>
  cond (!rq5.1)
  (some (false,(())))
  (rec a2 a3 (IntKind.i64.wrap (a5+1)))))
  (k)
def wje:Option Z0 :=
  some (true,(()))
def w5f (L4:Y7→Y7→Int→Option Z0) (a_0 b_1:Y7):Option Z0 :=
  cond (decide (a_0.1≠b_1.1))
  (some (false,(())))
  (cond (decide ((a_0.2.1.length:Int)≠(b_1.2.1.length:Int)))
  (some (false,(())))
  (L4 a_0 b_1 0))
def wwz (N:Nat) (k:Option Z0):=itN (fun r=>wjf r k) fun _ _ _=>none
def wwy (N:Nat):=wwz N (wje) N
def V85 (N:Nat) (a_0 b_1:Y7):Option Z0:=w5f (wwy N) a_0 b_1
def S_V85:Sig:=⟨(.pair Q1 (.pair Q1 .unit)),[0,0],[],.unit,.bool,.i,fun x=>V85 big x.1 x.2.1⟩
def A_V85:Cfg:=mkCfg tab [(8,S_V73)] [(8,[D0,D0,B9,B9,D0,B0]),(17,[])]
noncomputable def wjd (N n:Nat) (K:Ex→St→Option Z0) (a2 a3:Y7) (a5:Int):Option Z0:=itr A_V85 N 8 Tryz.f13 [1,1,0,1,0,0] n ([.u,.u,W8 a2,W8 a3,.u,W0 a5]++us 50) K
noncomputable def w5g:Ex→St→Option Z0:=finish A_V85 S_V85 Tryz.f13.results.toList
noncomputable def xcs (kX:St→Option Z0):Option Z0:=kX ([]++us 56)
noncomputable def xcr (kX:St→Option Z0) (kO:Nat→St→Option Z0):Ex→St→Option Z0:=exK w5g 0 (A_V85.shape 17) kX kO
theorem xct (N kX kO):∀n,wjd N n (xcr kX kO)=wwz N (xcs kX) n :=
 itE rfl fun m=>by kernel_rfl
noncomputable def wo7 (N:Nat):Ex→St→Option Z0:=(blockK 0 (sqK A_V85 N 17 500008 Tryz.f13 [1,1,1] w5g))
noncomputable def xcu (N:Nat) (st':St):Option Z0:=rn A_V85 N Tryz.f13 [1,1,1] st' w5g
theorem xkn (N):wjd N N (wo7 N)=wwy N:=by
 rw[show wjd N N (wo7 N)=wjd N N (xcr (xcu N) fun j=>(wo7 N) (.exit j)) from(by funext _ _ _;exact jlo),xct,show xcs (xcu N)=wje by kernel_rfl];rfl
theorem run_V85 (N x):runF A_V85 N Tryz.f13 S_V85 x=V85 N x.1 x.2.1:=(show _=(w5f (wjd N N (wo7 N)) x.1 x.2.1) by kernel_rfl).trans (by rw[xkn N];rfl)
theorem ok_V85:OK 13 S_V85:=gdR (A:=A_V85) tc Tryz.func13 (jes ⟨ok_V73,trivial⟩) (run_V85 big)
def xhk (l_0:Y1):Z11 :=
  (l_0).bind fun xq1 =>
  (l_0).bind fun xq2 =>
  (V79 big xq2.2.1).bind fun rq3 =>
  (l_0).bind fun xq4 =>
  (V79 big xq4.2.2.1).bind fun rq5 =>
  some (((xq1.1.length:Int),([rq3.1,rq5.1],())),(()))
def V86 (l_0:Y1):Z11:=xhk l_0
def S_V86:Sig:=⟨(.pair Q4 .unit),[0],[],.unit,Q1,O24,fun x=>V86 x.1⟩
def A_V86:Cfg:=mkCfg tab [(74,S_V79)] []
theorem run_V86 (N x):runF A_V86 N Tryz.f37 S_V86 x=V86 x.1:=by kernel_rfl
theorem ok_V86:OK 37 S_V86:=gdR (A:=A_V86) tc Tryz.func37 (jes ⟨ok_V79,trivial⟩) (run_V86 big)
def w5h (p_0:Y2):Option ((Y7×Z0)×Unit) :=
  (V48 p_0).bind fun rq1 =>
  cond (!rq1.1.2.1)
  (some (((0,(([]:(List Y6)),())),false,()),(())))
  ((V86 rq1.1.1).bind fun rq2 =>
  (V74 big rq1.1.1).bind fun rq3 =>
  (appI rq2.1.2.1 [(1,(rq3.1,()))]).bind fun xq4 =>
  some ((((rq2.1.1,((),rq2.1.2.2)).1,(xq4,((rq2.1.1,((),rq2.1.2.2)).2).2)),true,()),(())))
def V87 (p_0:Y2):Option ((Y7×Z0)×Unit):=w5h p_0
def S_V87:Sig:=⟨Q17,[0],[],.unit,(.tup (.pair Q1 Q18)),(.p O24 .i),fun x=>V87 x.1⟩
def A_V87:Cfg:=mkCfg tab [(27,S_V48),(37,S_V86),(33,S_V74)] []
theorem run_V87 (N x):runF A_V87 N Tryz.f14 S_V87 x=V87 x.1:=by kernel_rfl
theorem ok_V87:OK 14 S_V87:=gdR (A:=A_V87) tc Tryz.func14 (jes ⟨ok_V48,ok_V86,ok_V74,trivial⟩) (run_V87 big)
def wji (rec:T39) (k:T4) (a1:Y2) (a2:Y7) (a3:Int) (a4:Y2) (a5 a6:Y6) (a7 a8:Int):Z11 :=
  cond (decide (a8<a3))
  ((V60 big a1 [a7,a8]).bind fun rq2 =>
  (appI a5.2.1 [rq2.1]).bind fun xq3 =>
  (V60 big a4 [a7,a8]).bind fun rq4 =>
  (appI a6.2.1 [rq4.1]).bind fun xq5 =>
  rec a1 a2 a3 a4 ((a5.1,((),a5.2.2)).1,(xq3,((a5.1,((),a5.2.2)).2).2)) ((a6.1,((),a6.2.2)).1,(xq5,((a6.1,((),a6.2.2)).2).2)) a7 (IntKind.i64.wrap (a8+1)))
  (k a1 a2 a3 a4 a5 a6 a7)
def wfr (rec:T4) (a1:Y2) (a2:Y7) (a3:Int) (a4:Y2) (a5 a6:Y6) (a7:Int):Z11 :=
  rec a1 a2 a3 a4 a5 a6 (IntKind.i64.wrap (a7+1))
def wfs (L8:T39) (k:T34) (a1:Y2) (a2:Y7) (a3:Int) (a4:Y2) (a5 a6:Y6) (a7:Int):Z11 :=
  cond (decide (a7<a3))
  (L8 a1 a2 a3 a4 a5 a6 a7 0)
  (k a2 a3 a5 a6)
def y7 (a2:Y7) (a3:Int) (a5 a6:Y6):Z11 :=
  some ((a3,([a5,a6],())),(()))
def w5i (L5:T4) (p_0:Y2):Z11 :=
  (V59 big p_0).bind fun rq1 =>
  L5 p_0 (0,(([]:(List Y6)),())) (p_0.1.length:Int) rq1.1 (2,(([]:Y4),())) (2,(([]:Y4),())) 0
def ww2 (N:Nat) (k:T4):=itN (fun r=>wji r k) fun _ _ _ _ _ _ _ _=>none
def wjg (N:Nat) (rec:T4) (k:T34):=ww2 N (wfr rec) N
def ww1 (N:Nat) (k:T34):=itN (fun r=>wfs (wjg N r k) k) fun _ _ _ _ _ _ _=>none
def ww0 (N:Nat):=ww1 N (y7) N
def V88 (N:Nat) (p_0:Y2):Z11:=w5i (ww0 N) p_0
def S_V88:Sig:=⟨Q17,[0],[],.unit,Q1,O24,fun x=>V88 big x.1⟩
def A_V88:Cfg:=mkCfg tab [(78,S_V59),(79,S_V60)] [(10,[D0,B3,B7,B0,B2,B6,B6,B0]),(16,[D0,B3,B7,B0,B2,B6,B6,B0,B0]),(25,[D0,D0,B7,B0,D0,B6,B6]),(13,[D0,B3,B7,B0,B2,B6,B6,B0])]
noncomputable def wbn (N n:Nat) (K:Ex→St→Z11) (a1:Y2) (a2:Y7) (a3:Int) (a4:Y2) (a5 a6:Y6) (a7:Int):Z11:=itr A_V88 N 10 Tryz.f38 [1,1,1,1,0,1,0,0] n ([.u,W3 a1,W7 a2,W0 a3,W2 a4,W6 a5,W6 a6,W0 a7]++us 43) K
noncomputable def wjh (N n:Nat) (K:Ex→St→Z11) (a1:Y2) (a2:Y7) (a3:Int) (a4:Y2) (a5 a6:Y6) (a7 a8:Int):Z11:=itr A_V88 N 16 Tryz.f38 [1,1,1,1,0,1,0,0,1,0,0,1,0,0] n ([.u,W3 a1,W7 a2,W0 a3,W2 a4,W6 a5,W6 a6,W0 a7,W0 a8]++us 42) K
noncomputable def wsl:Ex→St→Z11:=finish A_V88 S_V88 Tryz.f38.results.toList
noncomputable def wpa (kX:T103) (a2:Y7) (a3:Int) (a5 a6:Y6):Z11:=kX ([.u,.u,W7 a2,W0 a3,.u,W6 a5,W6 a6]++us 44)
noncomputable def wfq (kX:T103) (kO:T87):=exK wsl 0 (A_V88.shape 25) kX kO
noncomputable def xcw (kX:T103) (a1:Y2) (a2:Y7) (a3:Int) (a4:Y2) (a5 a6:Y6) (a7:Int):Z11:=kX ([.u,W3 a1,W7 a2,W0 a3,W2 a4,W6 a5,W6 a6,W0 a7]++us 43)
noncomputable def xcv (kX:T103) (kO:T87):=exK wsl 2 (A_V88.shape 13) kX kO
theorem xcy (N kX kO):∀n,wjh N n (xcv kX kO)=ww2 N (xcw kX) n :=
 itE rfl fun m=>by kernel_rfl
noncomputable def wo9 (N m:Nat) (kX:T103) (kO:T87):=(blockK 2 (blockK 1 (sqK A_V88 N 13 500006 Tryz.f38 [1,1,1,1,0,1,0,0,1,1] (itK A_V88 N 10 Tryz.f38 [1,1,1,1,0,1,0,0] m (wfq kX kO)))))
noncomputable def xc0 (N m:Nat) (kX:T103) (kO:T87) (st':St):Z11:=rn A_V88 N Tryz.f38 [1,1,1,1,0,1,0,0,1,1] st' (itK A_V88 N 10 Tryz.f38 [1,1,1,1,0,1,0,0] m (wfq kX kO))
theorem xkp (N m kX kO) {r}(h:wbn N m (wfq kX kO)=r):wjh N N (wo9 N m kX kO)=wjg N r (wpa kX):=by
 rw[show wjh N N (wo9 N m kX kO)=wjh N N (xcv (xc0 N m kX kO) fun j=>(wo9 N m kX kO) (.exit j)) from(by funext _ _ _ _ _ _ _ _;exact jlo),xcy,show xcw (xc0 N m kX kO)=wfr (wbn N m (wfq kX kO)) by kernel_rfl,h];rfl
theorem xcx (N kX kO):∀n,wbn N n (wfq kX kO)=ww1 N (wpa kX) n :=
 itE rfl fun m=>(show _=wfs (wjh N N (wo9 N m kX kO)) (wpa kX) by kernel_rfl).trans (by rw[xkp N m kX kO rfl]<;>rfl)
noncomputable def wo8 (N:Nat):=(blockK 0 (sqK A_V88 N 25 500012 Tryz.f38 [1,1,1,1,1] wsl))
noncomputable def xcz (N:Nat) (st':St):Z11:=rn A_V88 N Tryz.f38 [1,1,1,1,1] st' wsl
theorem xko (N):wbn N N (wo8 N)=ww0 N:=by
 rw[show wbn N N (wo8 N)=wbn N N (wfq (xcz N) fun j=>(wo8 N) (.exit j)) from(by funext _ _ _ _ _ _ _;exact jlo),xcx,show wpa (xcz N)=y7 by kernel_rfl];rfl
theorem run_V88 (N x):runF A_V88 N Tryz.f38 S_V88 x=V88 N x.1:=(show _=(w5i (wbn N N (wo8 N)) x.1) by kernel_rfl).trans (by rw[xko N];rfl)
theorem ok_V88:OK 38 S_V88:=gdR (A:=A_V88) tc Tryz.func38 (jes ⟨ok_V59,ok_V60,trivial⟩) (run_V88 big)
def w5j (p_0:Y2):Option ((Y7×Z0)×Unit) :=
  (V70 p_0).bind fun rq1 =>
  cond (!rq1.1)
  (some (((0,(([]:(List Y6)),())),false,()),(())))
  ((V88 big p_0).bind fun rq2 =>
  (V76 big p_0).bind fun rq3 =>
  (appI rq2.1.2.1 [(1,(rq3.1,()))]).bind fun xq4 =>
  some ((((rq2.1.1,((),rq2.1.2.2)).1,(xq4,((rq2.1.1,((),rq2.1.2.2)).2).2)),true,()),(())))
def V89 (p_0:Y2):Option ((Y7×Z0)×Unit):=w5j p_0
def S_V89:Sig:=⟨Q17,[0],[],.unit,(.tup (.pair Q1 Q18)),(.p O24 .i),fun x=>V89 x.1⟩
def A_V89:Cfg:=mkCfg tab [(29,S_V70),(38,S_V88),(34,S_V76)] []
theorem run_V89 (N x):runF A_V89 N Tryz.f15 S_V89 x=V89 x.1:=by kernel_rfl
theorem ok_V89:OK 15 S_V89:=gdR (A:=A_V89) tc Tryz.func15 (jes ⟨ok_V70,ok_V88,ok_V76,trivial⟩) (run_V89 big)
def xho (p_0:Y2) (list_1:Unit):Z5 :=
  (V35 p_0).bind fun rq1 =>
  cond (!rq1.1.2.1)
  (some (([],false,()),(())))
  ((V54 rq1.1.1).bind fun rq2 =>
  some ((rq2.1,true,()),(())))
def V90 (p_0:Y2) (list_1:Unit):Z5:=xho p_0 list_1
def S_V90:Sig:=⟨(.pair Q0 (.pair (.clo 28 0 .unit) .unit)),[0,0],[],.unit,(.tup (.pair Q10 Q18)),(.p O7 .i),fun x=>V90 x.1 x.2.1⟩
def A_V90:Cfg:=mkCfg tab [(80,S_V35),(28,S_V54)] []
theorem run_V90 (N x):runF A_V90 N Tryz.f39 S_V90 x=V90 x.1 x.2.1:=by kernel_rfl
theorem ok_V90:OK 39 S_V90:=gdR (A:=A_V90) tc Tryz.func39 (jes ⟨ok_V35,ok_V54,trivial⟩) (run_V90 big)
def xhp (p_0:Y2):Z5 :=
  (V90 p_0 ()).bind fun rq1 =>
  some ((rq1.1.1,(((),rq1.1.2).2).1,()),(()))
def V91 (p_0:Y2):Z5:=xhp p_0
def S_V91:Sig:=⟨Q17,[0],[],.unit,(.tup (.pair Q10 Q18)),(.p O7 .i),fun x=>V91 x.1⟩
def A_V91:Cfg:=mkCfg tab [(39,S_V90)] []
theorem run_V91 (N x):runF A_V91 N Tryz.f16 S_V91 x=V91 x.1:=by kernel_rfl
theorem ok_V91:OK 16 S_V91:=gdR (A:=A_V91) tc Tryz.func16 (jes ⟨ok_V90,trivial⟩) (run_V91 big)
def wjl (rec:T25) (k:Y5→Y2→Y2→Y4→Int→Int→Z2) (a0:Y5) (a2 a3:Y2) (a4:Int) (a5:Y4) (a10 a11 a16 a17:Int):Z2 :=
  cond (decide (a17<a16))
  ((atI a0 a17).bind fun xq1 =>
  (atI xq1 a4).bind fun xq2 =>
  cond xq2
  ((appI a5 [a17]).bind fun xq3 =>
  rec a0 a2 a3 a4 xq3 a10 a11 a16 (IntKind.i64.wrap (a17+1)))
  (rec a0 a2 a3 a4 a5 a10 a11 a16 (IntKind.i64.wrap (a17+1))))
  (k a0 a2 a3 a5 a10 a11)
def wfu (rec:T45) (a0:Y5) (a2 a3:Y2) (a5:Y4) (a10 a11:Int):Z2 :=
  (appI a3.1 [a5]).bind fun xq4 =>
  rec a0 a2 (xq4,((),a3.2).2) a10 (IntKind.i64.wrap (a11+1))
def wfv (L7:T25) (k:T21) (a0:Y5) (a2 a3:Y2) (a10 a11:Int):Z2 :=
  cond (decide (a11<a10))
  (L7 a0 a2 a3 a11 [] a10 a11 (a0.length:Int) 0)
  (k a2 a3)
def y8 (a2 a3:Y2):Z2 :=
  some (a3,(()))
def w5m (L3:T45) (o_0:Y5):Z2 :=
  L3 o_0 (([]:Y3),()) ([],()) (o_0.length:Int) 0
def ww5 (N:Nat) (k:Y5→Y2→Y2→Y4→Int→Int→Z2):=itN (fun r=>wjl r k) fun _ _ _ _ _ _ _ _ _=>none
def wjj (N:Nat) (rec:T45) (k:T21):=ww5 N (wfu rec) N
def ww4 (N:Nat) (k:T21):=itN (fun r=>wfv (wjj N r k) k) fun _ _ _ _ _=>none
def ww3 (N:Nat):=ww4 N (y8) N
def V92 (N:Nat) (o_0:Y5):Z2:=w5m (ww3 N) o_0
def S_V92:Sig:=⟨(.pair Q8 .unit),[0],[],.unit,Q0,(.p O14 .i),fun x=>V92 big x.1⟩
def A_V92:Cfg:=mkCfg tab [] [(6,([.as Q8 .i,D0,B2,B2]++dr 6 [B0,B0])),(14,([.as Q8 .i,D0,B2,B2,B0,B1]++dr 4 ([B0,B0]++dr 4 [B0,B0]))),(29,[D0,D0,B2,B2]),(25,([.as Q8 .i,D0,B2,B2,D0,B1]++dr 4 [B0,B0]))]
noncomputable def wbo (N n:Nat) (K:T27) (a0:Y5) (a2 a3:Y2) (a10 a11:Int):Z2:=itr A_V92 N 6 Tryz.f41 [1,1,0,1,0,0] n (([.val Q8 .i a0,.u,W2 a2,W2 a3]++ud 6 [W0 a10,W0 a11])++us 28) K
noncomputable def wjk (N n:Nat) (K:T27) (a0:Y5) (a2 a3:Y2) (a4:Int) (a5:Y4) (a10 a11 a16 a17:Int):Z2:=itr A_V92 N 14 Tryz.f41 [1,1,0,1,0,0,1,1,0,0,1,1,0,1,0,0] n (([.val Q8 .i a0,.u,W2 a2,W2 a3,W0 a4,W1 a5]++ud 4 ([W0 a10,W0 a11]++ud 4 [W0 a16,W0 a17]))++us 22) K
noncomputable def wsn:Ex→St→Z2:=finish A_V92 S_V92 Tryz.f41.results.toList
noncomputable def wpf (kX:T1) (a2 a3:Y2):Z2:=kX ([.u,.u,W2 a2,W2 a3]++us 36)
noncomputable def wft (kX:T1) (kO:T0):=exK wsn 0 (A_V92.shape 29) kX kO
noncomputable def xc2 (kX:T1) (a0:Y5) (a2 a3:Y2) (a5:Y4) (a10 a11:Int):Z2:=kX (([.val Q8 .i a0,.u,W2 a2,W2 a3,.u,W1 a5]++ud 4 [W0 a10,W0 a11])++us 28)
noncomputable def xc1 (kX:T1) (kO:T0):=exK wsn 2 (A_V92.shape 25) kX kO
theorem xc4 (N kX kO):∀n,wjk N n (xc1 kX kO)=ww5 N (xc2 kX) n :=
 itE rfl fun m=>by kernel_rfl
noncomputable def wpe (N m:Nat) (kX:T1) (kO:T0):=(blockK 2 (sqK A_V92 N 25 500012 Tryz.f41 [1,1,0,1,0,0,1,1,0,0,1,1,1] (blockK 1 (sqK A_V92 N 27 500013 Tryz.f41 [1,1,0,1,0,0,1,1,1] (itK A_V92 N 6 Tryz.f41 [1,1,0,1,0,0] m (wft kX kO))))))
noncomputable def xc6 (N m:Nat) (kX:T1) (kO:T0) (st':St):Z2:=rn A_V92 N Tryz.f41 [1,1,0,1,0,0,1,1,0,0,1,1,1] st' (blockK 1 (sqK A_V92 N 27 500013 Tryz.f41 [1,1,0,1,0,0,1,1,1] (itK A_V92 N 6 Tryz.f41 [1,1,0,1,0,0] m (wft kX kO))))
theorem xkr (N m kX kO) {r}(h:wbo N m (wft kX kO)=r):wjk N N (wpe N m kX kO)=wjj N r (wpf kX):=by
 rw[show wjk N N (wpe N m kX kO)=wjk N N (xc1 (xc6 N m kX kO) fun j=>(wpe N m kX kO) (.exit j)) from(by funext _ _ _ _ _ _ _ _ _;exact jlo),xc4,show xc2 (xc6 N m kX kO)=wfu (wbo N m (wft kX kO)) by kernel_rfl,h];rfl
theorem xc3 (N kX kO):∀n,wbo N n (wft kX kO)=ww4 N (wpf kX) n :=
 itE rfl fun m=>(show _=wfv (wjk N N (wpe N m kX kO)) (wpf kX) by kernel_rfl).trans (by rw[xkr N m kX kO rfl]<;>rfl)
noncomputable def wpd (N:Nat):=(blockK 0 (sqK A_V92 N 29 500014 Tryz.f41 [1,1,1] wsn))
noncomputable def xc5 (N:Nat) (st':St):Z2:=rn A_V92 N Tryz.f41 [1,1,1] st' wsn
theorem xkq (N):wbo N N (wpd N)=ww3 N:=by
 rw[show wbo N N (wpd N)=wbo N N (wft (xc5 N) fun j=>(wpd N) (.exit j)) from(by funext _ _ _ _ _;exact jlo),xc3,show wpf (xc5 N)=y8 by kernel_rfl];rfl
theorem run_V92 (N x):runF A_V92 N Tryz.f41 S_V92 x=V92 N x.1:=(show _=(w5m (wbo N N (wpd N)) x.1) by kernel_rfl).trans (by rw[xkq N];rfl)
theorem ok_V92:OK 41 S_V92:=gdR (A:=A_V92) tc Tryz.func41 (jes trivial) (run_V92 big)
def xnf (rec:T106) (k:T79) (a2:Y2) (a4:Y5) (a5 a18 a19 a23 a24:Int):Z7 :=
  cond (decide (a24<a23))
  ((atI a4 a5).bind fun _ =>
  (a4[a5.toNat]?).bind fun xq4 =>
  (a4[a5.toNat]?).bind fun xq5 =>
  (atI xq5 a24).bind fun _ =>
  (a4[a5.toNat]?).bind fun xq6 =>
  (xq6[a24.toNat]?).bind fun xq7 =>
  rec a2 (a4.set a5.toNat (xq6.set a24.toNat (decide ((bitI .and IntKind.i64 a5 a24)=a5)))) a5 a18 a19 a23 (IntKind.i64.wrap (a24+1)))
  (k a2 a4 a18 a19)
def xdc (rec:T79) (a2:Y2) (a4:Y5) (a18 a19:Int):Z7 :=
  rec a2 a4 a18 (IntKind.i64.wrap (a19+1))
def xdd (L8:T106) (k:Y2→Y5→Z7) (a2:Y2) (a4:Y5) (a18 a19:Int):Z7 :=
  cond (decide (a19<a18))
  (L8 a2 a4 a19 a18 a19 (a4.length:Int) 0)
  (k a2 a4)
def xdb (a2:Y2) (a4:Y5):Z7 :=
  (V92 big a4).bind fun rq3 =>
  some ((rq3.1,true,()),(()))
def xhq (L5:T79) (k_0:Int):Z7 :=
  cond (decide (k_0<0))
  (some (((([]:Y3),()),false,()),(())))
  (cond (decide (3<k_0))
  (some (((([]:Y3),()),false,()),(())))
  ((shlI IntKind.i64 1 k_0).bind fun xq1 =>
  (V25 big xq1).bind fun rq2 =>
  L5 (([]:Y3),()) rq2.1 (rq2.1.length:Int) 0))
def xdj (N:Nat) (k:T79):=itN (fun r=>xnf r k) fun _ _ _ _ _ _ _=>none
def xc9 (N:Nat) (rec:T79) (k:Y2→Y5→Z7):=xdj N (xdc rec) N
def xdi (N:Nat) (k:Y2→Y5→Z7):=itN (fun r=>xdd (xc9 N r k) k) fun _ _ _ _=>none
def xc8 (N:Nat):=xdi N (xdb) N
def V93 (N:Nat) (k_0:Int):Z7:=xhq (xc8 N) k_0
def S_V93:Sig:=⟨Q22,[0],[],.unit,(.tup (.pair Q0 Q18)),(.p (.p O14 .i) .i),fun x=>V93 big x.1⟩
def A_V93:Cfg:=mkCfg tab [(40,S_V25),(41,S_V92)] [(10,([D0,D0,B2,D0,B5]++dr 13 [B0,B0])),(16,([D0,D0,B2,D0,B5,B0]++dr 12 ([B0,B0]++dr 3 [B0,B0]))),(27,[D0,D0,B2,D0,B5]),(25,([D0,D0,B2,D0,B5]++dr 13 [B0,B0]))]
noncomputable def wbp (N n:Nat) (K:Ex→St→Z7) (a2:Y2) (a4:Y5) (a18 a19:Int):Z7:=itr A_V93 N 10 Tryz.f17 [1,1,1,0,1,0,0] n (([.u,.u,W2 a2,.u,W5 a4]++ud 13 [W0 a18,W0 a19])++us 22) K
noncomputable def wjm (N n:Nat) (K:Ex→St→Z7) (a2:Y2) (a4:Y5) (a5 a18 a19 a23 a24:Int):Z7:=itr A_V93 N 16 Tryz.f17 [1,1,1,0,1,0,0,1,1,0,0,1,1,0,0] n (([.u,.u,W2 a2,.u,W5 a4,W0 a5]++ud 12 ([W0 a18,W0 a19]++ud 3 [W0 a23,W0 a24]))++us 17) K
noncomputable def wso:Ex→St→Z7:=finish A_V93 S_V93 Tryz.f17.results.toList
noncomputable def wpi (kX:T107) (a2:Y2) (a4:Y5):Z7:=kX ([.u,.u,W2 a2,.u,W5 a4]++us 37)
noncomputable def wfw (kX:T107) (kO:T91):=exK wso 0 (A_V93.shape 27) kX kO
noncomputable def xda (kX:T107) (a2:Y2) (a4:Y5) (a18 a19:Int):Z7:=kX (([.u,.u,W2 a2,.u,W5 a4]++ud 13 [W0 a18,W0 a19])++us 22)
noncomputable def xc7 (kX:T107) (kO:T91):=exK wso 2 (A_V93.shape 25) kX kO
theorem xdf (N kX kO):∀n,wjm N n (xc7 kX kO)=xdj N (xda kX) n :=
 itE rfl fun m=>by kernel_rfl
noncomputable def wph (N m:Nat) (kX:T107) (kO:T91):=(blockK 2 (blockK 1 (sqK A_V93 N 25 500012 Tryz.f17 [1,1,1,0,1,0,0,1,1,1] (itK A_V93 N 10 Tryz.f17 [1,1,1,0,1,0,0] m (wfw kX kO)))))
noncomputable def xdh (N m:Nat) (kX:T107) (kO:T91) (st':St):Z7:=rn A_V93 N Tryz.f17 [1,1,1,0,1,0,0,1,1,1] st' (itK A_V93 N 10 Tryz.f17 [1,1,1,0,1,0,0] m (wfw kX kO))
theorem xkt (N m kX kO) {r}(h:wbp N m (wfw kX kO)=r):wjm N N (wph N m kX kO)=xc9 N r (wpi kX):=by
 rw[show wjm N N (wph N m kX kO)=wjm N N (xc7 (xdh N m kX kO) fun j=>(wph N m kX kO) (.exit j)) from(by funext _ _ _ _ _ _ _;exact jlo),xdf,show xda (xdh N m kX kO)=xdc (wbp N m (wfw kX kO)) by kernel_rfl,h];rfl
theorem xde (N kX kO):∀n,wbp N n (wfw kX kO)=xdi N (wpi kX) n :=
 itE rfl fun m=>(show _=xdd (wjm N N (wph N m kX kO)) (wpi kX) by kernel_rfl).trans (by rw[xkt N m kX kO rfl]<;>rfl)
noncomputable def wpg (N:Nat):=(blockK 0 (sqK A_V93 N 27 500013 Tryz.f17 [1,1,1,1] wso))
noncomputable def xdg (N:Nat) (st':St):Z7:=rn A_V93 N Tryz.f17 [1,1,1,1] st' wso
theorem xks (N):wbp N N (wpg N)=xc8 N:=by
 rw[show wbp N N (wpg N)=wbp N N (wfw (xdg N) fun j=>(wpg N) (.exit j)) from(by funext _ _ _ _;exact jlo),xde,show wpi (xdg N)=xdb by kernel_rfl];rfl
theorem run_V93 (N x):runF A_V93 N Tryz.f17 S_V93 x=V93 N x.1:=(show _=(xhq (wbp N N (wpg N)) x.1) by kernel_rfl).trans (by rw[xks N];rfl)
theorem ok_V93:OK 17 S_V93:=gdR (A:=A_V93) tc Tryz.func17 (jes ⟨ok_V25,ok_V92,trivial⟩) (run_V93 big)
def xhr (p_0 q_1:Y2):Option ((Y1×(Y1×Z0))×Unit) :=
  (V35 p_0).bind fun rq1 =>
  (V35 q_1).bind fun rq2 =>
  cond rq1.1.2.1
  (some ((rq1.1.1,rq2.1.1,rq2.1.2.1,()),(())))
  (some ((rq1.1.1,rq2.1.1,false,()),(())))
def V94 (p_0 q_1:Y2):Option ((Y1×(Y1×Z0))×Unit):=xhr p_0 q_1
def S_V94:Sig:=⟨(.pair Q0 Q17),[0,0],[],.unit,(.tup (.pair Q4 (.pair Q4 Q18))),.i,fun x=>V94 x.1 x.2.1⟩
def A_V94:Cfg:=mkCfg tab [(80,S_V35)] []
theorem run_V94 (N x):runF A_V94 N Tryz.f42 S_V94 x=V94 x.1 x.2.1:=by kernel_rfl
theorem ok_V94:OK 42 S_V94:=gdR (A:=A_V94) tc Tryz.func42 (jes ⟨ok_V35,trivial⟩) (run_V94 big)
def xhs (o_0:Y5) (list_1:Y4):Option Z0 :=
  (V27 big list_1 (o_0.length:Int)).bind fun rq1 =>
  some (rq1.1,(()))
def V95 (o_0:Y5) (list_1:Y4):Option Z0:=xhs o_0 list_1
def S_V95:Sig:=⟨(.pair Q8 (.pair Q10 .unit)),[0,0],[],.unit,.bool,.i,fun x=>V95 x.1 x.2.1⟩
def A_V95:Cfg:=mkCfg tab [(113,S_V27)] []
theorem run_V95 (N x):runF A_V95 N Tryz.f81 S_V95 x=V95 x.1 x.2.1:=by kernel_rfl
theorem ok_V95:OK 81 S_V95:=gdR (A:=A_V95) tc Tryz.func81 (jes ⟨ok_V27,trivial⟩) (run_V95 big)
def wjp (rec:Y1→Y1→Y4→Int→Int→Int→Int→Int→Option Z0) (k:Y1→Y1→Y4→Int→Int→Option Z0) (a0 a1:Y1) (a2:Y4) (a7 a47 a48 a52 a53:Int):Option Z0 :=
  cond (decide (a53<a52))
  ((a0).bind fun xq10 =>
  (atI xq10.2.1 a7).bind fun xq11 =>
  (atI xq11 a53).bind fun xq12 =>
  (atI a2 xq12).bind fun xq13 =>
  (a1).bind fun xq14 =>
  (atI a2 a7).bind fun xq15 =>
  (atI xq14.2.1 xq15).bind fun xq16 =>
  (atI a2 a53).bind fun xq17 =>
  (atI xq16 xq17).bind fun xq18 =>
  cond (decide (xq13≠xq18))
  (some (false,(())))
  ((a0).bind fun xq19 =>
  (atI xq19.2.2.1 a7).bind fun xq20 =>
  (atI xq20 a53).bind fun xq21 =>
  (atI a2 xq21).bind fun xq22 =>
  (a1).bind fun xq23 =>
  (atI a2 a7).bind fun xq24 =>
  (atI xq23.2.2.1 xq24).bind fun xq25 =>
  (atI a2 a53).bind fun xq26 =>
  (atI xq25 xq26).bind fun xq27 =>
  cond (decide (xq22≠xq27))
  (some (false,(())))
  (rec a0 a1 a2 a7 a47 a48 a52 (IntKind.i64.wrap (a53+1)))))
  (k a0 a1 a2 a47 a48)
def wfy (rec:Y1→Y1→Y4→Int→Int→Option Z0) (a0 a1:Y1) (a2:Y4) (a47 a48:Int):Option Z0 :=
  rec a0 a1 a2 a47 (IntKind.i64.wrap (a48+1))
def wfz (L7:Y1→Y1→Y4→Int→Int→Int→Int→Int→Option Z0) (k:Option Z0) (a0 a1:Y1) (a2:Y4) (a47 a48:Int):Option Z0 :=
  cond (decide (a48<a47))
  (L7 a0 a1 a2 a48 a47 a48 (a2.length:Int) 0)
  (k)
def y9:Option Z0 :=
  some (true,(()))
def w5n (L4:Y1→Y1→Y4→Int→Int→Option Z0) (l_0 m_1:Y1) (f_2:Y4):Option Z0 :=
  (l_0).bind fun xq1 =>
  cond (decide ((f_2.length:Int)≠(xq1.1.length:Int)))
  (some (false,(())))
  ((m_1).bind fun xq2 =>
  (V95 xq2.1 f_2).bind fun rq3 =>
  cond (!rq3.1)
  (some (false,(())))
  ((V38 big l_0).bind fun rq4 =>
  (atI f_2 rq4.1).bind fun xq5 =>
  (V38 big m_1).bind fun rq6 =>
  cond (decide (xq5≠rq6.1))
  (some (false,(())))
  ((V39 big l_0).bind fun rq7 =>
  (atI f_2 rq7.1).bind fun xq8 =>
  (V39 big m_1).bind fun rq9 =>
  cond (decide (xq8≠rq9.1))
  (some (false,(())))
  (L4 l_0 m_1 f_2 (f_2.length:Int) 0))))
def ww8 (N:Nat) (k:Y1→Y1→Y4→Int→Int→Option Z0):=itN (fun r=>wjp r k) fun _ _ _ _ _ _ _ _=>none
def wjn (N:Nat) (rec:Y1→Y1→Y4→Int→Int→Option Z0) (k:Option Z0):=ww8 N (wfy rec) N
def ww7 (N:Nat) (k:Option Z0):=itN (fun r=>wfz (wjn N r k) k) fun _ _ _ _ _=>none
def ww6 (N:Nat):=ww7 N (y9) N
def V96 (N:Nat) (l_0 m_1:Y1) (f_2:Y4):Option Z0:=w5n (ww6 N) l_0 m_1 f_2
def S_V96:Sig:=⟨(.pair Q4 (.pair Q4 (.pair Q10 .unit))),[0,0,0],[],.unit,.bool,.i,fun x=>V96 big x.1 x.2.1 x.2.2.1⟩
def A_V96:Cfg:=mkCfg tab [(81,S_V95),(65,S_V38),(82,S_V39)] [(8,([B10,B10,B4]++dr 44 [B0,B0])),(14,([B10,B10,B4]++dr 4 ([B0]++dr 39 ([B0,B0]++dr 3 [B0,B0])))),(27,[]),(25,([B10,B10,B4]++dr 44 [B0,B0]))]
noncomputable def wbq (N n:Nat) (K:Ex→St→Option Z0) (a0 a1:Y1) (a2:Y4) (a47 a48:Int):Option Z0:=itr A_V96 N 8 Tryz.f43 [1,1,0,1,0,0] n (([.val Q4 .i a0,.val Q4 .i a1,W4 a2]++ud 44 [W0 a47,W0 a48])++us 71) K
noncomputable def wjo (N n:Nat) (K:Ex→St→Option Z0) (a0 a1:Y1) (a2:Y4) (a7 a47 a48 a52 a53:Int):Option Z0:=itr A_V96 N 14 Tryz.f43 [1,1,0,1,0,0,1,1,0,0,1,1,0,0] n (([.val Q4 .i a0,.val Q4 .i a1,W4 a2]++ud 4 ([W0 a7]++ud 39 ([W0 a47,W0 a48]++ud 3 [W0 a52,W0 a53])))++us 66) K
noncomputable def wsp:Ex→St→Option Z0:=finish A_V96 S_V96 Tryz.f43.results.toList
noncomputable def wpl (kX:St→Option Z0):Option Z0:=kX ([]++us 120)
noncomputable def wfx (kX:St→Option Z0) (kO:Nat→St→Option Z0):Ex→St→Option Z0:=exK wsp 0 (A_V96.shape 27) kX kO
noncomputable def xdl (kX:St→Option Z0) (a0 a1:Y1) (a2:Y4) (a47 a48:Int):Option Z0:=kX (([.val Q4 .i a0,.val Q4 .i a1,W4 a2]++ud 44 [W0 a47,W0 a48])++us 71)
noncomputable def xdk (kX:St→Option Z0) (kO:Nat→St→Option Z0):Ex→St→Option Z0:=exK wsp 2 (A_V96.shape 25) kX kO
theorem xdn (N kX kO):∀n,wjo N n (xdk kX kO)=ww8 N (xdl kX) n :=
 itE rfl fun m=>by kernel_rfl
noncomputable def wpk (N m:Nat) (kX:St→Option Z0) (kO:Nat→St→Option Z0):Ex→St→Option Z0:=(blockK 2 (blockK 1 (sqK A_V96 N 25 500012 Tryz.f43 [1,1,0,1,0,0,1,1,1] (itK A_V96 N 8 Tryz.f43 [1,1,0,1,0,0] m (wfx kX kO)))))
noncomputable def xdp (N m:Nat) (kX:St→Option Z0) (kO:Nat→St→Option Z0) (st':St):Option Z0:=rn A_V96 N Tryz.f43 [1,1,0,1,0,0,1,1,1] st' (itK A_V96 N 8 Tryz.f43 [1,1,0,1,0,0] m (wfx kX kO))
theorem xkv (N m kX kO) {r}(h:wbq N m (wfx kX kO)=r):wjo N N (wpk N m kX kO)=wjn N r (wpl kX):=by
 rw[show wjo N N (wpk N m kX kO)=wjo N N (xdk (xdp N m kX kO) fun j=>(wpk N m kX kO) (.exit j)) from(by funext _ _ _ _ _ _ _ _;exact jlo),xdn,show xdl (xdp N m kX kO)=wfy (wbq N m (wfx kX kO)) by kernel_rfl,h];rfl
theorem xdm (N kX kO):∀n,wbq N n (wfx kX kO)=ww7 N (wpl kX) n :=
 itE rfl fun m=>(show _=wfz (wjo N N (wpk N m kX kO)) (wpl kX) by kernel_rfl).trans (by rw[xkv N m kX kO rfl]<;>rfl)
noncomputable def wpj (N:Nat):Ex→St→Option Z0:=(blockK 0 (sqK A_V96 N 27 500013 Tryz.f43 [1,1,1] wsp))
noncomputable def xdo (N:Nat) (st':St):Option Z0:=rn A_V96 N Tryz.f43 [1,1,1] st' wsp
theorem xku (N):wbq N N (wpj N)=ww6 N:=by
 rw[show wbq N N (wpj N)=wbq N N (wfx (xdo N) fun j=>(wpj N) (.exit j)) from(by funext _ _ _ _ _;exact jlo),xdm,show wpl (xdo N)=y9 by kernel_rfl];rfl
theorem run_V96 (N x):runF A_V96 N Tryz.f43 S_V96 x=V96 N x.1 x.2.1 x.2.2.1:=(show _=(w5n (wbq N N (wpj N)) x.1 x.2.1 x.2.2.1) by kernel_rfl).trans (by rw[xku N];rfl)
theorem ok_V96:OK 43 S_V96:=gdR (A:=A_V96) tc Tryz.func43 (jes ⟨ok_V95,ok_V38,ok_V39,trivial⟩) (run_V96 big)
def xht (p_0 q_1:Y2) (f_2:Y4):Option ((Bool×Z0)×Unit) :=
  (V94 p_0 q_1).bind fun rq1 =>
  cond (!rq1.1.2.2.1)
  (some ((false,false,()),(())))
  ((V96 big rq1.1.1 rq1.1.2.1 f_2).bind fun rq2 =>
  some ((rq2.1,true,()),(())))
def V97 (p_0 q_1:Y2) (f_2:Y4):Option ((Bool×Z0)×Unit):=xht p_0 q_1 f_2
def S_V97:Sig:=⟨(.pair Q0 (.pair Q0 (.pair Q10 .unit))),[0,0,0],[],.unit,(.tup (.pair .bool Q18)),.i,fun x=>V97 x.1 x.2.1 x.2.2.1⟩
def A_V97:Cfg:=mkCfg tab [(42,S_V94),(43,S_V96)] []
theorem run_V97 (N x):runF A_V97 N Tryz.f18 S_V97 x=V97 x.1 x.2.1 x.2.2.1:=by kernel_rfl
theorem ok_V97:OK 18 S_V97:=gdR (A:=A_V97) tc Tryz.func18 (jes ⟨ok_V94,ok_V96,trivial⟩) (run_V97 big)
def wxa (rec:T81) (k:T110) (a0 a1 a5:Int):Z4 :=
  cond (decide (0<a1))
  (rec a0 (IntKind.i64.wrap (a1-1)) (IntKind.i64.wrap (a5*a0)))
  (k a5)
def wjr (a5:Int):Z4 :=
  some (a5,(()))
def w5o (L2:T81) (n_0 k_1:Int):Z4 :=
  L2 n_0 k_1 1
def wxb (N:Nat) (k:T110):=itN (fun r=>wxa r k) fun _ _ _=>none
def ww9 (N:Nat):=wxb N (wjr) N
def V98 (N:Nat) (n_0 k_1:Int):Z4:=w5o (ww9 N) n_0 k_1
def S_V98:Sig:=⟨Q11,[0,0],[],.unit,I,.i,fun x=>V98 big x.1 x.2.1⟩
def A_V98:Cfg:=mkCfg tab [] [(4,([B0,B0]++dr 3 [B0])),(11,(dr 5 [B0]))]
noncomputable def wjq (N n:Nat) (K:T51) (a0 a1 a5:Int):Z4:=itr A_V98 N 4 Tryz.f86 [1,1,0,0,0] n (([W0 a0,W0 a1]++ud 3 [W0 a5])++us 8) K
noncomputable def w5p:Ex→St→Z4:=finish A_V98 S_V98 Tryz.f86.results.toList
noncomputable def xdr (kX:T22) (a5:Int):Z4:=kX ((ud 5 [W0 a5])++us 8)
noncomputable def xdq (kX:T22) (kO:T12):=exK w5p 0 (A_V98.shape 11) kX kO
theorem xds (N kX kO):∀n,wjq N n (xdq kX kO)=wxb N (xdr kX) n :=
 itE rfl fun m=>by kernel_rfl
noncomputable def wpm (N:Nat):=(blockK 0 (sqK A_V98 N 11 500005 Tryz.f86 [1,1,1] w5p))
noncomputable def xdt (N:Nat) (st':St):Z4:=rn A_V98 N Tryz.f86 [1,1,1] st' w5p
theorem xkw (N):wjq N N (wpm N)=ww9 N:=by
 rw[show wjq N N (wpm N)=wjq N N (xdq (xdt N) fun j=>(wpm N) (.exit j)) from(by funext _ _ _;exact jlo),xds,show xdr (xdt N)=wjr by kernel_rfl];rfl
theorem run_V98 (N x):runF A_V98 N Tryz.f86 S_V98 x=V98 N x.1 x.2.1:=(show _=(w5o (wjq N N (wpm N)) x.1 x.2.1) by kernel_rfl).trans (by rw[xkw N];rfl)
theorem ok_V98:OK 86 S_V98:=gdR (A:=A_V98) tc Tryz.func86 (jes trivial) (run_V98 big)
def xhu (f_0:Y6) (n_1:Int):Option Z0 :=
  cond (decide (0≤f_0.1))
  (cond (decide (f_0.1≤3))
  ((V98 big n_1 f_0.1).bind fun rq1 =>
  cond (decide ((f_0.2.1.length:Int)=rq1.1))
  ((V27 big f_0.2.1 n_1).bind fun rq2 =>
  some (rq2.1,(())))
  (some (false,(()))))
  (some (false,(()))))
  (some (false,(())))
def V99 (f_0:Y6) (n_1:Int):Option Z0:=xhu f_0 n_1
def S_V99:Sig:=⟨(.pair Q6 Q22),[0,0],[],.unit,.bool,.i,fun x=>V99 x.1 x.2.1⟩
def A_V99:Cfg:=mkCfg tab [(86,S_V98),(113,S_V27)] []
theorem run_V99 (N x):runF A_V99 N Tryz.f83 S_V99 x=V99 x.1 x.2.1:=by kernel_rfl
theorem ok_V99:OK 83 S_V99:=gdR (A:=A_V99) tc Tryz.func83 (jes ⟨ok_V98,ok_V27,trivial⟩) (run_V99 big)
def wb8 (rec:Y7→(List Y6)→Int→Int→Option Z0) (k:Option Z0) (a1:Y7) (a20:(List Y6)) (a21 a22:Int):Option Z0 :=
  cond (decide (a22<a21))
  ((atI a20 a22).bind fun xq1 =>
  (V99 xq1 a1.1).bind fun rq2 =>
  cond (!rq2.1)
  (some (false,(())))
  (rec a1 a20 a21 (IntKind.i64.wrap (a22+1))))
  (k)
def zo:Option Z0 :=
  some (true,(()))
def wsv (L4:Y7→(List Y6)→Int→Int→Option Z0) (a_0:Y7):Option Z0 :=
  cond (decide (a_0.1<1))
  (some (false,(())))
  (cond (decide (8<a_0.1))
  (some (false,(())))
  (cond (decide (4<(a_0.2.1.length:Int)))
  (some (false,(())))
  (L4 a_0 a_0.2.1 (a_0.2.1.length:Int) 0)))
def wqb (N:Nat) (k:Option Z0):=itN (fun r=>wb8 r k) fun _ _ _ _=>none
def wqa (N:Nat):=wqb N (zo) N
def V100 (N:Nat) (a_0:Y7):Option Z0:=wsv (wqa N) a_0
def S_V100:Sig:=⟨(.pair Q1 .unit),[0],[],.unit,.bool,.i,fun x=>V100 big x.1⟩
def A_V100:Cfg:=mkCfg tab [(83,S_V99)] [(8,([D0,B9]++dr 18 [.as (.sl Q6) .i,B0,B0])),(19,[])]
noncomputable def wb7 (N n:Nat) (K:Ex→St→Option Z0) (a1:Y7) (a20:(List Y6)) (a21 a22:Int):Option Z0:=itr A_V100 N 8 Tryz.f44 [1,1,0,1,0,0] n (([.u,W8 a1]++ud 18 [.val (.sl Q6) .i a20,W0 a21,W0 a22])++us 9) K
noncomputable def wsw:Ex→St→Option Z0:=finish A_V100 S_V100 Tryz.f44.results.toList
noncomputable def wyr (kX:St→Option Z0):Option Z0:=kX ([]++us 32)
noncomputable def wyq (kX:St→Option Z0) (kO:Nat→St→Option Z0):Ex→St→Option Z0:=exK wsw 0 (A_V100.shape 19) kX kO
theorem w2f (N kX kO):∀n,wb7 N n (wyq kX kO)=wqb N (wyr kX) n :=
 itE rfl fun m=>by kernel_rfl
noncomputable def wj9 (N:Nat):Ex→St→Option Z0:=(blockK 0 (sqK A_V100 N 19 500009 Tryz.f44 [1,1,1] wsw))
noncomputable def wys (N:Nat) (st':St):Option Z0:=rn A_V100 N Tryz.f44 [1,1,1] st' wsw
theorem xew (N):wb7 N N (wj9 N)=wqa N:=by
 rw[show wb7 N N (wj9 N)=wb7 N N (wyq (wys N) fun j=>(wj9 N) (.exit j)) from(by funext _ _ _ _;exact jlo),w2f,show wyr (wys N)=zo by kernel_rfl];rfl
theorem run_V100 (N x):runF A_V100 N Tryz.f44 S_V100 x=V100 N x.1:=(show _=(wsv (wb7 N N (wj9 N)) x.1) by kernel_rfl).trans (by rw[xew N];rfl)
theorem ok_V100:OK 44 S_V100:=gdR (A:=A_V100) tc Tryz.func44 (jes ⟨ok_V99,trivial⟩) (run_V100 big)
def wca (rec:T82) (k:T44) (a3:Y4) (a8:(List Y6)) (a9 a10:Int):Z3 :=
  cond (decide (a10<a9))
  ((atI a8 a10).bind fun xq1 =>
  (appI a3 [xq1.1]).bind fun xq2 =>
  rec xq2 a8 a9 (IntKind.i64.wrap (a10+1)))
  (k a3)
def zp (a3:Y4):Z3 :=
  some (a3,(()))
def wsx (L3:T82) (a_0:Y7):Z3 :=
  L3 [] a_0.2.1 (a_0.2.1.length:Int) 0
def wqd (N:Nat) (k:T44):=itN (fun r=>wca r k) fun _ _ _ _=>none
def wqc (N:Nat):=wqd N (zp) N
def V101 (N:Nat) (a_0:Y7):Z3:=wsx (wqc N) a_0
def S_V101:Sig:=⟨(.pair Q1 .unit),[0],[],.unit,Q10,O7,fun x=>V101 big x.1⟩
def A_V101:Cfg:=mkCfg tab [] [(6,(dr 3 ([B1]++dr 4 [.as (.sl Q6) .i,B0,B0]))),(15,(dr 3 [B1]))]
noncomputable def wb9 (N n:Nat) (K:T31) (a3:Y4) (a8:(List Y6)) (a9 a10:Int):Z3:=itr A_V101 N 6 Tryz.f46 [1,1,0,1,0,0] n ((ud 3 ([W1 a3]++ud 4 [.val (.sl Q6) .i a8,W0 a9,W0 a10]))++us 10) K
noncomputable def wsy:Ex→St→Z3:=finish A_V101 S_V101 Tryz.f46.results.toList
noncomputable def wyu (kX:T18) (a3:Y4):Z3:=kX ((ud 3 [W1 a3])++us 17)
noncomputable def wyt (kX:T18) (kO:T19):=exK wsy 0 (A_V101.shape 15) kX kO
theorem w2g (N kX kO):∀n,wb9 N n (wyt kX kO)=wqd N (wyu kX) n :=
 itE rfl fun m=>by kernel_rfl
noncomputable def wka (N:Nat):=(blockK 0 (sqK A_V101 N 15 500007 Tryz.f46 [1,1,1] wsy))
noncomputable def wyv (N:Nat) (st':St):Z3:=rn A_V101 N Tryz.f46 [1,1,1] st' wsy
theorem xex (N):wb9 N N (wka N)=wqc N:=by
 rw[show wb9 N N (wka N)=wb9 N N (wyt (wyv N) fun j=>(wka N) (.exit j)) from(by funext _ _ _ _;exact jlo),w2g,show wyu (wyv N)=zp by kernel_rfl];rfl
theorem run_V101 (N x):runF A_V101 N Tryz.f46 S_V101 x=V101 N x.1:=(show _=(wsx (wb9 N N (wka N)) x.1) by kernel_rfl).trans (by rw[xex N];rfl)
theorem ok_V101:OK 46 S_V101:=gdR (A:=A_V101) tc Tryz.func46 (jes trivial) (run_V101 big)
def wcc (rec:Y4→Y4→Int→Int→Option Z0) (k:Option Z0) (a1 a12:Y4) (a13 a14:Int):Option Z0 :=
  cond (decide (a14<a13))
  ((atI a12 a14).bind fun xq1 =>
  (atI a1 a14).bind fun xq2 =>
  cond (decide (xq2≠xq1))
  (some (false,(())))
  (rec a1 a12 a13 (IntKind.i64.wrap (a14+1))))
  (k)
def zq:Option Z0 :=
  some (true,(()))
def wsz (L4:Y4→Y4→Int→Int→Option Z0) (a_0 b_1:Y4):Option Z0 :=
  cond (decide ((a_0.length:Int)≠(b_1.length:Int)))
  (some (false,(())))
  (L4 b_1 a_0 (a_0.length:Int) 0)
def wqf (N:Nat) (k:Option Z0):=itN (fun r=>wcc r k) fun _ _ _ _=>none
def wqe (N:Nat):=wqf N (zq) N
def V102 (N:Nat) (a_0 b_1:Y4):Option Z0:=wsz (wqe N) a_0 b_1
def S_V102:Sig:=⟨Q16,[0,0],[],.unit,.bool,.i,fun x=>V102 big x.1 x.2.1⟩
def A_V102:Cfg:=mkCfg tab [] [(8,([D0,B4]++dr 10 [B4,B0,B0])),(19,[])]
noncomputable def wcb (N n:Nat) (K:Ex→St→Option Z0) (a1 a12:Y4) (a13 a14:Int):Option Z0:=itr A_V102 N 8 Tryz.f45 [1,1,0,1,0,0] n (([.u,W4 a1]++ud 10 [W4 a12,W0 a13,W0 a14])++us 11) K
noncomputable def ws0:Ex→St→Option Z0:=finish A_V102 S_V102 Tryz.f45.results.toList
noncomputable def wyx (kX:St→Option Z0):Option Z0:=kX ([]++us 26)
noncomputable def wyw (kX:St→Option Z0) (kO:Nat→St→Option Z0):Ex→St→Option Z0:=exK ws0 0 (A_V102.shape 19) kX kO
theorem w2h (N kX kO):∀n,wcb N n (wyw kX kO)=wqf N (wyx kX) n :=
 itE rfl fun m=>by kernel_rfl
noncomputable def wkb (N:Nat):Ex→St→Option Z0:=(blockK 0 (sqK A_V102 N 19 500009 Tryz.f45 [1,1,1] ws0))
noncomputable def wyy (N:Nat) (st':St):Option Z0:=rn A_V102 N Tryz.f45 [1,1,1] st' ws0
theorem xey (N):wcb N N (wkb N)=wqe N:=by
 rw[show wcb N N (wkb N)=wcb N N (wyw (wyy N) fun j=>(wkb N) (.exit j)) from(by funext _ _ _ _;exact jlo),w2h,show wyx (wyy N)=zq by kernel_rfl];rfl
theorem run_V102 (N x):runF A_V102 N Tryz.f45 S_V102 x=V102 N x.1 x.2.1:=(show _=(wsz (wcb N N (wkb N)) x.1 x.2.1) by kernel_rfl).trans (by rw[xey N];rfl)
theorem ok_V102:OK 45 S_V102:=gdR (A:=A_V102) tc Tryz.func45 (jes trivial) (run_V102 big)
def wcf (rec:T35) (k:T16) (a0:Int) (a1:Y4) (a5:Y5) (a6 a11 a12 a16 a17:Int):Z9 :=
  cond (decide (a17<a16))
  ((atI a5 a6).bind fun _ =>
  (a5[a6.toNat]?).bind fun xq2 =>
  (atI a1 (IntKind.i64.wrap ((IntKind.i64.wrap (a6*a0))+a17))).bind fun xq3 =>
  (a5[a6.toNat]?).bind fun xq4 =>
  (atI xq4 a17).bind fun _ =>
  (a5[a6.toNat]?).bind fun xq5 =>
  (xq5[a17.toNat]?).bind fun xq6 =>
  rec a0 a1 (a5.set a6.toNat (xq5.set a17.toNat (decide (xq3=a6)))) a6 a11 a12 a16 (IntKind.i64.wrap (a17+1)))
  (k a0 a1 a5 a11 a12)
def zt (rec:T16) (a0:Int) (a1:Y4) (a5:Y5) (a11 a12:Int):Z9 :=
  rec a0 a1 a5 a11 (IntKind.i64.wrap (a12+1))
def zu (L6:T35) (k:Y5→Z9) (a0:Int) (a1:Y4) (a5:Y5) (a11 a12:Int):Z9 :=
  cond (decide (a12<a11))
  (L6 a0 a1 a5 a12 a11 a12 (a5.length:Int) 0)
  (k a5)
def xe (a5:Y5):Z9 :=
  some (a5,(()))
def ws1 (L3:T16) (n_0:Int) (table_1:Y4):Z9 :=
  (V25 big n_0).bind fun rq1 =>
  L3 n_0 table_1 rq1.1 (rq1.1.length:Int) 0
def wqi (N:Nat) (k:T16):=itN (fun r=>wcf r k) fun _ _ _ _ _ _ _ _=>none
def wcd (N:Nat) (rec:T16) (k:Y5→Z9):=wqi N (zt rec) N
def wqh (N:Nat) (k:Y5→Z9):=itN (fun r=>zu (wcd N r k) k) fun _ _ _ _ _=>none
def wqg (N:Nat):=wqh N (xe) N
def V103 (N:Nat) (n_0:Int) (table_1:Y4):Z9:=ws1 (wqg N) n_0 table_1
def S_V103:Sig:=⟨Q6,[0,0],[],.unit,Q8,O14,fun x=>V103 big x.1 x.2.1⟩
def A_V103:Cfg:=mkCfg tab [(40,S_V25)] [(6,([B0,B4]++dr 3 ([B5]++dr 5 [B0,B0]))),(12,([B0,B4]++dr 3 ([B5,B0]++dr 4 ([B0,B0]++dr 3 [B0,B0])))),(23,(dr 5 [B5])),(21,([B0,B4]++dr 3 ([B5]++dr 5 [B0,B0])))]
noncomputable def xx (N n:Nat) (K:Ex→St→Z9) (a0:Int) (a1:Y4) (a5:Y5) (a11 a12:Int):Z9:=itr A_V103 N 6 Tryz.f47 [1,1,0,1,0,0] n (([W0 a0,W4 a1]++ud 3 ([W5 a5]++ud 5 [W0 a11,W0 a12]))++us 26) K
noncomputable def wce (N n:Nat) (K:Ex→St→Z9) (a0:Int) (a1:Y4) (a5:Y5) (a6 a11 a12 a16 a17:Int):Z9:=itr A_V103 N 12 Tryz.f47 [1,1,0,1,0,0,1,1,0,0,1,1,0,0] n (([W0 a0,W4 a1]++ud 3 ([W5 a5,W0 a6]++ud 4 ([W0 a11,W0 a12]++ud 3 [W0 a16,W0 a17])))++us 21) K
noncomputable def wme:Ex→St→Z9:=finish A_V103 S_V103 Tryz.f47.results.toList
noncomputable def wke (kX:T99) (a5:Y5):Z9:=kX ((ud 5 [W5 a5])++us 33)
noncomputable def zr (kX:T99) (kO:T84):=exK wme 0 (A_V103.shape 23) kX kO
noncomputable def wy0 (kX:T99) (a0:Int) (a1:Y4) (a5:Y5) (a11 a12:Int):Z9:=kX (([W0 a0,W4 a1]++ud 3 ([W5 a5]++ud 5 [W0 a11,W0 a12]))++us 26)
noncomputable def wyz (kX:T99) (kO:T84):=exK wme 2 (A_V103.shape 21) kX kO
theorem w2j (N kX kO):∀n,wce N n (wyz kX kO)=wqi N (wy0 kX) n :=
 itE rfl fun m=>by kernel_rfl
noncomputable def wkd (N m:Nat) (kX:T99) (kO:T84):=(blockK 2 (blockK 1 (sqK A_V103 N 21 500010 Tryz.f47 [1,1,0,1,0,0,1,1,1] (itK A_V103 N 6 Tryz.f47 [1,1,0,1,0,0] m (zr kX kO)))))
noncomputable def wy2 (N m:Nat) (kX:T99) (kO:T84) (st':St):Z9:=rn A_V103 N Tryz.f47 [1,1,0,1,0,0,1,1,1] st' (itK A_V103 N 6 Tryz.f47 [1,1,0,1,0,0] m (zr kX kO))
theorem xe0 (N m kX kO) {r}(h:xx N m (zr kX kO)=r):wce N N (wkd N m kX kO)=wcd N r (wke kX):=by
 rw[show wce N N (wkd N m kX kO)=wce N N (wyz (wy2 N m kX kO) fun j=>(wkd N m kX kO) (.exit j)) from(by funext _ _ _ _ _ _ _ _;exact jlo),w2j,show wy0 (wy2 N m kX kO)=zt (xx N m (zr kX kO)) by kernel_rfl,h];rfl
theorem w2i (N kX kO):∀n,xx N n (zr kX kO)=wqh N (wke kX) n :=
 itE rfl fun m=>(show _=zu (wce N N (wkd N m kX kO)) (wke kX) by kernel_rfl).trans (by rw[xe0 N m kX kO rfl]<;>rfl)
noncomputable def wkc (N:Nat):=(blockK 0 (sqK A_V103 N 23 500011 Tryz.f47 [1,1,1] wme))
noncomputable def wy1 (N:Nat) (st':St):Z9:=rn A_V103 N Tryz.f47 [1,1,1] st' wme
theorem xez (N):xx N N (wkc N)=wqg N:=by
 rw[show xx N N (wkc N)=xx N N (zr (wy1 N) fun j=>(wkc N) (.exit j)) from(by funext _ _ _ _ _;exact jlo),w2i,show wke (wy1 N)=xe by kernel_rfl];rfl
theorem run_V103 (N x):runF A_V103 N Tryz.f47 S_V103 x=V103 N x.1 x.2.1:=(show _=(ws1 (xx N N (wkc N)) x.1 x.2.1) by kernel_rfl).trans (by rw[xez N];rfl)
theorem ok_V103:OK 47 S_V103:=gdR (A:=A_V103) tc Tryz.func47 (jes ⟨ok_V25,trivial⟩) (run_V103 big)
def wch (rec:Y7→(List Y6)→Int→Int→Option Z0) (k:Option Z0) (a3:Y7) (a22:(List Y6)) (a23 a24:Int):Option Z0 :=
  cond (decide (a24<a23))
  ((atI a22 a24).bind fun xq1 =>
  (atI a3.2.1 a24).bind fun xq2 =>
  cond (decide (xq1.1≠xq2.1))
  (some (false,(())))
  ((atI a3.2.1 a24).bind fun xq3 =>
  (V102 big xq1.2.1 xq3.2.1).bind fun rq4 =>
  cond (!rq4.1)
  (some (false,(())))
  (rec a3 a22 a23 (IntKind.i64.wrap (a24+1)))))
  (k)
def zv:Option Z0 :=
  some (true,(()))
def ws2 (L4:Y7→(List Y6)→Int→Int→Option Z0) (a_0 b_1:Y7):Option Z0 :=
  cond (decide (a_0.1≠b_1.1))
  (some (false,(())))
  (cond (decide ((a_0.2.1.length:Int)≠(b_1.2.1.length:Int)))
  (some (false,(())))
  (L4 b_1 a_0.2.1 (a_0.2.1.length:Int) 0))
def wqk (N:Nat) (k:Option Z0):=itN (fun r=>wch r k) fun _ _ _ _=>none
def wqj (N:Nat):=wqk N (zv) N
def V104 (N:Nat) (a_0 b_1:Y7):Option Z0:=ws2 (wqj N) a_0 b_1
def S_V104:Sig:=⟨(.pair Q1 (.pair Q1 .unit)),[0,0],[],.unit,.bool,.i,fun x=>V104 big x.1 x.2.1⟩
def A_V104:Cfg:=mkCfg tab [(45,S_V102)] [(8,(dr 3 ([B9]++dr 18 [.as (.sl Q6) .i,B0,B0]))),(19,[])]
noncomputable def wcg (N n:Nat) (K:Ex→St→Option Z0) (a3:Y7) (a22:(List Y6)) (a23 a24:Int):Option Z0:=itr A_V104 N 8 Tryz.f48 [1,1,0,1,0,0] n ((ud 3 ([W8 a3]++ud 18 [.val (.sl Q6) .i a22,W0 a23,W0 a24]))++us 26) K
noncomputable def ws3:Ex→St→Option Z0:=finish A_V104 S_V104 Tryz.f48.results.toList
noncomputable def wy4 (kX:St→Option Z0):Option Z0:=kX ([]++us 51)
noncomputable def wy3 (kX:St→Option Z0) (kO:Nat→St→Option Z0):Ex→St→Option Z0:=exK ws3 0 (A_V104.shape 19) kX kO
theorem w2k (N kX kO):∀n,wcg N n (wy3 kX kO)=wqk N (wy4 kX) n :=
 itE rfl fun m=>by kernel_rfl
noncomputable def wkf (N:Nat):Ex→St→Option Z0:=(blockK 0 (sqK A_V104 N 19 500009 Tryz.f48 [1,1,1] ws3))
noncomputable def wy5 (N:Nat) (st':St):Option Z0:=rn A_V104 N Tryz.f48 [1,1,1] st' ws3
theorem xe1 (N):wcg N N (wkf N)=wqj N:=by
 rw[show wcg N N (wkf N)=wcg N N (wy3 (wy5 N) fun j=>(wkf N) (.exit j)) from(by funext _ _ _ _;exact jlo),w2k,show wy4 (wy5 N)=zv by kernel_rfl];rfl
theorem run_V104 (N x):runF A_V104 N Tryz.f48 S_V104 x=V104 N x.1 x.2.1:=(show _=(ws2 (wcg N N (wkf N)) x.1 x.2.1) by kernel_rfl).trans (by rw[xe1 N];rfl)
theorem ok_V104:OK 48 S_V104:=gdR (A:=A_V104) tc Tryz.func48 (jes ⟨ok_V102,trivial⟩) (run_V104 big)
def ws4 (a_0:Y7):Z7 :=
  (V100 big a_0).bind fun rq1 =>
  cond (!rq1.1)
  (some (((([]:Y3),()),false,()),(())))
  ((V101 big a_0).bind fun rq2 =>
  (V102 big rq2.1 [(2:Int),2]).bind fun rq3 =>
  cond (!rq3.1)
  (some (((([]:Y3),()),false,()),(())))
  ((atI a_0.2.1 1).bind fun xq4 =>
  (V103 big a_0.1 xq4.2.1).bind fun rq5 =>
  (V92 big rq5.1).bind fun rq6 =>
  (V48 rq6.1).bind fun rq7 =>
  cond (!rq7.1.2.1)
  (some (((([]:Y3),()),false,()),(())))
  ((V80 rq7.1.1).bind fun rq8 =>
  (V104 big rq8.1 a_0).bind fun rq9 =>
  cond (!rq9.1)
  (some (((([]:Y3),()),false,()),(())))
  (some ((rq6.1,true,()),(()))))))
def V105 (a_0:Y7):Z7:=ws4 a_0
def S_V105:Sig:=⟨(.pair Q1 .unit),[0],[],.unit,(.tup (.pair Q0 Q18)),.i,fun x=>V105 x.1⟩
def A_V105:Cfg:=mkCfg tab [(44,S_V100),(46,S_V101),(45,S_V102),(47,S_V103),(41,S_V92),(27,S_V48),(35,S_V80),(48,S_V104)] []
theorem run_V105 (N x):runF A_V105 N Tryz.f19 S_V105 x=V105 x.1:=by kernel_rfl
theorem ok_V105:OK 19 S_V105:=gdR (A:=A_V105) tc Tryz.func19 (jes ⟨ok_V100,ok_V101,ok_V102,ok_V103,ok_V92,ok_V48,ok_V80,ok_V104,trivial⟩) (run_V105 big)
def wcj (rec:Y3→Y3→Int→Option Z0) (k:Option Z0) (a0 a1:Y3) (a5:Int):Option Z0 :=
  cond (decide (a5<(a0.length:Int)))
  ((atI a0 a5).bind fun xq1 =>
  (atI a1 a5).bind fun xq2 =>
  (V73 big xq1 xq2).bind fun rq3 =>
  cond (!rq3.1)
  (some (false,(())))
  (rec a0 a1 (IntKind.i64.wrap (a5+1))))
  (k)
def zw:Option Z0 :=
  some (true,(()))
def ws5 (L4:Y3→Y3→Int→Option Z0) (a_0 b_1:Y3):Option Z0 :=
  cond (decide ((a_0.length:Int)≠(b_1.length:Int)))
  (some (false,(())))
  (L4 a_0 b_1 0)
def wqm (N:Nat) (k:Option Z0):=itN (fun r=>wcj r k) fun _ _ _=>none
def wql (N:Nat):=wqm N (zw) N
def V106 (N:Nat) (a_0 b_1:Y3):Option Z0:=ws5 (wql N) a_0 b_1
def S_V106:Sig:=⟨(.pair Q20 Q0),[0,0],[],.unit,.bool,.i,fun x=>V106 big x.1 x.2.1⟩
def A_V106:Cfg:=mkCfg tab [(8,S_V73)] [(8,([.as Q20 .i,.as Q20 .i]++dr 3 [B0])),(17,[])]
noncomputable def wci (N n:Nat) (K:Ex→St→Option Z0) (a0 a1:Y3) (a5:Int):Option Z0:=itr A_V106 N 8 Tryz.f49 [1,1,0,1,0,0] n (([.val Q20 .i a0,.val Q20 .i a1]++ud 3 [W0 a5])++us 21) K
noncomputable def ws6:Ex→St→Option Z0:=finish A_V106 S_V106 Tryz.f49.results.toList
noncomputable def wy7 (kX:St→Option Z0):Option Z0:=kX ([]++us 27)
noncomputable def wy6 (kX:St→Option Z0) (kO:Nat→St→Option Z0):Ex→St→Option Z0:=exK ws6 0 (A_V106.shape 17) kX kO
theorem w2l (N kX kO):∀n,wci N n (wy6 kX kO)=wqm N (wy7 kX) n :=
 itE rfl fun m=>by kernel_rfl
noncomputable def wkg (N:Nat):Ex→St→Option Z0:=(blockK 0 (sqK A_V106 N 17 500008 Tryz.f49 [1,1,1] ws6))
noncomputable def wy8 (N:Nat) (st':St):Option Z0:=rn A_V106 N Tryz.f49 [1,1,1] st' ws6
theorem xe2 (N):wci N N (wkg N)=wql N:=by
 rw[show wci N N (wkg N)=wci N N (wy6 (wy8 N) fun j=>(wkg N) (.exit j)) from(by funext _ _ _;exact jlo),w2l,show wy7 (wy8 N)=zw by kernel_rfl];rfl
theorem run_V106 (N x):runF A_V106 N Tryz.f49 S_V106 x=V106 N x.1 x.2.1:=(show _=(ws5 (wci N N (wkg N)) x.1 x.2.1) by kernel_rfl).trans (by rw[xe2 N];rfl)
theorem ok_V106:OK 49 S_V106:=gdR (A:=A_V106) tc Tryz.func49 (jes ⟨ok_V73,trivial⟩) (run_V106 big)
def w6h (p_0 q_1:Y2):Option Z0 :=
  (V106 big p_0.1 q_1.1).bind fun rq1 =>
  some (rq1.1,(()))
def V107 (p_0 q_1:Y2):Option Z0:=w6h p_0 q_1
def S_V107:Sig:=⟨(.pair Q0 Q17),[0,0],[],.unit,.bool,.i,fun x=>V107 x.1 x.2.1⟩
def A_V107:Cfg:=mkCfg tab [(49,S_V106)] []
theorem run_V107 (N x):runF A_V107 N Tryz.f20 S_V107 x=V107 x.1 x.2.1:=by kernel_rfl
theorem ok_V107:OK 20 S_V107:=gdR (A:=A_V107) tc Tryz.func20 (jes ⟨ok_V106,trivial⟩) (run_V107 big)
def w6 (rec:T96) (k:T110) (a1:Y4) (a2:Int) (a3:Y7) (a7:Int):Z4 :=
  cond (decide (0<a7))
  (cond (decide ((a1.length:Int)≤a2))
  (some ((-1:Int),(())))
  ((atI a1 a2).bind fun xq1 =>
  cond (decide (6≤xq1))
  (some ((-1:Int),(())))
  (cond (decide (xq1<(IntKind.i64.wrap (0-(a3.2.1.length:Int)))))
  (some ((-1:Int),(())))
  (cond (decide (0≤xq1))
  (rec a1 (IntKind.i64.wrap (a2+1)) a3 (IntKind.i64.wrap (a7-1)))
  ((atI a3.2.1 (IntKind.i64.wrap ((-1:Int)-xq1))).bind fun xq2 =>
  rec a1 (IntKind.i64.wrap (a2+1)) a3 (IntKind.i64.wrap (a7+(IntKind.i64.wrap (xq2.1-1)))))))))
  (k a2)
def xy (a2:Int):Z4 :=
  some (a2,(()))
def wgw (L2:T96) (a_0:Y7) (t_1:Y4) (at_2:Int):Z4 :=
  L2 t_1 at_2 a_0 1
def wqp (N:Nat) (k:T110):=itN (fun r=>w6 r k) fun _ _ _ _=>none
def wqn (N:Nat):=wqp N (xy) N
def V108 (N:Nat) (a_0:Y7) (t_1:Y4) (at_2:Int):Z4:=wgw (wqn N) a_0 t_1 at_2
def S_V108:Sig:=⟨(.pair Q1 (.pair Q10 Q22)),[0,0,0],[],.unit,I,.i,fun x=>V108 big x.1 x.2.1 x.2.2.1⟩
def A_V108:Cfg:=mkCfg tab [] [(4,([D0,B4,B0,B9]++dr 3 [B0])),(25,[D0,D0,B0])]
noncomputable def wck (N n:Nat) (K:T51) (a1:Y4) (a2:Int) (a3:Y7) (a7:Int):Z4:=itr A_V108 N 4 Tryz.f114 [1,1,0,0,0] n (([.u,W4 a1,W0 a2,W8 a3]++ud 3 [W0 a7])++us 40) K
noncomputable def ws7:Ex→St→Z4:=finish A_V108 S_V108 Tryz.f114.results.toList
noncomputable def wza (kX:T22) (a2:Int):Z4:=kX ([.u,.u,W0 a2]++us 45)
noncomputable def wy9 (kX:T22) (kO:T12):=exK ws7 0 (A_V108.shape 25) kX kO
theorem w2m (N kX kO):∀n,wck N n (wy9 kX kO)=wqp N (wza kX) n :=
 itE rfl fun m=>by kernel_rfl
noncomputable def wkh (N:Nat):=(blockK 0 (sqK A_V108 N 25 500012 Tryz.f114 [1,1,1] ws7))
noncomputable def wzb (N:Nat) (st':St):Z4:=rn A_V108 N Tryz.f114 [1,1,1] st' ws7
theorem xe3 (N):wck N N (wkh N)=wqn N:=by
 rw[show wck N N (wkh N)=wck N N (wy9 (wzb N) fun j=>(wkh N) (.exit j)) from(by funext _ _ _ _;exact jlo),w2m,show wza (wzb N)=xy by kernel_rfl];rfl
theorem run_V108 (N x):runF A_V108 N Tryz.f114 S_V108 x=V108 N x.1 x.2.1 x.2.2.1:=(show _=(wgw (wck N N (wkh N)) x.1 x.2.1 x.2.2.1) by kernel_rfl).trans (by rw[xe3 N];rfl)
theorem ok_V108:OK 114 S_V108:=gdR (A:=A_V108) tc Tryz.func114 (jes trivial) (run_V108 big)
def wmf (a_0:Y7) (t_1:Y4):Option Z0 :=
  cond (decide ((t_1.length:Int)≤60))
  ((V108 big a_0 t_1 0).bind fun rq1 =>
  some (decide (rq1.1=(t_1.length:Int)),(())))
  (some (false,(())))
def V109 (a_0:Y7) (t_1:Y4):Option Z0:=wmf a_0 t_1
def S_V109:Sig:=⟨(.pair Q1 (.pair Q10 .unit)),[0,0],[],.unit,.bool,.i,fun x=>V109 x.1 x.2.1⟩
def A_V109:Cfg:=mkCfg tab [(114,S_V108)] []
theorem run_V109 (N x):runF A_V109 N Tryz.f84 S_V109 x=V109 x.1 x.2.1:=by kernel_rfl
theorem ok_V109:OK 84 S_V109:=gdR (A:=A_V109) tc Tryz.func84 (jes ⟨ok_V108,trivial⟩) (run_V109 big)
def wta (a_0:Y7) (e_1:Z20):Option Z0 :=
  (V109 a_0 e_1.1).bind fun rq1 =>
  cond rq1.1
  ((V109 a_0 e_1.2.1).bind fun rq2 =>
  some (rq2.1,(())))
  (some (false,(())))
def V110 (a_0:Y7) (e_1:Z20):Option Z0:=wta a_0 e_1
def S_V110:Sig:=⟨(.pair Q1 (.pair Q16 .unit)),[0,0],[],.unit,.bool,.i,fun x=>V110 x.1 x.2.1⟩
def A_V110:Cfg:=mkCfg tab [(84,S_V109)] []
theorem run_V110 (N x):runF A_V110 N Tryz.f50 S_V110 x=V110 x.1 x.2.1:=by kernel_rfl
theorem ok_V110:OK 50 S_V110:=gdR (A:=A_V110) tc Tryz.func50 (jes ⟨ok_V109,trivial⟩) (run_V110 big)
def xic (rec:Y4→(List Bool)→Int→Int→Z3) (k:T44) (a3:Y4) (a7:(List Bool)) (a8 a9:Int):Z3 :=
  cond (decide (a9<a8))
  ((atI a7 a9).bind fun xq1 =>
  cond xq1
  ((appI a3 [a9]).bind fun xq2 =>
  rec xq2 a7 a8 (IntKind.i64.wrap (a9+1)))
  (rec a3 a7 a8 (IntKind.i64.wrap (a9+1))))
  (k a3)
def wzf (a3:Y4):Z3 :=
  some (a3,(()))
def w6m (L3:Y4→(List Bool)→Int→Int→Z3) (have_0:(List Bool)):Z3 :=
  L3 [] have_0 (have_0.length:Int) 0
def wzh (N:Nat) (k:T44):=itN (fun r=>xic r k) fun _ _ _ _=>none
def wzd (N:Nat):=wzh N (wzf) N
def V111 (N:Nat) (have_0:(List Bool)):Z3:=w6m (wzd N) have_0
def S_V111:Sig:=⟨(.pair (.sl .bool) .unit),[0],[],.unit,Q10,O7,fun x=>V111 big x.1⟩
def A_V111:Cfg:=mkCfg tab [] [(6,(dr 3 ([B1]++dr 3 [.as (.sl .bool) .i,B0,B0]))),(17,(dr 3 [B1]))]
noncomputable def wcl (N n:Nat) (K:T31) (a3:Y4) (a7:(List Bool)) (a8 a9:Int):Z3:=itr A_V111 N 6 Tryz.f115 [1,1,0,1,0,0] n ((ud 3 ([W1 a3]++ud 3 [.val (.sl .bool) .i a7,W0 a8,W0 a9]))++us 11) K
noncomputable def wtb:Ex→St→Z3:=finish A_V111 S_V111 Tryz.f115.results.toList
noncomputable def wze (kX:T18) (a3:Y4):Z3:=kX ((ud 3 [W1 a3])++us 17)
noncomputable def wzc (kX:T18) (kO:T19):=exK wtb 0 (A_V111.shape 17) kX kO
theorem w2p (N kX kO):∀n,wcl N n (wzc kX kO)=wzh N (wze kX) n :=
 itE rfl fun m=>by kernel_rfl
noncomputable def wki (N:Nat):=(blockK 0 (sqK A_V111 N 17 500008 Tryz.f115 [1,1,1] wtb))
noncomputable def wzg (N:Nat) (st':St):Z3:=rn A_V111 N Tryz.f115 [1,1,1] st' wtb
theorem xe4 (N):wcl N N (wki N)=wzd N:=by
 rw[show wcl N N (wki N)=wcl N N (wzc (wzg N) fun j=>(wki N) (.exit j)) from(by funext _ _ _ _;exact jlo),w2p,show wze (wzg N)=wzf by kernel_rfl];rfl
theorem run_V111 (N x):runF A_V111 N Tryz.f115 S_V111 x=V111 N x.1:=(show _=(w6m (wcl N N (wki N)) x.1) by kernel_rfl).trans (by rw[xe4 N];rfl)
theorem ok_V111:OK 115 S_V111:=gdR (A:=A_V111) tc Tryz.func115 (jes trivial) (run_V111 big)
def xid (rec:T97) (k:T52) (a3:(List Bool)) (a9:Y3) (a10 a11:Int) (a15:Y4) (a16 a17:Int):Z3 :=
  cond (decide (a17<a16))
  ((atI a15 a17).bind fun xq5 =>
  cond (decide (0≤xq5))
  ((atI a3 xq5).bind fun _ =>
  (a3[xq5.toNat]?).bind fun xq6 =>
  rec (a3.set xq5.toNat true) a9 a10 a11 a15 a16 (IntKind.i64.wrap (a17+1)))
  (rec a3 a9 a10 a11 a15 a16 (IntKind.i64.wrap (a17+1))))
  (k a3 a9 a10 a11)
def wzn (rec:T52) (a3:(List Bool)) (a9:Y3) (a10 a11:Int):Z3 :=
  rec a3 a9 a10 (IntKind.i64.wrap (a11+1))
def wzo (L6:T97) (k:(List Bool)→Z3) (a3:(List Bool)) (a9:Y3) (a10 a11:Int):Z3 :=
  cond (decide (a11<a10))
  ((atI a9 a11).bind fun xq3 =>
  L6 a3 a9 a10 a11 xq3 (xq3.length:Int) 0)
  (k a3)
def wzm (a3:(List Bool)):Z3 :=
  (V111 big a3).bind fun rq4 =>
  some (rq4.1,(()))
def w6n (L3:T52) (terms_0:Y3):Z3 :=
  (mkI false 6).bind fun xq1=>(mkI false 6).bind fun xq2=>cond (decide (6≤6))
  (L3 xq2 terms_0 (terms_0.length:Int) 0)
  none
def wzs (N:Nat) (k:T52):=itN (fun r=>xid r k) fun _ _ _ _ _ _ _=>none
def wzk (N:Nat) (rec:T52) (k:(List Bool)→Z3):=wzs N (wzn rec) N
def wzr (N:Nat) (k:(List Bool)→Z3):=itN (fun r=>wzo (wzk N r k) k) fun _ _ _ _=>none
def wzj (N:Nat):=wzr N (wzm) N
def V112 (N:Nat) (terms_0:Y3):Z3:=w6n (wzj N) terms_0
def S_V112:Sig:=⟨Q0,[0],[],.unit,Q10,O7,fun x=>V112 big x.1⟩
def A_V112:Cfg:=mkCfg tab [(115,S_V111)] [(6,(dr 3 ([.as (.sl .bool) O7]++dr 5 [.as Q20 .i,B0,B0]))),(12,(dr 3 ([.as (.sl .bool) O7]++dr 5 ([.as Q20 .i,B0,B0]++dr 3 [B4,B0,B0])))),(25,(dr 3 [.as (.sl .bool) O7])),(23,(dr 3 ([.as (.sl .bool) O7]++dr 5 [.as Q20 .i,B0,B0])))]
noncomputable def xz (N n:Nat) (K:T31) (a3:(List Bool)) (a9:Y3) (a10 a11:Int):Z3:=itr A_V112 N 6 Tryz.f85 [1,1,0,1,0,0] n ((ud 3 ([.val (.sl .bool) O7 a3]++ud 5 [.val Q20 .i a9,W0 a10,W0 a11]))++us 18) K
noncomputable def wcm (N n:Nat) (K:T31) (a3:(List Bool)) (a9:Y3) (a10 a11:Int) (a15:Y4) (a16 a17:Int):Z3:=itr A_V112 N 12 Tryz.f85 [1,1,0,1,0,0,1,1,0,0,1,1,0,0] n ((ud 3 ([.val (.sl .bool) O7 a3]++ud 5 ([.val Q20 .i a9,W0 a10,W0 a11]++ud 3 [W4 a15,W0 a16,W0 a17])))++us 12) K
noncomputable def wmh:Ex→St→Z3:=finish A_V112 S_V112 Tryz.f85.results.toList
noncomputable def wkl (kX:T18) (a3:(List Bool)):Z3:=kX ((ud 3 [.val (.sl .bool) O7 a3])++us 26)
noncomputable def zx (kX:T18) (kO:T19):=exK wmh 0 (A_V112.shape 25) kX kO
noncomputable def wzl (kX:T18) (a3:(List Bool)) (a9:Y3) (a10 a11:Int):Z3:=kX ((ud 3 ([.val (.sl .bool) O7 a3]++ud 5 [.val Q20 .i a9,W0 a10,W0 a11]))++us 18)
noncomputable def wzi (kX:T18) (kO:T19):=exK wmh 2 (A_V112.shape 23) kX kO
theorem w2r (N kX kO):∀n,wcm N n (wzi kX kO)=wzs N (wzl kX) n :=
 itE rfl fun m=>by kernel_rfl
noncomputable def wkk (N m:Nat) (kX:T18) (kO:T19):=(blockK 2 (blockK 1 (sqK A_V112 N 23 500011 Tryz.f85 [1,1,0,1,0,0,1,1,1] (itK A_V112 N 6 Tryz.f85 [1,1,0,1,0,0] m (zx kX kO)))))
noncomputable def wzq (N m:Nat) (kX:T18) (kO:T19) (st':St):Z3:=rn A_V112 N Tryz.f85 [1,1,0,1,0,0,1,1,1] st' (itK A_V112 N 6 Tryz.f85 [1,1,0,1,0,0] m (zx kX kO))
theorem xe6 (N m kX kO) {r}(h:xz N m (zx kX kO)=r):wcm N N (wkk N m kX kO)=wzk N r (wkl kX):=by
 rw[show wcm N N (wkk N m kX kO)=wcm N N (wzi (wzq N m kX kO) fun j=>(wkk N m kX kO) (.exit j)) from(by funext _ _ _ _ _ _ _;exact jlo),w2r,show wzl (wzq N m kX kO)=wzn (xz N m (zx kX kO)) by kernel_rfl,h];rfl
theorem w2q (N kX kO):∀n,xz N n (zx kX kO)=wzr N (wkl kX) n :=
 itE rfl fun m=>(show _=wzo (wcm N N (wkk N m kX kO)) (wkl kX) by kernel_rfl).trans (by rw[xe6 N m kX kO rfl]<;>rfl)
noncomputable def wkj (N:Nat):=(blockK 0 (sqK A_V112 N 25 500012 Tryz.f85 [1,1,1] wmh))
noncomputable def wzp (N:Nat) (st':St):Z3:=rn A_V112 N Tryz.f85 [1,1,1] st' wmh
theorem xe5 (N):xz N N (wkj N)=wzj N:=by
 rw[show xz N N (wkj N)=xz N N (zx (wzp N) fun j=>(wkj N) (.exit j)) from(by funext _ _ _ _;exact jlo),w2q,show wkl (wzp N)=wzm by kernel_rfl];rfl
theorem run_V112 (N x):runF A_V112 N Tryz.f85 S_V112 x=V112 N x.1:=(show _=(w6n (xz N N (wkj N)) x.1) by kernel_rfl).trans (by rw[xe5 N];rfl)
theorem ok_V112:OK 85 S_V112:=gdR (A:=A_V112) tc Tryz.func85 (jes ⟨ok_V111,trivial⟩) (run_V112 big)
def xie (rec:Int→Int→Y4→Int→Z3) (k:T44) (a0 a2:Int) (a7:Y4) (a8:Int):Z3 :=
  cond (decide (0≤a8))
  ((remI a0 a2).bind fun xq3 =>
  (atI a7 a8).bind fun _ =>
  (a7[a8.toNat]?).bind fun xq4 =>
  (quoI IntKind.i64 a0 a2).bind fun xq5 =>
  rec xq5 a2 (a7.set a8.toNat xq3) (IntKind.i64.wrap (a8-1)))
  (k a7)
def wzw (a7:Y4):Z3 :=
  some (a7,(()))
def w6o (L3:Int→Int→Y4→Int→Z3) (i_0 k_1 n_2:Int):Z3 :=
  (mkI (0:Int) k_1).bind fun xq1=>(mkI (0:Int) k_1).bind fun xq2=>cond (decide (k_1≤k_1))
  (L3 i_0 n_2 xq2 (IntKind.i64.wrap (k_1-1)))
  none
def wzy (N:Nat) (k:T44):=itN (fun r=>xie r k) fun _ _ _ _=>none
def wzu (N:Nat):=wzy N (wzw) N
def V113 (N:Nat) (i_0 k_1 n_2:Int):Z3:=w6o (wzu N) i_0 k_1 n_2
def S_V113:Sig:=⟨(.pair I Q11),[0,0,0],[],.unit,Q10,O7,fun x=>V113 big x.1 x.2.1 x.2.2.1⟩
def A_V113:Cfg:=mkCfg tab [] [(6,([B0,D0,B0]++dr 4 [B1,B0])),(15,(dr 7 [B1]))]
noncomputable def wcn (N n:Nat) (K:T31) (a0 a2:Int) (a7:Y4) (a8:Int):Z3:=itr A_V113 N 6 Tryz.f87 [1,1,0,1,0,0] n (([W0 a0,.u,W0 a2]++ud 4 [W1 a7,W0 a8])++us 18) K
noncomputable def wtc:Ex→St→Z3:=finish A_V113 S_V113 Tryz.f87.results.toList
noncomputable def wzv (kX:T18) (a7:Y4):Z3:=kX ((ud 7 [W1 a7])++us 19)
noncomputable def wzt (kX:T18) (kO:T19):=exK wtc 0 (A_V113.shape 15) kX kO
theorem w2s (N kX kO):∀n,wcn N n (wzt kX kO)=wzy N (wzv kX) n :=
 itE rfl fun m=>by kernel_rfl
noncomputable def wkm (N:Nat):=(blockK 0 (sqK A_V113 N 15 500007 Tryz.f87 [1,1,1] wtc))
noncomputable def wzx (N:Nat) (st':St):Z3:=rn A_V113 N Tryz.f87 [1,1,1] st' wtc
theorem xe7 (N):wcn N N (wkm N)=wzu N:=by
 rw[show wcn N N (wkm N)=wcn N N (wzt (wzx N) fun j=>(wkm N) (.exit j)) from(by funext _ _ _ _;exact jlo),w2s,show wzv (wzx N)=wzw by kernel_rfl];rfl
theorem run_V113 (N x):runF A_V113 N Tryz.f87 S_V113 x=V113 N x.1 x.2.1 x.2.2.1:=(show _=(w6o (wcn N N (wkm N)) x.1 x.2.1 x.2.2.1) by kernel_rfl).trans (by rw[xe7 N];rfl)
theorem ok_V113:OK 87 S_V113:=gdR (A:=A_V113) tc Tryz.func87 (jes trivial) (run_V113 big)
def ww (rec:T41) (k:Y4→Y4→Y7→Y4→Int→Y6→Int→Z4) (a1 a2:Y4) (a3:Y7) (a7:Y4) (a8:Int) (a10:Y6) (a11 a12:Int):Z4 :=
  cond (decide (a12<a10.1))
  ((atI a7 (IntKind.i64.wrap ((IntKind.i64.wrap ((a7.length:Int)-1))-a12))).bind fun _ =>
  (a7[(IntKind.i64.wrap ((IntKind.i64.wrap ((a7.length:Int)-1))-a12)).toNat]?).bind fun xq8 =>
  rec a1 a2 a3 a7 a8 a10 (IntKind.i64.wrap ((IntKind.i64.wrap (a11*a3.1))+xq8)) (IntKind.i64.wrap (a12+1)))
  (k a1 a2 a3 a7 a8 a10 a11)
def xc (rec:T46) (a1 a2:Y4) (a3:Y7) (a7:Y4) (a8:Int) (a10:Y6) (a11:Int):Z4 :=
  cond (decide (0≤(IntKind.i64.wrap ((a7.length:Int)-a10.1))∧(IntKind.i64.wrap ((a7.length:Int)-a10.1))≤(a7.length:Int)))
  ((atI a10.2.1 a11).bind fun xq9 =>
  (appI (a7.take ((IntKind.i64.wrap ((a7.length:Int)-a10.1)).toNat)) [xq9]).bind fun xq10 =>
  rec a1 a2 a3 xq10 (IntKind.i64.wrap (a8-1)))
  none
def w7 (rec:T46) (L11:T41) (k:Y4→Z4) (a1 a2:Y4) (a3:Y7) (a7:Y4) (a8:Int):Z4 :=
  cond (decide (0≤a8))
  ((atI a1 a8).bind fun xq3 =>
  cond (decide (0≤xq3))
  ((atI a2 xq3).bind fun xq4 =>
  (appI a7 [xq4]).bind fun xq5 =>
  rec a1 a2 a3 xq5 (IntKind.i64.wrap (a8-1)))
  ((atI a3.2.1 (IntKind.i64.wrap ((-1:Int)-xq3))).bind fun xq6 =>
  L11 a1 a2 a3 a7 a8 xq6 0 0))
  (k a7)
def x7 (a7:Y4):Z4 :=
  (atI a7 0).bind fun _ =>
  (a7[(0:Int).toNat]?).bind fun xq7 =>
  some (xq7,(()))
def wgz (L3:T46) (a_0:Y7) (t_1 values_2:Y4):Z4 :=
  (mkI (0:Int) (t_1.length:Int)).bind fun xq1=>(mkI (0:Int) 0).bind fun xq2=>cond (decide (0≤(t_1.length:Int)))
  (L3 t_1 values_2 a_0 xq2 (IntKind.i64.wrap ((t_1.length:Int)-1)))
  none
def wl0 (N:Nat) (k:Y4→Y4→Y7→Y4→Int→Y6→Int→Z4):=itN (fun r=>ww r k) fun _ _ _ _ _ _ _ _=>none
def x6 (N:Nat) (rec:T46) (k:Y4→Z4):=wl0 N (xc rec) N
def wqr (N:Nat) (k:Y4→Z4):=itN (fun r=>w7 r (x6 N r k) k) fun _ _ _ _ _=>none
def wqq (N:Nat):=wqr N (x7) N
def V114 (N:Nat) (a_0:Y7) (t_1 values_2:Y4):Z4:=wgz (wqq N) a_0 t_1 values_2
def S_V114:Sig:=⟨(.pair Q1 Q16),[0,0,0],[],.unit,I,.i,fun x=>V114 big x.1 x.2.1 x.2.2.1⟩
def A_V114:Cfg:=winCfg (mkCfg tab [] [(6,([D0,B4,B4,B9]++dr 3 [B1,B0])),(22,([D0,B4,B4,B9]++dr 3 [B1,B0,D0,.as Q15 O7,B0,B0])),(31,(dr 7 [B1])),(29,([D0,B4,B4,B9]++dr 3 [B1,B0,D0,.as Q15 O7,B0]))])
noncomputable def xf (N n:Nat) (K:T51) (a1 a2:Y4) (a3:Y7) (a7:Y4) (a8:Int):Z4:=itr A_V114 N 6 Tryz.f88 [1,1,0,1,0,0] n (([.u,W4 a1,W4 a2,W8 a3]++ud 3 [W1 a7,W0 a8])++us 69) K
noncomputable def waq (N n:Nat) (K:T51) (a1 a2:Y4) (a3:Y7) (a7:Y4) (a8:Int) (a10:Y6) (a11 a12:Int):Z4:=itr A_V114 N 22 Tryz.f88 [1,1,0,1,0,0,1,0,0,1,1,1,1,0,1,0,0] n (([.u,W4 a1,W4 a2,W8 a3]++ud 3 [W1 a7,W0 a8,.u,.val Q15 O7 a10,W0 a11,W0 a12])++us 65) K
noncomputable def wmi:Ex→St→Z4:=finish A_V114 S_V114 Tryz.f88.results.toList
noncomputable def wko (kX:T22) (a7:Y4):Z4:=kX ((ud 7 [W1 a7])++us 70)
noncomputable def x5 (kX:T22) (kO:T12):=exK wmi 0 (A_V114.shape 31) kX kO
noncomputable def wte (kX:T22) (a1 a2:Y4) (a3:Y7) (a7:Y4) (a8:Int) (a10:Y6) (a11:Int):Z4:=kX (([.u,W4 a1,W4 a2,W8 a3]++ud 3 [W1 a7,W0 a8,.u,.val Q15 O7 a10,W0 a11])++us 66)
noncomputable def wtd (kX:T22) (kO:T12):=exK wmi 2 (A_V114.shape 29) kX kO
theorem wyb (N kX kO):∀n,waq N n (wtd kX kO)=wl0 N (wte kX) n :=
 itE rfl fun m=>by kernel_rfl
noncomputable def wgi (N m:Nat) (kX:T22) (kO:T12):=(blockK 2 (sqK A_V114 N 29 500014 Tryz.f88 [1,1,0,1,0,0,1,0,0,1,1,1,1,1] (blockK 1 (sqK A_V114 N 9 500004 Tryz.f88 [1,1,0,1,0,0,1,1] (itK A_V114 N 6 Tryz.f88 [1,1,0,1,0,0] m (x5 kX kO))))))
noncomputable def wtg (N m:Nat) (kX:T22) (kO:T12) (st':St):Z4:=rn A_V114 N Tryz.f88 [1,1,0,1,0,0,1,0,0,1,1,1,1,1] st' (blockK 1 (sqK A_V114 N 9 500004 Tryz.f88 [1,1,0,1,0,0,1,1] (itK A_V114 N 6 Tryz.f88 [1,1,0,1,0,0] m (x5 kX kO))))
theorem w6p (N m kX kO) {r}(h:xf N m (x5 kX kO)=r):waq N N (wgi N m kX kO)=x6 N r (wko kX):=by
 rw[show waq N N (wgi N m kX kO)=waq N N (wtd (wtg N m kX kO) fun j=>(wgi N m kX kO) (.exit j)) from(by funext _ _ _ _ _ _ _ _;exact jlo),wyb,show wte (wtg N m kX kO)=xc (xf N m (x5 kX kO)) by kernel_rfl,h];rfl
theorem w2t (N kX kO):∀n,xf N n (x5 kX kO)=wqr N (wko kX) n :=
 itE rfl fun m=>(show _=w7 (xf N m (x5 kX kO)) (waq N N (wgi N m kX kO)) (wko kX) by kernel_rfl).trans (by rw[w6p N m kX kO rfl]<;>rfl)
noncomputable def wkn (N:Nat):=(blockK 0 (sqK A_V114 N 31 500015 Tryz.f88 [1,1,1] wmi))
noncomputable def wzz (N:Nat) (st':St):Z4:=rn A_V114 N Tryz.f88 [1,1,1] st' wmi
theorem xe8 (N):xf N N (wkn N)=wqq N:=by
 rw[show xf N N (wkn N)=xf N N (x5 (wzz N) fun j=>(wkn N) (.exit j)) from(by funext _ _ _ _ _;exact jlo),w2t,show wko (wzz N)=x7 by kernel_rfl];rfl
theorem run_V114 (N x):runF A_V114 N Tryz.f88 S_V114 x=V114 N x.1 x.2.1 x.2.2.1:=(show _=(wgz (xf N N (wkn N)) x.1 x.2.1 x.2.2.1) by kernel_rfl).trans (by rw[xe8 N];rfl)
theorem fn_V114:FnOk Tryz.prog 88:=⟨_,Tryz.func88,by kernel_rfl,by kernel_rfl⟩
theorem good_V114:Gx.Good Tryz.prog 88 S_V114:=vc Tryz.func88 (of_decide_eq_true (by kernel_rfl)) fun x r h=>⟨A_V114,big,winCfg_ok (vd tabOk),winCfg_sig (jes (show SigsOk Tryz.prog [] from trivial)),(run_V114 big x).trans h⟩
def wy (rec:T24) (k:T9) (a2:Y7) (a3:Z20) (a6:Y4) (a7:Int) (a8:Y4) (a9:Int) (a47:Y4) (a48 a49:Int):Z12 :=
  cond (decide (a49<a48))
  ((atI a47 a49).bind fun _ =>
  (a47[a49.toNat]?).bind fun xq7 =>
  (atI a6 a49).bind fun _ =>
  (a6[a49.toNat]?).bind fun xq8 =>
  (atI a8 xq8).bind fun _ =>
  (a8[xq8.toNat]?).bind fun xq9 =>
  rec a2 a3 a6 a7 (a8.set xq8.toNat xq7) a9 a47 a48 (IntKind.i64.wrap (a49+1)))
  (k a2 a3 a6 a7 a8 a9)
def xd (rec:T9) (a2:Y7) (a3:Z20) (a6:Y4) (a7:Int) (a8:Y4) (a9:Int):Z12 :=
  (V114 big a2 a3.1 a8).bind fun rq10 =>
  (V114 big a2 a3.2.1 a8).bind fun rq11 =>
  cond (decide (rq10.1≠rq11.1))
  ((neL a8).bind fun xq12 =>
  some (((some xq12),true,()),(())))
  (rec a2 a3 a6 a7 a8 (IntKind.i64.wrap (a9+1)))
def xg (L12:T24) (k:Z12) (a2:Y7) (a3:Z20) (a6:Y4) (a7:Int) (a8:Y4) (a9:Int):Z12 :=
  cond (decide (a9<a7))
  ((V113 big a9 (a6.length:Int) a2.1).bind fun rq6 =>
  L12 a2 a3 a6 a7 a8 a9 rq6.1 (rq6.1.length:Int) 0)
  (k)
def w8:Z12 :=
  some ((none,true,()),(()))
def wmj (L9:T9) (a_0:Y7) (e_1:Z20):Z12 :=
  (V112 big [e_1.1,e_1.2.1]).bind fun rq1 =>
  (V98 big a_0.1 (rq1.1.length:Int)).bind fun rq2 =>
  cond (decide (5000<rq2.1))
  (some ((none,false,()),(())))
  (cond (decide (0<(rq1.1.length:Int)))
  ((atI rq1.1 (IntKind.i64.wrap ((rq1.1.length:Int)-1))).bind fun _ =>
  (rq1.1[(IntKind.i64.wrap ((rq1.1.length:Int)-1)).toNat]?).bind fun xq3 =>
  (mkI (0:Int) (IntKind.i64.wrap (xq3+1))).bind fun xq4=>(mkI (0:Int) (IntKind.i64.wrap (xq3+1))).bind fun xq5=>cond (decide ((IntKind.i64.wrap (xq3+1))≤(IntKind.i64.wrap (xq3+1))))
  (L9 a_0 e_1 rq1.1 rq2.1 xq5 0)
  none)
  (L9 a_0 e_1 rq1.1 rq2.1 [] 0))
def wl1 (N:Nat) (k:T9):=itN (fun r=>wy r k) fun _ _ _ _ _ _ _ _ _=>none
def war (N:Nat) (rec:T9) (k:Z12):=wl1 N (xd rec) N
def wqu (N:Nat) (k:Z12):=itN (fun r=>xg (war N r k) k) fun _ _ _ _ _ _=>none
def wqt (N:Nat):=wqu N (w8) N
def V115 (N:Nat) (a_0:Y7) (e_1:Z20):Z12:=wmj (wqt N) a_0 e_1
def S_V115:Sig:=⟨(.pair Q1 (.pair Q16 .unit)),[0,0],[],.unit,(.tup (.pair (.ns I) Q18)),.i,fun x=>V115 big x.1 x.2.1⟩
def A_V115:Cfg:=mkCfg tab [(85,S_V112),(86,S_V98),(87,S_V113),(88,S_V114)] [(18,[D0,D0,B9,.as (.ptr Q16) O7,D0,D0,B1,B0,B1,B0]),(24,([D0,D0,B9,.as (.ptr Q16) O7,D0,D0,B1,B0,B1,B0]++dr 37 [B1,B0,B0])),(37,[]),(33,[D0,D0,B9,.as (.ptr Q16) O7,D0,D0,B1,B0,B1,B0])]
noncomputable def x8 (N n:Nat) (K:Ex→St→Z12) (a2:Y7) (a3:Z20) (a6:Y4) (a7:Int) (a8:Y4) (a9:Int):Z12:=itr A_V115 N 18 Tryz.f51 [1,1,1,1,1,1,0,1,0,0] n ([.u,.u,W8 a2,.val (.ptr Q16) O7 a3,.u,.u,W1 a6,W0 a7,W1 a8,W0 a9]++us 64) K
noncomputable def was (N n:Nat) (K:Ex→St→Z12) (a2:Y7) (a3:Z20) (a6:Y4) (a7:Int) (a8:Y4) (a9:Int) (a47:Y4) (a48 a49:Int):Z12:=itr A_V115 N 24 Tryz.f51 [1,1,1,1,1,1,0,1,0,0,1,0,0,0,1,0,0] n (([.u,.u,W8 a2,.val (.ptr Q16) O7 a3,.u,.u,W1 a6,W0 a7,W1 a8,W0 a9]++ud 37 [W1 a47,W0 a48,W0 a49])++us 24) K
noncomputable def wmk:Ex→St→Z12:=finish A_V115 S_V115 Tryz.f51.results.toList
noncomputable def wkq (kX:St→Z12):Z12:=kX ([]++us 74)
noncomputable def zy (kX:St→Z12) (kO:Nat→St→Z12):=exK wmk 0 (A_V115.shape 37) kX kO
noncomputable def wti (kX:St→Z12) (a2:Y7) (a3:Z20) (a6:Y4) (a7:Int) (a8:Y4) (a9:Int):Z12:=kX ([.u,.u,W8 a2,.val (.ptr Q16) O7 a3,.u,.u,W1 a6,W0 a7,W1 a8,W0 a9]++us 64)
noncomputable def wth (kX:St→Z12) (kO:Nat→St→Z12):=exK wmk 2 (A_V115.shape 33) kX kO
theorem wyc (N kX kO):∀n,was N n (wth kX kO)=wl1 N (wti kX) n :=
 itE rfl fun m=>by kernel_rfl
noncomputable def wgj (N m:Nat) (kX:St→Z12) (kO:Nat→St→Z12):=(blockK 2 (sqK A_V115 N 33 500016 Tryz.f51 [1,1,1,1,1,1,0,1,0,0,1,0,0,1] (blockK 1 (sqK A_V115 N 21 500010 Tryz.f51 [1,1,1,1,1,1,0,1,0,0,1,1] (itK A_V115 N 18 Tryz.f51 [1,1,1,1,1,1,0,1,0,0] m (zy kX kO))))))
noncomputable def wtk (N m:Nat) (kX:St→Z12) (kO:Nat→St→Z12) (st':St):Z12:=rn A_V115 N Tryz.f51 [1,1,1,1,1,1,0,1,0,0,1,0,0,1] st' (blockK 1 (sqK A_V115 N 21 500010 Tryz.f51 [1,1,1,1,1,1,0,1,0,0,1,1] (itK A_V115 N 18 Tryz.f51 [1,1,1,1,1,1,0,1,0,0] m (zy kX kO))))
theorem w6q (N m kX kO) {r}(h:x8 N m (zy kX kO)=r):was N N (wgj N m kX kO)=war N r (wkq kX):=by
 rw[show was N N (wgj N m kX kO)=was N N (wth (wtk N m kX kO) fun j=>(wgj N m kX kO) (.exit j)) from(by funext _ _ _ _ _ _ _ _ _;exact jlo),wyc,show wti (wtk N m kX kO)=xd (x8 N m (zy kX kO)) by kernel_rfl,h];rfl
theorem w2u (N kX kO):∀n,x8 N n (zy kX kO)=wqu N (wkq kX) n :=
 itE rfl fun m=>(show _=xg (was N N (wgj N m kX kO)) (wkq kX) by kernel_rfl).trans (by rw[w6q N m kX kO rfl]<;>rfl)
noncomputable def wkp (N:Nat):=(blockK 0 (sqK A_V115 N 37 500018 Tryz.f51 [1,1,1,1,1,1,1] wmk))
noncomputable def wz1 (N:Nat) (st':St):Z12:=rn A_V115 N Tryz.f51 [1,1,1,1,1,1,1] st' wmk
theorem xe9 (N):x8 N N (wkp N)=wqt N:=by
 rw[show x8 N N (wkp N)=x8 N N (zy (wz1 N) fun j=>(wkp N) (.exit j)) from(by funext _ _ _ _ _ _;exact jlo),w2u,show wkq (wz1 N)=w8 by kernel_rfl];rfl
theorem run_V115 (N x):runF A_V115 N Tryz.f51 S_V115 x=V115 N x.1 x.2.1:=(show _=(wmj (x8 N N (wkp N)) x.1 x.2.1) by kernel_rfl).trans (by rw[xe9 N];rfl)
theorem ok_V115:OK 51 S_V115:=gdR (A:=A_V115) tc Tryz.func51 (jes ⟨ok_V112,ok_V98,ok_V113,⟨fn_V114,good_V114⟩,trivial⟩) (run_V115 big)
def wtl (a_0:Y7) (e_1:Z20):Option ((Bool×Z0)×Unit) :=
  (V100 big a_0).bind fun rq1 =>
  cond (!rq1.1)
  (some ((false,false,()),(())))
  ((V110 a_0 e_1).bind fun rq2 =>
  cond (!rq2.1)
  (some ((false,false,()),(())))
  ((V115 big a_0 e_1).bind fun rq3 =>
  cond rq3.1.2.1
  (some ((rq3.1.1.isNone,rq3.1.2.1,()),(())))
  (some ((false,rq3.1.2.1,()),(())))))
def V116 (a_0:Y7) (e_1:Z20):Option ((Bool×Z0)×Unit):=wtl a_0 e_1
def S_V116:Sig:=⟨(.pair Q1 (.pair Q16 .unit)),[0,0],[],.unit,(.tup (.pair .bool Q18)),.i,fun x=>V116 x.1 x.2.1⟩
def A_V116:Cfg:=mkCfg tab [(44,S_V100),(50,S_V110),(51,S_V115)] []
theorem run_V116 (N x):runF A_V116 N Tryz.f21 S_V116 x=V116 x.1 x.2.1:=by kernel_rfl
theorem ok_V116:OK 21 S_V116:=gdR (A:=A_V116) tc Tryz.func21 (jes ⟨ok_V100,ok_V110,ok_V115,trivial⟩) (run_V116 big)
def xif (rec:(List UInt8)→Y6→Y6→Int→Z17) (k:T109) (a0:(List UInt8)) (a2 a3:Y6) (a4:Int):Z17 :=
  cond (decide (a4<(a0.length:Int)))
  ((atI a0 a4).bind fun xq1 =>
  (appI a3.2.1 [IntKind.i64.wrap (IntKind.u8.wrap ((xq1.toNat:Int)-48))]).bind fun xq2 =>
  rec a0 a2 ((a3.1,((),a3.2.2)).1,(xq2,((a3.1,((),a3.2.2)).2).2)) (IntKind.i64.wrap (a4+1)))
  (k a2 a3)
def wz5 (a2 a3:Y6):Z17 :=
  some (a3,(()))
def w6r (L3:(List UInt8)→Y6→Y6→Int→Z17) (s_0:(List UInt8)):Z17 :=
  L3 s_0 (0,(([]:Y4),())) (2,(([]:Y4),())) 0
def wz7 (N:Nat) (k:T109):=itN (fun r=>xif r k) fun _ _ _ _=>none
def wz3 (N:Nat):=wz7 N (wz5) N
def V117 (N:Nat) (s_0:(List UInt8)):Z17:=w6r (wz3 N) s_0
def S_V117:Sig:=⟨(.pair .str .unit),[0],[],.unit,Q6,(.p .i (.p O7 .i)),fun x=>V117 big x.1⟩
def A_V117:Cfg:=mkCfg tab [] [(6,[.as .str .i,D0,B6,B6,B0]),(13,[D0,D0,B6,B6])]
noncomputable def wco (N n:Nat) (K:Ex→St→Z17) (a0:(List UInt8)) (a2 a3:Y6) (a4:Int):Z17:=itr A_V117 N 6 Tryz.f119 [1,1,0,1,0,0] n ([.val .str .i a0,.u,W6 a2,W6 a3,W0 a4]++us 18) K
noncomputable def wtm:Ex→St→Z17:=finish A_V117 S_V117 Tryz.f119.results.toList
noncomputable def wz4 (kX:St→Z17) (a2 a3:Y6):Z17:=kX ([.u,.u,W6 a2,W6 a3]++us 19)
noncomputable def wz2 (kX:St→Z17) (kO:Nat→St→Z17):=exK wtm 0 (A_V117.shape 13) kX kO
theorem w2v (N kX kO):∀n,wco N n (wz2 kX kO)=wz7 N (wz4 kX) n :=
 itE rfl fun m=>by kernel_rfl
noncomputable def wkr (N:Nat):=(blockK 0 (sqK A_V117 N 13 500006 Tryz.f119 [1,1,1] wtm))
noncomputable def wz6 (N:Nat) (st':St):Z17:=rn A_V117 N Tryz.f119 [1,1,1] st' wtm
theorem xfa (N):wco N N (wkr N)=wz3 N:=by
 rw[show wco N N (wkr N)=wco N N (wz2 (wz6 N) fun j=>(wkr N) (.exit j)) from(by funext _ _ _ _;exact jlo),w2v,show wz4 (wz6 N)=wz5 by kernel_rfl];rfl
theorem run_V117 (N x):runF A_V117 N Tryz.f119 S_V117 x=V117 N x.1:=(show _=(w6r (wco N N (wkr N)) x.1) by kernel_rfl).trans (by rw[xfa N];rfl)
theorem ok_V117:OK 119 S_V117:=gdR (A:=A_V117) tc Tryz.func119 (jes trivial) (run_V117 big)
end Go.Proofs.YtgmapdlhkfajoaaGreat
