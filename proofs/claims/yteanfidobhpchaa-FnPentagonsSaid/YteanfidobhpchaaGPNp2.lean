import Derived.Test.YteanfidobhpchaaUPN
set_option maxRecDepth 100000
set_option linter.unusedVariables false
namespace Go.Proofs.Yteanfidobhpchaa
open Go Go.Gx Go.Proofs
def vwd (rec k:Z15→Y2→Y2→Z5) (c0:Z15) (t2 p9:Y2):Z5 :=
  (V2 c0 (2:Int)).bind fun rq53 =>
  cond (decide ((p9.1.length:Int)<(IntKind.i64.wrap ((10:Int)+rq53.1))))
  ((appI p9.1 [[(p9.1.length:Int)]]).bind fun xq54 =>
  rec rq53.2.1 t2 (xq54,((),p9.2).2))
  (k rq53.2.1 t2 p9)
def vqv (c0:Z15) (t2 p9:Y2):Z5 :=
  some (p9,(c0,()))
def vis (rec:Z15→Y2→Int→Z14→Y4→Int→Z5) (k:Z15→Y2→Int→Z14→Z5) (c0:Z15) (t2:Y2) (n3:Int) (pairs4:Z14) (names7:Y4) (i8:Int):Z5 :=
  cond (decide (i8<(pairs4.length:Int)))
  ((atI pairs4 i8).bind fun _ =>
  (pairs4[i8.toNat]?).bind fun xq33 =>
  (pairs4[i8.toNat]?).bind fun xq34 =>
  (atI names7 xq34.1).bind fun _ =>
  (names7[xq34.1.toNat]?).bind fun xq35 =>
  (atI pairs4 i8).bind fun _ =>
  (pairs4[i8.toNat]?).bind fun xq36 =>
  (pairs4[i8.toNat]?).bind fun xq37 =>
  (atI names7 xq37.2.1).bind fun _ =>
  (names7[xq37.2.1.toNat]?).bind fun xq38 =>
  (atI pairs4 i8).bind fun _ =>
  (pairs4[i8.toNat]?).bind fun xq39 =>
  rec c0 t2 n3 (pairs4.set i8.toNat (xq35,(xq38,()))) names7 (IntKind.i64.wrap (i8+1)))
  (k c0 t2 n3 pairs4)
def vfg (L29:Z15→Y2→Y2→Z5) (c0:Z15) (t2:Y2) (n3:Int) (pairs4:Z14):Z5 :=
  (V9 big n3 pairs4).bind fun rq40 =>
  cond (decide (n3=0))
  (some (rq40.1,(c0,())))
  ((V3 c0 (16:Int)).bind fun rq41 =>
  cond (!rq41.1)
  (some (rq40.1,(rq41.2.1,())))
  ((V2 rq41.2.1 n3).bind fun rq42 =>
  (V2 rq42.2.1 (4:Int)).bind fun rq43 =>
  cond (decide (rq43.1=0))
  ((atI rq40.1.1 rq42.1).bind fun _ =>
  (rq40.1.1[rq42.1.toNat]?).bind fun xq44 =>
  (slI xq44 (1:Int) xq44.length).bind fun xq45 =>
  (atI rq40.1.1 rq42.1).bind fun _ =>
  (rq40.1.1[rq42.1.toNat]?).bind fun xq46 =>
  some ((rq40.1.1.set rq42.1.toNat xq45,rq40.1.2),(rq43.2.1,())))
  (cond (decide (rq43.1=1))
  ((atI rq40.1.1 rq42.1).bind fun xq47 =>
  (appI xq47 [n3]).bind fun xq48 =>
  some ((rq40.1.1.set (rq42.1).toNat xq48,rq40.1.2),(rq43.2.1,())))
  (cond (decide (rq43.1=2))
  ((atI rq40.1.1 rq42.1).bind fun _ =>
  (rq40.1.1[rq42.1.toNat]?).bind fun xq49 =>
  (V2 rq43.2.1 n3).bind fun rq50 =>
  (V10 big xq49 rq50.1).bind fun rq51 =>
  (atI rq40.1.1 rq42.1).bind fun _ =>
  (rq40.1.1[rq42.1.toNat]?).bind fun xq52 =>
  some ((rq40.1.1.set rq42.1.toNat rq51.1,rq40.1.2),(rq50.2.1,())))
  (cond (decide (rq43.1=3))
  (L29 rq43.2.1 t2 rq40.1)
  (some (rq40.1,(rq43.2.1,()))))))))
def vql (rec:Z15→Y2→Int→Z14→Int→Int→Z5) (k:Z15→Y2→Int→Z14→Int→Z5) (c0:Z15) (t2:Y2) (n3:Int) (pairs4:Z14) (x5 y6:Int):Z5 :=
  cond (decide (y6<n3))
  ((V3 c0 (3:Int)).bind fun rq31 =>
  cond rq31.1
  ((appI pairs4 [(x5,(y6,()))]).bind fun xq32 =>
  rec rq31.2.1 t2 n3 xq32 x5 (IntKind.i64.wrap (y6+1)))
  (rec rq31.2.1 t2 n3 pairs4 x5 (IntKind.i64.wrap (y6+1))))
  (k c0 t2 n3 pairs4 x5)
def vni (rec:Z15→Y2→Int→Z14→Int→Z5) (c0:Z15) (t2:Y2) (n3:Int) (pairs4:Z14) (x5:Int):Z5 :=
  rec c0 t2 n3 pairs4 (IntKind.i64.wrap (x5+1))
def voy (L7:Z15→Y2→Int→Z14→Int→Int→Z5) (k:Z15→Y2→Int→Z14→Z5) (c0:Z15) (t2:Y2) (n3:Int) (pairs4:Z14) (x5:Int):Z5 :=
  cond (decide (x5<n3))
  (L7 c0 t2 n3 pairs4 x5 (IntKind.i64.wrap (x5+1)))
  (k c0 t2 n3 pairs4)
def vgr (L14:Z15→Y2→Int→Z14→Y4→Int→Z5) (L29:Z15→Y2→Y2→Z5) (c0:Z15) (t2:Y2) (n3:Int) (pairs4:Z14):Z5 :=
  (V5 big c0 n3).bind fun rq2 =>
  (V8 big rq2.1 n3).bind fun rq3 =>
  cond rq3.1
  ((V3 rq2.2.1 (2:Int)).bind fun rq4 =>
  cond rq4.1
  (L14 rq4.2.1 t2 n3 pairs4 rq2.1 (0:Int))
  ((V9 big n3 pairs4).bind fun rq5 =>
  cond (decide (n3=0))
  (some (rq5.1,(rq4.2.1,())))
  ((V3 rq4.2.1 (16:Int)).bind fun rq6 =>
  cond (!rq6.1)
  (some (rq5.1,(rq6.2.1,())))
  ((V2 rq6.2.1 n3).bind fun rq7 =>
  (V2 rq7.2.1 (4:Int)).bind fun rq8 =>
  cond (decide (rq8.1=0))
  ((atI rq5.1.1 rq7.1).bind fun _ =>
  (rq5.1.1[rq7.1.toNat]?).bind fun xq9 =>
  (slI xq9 (1:Int) xq9.length).bind fun xq10 =>
  (atI rq5.1.1 rq7.1).bind fun _ =>
  (rq5.1.1[rq7.1.toNat]?).bind fun xq11 =>
  some ((rq5.1.1.set rq7.1.toNat xq10,rq5.1.2),(rq8.2.1,())))
  (cond (decide (rq8.1=1))
  ((atI rq5.1.1 rq7.1).bind fun xq12 =>
  (appI xq12 [n3]).bind fun xq13 =>
  some ((rq5.1.1.set (rq7.1).toNat xq13,rq5.1.2),(rq8.2.1,())))
  (cond (decide (rq8.1=2))
  ((atI rq5.1.1 rq7.1).bind fun _ =>
  (rq5.1.1[rq7.1.toNat]?).bind fun xq14 =>
  (V2 rq8.2.1 n3).bind fun rq15 =>
  (V10 big xq14 rq15.1).bind fun rq16 =>
  (atI rq5.1.1 rq7.1).bind fun _ =>
  (rq5.1.1[rq7.1.toNat]?).bind fun xq17 =>
  some ((rq5.1.1.set rq7.1.toNat rq16.1,rq5.1.2),(rq15.2.1,())))
  (cond (decide (rq8.1=3))
  (L29 rq8.2.1 t2 rq5.1)
  (some (rq5.1,(rq8.2.1,()))))))))))
  ((V9 big n3 pairs4).bind fun rq18 =>
  cond (decide (n3=0))
  (some (rq18.1,(rq2.2.1,())))
  ((V3 rq2.2.1 (16:Int)).bind fun rq19 =>
  cond (!rq19.1)
  (some (rq18.1,(rq19.2.1,())))
  ((V2 rq19.2.1 n3).bind fun rq20 =>
  (V2 rq20.2.1 (4:Int)).bind fun rq21 =>
  cond (decide (rq21.1=0))
  ((atI rq18.1.1 rq20.1).bind fun _ =>
  (rq18.1.1[rq20.1.toNat]?).bind fun xq22 =>
  (slI xq22 (1:Int) xq22.length).bind fun xq23 =>
  (atI rq18.1.1 rq20.1).bind fun _ =>
  (rq18.1.1[rq20.1.toNat]?).bind fun xq24 =>
  some ((rq18.1.1.set rq20.1.toNat xq23,rq18.1.2),(rq21.2.1,())))
  (cond (decide (rq21.1=1))
  ((atI rq18.1.1 rq20.1).bind fun xq25 =>
  (appI xq25 [n3]).bind fun xq26 =>
  some ((rq18.1.1.set (rq20.1).toNat xq26,rq18.1.2),(rq21.2.1,())))
  (cond (decide (rq21.1=2))
  ((atI rq18.1.1 rq20.1).bind fun _ =>
  (rq18.1.1[rq20.1.toNat]?).bind fun xq27 =>
  (V2 rq21.2.1 n3).bind fun rq28 =>
  (V10 big xq27 rq28.1).bind fun rq29 =>
  (atI rq18.1.1 rq20.1).bind fun _ =>
  (rq18.1.1[rq20.1.toNat]?).bind fun xq30 =>
  some ((rq18.1.1.set rq20.1.toNat rq29.1,rq18.1.2),(rq28.2.1,())))
  (cond (decide (rq21.1=3))
  (L29 rq21.2.1 t2 rq18.1)
  (some (rq18.1,(rq21.2.1,())))))))))
def vbde (L4:Z15→Y2→Int→Z14→Int→Z5) (c_0:Z15):Z5 :=
  (V4 c_0 [(0:Int),(1:Int),(2:Int),(3:Int),(4:Int),(4:Int),(5:Int),(5:Int),(6:Int),(7:Int)]).bind fun rq1 =>
  L4 rq1.2.1 (([]:Y3),()) rq1.1 [] (0:Int)
def vagi (N:Nat) (k:Z15→Y2→Int→Z14→Int→Z5):Nat→Z15→Y2→Int→Z14→Int→Int→Z5
  | 0,_,_,_,_,_,_=>none
  | m+1,c0,t2,n3,pairs4,x5,y6=>vql (vagi N k m) k c0 t2 n3 pairs4 x5 y6
def vsi (N:Nat) (rec:Z15→Y2→Int→Z14→Int→Z5) (k:Z15→Y2→Int→Z14→Z5) (c0:Z15) (t2:Y2) (n3:Int) (pairs4:Z14) (x5 y6:Int):Z5:=vagi N (vni rec) N c0 t2 n3 pairs4 x5 y6
def vaav (N:Nat) (k:Z15→Y2→Int→Z14→Z5):Nat→Z15→Y2→Int→Z14→Int→Z5
  | 0,_,_,_,_,_=>none
  | m+1,c0,t2,n3,pairs4,x5=>voy (vsi N (vaav N k m) k) k c0 t2 n3 pairs4 x5
def vut (N:Nat) (k:Z15→Y2→Int→Z14→Z5):Nat→Z15→Y2→Int→Z14→Y4→Int→Z5
  | 0,_,_,_,_,_,_=>none
  | m+1,c0,t2,n3,pairs4,names7,i8=>vis (vut N k m) k c0 t2 n3 pairs4 names7 i8
def vvv (N:Nat) (k:Z15→Y2→Y2→Z5):Nat→Z15→Y2→Y2→Z5
  | 0,_,_,_=>none
  | m+1,c0,t2,p9=>vwd (vvv N k m) k c0 t2 p9
def vaz (N:Nat) (c0:Z15) (t2 p9:Y2):Z5:=vvv N (vqv) N c0 t2 p9
def vdh (N:Nat) (c0:Z15) (t2:Y2) (n3:Int) (pairs4:Z14) (names7:Y4) (i8:Int):Z5:=vut N (vfg (vaz N)) N c0 t2 n3 pairs4 names7 i8
def vaud (N:Nat) (c0:Z15) (t2:Y2) (n3:Int) (pairs4:Z14) (x5:Int):Z5:=vaav N (vgr (vdh N) (vaz N)) N c0 t2 n3 pairs4 x5
def V11 (N:Nat) (c_0:Z15):Z5:=vbde (vaud N) c_0
def S_V11:Sig:=⟨(.pair Q3 .unit),[1],[P5],(.pair Q3 .unit),Q0,.i,fun x=>V11 big x.1⟩
def A_V11:Cfg:=hookCfg (fun i=>if i=25 then some PO.hook else none) (mkCfg tab [(118,S_V4),(96,S_V5),(97,S_V8),(94,S_V3),(99,S_V9),(63,S_V2),(102,S_V10)] [(8,[.as Q3 P5,.drop,.as Q4 P1,.as I .i,.as Q14 P5,.as I .i]),(14,[.as Q3 P5,.drop,.as Q4 P1,.as I .i,.as Q14 P5,.as I .i,.as I .i]),(23,[.as Q3 P5,.drop,.as Q4 P1,.as I .i,.as Q14 P5]),(28,[.as Q3 P5,.drop,.as Q4 P1,.as I .i,.as Q14 P5,.drop,.drop,.as Q7 P5,.as I .i]),(1000023,([.as Q3 P5,.drop,.as Q4 P1]++dr 6 [.as Q4 (.o (.p P5 .i)),.as I .i])),(1000027,([.as Q3 P5,.drop,.as Q4 P1,.as I .i]++dr 5 [.as Q4 (.o (.p P5 .i)),.as I .i])),(58,([.as Q3 P5,.drop,.as Q4 P1]++dr 6 [.as Q4 P1])),(11,[.as Q3 P5,.drop,.as Q4 P1,.as I .i,.as Q14 P5,.as I .i]),(35,[.as Q3 P5,.drop,.as Q4 P1,.as I .i,.as Q14 P5]),(63,([.as Q3 P5,.drop,.as Q4 P1]++dr 6 [.as Q4 (.o (.p P5 .i))]))])
noncomputable def vgo (N n:Nat) (K:Ex→St→Z5) (c0:Z15) (t2:Y2) (n3:Int) (pairs4:Z14) (x5:Int):Z5:=iter ((A_V11).shape 8) (run (A_V11) N (codeAt Try.f95 [1,1,1,0,1,0,0])) n ([.val Q3 P5 c0,.u,W1 t2,W0 n3,.val Q14 P5 pairs4,W0 x5]++us 141) K
noncomputable def vjv (N n:Nat) (K:Ex→St→Z5) (c0:Z15) (t2:Y2) (n3:Int) (pairs4:Z14) (x5 y6:Int):Z5:=iter ((A_V11).shape 14) (run (A_V11) N (codeAt Try.f95 [1,1,1,0,1,0,0,1,0,0,1,0,0])) n ([.val Q3 P5 c0,.u,W1 t2,W0 n3,.val Q14 P5 pairs4,W0 x5,W0 y6]++us 140) K
noncomputable def veq (N n:Nat) (K:Ex→St→Z5) (c0:Z15) (t2:Y2) (n3:Int) (pairs4:Z14) (names7:Y4) (i8:Int):Z5:=iter ((A_V11).shape 28) (run (A_V11) N (codeAt Try.f95 [1,1,1,1,0,1,1,0,1,0,0])) n ([.val Q3 P5 c0,.u,W1 t2,W0 n3,.val Q14 P5 pairs4,.u,.u,W3 names7,W0 i8]++us 138) K
noncomputable def vdq (N n:Nat) (K:Ex→St→Z5) (c0:Z15) (t2 p9:Y2):Z5:=iter ((A_V11).shape 58) (run (A_V11) N (codeAt Try.f95 [1,1,1,1,1,1,1,1,0,1,0,1,1,1,1,1,1,1,0,0,0])) n (([.val Q3 P5 c0,.u,W1 t2]++ud 6 [W1 p9])++us 137) K
noncomputable abbrev vfn:Ex→St→Z5:=finish (A_V11) S_V11 Try.f95.results.toList
noncomputable abbrev vaec (kX:St→Z5) (c0:Z15) (t2:Y2) (n3:Int) (pairs4:Z14):Z5:=kX ([.val Q3 P5 c0,.u,W1 t2,W0 n3,.val Q14 P5 pairs4]++us 142)
noncomputable abbrev vke (kX:St→Z5) (kO:Nat→St→Z5):Ex→St→Z5:=exK vfn 0 ((A_V11).shape 23) kX kO
noncomputable abbrev vaqc (kX:St→Z5) (c0:Z15) (t2:Y2) (n3:Int) (pairs4:Z14) (x5:Int):Z5:=kX ([.val Q3 P5 c0,.u,W1 t2,W0 n3,.val Q14 P5 pairs4,W0 x5]++us 141)
noncomputable abbrev vaha (kX:St→Z5) (kO:Nat→St→Z5):Ex→St→Z5:=exK vfn 2 ((A_V11).shape 11) kX kO
noncomputable abbrev vajp (kX:St→Z5) (c0:Z15) (t2:Y2) (n3:Int) (pairs4:Z14):Z5:=kX ([.val Q3 P5 c0,.u,W1 t2,W0 n3,.val Q14 P5 pairs4]++us 142)
noncomputable abbrev vvh (kX:St→Z5) (kO:Nat→St→Z5):Ex→St→Z5:=exK vfn 4 ((A_V11).shape 35) kX kO
noncomputable abbrev vaio (kX:St→Z5) (c0:Z15) (t2 p9:Y2):Z5:=kX (([.val Q3 P5 c0,.u,W1 t2]++ud 6 [.val Q4 (.o (.p P5 .i)) p9])++us 137)
noncomputable abbrev vwi (kX:St→Z5) (kO:Nat→St→Z5):Ex→St→Z5:=exK vfn 7 ((A_V11).shape 63) kX kO
theorem valv (N kX kO):∀ n,vjv N n (vaha kX kO)=vagi N (vaqc kX) n
 | 0=>rfl
 | m+1=>(show vjv N (m+1) (vaha kX kO)=vql (vjv N m (vaha kX kO)) (vaqc kX) by kernel_rfl).trans (by rw[valv N kX kO m];funext _ _ _ _ _ _;rfl)
noncomputable abbrev vaeb (N m:Nat) (kX:St→Z5) (kO:Nat→St→Z5):Ex→St→Z5:=(blockK 2 (blockK 1 (sqK (A_V11) N 11 500005 (codeAt Try.f95 [1,1,1,0,1,0,0,1,1]) (itK (A_V11) N 8 (codeAt Try.f95 [1,1,1,0,1,0,0]) m (vke kX kO)))))
noncomputable abbrev vbez (N m:Nat) (kX:St→Z5) (kO:Nat→St→Z5) (st':St):Z5:=run (A_V11) N (codeAt Try.f95 [1,1,1,0,1,0,0,1,1]) st' (itK (A_V11) N 8 (codeAt Try.f95 [1,1,1,0,1,0,0]) m (vke kX kO))
theorem vbri (N m kX kO) {r} (h:vgo N m (vke kX kO)=r):vjv N N (vaeb N m kX kO)=vsi N r (vaec kX):=by
 rw[show vjv N N (vaeb N m kX kO)=vjv N N (vaha (vbez N m kX kO) fun j=>(vaeb N m kX kO) (.exit j)) from (by funext _ _ _ _ _ _;exact vab (fun _=>by kernel_rfl) fun _=>by kernel_rfl),valv,show vaqc (vbez N m kX kO)=vni (vgo N m (vke kX kO)) by kernel_rfl,h];rfl
theorem vanr (N kX kO):∀ n,vgo N n (vke kX kO)=vaav N (vaec kX) n
 | 0=>rfl
 | m+1=>(show vgo N (m+1) (vke kX kO)=voy (vjv N N (vaeb N m kX kO)) (vaec kX) by kernel_rfl).trans (by rw[vbri N m kX kO (vanr N kX kO m)];funext _ _ _ _ _;rfl)
noncomputable abbrev vaak (N:Nat):Ex→St→Z5:=(blockK 0 (sqK (A_V11) N 23 500011 (codeAt Try.f95 [1,1,1,1]) vfn))
theorem vahe (N kX kO):∀ n,veq N n (vvh kX kO)=vut N (vajp kX) n
 | 0=>rfl
 | m+1=>(show veq N (m+1) (vvh kX kO)=vis (veq N m (vvh kX kO)) (vajp kX) by kernel_rfl).trans (by rw[vahe N kX kO m];funext _ _ _ _ _ _;rfl)
noncomputable abbrev vup (N:Nat):Ex→St→Z5:=(blockK 4 (sqK (A_V11) N 35 500017 (codeAt Try.f95 [1,1,1,1,1]) vfn))
theorem vaam (N kX kO):∀ n,vdq N n (vwi kX kO)=vvv N (vaio kX) n
 | 0=>rfl
 | m+1=>(show vdq N (m+1) (vwi kX kO)=vwd (vdq N m (vwi kX kO)) (vaio kX) by kernel_rfl).trans (by rw[vaam N kX kO m];funext _ _ _;rfl)
noncomputable abbrev vos (N:Nat):Ex→St→Z5:=(blockK 7 (blockK 6 (sqK (A_V11) N 63 500031 (codeAt Try.f95 [1,1,1,1,1,1,1,1,1]) vfn)))
noncomputable abbrev vazf (N:Nat) (st':St):Z5:=run (A_V11) N (codeAt Try.f95 [1,1,1,1,1,1,1,1,1]) st' vfn
theorem vauw (N):vdq N N (vos N)=vaz N:=by
 rw[show vdq N N (vos N)=vdq N N (vwi (vazf N) fun j=>(vos N) (.exit j)) from (by funext _ _ _;exact vab (fun _=>by kernel_rfl) fun _=>by kernel_rfl),vaam,show vaio (vazf N)=vqv by kernel_rfl];rfl
noncomputable abbrev vaxs (N:Nat) (st':St):Z5:=run (A_V11) N (codeAt Try.f95 [1,1,1,1,1]) st' vfn
theorem vblh (N):veq N N (vup N)=vdh N:=by
 rw[show veq N N (vup N)=veq N N (vvh (vaxs N) fun j=>(vup N) (.exit j)) from (by funext _ _ _ _ _ _;exact vab (fun _=>by kernel_rfl) fun _=>by kernel_rfl),vahe,show vajp (vaxs N)=vfg (vdq N N (vos N)) by kernel_rfl,vauw N];rfl
noncomputable abbrev vbeg (N:Nat) (st':St):Z5:=run (A_V11) N (codeAt Try.f95 [1,1,1,1]) st' vfn
theorem vbng (N):vgo N N (vaak N)=vaud N:=by
 rw[show vgo N N (vaak N)=vgo N N (vke (vbeg N) fun j=>(vaak N) (.exit j)) from (by funext _ _ _ _ _;exact vab (fun _=>by kernel_rfl) fun _=>by kernel_rfl),vanr,show vaec (vbeg N)=vgr (veq N N (vup N)) (vdq N N (vos N)) by kernel_rfl,vblh N,vauw N];rfl
theorem run_V11 (N x):runF (A_V11) N Try.f95 S_V11 x=V11 N x.1:=(show _=(vbde (vgo N N (vaak N)) x.1) by kernel_rfl).trans (by rw[vbng N];rfl)
theorem fn_V11:FnOk Try.prog 95:=⟨_,Try.func95,by kernel_rfl,by kernel_rfl⟩
theorem good_V11:Gx.Good Try.prog 95 S_V11:=vtp Try.func95 (of_decide_eq_true (by kernel_rfl)) fun x r h=>⟨A_V11,big,vbcf (vsd tabOk),vawx (vaa (show SigsOk Try.prog [(118,S_V4),(96,S_V5),(97,S_V8),(94,S_V3),(99,S_V9),(63,S_V2),(102,S_V10)] from⟨ok_V4,ok_V5,ok_V8,ok_V3,ok_V9,ok_V2,ok_V10,trivial⟩)),fun code hc=>vcw (ids:=[25]) (fun i hi=>by simp only[List.mem_cons,List.not_mem_nil,or_false] at hi;simp[A_V11,hookCfg,hi]) fun c hm=>PO.hooks_spec_l1Cur_poset A_V11 (by rfl) code hc c hm,(run_V11 big x).trans h⟩
def vayo (rec:Y2→Y2→Y2→Y2→Int→Int→Int→Y4→Int→Int→Z3) (k:Y2→Y2→Y2→Y2→Int→Int→Int→Y4→Int→Z3) (p2 q3 t4 out5:Y2) (m6 x7 y8:Int) (below9:Y4) (i10 k11:Int):Z3 :=
  (atI q3.1 y8).bind fun xq3 =>
  cond (decide (k11<(xq3.length:Int)))
  ((atI p2.1 x7).bind fun xq4 =>
  (atI xq4 i10).bind fun xq5 =>
  (atI q3.1 y8).bind fun xq6 =>
  (atI xq6 k11).bind fun xq7 =>
  (appI below9 [IntKind.i64.wrap ((IntKind.i64.wrap (xq5 * m6))+xq7)]).bind fun xq8 =>
  rec p2 q3 t4 out5 m6 x7 y8 xq8 i10 (IntKind.i64.wrap (k11+1)))
  (k p2 q3 t4 out5 m6 x7 y8 below9 i10)
def vayp (rec:Y2→Y2→Y2→Y2→Int→Int→Int→Y4→Int→Z3) (p2 q3 t4 out5:Y2) (m6 x7 y8:Int) (below9:Y4) (i10:Int):Z3 :=
  rec p2 q3 t4 out5 m6 x7 y8 below9 (IntKind.i64.wrap (i10+1))
def vayc (L14:Y2→Y2→Y2→Y2→Int→Int→Int→Y4→Int→Int→Z3) (k:Y2→Y2→Y2→Y2→Int→Int→Int→Y4→Z3) (p2 q3 t4 out5:Y2) (m6 x7 y8:Int) (below9:Y4) (i10:Int):Z3 :=
  (atI p2.1 x7).bind fun xq1 =>
  cond (decide (i10<(xq1.length:Int)))
  (L14 p2 q3 t4 out5 m6 x7 y8 below9 i10 (0:Int))
  (k p2 q3 t4 out5 m6 x7 y8 below9)
def vays (rec:Y2→Y2→Y2→Y2→Int→Int→Int→Z3) (p2 q3 t4 out5:Y2) (m6 x7 y8:Int) (below9:Y4):Z3 :=
  (appI out5.1 [below9]).bind fun xq2 =>
  rec p2 q3 t4 (xq2,((),out5.2).2) m6 x7 (IntKind.i64.wrap (y8+1))
def vbjg (L11:Y2→Y2→Y2→Y2→Int→Int→Int→Y4→Int→Z3) (k:Y2→Y2→Y2→Y2→Int→Int→Z3) (p2 q3 t4 out5:Y2) (m6 x7 y8:Int):Z3 :=
  cond (decide (y8<m6))
  (L11 p2 q3 t4 out5 m6 x7 y8 [] (0:Int))
  (k p2 q3 t4 out5 m6 x7)
def vbgx (rec:Y2→Y2→Y2→Y2→Int→Int→Z3) (p2 q3 t4 out5:Y2) (m6 x7:Int):Z3 :=
  rec p2 q3 t4 out5 m6 (IntKind.i64.wrap (x7+1))
def vbdq (L7:Y2→Y2→Y2→Y2→Int→Int→Int→Z3) (k:Y2→Y2→Z3) (p2 q3 t4 out5:Y2) (m6 x7:Int):Z3 :=
  cond (decide (x7<(p2.1.length:Int)))
  (L7 p2 q3 t4 out5 m6 x7 (0:Int))
  (k t4 out5)
def vbel (t4 out5:Y2):Z3 :=
  some (out5,(()))
def vbmw (L4:Y2→Y2→Y2→Y2→Int→Int→Z3) (p_0 q_1:Y2):Z3 :=
  L4 p_0 q_1 (([]:Y3),()) ([],()) (q_1.1.length:Int) (0:Int)
def vaiv (N:Nat) (k:Y2→Y2→Y2→Y2→Int→Int→Int→Y4→Int→Z3):Nat→Y2→Y2→Y2→Y2→Int→Int→Int→Y4→Int→Int→Z3
  | 0,_,_,_,_,_,_,_,_,_,_=>none
  | m+1,p2,q3,t4,out5,m6,x7,y8,below9,i10,k11=>vayo (vaiv N k m) k p2 q3 t4 out5 m6 x7 y8 below9 i10 k11
def vayw (N:Nat) (rec:Y2→Y2→Y2→Y2→Int→Int→Int→Y4→Int→Z3) (k:Y2→Y2→Y2→Y2→Int→Int→Int→Y4→Z3) (p2 q3 t4 out5:Y2) (m6 x7 y8:Int) (below9:Y4) (i10 k11:Int):Z3:=vaiv N (vayp rec) N p2 q3 t4 out5 m6 x7 y8 below9 i10 k11
def vaiy (N:Nat) (k:Y2→Y2→Y2→Y2→Int→Int→Int→Y4→Z3):Nat→Y2→Y2→Y2→Y2→Int→Int→Int→Y4→Int→Z3
  | 0,_,_,_,_,_,_,_,_,_=>none
  | m+1,p2,q3,t4,out5,m6,x7,y8,below9,i10=>vayc (vayw N (vaiy N k m) k) k p2 q3 t4 out5 m6 x7 y8 below9 i10
def vayv (N:Nat) (rec:Y2→Y2→Y2→Y2→Int→Int→Int→Z3) (k:Y2→Y2→Y2→Y2→Int→Int→Z3) (p2 q3 t4 out5:Y2) (m6 x7 y8:Int) (below9:Y4) (i10:Int):Z3:=vaiy N (vays rec) N p2 q3 t4 out5 m6 x7 y8 below9 i10
def varx (N:Nat) (k:Y2→Y2→Y2→Y2→Int→Int→Z3):Nat→Y2→Y2→Y2→Y2→Int→Int→Int→Z3
  | 0,_,_,_,_,_,_,_=>none
  | m+1,p2,q3,t4,out5,m6,x7,y8=>vbjg (vayv N (varx N k m) k) k p2 q3 t4 out5 m6 x7 y8
def vbhf (N:Nat) (rec:Y2→Y2→Y2→Y2→Int→Int→Z3) (k:Y2→Y2→Z3) (p2 q3 t4 out5:Y2) (m6 x7 y8:Int):Z3:=varx N (vbgx rec) N p2 q3 t4 out5 m6 x7 y8
def vari (N:Nat) (k:Y2→Y2→Z3):Nat→Y2→Y2→Y2→Y2→Int→Int→Z3
  | 0,_,_,_,_,_,_=>none
  | m+1,p2,q3,t4,out5,m6,x7=>vbdq (vbhf N (vari N k m) k) k p2 q3 t4 out5 m6 x7
def vbev (N:Nat) (p2 q3 t4 out5:Y2) (m6 x7:Int):Z3:=vari N (vbel) N p2 q3 t4 out5 m6 x7
def V12 (N:Nat) (p_0 q_1:Y2):Z3:=vbmw (vbev N) p_0 q_1
def S_V12:Sig:=⟨(.pair Q0 Q11),[0,0],[],.unit,Q0,(.p P10 .i),fun x=>V12 big x.1 x.2.1⟩
def A_V12:Cfg:=mkCfg tab [] [(8,[.drop,.drop,.as Q4 P5,.as Q4 P5,.as Q4 P1,.as Q4 P1,.as I .i,.as I .i]),(14,[.drop,.drop,.as Q4 P5,.as Q4 P5,.as Q4 P1,.as Q4 P1,.as I .i,.as I .i,.as I .i]),(37,(dr 4 [.as Q4 P1,.as Q4 P1])),(22,[.drop,.drop,.as Q4 P5,.as Q4 P5,.as Q4 P1,.as Q4 P1,.as I .i,.as I .i,.as I .i,.as Q7 P5,.as I .i]),(11,[.drop,.drop,.as Q4 P5,.as Q4 P5,.as Q4 P1,.as Q4 P1,.as I .i,.as I .i]),(28,[.drop,.drop,.as Q4 P5,.as Q4 P5,.as Q4 P1,.as Q4 P1,.as I .i,.as I .i,.as I .i,.as Q7 P5,.as I .i,.as I .i]),(35,[.drop,.drop,.as Q4 P5,.as Q4 P5,.as Q4 P1,.as Q4 P1,.as I .i,.as I .i,.as I .i,.as Q7 P5]),(25,[.drop,.drop,.as Q4 P5,.as Q4 P5,.as Q4 P1,.as Q4 P1,.as I .i,.as I .i,.as I .i,.as Q7 P5,.as I .i])]
noncomputable def vhy (N n:Nat) (K:Ex→St→Z3) (p2 q3 t4 out5:Y2) (m6 x7:Int):Z3:=iter ((A_V12).shape 8) (run (A_V12) N (codeAt Try.f101 [1,1,1,0,1,0,0])) n ([.u,.u,W2 p2,W2 q3,W1 t4,W1 out5,W0 m6,W0 x7]++us 71) K
noncomputable def vfx (N n:Nat) (K:Ex→St→Z3) (p2 q3 t4 out5:Y2) (m6 x7 y8:Int):Z3:=iter ((A_V12).shape 14) (run (A_V12) N (codeAt Try.f101 [1,1,1,0,1,0,0,1,0,0,1,0,0])) n ([.u,.u,W2 p2,W2 q3,W1 t4,W1 out5,W0 m6,W0 x7,W0 y8]++us 70) K
noncomputable def vdg (N n:Nat) (K:Ex→St→Z3) (p2 q3 t4 out5:Y2) (m6 x7 y8:Int) (below9:Y4) (i10:Int):Z3:=iter ((A_V12).shape 22) (run (A_V12) N (codeAt Try.f101 [1,1,1,0,1,0,0,1,0,0,1,0,0,1,0,0,1,0,1,0,0])) n ([.u,.u,W2 p2,W2 q3,W1 t4,W1 out5,W0 m6,W0 x7,W0 y8,W3 below9,W0 i10]++us 68) K
noncomputable def vey (N n:Nat) (K:Ex→St→Z3) (p2 q3 t4 out5:Y2) (m6 x7 y8:Int) (below9:Y4) (i10 k11:Int):Z3:=iter ((A_V12).shape 28) (run (A_V12) N (codeAt Try.f101 [1,1,1,0,1,0,0,1,0,0,1,0,0,1,0,0,1,0,1,0,0,1,0,0,1,0,0])) n ([.u,.u,W2 p2,W2 q3,W1 t4,W1 out5,W0 m6,W0 x7,W0 y8,W3 below9,W0 i10,W0 k11]++us 67) K
noncomputable abbrev vvk:Ex→St→Z3:=finish (A_V12) S_V12 Try.f101.results.toList
noncomputable abbrev vadn (kX:St→Z3) (t4 out5:Y2):Z3:=kX ((ud 4 [W1 t4,W1 out5])++us 73)
noncomputable abbrev vkz (kX:St→Z3) (kO:Nat→St→Z3):Ex→St→Z3:=exK vvk 0 ((A_V12).shape 37) kX kO
noncomputable abbrev vahq (kX:St→Z3) (p2 q3 t4 out5:Y2) (m6 x7:Int):Z3:=kX ([.u,.u,W2 p2,W2 q3,W1 t4,W1 out5,W0 m6,W0 x7]++us 71)
noncomputable abbrev vkp (kX:St→Z3) (kO:Nat→St→Z3):Ex→St→Z3:=exK vvk 2 ((A_V12).shape 11) kX kO
noncomputable abbrev vwz (kX:St→Z3) (p2 q3 t4 out5:Y2) (m6 x7 y8:Int) (below9:Y4):Z3:=kX ([.u,.u,W2 p2,W2 q3,W1 t4,W1 out5,W0 m6,W0 x7,W0 y8,W3 below9]++us 69)
noncomputable abbrev vex (kX:St→Z3) (kO:Nat→St→Z3):Ex→St→Z3:=exK vvk 4 ((A_V12).shape 35) kX kO
noncomputable abbrev vajn (kX:St→Z3) (p2 q3 t4 out5:Y2) (m6 x7 y8:Int) (below9:Y4) (i10:Int):Z3:=kX ([.u,.u,W2 p2,W2 q3,W1 t4,W1 out5,W0 m6,W0 x7,W0 y8,W3 below9,W0 i10]++us 68)
noncomputable abbrev vvr (kX:St→Z3) (kO:Nat→St→Z3):Ex→St→Z3:=exK vvk 6 ((A_V12).shape 25) kX kO
theorem vzl (N kX kO):∀ n,vey N n (vvr kX kO)=vaiv N (vajn kX) n
 | 0=>rfl
 | m+1=>(show vey N (m+1) (vvr kX kO)=vayo (vey N m (vvr kX kO)) (vajn kX) by kernel_rfl).trans (by rw[vzl N kX kO m];funext _ _ _ _ _ _ _ _ _ _;rfl)
noncomputable abbrev vxd (N m:Nat) (kX:St→Z3) (kO:Nat→St→Z3):Ex→St→Z3:=(blockK 6 (blockK 5 (sqK (A_V12) N 25 500012 (codeAt Try.f101 [1,1,1,0,1,0,0,1,0,0,1,0,0,1,0,0,1,0,1,0,0,1,1]) (itK (A_V12) N 22 (codeAt Try.f101 [1,1,1,0,1,0,0,1,0,0,1,0,0,1,0,0,1,0,1,0,0]) m (vex kX kO)))))
noncomputable abbrev vaya (N m:Nat) (kX:St→Z3) (kO:Nat→St→Z3) (st':St):Z3:=run (A_V12) N (codeAt Try.f101 [1,1,1,0,1,0,0,1,0,0,1,0,0,1,0,0,1,0,1,0,0,1,1]) st' (itK (A_V12) N 22 (codeAt Try.f101 [1,1,1,0,1,0,0,1,0,0,1,0,0,1,0,0,1,0,1,0,0]) m (vex kX kO))
theorem vblr (N m kX kO) {r} (h:vdg N m (vex kX kO)=r):vey N N (vxd N m kX kO)=vayw N r (vwz kX):=by
 rw[show vey N N (vxd N m kX kO)=vey N N (vvr (vaya N m kX kO) fun j=>(vxd N m kX kO) (.exit j)) from (by funext _ _ _ _ _ _ _ _ _ _;exact vab (fun _=>by kernel_rfl) fun _=>by kernel_rfl),vzl,show vajn (vaya N m kX kO)=vayp (vdg N m (vex kX kO)) by kernel_rfl,h];rfl
theorem vzm (N kX kO):∀ n,vdg N n (vex kX kO)=vaiy N (vwz kX) n
 | 0=>rfl
 | m+1=>(show vdg N (m+1) (vex kX kO)=vayc (vey N N (vxd N m kX kO)) (vwz kX) by kernel_rfl).trans (by rw[vblr N m kX kO (vzm N kX kO m)];funext _ _ _ _ _ _ _ _ _;rfl)
noncomputable abbrev vwl (N m:Nat) (kX:St→Z3) (kO:Nat→St→Z3):Ex→St→Z3:=(blockK 4 (sqK (A_V12) N 35 500017 (codeAt Try.f101 [1,1,1,0,1,0,0,1,0,0,1,0,0,1,0,0,1,1]) (blockK 3 (sqK (A_V12) N 17 500008 (codeAt Try.f101 [1,1,1,0,1,0,0,1,0,0,1,0,0,1,1]) (itK (A_V12) N 14 (codeAt Try.f101 [1,1,1,0,1,0,0,1,0,0,1,0,0]) m (vkp kX kO))))))
noncomputable abbrev vazg (N m:Nat) (kX:St→Z3) (kO:Nat→St→Z3) (st':St):Z3:=run (A_V12) N (codeAt Try.f101 [1,1,1,0,1,0,0,1,0,0,1,0,0,1,0,0,1,1]) st' (blockK 3 (sqK (A_V12) N 17 500008 (codeAt Try.f101 [1,1,1,0,1,0,0,1,0,0,1,0,0,1,1]) (itK (A_V12) N 14 (codeAt Try.f101 [1,1,1,0,1,0,0,1,0,0,1,0,0]) m (vkp kX kO))))
theorem vbla (N m kX kO) {r} (h:vfx N m (vkp kX kO)=r):vdg N N (vwl N m kX kO)=vayv N r (vahq kX):=by
 rw[show vdg N N (vwl N m kX kO)=vdg N N (vex (vazg N m kX kO) fun j=>(vwl N m kX kO) (.exit j)) from (by funext _ _ _ _ _ _ _ _ _;exact vab (fun _=>by kernel_rfl) fun _=>by kernel_rfl),vzm,show vwz (vazg N m kX kO)=vays (vfx N m (vkp kX kO)) by kernel_rfl,h];rfl
theorem vaob (N kX kO):∀ n,vfx N n (vkp kX kO)=varx N (vahq kX) n
 | 0=>rfl
 | m+1=>(show vfx N (m+1) (vkp kX kO)=vbjg (vdg N N (vwl N m kX kO)) (vahq kX) by kernel_rfl).trans (by rw[vbla N m kX kO (vaob N kX kO m)];funext _ _ _ _ _ _ _;rfl)
noncomputable abbrev vacd (N m:Nat) (kX:St→Z3) (kO:Nat→St→Z3):Ex→St→Z3:=(blockK 2 (blockK 1 (sqK (A_V12) N 11 500005 (codeAt Try.f101 [1,1,1,0,1,0,0,1,1]) (itK (A_V12) N 8 (codeAt Try.f101 [1,1,1,0,1,0,0]) m (vkz kX kO)))))
noncomputable abbrev vbfc (N m:Nat) (kX:St→Z3) (kO:Nat→St→Z3) (st':St):Z3:=run (A_V12) N (codeAt Try.f101 [1,1,1,0,1,0,0,1,1]) st' (itK (A_V12) N 8 (codeAt Try.f101 [1,1,1,0,1,0,0]) m (vkz kX kO))
theorem vbnj (N m kX kO) {r} (h:vhy N m (vkz kX kO)=r):vfx N N (vacd N m kX kO)=vbhf N r (vadn kX):=by
 rw[show vfx N N (vacd N m kX kO)=vfx N N (vkp (vbfc N m kX kO) fun j=>(vacd N m kX kO) (.exit j)) from (by funext _ _ _ _ _ _ _;exact vab (fun _=>by kernel_rfl) fun _=>by kernel_rfl),vaob,show vahq (vbfc N m kX kO)=vbgx (vhy N m (vkz kX kO)) by kernel_rfl,h];rfl
theorem vall (N kX kO):∀ n,vhy N n (vkz kX kO)=vari N (vadn kX) n
 | 0=>rfl
 | m+1=>(show vhy N (m+1) (vkz kX kO)=vbdq (vfx N N (vacd N m kX kO)) (vadn kX) by kernel_rfl).trans (by rw[vbnj N m kX kO (vall N kX kO m)];funext _ _ _ _ _ _;rfl)
noncomputable abbrev vaeo (N:Nat):Ex→St→Z3:=(blockK 0 (sqK (A_V12) N 37 500018 (codeAt Try.f101 [1,1,1,1]) vvk))
noncomputable abbrev vbie (N:Nat) (st':St):Z3:=run (A_V12) N (codeAt Try.f101 [1,1,1,1]) st' vvk
theorem vbpg (N):vhy N N (vaeo N)=vbev N:=by
 rw[show vhy N N (vaeo N)=vhy N N (vkz (vbie N) fun j=>(vaeo N) (.exit j)) from (by funext _ _ _ _ _ _;exact vab (fun _=>by kernel_rfl) fun _=>by kernel_rfl),vall,show vadn (vbie N)=vbel by kernel_rfl];rfl
theorem run_V12 (N x):runF (A_V12) N Try.f101 S_V12 x=V12 N x.1 x.2.1:=(show _=(vbmw (vhy N N (vaeo N)) x.1 x.2.1) by kernel_rfl).trans (by rw[vbpg N];rfl)
theorem ok_V12:FnOk Try.prog 101∧Gx.Good Try.prog 101 S_V12:=gdR (A:=A_V12) tc Try.func101 (by kernel_rfl) (vaa trivial) (run_V12 big)
def vbuk (k_0:Int):Z3 :=
  cond (decide (k_0=0))
  ((V9 big (1:Int) []).bind fun rq1 =>
  some (rq1.1,(())))
  (cond (decide (k_0=1))
  ((V9 big (2:Int) [((0:Int),((1:Int),()))]).bind fun rq2 =>
  some (rq2.1,(())))
  (cond (decide (k_0=2))
  ((V9 big (4:Int) [((0:Int),((1:Int),())),((1:Int),((2:Int),())),((2:Int),((3:Int),()))]).bind fun rq3 =>
  some (rq3.1,(())))
  (cond (decide (k_0=3))
  ((V9 big (4:Int) [((0:Int),((1:Int),())),((0:Int),((2:Int),())),((1:Int),((3:Int),())),((2:Int),((3:Int),()))]).bind fun rq4 =>
  some (rq4.1,(())))
  (cond (decide (k_0=4))
  ((V9 big (5:Int) [((0:Int),((1:Int),())),((0:Int),((2:Int),())),((0:Int),((3:Int),())),((1:Int),((4:Int),())),((2:Int),((4:Int),())),((3:Int),((4:Int),()))]).bind fun rq5 =>
  some (rq5.1,(())))
  (cond (decide (k_0=5))
  ((V9 big (5:Int) [((0:Int),((1:Int),())),((1:Int),((2:Int),())),((0:Int),((3:Int),())),((2:Int),((4:Int),())),((3:Int),((4:Int),()))]).bind fun rq6 =>
  some (rq6.1,(())))
  (cond (decide (k_0=6))
  ((V9 big (8:Int) [((0:Int),((1:Int),())),((0:Int),((2:Int),())),((0:Int),((3:Int),())),((1:Int),((4:Int),())),((1:Int),((5:Int),())),((2:Int),((4:Int),())),((2:Int),((6:Int),())),((3:Int),((5:Int),())),((3:Int),((6:Int),())),((4:Int),((7:Int),())),((5:Int),((7:Int),())),((6:Int),((7:Int),()))]).bind fun rq7 =>
  some (rq7.1,(())))
  (cond (decide (k_0=7))
  ((V9 big (6:Int) [((0:Int),((1:Int),())),((0:Int),((2:Int),())),((1:Int),((3:Int),())),((2:Int),((3:Int),())),((2:Int),((4:Int),())),((3:Int),((5:Int),())),((4:Int),((5:Int),()))]).bind fun rq8 =>
  some (rq8.1,(())))
  (cond (decide (k_0=8))
  ((V9 big (6:Int) [((0:Int),((1:Int),())),((0:Int),((2:Int),())),((1:Int),((3:Int),())),((2:Int),((4:Int),())),((3:Int),((5:Int),())),((4:Int),((5:Int),()))]).bind fun rq9 =>
  some (rq9.1,(())))
  (cond (decide (k_0=9))
  ((V9 big (7:Int) [((0:Int),((1:Int),())),((0:Int),((2:Int),())),((0:Int),((3:Int),())),((1:Int),((4:Int),())),((2:Int),((4:Int),())),((3:Int),((5:Int),())),((2:Int),((5:Int),())),((4:Int),((6:Int),())),((5:Int),((6:Int),()))]).bind fun rq10 =>
  some (rq10.1,(())))
  (cond (decide (k_0=10))
  ((V9 big (3:Int) [((0:Int),((1:Int),())),((1:Int),((2:Int),()))]).bind fun rq11 =>
  (V9 big (3:Int) [((0:Int),((1:Int),())),((1:Int),((2:Int),()))]).bind fun rq12 =>
  (V12 big rq11.1 rq12.1).bind fun rq13 =>
  some (rq13.1,(())))
  ((V9 big (3:Int) [((0:Int),((1:Int),())),((1:Int),((2:Int),()))]).bind fun rq14 =>
  some (rq14.1,(())))))))))))))
def V13 (k_0:Int):Z3:=vbuk k_0
def S_V13:Sig:=⟨(.pair I .unit),[0],[],.unit,Q0,(.p P10 .i),fun x=>V13 x.1⟩
def A_V13:Cfg:=mkCfg tab [(99,S_V9),(101,S_V12)] []
theorem run_V13 (N x):runF (A_V13) N Try.f64 S_V13 x=V13 x.1:=by kernel_rfl
theorem ok_V13:FnOk Try.prog 64∧Gx.Good Try.prog 64 S_V13:=gdR (A:=A_V13) tc Try.func64 (by kernel_rfl) (vaa ⟨ok_V9,ok_V12,trivial⟩) (run_V13 big)
def vnw (rec:Y4→Int→Int→Z1) (k:Z1) (l0:Y4) (n1 i5:Int):Z1 :=
  cond (decide (i5<(l0.length:Int)))
  ((atI l0 i5).bind fun xq1 =>
  cond (decide (xq1=n1))
  (some (true,(())))
  (rec l0 n1 (IntKind.i64.wrap (i5+1))))
  (k)
def vqt:Z1 :=
  some (false,(()))
def vbcg (L2:Y4→Int→Int→Z1) (l_0:Y4) (n_1:Int):Z1 :=
  L2 l_0 n_1 (0:Int)
def vaah (N:Nat) (k:Z1):Nat→Y4→Int→Int→Z1
  | 0,_,_,_=>none
  | m+1,l0,n1,i5=>vnw (vaah N k m) k l0 n1 i5
def vauf (N:Nat) (l0:Y4) (n1 i5:Int):Z1:=vaah N (vqt) N l0 n1 i5
def V14 (N:Nat) (l_0:Y4) (n_1:Int):Z1:=vbcg (vauf N) l_0 n_1
def S_V14:Sig:=⟨(.pair Q7 (.pair I .unit)),[0,0],[],.unit,.bool,.i,fun x=>V14 big x.1 x.2.1⟩
def A_V14:Cfg:=mkCfg tab [] [(4,([.as Q7 .i,.as I .i]++dr 3 [.as I .i])),(13,[])]
noncomputable def vjx (N n:Nat) (K:Ex→St→Z1) (l0:Y4) (n1 i5:Int):Z1:=iter ((A_V14).shape 4) (run (A_V14) N (codeAt Try.f87 [1,0,1,0,0])) n (([W4 l0,W0 n1]++ud 3 [W0 i5])++us 12) K
noncomputable abbrev vbbj:Ex→St→Z1:=finish (A_V14) S_V14 Try.f87.results.toList
noncomputable abbrev vaqb (kX:St→Z1):Z1:=kX ([]++us 18)
noncomputable abbrev vadm (kX:St→Z1) (kO:Nat→St→Z1):Ex→St→Z1:=exK vbbj 0 ((A_V14).shape 13) kX kO
theorem valq (N kX kO):∀ n,vjx N n (vadm kX kO)=vaah N (vaqb kX) n
 | 0=>rfl
 | m+1=>(show vjx N (m+1) (vadm kX kO)=vnw (vjx N m (vadm kX kO)) (vaqb kX) by kernel_rfl).trans (by rw[valq N kX kO m];funext _ _ _;rfl)
noncomputable abbrev vadb (N:Nat):Ex→St→Z1:=(blockK 0 (sqK (A_V14) N 13 500006 (codeAt Try.f87 [1,1]) vbbj))
noncomputable abbrev vbim (N:Nat) (st':St):Z1:=run (A_V14) N (codeAt Try.f87 [1,1]) st' vbbj
theorem vbod (N):vjx N N (vadb N)=vauf N:=by
 rw[show vjx N N (vadb N)=vjx N N (vadm (vbim N) fun j=>(vadb N) (.exit j)) from (by funext _ _ _;exact vab (fun _=>by kernel_rfl) fun _=>by kernel_rfl),valq,show vaqb (vbim N)=vqt by kernel_rfl];rfl
theorem run_V14 (N x):runF (A_V14) N Try.f87 S_V14 x=V14 N x.1 x.2.1:=(show _=(vbcg (vjx N N (vadb N)) x.1 x.2.1) by kernel_rfl).trans (by rw[vbod N];rfl)
theorem ok_V14:FnOk Try.prog 87∧Gx.Good Try.prog 87 S_V14:=gdR (A:=A_V14) tc Try.func87 (by kernel_rfl) (vaa trivial) (run_V14 big)
def vbmo (p_0:Y2) (x_1 y_2:Int):Z1 :=
  (atI p_0.1 y_2).bind fun xq1 =>
  (V14 big xq1 x_1).bind fun rq2 =>
  some (rq2.1,(()))
def V15 (p_0:Y2) (x_1 y_2:Int):Z1:=vbmo p_0 x_1 y_2
def S_V15:Sig:=⟨(.pair Q0 Q8),[0,0,0],[],.unit,.bool,.i,fun x=>V15 x.1 x.2.1 x.2.2.1⟩
def A_V15:Cfg:=mkCfg tab [(87,S_V14)] []
theorem run_V15 (N x):runF (A_V15) N Try.f66 S_V15 x=V15 x.1 x.2.1 x.2.2.1:=by kernel_rfl
theorem ok_V15:FnOk Try.prog 66∧Gx.Good Try.prog 66 S_V15:=gdR (A:=A_V15) tc Try.func66 (by kernel_rfl) (vaa ⟨ok_V14,trivial⟩) (run_V15 big)
def vbmj (p_0:Y2) (x_1 y_2:Int):Z1 :=
  cond (decide (x_1≠y_2))
  ((V15 p_0 x_1 y_2).bind fun rq1 =>
  some (rq1.1,(())))
  (some (false,(())))
def V16 (p_0:Y2) (x_1 y_2:Int):Z1:=vbmj p_0 x_1 y_2
def S_V16:Sig:=⟨(.pair Q0 Q8),[0,0,0],[],.unit,.bool,.i,fun x=>V16 x.1 x.2.1 x.2.2.1⟩
def A_V16:Cfg:=mkCfg tab [(66,S_V15)] []
theorem run_V16 (N x):runF (A_V16) N Try.f48 S_V16 x=V16 x.1 x.2.1 x.2.2.1:=by kernel_rfl
theorem ok_V16:FnOk Try.prog 48∧Gx.Good Try.prog 48 S_V16:=gdR (A:=A_V16) tc Try.func48 (by kernel_rfl) (vaa ⟨ok_V15,trivial⟩) (run_V16 big)
def vbfy (rec:Int→Int→Y2→Int→Z1) (k:Z1) (x1 y2:Int) (p3:Y2) (z7:Int):Z1 :=
  cond (decide (z7<(p3.1.length:Int)))
  ((V16 p3 x1 z7).bind fun rq2 =>
  cond rq2.1
  ((V16 p3 z7 y2).bind fun rq3 =>
  cond rq3.1
  (some (false,(())))
  (rec x1 y2 p3 (IntKind.i64.wrap (z7+1))))
  (rec x1 y2 p3 (IntKind.i64.wrap (z7+1))))
  (k)
def vbfx:Z1 :=
  some (true,(()))
def vbmt (L4:Int→Int→Y2→Int→Z1) (p_0:Y2) (x_1 y_2:Int):Z1 :=
  (V16 p_0 x_1 y_2).bind fun rq1 =>
  cond (!rq1.1)
  (some (false,(())))
  (L4 x_1 y_2 p_0 (0:Int))
def vauk (N:Nat) (k:Z1):Nat→Int→Int→Y2→Int→Z1
  | 0,_,_,_,_=>none
  | m+1,x1,y2,p3,z7=>vbfy (vauk N k m) k x1 y2 p3 z7
def vbgw (N:Nat) (x1 y2:Int) (p3:Y2) (z7:Int):Z1:=vauk N (vbfx) N x1 y2 p3 z7
def V17 (N:Nat) (p_0:Y2) (x_1 y_2:Int):Z1:=vbmt (vbgw N) p_0 x_1 y_2
def S_V17:Sig:=⟨(.pair Q0 Q8),[0,0,0],[],.unit,.bool,.i,fun x=>V17 big x.1 x.2.1 x.2.2.1⟩
def A_V17:Cfg:=mkCfg tab [(48,S_V16)] [(8,([.drop,.as I .i,.as I .i,.as Q4 P5]++dr 3 [.as I .i])),(17,[])]
noncomputable def vlt (N n:Nat) (K:Ex→St→Z1) (x1 y2:Int) (p3:Y2) (z7:Int):Z1:=iter ((A_V17).shape 8) (run (A_V17) N (codeAt Try.f110 [1,1,0,1,0,0])) n (([.u,W0 x1,W0 y2,W2 p3]++ud 3 [W0 z7])++us 22) K
noncomputable abbrev vazx:Ex→St→Z1:=finish (A_V17) S_V17 Try.f110.results.toList
noncomputable abbrev vavc (kX:St→Z1):Z1:=kX ([]++us 30)
noncomputable abbrev vafq (kX:St→Z1) (kO:Nat→St→Z1):Ex→St→Z1:=exK vazx 0 ((A_V17).shape 17) kX kO
theorem vaml (N kX kO):∀ n,vlt N n (vafq kX kO)=vauk N (vavc kX) n
 | 0=>rfl
 | m+1=>(show vlt N (m+1) (vafq kX kO)=vbfy (vlt N m (vafq kX kO)) (vavc kX) by kernel_rfl).trans (by rw[vaml N kX kO m];funext _ _ _ _;rfl)
noncomputable abbrev vabo (N:Nat):Ex→St→Z1:=(blockK 0 (sqK (A_V17) N 17 500008 (codeAt Try.f110 [1,1,1]) vazx))
noncomputable abbrev vbfw (N:Nat) (st':St):Z1:=run (A_V17) N (codeAt Try.f110 [1,1,1]) st' vazx
theorem vbqw (N):vlt N N (vabo N)=vbgw N:=by
 rw[show vlt N N (vabo N)=vlt N N (vafq (vbfw N) fun j=>(vabo N) (.exit j)) from (by funext _ _ _ _;exact vab (fun _=>by kernel_rfl) fun _=>by kernel_rfl),vaml,show vavc (vbfw N)=vbfx by kernel_rfl];rfl
theorem run_V17 (N x):runF (A_V17) N Try.f110 S_V17 x=V17 N x.1 x.2.1 x.2.2.1:=(show _=(vbmt (vlt N N (vabo N)) x.1 x.2.1 x.2.2.1) by kernel_rfl).trans (by rw[vbqw N];rfl)
theorem ok_V17:FnOk Try.prog 110∧Gx.Good Try.prog 110 S_V17:=gdR (A:=A_V17) tc Try.func110 (by kernel_rfl) (vaa ⟨ok_V16,trivial⟩) (run_V17 big)
def vbdn (rec:Y2→Z14→Int→Int→Z16) (k:Y2→Z14→Int→Z16) (p1:Y2) (out3:Z14) (x4 y5:Int):Z16 :=
  cond (decide (y5<(p1.1.length:Int)))
  ((V17 big p1 x4 y5).bind fun rq1 =>
  cond rq1.1
  ((appI out3 [(x4,(y5,()))]).bind fun xq2 =>
  rec p1 xq2 x4 (IntKind.i64.wrap (y5+1)))
  (rec p1 out3 x4 (IntKind.i64.wrap (y5+1))))
  (k p1 out3 x4)
def vbhr (rec:Y2→Z14→Int→Z16) (p1:Y2) (out3:Z14) (x4:Int):Z16 :=
  rec p1 out3 (IntKind.i64.wrap (x4+1))
def vbek (L6:Y2→Z14→Int→Int→Z16) (k:Z14→Z16) (p1:Y2) (out3:Z14) (x4:Int):Z16 :=
  cond (decide (x4<(p1.1.length:Int)))
  (L6 p1 out3 x4 (0:Int))
  (k out3)
def vbey (out3:Z14):Z16 :=
  some (out3,(()))
def vbmr (L3:Y2→Z14→Int→Z16) (p_0:Y2):Z16 :=
  L3 p_0 [] (0:Int)
def vavp (N:Nat) (k:Y2→Z14→Int→Z16):Nat→Y2→Z14→Int→Int→Z16
  | 0,_,_,_,_=>none
  | m+1,p1,out3,x4,y5=>vbdn (vavp N k m) k p1 out3 x4 y5
def vbem (N:Nat) (rec:Y2→Z14→Int→Z16) (k:Z14→Z16) (p1:Y2) (out3:Z14) (x4 y5:Int):Z16:=vavp N (vbhr rec) N p1 out3 x4 y5
def varr (N:Nat) (k:Z14→Z16):Nat→Y2→Z14→Int→Z16
  | 0,_,_,_=>none
  | m+1,p1,out3,x4=>vbek (vbem N (varr N k m) k) k p1 out3 x4
def vbio (N:Nat) (p1:Y2) (out3:Z14) (x4:Int):Z16:=varr N (vbey) N p1 out3 x4
def V18 (N:Nat) (p_0:Y2):Z16:=vbmr (vbio N) p_0
def S_V18:Sig:=⟨Q11,[0],[],.unit,Q14,P5,fun x=>V18 big x.1⟩
def A_V18:Cfg:=mkCfg tab [(110,S_V17)] [(6,[.drop,.as Q4 P5,.drop,.as Q14 P5,.as I .i]),(12,[.drop,.as Q4 P5,.drop,.as Q14 P5,.as I .i,.as I .i]),(21,(dr 3 [.as Q14 P5])),(9,[.drop,.as Q4 P5,.drop,.as Q14 P5,.as I .i])]
noncomputable def vhh (N n:Nat) (K:Ex→St→Z16) (p1:Y2) (out3:Z14) (x4:Int):Z16:=iter ((A_V18).shape 6) (run (A_V18) N (codeAt Try.f98 [1,1,0,1,0,0])) n ([.u,W2 p1,.u,.val Q14 P5 out3,W0 x4]++us 27) K
noncomputable def vjm (N n:Nat) (K:Ex→St→Z16) (p1:Y2) (out3:Z14) (x4 y5:Int):Z16:=iter ((A_V18).shape 12) (run (A_V18) N (codeAt Try.f98 [1,1,0,1,0,0,1,0,0,1,0,0])) n ([.u,W2 p1,.u,.val Q14 P5 out3,W0 x4,W0 y5]++us 26) K
noncomputable abbrev vaoq:Ex→St→Z16:=finish (A_V18) S_V18 Try.f98.results.toList
noncomputable abbrev vaaw (kX:St→Z16) (out3:Z14):Z16:=kX ((ud 3 [.val Q14 P5 out3])++us 28)
noncomputable abbrev vjw (kX:St→Z16) (kO:Nat→St→Z16):Ex→St→Z16:=exK vaoq 0 ((A_V18).shape 21) kX kO
noncomputable abbrev vatm (kX:St→Z16) (p1:Y2) (out3:Z14) (x4:Int):Z16:=kX ([.u,W2 p1,.u,.val Q14 P5 out3,W0 x4]++us 27)
noncomputable abbrev vafb (kX:St→Z16) (kO:Nat→St→Z16):Ex→St→Z16:=exK vaoq 2 ((A_V18).shape 9) kX kO
theorem valb (N kX kO):∀ n,vjm N n (vafb kX kO)=vavp N (vatm kX) n
 | 0=>rfl
 | m+1=>(show vjm N (m+1) (vafb kX kO)=vbdn (vjm N m (vafb kX kO)) (vatm kX) by kernel_rfl).trans (by rw[valb N kX kO m];funext _ _ _ _;rfl)
noncomputable abbrev vaij (N m:Nat) (kX:St→Z16) (kO:Nat→St→Z16):Ex→St→Z16:=(blockK 2 (blockK 1 (sqK (A_V18) N 9 500004 (codeAt Try.f98 [1,1,0,1,0,0,1,1]) (itK (A_V18) N 6 (codeAt Try.f98 [1,1,0,1,0,0]) m (vjw kX kO)))))
noncomputable abbrev vbfi (N m:Nat) (kX:St→Z16) (kO:Nat→St→Z16) (st':St):Z16:=run (A_V18) N (codeAt Try.f98 [1,1,0,1,0,0,1,1]) st' (itK (A_V18) N 6 (codeAt Try.f98 [1,1,0,1,0,0]) m (vjw kX kO))
theorem vbnm (N m kX kO) {r} (h:vhh N m (vjw kX kO)=r):vjm N N (vaij N m kX kO)=vbem N r (vaaw kX):=by
 rw[show vjm N N (vaij N m kX kO)=vjm N N (vafb (vbfi N m kX kO) fun j=>(vaij N m kX kO) (.exit j)) from (by funext _ _ _ _;exact vab (fun _=>by kernel_rfl) fun _=>by kernel_rfl),valb,show vatm (vbfi N m kX kO)=vbhr (vhh N m (vjw kX kO)) by kernel_rfl,h];rfl
theorem vanz (N kX kO):∀ n,vhh N n (vjw kX kO)=varr N (vaaw kX) n
 | 0=>rfl
 | m+1=>(show vhh N (m+1) (vjw kX kO)=vbek (vjm N N (vaij N m kX kO)) (vaaw kX) by kernel_rfl).trans (by rw[vbnm N m kX kO (vanz N kX kO m)];funext _ _ _;rfl)
noncomputable abbrev vagy (N:Nat):Ex→St→Z16:=(blockK 0 (sqK (A_V18) N 21 500010 (codeAt Try.f98 [1,1,1]) vaoq))
noncomputable abbrev vbjr (N:Nat) (st':St):Z16:=run (A_V18) N (codeAt Try.f98 [1,1,1]) st' vaoq
theorem vbpc (N):vhh N N (vagy N)=vbio N:=by
 rw[show vhh N N (vagy N)=vhh N N (vjw (vbjr N) fun j=>(vagy N) (.exit j)) from (by funext _ _ _;exact vab (fun _=>by kernel_rfl) fun _=>by kernel_rfl),vanz,show vaaw (vbjr N)=vbey by kernel_rfl];rfl
theorem run_V18 (N x):runF (A_V18) N Try.f98 S_V18 x=V18 N x.1:=(show _=(vbmr (vhh N N (vagy N)) x.1) by kernel_rfl).trans (by rw[vbpc N];rfl)
theorem ok_V18:FnOk Try.prog 98∧Gx.Good Try.prog 98 S_V18:=gdR (A:=A_V18) tc Try.func98 (by kernel_rfl) (vaa ⟨ok_V17,trivial⟩) (run_V18 big)
def vnm (rec:Z15→Y2→Y2→Int→Y4→Z14→Int→Z5) (k:Z15→Y2→Y2→Int→Z14→Z5) (c0:Z15) (t2 p3:Y2) (n4:Int) (names5:Y4) (pairs6:Z14) (i7:Int):Z5 :=
  cond (decide (i7<(pairs6.length:Int)))
  ((atI pairs6 i7).bind fun _ =>
  (pairs6[i7.toNat]?).bind fun xq9 =>
  (pairs6[i7.toNat]?).bind fun xq10 =>
  (atI names5 xq10.1).bind fun _ =>
  (names5[xq10.1.toNat]?).bind fun xq11 =>
  (atI pairs6 i7).bind fun _ =>
  (pairs6[i7.toNat]?).bind fun xq12 =>
  (pairs6[i7.toNat]?).bind fun xq13 =>
  (atI names5 xq13.2.1).bind fun _ =>
  (names5[xq13.2.1.toNat]?).bind fun xq14 =>
  (atI pairs6 i7).bind fun _ =>
  (pairs6[i7.toNat]?).bind fun xq15 =>
  rec c0 t2 p3 n4 names5 (pairs6.set i7.toNat (xq11,(xq14,()))) (IntKind.i64.wrap (i7+1)))
  (k c0 t2 p3 n4 pairs6)
def voc (c0:Z15) (t2 p3:Y2) (n4:Int) (pairs6:Z14):Z5 :=
  (V9 big n4 pairs6).bind fun rq16 =>
  some (rq16.1,(c0,()))
def vbcd (L9:Z15→Y2→Y2→Int→Y4→Z14→Int→Z5) (c_0:Z15):Z5 :=
  (V3 c_0 (10:Int)).bind fun rq1 =>
  cond rq1.1
  ((V11 big rq1.2.1).bind fun rq2 =>
  some (rq2.1,(rq2.2.1,())))
  ((V2 rq1.2.1 (12:Int)).bind fun rq3 =>
  (V13 rq3.1).bind fun rq4 =>
  (V5 big rq3.2.1 (rq4.1.1.length:Int)).bind fun rq5 =>
  (V8 big rq5.1 (rq4.1.1.length:Int)).bind fun rq6 =>
  cond rq6.1
  ((V3 rq5.2.1 (2:Int)).bind fun rq7 =>
  cond rq7.1
  ((V18 big rq4.1).bind fun rq8 =>
  L9 rq7.2.1 (([]:Y3),()) rq4.1 (rq4.1.1.length:Int) rq5.1 rq8.1 (0:Int))
  (some (rq4.1,(rq7.2.1,()))))
  (some (rq4.1,(rq5.2.1,()))))
def vadr (N:Nat) (k:Z15→Y2→Y2→Int→Z14→Z5):Nat→Z15→Y2→Y2→Int→Y4→Z14→Int→Z5
  | 0,_,_,_,_,_,_,_=>none
  | m+1,c0,t2,p3,n4,names5,pairs6,i7=>vnm (vadr N k m) k c0 t2 p3 n4 names5 pairs6 i7
def vavt (N:Nat) (c0:Z15) (t2 p3:Y2) (n4:Int) (names5:Y4) (pairs6:Z14) (i7:Int):Z5:=vadr N (voc) N c0 t2 p3 n4 names5 pairs6 i7
def V19 (N:Nat) (c_0:Z15):Z5:=vbcd (vavt N) c_0
def S_V19:Sig:=⟨(.pair Q3 .unit),[1],[P5],(.pair Q3 .unit),Q0,.i,fun x=>V19 big x.1⟩
def A_V19:Cfg:=mkCfg tab [(94,S_V3),(95,S_V11),(63,S_V2),(64,S_V13),(96,S_V5),(97,S_V8),(98,S_V18),(99,S_V9)] [(18,[.as Q3 P5,.drop,.as Q4 P1,.as Q4 P1,.as I .i,.as Q7 P5,.as Q14 P5,.as I .i]),(25,[.as Q3 P5,.drop,.as Q4 P1,.as Q4 P1,.as I .i,.drop,.as Q14 P5])]
noncomputable def vln (N n:Nat) (K:Ex→St→Z5) (c0:Z15) (t2 p3:Y2) (n4:Int) (names5:Y4) (pairs6:Z14) (i7:Int):Z5:=iter ((A_V19).shape 18) (run (A_V19) N (codeAt Try.f62 [1,1,1,1,0,1,1,0,1,0,1,0,0])) n ([.val Q3 P5 c0,.u,W1 t2,W1 p3,W0 n4,W3 names5,.val Q14 P5 pairs6,W0 i7]++us 52) K
noncomputable abbrev vbcj:Ex→St→Z5:=finish (A_V19) S_V19 Try.f62.results.toList
noncomputable abbrev vaum (kX:St→Z5) (c0:Z15) (t2 p3:Y2) (n4:Int) (pairs6:Z14):Z5:=kX ([.val Q3 P5 c0,.u,W1 t2,W1 p3,W0 n4,.u,.val Q14 P5 pairs6]++us 53)
noncomputable abbrev vzs (kX:St→Z5) (kO:Nat→St→Z5):Ex→St→Z5:=exK vbcj 0 ((A_V19).shape 25) kX kO
theorem vank (N kX kO):∀ n,vln N n (vzs kX kO)=vadr N (vaum kX) n
 | 0=>rfl
 | m+1=>(show vln N (m+1) (vzs kX kO)=vnm (vln N m (vzs kX kO)) (vaum kX) by kernel_rfl).trans (by rw[vank N kX kO m];funext _ _ _ _ _ _ _;rfl)
noncomputable abbrev vabl (N:Nat):Ex→St→Z5:=(blockK 0 (sqK (A_V19) N 25 500012 (codeAt Try.f62 [1,1,1,1,0,1,1,0,1,1]) (sqK (A_V19) N 27 500013 (codeAt Try.f62 [1,1,1,1,1]) vbcj)))
noncomputable abbrev vbir (N:Nat) (st':St):Z5:=run (A_V19) N (codeAt Try.f62 [1,1,1,1,0,1,1,0,1,1]) st' (sqK (A_V19) N 27 500013 (codeAt Try.f62 [1,1,1,1,1]) vbcj)
theorem vbpk (N):vln N N (vabl N)=vavt N:=by
 rw[show vln N N (vabl N)=vln N N (vzs (vbir N) fun j=>(vabl N) (.exit j)) from (by funext _ _ _ _ _ _ _;exact vab (fun _=>by kernel_rfl) fun _=>by kernel_rfl),vank,show vaum (vbir N)=voc by kernel_rfl];rfl
theorem run_V19 (N x):runF (A_V19) N Try.f62 S_V19 x=V19 N x.1:=(show _=(vbcd (vln N N (vabl N)) x.1) by kernel_rfl).trans (by rw[vbpk N];rfl)
theorem ok_V19:FnOk Try.prog 62∧Gx.Good Try.prog 62 S_V19:=gdR (A:=A_V19) tc Try.func62 (by kernel_rfl) (vaa ⟨ok_V3,⟨fn_V11,good_V11⟩,ok_V2,ok_V13,ok_V5,ok_V8,ok_V18,ok_V9,trivial⟩) (run_V19 big)
def vbmk (code_0:Y4):Z3 :=
  (V19 big (code_0,((0:Int),((0:Int),())))).bind fun rq1 =>
  some (rq1.1,(()))
def V20 (code_0:Y4):Z3:=vbmk code_0
def S_V20:Sig:=⟨(.pair Q15 .unit),[0],[],.unit,Q0,.i,fun x=>V20 x.1⟩
def A_V20:Cfg:=mkCfg tab [(62,S_V19)] []
theorem run_V20 (N x):runF (A_V20) N Try.f41 S_V20 x=V20 x.1:=by kernel_rfl
theorem ok_V20:FnOk Try.prog 41∧Gx.Good Try.prog 41 S_V20:=gdR (A:=A_V20) tc Try.func41 (by kernel_rfl) (vaa ⟨ok_V19,trivial⟩) (run_V20 big)
def vbml (code_0:Y4):Z3 :=
  (V20 code_0).bind fun rq1 =>
  some (rq1.1,(()))
def V21 (code_0:Y4):Z3:=vbml code_0
def S_V21:Sig:=⟨(.pair Q15 .unit),[0],[],.unit,Q0,.i,fun x=>V21 x.1⟩
def A_V21:Cfg:=mkCfg tab [(41,S_V20)] []
theorem run_V21 (N x):runF (A_V21) N Try.f6 S_V21 x=V21 x.1:=by kernel_rfl
theorem ok_V21:FnOk Try.prog 6∧Gx.Good Try.prog 6 S_V21:=gdR (A:=A_V21) tc Try.func6 (by kernel_rfl) (vaa ⟨ok_V20,trivial⟩) (run_V21 big)
def vqo (rec:Int→Y5→Int→Int→Z13) (k:Y5→Z13) (n0:Int) (o3:Y5) (t8 t9:Int):Z13 :=
  cond (decide (t9<t8))
  ((mkI false n0).bind fun xq3=>(mkI false n0).bind fun xq4=>cond (decide (n0≤n0))
  ((atI o3 t9).bind fun _ =>
  (o3[t9.toNat]?).bind fun xq5 =>
  rec n0 (o3.set t9.toNat xq4) t8 (IntKind.i64.wrap (t9+1)))
  none)
  (k o3)
def vop (o3:Y5):Z13 :=
  some (o3,(()))
def vbbs (L3:Int→Y5→Int→Int→Z13) (n_0:Int):Z13 :=
  (mkI ([]:(List Bool)) n_0).bind fun xq1=>(mkI ([]:(List Bool)) n_0).bind fun xq2=>cond (decide (n_0≤n_0))
  (L3 n_0 xq2 (xq2.length:Int) (0:Int))
  none
def vaas (N:Nat) (k:Y5→Z13):Nat→Int→Y5→Int→Int→Z13
  | 0,_,_,_,_=>none
  | m+1,n0,o3,t8,t9=>vqo (vaas N k m) k n0 o3 t8 t9
def vavw (N:Nat) (n0:Int) (o3:Y5) (t8 t9:Int):Z13:=vaas N (vop) N n0 o3 t8 t9
def V22 (N:Nat) (n_0:Int):Z13:=vbbs (vavw N) n_0
def S_V22:Sig:=⟨(.pair I .unit),[0],[],.unit,Q6,P10,fun x=>V22 big x.1⟩
def A_V22:Cfg:=mkCfg tab [] [(6,([.as I .i,.drop,.drop,.as Q6 P10]++dr 4 [.as I .i,.as I .i])),(15,(dr 3 [.as Q6 P10]))]
noncomputable def vji (N n:Nat) (K:Ex→St→Z13) (n0:Int) (o3:Y5) (t8 t9:Int):Z13:=iter ((A_V22).shape 6) (run (A_V22) N (codeAt Try.f56 [1,1,0,1,0,0])) n (([W0 n0,.u,.u,W5 o3]++ud 4 [W0 t8,W0 t9])++us 9) K
noncomputable abbrev vbbp:Ex→St→Z13:=finish (A_V22) S_V22 Try.f56.results.toList
noncomputable abbrev vatd (kX:St→Z13) (o3:Y5):Z13:=kX ((ud 3 [W5 o3])++us 15)
noncomputable abbrev vaie (kX:St→Z13) (kO:Nat→St→Z13):Ex→St→Z13:=exK vbbp 0 ((A_V22).shape 15) kX kO
theorem vanm (N kX kO):∀ n,vji N n (vaie kX kO)=vaas N (vatd kX) n
 | 0=>rfl
 | m+1=>(show vji N (m+1) (vaie kX kO)=vqo (vji N m (vaie kX kO)) (vatd kX) by kernel_rfl).trans (by rw[vanm N kX kO m];funext _ _ _ _;rfl)
noncomputable abbrev vacy (N:Nat):Ex→St→Z13:=(blockK 0 (sqK (A_V22) N 15 500007 (codeAt Try.f56 [1,1,1]) vbbp))
noncomputable abbrev vbgf (N:Nat) (st':St):Z13:=run (A_V22) N (codeAt Try.f56 [1,1,1]) st' vbbp
theorem vbph (N):vji N N (vacy N)=vavw N:=by
 rw[show vji N N (vacy N)=vji N N (vaie (vbgf N) fun j=>(vacy N) (.exit j)) from (by funext _ _ _ _;exact vab (fun _=>by kernel_rfl) fun _=>by kernel_rfl),vanm,show vatd (vbgf N)=vop by kernel_rfl];rfl
theorem run_V22 (N x):runF (A_V22) N Try.f56 S_V22 x=V22 N x.1:=(show _=(vbbs (vji N N (vacy N)) x.1) by kernel_rfl).trans (by rw[vbph N];rfl)
theorem ok_V22:FnOk Try.prog 56∧Gx.Good Try.prog 56 S_V22:=gdR (A:=A_V22) tc Try.func56 (by kernel_rfl) (vaa trivial) (run_V22 big)
def vavs (rec:Y4→Int→Z1) (k:Z1) (list0:Y4) (i3:Int):Z1 :=
  cond (decide (i3<(list0.length:Int)))
  ((atI list0 (IntKind.i64.wrap (i3 - 1))).bind fun xq1 =>
  (atI list0 i3).bind fun xq2 =>
  cond (decide (xq2≤xq1))
  (some (false,(())))
  (rec list0 (IntKind.i64.wrap (i3+1))))
  (k)
def vaqf:Z1 :=
  some (true,(()))
def vbag (L2:Y4→Int→Z1) (list_0:Y4):Z1 :=
  L2 list_0 (1:Int)
def vsn (N:Nat) (k:Z1):Nat→Y4→Int→Z1
  | 0,_,_=>none
  | m+1,list0,i3=>vavs (vsn N k m) k list0 i3
def varc (N:Nat) (list0:Y4) (i3:Int):Z1:=vsn N (vaqf) N list0 i3
def V23 (N:Nat) (list_0:Y4):Z1:=vbag (varc N) list_0
def S_V23:Sig:=⟨Q12,[0],[],.unit,.bool,.i,fun x=>V23 big x.1⟩
def A_V23:Cfg:=mkCfg tab [] [(4,[.as Q7 .i,.drop,.drop,.as I .i]),(13,[])]
noncomputable def vjp (N n:Nat) (K:Ex→St→Z1) (list0:Y4) (i3:Int):Z1:=iter ((A_V23).shape 4) (run (A_V23) N (codeAt Try.f109 [1,0,1,0,0])) n ([W4 list0,.u,.u,W0 i3]++us 16) K
noncomputable abbrev vbac:Ex→St→Z1:=finish (A_V23) S_V23 Try.f109.results.toList
noncomputable abbrev vaqk (kX:St→Z1):Z1:=kX ([]++us 20)
noncomputable abbrev vaeq (kX:St→Z1) (kO:Nat→St→Z1):Ex→St→Z1:=exK vbac 0 ((A_V23).shape 13) kX kO
theorem vald (N kX kO):∀ n,vjp N n (vaeq kX kO)=vsn N (vaqk kX) n
 | 0=>rfl
 | m+1=>(show vjp N (m+1) (vaeq kX kO)=vavs (vjp N m (vaeq kX kO)) (vaqk kX) by kernel_rfl).trans (by rw[vald N kX kO m];funext _ _;rfl)
noncomputable abbrev vafm (N:Nat):Ex→St→Z1:=(blockK 0 (sqK (A_V23) N 13 500006 (codeAt Try.f109 [1,1]) vbac))
noncomputable abbrev vbex (N:Nat) (st':St):Z1:=run (A_V23) N (codeAt Try.f109 [1,1]) st' vbac
theorem vbol (N):vjp N N (vafm N)=varc N:=by
 rw[show vjp N N (vafm N)=vjp N N (vaeq (vbex N) fun j=>(vafm N) (.exit j)) from (by funext _ _;exact vab (fun _=>by kernel_rfl) fun _=>by kernel_rfl),vald,show vaqk (vbex N)=vaqf by kernel_rfl];rfl
theorem run_V23 (N x):runF (A_V23) N Try.f109 S_V23 x=V23 N x.1:=(show _=(vbag (vjp N N (vafm N)) x.1) by kernel_rfl).trans (by rw[vbol N];rfl)
theorem ok_V23:FnOk Try.prog 109∧Gx.Good Try.prog 109 S_V23:=gdR (A:=A_V23) tc Try.func109 (by kernel_rfl) (vaa trivial) (run_V23 big)
def vauy (rec:Int→Y4→Int→Int→Z1) (k:Z1) (n1:Int) (t7:Y4) (t8 t9:Int):Z1 :=
  cond (decide (t9<t8))
  ((atI t7 t9).bind fun xq1 =>
  cond (decide (xq1<0))
  (some (false,(())))
  (cond (decide (n1≤xq1))
  (some (false,(())))
  (rec n1 t7 t8 (IntKind.i64.wrap (t9+1)))))
  (k)
def vasb:Z1 :=
  some (true,(()))
def vbdh (L2:Int→Y4→Int→Int→Z1) (list_0:Y4) (n_1:Int):Z1 :=
  L2 n_1 list_0 (list_0.length:Int) (0:Int)
def vuh (N:Nat) (k:Z1):Nat→Int→Y4→Int→Int→Z1
  | 0,_,_,_,_=>none
  | m+1,n1,t7,t8,t9=>vauy (vuh N k m) k n1 t7 t8 t9
def vavy (N:Nat) (n1:Int) (t7:Y4) (t8 t9:Int):Z1:=vuh N (vasb) N n1 t7 t8 t9
def V24 (N:Nat) (list_0:Y4) (n_1:Int):Z1:=vbdh (vavy N) list_0 n_1
def S_V24:Sig:=⟨(.pair Q7 (.pair I .unit)),[0,0],[],.unit,.bool,.i,fun x=>V24 big x.1 x.2.1⟩
def A_V24:Cfg:=mkCfg tab [] [(4,([.drop,.as I .i]++dr 5 [.as Q7 .i,.as I .i,.as I .i])),(15,[])]
noncomputable def vlz (N n:Nat) (K:Ex→St→Z1) (n1:Int) (t7:Y4) (t8 t9:Int):Z1:=iter ((A_V24).shape 4) (run (A_V24) N (codeAt Try.f90 [1,0,1,0,0])) n (([.u,W0 n1]++ud 5 [W4 t7,W0 t8,W0 t9])++us 11) K
noncomputable abbrev vbaw:Ex→St→Z1:=finish (A_V24) S_V24 Try.f90.results.toList
noncomputable abbrev vasy (kX:St→Z1):Z1:=kX ([]++us 21)
noncomputable abbrev vaes (kX:St→Z1) (kO:Nat→St→Z1):Ex→St→Z1:=exK vbaw 0 ((A_V24).shape 15) kX kO
theorem vaki (N kX kO):∀ n,vlz N n (vaes kX kO)=vuh N (vasy kX) n
 | 0=>rfl
 | m+1=>(show vlz N (m+1) (vaes kX kO)=vauy (vlz N m (vaes kX kO)) (vasy kX) by kernel_rfl).trans (by rw[vaki N kX kO m];funext _ _ _ _;rfl)
noncomputable abbrev vaib (N:Nat):Ex→St→Z1:=(blockK 0 (sqK (A_V24) N 15 500007 (codeAt Try.f90 [1,1]) vbaw))
noncomputable abbrev vbhv (N:Nat) (st':St):Z1:=run (A_V24) N (codeAt Try.f90 [1,1]) st' vbaw
theorem vboz (N):vlz N N (vaib N)=vavy N:=by
 rw[show vlz N N (vaib N)=vlz N N (vaes (vbhv N) fun j=>(vaib N) (.exit j)) from (by funext _ _ _ _;exact vab (fun _=>by kernel_rfl) fun _=>by kernel_rfl),vaki,show vasy (vbhv N)=vasb by kernel_rfl];rfl
theorem run_V24 (N x):runF (A_V24) N Try.f90 S_V24 x=V24 N x.1 x.2.1:=(show _=(vbdh (vlz N N (vaib N)) x.1 x.2.1) by kernel_rfl).trans (by rw[vboz N];rfl)
theorem ok_V24:FnOk Try.prog 90∧Gx.Good Try.prog 90 S_V24:=gdR (A:=A_V24) tc Try.func90 (by kernel_rfl) (vaa trivial) (run_V24 big)
def viv (rec:Y5→Int→Int→Int→Int→Int→Int→Int→Int→Z1) (k:Y5→Int→Int→Int→Int→Int→Z1) (o0:Y5) (x3 y4 t7 t8 t20 t21 t46 t47:Int):Z1 :=
  cond (decide (t47<t46))
  ((atI o0 x3).bind fun xq7 =>
  (atI xq7 y4).bind fun xq8 =>
  cond xq8
  ((atI o0 y4).bind fun xq9 =>
  (atI xq9 t47).bind fun xq10 =>
  cond xq10
  ((atI o0 x3).bind fun xq11 =>
  (atI xq11 t47).bind fun xq12 =>
  cond (!xq12)
  (some (false,(())))
  (rec o0 x3 y4 t7 t8 t20 t21 t46 (IntKind.i64.wrap (t47+1))))
  (rec o0 x3 y4 t7 t8 t20 t21 t46 (IntKind.i64.wrap (t47+1))))
  (rec o0 x3 y4 t7 t8 t20 t21 t46 (IntKind.i64.wrap (t47+1))))
  (k o0 x3 t7 t8 t20 t21)
def viw (rec:Y5→Int→Int→Int→Int→Int→Z1) (o0:Y5) (x3 t7 t8 t20 t21:Int):Z1 :=
  rec o0 x3 t7 t8 t20 (IntKind.i64.wrap (t21+1))
def vpo (L12:Y5→Int→Int→Int→Int→Int→Int→Int→Int→Z1) (k:Y5→Int→Int→Z1) (o0:Y5) (x3 t7 t8 t20 t21:Int):Z1 :=
  cond (decide (t21<t20))
  (cond (decide (x3≠t21))
  ((atI o0 x3).bind fun xq3 =>
  (atI xq3 t21).bind fun xq4 =>
  cond xq4
  ((atI o0 t21).bind fun xq5 =>
  (atI xq5 x3).bind fun xq6 =>
  cond xq6
  (some (false,(())))
  (L12 o0 x3 t21 t7 t8 t20 t21 (o0.length:Int) (0:Int)))
  (L12 o0 x3 t21 t7 t8 t20 t21 (o0.length:Int) (0:Int)))
  (L12 o0 x3 t21 t7 t8 t20 t21 (o0.length:Int) (0:Int)))
  (k o0 t7 t8)
def veh (rec:Y5→Int→Int→Z1) (o0:Y5) (t7 t8:Int):Z1 :=
  rec o0 t7 (IntKind.i64.wrap (t8+1))
def vqi (L7:Y5→Int→Int→Int→Int→Int→Z1) (k:Z1) (o0:Y5) (t7 t8:Int):Z1 :=
  cond (decide (t8<t7))
  ((atI o0 t8).bind fun xq1 =>
  (atI xq1 t8).bind fun xq2 =>
  cond (!xq2)
  (some (false,(())))
  (L7 o0 t8 t7 t8 (o0.length:Int) (0:Int)))
  (k)
def vfu:Z1 :=
  some (true,(()))
def vbck (L2:Y5→Int→Int→Z1) (o_0:Y5):Z1 :=
  L2 o_0 (o_0.length:Int) (0:Int)
def vuq (N:Nat) (k:Y5→Int→Int→Int→Int→Int→Z1):Nat→Y5→Int→Int→Int→Int→Int→Int→Int→Int→Z1
  | 0,_,_,_,_,_,_,_,_,_=>none
  | m+1,o0,x3,y4,t7,t8,t20,t21,t46,t47=>viv (vuq N k m) k o0 x3 y4 t7 t8 t20 t21 t46 t47
def vir (N:Nat) (rec:Y5→Int→Int→Int→Int→Int→Z1) (k:Y5→Int→Int→Z1) (o0:Y5) (x3 y4 t7 t8 t20 t21 t46 t47:Int):Z1:=vuq N (viw rec) N o0 x3 y4 t7 t8 t20 t21 t46 t47
def vzd (N:Nat) (k:Y5→Int→Int→Z1):Nat→Y5→Int→Int→Int→Int→Int→Z1
  | 0,_,_,_,_,_,_=>none
  | m+1,o0,x3,t7,t8,t20,t21=>vpo (vir N (vzd N k m) k) k o0 x3 t7 t8 t20 t21
def vst (N:Nat) (rec:Y5→Int→Int→Z1) (k:Z1) (o0:Y5) (x3 t7 t8 t20 t21:Int):Z1:=vzd N (veh rec) N o0 x3 t7 t8 t20 t21
def vadv (N:Nat) (k:Z1):Nat→Y5→Int→Int→Z1
  | 0,_,_,_=>none
  | m+1,o0,t7,t8=>vqi (vst N (vadv N k m) k) k o0 t7 t8
def vaqu (N:Nat) (o0:Y5) (t7 t8:Int):Z1:=vadv N (vfu) N o0 t7 t8
def V25 (N:Nat) (o_0:Y5):Z1:=vbck (vaqu N) o_0
def S_V25:Sig:=⟨(.pair Q6 .unit),[0],[],.unit,.bool,.i,fun x=>V25 big x.1⟩
def A_V25:Cfg:=mkCfg tab [] [(4,([.as Q6 .i]++dr 6 [.as I .i,.as I .i])),(14,([.as Q6 .i,.drop,.drop,.as I .i]++dr 3 ([.as I .i,.as I .i]++dr 11 [.as I .i,.as I .i]))),(39,[]),(24,([.as Q6 .i,.drop,.drop,.as I .i,.as I .i,.drop,.drop,.as I .i,.as I .i]++dr 11 ([.as I .i,.as I .i]++dr 24 [.as I .i,.as I .i]))),(37,([.as Q6 .i]++dr 6 [.as I .i,.as I .i])),(35,([.as Q6 .i,.drop,.drop,.as I .i]++dr 3 ([.as I .i,.as I .i]++dr 11 [.as I .i,.as I .i])))]
noncomputable def vhb (N n:Nat) (K:Ex→St→Z1) (o0:Y5) (t7 t8:Int):Z1:=iter ((A_V25).shape 4) (run (A_V25) N (codeAt Try.f58 [1,0,1,0,0])) n (([.val Q6 .i o0]++ud 6 [W0 t7,W0 t8])++us 70) K
noncomputable def vfw (N n:Nat) (K:Ex→St→Z1) (o0:Y5) (x3 t7 t8 t20 t21:Int):Z1:=iter ((A_V25).shape 14) (run (A_V25) N (codeAt Try.f58 [1,0,1,0,0,1,1,0,0,1,1,1,0,0])) n (([.val Q6 .i o0,.u,.u,W0 x3]++ud 3 ([W0 t7,W0 t8]++ud 11 [W0 t20,W0 t21]))++us 57) K
noncomputable def vew (N n:Nat) (K:Ex→St→Z1) (o0:Y5) (x3 y4 t7 t8 t20 t21 t46 t47:Int):Z1:=iter ((A_V25).shape 24) (run (A_V25) N (codeAt Try.f58 [1,0,1,0,0,1,1,0,0,1,1,1,0,0,1,1,0,0,1,1,1,0,0])) n (([.val Q6 .i o0,.u,.u,W0 x3,W0 y4,.u,.u,W0 t7,W0 t8]++ud 11 ([W0 t20,W0 t21]++ud 24 [W0 t46,W0 t47]))++us 31) K
noncomputable abbrev vafc:Ex→St→Z1:=finish (A_V25) S_V25 Try.f58.results.toList
noncomputable abbrev vzg (kX:St→Z1):Z1:=kX ([]++us 79)
noncomputable abbrev vlp (kX:St→Z1) (kO:Nat→St→Z1):Ex→St→Z1:=exK vafc 0 ((A_V25).shape 39) kX kO
noncomputable abbrev vaag (kX:St→Z1) (o0:Y5) (t7 t8:Int):Z1:=kX (([.val Q6 .i o0]++ud 6 [W0 t7,W0 t8])++us 70)
noncomputable abbrev vjl (kX:St→Z1) (kO:Nat→St→Z1):Ex→St→Z1:=exK vafc 2 ((A_V25).shape 37) kX kO
noncomputable abbrev vajh (kX:St→Z1) (o0:Y5) (x3 t7 t8 t20 t21:Int):Z1:=kX (([.val Q6 .i o0,.u,.u,W0 x3]++ud 3 ([W0 t7,W0 t8]++ud 11 [W0 t20,W0 t21]))++us 57)
noncomputable abbrev vuk (kX:St→Z1) (kO:Nat→St→Z1):Ex→St→Z1:=exK vafc 4 ((A_V25).shape 35) kX kO
theorem vaca (N kX kO):∀ n,vew N n (vuk kX kO)=vuq N (vajh kX) n
 | 0=>rfl
 | m+1=>(show vew N (m+1) (vuk kX kO)=viv (vew N m (vuk kX kO)) (vajh kX) by kernel_rfl).trans (by rw[vaca N kX kO m];funext _ _ _ _ _ _ _ _ _;rfl)
noncomputable abbrev vvb (N m:Nat) (kX:St→Z1) (kO:Nat→St→Z1):Ex→St→Z1:=(blockK 4 (blockK 3 (sqK (A_V25) N 35 500017 (codeAt Try.f58 [1,0,1,0,0,1,1,0,0,1,1,1,0,0,1,1,1]) (itK (A_V25) N 14 (codeAt Try.f58 [1,0,1,0,0,1,1,0,0,1,1,1,0,0]) m (vjl kX kO)))))
noncomputable abbrev vaxo (N m:Nat) (kX:St→Z1) (kO:Nat→St→Z1) (st':St):Z1:=run (A_V25) N (codeAt Try.f58 [1,0,1,0,0,1,1,0,0,1,1,1,0,0,1,1,1]) st' (itK (A_V25) N 14 (codeAt Try.f58 [1,0,1,0,0,1,1,0,0,1,1,1,0,0]) m (vjl kX kO))
theorem vbkx (N m kX kO) {r} (h:vfw N m (vjl kX kO)=r):vew N N (vvb N m kX kO)=vir N r (vaag kX):=by
 rw[show vew N N (vvb N m kX kO)=vew N N (vuk (vaxo N m kX kO) fun j=>(vvb N m kX kO) (.exit j)) from (by funext _ _ _ _ _ _ _ _ _;exact vab (fun _=>by kernel_rfl) fun _=>by kernel_rfl),vaca,show vajh (vaxo N m kX kO)=viw (vfw N m (vjl kX kO)) by kernel_rfl,h];rfl
theorem vakg (N kX kO):∀ n,vfw N n (vjl kX kO)=vzd N (vaag kX) n
 | 0=>rfl
 | m+1=>(show vfw N (m+1) (vjl kX kO)=vpo (vew N N (vvb N m kX kO)) (vaag kX) by kernel_rfl).trans (by rw[vbkx N m kX kO (vakg N kX kO m)];funext _ _ _ _ _ _;rfl)
noncomputable abbrev vzb (N m:Nat) (kX:St→Z1) (kO:Nat→St→Z1):Ex→St→Z1:=(blockK 2 (blockK 1 (sqK (A_V25) N 37 500018 (codeAt Try.f58 [1,0,1,0,0,1,1,1]) (itK (A_V25) N 4 (codeAt Try.f58 [1,0,1,0,0]) m (vlp kX kO)))))
noncomputable abbrev vbji (N m:Nat) (kX:St→Z1) (kO:Nat→St→Z1) (st':St):Z1:=run (A_V25) N (codeAt Try.f58 [1,0,1,0,0,1,1,1]) st' (itK (A_V25) N 4 (codeAt Try.f58 [1,0,1,0,0]) m (vlp kX kO))
theorem vbpj (N m kX kO) {r} (h:vhb N m (vlp kX kO)=r):vfw N N (vzb N m kX kO)=vst N r (vzg kX):=by
 rw[show vfw N N (vzb N m kX kO)=vfw N N (vjl (vbji N m kX kO) fun j=>(vzb N m kX kO) (.exit j)) from (by funext _ _ _ _ _ _;exact vab (fun _=>by kernel_rfl) fun _=>by kernel_rfl),vakg,show vaag (vbji N m kX kO)=veh (vhb N m (vlp kX kO)) by kernel_rfl,h];rfl
theorem valg (N kX kO):∀ n,vhb N n (vlp kX kO)=vadv N (vzg kX) n
 | 0=>rfl
 | m+1=>(show vhb N (m+1) (vlp kX kO)=vqi (vfw N N (vzb N m kX kO)) (vzg kX) by kernel_rfl).trans (by rw[vbpj N m kX kO (valg N kX kO m)];funext _ _ _;rfl)
noncomputable abbrev vady (N:Nat):Ex→St→Z1:=(blockK 0 (sqK (A_V25) N 39 500019 (codeAt Try.f58 [1,1]) vafc))
noncomputable abbrev vbeu (N:Nat) (st':St):Z1:=run (A_V25) N (codeAt Try.f58 [1,1]) st' vafc
theorem vbov (N):vhb N N (vady N)=vaqu N:=by
 rw[show vhb N N (vady N)=vhb N N (vlp (vbeu N) fun j=>(vady N) (.exit j)) from (by funext _ _ _;exact vab (fun _=>by kernel_rfl) fun _=>by kernel_rfl),valg,show vzg (vbeu N)=vfu by kernel_rfl];rfl
theorem run_V25 (N x):runF (A_V25) N Try.f58 S_V25 x=V25 N x.1:=(show _=(vbck (vhb N N (vady N)) x.1) by kernel_rfl).trans (by rw[vbov N];rfl)
theorem ok_V25:FnOk Try.prog 58∧Gx.Good Try.prog 58 S_V25:=gdR (A:=A_V25) tc Try.func58 (by kernel_rfl) (vaa trivial) (run_V25 big)
def vjc (rec:Int→Y5→Int→Y3→Int→Int→Y4→Int→Bool→Bool→Y4→Int→Int→Z9) (k:Int→Y5→Y3→Int→Int→Y4→Int→Bool→Bool→Z9) (n4:Int) (o5:Y5) (x6:Int) (t18:Y3) (t19 t20:Int) (t29:Y4) (t30:Int) (t31 t32:Bool) (t34:Y4) (t35 t36:Int):Z9 :=
  cond (decide (t36<t35))
  ((atI t34 t36).bind fun xq6 =>
  (atI o5 xq6).bind fun _ =>
  (o5[xq6.toNat]?).bind fun xq7 =>
  (o5[xq6.toNat]?).bind fun xq8 =>
  (atI xq8 x6).bind fun _ =>
  (o5[xq6.toNat]?).bind fun xq9 =>
  (xq9[x6.toNat]?).bind fun xq10 =>
  rec n4 (o5.set xq6.toNat (xq9.set x6.toNat true)) x6 t18 t19 t20 t29 t30 t31 t32 t34 t35 (IntKind.i64.wrap (t36+1)))
  (k n4 o5 t18 t19 t20 t29 t30 t31 t32)
def vja (rec:Int→Y5→Y3→Int→Int→Z9) (n4:Int) (o5:Y5) (t18:Y3) (t19 t20:Int) (t29:Y4) (t30:Int) (t31 t32:Bool):Z9 :=
  rec n4 o5 t18 t19 (IntKind.i64.wrap (t20+1))
def vqy (L11:Int→Y5→Int→Y3→Int→Int→Y4→Int→Bool→Bool→Y4→Int→Int→Z9) (k:Y5→Z9) (n4:Int) (o5:Y5) (t18:Y3) (t19 t20:Int):Z9 :=
  cond (decide (t20<t19))
  ((atI t18 t20).bind fun xq2 =>
  (V23 big xq2).bind fun rq3 =>
  cond (!rq3.1)
  (some (([],false,()),(())))
  ((V24 big xq2 n4).bind fun rq4 =>
  cond (!rq4.1)
  (some (([],false,()),(())))
  (L11 n4 o5 t20 t18 t19 t20 xq2 n4 rq4.1 (!rq4.1) xq2 (xq2.length:Int) (0:Int))))
  (k o5)
def vfo (o5:Y5):Z9 :=
  (V25 big o5).bind fun rq5 =>
  some ((o5,rq5.1,()),(()))
def vapi (L6:Int→Y5→Y3→Int→Int→Z9) (p_0:Y2):Z9 :=
  cond (decide ((10:Int)<(p_0.1.length:Int)))
  (some (([],false,()),(())))
  ((V22 big (p_0.1.length:Int)).bind fun rq1 =>
  L6 (p_0.1.length:Int) rq1.1 p_0.1 (p_0.1.length:Int) (0:Int))
def vuv (N:Nat) (k:Int→Y5→Y3→Int→Int→Y4→Int→Bool→Bool→Z9):Nat→Int→Y5→Int→Y3→Int→Int→Y4→Int→Bool→Bool→Y4→Int→Int→Z9
  | 0,_,_,_,_,_,_,_,_,_,_,_,_,_=>none
  | m+1,n4,o5,x6,t18,t19,t20,t29,t30,t31,t32,t34,t35,t36=>vjc (vuv N k m) k n4 o5 x6 t18 t19 t20 t29 t30 t31 t32 t34 t35 t36
def vpn (N:Nat) (rec:Int→Y5→Y3→Int→Int→Z9) (k:Y5→Z9) (n4:Int) (o5:Y5) (x6:Int) (t18:Y3) (t19 t20:Int) (t29:Y4) (t30:Int) (t31 t32:Bool) (t34:Y4) (t35 t36:Int):Z9:=vuv N (vja rec) N n4 o5 x6 t18 t19 t20 t29 t30 t31 t32 t34 t35 t36
def vads (N:Nat) (k:Y5→Z9):Nat→Int→Y5→Y3→Int→Int→Z9
  | 0,_,_,_,_,_=>none
  | m+1,n4,o5,t18,t19,t20=>vqy (vpn N (vads N k m) k) k n4 o5 t18 t19 t20
def vatg (N:Nat) (n4:Int) (o5:Y5) (t18:Y3) (t19 t20:Int):Z9:=vads N (vfo) N n4 o5 t18 t19 t20
def V26 (N:Nat) (p_0:Y2):Z9:=vapi (vatg N) p_0
def S_V26:Sig:=⟨Q11,[0],[],.unit,(.tup (.pair Q6 (.pair .bool .unit))),(.p P10 .i),fun x=>V26 big x.1⟩
def A_V26:Cfg:=mkCfg tab [(56,S_V22),(109,S_V23),(90,S_V24),(58,S_V25)] [(12,(dr 4 ([.as I .i,.as Q6 P10]++dr 12 [.as (.sl Q7) .i,.as I .i,.as I .i]))),(22,(dr 4 ([.as I .i,.as Q6 P10,.as I .i]++dr 11 ([.as (.sl Q7) .i,.as I .i,.as I .i]++dr 8 [.as Q7 .i,.as I .i,.as .bool .i,.as .bool .i,.drop,.as Q7 .i,.as I .i,.as I .i])))),(33,(dr 5 [.as Q6 P10])),(31,(dr 4 ([.as I .i,.as Q6 P10]++dr 12 ([.as (.sl Q7) .i,.as I .i,.as I .i]++dr 8 [.as Q7 .i,.as I .i,.as .bool .i,.as .bool .i]))))]
noncomputable def vic (N n:Nat) (K:Ex→St→Z9) (n4:Int) (o5:Y5) (t18:Y3) (t19 t20:Int):Z9:=iter ((A_V26).shape 12) (run (A_V26) N (codeAt Try.f72 [1,1,1,1,0,1,0,0])) n ((ud 4 ([W0 n4,W5 o5]++ud 12 [.val (.sl Q7) .i t18,W0 t19,W0 t20]))++us 30) K
noncomputable def vep (N n:Nat) (K:Ex→St→Z9) (n4:Int) (o5:Y5) (x6:Int) (t18:Y3) (t19 t20:Int) (t29:Y4) (t30:Int) (t31 t32:Bool) (t34:Y4) (t35 t36:Int):Z9:=iter ((A_V26).shape 22) (run (A_V26) N (codeAt Try.f72 [1,1,1,1,0,1,0,0,1,1,0,0,1,1,1,0,0])) n ((ud 4 ([W0 n4,W5 o5,W0 x6]++ud 11 ([.val (.sl Q7) .i t18,W0 t19,W0 t20]++ud 8 [W4 t29,W0 t30,.val .bool .i t31,.val .bool .i t32,.u,W4 t34,W0 t35,W0 t36])))++us 14) K
noncomputable abbrev vaos:Ex→St→Z9:=finish (A_V26) S_V26 Try.f72.results.toList
noncomputable abbrev vaej (kX:St→Z9) (o5:Y5):Z9:=kX ((ud 5 [W5 o5])++us 45)
noncomputable abbrev vlu (kX:St→Z9) (kO:Nat→St→Z9):Ex→St→Z9:=exK vaos 0 ((A_V26).shape 33) kX kO
noncomputable abbrev vajx (kX:St→Z9) (n4:Int) (o5:Y5) (t18:Y3) (t19 t20:Int) (t29:Y4) (t30:Int) (t31 t32:Bool):Z9:=kX ((ud 4 ([W0 n4,W5 o5]++ud 12 ([.val (.sl Q7) .i t18,W0 t19,W0 t20]++ud 8 [W4 t29,W0 t30,.val .bool .i t31,.val .bool .i t32])))++us 18)
noncomputable abbrev vuy (kX:St→Z9) (kO:Nat→St→Z9):Ex→St→Z9:=exK vaos 2 ((A_V26).shape 31) kX kO
theorem vahm (N kX kO):∀ n,vep N n (vuy kX kO)=vuv N (vajx kX) n
 | 0=>rfl
 | m+1=>(show vep N (m+1) (vuy kX kO)=vjc (vep N m (vuy kX kO)) (vajx kX) by kernel_rfl).trans (by rw[vahm N kX kO m];funext _ _ _ _ _ _ _ _ _ _ _ _ _;rfl)
noncomputable abbrev vvm (N m:Nat) (kX:St→Z9) (kO:Nat→St→Z9):Ex→St→Z9:=(blockK 2 (blockK 1 (sqK (A_V26) N 31 500015 (codeAt Try.f72 [1,1,1,1,0,1,0,0,1,1,1]) (itK (A_V26) N 12 (codeAt Try.f72 [1,1,1,1,0,1,0,0]) m (vlu kX kO)))))
noncomputable abbrev vayy (N m:Nat) (kX:St→Z9) (kO:Nat→St→Z9) (st':St):Z9:=run (A_V26) N (codeAt Try.f72 [1,1,1,1,0,1,0,0,1,1,1]) st' (itK (A_V26) N 12 (codeAt Try.f72 [1,1,1,1,0,1,0,0]) m (vlu kX kO))
theorem vblv (N m kX kO) {r} (h:vic N m (vlu kX kO)=r):vep N N (vvm N m kX kO)=vpn N r (vaej kX):=by
 rw[show vep N N (vvm N m kX kO)=vep N N (vuy (vayy N m kX kO) fun j=>(vvm N m kX kO) (.exit j)) from (by funext _ _ _ _ _ _ _ _ _ _ _ _ _;exact vab (fun _=>by kernel_rfl) fun _=>by kernel_rfl),vahm,show vajx (vayy N m kX kO)=vja (vic N m (vlu kX kO)) by kernel_rfl,h];rfl
theorem vanx (N kX kO):∀ n,vic N n (vlu kX kO)=vads N (vaej kX) n
 | 0=>rfl
 | m+1=>(show vic N (m+1) (vlu kX kO)=vqy (vep N N (vvm N m kX kO)) (vaej kX) by kernel_rfl).trans (by rw[vblv N m kX kO (vanx N kX kO m)];funext _ _ _ _ _;rfl)
noncomputable abbrev vaax (N:Nat):Ex→St→Z9:=(blockK 0 (sqK (A_V26) N 33 500016 (codeAt Try.f72 [1,1,1,1,1]) vaos))
noncomputable abbrev vbfd (N:Nat) (st':St):Z9:=run (A_V26) N (codeAt Try.f72 [1,1,1,1,1]) st' vaos
theorem vbpq (N):vic N N (vaax N)=vatg N:=by
 rw[show vic N N (vaax N)=vic N N (vlu (vbfd N) fun j=>(vaax N) (.exit j)) from (by funext _ _ _ _ _;exact vab (fun _=>by kernel_rfl) fun _=>by kernel_rfl),vanx,show vaej (vbfd N)=vfo by kernel_rfl];rfl
theorem run_V26 (N x):runF (A_V26) N Try.f72 S_V26 x=V26 N x.1:=(show _=(vapi (vic N N (vaax N)) x.1) by kernel_rfl).trans (by rw[vbpq N];rfl)
theorem ok_V26:FnOk Try.prog 72∧Gx.Good Try.prog 72 S_V26:=gdR (A:=A_V26) tc Try.func72 (by kernel_rfl) (vaa ⟨ok_V22,ok_V23,ok_V24,ok_V25,trivial⟩) (run_V26 big)
def vpw (rec:Y5→Y4→Int→Bool→Y4→Int→Int→Y4→Int→Int→Z7) (k:Y5→Y4→Int→Bool→Y4→Int→Int→Z7) (o0:Y5) (list1:Y4) (x6:Int) (top7:Bool) (t10:Y4) (t11 t12:Int) (t16:Y4) (t17 t18:Int):Z7 :=
  cond (decide (t18<t17))
  ((atI t16 t18).bind fun xq2 =>
  cond top7
  ((atI o0 xq2).bind fun xq3 =>
  (atI xq3 x6).bind fun xq4 =>
  rec o0 list1 x6 xq4 t10 t11 t12 t16 t17 (IntKind.i64.wrap (t18+1)))
  (rec o0 list1 x6 false t10 t11 t12 t16 t17 (IntKind.i64.wrap (t18+1))))
  (k o0 list1 x6 top7 t10 t11 t12)
def vns (rec:Y5→Y4→Y4→Int→Int→Z7) (o0:Y5) (list1:Y4) (x6:Int) (top7:Bool) (t10:Y4) (t11 t12:Int):Z7 :=
  cond top7
  (some (x6,(())))
  (rec o0 list1 t10 t11 (IntKind.i64.wrap (t12+1)))
def vpj (L6:Y5→Y4→Int→Bool→Y4→Int→Int→Y4→Int→Int→Z7) (k:Z7) (o0:Y5) (list1 t10:Y4) (t11 t12:Int):Z7 :=
  cond (decide (t12<t11))
  ((atI t10 t12).bind fun xq1 =>
  L6 o0 list1 xq1 true t10 t11 t12 list1 (list1.length:Int) (0:Int))
  (k)
def vfv:Z7 :=
  some ((-1:Int),(()))
def vbao (L2:Y5→Y4→Y4→Int→Int→Z7) (o_0:Y5) (list_1:Y4):Z7 :=
  L2 o_0 list_1 list_1 (list_1.length:Int) (0:Int)
def vaed (N:Nat) (k:Y5→Y4→Int→Bool→Y4→Int→Int→Z7):Nat→Y5→Y4→Int→Bool→Y4→Int→Int→Y4→Int→Int→Z7
  | 0,_,_,_,_,_,_,_,_,_,_=>none
  | m+1,o0,list1,x6,top7,t10,t11,t12,t16,t17,t18=>vpw (vaed N k m) k o0 list1 x6 top7 t10 t11 t12 t16 t17 t18
def vui (N:Nat) (rec:Y5→Y4→Y4→Int→Int→Z7) (k:Z7) (o0:Y5) (list1:Y4) (x6:Int) (top7:Bool) (t10:Y4) (t11 t12:Int) (t16:Y4) (t17 t18:Int):Z7:=vaed N (vns rec) N o0 list1 x6 top7 t10 t11 t12 t16 t17 t18
def vyp (N:Nat) (k:Z7):Nat→Y5→Y4→Y4→Int→Int→Z7
  | 0,_,_,_,_,_=>none
  | m+1,o0,list1,t10,t11,t12=>vpj (vui N (vyp N k m) k) k o0 list1 t10 t11 t12
def vatf (N:Nat) (o0:Y5) (list1 t10:Y4) (t11 t12:Int):Z7:=vyp N (vfv) N o0 list1 t10 t11 t12
def V27 (N:Nat) (o_0:Y5) (list_1:Y4):Z7:=vbao (vatf N) o_0 list_1
def S_V27:Sig:=⟨(.pair Q6 Q12),[0,0],[],.unit,I,.i,fun x=>V27 big x.1 x.2.1⟩
def A_V27:Cfg:=mkCfg tab [] [(4,([.as Q6 .i,.as Q7 .i]++dr 8 [.as Q7 .i,.as I .i,.as I .i])),(12,([.as Q6 .i,.as Q7 .i]++dr 4 ([.as I .i,.as .bool .i,.drop,.drop,.as Q7 .i,.as I .i,.as I .i]++dr 3 [.as Q7 .i,.as I .i,.as I .i]))),(27,[]),(21,([.as Q6 .i,.as Q7 .i]++dr 4 [.as I .i,.as .bool .i,.drop,.drop,.as Q7 .i,.as I .i,.as I .i]))]
noncomputable def vgf (N n:Nat) (K:Ex→St→Z7) (o0:Y5) (list1 t10:Y4) (t11 t12:Int):Z7:=iter ((A_V27).shape 4) (run (A_V27) N (codeAt Try.f116 [1,0,1,0,0])) n (([.val Q6 .i o0,W4 list1]++ud 8 [W4 t10,W0 t11,W0 t12])++us 23) K
noncomputable def vjq (N n:Nat) (K:Ex→St→Z7) (o0:Y5) (list1:Y4) (x6:Int) (top7:Bool) (t10:Y4) (t11 t12:Int) (t16:Y4) (t17 t18:Int):Z7:=iter ((A_V27).shape 12) (run (A_V27) N (codeAt Try.f116 [1,0,1,0,0,1,1,0,0,1,1,0,1,0,0])) n (([.val Q6 .i o0,W4 list1]++ud 4 ([W0 x6,.val .bool .i top7,.u,.u,W4 t10,W0 t11,W0 t12]++ud 3 [W4 t16,W0 t17,W0 t18]))++us 17) K
noncomputable abbrev vaow:Ex→St→Z7:=finish (A_V27) S_V27 Try.f116.results.toList
noncomputable abbrev vacr (kX:St→Z7):Z7:=kX ([]++us 36)
noncomputable abbrev vkh (kX:St→Z7) (kO:Nat→St→Z7):Ex→St→Z7:=exK vaow 0 ((A_V27).shape 27) kX kO
noncomputable abbrev vatq (kX:St→Z7) (o0:Y5) (list1:Y4) (x6:Int) (top7:Bool) (t10:Y4) (t11 t12:Int):Z7:=kX (([.val Q6 .i o0,W4 list1]++ud 4 [W0 x6,.val .bool .i top7,.u,.u,W4 t10,W0 t11,W0 t12])++us 23)
noncomputable abbrev vyv (kX:St→Z7) (kO:Nat→St→Z7):Ex→St→Z7:=exK vaow 2 ((A_V27).shape 21) kX kO
theorem valx (N kX kO):∀ n,vjq N n (vyv kX kO)=vaed N (vatq kX) n
 | 0=>rfl
 | m+1=>(show vjq N (m+1) (vyv kX kO)=vpw (vjq N m (vyv kX kO)) (vatq kX) by kernel_rfl).trans (by rw[valx N kX kO m];funext _ _ _ _ _ _ _ _ _ _;rfl)
noncomputable abbrev vzr (N m:Nat) (kX:St→Z7) (kO:Nat→St→Z7):Ex→St→Z7:=(blockK 2 (sqK (A_V27) N 21 500010 (codeAt Try.f116 [1,0,1,0,0,1,1,0,0,1,1,1]) (blockK 1 (sqK (A_V27) N 25 500012 (codeAt Try.f116 [1,0,1,0,0,1,1,1]) (itK (A_V27) N 4 (codeAt Try.f116 [1,0,1,0,0]) m (vkh kX kO))))))
noncomputable abbrev vbia (N m:Nat) (kX:St→Z7) (kO:Nat→St→Z7) (st':St):Z7:=run (A_V27) N (codeAt Try.f116 [1,0,1,0,0,1,1,0,0,1,1,1]) st' (blockK 1 (sqK (A_V27) N 25 500012 (codeAt Try.f116 [1,0,1,0,0,1,1,1]) (itK (A_V27) N 4 (codeAt Try.f116 [1,0,1,0,0]) m (vkh kX kO))))
theorem vbnr (N m kX kO) {r} (h:vgf N m (vkh kX kO)=r):vjq N N (vzr N m kX kO)=vui N r (vacr kX):=by
 rw[show vjq N N (vzr N m kX kO)=vjq N N (vyv (vbia N m kX kO) fun j=>(vzr N m kX kO) (.exit j)) from (by funext _ _ _ _ _ _ _ _ _ _;exact vab (fun _=>by kernel_rfl) fun _=>by kernel_rfl),valx,show vatq (vbia N m kX kO)=vns (vgf N m (vkh kX kO)) by kernel_rfl,h];rfl
theorem vakn (N kX kO):∀ n,vgf N n (vkh kX kO)=vyp N (vacr kX) n
 | 0=>rfl
 | m+1=>(show vgf N (m+1) (vkh kX kO)=vpj (vjq N N (vzr N m kX kO)) (vacr kX) by kernel_rfl).trans (by rw[vbnr N m kX kO (vakn N kX kO m)];funext _ _ _ _ _;rfl)
noncomputable abbrev vacg (N:Nat):Ex→St→Z7:=(blockK 0 (sqK (A_V27) N 27 500013 (codeAt Try.f116 [1,1]) vaow))
noncomputable abbrev vbdr (N:Nat) (st':St):Z7:=run (A_V27) N (codeAt Try.f116 [1,1]) st' vaow
theorem vbre (N):vgf N N (vacg N)=vatf N:=by
 rw[show vgf N N (vacg N)=vgf N N (vkh (vbdr N) fun j=>(vacg N) (.exit j)) from (by funext _ _ _ _ _;exact vab (fun _=>by kernel_rfl) fun _=>by kernel_rfl),vakn,show vacr (vbdr N)=vfv by kernel_rfl];rfl
theorem run_V27 (N x):runF (A_V27) N Try.f116 S_V27 x=V27 N x.1 x.2.1:=(show _=(vbao (vgf N N (vacg N)) x.1 x.2.1) by kernel_rfl).trans (by rw[vbre N];rfl)
theorem ok_V27:FnOk Try.prog 116∧Gx.Good Try.prog 116 S_V27:=gdR (A:=A_V27) tc Try.func116 (by kernel_rfl) (vaa trivial) (run_V27 big)
def vbmc (z_0:Int) (p_1:Y5) (p_2 p_3:Int):Z1 :=
  (atI p_1 z_0).bind fun xq1 =>
  (atI xq1 p_2).bind fun xq2 =>
  cond xq2
  ((atI p_1 z_0).bind fun xq3 =>
  (atI xq3 p_3).bind fun xq4 =>
  some (xq4,(())))
  (some (false,(())))
def V28 (z_0:Int) (p_1:Y5) (p_2 p_3:Int):Z1:=vbmc z_0 p_1 p_2 p_3
def S_V28:Sig:=⟨(.pair I Q13),[0,0,0,0],[],.unit,.bool,.i,fun x=>V28 x.1 x.2.1 x.2.2.1 x.2.2.2.1⟩
def A_V28:Cfg:=mkCfg tab [] []
theorem run_V28 (N x):runF (A_V28) N Try.f117 S_V28 x=V28 x.1 x.2.1 x.2.2.1 x.2.2.2.1:=by kernel_rfl
theorem ok_V28:FnOk Try.prog 117∧Gx.Good Try.prog 117 S_V28:=gdR (A:=A_V28) tc Try.func117 (by kernel_rfl) (vaa trivial) (run_V28 big)
def vpt (rec:(Y5×Z2)→Y4→Int→Int→Z8) (k:Y4→Z8) (so1:(Y5×Z2)) (list5:Y4) (t9 t10:Int):Z8 :=
  cond (decide (t10<t9))
  ((V28 t10 so1.1 so1.2.1 so1.2.2.1).bind fun rq1 =>
  cond rq1.1
  ((appI list5 [t10]).bind fun xq2 =>
  rec so1 xq2 t9 (IntKind.i64.wrap (t10+1)))
  (rec so1 list5 t9 (IntKind.i64.wrap (t10+1))))
  (k list5)
def vpk (list5:Y4):Z8 :=
  some (list5,(()))
def vbae (L3:(Y5×Z2)→Y4→Int→Int→Z8) (o_0:Y5) (so_1:(Y5×Z2)):Z8 :=
  L3 so_1 [] (o_0.length:Int) (0:Int)
def vaaq (N:Nat) (k:Y4→Z8):Nat→(Y5×Z2)→Y4→Int→Int→Z8
  | 0,_,_,_,_=>none
  | m+1,so1,list5,t9,t10=>vpt (vaaq N k m) k so1 list5 t9 t10
def vash (N:Nat) (so1:(Y5×Z2)) (list5:Y4) (t9 t10:Int):Z8:=vaaq N (vpk) N so1 list5 t9 t10
def V29 (N:Nat) (o_0:Y5) (so_1:(Y5×Z2)):Z8:=vbae (vash N) o_0 so_1
def S_V29:Sig:=⟨(.pair Q6 (.pair (.clo 117 0 Q13) .unit)),[0,0],[],.unit,Q7,P5,fun x=>V29 big x.1 x.2.1⟩
def A_V29:Cfg:=mkCfg tab [(117,S_V28)] [(6,([.drop,.as (.clo 117 0 Q13) .i]++dr 3 ([.as Q7 P5]++dr 3 [.as I .i,.as I .i]))),(17,(dr 5 [.as Q7 P5]))]
noncomputable def vlw (N n:Nat) (K:Ex→St→Z8) (so1:(Y5×Z2)) (list5:Y4) (t9 t10:Int):Z8:=iter ((A_V29).shape 6) (run (A_V29) N (codeAt Try.f106 [1,1,0,1,0,0])) n (([.u,.val (.clo 117 0 Q13) .i so1]++ud 3 ([W3 list5]++ud 3 [W0 t9,W0 t10]))++us 11) K
noncomputable abbrev vbai:Ex→St→Z8:=finish (A_V29) S_V29 Try.f106.results.toList
noncomputable abbrev vary (kX:St→Z8) (list5:Y4):Z8:=kX ((ud 5 [W3 list5])++us 16)
noncomputable abbrev vaer (kX:St→Z8) (kO:Nat→St→Z8):Ex→St→Z8:=exK vbai 0 ((A_V29).shape 17) kX kO
theorem vamy (N kX kO):∀ n,vlw N n (vaer kX kO)=vaaq N (vary kX) n
 | 0=>rfl
 | m+1=>(show vlw N (m+1) (vaer kX kO)=vpt (vlw N m (vaer kX kO)) (vary kX) by kernel_rfl).trans (by rw[vamy N kX kO m];funext _ _ _ _;rfl)
noncomputable abbrev vadw (N:Nat):Ex→St→Z8:=(blockK 0 (sqK (A_V29) N 17 500008 (codeAt Try.f106 [1,1,1]) vbai))
noncomputable abbrev vbhd (N:Nat) (st':St):Z8:=run (A_V29) N (codeAt Try.f106 [1,1,1]) st' vbai
theorem vbno (N):vlw N N (vadw N)=vash N:=by
 rw[show vlw N N (vadw N)=vlw N N (vaer (vbhd N) fun j=>(vadw N) (.exit j)) from (by funext _ _ _ _;exact vab (fun _=>by kernel_rfl) fun _=>by kernel_rfl),vamy,show vary (vbhd N)=vpk by kernel_rfl];rfl
theorem run_V29 (N x):runF (A_V29) N Try.f106 S_V29 x=V29 N x.1 x.2.1:=(show _=(vbae (vlw N N (vadw N)) x.1 x.2.1) by kernel_rfl).trans (by rw[vbno N];rfl)
theorem ok_V29:FnOk Try.prog 106∧Gx.Good Try.prog 106 S_V29:=gdR (A:=A_V29) tc Try.func106 (by kernel_rfl) (vaa ⟨ok_V28,trivial⟩) (run_V29 big)
def vnv (rec:Y5→Y3→Int→Y4→Int→Int→Int→Int→Z10) (k:Y5→Y3→Y4→Int→Int→Z10) (o1:Y5) (table4:Y3) (x5:Int) (row6:Y4) (t11 t12 t17 t18:Int):Z10 :=
  cond (decide (t18<t17))
  ((V29 big o1 (o1,x5,t18,())).bind fun rq1 =>
  (V27 big o1 rq1.1).bind fun rq2 =>
  cond (decide (rq2.1<0))
  (some (([],false,()),(())))
  ((appI row6 [rq2.1]).bind fun xq3 =>
  rec o1 table4 x5 xq3 t11 t12 t17 (IntKind.i64.wrap (t18+1))))
  (k o1 table4 row6 t11 t12)
def vpp (rec:Y5→Y3→Int→Int→Z10) (o1:Y5) (table4:Y3) (row6:Y4) (t11 t12:Int):Z10 :=
  (appI table4 [row6]).bind fun xq4 =>
  rec o1 xq4 t11 (IntKind.i64.wrap (t12+1))
def vqk (L7:Y5→Y3→Int→Y4→Int→Int→Int→Int→Z10) (k:Y3→Z10) (o1:Y5) (table4:Y3) (t11 t12:Int):Z10 :=
  cond (decide (t12<t11))
  (L7 o1 table4 t12 [] t11 t12 (o1.length:Int) (0:Int))
  (k table4)
def vhn (table4:Y3):Z10 :=
  some ((table4,true,()),(()))
def vbcy (L3:Y5→Y3→Int→Int→Z10) (o_0:Y5):Z10 :=
  L3 o_0 [] (o_0.length:Int) (0:Int)
def vaab (N:Nat) (k:Y5→Y3→Y4→Int→Int→Z10):Nat→Y5→Y3→Int→Y4→Int→Int→Int→Int→Z10
  | 0,_,_,_,_,_,_,_,_=>none
  | m+1,o1,table4,x5,row6,t11,t12,t17,t18=>vnv (vaab N k m) k o1 table4 x5 row6 t11 t12 t17 t18
def vtu (N:Nat) (rec:Y5→Y3→Int→Int→Z10) (k:Y3→Z10) (o1:Y5) (table4:Y3) (x5:Int) (row6:Y4) (t11 t12 t17 t18:Int):Z10:=vaab N (vpp rec) N o1 table4 x5 row6 t11 t12 t17 t18
def vaep (N:Nat) (k:Y3→Z10):Nat→Y5→Y3→Int→Int→Z10
  | 0,_,_,_,_=>none
  | m+1,o1,table4,t11,t12=>vqk (vtu N (vaep N k m) k) k o1 table4 t11 t12
def varu (N:Nat) (o1:Y5) (table4:Y3) (t11 t12:Int):Z10:=vaep N (vhn) N o1 table4 t11 t12
def V30 (N:Nat) (o_0:Y5):Z10:=vbcy (varu N) o_0
def S_V30:Sig:=⟨(.pair Q6 .unit),[0],[],.unit,(.tup (.pair (.sl Q7) (.pair .bool .unit))),(.p P10 .i),fun x=>V30 big x.1⟩
def A_V30:Cfg:=mkCfg tab [(106,S_V29),(116,S_V27)] [(6,([.drop,.as (.ptr Q6) .i,.drop,.drop,.as (.sl Q7) P10]++dr 6 [.as I .i,.as I .i])),(14,([.drop,.as (.ptr Q6) .i,.drop,.drop,.as (.sl Q7) P10,.as (.ptr I) .i,.as Q7 P5]++dr 4 ([.as I .i,.as I .i]++dr 4 [.as I .i,.as I .i]))),(33,(dr 4 [.as (.sl Q7) P10])),(19,([.drop,.as (.ptr Q6) .i,.drop,.drop,.as (.sl Q7) P10,.as (.ptr I) .i,.as Q7 P5,.as (.ptr I) .i]++dr 3 ([.as I .i,.as I .i]++dr 4 [.as I .i,.as I .i]))),(29,([.drop,.as (.ptr Q6) .i,.drop,.drop,.as (.sl Q7) P10,.drop,.as Q7 P5]++dr 4 [.as I .i,.as I .i]))]
noncomputable def vhf (N n:Nat) (K:Ex→St→Z10) (o1:Y5) (table4:Y3) (t11 t12:Int):Z10:=iter ((A_V30).shape 6) (run (A_V30) N (codeAt Try.f88 [1,1,0,1,0,0])) n (([.u,.val (.ptr Q6) .i o1,.u,.u,.val (.sl Q7) P10 table4]++ud 6 [W0 t11,W0 t12])++us 26) K
noncomputable def vkc (N n:Nat) (K:Ex→St→Z10) (o1:Y5) (table4:Y3) (x5:Int) (row6:Y4) (t11 t12 t17 t18:Int):Z10:=iter ((A_V30).shape 14) (run (A_V30) N (codeAt Try.f88 [1,1,0,1,0,0,1,1,0,0,1,1,0,1,0,0])) n (([.u,.val (.ptr Q6) .i o1,.u,.u,.val (.sl Q7) P10 table4,.val (.ptr I) .i x5,W3 row6]++ud 4 ([W0 t11,W0 t12]++ud 4 [W0 t17,W0 t18]))++us 20) K
noncomputable abbrev vapo:Ex→St→Z10:=finish (A_V30) S_V30 Try.f88.results.toList
noncomputable abbrev vahl (kX:St→Z10) (table4:Y3):Z10:=kX ((ud 4 [.val (.sl Q7) P10 table4])++us 34)
noncomputable abbrev vls (kX:St→Z10) (kO:Nat→St→Z10):Ex→St→Z10:=exK vapo 0 ((A_V30).shape 33) kX kO
noncomputable abbrev vate (kX:St→Z10) (o1:Y5) (table4:Y3) (row6:Y4) (t11 t12:Int):Z10:=kX (([.u,.val (.ptr Q6) .i o1,.u,.u,.val (.sl Q7) P10 table4,.u,W3 row6]++ud 4 [W0 t11,W0 t12])++us 26)
noncomputable abbrev vabu (kX:St→Z10) (kO:Nat→St→Z10):Ex→St→Z10:=exK vapo 2 ((A_V30).shape 29) kX kO
theorem vakz (N kX kO):∀ n,vkc N n (vabu kX kO)=vaab N (vate kX) n
 | 0=>rfl
 | m+1=>(show vkc N (m+1) (vabu kX kO)=vnv (vkc N m (vabu kX kO)) (vate kX) by kernel_rfl).trans (by rw[vakz N kX kO m];funext _ _ _ _ _ _ _ _;rfl)
noncomputable abbrev vahp (N m:Nat) (kX:St→Z10) (kO:Nat→St→Z10):Ex→St→Z10:=(blockK 2 (sqK (A_V30) N 29 500014 (codeAt Try.f88 [1,1,0,1,0,0,1,1,0,0,1,1,1]) (blockK 1 (sqK (A_V30) N 31 500015 (codeAt Try.f88 [1,1,0,1,0,0,1,1,1]) (itK (A_V30) N 6 (codeAt Try.f88 [1,1,0,1,0,0]) m (vls kX kO))))))
noncomputable abbrev vbje (N m:Nat) (kX:St→Z10) (kO:Nat→St→Z10) (st':St):Z10:=run (A_V30) N (codeAt Try.f88 [1,1,0,1,0,0,1,1,0,0,1,1,1]) st' (blockK 1 (sqK (A_V30) N 31 500015 (codeAt Try.f88 [1,1,0,1,0,0,1,1,1]) (itK (A_V30) N 6 (codeAt Try.f88 [1,1,0,1,0,0]) m (vls kX kO))))
theorem vbnc (N m kX kO) {r} (h:vhf N m (vls kX kO)=r):vkc N N (vahp N m kX kO)=vtu N r (vahl kX):=by
 rw[show vkc N N (vahp N m kX kO)=vkc N N (vabu (vbje N m kX kO) fun j=>(vahp N m kX kO) (.exit j)) from (by funext _ _ _ _ _ _ _ _;exact vab (fun _=>by kernel_rfl) fun _=>by kernel_rfl),vakz,show vate (vbje N m kX kO)=vpp (vhf N m (vls kX kO)) by kernel_rfl,h];rfl
theorem vakf (N kX kO):∀ n,vhf N n (vls kX kO)=vaep N (vahl kX) n
 | 0=>rfl
 | m+1=>(show vhf N (m+1) (vls kX kO)=vqk (vkc N N (vahp N m kX kO)) (vahl kX) by kernel_rfl).trans (by rw[vbnc N m kX kO (vakf N kX kO m)];funext _ _ _ _;rfl)
noncomputable abbrev vaef (N:Nat):Ex→St→Z10:=(blockK 0 (sqK (A_V30) N 33 500016 (codeAt Try.f88 [1,1,1]) vapo))
noncomputable abbrev vbjj (N:Nat) (st':St):Z10:=run (A_V30) N (codeAt Try.f88 [1,1,1]) st' vapo
theorem vbps (N):vhf N N (vaef N)=varu N:=by
 rw[show vhf N N (vaef N)=vhf N N (vls (vbjj N) fun j=>(vaef N) (.exit j)) from (by funext _ _ _ _;exact vab (fun _=>by kernel_rfl) fun _=>by kernel_rfl),vakf,show vahl (vbjj N)=vhn by kernel_rfl];rfl
theorem run_V30 (N x):runF (A_V30) N Try.f88 S_V30 x=V30 N x.1:=(show _=(vbcy (vhf N N (vaef N)) x.1) by kernel_rfl).trans (by rw[vbps N];rfl)
theorem ok_V30:FnOk Try.prog 88∧Gx.Good Try.prog 88 S_V30:=gdR (A:=A_V30) tc Try.func88 (by kernel_rfl) (vaa ⟨ok_V29,ok_V27,trivial⟩) (run_V30 big)
def vnx (rec:Y5→Y5→Int→Int→Int→Int→Int→Z13) (k:Y5→Y5→Int→Int→Z13) (o0 d3:Y5) (x4 t10 t11 t15 t16:Int):Z13 :=
  cond (decide (t16<t15))
  ((atI d3 x4).bind fun _ =>
  (d3[x4.toNat]?).bind fun xq2 =>
  (atI o0 t16).bind fun xq3 =>
  (atI xq3 x4).bind fun xq4 =>
  (d3[x4.toNat]?).bind fun xq5 =>
  (atI xq5 t16).bind fun _ =>
  (d3[x4.toNat]?).bind fun xq6 =>
  (xq6[t16.toNat]?).bind fun xq7 =>
  rec o0 (d3.set x4.toNat (xq6.set t16.toNat xq4)) x4 t10 t11 t15 (IntKind.i64.wrap (t16+1)))
  (k o0 d3 t10 t11)
def vpu (rec:Y5→Y5→Int→Int→Z13) (o0 d3:Y5) (t10 t11:Int):Z13 :=
  rec o0 d3 t10 (IntKind.i64.wrap (t11+1))
def voe (L6:Y5→Y5→Int→Int→Int→Int→Int→Z13) (k:Y5→Z13) (o0 d3:Y5) (t10 t11:Int):Z13 :=
  cond (decide (t11<t10))
  (L6 o0 d3 t11 t10 t11 (o0.length:Int) (0:Int))
  (k d3)
def vhr (d3:Y5):Z13 :=
  some (d3,(()))
def vbbz (L3:Y5→Y5→Int→Int→Z13) (o_0:Y5):Z13 :=
  (V22 big (o_0.length:Int)).bind fun rq1 =>
  L3 o_0 rq1.1 (o_0.length:Int) (0:Int)
def vabc (N:Nat) (k:Y5→Y5→Int→Int→Z13):Nat→Y5→Y5→Int→Int→Int→Int→Int→Z13
  | 0,_,_,_,_,_,_,_=>none
  | m+1,o0,d3,x4,t10,t11,t15,t16=>vnx (vabc N k m) k o0 d3 x4 t10 t11 t15 t16
def vty (N:Nat) (rec:Y5→Y5→Int→Int→Z13) (k:Y5→Z13) (o0 d3:Y5) (x4 t10 t11 t15 t16:Int):Z13:=vabc N (vpu rec) N o0 d3 x4 t10 t11 t15 t16
def vacx (N:Nat) (k:Y5→Z13):Nat→Y5→Y5→Int→Int→Z13
  | 0,_,_,_,_=>none
  | m+1,o0,d3,t10,t11=>voe (vty N (vacx N k m) k) k o0 d3 t10 t11
def vaqm (N:Nat) (o0 d3:Y5) (t10 t11:Int):Z13:=vacx N (vhr) N o0 d3 t10 t11
def V31 (N:Nat) (o_0:Y5):Z13:=vbbz (vaqm N) o_0
def S_V31:Sig:=⟨(.pair Q6 .unit),[0],[],.unit,Q6,P10,fun x=>V31 big x.1⟩
def A_V31:Cfg:=mkCfg tab [(56,S_V22)] [(6,([.as Q6 .i,.drop,.drop,.as Q6 P10]++dr 6 [.as I .i,.as I .i])),(12,([.as Q6 .i,.drop,.drop,.as Q6 P10,.as I .i]++dr 5 ([.as I .i,.as I .i]++dr 3 [.as I .i,.as I .i]))),(23,(dr 3 [.as Q6 P10])),(21,([.as Q6 .i,.drop,.drop,.as Q6 P10]++dr 6 [.as I .i,.as I .i]))]
noncomputable def vhj (N n:Nat) (K:Ex→St→Z13) (o0 d3:Y5) (t10 t11:Int):Z13:=iter ((A_V31).shape 6) (run (A_V31) N (codeAt Try.f89 [1,1,0,1,0,0])) n (([.val Q6 .i o0,.u,.u,W5 d3]++ud 6 [W0 t10,W0 t11])++us 23) K
noncomputable def vli (N n:Nat) (K:Ex→St→Z13) (o0 d3:Y5) (x4 t10 t11 t15 t16:Int):Z13:=iter ((A_V31).shape 12) (run (A_V31) N (codeAt Try.f89 [1,1,0,1,0,0,1,1,0,0,1,1,0,0])) n (([.val Q6 .i o0,.u,.u,W5 d3,W0 x4]++ud 5 ([W0 t10,W0 t11]++ud 3 [W0 t15,W0 t16]))++us 18) K
noncomputable abbrev vaoy:Ex→St→Z13:=finish (A_V31) S_V31 Try.f89.results.toList
noncomputable abbrev vzk (kX:St→Z13) (d3:Y5):Z13:=kX ((ud 3 [W5 d3])++us 31)
noncomputable abbrev vkm (kX:St→Z13) (kO:Nat→St→Z13):Ex→St→Z13:=exK vaoy 0 ((A_V31).shape 23) kX kO
noncomputable abbrev vats (kX:St→Z13) (o0 d3:Y5) (t10 t11:Int):Z13:=kX (([.val Q6 .i o0,.u,.u,W5 d3]++ud 6 [W0 t10,W0 t11])++us 23)
noncomputable abbrev vym (kX:St→Z13) (kO:Nat→St→Z13):Ex→St→Z13:=exK vaoy 2 ((A_V31).shape 21) kX kO
theorem vanv (N kX kO):∀ n,vli N n (vym kX kO)=vabc N (vats kX) n
 | 0=>rfl
 | m+1=>(show vli N (m+1) (vym kX kO)=vnx (vli N m (vym kX kO)) (vats kX) by kernel_rfl).trans (by rw[vanv N kX kO m];funext _ _ _ _ _ _ _;rfl)
noncomputable abbrev vafl (N m:Nat) (kX:St→Z13) (kO:Nat→St→Z13):Ex→St→Z13:=(blockK 2 (blockK 1 (sqK (A_V31) N 21 500010 (codeAt Try.f89 [1,1,0,1,0,0,1,1,1]) (itK (A_V31) N 6 (codeAt Try.f89 [1,1,0,1,0,0]) m (vkm kX kO)))))
noncomputable abbrev vbiy (N m:Nat) (kX:St→Z13) (kO:Nat→St→Z13) (st':St):Z13:=run (A_V31) N (codeAt Try.f89 [1,1,0,1,0,0,1,1,1]) st' (itK (A_V31) N 6 (codeAt Try.f89 [1,1,0,1,0,0]) m (vkm kX kO))
theorem vbpz (N m kX kO) {r} (h:vhj N m (vkm kX kO)=r):vli N N (vafl N m kX kO)=vty N r (vzk kX):=by
 rw[show vli N N (vafl N m kX kO)=vli N N (vym (vbiy N m kX kO) fun j=>(vafl N m kX kO) (.exit j)) from (by funext _ _ _ _ _ _ _;exact vab (fun _=>by kernel_rfl) fun _=>by kernel_rfl),vanv,show vats (vbiy N m kX kO)=vpu (vhj N m (vkm kX kO)) by kernel_rfl,h];rfl
theorem valy (N kX kO):∀ n,vhj N n (vkm kX kO)=vacx N (vzk kX) n
 | 0=>rfl
 | m+1=>(show vhj N (m+1) (vkm kX kO)=voe (vli N N (vafl N m kX kO)) (vzk kX) by kernel_rfl).trans (by rw[vbpz N m kX kO (valy N kX kO m)];funext _ _ _ _;rfl)
noncomputable abbrev vael (N:Nat):Ex→St→Z13:=(blockK 0 (sqK (A_V31) N 23 500011 (codeAt Try.f89 [1,1,1]) vaoy))
noncomputable abbrev vbjp (N:Nat) (st':St):Z13:=run (A_V31) N (codeAt Try.f89 [1,1,1]) st' vaoy
theorem vbpo (N):vhj N N (vael N)=vaqm N:=by
 rw[show vhj N N (vael N)=vhj N N (vkm (vbjp N) fun j=>(vael N) (.exit j)) from (by funext _ _ _ _;exact vab (fun _=>by kernel_rfl) fun _=>by kernel_rfl),valy,show vzk (vbjp N)=vhr by kernel_rfl];rfl
theorem run_V31 (N x):runF (A_V31) N Try.f89 S_V31 x=V31 N x.1:=(show _=(vbbz (vhj N N (vael N)) x.1) by kernel_rfl).trans (by rw[vbpo N];rfl)
theorem ok_V31:FnOk Try.prog 89∧Gx.Good Try.prog 89 S_V31:=gdR (A:=A_V31) tc Try.func89 (by kernel_rfl) (vaa ⟨ok_V22,trivial⟩) (run_V31 big)
def vapg (p_0:Y2):Option ((Y1×(Bool×Unit))×Unit) :=
  (V26 big p_0).bind fun rq1 =>
  cond (!((((),rq1.1.2).2).1))
  (some ((none,false,()),(())))
  (cond (decide ((rq1.1.1.length:Int)=0))
  (some ((none,false,()),(())))
  ((V30 big rq1.1.1).bind fun rq2 =>
  (V31 big rq1.1.1).bind fun rq3 =>
  (V30 big rq3.1).bind fun rq4 =>
  cond ((((),rq2.1.2).2).1)
  (some ((some (rq1.1.1,(rq2.1.1,(rq4.1.1,()))),(((),rq4.1.2).2).1,()),(())))
  (some ((some (rq1.1.1,(rq2.1.1,(rq4.1.1,()))),false,()),(())))))
def V32 (p_0:Y2):Option ((Y1×(Bool×Unit))×Unit):=vapg p_0
def S_V32:Sig:=⟨Q11,[0],[],.unit,(.tup (.pair Q2 (.pair .bool .unit))),.i,fun x=>V32 x.1⟩
def A_V32:Cfg:=mkCfg tab [(72,S_V26),(88,S_V30),(89,S_V31)] []
theorem run_V32 (N x):runF (A_V32) N Try.f52 S_V32 x=V32 x.1:=by kernel_rfl
theorem ok_V32:FnOk Try.prog 52∧Gx.Good Try.prog 52 S_V32:=gdR (A:=A_V32) tc Try.func52 (by kernel_rfl) (vaa ⟨ok_V26,ok_V30,ok_V31,trivial⟩) (run_V32 big)
def vom (rec:Int→Y4→Int→Int→Z1) (k:Z1) (x1:Int) (t7:Y4) (t8 t9:Int):Z1 :=
  cond (decide (t9<t8))
  ((atI t7 t9).bind fun xq1 =>
  cond (decide (x1=xq1))
  (some (false,(())))
  (rec x1 t7 t8 (IntKind.i64.wrap (t9+1))))
  (k)
def vqa:Z1 :=
  some (true,(()))
def vbcl (L2:Int→Y4→Int→Int→Z1) (list_0:Y4) (x_1:Int):Z1 :=
  L2 x_1 list_0 (list_0.length:Int) (0:Int)
def vaal (N:Nat) (k:Z1):Nat→Int→Y4→Int→Int→Z1
  | 0,_,_,_,_=>none
  | m+1,x1,t7,t8,t9=>vom (vaal N k m) k x1 t7 t8 t9
def vavu (N:Nat) (x1:Int) (t7:Y4) (t8 t9:Int):Z1:=vaal N (vqa) N x1 t7 t8 t9
def V33 (N:Nat) (list_0:Y4) (x_1:Int):Z1:=vbcl (vavu N) list_0 x_1
def S_V33:Sig:=⟨(.pair Q7 (.pair I .unit)),[0,0],[],.unit,.bool,.i,fun x=>V33 big x.1 x.2.1⟩
def A_V33:Cfg:=mkCfg tab [] [(4,([.drop,.as I .i]++dr 5 [.as Q7 .i,.as I .i,.as I .i])),(15,[])]
noncomputable def vku (N n:Nat) (K:Ex→St→Z1) (x1:Int) (t7:Y4) (t8 t9:Int):Z1:=iter ((A_V33).shape 4) (run (A_V33) N (codeAt Try.f91 [1,0,1,0,0])) n (([.u,W0 x1]++ud 5 [W4 t7,W0 t8,W0 t9])++us 7) K
noncomputable abbrev vbcs:Ex→St→Z1:=finish (A_V33) S_V33 Try.f91.results.toList
noncomputable abbrev vaun (kX:St→Z1):Z1:=kX ([]++us 17)
noncomputable abbrev vabg (kX:St→Z1) (kO:Nat→St→Z1):Ex→St→Z1:=exK vbcs 0 ((A_V33).shape 15) kX kO
theorem valw (N kX kO):∀ n,vku N n (vabg kX kO)=vaal N (vaun kX) n
 | 0=>rfl
 | m+1=>(show vku N (m+1) (vabg kX kO)=vom (vku N m (vabg kX kO)) (vaun kX) by kernel_rfl).trans (by rw[valw N kX kO m];funext _ _ _ _;rfl)
noncomputable abbrev vafi (N:Nat):Ex→St→Z1:=(blockK 0 (sqK (A_V33) N 15 500007 (codeAt Try.f91 [1,1]) vbcs))
noncomputable abbrev vbhh (N:Nat) (st':St):Z1:=run (A_V33) N (codeAt Try.f91 [1,1]) st' vbcs
theorem vbqm (N):vku N N (vafi N)=vavu N:=by
 rw[show vku N N (vafi N)=vku N N (vabg (vbhh N) fun j=>(vafi N) (.exit j)) from (by funext _ _ _ _;exact vab (fun _=>by kernel_rfl) fun _=>by kernel_rfl),valw,show vaun (vbhh N)=vqa by kernel_rfl];rfl
theorem run_V33 (N x):runF (A_V33) N Try.f91 S_V33 x=V33 N x.1 x.2.1:=(show _=(vbcl (vku N N (vafi N)) x.1 x.2.1) by kernel_rfl).trans (by rw[vbqm N];rfl)
theorem ok_V33:FnOk Try.prog 91∧Gx.Good Try.prog 91 S_V33:=gdR (A:=A_V33) tc Try.func91 (by kernel_rfl) (vaa trivial) (run_V33 big)
def vrb (rec:Y4→Y4→Int→Int→Z1) (k:Z1) (list0 t5:Y4) (t6 t7:Int):Z1 :=
  cond (decide (t7<t6))
  ((atI t5 t7).bind fun xq1 =>
  (slI list0 0 t7).bind fun xq2 =>
  (V33 big xq2 xq1).bind fun rq3 =>
  cond (!rq3.1)
  (some (false,(())))
  (rec list0 t5 t6 (IntKind.i64.wrap (t7+1))))
  (k)
def vot:Z1 :=
  some (true,(()))
def vbba (L2:Y4→Y4→Int→Int→Z1) (list_0:Y4):Z1 :=
  L2 list_0 list_0 (list_0.length:Int) (0:Int)
def vzj (N:Nat) (k:Z1):Nat→Y4→Y4→Int→Int→Z1
  | 0,_,_,_,_=>none
  | m+1,list0,t5,t6,t7=>vrb (vzj N k m) k list0 t5 t6 t7
def vass (N:Nat) (list0 t5:Y4) (t6 t7:Int):Z1:=vzj N (vot) N list0 t5 t6 t7
def V34 (N:Nat) (list_0:Y4):Z1:=vbba (vass N) list_0
def S_V34:Sig:=⟨Q12,[0],[],.unit,.bool,.i,fun x=>V34 big x.1⟩
def A_V34:Cfg:=mkCfg tab [(91,S_V33)] [(4,([.as Q7 .i]++dr 4 [.as Q7 .i,.as I .i,.as I .i])),(15,[])]
noncomputable def vkv (N n:Nat) (K:Ex→St→Z1) (list0 t5:Y4) (t6 t7:Int):Z1:=iter ((A_V34).shape 4) (run (A_V34) N (codeAt Try.f83 [1,0,1,0,0])) n (([W4 list0]++ud 4 [W4 t5,W0 t6,W0 t7])++us 11) K
noncomputable abbrev vbcv:Ex→St→Z1:=finish (A_V34) S_V34 Try.f83.results.toList
noncomputable abbrev vaty (kX:St→Z1):Z1:=kX ([]++us 19)
noncomputable abbrev vacl (kX:St→Z1) (kO:Nat→St→Z1):Ex→St→Z1:=exK vbcv 0 ((A_V34).shape 15) kX kO
theorem vakm (N kX kO):∀ n,vkv N n (vacl kX kO)=vzj N (vaty kX) n
 | 0=>rfl
 | m+1=>(show vkv N (m+1) (vacl kX kO)=vrb (vkv N m (vacl kX kO)) (vaty kX) by kernel_rfl).trans (by rw[vakm N kX kO m];funext _ _ _ _;rfl)
noncomputable abbrev vzf (N:Nat):Ex→St→Z1:=(blockK 0 (sqK (A_V34) N 15 500007 (codeAt Try.f83 [1,1]) vbcv))
noncomputable abbrev vbep (N:Nat) (st':St):Z1:=run (A_V34) N (codeAt Try.f83 [1,1]) st' vbcv
theorem vbra (N):vkv N N (vzf N)=vass N:=by
 rw[show vkv N N (vzf N)=vkv N N (vacl (vbep N) fun j=>(vzf N) (.exit j)) from (by funext _ _ _ _;exact vab (fun _=>by kernel_rfl) fun _=>by kernel_rfl),vakm,show vaty (vbep N)=vot by kernel_rfl];rfl
theorem run_V34 (N x):runF (A_V34) N Try.f83 S_V34 x=V34 N x.1:=(show _=(vbba (vkv N N (vzf N)) x.1) by kernel_rfl).trans (by rw[vbra N];rfl)
theorem ok_V34:FnOk Try.prog 83∧Gx.Good Try.prog 83 S_V34:=gdR (A:=A_V34) tc Try.func83 (by kernel_rfl) (vaa ⟨ok_V33,trivial⟩) (run_V34 big)
def voa (rec:Y4→Y4→Int→Z7) (k:Y4→Y4→Z7) (s0 t1:Y4) (i5:Int):Z7 :=
  cond (decide (i5<(s0.length:Int)))
  (cond (decide (i5<(t1.length:Int)))
  ((atI s0 i5).bind fun xq1 =>
  (atI t1 i5).bind fun xq2 =>
  cond (decide (xq1≠xq2))
  ((atI s0 i5).bind fun xq3 =>
  (atI t1 i5).bind fun xq4 =>
  cond (decide (xq3<xq4))
  (some ((-1:Int),(())))
  (some ((1:Int),(()))))
  (rec s0 t1 (IntKind.i64.wrap (i5+1))))
  (k s0 t1))
  (k s0 t1)
def vok (s0 t1:Y4):Z7 :=
  cond (decide ((s0.length:Int)<(t1.length:Int)))
  (some ((-1:Int),(())))
  (cond (decide ((t1.length:Int)<(s0.length:Int)))
  (some ((1:Int),(())))
  (some ((0:Int),(()))))
def vazz (L2:Y4→Y4→Int→Z7) (s_0 t_1:Y4):Z7 :=
  L2 s_0 t_1 (0:Int)
def vadz (N:Nat) (k:Y4→Y4→Z7):Nat→Y4→Y4→Int→Z7
  | 0,_,_,_=>none
  | m+1,s0,t1,i5=>voa (vadz N k m) k s0 t1 i5
def vaqd (N:Nat) (s0 t1:Y4) (i5:Int):Z7:=vadz N (vok) N s0 t1 i5
def V35 (N:Nat) (s_0 t_1:Y4):Z7:=vazz (vaqd N) s_0 t_1
def S_V35:Sig:=⟨(.pair Q7 Q12),[0,0],[],.unit,I,.i,fun x=>V35 big x.1 x.2.1⟩
def A_V35:Cfg:=mkCfg tab [] [(4,([.as Q7 .i,.as Q7 .i]++dr 3 [.as I .i])),(17,[.as Q7 .i,.as Q7 .i])]
noncomputable def vki (N n:Nat) (K:Ex→St→Z7) (s0 t1:Y4) (i5:Int):Z7:=iter ((A_V35).shape 4) (run (A_V35) N (codeAt Try.f84 [1,0,1,0,0])) n (([W4 s0,W4 t1]++ud 3 [W0 i5])++us 42) K
noncomputable abbrev vbbc:Ex→St→Z7:=finish (A_V35) S_V35 Try.f84.results.toList
noncomputable abbrev vaqz (kX:St→Z7) (s0 t1:Y4):Z7:=kX ([W4 s0,W4 t1]++us 46)
noncomputable abbrev vabq (kX:St→Z7) (kO:Nat→St→Z7):Ex→St→Z7:=exK vbbc 0 ((A_V35).shape 17) kX kO
theorem vanl (N kX kO):∀ n,vki N n (vabq kX kO)=vadz N (vaqz kX) n
 | 0=>rfl
 | m+1=>(show vki N (m+1) (vabq kX kO)=voa (vki N m (vabq kX kO)) (vaqz kX) by kernel_rfl).trans (by rw[vanl N kX kO m];funext _ _ _;rfl)
noncomputable abbrev vaig (N:Nat):Ex→St→Z7:=(blockK 0 (sqK (A_V35) N 17 500008 (codeAt Try.f84 [1,1]) vbbc))
noncomputable abbrev vbjn (N:Nat) (st':St):Z7:=run (A_V35) N (codeAt Try.f84 [1,1]) st' vbbc
theorem vbot (N):vki N N (vaig N)=vaqd N:=by
 rw[show vki N N (vaig N)=vki N N (vabq (vbjn N) fun j=>(vaig N) (.exit j)) from (by funext _ _ _;exact vab (fun _=>by kernel_rfl) fun _=>by kernel_rfl),vanl,show vaqz (vbjn N)=vok by kernel_rfl];rfl
theorem run_V35 (N x):runF (A_V35) N Try.f84 S_V35 x=V35 N x.1 x.2.1:=(show _=(vazz (vki N N (vaig N)) x.1 x.2.1) by kernel_rfl).trans (by rw[vbot N];rfl)
theorem ok_V35:FnOk Try.prog 84∧Gx.Good Try.prog 84 S_V35:=gdR (A:=A_V35) tc Try.func84 (by kernel_rfl) (vaa trivial) (run_V35 big)
def vbme (o_0:Y5) (x_1 y_2:Int):Z1 :=
  cond (decide (x_1≠y_2))
  ((atI o_0 x_1).bind fun xq1 =>
  (atI xq1 y_2).bind fun xq2 =>
  some (xq2,(())))
  (some (false,(())))
def V36 (o_0:Y5) (x_1 y_2:Int):Z1:=vbme o_0 x_1 y_2
def S_V36:Sig:=⟨(.pair Q6 Q8),[0,0,0],[],.unit,.bool,.i,fun x=>V36 x.1 x.2.1 x.2.2.1⟩
def A_V36:Cfg:=mkCfg tab [] []
theorem run_V36 (N x):runF (A_V36) N Try.f44 S_V36 x=V36 x.1 x.2.1 x.2.2.1:=by kernel_rfl
theorem ok_V36:FnOk Try.prog 44∧Gx.Good Try.prog 44 S_V36:=gdR (A:=A_V36) tc Try.func44 (by kernel_rfl) (vaa trivial) (run_V36 big)
def vbmz (l_0:Y1) (o_1 a_2 b_3 c_4 i_5:Int):Z1 :=
  (l_0).bind fun xq1 =>
  (V36 xq1.1 a_2 b_3).bind fun rq2 =>
  cond rq2.1
  ((l_0).bind fun xq3 =>
  (atI xq3.2.1 b_3).bind fun xq4 =>
  (atI xq4 c_4).bind fun xq5 =>
  cond (decide (xq5=o_1))
  ((l_0).bind fun xq6 =>
  (atI xq6.2.2.1 b_3).bind fun xq7 =>
  (atI xq7 c_4).bind fun xq8 =>
  some (decide (xq8=i_5),(())))
  (some (false,(()))))
  (some (false,(())))
def V37 (l_0:Y1) (o_1 a_2 b_3 c_4 i_5:Int):Z1:=vbmz l_0 o_1 a_2 b_3 c_4 i_5
def S_V37:Sig:=⟨(.pair Q2 (.pair I (.pair I (.pair I Q8)))),[0,0,0,0,0,0],[],.unit,.bool,.i,fun x=>V37 x.1 x.2.1 x.2.2.1 x.2.2.2.1 x.2.2.2.2.1 x.2.2.2.2.2.1⟩
def A_V37:Cfg:=mkCfg tab [(44,S_V36)] []
theorem run_V37 (N x):runF (A_V37) N Try.f43 S_V37 x=V37 x.1 x.2.1 x.2.2.1 x.2.2.2.1 x.2.2.2.2.1 x.2.2.2.2.2.1:=by kernel_rfl
theorem ok_V37:FnOk Try.prog 43∧Gx.Good Try.prog 43 S_V37:=gdR (A:=A_V37) tc Try.func43 (by kernel_rfl) (vaa ⟨ok_V36,trivial⟩) (run_V37 big)
def vdk (rec:Unit→Y1→Y4→Int→Int→Int→Int→Int→Int→Int→Int→Z0) (k:Unit→Y1→Y4→Int→Int→Int→Int→Int→Z0) (good1:Unit) (l6:Y1) (best8:Y4) (a9 b10 t26 t27 t34 t35 t42 t43:Int):Z0 :=
  cond (decide (t43<t42))
  ((l6).bind fun xq5 =>
  (atI xq5.2.1 a9).bind fun xq6 =>
  (atI xq6 t43).bind fun xq7 =>
  (l6).bind fun xq8 =>
  (atI xq8.2.2.1 a9).bind fun xq9 =>
  (atI xq9 t43).bind fun xq10 =>
  (V34 big [xq7,a9,b10,t43,xq10]).bind fun rq11 =>
  cond (!rq11.1)
  (rec good1 l6 best8 a9 b10 t26 t27 t34 t35 t42 (IntKind.i64.wrap (t43+1)))
  ((atI [xq7,a9,b10,t43,xq10] (0:Int)).bind fun _ =>
  ([xq7,a9,b10,t43,xq10][(0:Int).toNat]?).bind fun xq12 =>
  (atI [xq7,a9,b10,t43,xq10] (4:Int)).bind fun _ =>
  ([xq7,a9,b10,t43,xq10][(4:Int).toNat]?).bind fun xq13 =>
  (V37 l6 xq12 a9 b10 t43 xq13).bind fun rq14 =>
  cond (!rq14.1)
  (rec good1 l6 best8 a9 b10 t26 t27 t34 t35 t42 (IntKind.i64.wrap (t43+1)))
  (cond (decide ((best8.length:Int)=0))
  (rec good1 l6 [xq7,a9,b10,t43,xq10] a9 b10 t26 t27 t34 t35 t42 (IntKind.i64.wrap (t43+1)))
  ((V35 big [xq7,a9,b10,t43,xq10] best8).bind fun rq15 =>
  cond (decide (rq15.1<0))
  (rec good1 l6 [xq7,a9,b10,t43,xq10] a9 b10 t26 t27 t34 t35 t42 (IntKind.i64.wrap (t43+1)))
  (rec good1 l6 best8 a9 b10 t26 t27 t34 t35 t42 (IntKind.i64.wrap (t43+1)))))))
  (k good1 l6 best8 a9 t26 t27 t34 t35)
def ven (rec:Unit→Y1→Y4→Int→Int→Int→Int→Int→Z0) (good1:Unit) (l6:Y1) (best8:Y4) (a9 t26 t27 t34 t35:Int):Z0 :=
  rec good1 l6 best8 a9 t26 t27 t34 (IntKind.i64.wrap (t35+1))
def vgi (L12:Unit→Y1→Y4→Int→Int→Int→Int→Int→Int→Int→Int→Z0) (k:Unit→Y1→Y4→Int→Int→Z0) (good1:Unit) (l6:Y1) (best8:Y4) (a9 t26 t27 t34 t35:Int):Z0 :=
  cond (decide (t35<t34))
  ((l6).bind fun xq4 =>
  L12 good1 l6 best8 a9 t35 t26 t27 t34 t35 (xq4.1.length:Int) (0:Int))
  (k good1 l6 best8 t26 t27)
def vdr (rec:Unit→Y1→Y4→Int→Int→Z0) (good1:Unit) (l6:Y1) (best8:Y4) (t26 t27:Int):Z0 :=
  rec good1 l6 best8 t26 (IntKind.i64.wrap (t27+1))
def vgl (L9:Unit→Y1→Y4→Int→Int→Int→Int→Int→Z0) (k:Y4→Z0) (good1:Unit) (l6:Y1) (best8:Y4) (t26 t27:Int):Z0 :=
  cond (decide (t27<t26))
  ((l6).bind fun xq3 =>
  L9 good1 l6 best8 t27 t26 t27 (xq3.1.length:Int) (0:Int))
  (k best8)
def vec (best8:Y4):Z0 :=
  some ((best8,decide ((0:Int)<(best8.length:Int)),()),(()))
def vadx (L6:Unit→Y1→Y4→Int→Int→Z0) (p_0:Y2) (good_1:Unit):Z0 :=
  (V32 p_0).bind fun rq1 =>
  cond (!rq1.1.2.1)
  (some (([],false,()),(())))
  ((rq1.1.1).bind fun xq2 =>
  L6 good_1 rq1.1.1 [] (xq2.1.length:Int) (0:Int))
def vwq (N:Nat) (k:Unit→Y1→Y4→Int→Int→Int→Int→Int→Z0):Nat→Unit→Y1→Y4→Int→Int→Int→Int→Int→Int→Int→Int→Z0
  | 0,_,_,_,_,_,_,_,_,_,_,_=>none
  | m+1,good1,l6,best8,a9,b10,t26,t27,t34,t35,t42,t43=>vdk (vwq N k m) k good1 l6 best8 a9 b10 t26 t27 t34 t35 t42 t43
def vpf (N:Nat) (rec:Unit→Y1→Y4→Int→Int→Int→Int→Int→Z0) (k:Unit→Y1→Y4→Int→Int→Z0) (good1:Unit) (l6:Y1) (best8:Y4) (a9 b10 t26 t27 t34 t35 t42 t43:Int):Z0:=vwq N (ven rec) N good1 l6 best8 a9 b10 t26 t27 t34 t35 t42 t43
def vafz (N:Nat) (k:Unit→Y1→Y4→Int→Int→Z0):Nat→Unit→Y1→Y4→Int→Int→Int→Int→Int→Z0
  | 0,_,_,_,_,_,_,_,_=>none
  | m+1,good1,l6,best8,a9,t26,t27,t34,t35=>vgi (vpf N (vafz N k m) k) k good1 l6 best8 a9 t26 t27 t34 t35
def vtm (N:Nat) (rec:Unit→Y1→Y4→Int→Int→Z0) (k:Y4→Z0) (good1:Unit) (l6:Y1) (best8:Y4) (a9 t26 t27 t34 t35:Int):Z0:=vafz N (vdr rec) N good1 l6 best8 a9 t26 t27 t34 t35
def vzh (N:Nat) (k:Y4→Z0):Nat→Unit→Y1→Y4→Int→Int→Z0
  | 0,_,_,_,_,_=>none
  | m+1,good1,l6,best8,t26,t27=>vgl (vtm N (vzh N k m) k) k good1 l6 best8 t26 t27
def vsz (N:Nat) (good1:Unit) (l6:Y1) (best8:Y4) (t26 t27:Int):Z0:=vzh N (vec) N good1 l6 best8 t26 t27
def V38 (N:Nat) (p_0:Y2) (good_1:Unit):Z0:=vadx (vsz N) p_0 good_1
def S_V38:Sig:=⟨(.pair Q0 (.pair (.clo 43 0 .unit) .unit)),[0,0],[],.unit,Q9,(.p P5 .i),fun x=>V38 big x.1 x.2.1⟩
def A_V38:Cfg:=mkCfg tab [(52,S_V32),(83,S_V34),(43,S_V37),(84,S_V35)] [(12,([.drop,.as (.clo 43 0 .unit) .i]++dr 4 ([.as Q2 .i,.drop,.as Q7 P5]++dr 17 [.as I .i,.as I .i]))),(18,([.drop,.as (.clo 43 0 .unit) .i]++dr 4 ([.as Q2 .i,.drop,.as Q7 P5,.as I .i]++dr 16 ([.as I .i,.as I .i]++dr 6 [.as I .i,.as I .i])))),(43,(dr 8 [.as Q7 P5])),(24,([.drop,.as (.clo 43 0 .unit) .i]++dr 4 ([.as Q2 .i,.drop,.as Q7 P5,.as I .i,.as I .i]++dr 15 ([.as I .i,.as I .i]++dr 6 ([.as I .i,.as I .i]++dr 6 [.as I .i,.as I .i]))))),(41,([.drop,.as (.clo 43 0 .unit) .i]++dr 4 ([.as Q2 .i,.drop,.as Q7 P5]++dr 17 [.as I .i,.as I .i]))),(39,([.drop,.as (.clo 43 0 .unit) .i]++dr 4 ([.as Q2 .i,.drop,.as Q7 P5,.as I .i]++dr 16 ([.as I .i,.as I .i]++dr 6 [.as I .i,.as I .i]))))]
noncomputable def vgj (N n:Nat) (K:Ex→St→Z0) (good1:Unit) (l6:Y1) (best8:Y4) (t26 t27:Int):Z0:=iter ((A_V38).shape 12) (run (A_V38) N (codeAt Try.f42 [1,1,1,1,0,1,0,0])) n (([.u,.val (.clo 43 0 .unit) .i good1]++ud 4 ([W6 l6,.u,W3 best8]++ud 17 [W0 t26,W0 t27]))++us 77) K
noncomputable def vid (N n:Nat) (K:Ex→St→Z0) (good1:Unit) (l6:Y1) (best8:Y4) (a9 t26 t27 t34 t35:Int):Z0:=iter ((A_V38).shape 18) (run (A_V38) N (codeAt Try.f42 [1,1,1,1,0,1,0,0,1,1,0,0,1,1,0,0])) n (([.u,.val (.clo 43 0 .unit) .i good1]++ud 4 ([W6 l6,.u,W3 best8,W0 a9]++ud 16 ([W0 t26,W0 t27]++ud 6 [W0 t34,W0 t35])))++us 69) K
noncomputable def vfj (N n:Nat) (K:Ex→St→Z0) (good1:Unit) (l6:Y1) (best8:Y4) (a9 b10 t26 t27 t34 t35 t42 t43:Int):Z0:=iter ((A_V38).shape 24) (run (A_V38) N (codeAt Try.f42 [1,1,1,1,0,1,0,0,1,1,0,0,1,1,0,0,1,1,0,0,1,1,0,0])) n (([.u,.val (.clo 43 0 .unit) .i good1]++ud 4 ([W6 l6,.u,W3 best8,W0 a9,W0 b10]++ud 15 ([W0 t26,W0 t27]++ud 6 ([W0 t34,W0 t35]++ud 6 [W0 t42,W0 t43]))))++us 61) K
noncomputable abbrev vaee:Ex→St→Z0:=finish (A_V38) S_V38 Try.f42.results.toList
noncomputable abbrev vabi (kX:St→Z0) (best8:Y4):Z0:=kX ((ud 8 [W3 best8])++us 96)
noncomputable abbrev vjk (kX:St→Z0) (kO:Nat→St→Z0):Ex→St→Z0:=exK vaee 0 ((A_V38).shape 43) kX kO
noncomputable abbrev vabb (kX:St→Z0) (good1:Unit) (l6:Y1) (best8:Y4) (t26 t27:Int):Z0:=kX (([.u,.val (.clo 43 0 .unit) .i good1]++ud 4 ([W6 l6,.u,W3 best8]++ud 17 [W0 t26,W0 t27]))++us 77)
noncomputable abbrev vlh (kX:St→Z0) (kO:Nat→St→Z0):Ex→St→Z0:=exK vaee 2 ((A_V38).shape 41) kX kO
noncomputable abbrev vajd (kX:St→Z0) (good1:Unit) (l6:Y1) (best8:Y4) (a9 t26 t27 t34 t35:Int):Z0:=kX (([.u,.val (.clo 43 0 .unit) .i good1]++ud 4 ([W6 l6,.u,W3 best8,W0 a9]++ud 16 ([W0 t26,W0 t27]++ud 6 [W0 t34,W0 t35])))++us 69)
noncomputable abbrev vws (kX:St→Z0) (kO:Nat→St→Z0):Ex→St→Z0:=exK vaee 4 ((A_V38).shape 39) kX kO
theorem vafh (N kX kO):∀ n,vfj N n (vws kX kO)=vwq N (vajd kX) n
 | 0=>rfl
 | m+1=>(show vfj N (m+1) (vws kX kO)=vdk (vfj N m (vws kX kO)) (vajd kX) by kernel_rfl).trans (by rw[vafh N kX kO m];funext _ _ _ _ _ _ _ _ _ _ _;rfl)
noncomputable abbrev vux (N m:Nat) (kX:St→Z0) (kO:Nat→St→Z0):Ex→St→Z0:=(blockK 4 (blockK 3 (sqK (A_V38) N 39 500019 (codeAt Try.f42 [1,1,1,1,0,1,0,0,1,1,0,0,1,1,0,0,1,1,1]) (itK (A_V38) N 18 (codeAt Try.f42 [1,1,1,1,0,1,0,0,1,1,0,0,1,1,0,0]) m (vlh kX kO)))))
noncomputable abbrev vazn (N m:Nat) (kX:St→Z0) (kO:Nat→St→Z0) (st':St):Z0:=run (A_V38) N (codeAt Try.f42 [1,1,1,1,0,1,0,0,1,1,0,0,1,1,0,0,1,1,1]) st' (itK (A_V38) N 18 (codeAt Try.f42 [1,1,1,1,0,1,0,0,1,1,0,0,1,1,0,0]) m (vlh kX kO))
theorem vbjt (N m kX kO) {r} (h:vid N m (vlh kX kO)=r):vfj N N (vux N m kX kO)=vpf N r (vabb kX):=by
 rw[show vfj N N (vux N m kX kO)=vfj N N (vws (vazn N m kX kO) fun j=>(vux N m kX kO) (.exit j)) from (by funext _ _ _ _ _ _ _ _ _ _ _;exact vab (fun _=>by kernel_rfl) fun _=>by kernel_rfl),vafh,show vajd (vazn N m kX kO)=ven (vid N m (vlh kX kO)) by kernel_rfl,h];rfl
theorem vakh (N kX kO):∀ n,vid N n (vlh kX kO)=vafz N (vabb kX) n
 | 0=>rfl
 | m+1=>(show vid N (m+1) (vlh kX kO)=vgi (vfj N N (vux N m kX kO)) (vabb kX) by kernel_rfl).trans (by rw[vbjt N m kX kO (vakh N kX kO m)];funext _ _ _ _ _ _ _ _;rfl)
noncomputable abbrev vahc (N m:Nat) (kX:St→Z0) (kO:Nat→St→Z0):Ex→St→Z0:=(blockK 2 (blockK 1 (sqK (A_V38) N 41 500020 (codeAt Try.f42 [1,1,1,1,0,1,0,0,1,1,1]) (itK (A_V38) N 12 (codeAt Try.f42 [1,1,1,1,0,1,0,0]) m (vjk kX kO)))))
noncomputable abbrev vbhc (N m:Nat) (kX:St→Z0) (kO:Nat→St→Z0) (st':St):Z0:=run (A_V38) N (codeAt Try.f42 [1,1,1,1,0,1,0,0,1,1,1]) st' (itK (A_V38) N 12 (codeAt Try.f42 [1,1,1,1,0,1,0,0]) m (vjk kX kO))
theorem vbqr (N m kX kO) {r} (h:vgj N m (vjk kX kO)=r):vid N N (vahc N m kX kO)=vtm N r (vabi kX):=by
 rw[show vid N N (vahc N m kX kO)=vid N N (vlh (vbhc N m kX kO) fun j=>(vahc N m kX kO) (.exit j)) from (by funext _ _ _ _ _ _ _ _;exact vab (fun _=>by kernel_rfl) fun _=>by kernel_rfl),vakh,show vabb (vbhc N m kX kO)=vdr (vgj N m (vjk kX kO)) by kernel_rfl,h];rfl
theorem vaku (N kX kO):∀ n,vgj N n (vjk kX kO)=vzh N (vabi kX) n
 | 0=>rfl
 | m+1=>(show vgj N (m+1) (vjk kX kO)=vgl (vid N N (vahc N m kX kO)) (vabi kX) by kernel_rfl).trans (by rw[vbqr N m kX kO (vaku N kX kO m)];funext _ _ _ _ _;rfl)
noncomputable abbrev vyq (N:Nat):Ex→St→Z0:=(blockK 0 (sqK (A_V38) N 43 500021 (codeAt Try.f42 [1,1,1,1,1]) vaee))
noncomputable abbrev vbha (N:Nat) (st':St):Z0:=run (A_V38) N (codeAt Try.f42 [1,1,1,1,1]) st' vaee
theorem vbqd (N):vgj N N (vyq N)=vsz N:=by
 rw[show vgj N N (vyq N)=vgj N N (vjk (vbha N) fun j=>(vyq N) (.exit j)) from (by funext _ _ _ _ _;exact vab (fun _=>by kernel_rfl) fun _=>by kernel_rfl),vaku,show vabi (vbha N)=vec by kernel_rfl];rfl
theorem run_V38 (N x):runF (A_V38) N Try.f42 S_V38 x=V38 N x.1 x.2.1:=(show _=(vadx (vgj N N (vyq N)) x.1 x.2.1) by kernel_rfl).trans (by rw[vbqd N];rfl)
theorem ok_V38:FnOk Try.prog 42∧Gx.Good Try.prog 42 S_V38:=gdR (A:=A_V38) tc Try.func42 (by kernel_rfl) (vaa ⟨ok_V32,ok_V34,ok_V37,ok_V35,trivial⟩) (run_V38 big)
def vaox (p_0:Y2):Z0 :=
  (V38 big p_0 ()).bind fun rq1 =>
  some ((rq1.1.1,(((),rq1.1.2).2).1,()),(()))
def V39 (p_0:Y2):Z0:=vaox p_0
def S_V39:Sig:=⟨Q11,[0],[],.unit,Q9,(.p P5 .i),fun x=>V39 x.1⟩
def A_V39:Cfg:=mkCfg tab [(42,S_V38)] []
theorem run_V39 (N x):runF (A_V39) N Try.f7 S_V39 x=V39 x.1:=by kernel_rfl
theorem ok_V39:FnOk Try.prog 7∧Gx.Good Try.prog 7 S_V39:=gdR (A:=A_V39) tc Try.func7 (by kernel_rfl) (vaa ⟨ok_V38,trivial⟩) (run_V39 big)
def vatr (rec:Y4→Int→Int→Int→Z1) (k:Z1) (l0:Y4) (lo1 hi2 i7:Int):Z1 :=
  cond (decide (i7<(l0.length:Int)))
  ((atI l0 i7).bind fun xq1 =>
  (V6 xq1 lo1 hi2).bind fun rq2 =>
  cond (!rq2.1)
  (some (false,(())))
  (cond (decide ((0:Int)<i7))
  ((atI l0 (IntKind.i64.wrap (i7 - 1))).bind fun xq3 =>
  (atI l0 i7).bind fun xq4 =>
  cond (decide (xq4≤xq3))
  (some (false,(())))
  (rec l0 lo1 hi2 (IntKind.i64.wrap (i7+1))))
  (rec l0 lo1 hi2 (IntKind.i64.wrap (i7+1)))))
  (k)
def vtc:Z1 :=
  some (true,(()))
def vbdf (L2:Y4→Int→Int→Int→Z1) (l_0:Y4) (lo_1 hi_2:Int):Z1 :=
  L2 l_0 lo_1 hi_2 (0:Int)
def vqq (N:Nat) (k:Z1):Nat→Y4→Int→Int→Int→Z1
  | 0,_,_,_,_=>none
  | m+1,l0,lo1,hi2,i7=>vatr (vqq N k m) k l0 lo1 hi2 i7
def vasu (N:Nat) (l0:Y4) (lo1 hi2 i7:Int):Z1:=vqq N (vtc) N l0 lo1 hi2 i7
def V40 (N:Nat) (l_0:Y4) (lo_1 hi_2:Int):Z1:=vbdf (vasu N) l_0 lo_1 hi_2
def S_V40:Sig:=⟨(.pair Q7 Q8),[0,0,0],[],.unit,.bool,.i,fun x=>V40 big x.1 x.2.1 x.2.2.1⟩
def A_V40:Cfg:=mkCfg tab [(121,S_V6)] [(4,([.as Q7 .i,.as I .i,.as I .i]++dr 4 [.as I .i])),(13,[])]
noncomputable def vjz (N n:Nat) (K:Ex→St→Z1) (l0:Y4) (lo1 hi2 i7:Int):Z1:=iter ((A_V40).shape 4) (run (A_V40) N (codeAt Try.f114 [1,0,1,0,0])) n (([W4 l0,W0 lo1,W0 hi2]++ud 4 [W0 i7])++us 30) K
noncomputable abbrev vbbx:Ex→St→Z1:=finish (A_V40) S_V40 Try.f114.results.toList
noncomputable abbrev vauq (kX:St→Z1):Z1:=kX ([]++us 38)
noncomputable abbrev vyt (kX:St→Z1) (kO:Nat→St→Z1):Ex→St→Z1:=exK vbbx 0 ((A_V40).shape 13) kX kO
theorem vamu (N kX kO):∀ n,vjz N n (vyt kX kO)=vqq N (vauq kX) n
 | 0=>rfl
 | m+1=>(show vjz N (m+1) (vyt kX kO)=vatr (vjz N m (vyt kX kO)) (vauq kX) by kernel_rfl).trans (by rw[vamu N kX kO m];funext _ _ _ _;rfl)
noncomputable abbrev vahx (N:Nat):Ex→St→Z1:=(blockK 0 (sqK (A_V40) N 13 500006 (codeAt Try.f114 [1,1]) vbbx))
noncomputable abbrev vbij (N:Nat) (st':St):Z1:=run (A_V40) N (codeAt Try.f114 [1,1]) st' vbbx
theorem vbpu (N):vjz N N (vahx N)=vasu N:=by
 rw[show vjz N N (vahx N)=vjz N N (vyt (vbij N) fun j=>(vahx N) (.exit j)) from (by funext _ _ _ _;exact vab (fun _=>by kernel_rfl) fun _=>by kernel_rfl),vamu,show vauq (vbij N)=vtc by kernel_rfl];rfl
theorem run_V40 (N x):runF (A_V40) N Try.f114 S_V40 x=V40 N x.1 x.2.1 x.2.2.1:=(show _=(vbdf (vjz N N (vahx N)) x.1 x.2.1 x.2.2.1) by kernel_rfl).trans (by rw[vbpu N];rfl)
theorem ok_V40:FnOk Try.prog 114∧Gx.Good Try.prog 114 S_V40:=gdR (A:=A_V40) tc Try.func114 (by kernel_rfl) (vaa ⟨ok_V6,trivial⟩) (run_V40 big)
def vpa (rec:Y4→Y4→Int→Z1) (k:Z1) (x0 y1:Y4) (i5:Int):Z1 :=
  cond (decide (i5<(x0.length:Int)))
  ((atI x0 i5).bind fun xq1 =>
  (V14 big y1 xq1).bind fun rq2 =>
  cond (!rq2.1)
  (some (false,(())))
  (rec x0 y1 (IntKind.i64.wrap (i5+1))))
  (k)
def vra:Z1 :=
  some (true,(()))
def vbad (L2:Y4→Y4→Int→Z1) (x_0 y_1:Y4):Z1 :=
  L2 x_0 y_1 (0:Int)
def vabd (N:Nat) (k:Z1):Nat→Y4→Y4→Int→Z1
  | 0,_,_,_=>none
  | m+1,x0,y1,i5=>vpa (vabd N k m) k x0 y1 i5
def vasc (N:Nat) (x0 y1:Y4) (i5:Int):Z1:=vabd N (vra) N x0 y1 i5
def V41 (N:Nat) (x_0 y_1:Y4):Z1:=vbad (vasc N) x_0 y_1
def S_V41:Sig:=⟨(.pair Q7 Q12),[0,0],[],.unit,.bool,.i,fun x=>V41 big x.1 x.2.1⟩
def A_V41:Cfg:=mkCfg tab [(87,S_V14)] [(4,([.as Q7 .i,.as Q7 .i]++dr 3 [.as I .i])),(13,[])]
noncomputable def vka (N n:Nat) (K:Ex→St→Z1) (x0 y1:Y4) (i5:Int):Z1:=iter ((A_V41).shape 4) (run (A_V41) N (codeAt Try.f115 [1,0,1,0,0])) n (([W4 x0,W4 y1]++ud 3 [W0 i5])++us 13) K
noncomputable abbrev vbcm:Ex→St→Z1:=finish (A_V41) S_V41 Try.f115.results.toList
noncomputable abbrev varz (kX:St→Z1):Z1:=kX ([]++us 19)
noncomputable abbrev vace (kX:St→Z1) (kO:Nat→St→Z1):Ex→St→Z1:=exK vbcm 0 ((A_V41).shape 13) kX kO
theorem vakj (N kX kO):∀ n,vka N n (vace kX kO)=vabd N (varz kX) n
 | 0=>rfl
 | m+1=>(show vka N (m+1) (vace kX kO)=vpa (vka N m (vace kX kO)) (varz kX) by kernel_rfl).trans (by rw[vakj N kX kO m];funext _ _ _;rfl)
noncomputable abbrev vaih (N:Nat):Ex→St→Z1:=(blockK 0 (sqK (A_V41) N 13 500006 (codeAt Try.f115 [1,1]) vbcm))
noncomputable abbrev vbfa (N:Nat) (st':St):Z1:=run (A_V41) N (codeAt Try.f115 [1,1]) st' vbcm
theorem vbqg (N):vka N N (vaih N)=vasc N:=by
 rw[show vka N N (vaih N)=vka N N (vace (vbfa N) fun j=>(vaih N) (.exit j)) from (by funext _ _ _;exact vab (fun _=>by kernel_rfl) fun _=>by kernel_rfl),vakj,show varz (vbfa N)=vra by kernel_rfl];rfl
theorem run_V41 (N x):runF (A_V41) N Try.f115 S_V41 x=V41 N x.1 x.2.1:=(show _=(vbad (vka N N (vaih N)) x.1 x.2.1) by kernel_rfl).trans (by rw[vbqg N];rfl)
theorem ok_V41:FnOk Try.prog 115∧Gx.Good Try.prog 115 S_V41:=gdR (A:=A_V41) tc Try.func115 (by kernel_rfl) (vaa ⟨ok_V14,trivial⟩) (run_V41 big)
def viu (rec:Y2→Int→Int→Int→Z1) (k:Y2→Int→Int→Z1) (p1:Y2) (n3 x5 i6:Int):Z1 :=
  (atI p1.1 x5).bind fun xq5 =>
  cond (decide (i6<(xq5.length:Int)))
  ((atI p1.1 x5).bind fun xq6 =>
  (atI xq6 i6).bind fun xq7 =>
  cond (decide (xq7≠x5))
  ((atI p1.1 xq7).bind fun xq8 =>
  (V14 big xq8 x5).bind fun rq9 =>
  cond rq9.1
  (some (false,(())))
  ((atI p1.1 xq7).bind fun xq10 =>
  (atI p1.1 x5).bind fun xq11 =>
  (V41 big xq10 xq11).bind fun rq12 =>
  cond (!rq12.1)
  (some (false,(())))
  (rec p1 n3 x5 (IntKind.i64.wrap (i6+1)))))
  ((atI p1.1 xq7).bind fun xq13 =>
  (atI p1.1 x5).bind fun xq14 =>
  (V41 big xq13 xq14).bind fun rq15 =>
  cond (!rq15.1)
  (some (false,(())))
  (rec p1 n3 x5 (IntKind.i64.wrap (i6+1)))))
  (k p1 n3 x5)
def viz (rec:Y2→Int→Int→Z1) (p1:Y2) (n3 x5:Int):Z1 :=
  rec p1 n3 (IntKind.i64.wrap (x5+1))
def viq (L13:Y2→Int→Int→Int→Z1) (k:Z1) (p1:Y2) (n3 x5:Int):Z1 :=
  cond (decide (x5<n3))
  (L13 p1 n3 x5 (0:Int))
  (k)
def vcx:Z1 :=
  some (true,(()))
def vqx (rec:Y2→Int→Int→Z1) (k:Y2→Int→Z1) (p1:Y2) (n3 x4:Int):Z1 :=
  cond (decide (x4<n3))
  ((atI p1.1 x4).bind fun xq1 =>
  (V40 big xq1 (0:Int) (IntKind.i64.wrap (n3 - 1))).bind fun rq2 =>
  cond (!rq2.1)
  (some (false,(())))
  ((atI p1.1 x4).bind fun xq3 =>
  (V14 big xq3 x4).bind fun rq4 =>
  cond (!rq4.1)
  (some (false,(())))
  (rec p1 n3 (IntKind.i64.wrap (x4+1)))))
  (k p1 n3)
def vqf (L10:Y2→Int→Int→Z1) (p1:Y2) (n3:Int):Z1 :=
  L10 p1 n3 (0:Int)
def vbbe (L5:Y2→Int→Int→Z1) (p_0:Y2):Z1 :=
  cond (decide ((10:Int)<(p_0.1.length:Int)))
  (some (false,(())))
  (L5 p_0 (p_0.1.length:Int) (0:Int))
def vum (N:Nat) (k:Y2→Int→Int→Z1):Nat→Y2→Int→Int→Int→Z1
  | 0,_,_,_,_=>none
  | m+1,p1,n3,x5,i6=>viu (vum N k m) k p1 n3 x5 i6
def vpd (N:Nat) (rec:Y2→Int→Int→Z1) (k:Z1) (p1:Y2) (n3 x5 i6:Int):Z1:=vum N (viz rec) N p1 n3 x5 i6
def vaaj (N:Nat) (k:Y2→Int→Z1):Nat→Y2→Int→Int→Z1
  | 0,_,_,_=>none
  | m+1,p1,n3,x4=>vqx (vaaj N k m) k p1 n3 x4
def vwn (N:Nat) (k:Z1):Nat→Y2→Int→Int→Z1
  | 0,_,_,_=>none
  | m+1,p1,n3,x5=>viq (vpd N (vwn N k m) k) k p1 n3 x5
def vjf (N:Nat) (p1:Y2) (n3 x5:Int):Z1:=vwn N (vcx) N p1 n3 x5
def vaul (N:Nat) (p1:Y2) (n3 x4:Int):Z1:=vaaj N (vqf (vjf N)) N p1 n3 x4
def V42 (N:Nat) (p_0:Y2):Z1:=vbbe (vaul N) p_0
def S_V42:Sig:=⟨Q11,[0],[],.unit,.bool,.i,fun x=>V42 big x.1⟩
def A_V42:Cfg:=mkCfg tab [(114,S_V40),(87,S_V14),(115,S_V41)] [(10,[.drop,.as Q4 P5,.drop,.as I .i,.as I .i]),(19,[.drop,.as Q4 P5,.drop,.as I .i]),(20,[.drop,.as Q4 P5,.drop,.as I .i,.drop,.as I .i]),(26,[.drop,.as Q4 P5,.drop,.as I .i,.drop,.as I .i,.as I .i]),(37,[]),(23,[.drop,.as Q4 P5,.drop,.as I .i,.drop,.as I .i])]
noncomputable def vll (N n:Nat) (K:Ex→St→Z1) (p1:Y2) (n3 x4:Int):Z1:=iter ((A_V42).shape 10) (run (A_V42) N (codeAt Try.f85 [1,1,1,0,1,0,0])) n ([.u,W2 p1,.u,W0 n3,W0 x4]++us 81) K
noncomputable def vdc (N n:Nat) (K:Ex→St→Z1) (p1:Y2) (n3 x5:Int):Z1:=iter ((A_V42).shape 20) (run (A_V42) N (codeAt Try.f85 [1,1,1,1,0,1,0,0])) n ([.u,W2 p1,.u,W0 n3,.u,W0 x5]++us 80) K
noncomputable def vej (N n:Nat) (K:Ex→St→Z1) (p1:Y2) (n3 x5 i6:Int):Z1:=iter ((A_V42).shape 26) (run (A_V42) N (codeAt Try.f85 [1,1,1,1,0,1,0,0,1,0,0,1,0,0])) n ([.u,W2 p1,.u,W0 n3,.u,W0 x5,W0 i6]++us 79) K
noncomputable abbrev vru:Ex→St→Z1:=finish (A_V42) S_V42 Try.f85.results.toList
noncomputable abbrev vati (kX:St→Z1) (p1:Y2) (n3:Int):Z1:=kX ([.u,W2 p1,.u,W0 n3]++us 82)
noncomputable abbrev vzo (kX:St→Z1) (kO:Nat→St→Z1):Ex→St→Z1:=exK vru 0 ((A_V42).shape 19) kX kO
noncomputable abbrev vwr (kX:St→Z1):Z1:=kX ([]++us 86)
noncomputable abbrev vfe (kX:St→Z1) (kO:Nat→St→Z1):Ex→St→Z1:=exK vru 2 ((A_V42).shape 37) kX kO
noncomputable abbrev vajf (kX:St→Z1) (p1:Y2) (n3 x5:Int):Z1:=kX ([.u,W2 p1,.u,W0 n3,.u,W0 x5]++us 80)
noncomputable abbrev vwg (kX:St→Z1) (kO:Nat→St→Z1):Ex→St→Z1:=exK vru 4 ((A_V42).shape 23) kX kO
theorem vamo (N kX kO):∀ n,vll N n (vzo kX kO)=vaaj N (vati kX) n
 | 0=>rfl
 | m+1=>(show vll N (m+1) (vzo kX kO)=vqx (vll N m (vzo kX kO)) (vati kX) by kernel_rfl).trans (by rw[vamo N kX kO m];funext _ _ _;rfl)
noncomputable abbrev vzx (N:Nat):Ex→St→Z1:=(blockK 0 (sqK (A_V42) N 19 500009 (codeAt Try.f85 [1,1,1,1]) vru))
theorem vaia (N kX kO):∀ n,vej N n (vwg kX kO)=vum N (vajf kX) n
 | 0=>rfl
 | m+1=>(show vej N (m+1) (vwg kX kO)=viu (vej N m (vwg kX kO)) (vajf kX) by kernel_rfl).trans (by rw[vaia N kX kO m];funext _ _ _ _;rfl)
noncomputable abbrev vva (N m:Nat) (kX:St→Z1) (kO:Nat→St→Z1):Ex→St→Z1:=(blockK 4 (blockK 3 (sqK (A_V42) N 23 500011 (codeAt Try.f85 [1,1,1,1,0,1,0,0,1,1]) (itK (A_V42) N 20 (codeAt Try.f85 [1,1,1,1,0,1,0,0]) m (vfe kX kO)))))
noncomputable abbrev vazi (N m:Nat) (kX:St→Z1) (kO:Nat→St→Z1) (st':St):Z1:=run (A_V42) N (codeAt Try.f85 [1,1,1,1,0,1,0,0,1,1]) st' (itK (A_V42) N 20 (codeAt Try.f85 [1,1,1,1,0,1,0,0]) m (vfe kX kO))
theorem vbkk (N m kX kO) {r} (h:vdc N m (vfe kX kO)=r):vej N N (vva N m kX kO)=vpd N r (vwr kX):=by
 rw[show vej N N (vva N m kX kO)=vej N N (vwg (vazi N m kX kO) fun j=>(vva N m kX kO) (.exit j)) from (by funext _ _ _ _;exact vab (fun _=>by kernel_rfl) fun _=>by kernel_rfl),vaia,show vajf (vazi N m kX kO)=viz (vdc N m (vfe kX kO)) by kernel_rfl,h];rfl
theorem vaif (N kX kO):∀ n,vdc N n (vfe kX kO)=vwn N (vwr kX) n
 | 0=>rfl
 | m+1=>(show vdc N (m+1) (vfe kX kO)=viq (vej N N (vva N m kX kO)) (vwr kX) by kernel_rfl).trans (by rw[vbkk N m kX kO (vaif N kX kO m)];funext _ _ _;rfl)
noncomputable abbrev vwv (N:Nat):Ex→St→Z1:=(blockK 2 (sqK (A_V42) N 37 500018 (codeAt Try.f85 [1,1,1,1,1]) vru))
noncomputable abbrev vaxi (N:Nat) (st':St):Z1:=run (A_V42) N (codeAt Try.f85 [1,1,1,1,1]) st' vru
theorem vbli (N):vdc N N (vwv N)=vjf N:=by
 rw[show vdc N N (vwv N)=vdc N N (vfe (vaxi N) fun j=>(vwv N) (.exit j)) from (by funext _ _ _;exact vab (fun _=>by kernel_rfl) fun _=>by kernel_rfl),vaif,show vwr (vaxi N)=vcx by kernel_rfl];rfl
noncomputable abbrev vbfq (N:Nat) (st':St):Z1:=run (A_V42) N (codeAt Try.f85 [1,1,1,1]) st' vru
theorem vbou (N):vll N N (vzx N)=vaul N:=by
 rw[show vll N N (vzx N)=vll N N (vzo (vbfq N) fun j=>(vzx N) (.exit j)) from (by funext _ _ _;exact vab (fun _=>by kernel_rfl) fun _=>by kernel_rfl),vamo,show vati (vbfq N)=vqf (vdc N N (vwv N)) by kernel_rfl,vbli N];rfl
theorem run_V42 (N x):runF (A_V42) N Try.f85 S_V42 x=V42 N x.1:=(show _=(vbbe (vll N N (vzx N)) x.1) by kernel_rfl).trans (by rw[vbou N];rfl)
theorem ok_V42:FnOk Try.prog 85∧Gx.Good Try.prog 85 S_V42:=gdR (A:=A_V42) tc Try.func85 (by kernel_rfl) (vaa ⟨ok_V40,ok_V14,ok_V41,trivial⟩) (run_V42 big)
def vno (rec:Y2→Y2→Y2→Int→Y4→Int→Z3) (k:Y2→Y2→Y2→Int→Y4→Z3) (p1 t2 out3:Y2) (x4:Int) (below5:Y4) (y6:Int):Z3 :=
  cond (decide (y6<(p1.1.length:Int)))
  ((V15 p1 x4 y6).bind fun rq1 =>
  cond rq1.1
  ((appI below5 [y6]).bind fun xq2 =>
  rec p1 t2 out3 x4 xq2 (IntKind.i64.wrap (y6+1)))
  (rec p1 t2 out3 x4 below5 (IntKind.i64.wrap (y6+1))))
  (k p1 t2 out3 x4 below5)
def vpg (rec:Y2→Y2→Y2→Int→Z3) (p1 t2 out3:Y2) (x4:Int) (below5:Y4):Z3 :=
  (appI out3.1 [below5]).bind fun xq3 =>
  rec p1 t2 (xq3,((),out3.2).2) (IntKind.i64.wrap (x4+1))
def von (L7:Y2→Y2→Y2→Int→Y4→Int→Z3) (k:Y2→Y2→Z3) (p1 t2 out3:Y2) (x4:Int):Z3 :=
  cond (decide (x4<(p1.1.length:Int)))
  (L7 p1 t2 out3 x4 [] (0:Int))
  (k t2 out3)
def vfz (t2 out3:Y2):Z3 :=
  some (out3,(()))
def vbdj (L3:Y2→Y2→Y2→Int→Z3) (p_0:Y2):Z3 :=
  L3 p_0 (([]:Y3),()) ([],()) (0:Int)
def vahs (N:Nat) (k:Y2→Y2→Y2→Int→Y4→Z3):Nat→Y2→Y2→Y2→Int→Y4→Int→Z3
  | 0,_,_,_,_,_,_=>none
  | m+1,p1,t2,out3,x4,below5,y6=>vno (vahs N k m) k p1 t2 out3 x4 below5 y6
def vsq (N:Nat) (rec:Y2→Y2→Y2→Int→Z3) (k:Y2→Y2→Z3) (p1 t2 out3:Y2) (x4:Int) (below5:Y4) (y6:Int):Z3:=vahs N (vpg rec) N p1 t2 out3 x4 below5 y6
def vagu (N:Nat) (k:Y2→Y2→Z3):Nat→Y2→Y2→Y2→Int→Z3
  | 0,_,_,_,_=>none
  | m+1,p1,t2,out3,x4=>von (vsq N (vagu N k m) k) k p1 t2 out3 x4
def vava (N:Nat) (p1 t2 out3:Y2) (x4:Int):Z3:=vagu N (vfz) N p1 t2 out3 x4
def V43 (N:Nat) (p_0:Y2):Z3:=vbdj (vava N) p_0
def S_V43:Sig:=⟨Q11,[0],[],.unit,Q0,(.p P10 .i),fun x=>V43 big x.1⟩
def A_V43:Cfg:=mkCfg tab [(66,S_V15)] [(6,[.drop,.as Q4 P5,.as Q4 P1,.as Q4 P1,.as I .i]),(14,[.drop,.as Q4 P5,.as Q4 P1,.as Q4 P1,.as I .i,.as Q7 P5,.as I .i]),(25,[.drop,.drop,.as Q4 P1,.as Q4 P1]),(23,[.drop,.as Q4 P5,.as Q4 P1,.as Q4 P1,.as I .i,.as Q7 P5])]
noncomputable def vfq (N n:Nat) (K:Ex→St→Z3) (p1 t2 out3:Y2) (x4:Int):Z3:=iter ((A_V43).shape 6) (run (A_V43) N (codeAt Try.f78 [1,1,0,1,0,0])) n ([.u,W2 p1,W1 t2,W1 out3,W0 x4]++us 34) K
noncomputable def vjo (N n:Nat) (K:Ex→St→Z3) (p1 t2 out3:Y2) (x4:Int) (below5:Y4) (y6:Int):Z3:=iter ((A_V43).shape 14) (run (A_V43) N (codeAt Try.f78 [1,1,0,1,0,0,1,0,0,1,0,1,0,0])) n ([.u,W2 p1,W1 t2,W1 out3,W0 x4,W3 below5,W0 y6]++us 32) K
noncomputable abbrev vapt:Ex→St→Z3:=finish (A_V43) S_V43 Try.f78.results.toList
noncomputable abbrev vagq (kX:St→Z3) (t2 out3:Y2):Z3:=kX ([.u,.u,W1 t2,W1 out3]++us 35)
noncomputable abbrev vle (kX:St→Z3) (kO:Nat→St→Z3):Ex→St→Z3:=exK vapt 0 ((A_V43).shape 25) kX kO
noncomputable abbrev vaug (kX:St→Z3) (p1 t2 out3:Y2) (x4:Int) (below5:Y4):Z3:=kX ([.u,W2 p1,W1 t2,W1 out3,W0 x4,W3 below5]++us 33)
noncomputable abbrev vaht (kX:St→Z3) (kO:Nat→St→Z3):Ex→St→Z3:=exK vapt 2 ((A_V43).shape 23) kX kO
theorem vamd (N kX kO):∀ n,vjo N n (vaht kX kO)=vahs N (vaug kX) n
 | 0=>rfl
 | m+1=>(show vjo N (m+1) (vaht kX kO)=vno (vjo N m (vaht kX kO)) (vaug kX) by kernel_rfl).trans (by rw[vamd N kX kO m];funext _ _ _ _ _ _;rfl)
noncomputable abbrev vaew (N m:Nat) (kX:St→Z3) (kO:Nat→St→Z3):Ex→St→Z3:=(blockK 2 (sqK (A_V43) N 23 500011 (codeAt Try.f78 [1,1,0,1,0,0,1,0,0,1,1]) (blockK 1 (sqK (A_V43) N 9 500004 (codeAt Try.f78 [1,1,0,1,0,0,1,1]) (itK (A_V43) N 6 (codeAt Try.f78 [1,1,0,1,0,0]) m (vle kX kO))))))
noncomputable abbrev vbdy (N m:Nat) (kX:St→Z3) (kO:Nat→St→Z3) (st':St):Z3:=run (A_V43) N (codeAt Try.f78 [1,1,0,1,0,0,1,0,0,1,1]) st' (blockK 1 (sqK (A_V43) N 9 500004 (codeAt Try.f78 [1,1,0,1,0,0,1,1]) (itK (A_V43) N 6 (codeAt Try.f78 [1,1,0,1,0,0]) m (vle kX kO))))
theorem vbos (N m kX kO) {r} (h:vfq N m (vle kX kO)=r):vjo N N (vaew N m kX kO)=vsq N r (vagq kX):=by
 rw[show vjo N N (vaew N m kX kO)=vjo N N (vaht (vbdy N m kX kO) fun j=>(vaew N m kX kO) (.exit j)) from (by funext _ _ _ _ _ _;exact vab (fun _=>by kernel_rfl) fun _=>by kernel_rfl),vamd,show vaug (vbdy N m kX kO)=vpg (vfq N m (vle kX kO)) by kernel_rfl,h];rfl
theorem vakb (N kX kO):∀ n,vfq N n (vle kX kO)=vagu N (vagq kX) n
 | 0=>rfl
 | m+1=>(show vfq N (m+1) (vle kX kO)=von (vjo N N (vaew N m kX kO)) (vagq kX) by kernel_rfl).trans (by rw[vbos N m kX kO (vakb N kX kO m)];funext _ _ _ _;rfl)
noncomputable abbrev vail (N:Nat):Ex→St→Z3:=(blockK 0 (sqK (A_V43) N 25 500012 (codeAt Try.f78 [1,1,1]) vapt))
noncomputable abbrev vbdx (N:Nat) (st':St):Z3:=run (A_V43) N (codeAt Try.f78 [1,1,1]) st' vapt
theorem vbnn (N):vfq N N (vail N)=vava N:=by
 rw[show vfq N N (vail N)=vfq N N (vle (vbdx N) fun j=>(vail N) (.exit j)) from (by funext _ _ _ _;exact vab (fun _=>by kernel_rfl) fun _=>by kernel_rfl),vakb,show vagq (vbdx N)=vfz by kernel_rfl];rfl
theorem run_V43 (N x):runF (A_V43) N Try.f78 S_V43 x=V43 N x.1:=(show _=(vbdj (vfq N N (vail N)) x.1) by kernel_rfl).trans (by rw[vbnn N];rfl)
theorem ok_V43:FnOk Try.prog 78∧Gx.Good Try.prog 78 S_V43:=gdR (A:=A_V43) tc Try.func78 (by kernel_rfl) (vaa ⟨ok_V15,trivial⟩) (run_V43 big)
def vio (rec:Y2→Y4→Int→Z7) (k:Z7) (p2:Y2) (low5:Y4) (i9:Int):Z7 :=
  cond (decide (i9<(low5.length:Int)))
  ((atI low5 i9).bind fun _ =>
  (low5[i9.toNat]?).bind fun xq4 =>
  (atI p2.1 xq4).bind fun xq5 =>
  (V41 big low5 xq5).bind fun rq6 =>
  cond rq6.1
  ((atI low5 i9).bind fun _ =>
  (low5[i9.toNat]?).bind fun xq7 =>
  some (xq7,(())))
  (rec p2 low5 (IntKind.i64.wrap (i9+1))))
  (k)
def vjd:Z7 :=
  some ((-1:Int),(()))
def vor (rec:Y4→Y2→Y4→Int→Bool→Int→Z7) (k:Y4→Y2→Y4→Int→Bool→Z7) (some1:Y4) (p2:Y2) (low5:Y4) (z6:Int) (all7:Bool) (i8:Int):Z7 :=
  cond (decide (i8<(some1.length:Int)))
  (cond all7
  ((atI some1 i8).bind fun xq1 =>
  (V15 p2 z6 xq1).bind fun rq2 =>
  rec some1 p2 low5 z6 rq2.1 (IntKind.i64.wrap (i8+1)))
  (rec some1 p2 low5 z6 false (IntKind.i64.wrap (i8+1))))
  (k some1 p2 low5 z6 all7)
def vqe (rec:Y4→Y2→Y4→Int→Z7) (some1:Y4) (p2:Y2) (low5:Y4) (z6:Int) (all7:Bool):Z7 :=
  cond all7
  ((appI low5 [z6]).bind fun xq3 =>
  rec some1 p2 xq3 (IntKind.i64.wrap (z6+1)))
  (rec some1 p2 low5 (IntKind.i64.wrap (z6+1)))
def vpq (L7:Y4→Y2→Y4→Int→Bool→Int→Z7) (k:Y2→Y4→Z7) (some1:Y4) (p2:Y2) (low5:Y4) (z6:Int):Z7 :=
  cond (decide (z6<(p2.1.length:Int)))
  (L7 some1 p2 low5 z6 true (0:Int))
  (k p2 low5)
def vhs (L13:Y2→Y4→Int→Z7) (p2:Y2) (low5:Y4):Z7 :=
  L13 p2 low5 (0:Int)
def vbax (L3:Y4→Y2→Y4→Int→Z7) (p_0:Y2) (some_1:Y4):Z7 :=
  L3 some_1 p_0 [] (0:Int)
def vaba (N:Nat) (k:Y4→Y2→Y4→Int→Bool→Z7):Nat→Y4→Y2→Y4→Int→Bool→Int→Z7
  | 0,_,_,_,_,_,_=>none
  | m+1,some1,p2,low5,z6,all7,i8=>vor (vaba N k m) k some1 p2 low5 z6 all7 i8
def vth (N:Nat) (rec:Y4→Y2→Y4→Int→Z7) (k:Y2→Y4→Z7) (some1:Y4) (p2:Y2) (low5:Y4) (z6:Int) (all7:Bool) (i8:Int):Z7:=vaba N (vqe rec) N some1 p2 low5 z6 all7 i8
def vacn (N:Nat) (k:Y2→Y4→Z7):Nat→Y4→Y2→Y4→Int→Z7
  | 0,_,_,_,_=>none
  | m+1,some1,p2,low5,z6=>vpq (vth N (vacn N k m) k) k some1 p2 low5 z6
def vwm (N:Nat) (k:Z7):Nat→Y2→Y4→Int→Z7
  | 0,_,_,_=>none
  | m+1,p2,low5,i9=>vio (vwm N k m) k p2 low5 i9
def vdb (N:Nat) (p2:Y2) (low5:Y4) (i9:Int):Z7:=vwm N (vjd) N p2 low5 i9
def vauz (N:Nat) (some1:Y4) (p2:Y2) (low5:Y4) (z6:Int):Z7:=vacn N (vhs (vdb N)) N some1 p2 low5 z6
def V44 (N:Nat) (p_0:Y2) (some_1:Y4):Z7:=vbax (vauz N) p_0 some_1
def S_V44:Sig:=⟨(.pair Q0 Q12),[0,0],[],.unit,I,.i,fun x=>V44 big x.1 x.2.1⟩
def A_V44:Cfg:=mkCfg tab [(66,S_V15),(115,S_V41)] [(6,[.drop,.as Q7 .i,.as Q4 P5,.drop,.drop,.as Q7 P5,.as I .i]),(14,[.drop,.as Q7 .i,.as Q4 P5,.drop,.drop,.as Q7 P5,.as I .i,.as .bool .i,.as I .i]),(25,[.drop,.drop,.as Q4 P5,.drop,.drop,.as Q7 P5]),(26,([.drop,.drop,.as Q4 P5,.drop,.drop,.as Q7 P5]++dr 3 [.as I .i])),(21,[.drop,.as Q7 .i,.as Q4 P5,.drop,.drop,.as Q7 P5,.as I .i,.as .bool .i]),(35,[])]
noncomputable def vhg (N n:Nat) (K:Ex→St→Z7) (some1:Y4) (p2:Y2) (low5:Y4) (z6:Int):Z7:=iter ((A_V44).shape 6) (run (A_V44) N (codeAt Try.f86 [1,1,0,1,0,0])) n ([.u,W4 some1,W2 p2,.u,.u,W3 low5,W0 z6]++us 52) K
noncomputable def vkx (N n:Nat) (K:Ex→St→Z7) (some1:Y4) (p2:Y2) (low5:Y4) (z6:Int) (all7:Bool) (i8:Int):Z7:=iter ((A_V44).shape 14) (run (A_V44) N (codeAt Try.f86 [1,1,0,1,0,0,1,0,0,1,0,1,0,0])) n ([.u,W4 some1,W2 p2,.u,.u,W3 low5,W0 z6,.val .bool .i all7,W0 i8]++us 50) K
noncomputable def vez (N n:Nat) (K:Ex→St→Z7) (p2:Y2) (low5:Y4) (i9:Int):Z7:=iter ((A_V44).shape 26) (run (A_V44) N (codeAt Try.f86 [1,1,1,0,1,0,0])) n (([.u,.u,W2 p2,.u,.u,W3 low5]++ud 3 [W0 i9])++us 49) K
noncomputable abbrev vrr:Ex→St→Z7:=finish (A_V44) S_V44 Try.f86.results.toList
noncomputable abbrev vagk (kX:St→Z7) (p2:Y2) (low5:Y4):Z7:=kX ([.u,.u,W2 p2,.u,.u,W3 low5]++us 53)
noncomputable abbrev vkt (kX:St→Z7) (kO:Nat→St→Z7):Ex→St→Z7:=exK vrr 0 ((A_V44).shape 25) kX kO
noncomputable abbrev vaua (kX:St→Z7) (some1:Y4) (p2:Y2) (low5:Y4) (z6:Int) (all7:Bool):Z7:=kX ([.u,W4 some1,W2 p2,.u,.u,W3 low5,W0 z6,.val .bool .i all7]++us 51)
noncomputable abbrev vaan (kX:St→Z7) (kO:Nat→St→Z7):Ex→St→Z7:=exK vrr 2 ((A_V44).shape 21) kX kO
noncomputable abbrev vaju (kX:St→Z7):Z7:=kX ([]++us 59)
noncomputable abbrev vxb (kX:St→Z7) (kO:Nat→St→Z7):Ex→St→Z7:=exK vrr 4 ((A_V44).shape 35) kX kO
theorem vajy (N kX kO):∀ n,vkx N n (vaan kX kO)=vaba N (vaua kX) n
 | 0=>rfl
 | m+1=>(show vkx N (m+1) (vaan kX kO)=vor (vkx N m (vaan kX kO)) (vaua kX) by kernel_rfl).trans (by rw[vajy N kX kO m];funext _ _ _ _ _ _;rfl)
noncomputable abbrev vahz (N m:Nat) (kX:St→Z7) (kO:Nat→St→Z7):Ex→St→Z7:=(blockK 2 (sqK (A_V44) N 21 500010 (codeAt Try.f86 [1,1,0,1,0,0,1,0,0,1,1]) (blockK 1 (sqK (A_V44) N 9 500004 (codeAt Try.f86 [1,1,0,1,0,0,1,1]) (itK (A_V44) N 6 (codeAt Try.f86 [1,1,0,1,0,0]) m (vkt kX kO))))))
noncomputable abbrev vbih (N m:Nat) (kX:St→Z7) (kO:Nat→St→Z7) (st':St):Z7:=run (A_V44) N (codeAt Try.f86 [1,1,0,1,0,0,1,0,0,1,1]) st' (blockK 1 (sqK (A_V44) N 9 500004 (codeAt Try.f86 [1,1,0,1,0,0,1,1]) (itK (A_V44) N 6 (codeAt Try.f86 [1,1,0,1,0,0]) m (vkt kX kO))))
theorem vbrd (N m kX kO) {r} (h:vhg N m (vkt kX kO)=r):vkx N N (vahz N m kX kO)=vth N r (vagk kX):=by
 rw[show vkx N N (vahz N m kX kO)=vkx N N (vaan (vbih N m kX kO) fun j=>(vahz N m kX kO) (.exit j)) from (by funext _ _ _ _ _ _;exact vab (fun _=>by kernel_rfl) fun _=>by kernel_rfl),vajy,show vaua (vbih N m kX kO)=vqe (vhg N m (vkt kX kO)) by kernel_rfl,h];rfl
theorem vanc (N kX kO):∀ n,vhg N n (vkt kX kO)=vacn N (vagk kX) n
 | 0=>rfl
 | m+1=>(show vhg N (m+1) (vkt kX kO)=vpq (vkx N N (vahz N m kX kO)) (vagk kX) by kernel_rfl).trans (by rw[vbrd N m kX kO (vanc N kX kO m)];funext _ _ _ _;rfl)
noncomputable abbrev vaaz (N:Nat):Ex→St→Z7:=(blockK 0 (sqK (A_V44) N 25 500012 (codeAt Try.f86 [1,1,1]) vrr))
theorem vact (N kX kO):∀ n,vez N n (vxb kX kO)=vwm N (vaju kX) n
 | 0=>rfl
 | m+1=>(show vez N (m+1) (vxb kX kO)=vio (vez N m (vxb kX kO)) (vaju kX) by kernel_rfl).trans (by rw[vact N kX kO m];funext _ _ _;rfl)
noncomputable abbrev vwc (N:Nat):Ex→St→Z7:=(blockK 4 (sqK (A_V44) N 35 500017 (codeAt Try.f86 [1,1,1,1]) vrr))
noncomputable abbrev vazt (N:Nat) (st':St):Z7:=run (A_V44) N (codeAt Try.f86 [1,1,1,1]) st' vrr
theorem vble (N):vez N N (vwc N)=vdb N:=by
 rw[show vez N N (vwc N)=vez N N (vxb (vazt N) fun j=>(vwc N) (.exit j)) from (by funext _ _ _;exact vab (fun _=>by kernel_rfl) fun _=>by kernel_rfl),vact,show vaju (vazt N)=vjd by kernel_rfl];rfl
noncomputable abbrev vbho (N:Nat) (st':St):Z7:=run (A_V44) N (codeAt Try.f86 [1,1,1]) st' vrr
theorem vbpw (N):vhg N N (vaaz N)=vauz N:=by
 rw[show vhg N N (vaaz N)=vhg N N (vkt (vbho N) fun j=>(vaaz N) (.exit j)) from (by funext _ _ _ _;exact vab (fun _=>by kernel_rfl) fun _=>by kernel_rfl),vanc,show vagk (vbho N)=vhs (vez N N (vwc N)) by kernel_rfl,vble N];rfl
theorem run_V44 (N x):runF (A_V44) N Try.f86 S_V44 x=V44 N x.1 x.2.1:=(show _=(vbax (vhg N N (vaaz N)) x.1 x.2.1) by kernel_rfl).trans (by rw[vbpw N];rfl)
theorem ok_V44:FnOk Try.prog 86∧Gx.Good Try.prog 86 S_V44:=gdR (A:=A_V44) tc Try.func86 (by kernel_rfl) (vaa ⟨ok_V15,ok_V41,trivial⟩) (run_V44 big)
end Go.Proofs.Yteanfidobhpchaa
