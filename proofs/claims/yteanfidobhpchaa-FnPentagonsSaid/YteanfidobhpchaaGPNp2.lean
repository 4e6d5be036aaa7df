import Derived.Test.YteanfidobhpchaaUPN
set_option maxRecDepth 100000
set_option linter.unusedVariables false
namespace Go.Proofs.Yteanfidobhpchaa
open Go Go.Gx Go.Proofs
def vvm (rec k : Z15 → Y2 → Y2 → Z5) (c0 : Z15) (t2 p9 : Y2) : Z5 :=
  (zz2 c0 (2 : Int)).bind fun rq53 =>
  cond (decide ((p9.1.length : Int) < (IntKind.i64.wrap ((10 : Int) + rq53.1))))
  ((appI p9.1 [[(p9.1.length : Int)]]).bind fun xq54 =>
  rec rq53.2.1 t2 (xq54, ((), p9.2).2))
  (k rq53.2.1 t2 p9)
def vpl (c0 : Z15) (t2 p9 : Y2) : Z5 :=
  some (p9, (c0, ()))
def vjo (rec : Z15 → Y2 → Int → Z14 → Y4 → Int → Z5) (k : Z15 → Y2 → Int → Z14 → Z5) (c0 : Z15) (t2 : Y2) (n3 : Int) (pairs4 : Z14) (names7 : Y4) (i8 : Int) : Z5 :=
  cond (decide (i8 < (pairs4.length : Int)))
  ((atI pairs4 i8).bind fun _ =>
  (pairs4[i8.toNat]?).bind fun xq33 =>
  (pairs4[i8.toNat]?).bind fun xq34 =>
  (atI names7 xq34.1).bind fun _ =>
  (names7[xq34.1.toNat]?).bind fun xq35 =>
  (atI pairs4 i8).bind fun _ =>
  (pairs4[i8.toNat]?).bind fun xq36 =>
  (pairs4[i8.toNat]?).bind fun xq37 =>
  (atI names7 xq37.2.1).bind fun _ =>
  (names7[xq37.2.1.toNat]?).bind fun xq38 =>
  (atI pairs4 i8).bind fun _ =>
  (pairs4[i8.toNat]?).bind fun xq39 =>
  rec c0 t2 n3 (pairs4.set i8.toNat (xq35, (xq38, ()))) names7 (IntKind.i64.wrap (i8 + (1 : Int))))
  (k c0 t2 n3 pairs4)
def ved (L29 : Z15 → Y2 → Y2 → Z5) (c0 : Z15) (t2 : Y2) (n3 : Int) (pairs4 : Z14) : Z5 :=
  (zz9 big n3 pairs4).bind fun rq40 =>
  cond (decide (n3 = (0 : Int)))
  (some (rq40.1, (c0, ())))
  ((zz3 c0 (16 : Int)).bind fun rq41 =>
  cond (!rq41.1)
  (some (rq40.1, (rq41.2.1, ())))
  ((zz2 rq41.2.1 n3).bind fun rq42 =>
  (zz2 rq42.2.1 (4 : Int)).bind fun rq43 =>
  cond (decide (rq43.1 = (0 : Int)))
  ((atI rq40.1.1 rq42.1).bind fun _ =>
  (rq40.1.1[rq42.1.toNat]?).bind fun xq44 =>
  (slI xq44 (1 : Int) xq44.length).bind fun xq45 =>
  (atI rq40.1.1 rq42.1).bind fun _ =>
  (rq40.1.1[rq42.1.toNat]?).bind fun xq46 =>
  some ((rq40.1.1.set rq42.1.toNat xq45, rq40.1.2), (rq43.2.1, ())))
  (cond (decide (rq43.1 = (1 : Int)))
  ((atI rq40.1.1 rq42.1).bind fun xq47 =>
  (appI xq47 [n3]).bind fun xq48 =>
  some ((rq40.1.1.set (rq42.1).toNat xq48, rq40.1.2), (rq43.2.1, ())))
  (cond (decide (rq43.1 = (2 : Int)))
  ((atI rq40.1.1 rq42.1).bind fun _ =>
  (rq40.1.1[rq42.1.toNat]?).bind fun xq49 =>
  (zz2 rq43.2.1 n3).bind fun rq50 =>
  (zz10 big xq49 rq50.1).bind fun rq51 =>
  (atI rq40.1.1 rq42.1).bind fun _ =>
  (rq40.1.1[rq42.1.toNat]?).bind fun xq52 =>
  some ((rq40.1.1.set rq42.1.toNat rq51.1, rq40.1.2), (rq50.2.1, ())))
  (cond (decide (rq43.1 = (3 : Int)))
  (L29 rq43.2.1 t2 rq40.1)
  (some (rq40.1, (rq43.2.1, ()))))))))
def vnf (rec : Z15 → Y2 → Int → Z14 → Int → Int → Z5) (k : Z15 → Y2 → Int → Z14 → Int → Z5) (c0 : Z15) (t2 : Y2) (n3 : Int) (pairs4 : Z14) (x5 y6 : Int) : Z5 :=
  cond (decide (y6 < n3))
  ((zz3 c0 (3 : Int)).bind fun rq31 =>
  cond rq31.1
  ((appI pairs4 [(x5, (y6, ()))]).bind fun xq32 =>
  rec rq31.2.1 t2 n3 xq32 x5 (IntKind.i64.wrap (y6 + (1 : Int))))
  (rec rq31.2.1 t2 n3 pairs4 x5 (IntKind.i64.wrap (y6 + (1 : Int)))))
  (k c0 t2 n3 pairs4 x5)
def voz (rec : Z15 → Y2 → Int → Z14 → Int → Z5) (c0 : Z15) (t2 : Y2) (n3 : Int) (pairs4 : Z14) (x5 : Int) : Z5 :=
  rec c0 t2 n3 pairs4 (IntKind.i64.wrap (x5 + (1 : Int)))
def voo (L7 : Z15 → Y2 → Int → Z14 → Int → Int → Z5) (k : Z15 → Y2 → Int → Z14 → Z5) (c0 : Z15) (t2 : Y2) (n3 : Int) (pairs4 : Z14) (x5 : Int) : Z5 :=
  cond (decide (x5 < n3))
  (L7 c0 t2 n3 pairs4 x5 (IntKind.i64.wrap (x5 + (1 : Int))))
  (k c0 t2 n3 pairs4)
def vfx (L14 : Z15 → Y2 → Int → Z14 → Y4 → Int → Z5) (L29 : Z15 → Y2 → Y2 → Z5) (c0 : Z15) (t2 : Y2) (n3 : Int) (pairs4 : Z14) : Z5 :=
  (zz5 big c0 n3).bind fun rq2 =>
  (zz8 big rq2.1 n3).bind fun rq3 =>
  cond rq3.1
  ((zz3 rq2.2.1 (2 : Int)).bind fun rq4 =>
  cond rq4.1
  (L14 rq4.2.1 t2 n3 pairs4 rq2.1 (0 : Int))
  ((zz9 big n3 pairs4).bind fun rq5 =>
  cond (decide (n3 = (0 : Int)))
  (some (rq5.1, (rq4.2.1, ())))
  ((zz3 rq4.2.1 (16 : Int)).bind fun rq6 =>
  cond (!rq6.1)
  (some (rq5.1, (rq6.2.1, ())))
  ((zz2 rq6.2.1 n3).bind fun rq7 =>
  (zz2 rq7.2.1 (4 : Int)).bind fun rq8 =>
  cond (decide (rq8.1 = (0 : Int)))
  ((atI rq5.1.1 rq7.1).bind fun _ =>
  (rq5.1.1[rq7.1.toNat]?).bind fun xq9 =>
  (slI xq9 (1 : Int) xq9.length).bind fun xq10 =>
  (atI rq5.1.1 rq7.1).bind fun _ =>
  (rq5.1.1[rq7.1.toNat]?).bind fun xq11 =>
  some ((rq5.1.1.set rq7.1.toNat xq10, rq5.1.2), (rq8.2.1, ())))
  (cond (decide (rq8.1 = (1 : Int)))
  ((atI rq5.1.1 rq7.1).bind fun xq12 =>
  (appI xq12 [n3]).bind fun xq13 =>
  some ((rq5.1.1.set (rq7.1).toNat xq13, rq5.1.2), (rq8.2.1, ())))
  (cond (decide (rq8.1 = (2 : Int)))
  ((atI rq5.1.1 rq7.1).bind fun _ =>
  (rq5.1.1[rq7.1.toNat]?).bind fun xq14 =>
  (zz2 rq8.2.1 n3).bind fun rq15 =>
  (zz10 big xq14 rq15.1).bind fun rq16 =>
  (atI rq5.1.1 rq7.1).bind fun _ =>
  (rq5.1.1[rq7.1.toNat]?).bind fun xq17 =>
  some ((rq5.1.1.set rq7.1.toNat rq16.1, rq5.1.2), (rq15.2.1, ())))
  (cond (decide (rq8.1 = (3 : Int)))
  (L29 rq8.2.1 t2 rq5.1)
  (some (rq5.1, (rq8.2.1, ()))))))))))
  ((zz9 big n3 pairs4).bind fun rq18 =>
  cond (decide (n3 = (0 : Int)))
  (some (rq18.1, (rq2.2.1, ())))
  ((zz3 rq2.2.1 (16 : Int)).bind fun rq19 =>
  cond (!rq19.1)
  (some (rq18.1, (rq19.2.1, ())))
  ((zz2 rq19.2.1 n3).bind fun rq20 =>
  (zz2 rq20.2.1 (4 : Int)).bind fun rq21 =>
  cond (decide (rq21.1 = (0 : Int)))
  ((atI rq18.1.1 rq20.1).bind fun _ =>
  (rq18.1.1[rq20.1.toNat]?).bind fun xq22 =>
  (slI xq22 (1 : Int) xq22.length).bind fun xq23 =>
  (atI rq18.1.1 rq20.1).bind fun _ =>
  (rq18.1.1[rq20.1.toNat]?).bind fun xq24 =>
  some ((rq18.1.1.set rq20.1.toNat xq23, rq18.1.2), (rq21.2.1, ())))
  (cond (decide (rq21.1 = (1 : Int)))
  ((atI rq18.1.1 rq20.1).bind fun xq25 =>
  (appI xq25 [n3]).bind fun xq26 =>
  some ((rq18.1.1.set (rq20.1).toNat xq26, rq18.1.2), (rq21.2.1, ())))
  (cond (decide (rq21.1 = (2 : Int)))
  ((atI rq18.1.1 rq20.1).bind fun _ =>
  (rq18.1.1[rq20.1.toNat]?).bind fun xq27 =>
  (zz2 rq21.2.1 n3).bind fun rq28 =>
  (zz10 big xq27 rq28.1).bind fun rq29 =>
  (atI rq18.1.1 rq20.1).bind fun _ =>
  (rq18.1.1[rq20.1.toNat]?).bind fun xq30 =>
  some ((rq18.1.1.set rq20.1.toNat rq29.1, rq18.1.2), (rq28.2.1, ())))
  (cond (decide (rq21.1 = (3 : Int)))
  (L29 rq21.2.1 t2 rq18.1)
  (some (rq18.1, (rq21.2.1, ())))))))))
def vazs (L4 : Z15 → Y2 → Int → Z14 → Int → Z5) (c_0 : Z15) : Z5 :=
  (zz4 c_0 [(0 : Int), (1 : Int), (2 : Int), (3 : Int), (4 : Int), (4 : Int), (5 : Int), (5 : Int), (6 : Int), (7 : Int)]).bind fun rq1 =>
  L4 rq1.2.1 (([] : Y3), ()) rq1.1 [] (0 : Int)
def vado (N : Nat) (k : Z15 → Y2 → Int → Z14 → Int → Z5) : Nat → Z15 → Y2 → Int → Z14 → Int → Int → Z5
  | 0, _, _, _, _, _, _ => none
  | m + 1, c0, t2, n3, pairs4, x5, y6 => vnf (vado N k m) k c0 t2 n3 pairs4 x5 y6
def vsp (N : Nat) (rec : Z15 → Y2 → Int → Z14 → Int → Z5) (k : Z15 → Y2 → Int → Z14 → Z5) (c0 : Z15) (t2 : Y2) (n3 : Int) (pairs4 : Z14) (x5 y6 : Int) : Z5 := vado N (voz rec) N c0 t2 n3 pairs4 x5 y6
def vafb (N : Nat) (k : Z15 → Y2 → Int → Z14 → Z5) : Nat → Z15 → Y2 → Int → Z14 → Int → Z5
  | 0, _, _, _, _, _ => none
  | m + 1, c0, t2, n3, pairs4, x5 => voo (vsp N (vafb N k m) k) k c0 t2 n3 pairs4 x5
def vvv (N : Nat) (k : Z15 → Y2 → Int → Z14 → Z5) : Nat → Z15 → Y2 → Int → Z14 → Y4 → Int → Z5
  | 0, _, _, _, _, _, _ => none
  | m + 1, c0, t2, n3, pairs4, names7, i8 => vjo (vvv N k m) k c0 t2 n3 pairs4 names7 i8
def vtx (N : Nat) (k : Z15 → Y2 → Y2 → Z5) : Nat → Z15 → Y2 → Y2 → Z5
  | 0, _, _, _ => none
  | m + 1, c0, t2, p9 => vvm (vtx N k m) k c0 t2 p9
def vat (N : Nat) (c0 : Z15) (t2 p9 : Y2) : Z5 := vtx N (vpl) N c0 t2 p9
def vcv (N : Nat) (c0 : Z15) (t2 : Y2) (n3 : Int) (pairs4 : Z14) (names7 : Y4) (i8 : Int) : Z5 := vvv N (ved (vat N)) N c0 t2 n3 pairs4 names7 i8
def vanq (N : Nat) (c0 : Z15) (t2 : Y2) (n3 : Int) (pairs4 : Z14) (x5 : Int) : Z5 := vafb N (vfx (vcv N) (vat N)) N c0 t2 n3 pairs4 x5
def zz11 (N : Nat) (c_0 : Z15) : Z5 := vazs (vanq N) c_0
def S_zz11 : Sig := { a := (.pair Q3 .unit), md := [1], mf := [P5], m := (.pair Q3 .unit), r := Q0, rf := .i, f := fun x => zz11 big x.1 }
def A_zz11 : Cfg := hookCfg (fun i => if i = 25 then some PO.hook else none) (mkCfg tab [(118, S_zz4), (96, S_zz5), (97, S_zz8), (94, S_zz3), (99, S_zz9), (63, S_zz2), (102, S_zz10)] [(8, [.as Q3 P5, .drop, .as Q4 P1, .as I .i, .as Q14 P5, .as I .i]), (14, [.as Q3 P5, .drop, .as Q4 P1, .as I .i, .as Q14 P5, .as I .i, .as I .i]), (23, [.as Q3 P5, .drop, .as Q4 P1, .as I .i, .as Q14 P5]), (28, [.as Q3 P5, .drop, .as Q4 P1, .as I .i, .as Q14 P5, .drop, .drop, .as Q7 P5, .as I .i]), (1000023, [.as Q3 P5, .drop, .as Q4 P1, .drop, .drop, .drop, .drop, .drop, .drop, .as Q4 (.o (.p P5 .i)), .as I .i]), (1000027, [.as Q3 P5, .drop, .as Q4 P1, .as I .i, .drop, .drop, .drop, .drop, .drop, .as Q4 (.o (.p P5 .i)), .as I .i]), (58, [.as Q3 P5, .drop, .as Q4 P1, .drop, .drop, .drop, .drop, .drop, .drop, .as Q4 P1]), (11, [.as Q3 P5, .drop, .as Q4 P1, .as I .i, .as Q14 P5, .as I .i]), (35, [.as Q3 P5, .drop, .as Q4 P1, .as I .i, .as Q14 P5]), (63, [.as Q3 P5, .drop, .as Q4 P1, .drop, .drop, .drop, .drop, .drop, .drop, .as Q4 (.o (.p P5 .i))])])
noncomputable def vfk (N n : Nat) (K : Ex → St → Z5) (c0 : Z15) (t2 : Y2) (n3 : Int) (pairs4 : Z14) (x5 : Int) : Z5 := iter ((A_zz11).shape 8) (run (A_zz11) N (codeAt Try.f95 [1, 1, 1, 0, 1, 0, 0])) n ([.val Q3 P5 c0, .u, W1 t2, W0 n3, .val Q14 P5 pairs4, W0 x5] ++ List.replicate 141 .u) K
noncomputable def vjb (N n : Nat) (K : Ex → St → Z5) (c0 : Z15) (t2 : Y2) (n3 : Int) (pairs4 : Z14) (x5 y6 : Int) : Z5 := iter ((A_zz11).shape 14) (run (A_zz11) N (codeAt Try.f95 [1, 1, 1, 0, 1, 0, 0, 1, 0, 0, 1, 0, 0])) n ([.val Q3 P5 c0, .u, W1 t2, W0 n3, .val Q14 P5 pairs4, W0 x5, W0 y6] ++ List.replicate 140 .u) K
noncomputable def vea (N n : Nat) (K : Ex → St → Z5) (c0 : Z15) (t2 : Y2) (n3 : Int) (pairs4 : Z14) (names7 : Y4) (i8 : Int) : Z5 := iter ((A_zz11).shape 28) (run (A_zz11) N (codeAt Try.f95 [1, 1, 1, 1, 0, 1, 1, 0, 1, 0, 0])) n ([.val Q3 P5 c0, .u, W1 t2, W0 n3, .val Q14 P5 pairs4, .u, .u, W3 names7, W0 i8] ++ List.replicate 138 .u) K
noncomputable def vcl (N n : Nat) (K : Ex → St → Z5) (c0 : Z15) (t2 p9 : Y2) : Z5 := iter ((A_zz11).shape 58) (run (A_zz11) N (codeAt Try.f95 [1, 1, 1, 1, 1, 1, 1, 1, 0, 1, 0, 1, 1, 1, 1, 1, 1, 1, 0, 0, 0])) n ([.val Q3 P5 c0, .u, W1 t2, .u, .u, .u, .u, .u, .u, W1 p9] ++ List.replicate 137 .u) K
noncomputable abbrev vdy : Ex → St → Z5 := finish (A_zz11) S_zz11 Try.f95.results.toList
noncomputable abbrev vadj (kX : St → Z5) (c0 : Z15) (t2 : Y2) (n3 : Int) (pairs4 : Z14) : Z5 := kX ([.val Q3 P5 c0, .u, W1 t2, W0 n3, .val Q14 P5 pairs4] ++ List.replicate 142 .u)
noncomputable abbrev vii (kX : St → Z5) (kO : Nat → St → Z5) : Ex → St → Z5 := exK vdy 0 ((A_zz11).shape 23) kX kO
noncomputable abbrev vapn (kX : St → Z5) (c0 : Z15) (t2 : Y2) (n3 : Int) (pairs4 : Z14) (x5 : Int) : Z5 := kX ([.val Q3 P5 c0, .u, W1 t2, W0 n3, .val Q14 P5 pairs4, W0 x5] ++ List.replicate 141 .u)
noncomputable abbrev vaac (kX : St → Z5) (kO : Nat → St → Z5) : Ex → St → Z5 := exK vdy 2 ((A_zz11).shape 11) kX kO
noncomputable abbrev vahk (kX : St → Z5) (c0 : Z15) (t2 : Y2) (n3 : Int) (pairs4 : Z14) : Z5 := kX ([.val Q3 P5 c0, .u, W1 t2, W0 n3, .val Q14 P5 pairs4] ++ List.replicate 142 .u)
noncomputable abbrev vts (kX : St → Z5) (kO : Nat → St → Z5) : Ex → St → Z5 := exK vdy 4 ((A_zz11).shape 35) kX kO
noncomputable abbrev vahj (kX : St → Z5) (c0 : Z15) (t2 p9 : Y2) : Z5 := kX ([.val Q3 P5 c0, .u, W1 t2, .u, .u, .u, .u, .u, .u, .val Q4 (.o (.p P5 .i)) p9] ++ List.replicate 137 .u)
noncomputable abbrev vvh (kX : St → Z5) (kO : Nat → St → Z5) : Ex → St → Z5 := exK vdy 7 ((A_zz11).shape 63) kX kO
theorem vamu (N kX kO) : ∀ n, vjb N n (vaac kX kO) = vado N (vapn kX) n
 | 0 => rfl
 | m + 1 => (show vjb N (m + 1) (vaac kX kO) = vnf (vjb N m (vaac kX kO)) (vapn kX) by kernel_rfl).trans (by rw [vamu N kX kO m]; funext _ _ _ _ _ _; rfl)
noncomputable abbrev vadi (N m : Nat) (kX : St → Z5) (kO : Nat → St → Z5) : Ex → St → Z5 := (blockK 2 (blockK 1 (sqK (A_zz11) N 11 500005 (codeAt Try.f95 [1, 1, 1, 0, 1, 0, 0, 1, 1]) (itK (A_zz11) N 8 (codeAt Try.f95 [1, 1, 1, 0, 1, 0, 0]) m (vii kX kO)))))
noncomputable abbrev vbeo (N m : Nat) (kX : St → Z5) (kO : Nat → St → Z5) (st' : St) : Z5 := run (A_zz11) N (codeAt Try.f95 [1, 1, 1, 0, 1, 0, 0, 1, 1]) st' (itK (A_zz11) N 8 (codeAt Try.f95 [1, 1, 1, 0, 1, 0, 0]) m (vii kX kO))
theorem vblp (N m kX kO) {r} (h : vfk N m (vii kX kO) = r) : vjb N N (vadi N m kX kO) = vsp N r (vadj kX) := by
 rw [show vjb N N (vadi N m kX kO) = vjb N N (vaac (vbeo N m kX kO) fun j => (vadi N m kX kO) (.exit j)) from (by funext _ _ _ _ _ _; exact vac (fun _ => by kernel_rfl) fun _ => by kernel_rfl), vamu, show vapn (vbeo N m kX kO) = voz (vfk N m (vii kX kO)) by kernel_rfl, h]; rfl
theorem vaiy (N kX kO) : ∀ n, vfk N n (vii kX kO) = vafb N (vadj kX) n
 | 0 => rfl
 | m + 1 => (show vfk N (m + 1) (vii kX kO) = voo (vjb N N (vadi N m kX kO)) (vadj kX) by kernel_rfl).trans (by rw [vblp N m kX kO (vaiy N kX kO m)]; funext _ _ _ _ _; rfl)
noncomputable abbrev vacx (N : Nat) : Ex → St → Z5 := (blockK 0 (sqK (A_zz11) N 23 500011 (codeAt Try.f95 [1, 1, 1, 1]) vdy))
theorem vaft (N kX kO) : ∀ n, vea N n (vts kX kO) = vvv N (vahk kX) n
 | 0 => rfl
 | m + 1 => (show vea N (m + 1) (vts kX kO) = vjo (vea N m (vts kX kO)) (vahk kX) by kernel_rfl).trans (by rw [vaft N kX kO m]; funext _ _ _ _ _ _; rfl)
noncomputable abbrev vuj (N : Nat) : Ex → St → Z5 := (blockK 4 (sqK (A_zz11) N 35 500017 (codeAt Try.f95 [1, 1, 1, 1, 1]) vdy))
theorem vagn (N kX kO) : ∀ n, vcl N n (vvh kX kO) = vtx N (vahj kX) n
 | 0 => rfl
 | m + 1 => (show vcl N (m + 1) (vvh kX kO) = vvm (vcl N m (vvh kX kO)) (vahj kX) by kernel_rfl).trans (by rw [vagn N kX kO m]; funext _ _ _; rfl)
noncomputable abbrev vpn (N : Nat) : Ex → St → Z5 := (blockK 7 (blockK 6 (sqK (A_zz11) N 63 500031 (codeAt Try.f95 [1, 1, 1, 1, 1, 1, 1, 1, 1]) vdy)))
noncomputable abbrev vazk (N : Nat) (st' : St) : Z5 := run (A_zz11) N (codeAt Try.f95 [1, 1, 1, 1, 1, 1, 1, 1, 1]) st' vdy
theorem vare (N) : vcl N N (vpn N) = vat N := by
 rw [show vcl N N (vpn N) = vcl N N (vvh (vazk N) fun j => (vpn N) (.exit j)) from (by funext _ _ _; exact vac (fun _ => by kernel_rfl) fun _ => by kernel_rfl), vagn, show vahj (vazk N) = vpl by kernel_rfl]; rfl
noncomputable abbrev vavf (N : Nat) (st' : St) : Z5 := run (A_zz11) N (codeAt Try.f95 [1, 1, 1, 1, 1]) st' vdy
theorem vbhv (N) : vea N N (vuj N) = vcv N := by
 rw [show vea N N (vuj N) = vea N N (vts (vavf N) fun j => (vuj N) (.exit j)) from (by funext _ _ _ _ _ _; exact vac (fun _ => by kernel_rfl) fun _ => by kernel_rfl), vaft, show vahk (vavf N) = ved (vcl N N (vpn N)) by kernel_rfl, vare N]; rfl
noncomputable abbrev vbbl (N : Nat) (st' : St) : Z5 := run (A_zz11) N (codeAt Try.f95 [1, 1, 1, 1]) st' vdy
theorem vbnh (N) : vfk N N (vacx N) = vanq N := by
 rw [show vfk N N (vacx N) = vfk N N (vii (vbbl N) fun j => (vacx N) (.exit j)) from (by funext _ _ _ _ _; exact vac (fun _ => by kernel_rfl) fun _ => by kernel_rfl), vaiy, show vadj (vbbl N) = vfx (vea N N (vuj N)) (vcl N N (vpn N)) by kernel_rfl, vbhv N, vare N]; rfl
theorem run0_zz11 (N : Nat) (x : (S_zz11).a.den) : runF (A_zz11) N Try.f95 S_zz11 x = (vazs (vfk N N (vacx N)) x.1) := by kernel_rfl
theorem run_zz11 (N : Nat) (x : (S_zz11).a.den) : runF (A_zz11) N Try.f95 S_zz11 x = zz11 N x.1 := by
  refine (run0_zz11 N x).trans ?_
  rw [vbnh N]
  rfl
theorem fn_zz11 : FnOk Try.prog 95 := ⟨_, Try.func95, by kernel_rfl, by kernel_rfl⟩
theorem good_zz11 : Gx.Good Try.prog 95 S_zz11 := vww Try.func95 (of_decide_eq_true (by kernel_rfl)) fun x r h => ⟨A_zz11, big, vbga (vad tabOk), vbar (vab (show SigsOk Try.prog [(118, S_zz4), (96, S_zz5), (97, S_zz8), (94, S_zz3), (99, S_zz9), (63, S_zz2), (102, S_zz10)] from ⟨⟨fn_zz4, good_zz4⟩, ⟨fn_zz5, good_zz5⟩, ⟨fn_zz8, good_zz8⟩, ⟨fn_zz3, good_zz3⟩, ⟨fn_zz9, good_zz9⟩, ⟨fn_zz2, good_zz2⟩, ⟨fn_zz10, good_zz10⟩, trivial⟩)), fun code hc => vem (ids := [25]) (fun i hi => by simp only [List.mem_cons, List.not_mem_nil, or_false] at hi; simp [A_zz11, hookCfg, hi]) fun c hm => PO.hooks_spec_l1Cur_poset A_zz11 (by rfl) code hc c hm, (run_zz11 big x).trans h⟩
def vawn (rec : Y2 → Y2 → Y2 → Y2 → Int → Int → Int → Y4 → Int → Int → Z3) (k : Y2 → Y2 → Y2 → Y2 → Int → Int → Int → Y4 → Int → Z3) (p2 q3 t4 out5 : Y2) (m6 x7 y8 : Int) (below9 : Y4) (i10 k11 : Int) : Z3 :=
  (atI q3.1 y8).bind fun xq3 =>
  cond (decide (k11 < (xq3.length : Int)))
  ((atI p2.1 x7).bind fun xq4 =>
  (atI xq4 i10).bind fun xq5 =>
  (atI q3.1 y8).bind fun xq6 =>
  (atI xq6 k11).bind fun xq7 =>
  (appI below9 [IntKind.i64.wrap ((IntKind.i64.wrap (xq5 * m6)) + xq7)]).bind fun xq8 =>
  rec p2 q3 t4 out5 m6 x7 y8 xq8 i10 (IntKind.i64.wrap (k11 + (1 : Int))))
  (k p2 q3 t4 out5 m6 x7 y8 below9 i10)
def vaxx (rec : Y2 → Y2 → Y2 → Y2 → Int → Int → Int → Y4 → Int → Z3) (p2 q3 t4 out5 : Y2) (m6 x7 y8 : Int) (below9 : Y4) (i10 : Int) : Z3 :=
  rec p2 q3 t4 out5 m6 x7 y8 below9 (IntKind.i64.wrap (i10 + (1 : Int)))
def vazb (L14 : Y2 → Y2 → Y2 → Y2 → Int → Int → Int → Y4 → Int → Int → Z3) (k : Y2 → Y2 → Y2 → Y2 → Int → Int → Int → Y4 → Z3) (p2 q3 t4 out5 : Y2) (m6 x7 y8 : Int) (below9 : Y4) (i10 : Int) : Z3 :=
  (atI p2.1 x7).bind fun xq1 =>
  cond (decide (i10 < (xq1.length : Int)))
  (L14 p2 q3 t4 out5 m6 x7 y8 below9 i10 (0 : Int))
  (k p2 q3 t4 out5 m6 x7 y8 below9)
def vawr (rec : Y2 → Y2 → Y2 → Y2 → Int → Int → Int → Z3) (p2 q3 t4 out5 : Y2) (m6 x7 y8 : Int) (below9 : Y4) : Z3 :=
  (appI out5.1 [below9]).bind fun xq2 =>
  rec p2 q3 t4 (xq2, ((), out5.2).2) m6 x7 (IntKind.i64.wrap (y8 + (1 : Int)))
def vbbq (L11 : Y2 → Y2 → Y2 → Y2 → Int → Int → Int → Y4 → Int → Z3) (k : Y2 → Y2 → Y2 → Y2 → Int → Int → Z3) (p2 q3 t4 out5 : Y2) (m6 x7 y8 : Int) : Z3 :=
  cond (decide (y8 < m6))
  (L11 p2 q3 t4 out5 m6 x7 y8 [] (0 : Int))
  (k p2 q3 t4 out5 m6 x7)
def vbfg (rec : Y2 → Y2 → Y2 → Y2 → Int → Int → Z3) (p2 q3 t4 out5 : Y2) (m6 x7 : Int) : Z3 :=
  rec p2 q3 t4 out5 m6 (IntKind.i64.wrap (x7 + (1 : Int)))
def vbcy (L7 : Y2 → Y2 → Y2 → Y2 → Int → Int → Int → Z3) (k : Y2 → Y2 → Z3) (p2 q3 t4 out5 : Y2) (m6 x7 : Int) : Z3 :=
  cond (decide (x7 < (p2.1.length : Int)))
  (L7 p2 q3 t4 out5 m6 x7 (0 : Int))
  (k t4 out5)
def vbfk (t4 out5 : Y2) : Z3 :=
  some (out5, (()))
def vbhr (L4 : Y2 → Y2 → Y2 → Y2 → Int → Int → Z3) (p_0 q_1 : Y2) : Z3 :=
  L4 p_0 q_1 (([] : Y3), ()) ([], ()) (q_1.1.length : Int) (0 : Int)
def vaho (N : Nat) (k : Y2 → Y2 → Y2 → Y2 → Int → Int → Int → Y4 → Int → Z3) : Nat → Y2 → Y2 → Y2 → Y2 → Int → Int → Int → Y4 → Int → Int → Z3
  | 0, _, _, _, _, _, _, _, _, _, _ => none
  | m + 1, p2, q3, t4, out5, m6, x7, y8, below9, i10, k11 => vawn (vaho N k m) k p2 q3 t4 out5 m6 x7 y8 below9 i10 k11
def vatn (N : Nat) (rec : Y2 → Y2 → Y2 → Y2 → Int → Int → Int → Y4 → Int → Z3) (k : Y2 → Y2 → Y2 → Y2 → Int → Int → Int → Y4 → Z3) (p2 q3 t4 out5 : Y2) (m6 x7 y8 : Int) (below9 : Y4) (i10 k11 : Int) : Z3 := vaho N (vaxx rec) N p2 q3 t4 out5 m6 x7 y8 below9 i10 k11
def vaia (N : Nat) (k : Y2 → Y2 → Y2 → Y2 → Int → Int → Int → Y4 → Z3) : Nat → Y2 → Y2 → Y2 → Y2 → Int → Int → Int → Y4 → Int → Z3
  | 0, _, _, _, _, _, _, _, _, _ => none
  | m + 1, p2, q3, t4, out5, m6, x7, y8, below9, i10 => vazb (vatn N (vaia N k m) k) k p2 q3 t4 out5 m6 x7 y8 below9 i10
def vaui (N : Nat) (rec : Y2 → Y2 → Y2 → Y2 → Int → Int → Int → Z3) (k : Y2 → Y2 → Y2 → Y2 → Int → Int → Z3) (p2 q3 t4 out5 : Y2) (m6 x7 y8 : Int) (below9 : Y4) (i10 : Int) : Z3 := vaia N (vawr rec) N p2 q3 t4 out5 m6 x7 y8 below9 i10
def vape (N : Nat) (k : Y2 → Y2 → Y2 → Y2 → Int → Int → Z3) : Nat → Y2 → Y2 → Y2 → Y2 → Int → Int → Int → Z3
  | 0, _, _, _, _, _, _, _ => none
  | m + 1, p2, q3, t4, out5, m6, x7, y8 => vbbq (vaui N (vape N k m) k) k p2 q3 t4 out5 m6 x7 y8
def vbes (N : Nat) (rec : Y2 → Y2 → Y2 → Y2 → Int → Int → Z3) (k : Y2 → Y2 → Z3) (p2 q3 t4 out5 : Y2) (m6 x7 y8 : Int) : Z3 := vape N (vbfg rec) N p2 q3 t4 out5 m6 x7 y8
def vaoc (N : Nat) (k : Y2 → Y2 → Z3) : Nat → Y2 → Y2 → Y2 → Y2 → Int → Int → Z3
  | 0, _, _, _, _, _, _ => none
  | m + 1, p2, q3, t4, out5, m6, x7 => vbcy (vbes N (vaoc N k m) k) k p2 q3 t4 out5 m6 x7
def vbbj (N : Nat) (p2 q3 t4 out5 : Y2) (m6 x7 : Int) : Z3 := vaoc N (vbfk) N p2 q3 t4 out5 m6 x7
def zz12 (N : Nat) (p_0 q_1 : Y2) : Z3 := vbhr (vbbj N) p_0 q_1
def S_zz12 : Sig := { a := (.pair Q0 Q11), md := [0, 0], mf := [], m := .unit, r := Q0, rf := (.p P10 .i), f := fun x => zz12 big x.1 x.2.1 }
def A_zz12 : Cfg := mkCfg tab [] [(8, [.drop, .drop, .as Q4 P5, .as Q4 P5, .as Q4 P1, .as Q4 P1, .as I .i, .as I .i]), (14, [.drop, .drop, .as Q4 P5, .as Q4 P5, .as Q4 P1, .as Q4 P1, .as I .i, .as I .i, .as I .i]), (37, [.drop, .drop, .drop, .drop, .as Q4 P1, .as Q4 P1]), (22, [.drop, .drop, .as Q4 P5, .as Q4 P5, .as Q4 P1, .as Q4 P1, .as I .i, .as I .i, .as I .i, .as Q7 P5, .as I .i]), (11, [.drop, .drop, .as Q4 P5, .as Q4 P5, .as Q4 P1, .as Q4 P1, .as I .i, .as I .i]), (28, [.drop, .drop, .as Q4 P5, .as Q4 P5, .as Q4 P1, .as Q4 P1, .as I .i, .as I .i, .as I .i, .as Q7 P5, .as I .i, .as I .i]), (35, [.drop, .drop, .as Q4 P5, .as Q4 P5, .as Q4 P1, .as Q4 P1, .as I .i, .as I .i, .as I .i, .as Q7 P5]), (25, [.drop, .drop, .as Q4 P5, .as Q4 P5, .as Q4 P1, .as Q4 P1, .as I .i, .as I .i, .as I .i, .as Q7 P5, .as I .i])]
noncomputable def vfr (N n : Nat) (K : Ex → St → Z3) (p2 q3 t4 out5 : Y2) (m6 x7 : Int) : Z3 := iter ((A_zz12).shape 8) (run (A_zz12) N (codeAt Try.f101 [1, 1, 1, 0, 1, 0, 0])) n ([.u, .u, W2 p2, W2 q3, W1 t4, W1 out5, W0 m6, W0 x7] ++ List.replicate 71 .u) K
noncomputable def vhh (N n : Nat) (K : Ex → St → Z3) (p2 q3 t4 out5 : Y2) (m6 x7 y8 : Int) : Z3 := iter ((A_zz12).shape 14) (run (A_zz12) N (codeAt Try.f101 [1, 1, 1, 0, 1, 0, 0, 1, 0, 0, 1, 0, 0])) n ([.u, .u, W2 p2, W2 q3, W1 t4, W1 out5, W0 m6, W0 x7, W0 y8] ++ List.replicate 70 .u) K
noncomputable def vcs (N n : Nat) (K : Ex → St → Z3) (p2 q3 t4 out5 : Y2) (m6 x7 y8 : Int) (below9 : Y4) (i10 : Int) : Z3 := iter ((A_zz12).shape 22) (run (A_zz12) N (codeAt Try.f101 [1, 1, 1, 0, 1, 0, 0, 1, 0, 0, 1, 0, 0, 1, 0, 0, 1, 0, 1, 0, 0])) n ([.u, .u, W2 p2, W2 q3, W1 t4, W1 out5, W0 m6, W0 x7, W0 y8, W3 below9, W0 i10] ++ List.replicate 68 .u) K
noncomputable def vek (N n : Nat) (K : Ex → St → Z3) (p2 q3 t4 out5 : Y2) (m6 x7 y8 : Int) (below9 : Y4) (i10 k11 : Int) : Z3 := iter ((A_zz12).shape 28) (run (A_zz12) N (codeAt Try.f101 [1, 1, 1, 0, 1, 0, 0, 1, 0, 0, 1, 0, 0, 1, 0, 0, 1, 0, 1, 0, 0, 1, 0, 0, 1, 0, 0])) n ([.u, .u, W2 p2, W2 q3, W1 t4, W1 out5, W0 m6, W0 x7, W0 y8, W3 below9, W0 i10, W0 k11] ++ List.replicate 67 .u) K
noncomputable abbrev vsl : Ex → St → Z3 := finish (A_zz12) S_zz12 Try.f101.results.toList
noncomputable abbrev vabz (kX : St → Z3) (t4 out5 : Y2) : Z3 := kX ([.u, .u, .u, .u, W1 t4, W1 out5] ++ List.replicate 73 .u)
noncomputable abbrev vjh (kX : St → Z3) (kO : Nat → St → Z3) : Ex → St → Z3 := exK vsl 0 ((A_zz12).shape 37) kX kO
noncomputable abbrev vzq (kX : St → Z3) (p2 q3 t4 out5 : Y2) (m6 x7 : Int) : Z3 := kX ([.u, .u, W2 p2, W2 q3, W1 t4, W1 out5, W0 m6, W0 x7] ++ List.replicate 71 .u)
noncomputable abbrev vio (kX : St → Z3) (kO : Nat → St → Z3) : Ex → St → Z3 := exK vsl 2 ((A_zz12).shape 11) kX kO
noncomputable abbrev vuc (kX : St → Z3) (p2 q3 t4 out5 : Y2) (m6 x7 y8 : Int) (below9 : Y4) : Z3 := kX ([.u, .u, W2 p2, W2 q3, W1 t4, W1 out5, W0 m6, W0 x7, W0 y8, W3 below9] ++ List.replicate 69 .u)
noncomputable abbrev vez (kX : St → Z3) (kO : Nat → St → Z3) : Ex → St → Z3 := exK vsl 4 ((A_zz12).shape 35) kX kO
noncomputable abbrev vahu (kX : St → Z3) (p2 q3 t4 out5 : Y2) (m6 x7 y8 : Int) (below9 : Y4) (i10 : Int) : Z3 := kX ([.u, .u, W2 p2, W2 q3, W1 t4, W1 out5, W0 m6, W0 x7, W0 y8, W3 below9, W0 i10] ++ List.replicate 68 .u)
noncomputable abbrev vtj (kX : St → Z3) (kO : Nat → St → Z3) : Ex → St → Z3 := exK vsl 6 ((A_zz12).shape 25) kX kO
theorem vafw (N kX kO) : ∀ n, vek N n (vtj kX kO) = vaho N (vahu kX) n
 | 0 => rfl
 | m + 1 => (show vek N (m + 1) (vtj kX kO) = vawn (vek N m (vtj kX kO)) (vahu kX) by kernel_rfl).trans (by rw [vafw N kX kO m]; funext _ _ _ _ _ _ _ _ _ _; rfl)
noncomputable abbrev vvs (N m : Nat) (kX : St → Z3) (kO : Nat → St → Z3) : Ex → St → Z3 := (blockK 6 (blockK 5 (sqK (A_zz12) N 25 500012 (codeAt Try.f101 [1, 1, 1, 0, 1, 0, 0, 1, 0, 0, 1, 0, 0, 1, 0, 0, 1, 0, 1, 0, 0, 1, 1]) (itK (A_zz12) N 22 (codeAt Try.f101 [1, 1, 1, 0, 1, 0, 0, 1, 0, 0, 1, 0, 0, 1, 0, 0, 1, 0, 1, 0, 0]) m (vez kX kO)))))
noncomputable abbrev vawp (N m : Nat) (kX : St → Z3) (kO : Nat → St → Z3) (st' : St) : Z3 := run (A_zz12) N (codeAt Try.f101 [1, 1, 1, 0, 1, 0, 0, 1, 0, 0, 1, 0, 0, 1, 0, 0, 1, 0, 1, 0, 0, 1, 1]) st' (itK (A_zz12) N 22 (codeAt Try.f101 [1, 1, 1, 0, 1, 0, 0, 1, 0, 0, 1, 0, 0, 1, 0, 0, 1, 0, 1, 0, 0]) m (vez kX kO))
theorem vbjz (N m kX kO) {r} (h : vcs N m (vez kX kO) = r) : vek N N (vvs N m kX kO) = vatn N r (vuc kX) := by
 rw [show vek N N (vvs N m kX kO) = vek N N (vtj (vawp N m kX kO) fun j => (vvs N m kX kO) (.exit j)) from (by funext _ _ _ _ _ _ _ _ _ _; exact vac (fun _ => by kernel_rfl) fun _ => by kernel_rfl), vafw, show vahu (vawp N m kX kO) = vaxx (vcs N m (vez kX kO)) by kernel_rfl, h]; rfl
theorem vagi (N kX kO) : ∀ n, vcs N n (vez kX kO) = vaia N (vuc kX) n
 | 0 => rfl
 | m + 1 => (show vcs N (m + 1) (vez kX kO) = vazb (vek N N (vvs N m kX kO)) (vuc kX) by kernel_rfl).trans (by rw [vbjz N m kX kO (vagi N kX kO m)]; funext _ _ _ _ _ _ _ _ _; rfl)
noncomputable abbrev vta (N m : Nat) (kX : St → Z3) (kO : Nat → St → Z3) : Ex → St → Z3 := (blockK 4 (sqK (A_zz12) N 35 500017 (codeAt Try.f101 [1, 1, 1, 0, 1, 0, 0, 1, 0, 0, 1, 0, 0, 1, 0, 0, 1, 1]) (blockK 3 (sqK (A_zz12) N 17 500008 (codeAt Try.f101 [1, 1, 1, 0, 1, 0, 0, 1, 0, 0, 1, 0, 0, 1, 1]) (itK (A_zz12) N 14 (codeAt Try.f101 [1, 1, 1, 0, 1, 0, 0, 1, 0, 0, 1, 0, 0]) m (vio kX kO))))))
noncomputable abbrev vazi (N m : Nat) (kX : St → Z3) (kO : Nat → St → Z3) (st' : St) : Z3 := run (A_zz12) N (codeAt Try.f101 [1, 1, 1, 0, 1, 0, 0, 1, 0, 0, 1, 0, 0, 1, 0, 0, 1, 1]) st' (blockK 3 (sqK (A_zz12) N 17 500008 (codeAt Try.f101 [1, 1, 1, 0, 1, 0, 0, 1, 0, 0, 1, 0, 0, 1, 1]) (itK (A_zz12) N 14 (codeAt Try.f101 [1, 1, 1, 0, 1, 0, 0, 1, 0, 0, 1, 0, 0]) m (vio kX kO))))
theorem vbhy (N m kX kO) {r} (h : vhh N m (vio kX kO) = r) : vcs N N (vta N m kX kO) = vaui N r (vzq kX) := by
 rw [show vcs N N (vta N m kX kO) = vcs N N (vez (vazi N m kX kO) fun j => (vta N m kX kO) (.exit j)) from (by funext _ _ _ _ _ _ _ _ _; exact vac (fun _ => by kernel_rfl) fun _ => by kernel_rfl), vagi, show vuc (vazi N m kX kO) = vawr (vhh N m (vio kX kO)) by kernel_rfl, h]; rfl
theorem vaks (N kX kO) : ∀ n, vhh N n (vio kX kO) = vape N (vzq kX) n
 | 0 => rfl
 | m + 1 => (show vhh N (m + 1) (vio kX kO) = vbbq (vcs N N (vta N m kX kO)) (vzq kX) by kernel_rfl).trans (by rw [vbhy N m kX kO (vaks N kX kO m)]; funext _ _ _ _ _ _ _; rfl)
noncomputable abbrev vyk (N m : Nat) (kX : St → Z3) (kO : Nat → St → Z3) : Ex → St → Z3 := (blockK 2 (blockK 1 (sqK (A_zz12) N 11 500005 (codeAt Try.f101 [1, 1, 1, 0, 1, 0, 0, 1, 1]) (itK (A_zz12) N 8 (codeAt Try.f101 [1, 1, 1, 0, 1, 0, 0]) m (vjh kX kO)))))
noncomputable abbrev vbdx (N m : Nat) (kX : St → Z3) (kO : Nat → St → Z3) (st' : St) : Z3 := run (A_zz12) N (codeAt Try.f101 [1, 1, 1, 0, 1, 0, 0, 1, 1]) st' (itK (A_zz12) N 8 (codeAt Try.f101 [1, 1, 1, 0, 1, 0, 0]) m (vjh kX kO))
theorem vbln (N m kX kO) {r} (h : vfr N m (vjh kX kO) = r) : vhh N N (vyk N m kX kO) = vbes N r (vabz kX) := by
 rw [show vhh N N (vyk N m kX kO) = vhh N N (vio (vbdx N m kX kO) fun j => (vyk N m kX kO) (.exit j)) from (by funext _ _ _ _ _ _ _; exact vac (fun _ => by kernel_rfl) fun _ => by kernel_rfl), vaks, show vzq (vbdx N m kX kO) = vbfg (vfr N m (vjh kX kO)) by kernel_rfl, h]; rfl
theorem vakh (N kX kO) : ∀ n, vfr N n (vjh kX kO) = vaoc N (vabz kX) n
 | 0 => rfl
 | m + 1 => (show vfr N (m + 1) (vjh kX kO) = vbcy (vhh N N (vyk N m kX kO)) (vabz kX) by kernel_rfl).trans (by rw [vbln N m kX kO (vakh N kX kO m)]; funext _ _ _ _ _ _; rfl)
noncomputable abbrev vyy (N : Nat) : Ex → St → Z3 := (blockK 0 (sqK (A_zz12) N 37 500018 (codeAt Try.f101 [1, 1, 1, 1]) vsl))
noncomputable abbrev vbcc (N : Nat) (st' : St) : Z3 := run (A_zz12) N (codeAt Try.f101 [1, 1, 1, 1]) st' vsl
theorem vbon (N) : vfr N N (vyy N) = vbbj N := by
 rw [show vfr N N (vyy N) = vfr N N (vjh (vbcc N) fun j => (vyy N) (.exit j)) from (by funext _ _ _ _ _ _; exact vac (fun _ => by kernel_rfl) fun _ => by kernel_rfl), vakh, show vabz (vbcc N) = vbfk by kernel_rfl]; rfl
theorem run0_zz12 (N : Nat) (x : (S_zz12).a.den) : runF (A_zz12) N Try.f101 S_zz12 x = (vbhr (vfr N N (vyy N)) x.1 x.2.1) := by kernel_rfl
theorem run_zz12 (N : Nat) (x : (S_zz12).a.den) : runF (A_zz12) N Try.f101 S_zz12 x = zz12 N x.1 x.2.1 := by
  refine (run0_zz12 N x).trans ?_
  rw [vbon N]
  rfl
theorem fn_zz12 : FnOk Try.prog 101 := ⟨_, Try.func101, by kernel_rfl, by kernel_rfl⟩
theorem good_zz12 : Gx.Good Try.prog 101 S_zz12 := vaa Try.func101 (of_decide_eq_true (by kernel_rfl)) fun x r h => ⟨A_zz12, big, vad tabOk, vab (show SigsOk Try.prog [] from trivial), (run_zz12 big x).trans h⟩
def vbuj (k_0 : Int) : Z3 :=
  cond (decide (k_0 = (0 : Int)))
  ((zz9 big (1 : Int) []).bind fun rq1 =>
  some (rq1.1, (())))
  (cond (decide (k_0 = (1 : Int)))
  ((zz9 big (2 : Int) [((0 : Int), ((1 : Int), ()))]).bind fun rq2 =>
  some (rq2.1, (())))
  (cond (decide (k_0 = (2 : Int)))
  ((zz9 big (4 : Int) [((0 : Int), ((1 : Int), ())), ((1 : Int), ((2 : Int), ())), ((2 : Int), ((3 : Int), ()))]).bind fun rq3 =>
  some (rq3.1, (())))
  (cond (decide (k_0 = (3 : Int)))
  ((zz9 big (4 : Int) [((0 : Int), ((1 : Int), ())), ((0 : Int), ((2 : Int), ())), ((1 : Int), ((3 : Int), ())), ((2 : Int), ((3 : Int), ()))]).bind fun rq4 =>
  some (rq4.1, (())))
  (cond (decide (k_0 = (4 : Int)))
  ((zz9 big (5 : Int) [((0 : Int), ((1 : Int), ())), ((0 : Int), ((2 : Int), ())), ((0 : Int), ((3 : Int), ())), ((1 : Int), ((4 : Int), ())), ((2 : Int), ((4 : Int), ())), ((3 : Int), ((4 : Int), ()))]).bind fun rq5 =>
  some (rq5.1, (())))
  (cond (decide (k_0 = (5 : Int)))
  ((zz9 big (5 : Int) [((0 : Int), ((1 : Int), ())), ((1 : Int), ((2 : Int), ())), ((0 : Int), ((3 : Int), ())), ((2 : Int), ((4 : Int), ())), ((3 : Int), ((4 : Int), ()))]).bind fun rq6 =>
  some (rq6.1, (())))
  (cond (decide (k_0 = (6 : Int)))
  ((zz9 big (8 : Int) [((0 : Int), ((1 : Int), ())), ((0 : Int), ((2 : Int), ())), ((0 : Int), ((3 : Int), ())), ((1 : Int), ((4 : Int), ())), ((1 : Int), ((5 : Int), ())), ((2 : Int), ((4 : Int), ())), ((2 : Int), ((6 : Int), ())), ((3 : Int), ((5 : Int), ())), ((3 : Int), ((6 : Int), ())), ((4 : Int), ((7 : Int), ())), ((5 : Int), ((7 : Int), ())), ((6 : Int), ((7 : Int), ()))]).bind fun rq7 =>
  some (rq7.1, (())))
  (cond (decide (k_0 = (7 : Int)))
  ((zz9 big (6 : Int) [((0 : Int), ((1 : Int), ())), ((0 : Int), ((2 : Int), ())), ((1 : Int), ((3 : Int), ())), ((2 : Int), ((3 : Int), ())), ((2 : Int), ((4 : Int), ())), ((3 : Int), ((5 : Int), ())), ((4 : Int), ((5 : Int), ()))]).bind fun rq8 =>
  some (rq8.1, (())))
  (cond (decide (k_0 = (8 : Int)))
  ((zz9 big (6 : Int) [((0 : Int), ((1 : Int), ())), ((0 : Int), ((2 : Int), ())), ((1 : Int), ((3 : Int), ())), ((2 : Int), ((4 : Int), ())), ((3 : Int), ((5 : Int), ())), ((4 : Int), ((5 : Int), ()))]).bind fun rq9 =>
  some (rq9.1, (())))
  (cond (decide (k_0 = (9 : Int)))
  ((zz9 big (7 : Int) [((0 : Int), ((1 : Int), ())), ((0 : Int), ((2 : Int), ())), ((0 : Int), ((3 : Int), ())), ((1 : Int), ((4 : Int), ())), ((2 : Int), ((4 : Int), ())), ((3 : Int), ((5 : Int), ())), ((2 : Int), ((5 : Int), ())), ((4 : Int), ((6 : Int), ())), ((5 : Int), ((6 : Int), ()))]).bind fun rq10 =>
  some (rq10.1, (())))
  (cond (decide (k_0 = (10 : Int)))
  ((zz9 big (3 : Int) [((0 : Int), ((1 : Int), ())), ((1 : Int), ((2 : Int), ()))]).bind fun rq11 =>
  (zz9 big (3 : Int) [((0 : Int), ((1 : Int), ())), ((1 : Int), ((2 : Int), ()))]).bind fun rq12 =>
  (zz12 big rq11.1 rq12.1).bind fun rq13 =>
  some (rq13.1, (())))
  ((zz9 big (3 : Int) [((0 : Int), ((1 : Int), ())), ((1 : Int), ((2 : Int), ()))]).bind fun rq14 =>
  some (rq14.1, (())))))))))))))
def zz13 (k_0 : Int) : Z3 := vbuj k_0
def S_zz13 : Sig := { a := (.pair I .unit), md := [0], mf := [], m := .unit, r := Q0, rf := (.p P10 .i), f := fun x => zz13 x.1 }
def A_zz13 : Cfg := mkCfg tab [(99, S_zz9), (101, S_zz12)] []
theorem run_zz13 (N : Nat) (x : (S_zz13).a.den) : runF (A_zz13) N Try.f64 S_zz13 x = zz13 x.1 := by kernel_rfl
theorem fn_zz13 : FnOk Try.prog 64 := ⟨_, Try.func64, by kernel_rfl, by kernel_rfl⟩
theorem good_zz13 : Gx.Good Try.prog 64 S_zz13 := vaa Try.func64 (of_decide_eq_true (by kernel_rfl)) fun x r h => ⟨A_zz13, big, vad tabOk, vab (show SigsOk Try.prog [(99, S_zz9), (101, S_zz12)] from ⟨⟨fn_zz9, good_zz9⟩, ⟨fn_zz12, good_zz12⟩, trivial⟩), (run_zz13 big x).trans h⟩
def vmy (rec : Y4 → Int → Int → Z1) (k : Z1) (l0 : Y4) (n1 i5 : Int) : Z1 :=
  cond (decide (i5 < (l0.length : Int)))
  ((atI l0 i5).bind fun xq1 =>
  cond (decide (xq1 = n1))
  (some (true, (())))
  (rec l0 n1 (IntKind.i64.wrap (i5 + (1 : Int)))))
  (k)
def vmi : Z1 :=
  some (false, (()))
def vavg (L2 : Y4 → Int → Int → Z1) (l_0 : Y4) (n_1 : Int) : Z1 :=
  L2 l_0 n_1 (0 : Int)
def vacg (N : Nat) (k : Z1) : Nat → Y4 → Int → Int → Z1
  | 0, _, _, _ => none
  | m + 1, l0, n1, i5 => vmy (vacg N k m) k l0 n1 i5
def vaqs (N : Nat) (l0 : Y4) (n1 i5 : Int) : Z1 := vacg N (vmi) N l0 n1 i5
def zz14 (N : Nat) (l_0 : Y4) (n_1 : Int) : Z1 := vavg (vaqs N) l_0 n_1
def S_zz14 : Sig := { a := (.pair Q7 (.pair I .unit)), md := [0, 0], mf := [], m := .unit, r := .bool, rf := .i, f := fun x => zz14 big x.1 x.2.1 }
def A_zz14 : Cfg := mkCfg tab [] [(4, [.as Q7 .i, .as I .i, .drop, .drop, .drop, .as I .i]), (13, [])]
noncomputable def vie (N n : Nat) (K : Ex → St → Z1) (l0 : Y4) (n1 i5 : Int) : Z1 := iter ((A_zz14).shape 4) (run (A_zz14) N (codeAt Try.f87 [1, 0, 1, 0, 0])) n ([W4 l0, W0 n1, .u, .u, .u, W0 i5] ++ List.replicate 12 .u) K
noncomputable abbrev vatx : Ex → St → Z1 := finish (A_zz14) S_zz14 Try.f87.results.toList
noncomputable abbrev vaqe (kX : St → Z1) : Z1 := kX ([] ++ List.replicate 18 .u)
noncomputable abbrev vacf (kX : St → Z1) (kO : Nat → St → Z1) : Ex → St → Z1 := exK vatx 0 ((A_zz14).shape 13) kX kO
theorem vaiz (N kX kO) : ∀ n, vie N n (vacf kX kO) = vacg N (vaqe kX) n
 | 0 => rfl
 | m + 1 => (show vie N (m + 1) (vacf kX kO) = vmy (vie N m (vacf kX kO)) (vaqe kX) by kernel_rfl).trans (by rw [vaiz N kX kO m]; funext _ _ _; rfl)
noncomputable abbrev vaae (N : Nat) : Ex → St → Z1 := (blockK 0 (sqK (A_zz14) N 13 500006 (codeAt Try.f87 [1, 1]) vatx))
noncomputable abbrev vbck (N : Nat) (st' : St) : Z1 := run (A_zz14) N (codeAt Try.f87 [1, 1]) st' vatx
theorem vbmb (N) : vie N N (vaae N) = vaqs N := by
 rw [show vie N N (vaae N) = vie N N (vacf (vbck N) fun j => (vaae N) (.exit j)) from (by funext _ _ _; exact vac (fun _ => by kernel_rfl) fun _ => by kernel_rfl), vaiz, show vaqe (vbck N) = vmi by kernel_rfl]; rfl
theorem run0_zz14 (N : Nat) (x : (S_zz14).a.den) : runF (A_zz14) N Try.f87 S_zz14 x = (vavg (vie N N (vaae N)) x.1 x.2.1) := by kernel_rfl
theorem run_zz14 (N : Nat) (x : (S_zz14).a.den) : runF (A_zz14) N Try.f87 S_zz14 x = zz14 N x.1 x.2.1 := by
  refine (run0_zz14 N x).trans ?_
  rw [vbmb N]
  rfl
theorem fn_zz14 : FnOk Try.prog 87 := ⟨_, Try.func87, by kernel_rfl, by kernel_rfl⟩
theorem good_zz14 : Gx.Good Try.prog 87 S_zz14 := vaa Try.func87 (of_decide_eq_true (by kernel_rfl)) fun x r h => ⟨A_zz14, big, vad tabOk, vab (show SigsOk Try.prog [] from trivial), (run_zz14 big x).trans h⟩
def vbib (p_0 : Y2) (x_1 y_2 : Int) : Z1 :=
  (atI p_0.1 y_2).bind fun xq1 =>
  (zz14 big xq1 x_1).bind fun rq2 =>
  some (rq2.1, (()))
def zz15 (p_0 : Y2) (x_1 y_2 : Int) : Z1 := vbib p_0 x_1 y_2
def S_zz15 : Sig := { a := (.pair Q0 Q8), md := [0, 0, 0], mf := [], m := .unit, r := .bool, rf := .i, f := fun x => zz15 x.1 x.2.1 x.2.2.1 }
def A_zz15 : Cfg := mkCfg tab [(87, S_zz14)] []
theorem run_zz15 (N : Nat) (x : (S_zz15).a.den) : runF (A_zz15) N Try.f66 S_zz15 x = zz15 x.1 x.2.1 x.2.2.1 := by kernel_rfl
theorem fn_zz15 : FnOk Try.prog 66 := ⟨_, Try.func66, by kernel_rfl, by kernel_rfl⟩
theorem good_zz15 : Gx.Good Try.prog 66 S_zz15 := vaa Try.func66 (of_decide_eq_true (by kernel_rfl)) fun x r h => ⟨A_zz15, big, vad tabOk, vab (show SigsOk Try.prog [(87, S_zz14)] from ⟨⟨fn_zz14, good_zz14⟩, trivial⟩), (run_zz15 big x).trans h⟩
def vbjr (p_0 : Y2) (x_1 y_2 : Int) : Z1 :=
  cond (decide (x_1 ≠ y_2))
  ((zz15 p_0 x_1 y_2).bind fun rq1 =>
  some (rq1.1, (())))
  (some (false, (())))
def zz16 (p_0 : Y2) (x_1 y_2 : Int) : Z1 := vbjr p_0 x_1 y_2
def S_zz16 : Sig := { a := (.pair Q0 Q8), md := [0, 0, 0], mf := [], m := .unit, r := .bool, rf := .i, f := fun x => zz16 x.1 x.2.1 x.2.2.1 }
def A_zz16 : Cfg := mkCfg tab [(66, S_zz15)] []
theorem run_zz16 (N : Nat) (x : (S_zz16).a.den) : runF (A_zz16) N Try.f48 S_zz16 x = zz16 x.1 x.2.1 x.2.2.1 := by kernel_rfl
theorem fn_zz16 : FnOk Try.prog 48 := ⟨_, Try.func48, by kernel_rfl, by kernel_rfl⟩
theorem good_zz16 : Gx.Good Try.prog 48 S_zz16 := vaa Try.func48 (of_decide_eq_true (by kernel_rfl)) fun x r h => ⟨A_zz16, big, vad tabOk, vab (show SigsOk Try.prog [(66, S_zz15)] from ⟨⟨fn_zz15, good_zz15⟩, trivial⟩), (run_zz16 big x).trans h⟩
def vbbd (rec : Int → Int → Y2 → Int → Z1) (k : Z1) (x1 y2 : Int) (p3 : Y2) (z7 : Int) : Z1 :=
  cond (decide (z7 < (p3.1.length : Int)))
  ((zz16 p3 x1 z7).bind fun rq2 =>
  cond rq2.1
  ((zz16 p3 z7 y2).bind fun rq3 =>
  cond rq3.1
  (some (false, (())))
  (rec x1 y2 p3 (IntKind.i64.wrap (z7 + (1 : Int)))))
  (rec x1 y2 p3 (IntKind.i64.wrap (z7 + (1 : Int)))))
  (k)
def vbdt : Z1 :=
  some (true, (()))
def vbiu (L4 : Int → Int → Y2 → Int → Z1) (p_0 : Y2) (x_1 y_2 : Int) : Z1 :=
  (zz16 p_0 x_1 y_2).bind fun rq1 =>
  cond (!rq1.1)
  (some (false, (())))
  (L4 x_1 y_2 p_0 (0 : Int))
def vaqm (N : Nat) (k : Z1) : Nat → Int → Int → Y2 → Int → Z1
  | 0, _, _, _, _ => none
  | m + 1, x1, y2, p3, z7 => vbbd (vaqm N k m) k x1 y2 p3 z7
def vbdk (N : Nat) (x1 y2 : Int) (p3 : Y2) (z7 : Int) : Z1 := vaqm N (vbdt) N x1 y2 p3 z7
def zz17 (N : Nat) (p_0 : Y2) (x_1 y_2 : Int) : Z1 := vbiu (vbdk N) p_0 x_1 y_2
def S_zz17 : Sig := { a := (.pair Q0 Q8), md := [0, 0, 0], mf := [], m := .unit, r := .bool, rf := .i, f := fun x => zz17 big x.1 x.2.1 x.2.2.1 }
def A_zz17 : Cfg := mkCfg tab [(48, S_zz16)] [(8, [.drop, .as I .i, .as I .i, .as Q4 P5, .drop, .drop, .drop, .as I .i]), (17, [])]
noncomputable def vla (N n : Nat) (K : Ex → St → Z1) (x1 y2 : Int) (p3 : Y2) (z7 : Int) : Z1 := iter ((A_zz17).shape 8) (run (A_zz17) N (codeAt Try.f110 [1, 1, 0, 1, 0, 0])) n ([.u, W0 x1, W0 y2, W2 p3, .u, .u, .u, W0 z7] ++ List.replicate 22 .u) K
noncomputable abbrev vayn : Ex → St → Z1 := finish (A_zz17) S_zz17 Try.f110.results.toList
noncomputable abbrev vaon (kX : St → Z1) : Z1 := kX ([] ++ List.replicate 30 .u)
noncomputable abbrev vabi (kX : St → Z1) (kO : Nat → St → Z1) : Ex → St → Z1 := exK vayn 0 ((A_zz17).shape 17) kX kO
theorem vaku (N kX kO) : ∀ n, vla N n (vabi kX kO) = vaqm N (vaon kX) n
 | 0 => rfl
 | m + 1 => (show vla N (m + 1) (vabi kX kO) = vbbd (vla N m (vabi kX kO)) (vaon kX) by kernel_rfl).trans (by rw [vaku N kX kO m]; funext _ _ _ _; rfl)
noncomputable abbrev vacd (N : Nat) : Ex → St → Z1 := (blockK 0 (sqK (A_zz17) N 17 500008 (codeAt Try.f110 [1, 1, 1]) vayn))
noncomputable abbrev vbaz (N : Nat) (st' : St) : Z1 := run (A_zz17) N (codeAt Try.f110 [1, 1, 1]) st' vayn
theorem vbls (N) : vla N N (vacd N) = vbdk N := by
 rw [show vla N N (vacd N) = vla N N (vabi (vbaz N) fun j => (vacd N) (.exit j)) from (by funext _ _ _ _; exact vac (fun _ => by kernel_rfl) fun _ => by kernel_rfl), vaku, show vaon (vbaz N) = vbdt by kernel_rfl]; rfl
theorem run0_zz17 (N : Nat) (x : (S_zz17).a.den) : runF (A_zz17) N Try.f110 S_zz17 x = (vbiu (vla N N (vacd N)) x.1 x.2.1 x.2.2.1) := by kernel_rfl
theorem run_zz17 (N : Nat) (x : (S_zz17).a.den) : runF (A_zz17) N Try.f110 S_zz17 x = zz17 N x.1 x.2.1 x.2.2.1 := by
  refine (run0_zz17 N x).trans ?_
  rw [vbls N]
  rfl
theorem fn_zz17 : FnOk Try.prog 110 := ⟨_, Try.func110, by kernel_rfl, by kernel_rfl⟩
theorem good_zz17 : Gx.Good Try.prog 110 S_zz17 := vaa Try.func110 (of_decide_eq_true (by kernel_rfl)) fun x r h => ⟨A_zz17, big, vad tabOk, vab (show SigsOk Try.prog [(48, S_zz16)] from ⟨⟨fn_zz16, good_zz16⟩, trivial⟩), (run_zz17 big x).trans h⟩
def vbce (rec : Y2 → Z14 → Int → Int → Z16) (k : Y2 → Z14 → Int → Z16) (p1 : Y2) (out3 : Z14) (x4 y5 : Int) : Z16 :=
  cond (decide (y5 < (p1.1.length : Int)))
  ((zz17 big p1 x4 y5).bind fun rq1 =>
  cond rq1.1
  ((appI out3 [(x4, (y5, ()))]).bind fun xq2 =>
  rec p1 xq2 x4 (IntKind.i64.wrap (y5 + (1 : Int))))
  (rec p1 out3 x4 (IntKind.i64.wrap (y5 + (1 : Int)))))
  (k p1 out3 x4)
def vbbs (rec : Y2 → Z14 → Int → Z16) (p1 : Y2) (out3 : Z14) (x4 : Int) : Z16 :=
  rec p1 out3 (IntKind.i64.wrap (x4 + (1 : Int)))
def vbeh (L6 : Y2 → Z14 → Int → Int → Z16) (k : Z14 → Z16) (p1 : Y2) (out3 : Z14) (x4 : Int) : Z16 :=
  cond (decide (x4 < (p1.1.length : Int)))
  (L6 p1 out3 x4 (0 : Int))
  (k out3)
def vbdg (out3 : Z14) : Z16 :=
  some (out3, (()))
def vbid (L3 : Y2 → Z14 → Int → Z16) (p_0 : Y2) : Z16 :=
  L3 p_0 [] (0 : Int)
def vaor (N : Nat) (k : Y2 → Z14 → Int → Z16) : Nat → Y2 → Z14 → Int → Int → Z16
  | 0, _, _, _, _ => none
  | m + 1, p1, out3, x4, y5 => vbce (vaor N k m) k p1 out3 x4 y5
def vbcv (N : Nat) (rec : Y2 → Z14 → Int → Z16) (k : Z14 → Z16) (p1 : Y2) (out3 : Z14) (x4 y5 : Int) : Z16 := vaor N (vbbs rec) N p1 out3 x4 y5
def vaog (N : Nat) (k : Z14 → Z16) : Nat → Y2 → Z14 → Int → Z16
  | 0, _, _, _ => none
  | m + 1, p1, out3, x4 => vbeh (vbcv N (vaog N k m) k) k p1 out3 x4
def vbfq (N : Nat) (p1 : Y2) (out3 : Z14) (x4 : Int) : Z16 := vaog N (vbdg) N p1 out3 x4
def zz18 (N : Nat) (p_0 : Y2) : Z16 := vbid (vbfq N) p_0
def S_zz18 : Sig := { a := Q11, md := [0], mf := [], m := .unit, r := Q14, rf := P5, f := fun x => zz18 big x.1 }
def A_zz18 : Cfg := mkCfg tab [(110, S_zz17)] [(6, [.drop, .as Q4 P5, .drop, .as Q14 P5, .as I .i]), (12, [.drop, .as Q4 P5, .drop, .as Q14 P5, .as I .i, .as I .i]), (21, [.drop, .drop, .drop, .as Q14 P5]), (9, [.drop, .as Q4 P5, .drop, .as Q14 P5, .as I .i])]
noncomputable def vff (N n : Nat) (K : Ex → St → Z16) (p1 : Y2) (out3 : Z14) (x4 : Int) : Z16 := iter ((A_zz18).shape 6) (run (A_zz18) N (codeAt Try.f98 [1, 1, 0, 1, 0, 0])) n ([.u, W2 p1, .u, .val Q14 P5 out3, W0 x4] ++ List.replicate 27 .u) K
noncomputable def vjy (N n : Nat) (K : Ex → St → Z16) (p1 : Y2) (out3 : Z14) (x4 y5 : Int) : Z16 := iter ((A_zz18).shape 12) (run (A_zz18) N (codeAt Try.f98 [1, 1, 0, 1, 0, 0, 1, 0, 0, 1, 0, 0])) n ([.u, W2 p1, .u, .val Q14 P5 out3, W0 x4, W0 y5] ++ List.replicate 26 .u) K
noncomputable abbrev vamd : Ex → St → Z16 := finish (A_zz18) S_zz18 Try.f98.results.toList
noncomputable abbrev vzj (kX : St → Z16) (out3 : Z14) : Z16 := kX ([.u, .u, .u, .val Q14 P5 out3] ++ List.replicate 28 .u)
noncomputable abbrev vhx (kX : St → Z16) (kO : Nat → St → Z16) : Ex → St → Z16 := exK vamd 0 ((A_zz18).shape 21) kX kO
noncomputable abbrev vapx (kX : St → Z16) (p1 : Y2) (out3 : Z14) (x4 : Int) : Z16 := kX ([.u, W2 p1, .u, .val Q14 P5 out3, W0 x4] ++ List.replicate 27 .u)
noncomputable abbrev vadg (kX : St → Z16) (kO : Nat → St → Z16) : Ex → St → Z16 := exK vamd 2 ((A_zz18).shape 9) kX kO
theorem vajd (N kX kO) : ∀ n, vjy N n (vadg kX kO) = vaor N (vapx kX) n
 | 0 => rfl
 | m + 1 => (show vjy N (m + 1) (vadg kX kO) = vbce (vjy N m (vadg kX kO)) (vapx kX) by kernel_rfl).trans (by rw [vajd N kX kO m]; funext _ _ _ _; rfl)
noncomputable abbrev vaas (N m : Nat) (kX : St → Z16) (kO : Nat → St → Z16) : Ex → St → Z16 := (blockK 2 (blockK 1 (sqK (A_zz18) N 9 500004 (codeAt Try.f98 [1, 1, 0, 1, 0, 0, 1, 1]) (itK (A_zz18) N 6 (codeAt Try.f98 [1, 1, 0, 1, 0, 0]) m (vhx kX kO)))))
noncomputable abbrev vbbn (N m : Nat) (kX : St → Z16) (kO : Nat → St → Z16) (st' : St) : Z16 := run (A_zz18) N (codeAt Try.f98 [1, 1, 0, 1, 0, 0, 1, 1]) st' (itK (A_zz18) N 6 (codeAt Try.f98 [1, 1, 0, 1, 0, 0]) m (vhx kX kO))
theorem vbmc (N m kX kO) {r} (h : vff N m (vhx kX kO) = r) : vjy N N (vaas N m kX kO) = vbcv N r (vzj kX) := by
 rw [show vjy N N (vaas N m kX kO) = vjy N N (vadg (vbbn N m kX kO) fun j => (vaas N m kX kO) (.exit j)) from (by funext _ _ _ _; exact vac (fun _ => by kernel_rfl) fun _ => by kernel_rfl), vajd, show vapx (vbbn N m kX kO) = vbbs (vff N m (vhx kX kO)) by kernel_rfl, h]; rfl
theorem vamq (N kX kO) : ∀ n, vff N n (vhx kX kO) = vaog N (vzj kX) n
 | 0 => rfl
 | m + 1 => (show vff N (m + 1) (vhx kX kO) = vbeh (vjy N N (vaas N m kX kO)) (vzj kX) by kernel_rfl).trans (by rw [vbmc N m kX kO (vamq N kX kO m)]; funext _ _ _; rfl)
noncomputable abbrev vxi (N : Nat) : Ex → St → Z16 := (blockK 0 (sqK (A_zz18) N 21 500010 (codeAt Try.f98 [1, 1, 1]) vamd))
noncomputable abbrev vbdr (N : Nat) (st' : St) : Z16 := run (A_zz18) N (codeAt Try.f98 [1, 1, 1]) st' vamd
theorem vbmf (N) : vff N N (vxi N) = vbfq N := by
 rw [show vff N N (vxi N) = vff N N (vhx (vbdr N) fun j => (vxi N) (.exit j)) from (by funext _ _ _; exact vac (fun _ => by kernel_rfl) fun _ => by kernel_rfl), vamq, show vzj (vbdr N) = vbdg by kernel_rfl]; rfl
theorem run0_zz18 (N : Nat) (x : (S_zz18).a.den) : runF (A_zz18) N Try.f98 S_zz18 x = (vbid (vff N N (vxi N)) x.1) := by kernel_rfl
theorem run_zz18 (N : Nat) (x : (S_zz18).a.den) : runF (A_zz18) N Try.f98 S_zz18 x = zz18 N x.1 := by
  refine (run0_zz18 N x).trans ?_
  rw [vbmf N]
  rfl
theorem fn_zz18 : FnOk Try.prog 98 := ⟨_, Try.func98, by kernel_rfl, by kernel_rfl⟩
theorem good_zz18 : Gx.Good Try.prog 98 S_zz18 := vaa Try.func98 (of_decide_eq_true (by kernel_rfl)) fun x r h => ⟨A_zz18, big, vad tabOk, vab (show SigsOk Try.prog [(110, S_zz17)] from ⟨⟨fn_zz17, good_zz17⟩, trivial⟩), (run_zz18 big x).trans h⟩
def vop (rec : Z15 → Y2 → Y2 → Int → Y4 → Z14 → Int → Z5) (k : Z15 → Y2 → Y2 → Int → Z14 → Z5) (c0 : Z15) (t2 p3 : Y2) (n4 : Int) (names5 : Y4) (pairs6 : Z14) (i7 : Int) : Z5 :=
  cond (decide (i7 < (pairs6.length : Int)))
  ((atI pairs6 i7).bind fun _ =>
  (pairs6[i7.toNat]?).bind fun xq9 =>
  (pairs6[i7.toNat]?).bind fun xq10 =>
  (atI names5 xq10.1).bind fun _ =>
  (names5[xq10.1.toNat]?).bind fun xq11 =>
  (atI pairs6 i7).bind fun _ =>
  (pairs6[i7.toNat]?).bind fun xq12 =>
  (pairs6[i7.toNat]?).bind fun xq13 =>
  (atI names5 xq13.2.1).bind fun _ =>
  (names5[xq13.2.1.toNat]?).bind fun xq14 =>
  (atI pairs6 i7).bind fun _ =>
  (pairs6[i7.toNat]?).bind fun xq15 =>
  rec c0 t2 p3 n4 names5 (pairs6.set i7.toNat (xq11, (xq14, ()))) (IntKind.i64.wrap (i7 + (1 : Int))))
  (k c0 t2 p3 n4 pairs6)
def vpi (c0 : Z15) (t2 p3 : Y2) (n4 : Int) (pairs6 : Z14) : Z5 :=
  (zz9 big n4 pairs6).bind fun rq16 =>
  some (rq16.1, (c0, ()))
def vawj (L9 : Z15 → Y2 → Y2 → Int → Y4 → Z14 → Int → Z5) (c_0 : Z15) : Z5 :=
  (zz3 c_0 (10 : Int)).bind fun rq1 =>
  cond rq1.1
  ((zz11 big rq1.2.1).bind fun rq2 =>
  some (rq2.1, (rq2.2.1, ())))
  ((zz2 rq1.2.1 (12 : Int)).bind fun rq3 =>
  (zz13 rq3.1).bind fun rq4 =>
  (zz5 big rq3.2.1 (rq4.1.1.length : Int)).bind fun rq5 =>
  (zz8 big rq5.1 (rq4.1.1.length : Int)).bind fun rq6 =>
  cond rq6.1
  ((zz3 rq5.2.1 (2 : Int)).bind fun rq7 =>
  cond rq7.1
  ((zz18 big rq4.1).bind fun rq8 =>
  L9 rq7.2.1 (([] : Y3), ()) rq4.1 (rq4.1.1.length : Int) rq5.1 rq8.1 (0 : Int))
  (some (rq4.1, (rq7.2.1, ()))))
  (some (rq4.1, (rq5.2.1, ()))))
def vabs (N : Nat) (k : Z15 → Y2 → Y2 → Int → Z14 → Z5) : Nat → Z15 → Y2 → Y2 → Int → Y4 → Z14 → Int → Z5
  | 0, _, _, _, _, _, _, _ => none
  | m + 1, c0, t2, p3, n4, names5, pairs6, i7 => vop (vabs N k m) k c0 t2 p3 n4 names5 pairs6 i7
def vann (N : Nat) (c0 : Z15) (t2 p3 : Y2) (n4 : Int) (names5 : Y4) (pairs6 : Z14) (i7 : Int) : Z5 := vabs N (vpi) N c0 t2 p3 n4 names5 pairs6 i7
def zz19 (N : Nat) (c_0 : Z15) : Z5 := vawj (vann N) c_0
def S_zz19 : Sig := { a := (.pair Q3 .unit), md := [1], mf := [P5], m := (.pair Q3 .unit), r := Q0, rf := .i, f := fun x => zz19 big x.1 }
def A_zz19 : Cfg := mkCfg tab [(94, S_zz3), (95, S_zz11), (63, S_zz2), (64, S_zz13), (96, S_zz5), (97, S_zz8), (98, S_zz18), (99, S_zz9)] [(18, [.as Q3 P5, .drop, .as Q4 P1, .as Q4 P1, .as I .i, .as Q7 P5, .as Q14 P5, .as I .i]), (25, [.as Q3 P5, .drop, .as Q4 P1, .as Q4 P1, .as I .i, .drop, .as Q14 P5])]
noncomputable def vku (N n : Nat) (K : Ex → St → Z5) (c0 : Z15) (t2 p3 : Y2) (n4 : Int) (names5 : Y4) (pairs6 : Z14) (i7 : Int) : Z5 := iter ((A_zz19).shape 18) (run (A_zz19) N (codeAt Try.f62 [1, 1, 1, 1, 0, 1, 1, 0, 1, 0, 1, 0, 0])) n ([.val Q3 P5 c0, .u, W1 t2, W1 p3, W0 n4, W3 names5, .val Q14 P5 pairs6, W0 i7] ++ List.replicate 52 .u) K
noncomputable abbrev vayx : Ex → St → Z5 := finish (A_zz19) S_zz19 Try.f62.results.toList
noncomputable abbrev vaqw (kX : St → Z5) (c0 : Z15) (t2 p3 : Y2) (n4 : Int) (pairs6 : Z14) : Z5 := kX ([.val Q3 P5 c0, .u, W1 t2, W1 p3, W0 n4, .u, .val Q14 P5 pairs6] ++ List.replicate 53 .u)
noncomputable abbrev vadw (kX : St → Z5) (kO : Nat → St → Z5) : Ex → St → Z5 := exK vayx 0 ((A_zz19).shape 25) kX kO
theorem vajc (N kX kO) : ∀ n, vku N n (vadw kX kO) = vabs N (vaqw kX) n
 | 0 => rfl
 | m + 1 => (show vku N (m + 1) (vadw kX kO) = vop (vku N m (vadw kX kO)) (vaqw kX) by kernel_rfl).trans (by rw [vajc N kX kO m]; funext _ _ _ _ _ _ _; rfl)
noncomputable abbrev vaak (N : Nat) : Ex → St → Z5 := (blockK 0 (sqK (A_zz19) N 25 500012 (codeAt Try.f62 [1, 1, 1, 1, 0, 1, 1, 0, 1, 1]) (sqK (A_zz19) N 27 500013 (codeAt Try.f62 [1, 1, 1, 1, 1]) vayx)))
noncomputable abbrev vbfl (N : Nat) (st' : St) : Z5 := run (A_zz19) N (codeAt Try.f62 [1, 1, 1, 1, 0, 1, 1, 0, 1, 1]) st' (sqK (A_zz19) N 27 500013 (codeAt Try.f62 [1, 1, 1, 1, 1]) vayx)
theorem vbor (N) : vku N N (vaak N) = vann N := by
 rw [show vku N N (vaak N) = vku N N (vadw (vbfl N) fun j => (vaak N) (.exit j)) from (by funext _ _ _ _ _ _ _; exact vac (fun _ => by kernel_rfl) fun _ => by kernel_rfl), vajc, show vaqw (vbfl N) = vpi by kernel_rfl]; rfl
theorem run0_zz19 (N : Nat) (x : (S_zz19).a.den) : runF (A_zz19) N Try.f62 S_zz19 x = (vawj (vku N N (vaak N)) x.1) := by kernel_rfl
theorem run_zz19 (N : Nat) (x : (S_zz19).a.den) : runF (A_zz19) N Try.f62 S_zz19 x = zz19 N x.1 := by
  refine (run0_zz19 N x).trans ?_
  rw [vbor N]
  rfl
theorem fn_zz19 : FnOk Try.prog 62 := ⟨_, Try.func62, by kernel_rfl, by kernel_rfl⟩
theorem good_zz19 : Gx.Good Try.prog 62 S_zz19 := vaa Try.func62 (of_decide_eq_true (by kernel_rfl)) fun x r h => ⟨A_zz19, big, vad tabOk, vab (show SigsOk Try.prog [(94, S_zz3), (95, S_zz11), (63, S_zz2), (64, S_zz13), (96, S_zz5), (97, S_zz8), (98, S_zz18), (99, S_zz9)] from ⟨⟨fn_zz3, good_zz3⟩, ⟨fn_zz11, good_zz11⟩, ⟨fn_zz2, good_zz2⟩, ⟨fn_zz13, good_zz13⟩, ⟨fn_zz5, good_zz5⟩, ⟨fn_zz8, good_zz8⟩, ⟨fn_zz18, good_zz18⟩, ⟨fn_zz9, good_zz9⟩, trivial⟩), (run_zz19 big x).trans h⟩
def vbih (code_0 : Y4) : Z3 :=
  (zz19 big (code_0, ((0 : Int), ((0 : Int), ())))).bind fun rq1 =>
  some (rq1.1, (()))
def zz20 (code_0 : Y4) : Z3 := vbih code_0
def S_zz20 : Sig := { a := (.pair Q15 .unit), md := [0], mf := [], m := .unit, r := Q0, rf := .i, f := fun x => zz20 x.1 }
def A_zz20 : Cfg := mkCfg tab [(62, S_zz19)] []
theorem run_zz20 (N : Nat) (x : (S_zz20).a.den) : runF (A_zz20) N Try.f41 S_zz20 x = zz20 x.1 := by kernel_rfl
theorem fn_zz20 : FnOk Try.prog 41 := ⟨_, Try.func41, by kernel_rfl, by kernel_rfl⟩
theorem good_zz20 : Gx.Good Try.prog 41 S_zz20 := vaa Try.func41 (of_decide_eq_true (by kernel_rfl)) fun x r h => ⟨A_zz20, big, vad tabOk, vab (show SigsOk Try.prog [(62, S_zz19)] from ⟨⟨fn_zz19, good_zz19⟩, trivial⟩), (run_zz20 big x).trans h⟩
def vbku (code_0 : Y4) : Z3 :=
  (zz20 code_0).bind fun rq1 =>
  some (rq1.1, (()))
def zz21 (code_0 : Y4) : Z3 := vbku code_0
def S_zz21 : Sig := { a := (.pair Q15 .unit), md := [0], mf := [], m := .unit, r := Q0, rf := .i, f := fun x => zz21 x.1 }
def A_zz21 : Cfg := mkCfg tab [(41, S_zz20)] []
theorem run_zz21 (N : Nat) (x : (S_zz21).a.den) : runF (A_zz21) N Try.f6 S_zz21 x = zz21 x.1 := by kernel_rfl
theorem fn_zz21 : FnOk Try.prog 6 := ⟨_, Try.func6, by kernel_rfl, by kernel_rfl⟩
theorem good_zz21 : Gx.Good Try.prog 6 S_zz21 := vaa Try.func6 (of_decide_eq_true (by kernel_rfl)) fun x r h => ⟨A_zz21, big, vad tabOk, vab (show SigsOk Try.prog [(41, S_zz20)] from ⟨⟨fn_zz20, good_zz20⟩, trivial⟩), (run_zz21 big x).trans h⟩
def vnm (rec : Int → Y5 → Int → Int → Z13) (k : Y5 → Z13) (n0 : Int) (o3 : Y5) (t8 t9 : Int) : Z13 :=
  cond (decide (t9 < t8))
  ((mkI false n0).bind fun xq3 => (mkI false n0).bind fun xq4 => cond (decide (n0 ≤ n0))
  ((atI o3 t9).bind fun _ =>
  (o3[t9.toNat]?).bind fun xq5 =>
  rec n0 (o3.set t9.toNat xq4) t8 (IntKind.i64.wrap (t9 + (1 : Int))))
  none)
  (k o3)
def vof (o3 : Y5) : Z13 :=
  some (o3, (()))
def vaxf (L3 : Int → Y5 → Int → Int → Z13) (n_0 : Int) : Z13 :=
  (mkI ([] : (List Bool)) n_0).bind fun xq1 => (mkI ([] : (List Bool)) n_0).bind fun xq2 => cond (decide (n_0 ≤ n_0))
  (L3 n_0 xq2 (xq2.length : Int) (0 : Int))
  none
def vxz (N : Nat) (k : Y5 → Z13) : Nat → Int → Y5 → Int → Int → Z13
  | 0, _, _, _, _ => none
  | m + 1, n0, o3, t8, t9 => vnm (vxz N k m) k n0 o3 t8 t9
def vang (N : Nat) (n0 : Int) (o3 : Y5) (t8 t9 : Int) : Z13 := vxz N (vof) N n0 o3 t8 t9
def zz22 (N : Nat) (n_0 : Int) : Z13 := vaxf (vang N) n_0
def S_zz22 : Sig := { a := (.pair I .unit), md := [0], mf := [], m := .unit, r := Q6, rf := P10, f := fun x => zz22 big x.1 }
def A_zz22 : Cfg := mkCfg tab [] [(6, [.as I .i, .drop, .drop, .as Q6 P10, .drop, .drop, .drop, .drop, .as I .i, .as I .i]), (15, [.drop, .drop, .drop, .as Q6 P10])]
noncomputable def vil (N n : Nat) (K : Ex → St → Z13) (n0 : Int) (o3 : Y5) (t8 t9 : Int) : Z13 := iter ((A_zz22).shape 6) (run (A_zz22) N (codeAt Try.f56 [1, 1, 0, 1, 0, 0])) n ([W0 n0, .u, .u, W5 o3, .u, .u, .u, .u, W0 t8, W0 t9] ++ List.replicate 9 .u) K
noncomputable abbrev vaxe : Ex → St → Z13 := finish (A_zz22) S_zz22 Try.f56.results.toList
noncomputable abbrev vanl (kX : St → Z13) (o3 : Y5) : Z13 := kX ([.u, .u, .u, W5 o3] ++ List.replicate 15 .u)
noncomputable abbrev vabj (kX : St → Z13) (kO : Nat → St → Z13) : Ex → St → Z13 := exK vaxe 0 ((A_zz22).shape 15) kX kO
theorem vamj (N kX kO) : ∀ n, vil N n (vabj kX kO) = vxz N (vanl kX) n
 | 0 => rfl
 | m + 1 => (show vil N (m + 1) (vabj kX kO) = vnm (vil N m (vabj kX kO)) (vanl kX) by kernel_rfl).trans (by rw [vamj N kX kO m]; funext _ _ _ _; rfl)
noncomputable abbrev vzv (N : Nat) : Ex → St → Z13 := (blockK 0 (sqK (A_zz22) N 15 500007 (codeAt Try.f56 [1, 1, 1]) vaxe))
noncomputable abbrev vbeg (N : Nat) (st' : St) : Z13 := run (A_zz22) N (codeAt Try.f56 [1, 1, 1]) st' vaxe
theorem vblm (N) : vil N N (vzv N) = vang N := by
 rw [show vil N N (vzv N) = vil N N (vabj (vbeg N) fun j => (vzv N) (.exit j)) from (by funext _ _ _ _; exact vac (fun _ => by kernel_rfl) fun _ => by kernel_rfl), vamj, show vanl (vbeg N) = vof by kernel_rfl]; rfl
theorem run0_zz22 (N : Nat) (x : (S_zz22).a.den) : runF (A_zz22) N Try.f56 S_zz22 x = (vaxf (vil N N (vzv N)) x.1) := by kernel_rfl
theorem run_zz22 (N : Nat) (x : (S_zz22).a.den) : runF (A_zz22) N Try.f56 S_zz22 x = zz22 N x.1 := by
  refine (run0_zz22 N x).trans ?_
  rw [vblm N]
  rfl
theorem fn_zz22 : FnOk Try.prog 56 := ⟨_, Try.func56, by kernel_rfl, by kernel_rfl⟩
theorem good_zz22 : Gx.Good Try.prog 56 S_zz22 := vaa Try.func56 (of_decide_eq_true (by kernel_rfl)) fun x r h => ⟨A_zz22, big, vad tabOk, vab (show SigsOk Try.prog [] from trivial), (run_zz22 big x).trans h⟩
def vapy (rec : Y4 → Int → Z1) (k : Z1) (list0 : Y4) (i3 : Int) : Z1 :=
  cond (decide (i3 < (list0.length : Int)))
  ((atI list0 (IntKind.i64.wrap (i3 - (1 : Int)))).bind fun xq1 =>
  (atI list0 i3).bind fun xq2 =>
  cond (decide (xq2 ≤ xq1))
  (some (false, (())))
  (rec list0 (IntKind.i64.wrap (i3 + (1 : Int)))))
  (k)
def vaph : Z1 :=
  some (true, (()))
def vazq (L2 : Y4 → Int → Z1) (list_0 : Y4) : Z1 :=
  L2 list_0 (1 : Int)
def vsi (N : Nat) (k : Z1) : Nat → Y4 → Int → Z1
  | 0, _, _ => none
  | m + 1, list0, i3 => vapy (vsi N k m) k list0 i3
def vaqj (N : Nat) (list0 : Y4) (i3 : Int) : Z1 := vsi N (vaph) N list0 i3
def zz23 (N : Nat) (list_0 : Y4) : Z1 := vazq (vaqj N) list_0
def S_zz23 : Sig := { a := Q12, md := [0], mf := [], m := .unit, r := .bool, rf := .i, f := fun x => zz23 big x.1 }
def A_zz23 : Cfg := mkCfg tab [] [(4, [.as Q7 .i, .drop, .drop, .as I .i]), (13, [])]
noncomputable def vjw (N n : Nat) (K : Ex → St → Z1) (list0 : Y4) (i3 : Int) : Z1 := iter ((A_zz23).shape 4) (run (A_zz23) N (codeAt Try.f109 [1, 0, 1, 0, 0])) n ([W4 list0, .u, .u, W0 i3] ++ List.replicate 16 .u) K
noncomputable abbrev vaur : Ex → St → Z1 := finish (A_zz23) S_zz23 Try.f109.results.toList
noncomputable abbrev vant (kX : St → Z1) : Z1 := kX ([] ++ List.replicate 20 .u)
noncomputable abbrev vzc (kX : St → Z1) (kO : Nat → St → Z1) : Ex → St → Z1 := exK vaur 0 ((A_zz23).shape 13) kX kO
theorem valt (N kX kO) : ∀ n, vjw N n (vzc kX kO) = vsi N (vant kX) n
 | 0 => rfl
 | m + 1 => (show vjw N (m + 1) (vzc kX kO) = vapy (vjw N m (vzc kX kO)) (vant kX) by kernel_rfl).trans (by rw [valt N kX kO m]; funext _ _; rfl)
noncomputable abbrev vyp (N : Nat) : Ex → St → Z1 := (blockK 0 (sqK (A_zz23) N 13 500006 (codeAt Try.f109 [1, 1]) vaur))
noncomputable abbrev vbew (N : Nat) (st' : St) : Z1 := run (A_zz23) N (codeAt Try.f109 [1, 1]) st' vaur
theorem vbog (N) : vjw N N (vyp N) = vaqj N := by
 rw [show vjw N N (vyp N) = vjw N N (vzc (vbew N) fun j => (vyp N) (.exit j)) from (by funext _ _; exact vac (fun _ => by kernel_rfl) fun _ => by kernel_rfl), valt, show vant (vbew N) = vaph by kernel_rfl]; rfl
theorem run0_zz23 (N : Nat) (x : (S_zz23).a.den) : runF (A_zz23) N Try.f109 S_zz23 x = (vazq (vjw N N (vyp N)) x.1) := by kernel_rfl
theorem run_zz23 (N : Nat) (x : (S_zz23).a.den) : runF (A_zz23) N Try.f109 S_zz23 x = zz23 N x.1 := by
  refine (run0_zz23 N x).trans ?_
  rw [vbog N]
  rfl
theorem fn_zz23 : FnOk Try.prog 109 := ⟨_, Try.func109, by kernel_rfl, by kernel_rfl⟩
theorem good_zz23 : Gx.Good Try.prog 109 S_zz23 := vaa Try.func109 (of_decide_eq_true (by kernel_rfl)) fun x r h => ⟨A_zz23, big, vad tabOk, vab (show SigsOk Try.prog [] from trivial), (run_zz23 big x).trans h⟩
def vaol (rec : Int → Y4 → Int → Int → Z1) (k : Z1) (n1 : Int) (t7 : Y4) (t8 t9 : Int) : Z1 :=
  cond (decide (t9 < t8))
  ((atI t7 t9).bind fun xq1 =>
  cond (decide (xq1 < (0 : Int)))
  (some (false, (())))
  (cond (decide (n1 ≤ xq1))
  (some (false, (())))
  (rec n1 t7 t8 (IntKind.i64.wrap (t9 + (1 : Int))))))
  (k)
def vapb : Z1 :=
  some (true, (()))
def vaym (L2 : Int → Y4 → Int → Int → Z1) (list_0 : Y4) (n_1 : Int) : Z1 :=
  L2 n_1 list_0 (list_0.length : Int) (0 : Int)
def vrn (N : Nat) (k : Z1) : Nat → Int → Y4 → Int → Int → Z1
  | 0, _, _, _, _ => none
  | m + 1, n1, t7, t8, t9 => vaol (vrn N k m) k n1 t7 t8 t9
def vapz (N : Nat) (n1 : Int) (t7 : Y4) (t8 t9 : Int) : Z1 := vrn N (vapb) N n1 t7 t8 t9
def zz24 (N : Nat) (list_0 : Y4) (n_1 : Int) : Z1 := vaym (vapz N) list_0 n_1
def S_zz24 : Sig := { a := (.pair Q7 (.pair I .unit)), md := [0, 0], mf := [], m := .unit, r := .bool, rf := .i, f := fun x => zz24 big x.1 x.2.1 }
def A_zz24 : Cfg := mkCfg tab [] [(4, [.drop, .as I .i, .drop, .drop, .drop, .drop, .drop, .as Q7 .i, .as I .i, .as I .i]), (15, [])]
noncomputable def vli (N n : Nat) (K : Ex → St → Z1) (n1 : Int) (t7 : Y4) (t8 t9 : Int) : Z1 := iter ((A_zz24).shape 4) (run (A_zz24) N (codeAt Try.f90 [1, 0, 1, 0, 0])) n ([.u, W0 n1, .u, .u, .u, .u, .u, W4 t7, W0 t8, W0 t9] ++ List.replicate 11 .u) K
noncomputable abbrev vavy : Ex → St → Z1 := finish (A_zz24) S_zz24 Try.f90.results.toList
noncomputable abbrev vara (kX : St → Z1) : Z1 := kX ([] ++ List.replicate 21 .u)
noncomputable abbrev vzy (kX : St → Z1) (kO : Nat → St → Z1) : Ex → St → Z1 := exK vavy 0 ((A_zz24).shape 15) kX kO
theorem vamy (N kX kO) : ∀ n, vli N n (vzy kX kO) = vrn N (vara kX) n
 | 0 => rfl
 | m + 1 => (show vli N (m + 1) (vzy kX kO) = vaol (vli N m (vzy kX kO)) (vara kX) by kernel_rfl).trans (by rw [vamy N kX kO m]; funext _ _ _ _; rfl)
noncomputable abbrev vadb (N : Nat) : Ex → St → Z1 := (blockK 0 (sqK (A_zz24) N 15 500007 (codeAt Try.f90 [1, 1]) vavy))
noncomputable abbrev vbfp (N : Nat) (st' : St) : Z1 := run (A_zz24) N (codeAt Try.f90 [1, 1]) st' vavy
theorem vbnq (N) : vli N N (vadb N) = vapz N := by
 rw [show vli N N (vadb N) = vli N N (vzy (vbfp N) fun j => (vadb N) (.exit j)) from (by funext _ _ _ _; exact vac (fun _ => by kernel_rfl) fun _ => by kernel_rfl), vamy, show vara (vbfp N) = vapb by kernel_rfl]; rfl
theorem run0_zz24 (N : Nat) (x : (S_zz24).a.den) : runF (A_zz24) N Try.f90 S_zz24 x = (vaym (vli N N (vadb N)) x.1 x.2.1) := by kernel_rfl
theorem run_zz24 (N : Nat) (x : (S_zz24).a.den) : runF (A_zz24) N Try.f90 S_zz24 x = zz24 N x.1 x.2.1 := by
  refine (run0_zz24 N x).trans ?_
  rw [vbnq N]
  rfl
theorem fn_zz24 : FnOk Try.prog 90 := ⟨_, Try.func90, by kernel_rfl, by kernel_rfl⟩
theorem good_zz24 : Gx.Good Try.prog 90 S_zz24 := vaa Try.func90 (of_decide_eq_true (by kernel_rfl)) fun x r h => ⟨A_zz24, big, vad tabOk, vab (show SigsOk Try.prog [] from trivial), (run_zz24 big x).trans h⟩
def vjk (rec : Y5 → Int → Int → Int → Int → Int → Int → Int → Int → Z1) (k : Y5 → Int → Int → Int → Int → Int → Z1) (o0 : Y5) (x3 y4 t7 t8 t20 t21 t46 t47 : Int) : Z1 :=
  cond (decide (t47 < t46))
  ((atI o0 x3).bind fun xq7 =>
  (atI xq7 y4).bind fun xq8 =>
  cond xq8
  ((atI o0 y4).bind fun xq9 =>
  (atI xq9 t47).bind fun xq10 =>
  cond xq10
  ((atI o0 x3).bind fun xq11 =>
  (atI xq11 t47).bind fun xq12 =>
  cond (!xq12)
  (some (false, (())))
  (rec o0 x3 y4 t7 t8 t20 t21 t46 (IntKind.i64.wrap (t47 + (1 : Int)))))
  (rec o0 x3 y4 t7 t8 t20 t21 t46 (IntKind.i64.wrap (t47 + (1 : Int)))))
  (rec o0 x3 y4 t7 t8 t20 t21 t46 (IntKind.i64.wrap (t47 + (1 : Int)))))
  (k o0 x3 t7 t8 t20 t21)
def vib (rec : Y5 → Int → Int → Int → Int → Int → Z1) (o0 : Y5) (x3 t7 t8 t20 t21 : Int) : Z1 :=
  rec o0 x3 t7 t8 t20 (IntKind.i64.wrap (t21 + (1 : Int)))
def vnv (L12 : Y5 → Int → Int → Int → Int → Int → Int → Int → Int → Z1) (k : Y5 → Int → Int → Z1) (o0 : Y5) (x3 t7 t8 t20 t21 : Int) : Z1 :=
  cond (decide (t21 < t20))
  (cond (decide (x3 ≠ t21))
  ((atI o0 x3).bind fun xq3 =>
  (atI xq3 t21).bind fun xq4 =>
  cond xq4
  ((atI o0 t21).bind fun xq5 =>
  (atI xq5 x3).bind fun xq6 =>
  cond xq6
  (some (false, (())))
  (L12 o0 x3 t21 t7 t8 t20 t21 (o0.length : Int) (0 : Int)))
  (L12 o0 x3 t21 t7 t8 t20 t21 (o0.length : Int) (0 : Int)))
  (L12 o0 x3 t21 t7 t8 t20 t21 (o0.length : Int) (0 : Int)))
  (k o0 t7 t8)
def vdp (rec : Y5 → Int → Int → Z1) (o0 : Y5) (t7 t8 : Int) : Z1 :=
  rec o0 t7 (IntKind.i64.wrap (t8 + (1 : Int)))
def vnz (L7 : Y5 → Int → Int → Int → Int → Int → Z1) (k : Z1) (o0 : Y5) (t7 t8 : Int) : Z1 :=
  cond (decide (t8 < t7))
  ((atI o0 t8).bind fun xq1 =>
  (atI xq1 t8).bind fun xq2 =>
  cond (!xq2)
  (some (false, (())))
  (L7 o0 t8 t7 t8 (o0.length : Int) (0 : Int)))
  (k)
def vhj : Z1 :=
  some (true, (()))
def vaxq (L2 : Y5 → Int → Int → Z1) (o_0 : Y5) : Z1 :=
  L2 o_0 (o_0.length : Int) (0 : Int)
def vvj (N : Nat) (k : Y5 → Int → Int → Int → Int → Int → Z1) : Nat → Y5 → Int → Int → Int → Int → Int → Int → Int → Int → Z1
  | 0, _, _, _, _, _, _, _, _, _ => none
  | m + 1, o0, x3, y4, t7, t8, t20, t21, t46, t47 => vjk (vvj N k m) k o0 x3 y4 t7 t8 t20 t21 t46 t47
def vlf (N : Nat) (rec : Y5 → Int → Int → Int → Int → Int → Z1) (k : Y5 → Int → Int → Z1) (o0 : Y5) (x3 y4 t7 t8 t20 t21 t46 t47 : Int) : Z1 := vvj N (vib rec) N o0 x3 y4 t7 t8 t20 t21 t46 t47
def vaeb (N : Nat) (k : Y5 → Int → Int → Z1) : Nat → Y5 → Int → Int → Int → Int → Int → Z1
  | 0, _, _, _, _, _, _ => none
  | m + 1, o0, x3, t7, t8, t20, t21 => vnv (vlf N (vaeb N k m) k) k o0 x3 t7 t8 t20 t21
def vso (N : Nat) (rec : Y5 → Int → Int → Z1) (k : Z1) (o0 : Y5) (x3 t7 t8 t20 t21 : Int) : Z1 := vaeb N (vdp rec) N o0 x3 t7 t8 t20 t21
def vaat (N : Nat) (k : Z1) : Nat → Y5 → Int → Int → Z1
  | 0, _, _, _ => none
  | m + 1, o0, t7, t8 => vnz (vso N (vaat N k m) k) k o0 t7 t8
def vaoo (N : Nat) (o0 : Y5) (t7 t8 : Int) : Z1 := vaat N (vhj) N o0 t7 t8
def zz25 (N : Nat) (o_0 : Y5) : Z1 := vaxq (vaoo N) o_0
def S_zz25 : Sig := { a := (.pair Q6 .unit), md := [0], mf := [], m := .unit, r := .bool, rf := .i, f := fun x => zz25 big x.1 }
def A_zz25 : Cfg := mkCfg tab [] [(4, [.as Q6 .i, .drop, .drop, .drop, .drop, .drop, .drop, .as I .i, .as I .i]), (14, [.as Q6 .i, .drop, .drop, .as I .i, .drop, .drop, .drop, .as I .i, .as I .i, .drop, .drop, .drop, .drop, .drop, .drop, .drop, .drop, .drop, .drop, .drop, .as I .i, .as I .i]), (39, []), (24, [.as Q6 .i, .drop, .drop, .as I .i, .as I .i, .drop, .drop, .as I .i, .as I .i, .drop, .drop, .drop, .drop, .drop, .drop, .drop, .drop, .drop, .drop, .drop, .as I .i, .as I .i, .drop, .drop, .drop, .drop, .drop, .drop, .drop, .drop, .drop, .drop, .drop, .drop, .drop, .drop, .drop, .drop, .drop, .drop, .drop, .drop, .drop, .drop, .drop, .drop, .as I .i, .as I .i]), (37, [.as Q6 .i, .drop, .drop, .drop, .drop, .drop, .drop, .as I .i, .as I .i]), (35, [.as Q6 .i, .drop, .drop, .as I .i, .drop, .drop, .drop, .as I .i, .as I .i, .drop, .drop, .drop, .drop, .drop, .drop, .drop, .drop, .drop, .drop, .drop, .as I .i, .as I .i])]
noncomputable def vfy (N n : Nat) (K : Ex → St → Z1) (o0 : Y5) (t7 t8 : Int) : Z1 := iter ((A_zz25).shape 4) (run (A_zz25) N (codeAt Try.f58 [1, 0, 1, 0, 0])) n ([.val Q6 .i o0, .u, .u, .u, .u, .u, .u, W0 t7, W0 t8] ++ List.replicate 70 .u) K
noncomputable def vha (N n : Nat) (K : Ex → St → Z1) (o0 : Y5) (x3 t7 t8 t20 t21 : Int) : Z1 := iter ((A_zz25).shape 14) (run (A_zz25) N (codeAt Try.f58 [1, 0, 1, 0, 0, 1, 1, 0, 0, 1, 1, 1, 0, 0])) n ([.val Q6 .i o0, .u, .u, W0 x3, .u, .u, .u, W0 t7, W0 t8, .u, .u, .u, .u, .u, .u, .u, .u, .u, .u, .u, W0 t20, W0 t21] ++ List.replicate 57 .u) K
noncomputable def vep (N n : Nat) (K : Ex → St → Z1) (o0 : Y5) (x3 y4 t7 t8 t20 t21 t46 t47 : Int) : Z1 := iter ((A_zz25).shape 24) (run (A_zz25) N (codeAt Try.f58 [1, 0, 1, 0, 0, 1, 1, 0, 0, 1, 1, 1, 0, 0, 1, 1, 0, 0, 1, 1, 1, 0, 0])) n ([.val Q6 .i o0, .u, .u, W0 x3, W0 y4, .u, .u, W0 t7, W0 t8, .u, .u, .u, .u, .u, .u, .u, .u, .u, .u, .u, W0 t20, W0 t21, .u, .u, .u, .u, .u, .u, .u, .u, .u, .u, .u, .u, .u, .u, .u, .u, .u, .u, .u, .u, .u, .u, .u, .u, W0 t46, W0 t47] ++ List.replicate 31 .u) K
noncomputable abbrev vwu : Ex → St → Z1 := finish (A_zz25) S_zz25 Try.f58.results.toList
noncomputable abbrev vaax (kX : St → Z1) : Z1 := kX ([] ++ List.replicate 79 .u)
noncomputable abbrev vlh (kX : St → Z1) (kO : Nat → St → Z1) : Ex → St → Z1 := exK vwu 0 ((A_zz25).shape 39) kX kO
noncomputable abbrev vaet (kX : St → Z1) (o0 : Y5) (t7 t8 : Int) : Z1 := kX ([.val Q6 .i o0, .u, .u, .u, .u, .u, .u, W0 t7, W0 t8] ++ List.replicate 70 .u)
noncomputable abbrev vlc (kX : St → Z1) (kO : Nat → St → Z1) : Ex → St → Z1 := exK vwu 2 ((A_zz25).shape 37) kX kO
noncomputable abbrev vagz (kX : St → Z1) (o0 : Y5) (x3 t7 t8 t20 t21 : Int) : Z1 := kX ([.val Q6 .i o0, .u, .u, W0 x3, .u, .u, .u, W0 t7, W0 t8, .u, .u, .u, .u, .u, .u, .u, .u, .u, .u, .u, W0 t20, W0 t21] ++ List.replicate 57 .u)
noncomputable abbrev vuk (kX : St → Z1) (kO : Nat → St → Z1) : Ex → St → Z1 := exK vwu 4 ((A_zz25).shape 35) kX kO
theorem vafn (N kX kO) : ∀ n, vep N n (vuk kX kO) = vvj N (vagz kX) n
 | 0 => rfl
 | m + 1 => (show vep N (m + 1) (vuk kX kO) = vjk (vep N m (vuk kX kO)) (vagz kX) by kernel_rfl).trans (by rw [vafn N kX kO m]; funext _ _ _ _ _ _ _ _ _; rfl)
noncomputable abbrev vuf (N m : Nat) (kX : St → Z1) (kO : Nat → St → Z1) : Ex → St → Z1 := (blockK 4 (blockK 3 (sqK (A_zz25) N 35 500017 (codeAt Try.f58 [1, 0, 1, 0, 0, 1, 1, 0, 0, 1, 1, 1, 0, 0, 1, 1, 1]) (itK (A_zz25) N 14 (codeAt Try.f58 [1, 0, 1, 0, 0, 1, 1, 0, 0, 1, 1, 1, 0, 0]) m (vlc kX kO)))))
noncomputable abbrev vavj (N m : Nat) (kX : St → Z1) (kO : Nat → St → Z1) (st' : St) : Z1 := run (A_zz25) N (codeAt Try.f58 [1, 0, 1, 0, 0, 1, 1, 0, 0, 1, 1, 1, 0, 0, 1, 1, 1]) st' (itK (A_zz25) N 14 (codeAt Try.f58 [1, 0, 1, 0, 0, 1, 1, 0, 0, 1, 1, 1, 0, 0]) m (vlc kX kO))
theorem vbkp (N m kX kO) {r} (h : vha N m (vlc kX kO) = r) : vep N N (vuf N m kX kO) = vlf N r (vaet kX) := by
 rw [show vep N N (vuf N m kX kO) = vep N N (vuk (vavj N m kX kO) fun j => (vuf N m kX kO) (.exit j)) from (by funext _ _ _ _ _ _ _ _ _; exact vac (fun _ => by kernel_rfl) fun _ => by kernel_rfl), vafn, show vagz (vavj N m kX kO) = vib (vha N m (vlc kX kO)) by kernel_rfl, h]; rfl
theorem vaju (N kX kO) : ∀ n, vha N n (vlc kX kO) = vaeb N (vaet kX) n
 | 0 => rfl
 | m + 1 => (show vha N (m + 1) (vlc kX kO) = vnv (vep N N (vuf N m kX kO)) (vaet kX) by kernel_rfl).trans (by rw [vbkp N m kX kO (vaju N kX kO m)]; funext _ _ _ _ _ _; rfl)
noncomputable abbrev vzl (N m : Nat) (kX : St → Z1) (kO : Nat → St → Z1) : Ex → St → Z1 := (blockK 2 (blockK 1 (sqK (A_zz25) N 37 500018 (codeAt Try.f58 [1, 0, 1, 0, 0, 1, 1, 1]) (itK (A_zz25) N 4 (codeAt Try.f58 [1, 0, 1, 0, 0]) m (vlh kX kO)))))
noncomputable abbrev vbft (N m : Nat) (kX : St → Z1) (kO : Nat → St → Z1) (st' : St) : Z1 := run (A_zz25) N (codeAt Try.f58 [1, 0, 1, 0, 0, 1, 1, 1]) st' (itK (A_zz25) N 4 (codeAt Try.f58 [1, 0, 1, 0, 0]) m (vlh kX kO))
theorem vbpm (N m kX kO) {r} (h : vfy N m (vlh kX kO) = r) : vha N N (vzl N m kX kO) = vso N r (vaax kX) := by
 rw [show vha N N (vzl N m kX kO) = vha N N (vlc (vbft N m kX kO) fun j => (vzl N m kX kO) (.exit j)) from (by funext _ _ _ _ _ _; exact vac (fun _ => by kernel_rfl) fun _ => by kernel_rfl), vaju, show vaet (vbft N m kX kO) = vdp (vfy N m (vlh kX kO)) by kernel_rfl, h]; rfl
theorem vand (N kX kO) : ∀ n, vfy N n (vlh kX kO) = vaat N (vaax kX) n
 | 0 => rfl
 | m + 1 => (show vfy N (m + 1) (vlh kX kO) = vnz (vha N N (vzl N m kX kO)) (vaax kX) by kernel_rfl).trans (by rw [vbpm N m kX kO (vand N kX kO m)]; funext _ _ _; rfl)
noncomputable abbrev vabb (N : Nat) : Ex → St → Z1 := (blockK 0 (sqK (A_zz25) N 39 500019 (codeAt Try.f58 [1, 1]) vwu))
noncomputable abbrev vbdq (N : Nat) (st' : St) : Z1 := run (A_zz25) N (codeAt Try.f58 [1, 1]) st' vwu
theorem vbns (N) : vfy N N (vabb N) = vaoo N := by
 rw [show vfy N N (vabb N) = vfy N N (vlh (vbdq N) fun j => (vabb N) (.exit j)) from (by funext _ _ _; exact vac (fun _ => by kernel_rfl) fun _ => by kernel_rfl), vand, show vaax (vbdq N) = vhj by kernel_rfl]; rfl
theorem run0_zz25 (N : Nat) (x : (S_zz25).a.den) : runF (A_zz25) N Try.f58 S_zz25 x = (vaxq (vfy N N (vabb N)) x.1) := by kernel_rfl
theorem run_zz25 (N : Nat) (x : (S_zz25).a.den) : runF (A_zz25) N Try.f58 S_zz25 x = zz25 N x.1 := by
  refine (run0_zz25 N x).trans ?_
  rw [vbns N]
  rfl
theorem fn_zz25 : FnOk Try.prog 58 := ⟨_, Try.func58, by kernel_rfl, by kernel_rfl⟩
theorem good_zz25 : Gx.Good Try.prog 58 S_zz25 := vaa Try.func58 (of_decide_eq_true (by kernel_rfl)) fun x r h => ⟨A_zz25, big, vad tabOk, vab (show SigsOk Try.prog [] from trivial), (run_zz25 big x).trans h⟩
def vky (rec : Int → Y5 → Int → Y3 → Int → Int → Y4 → Int → Bool → Bool → Y4 → Int → Int → Z9) (k : Int → Y5 → Y3 → Int → Int → Y4 → Int → Bool → Bool → Z9) (n4 : Int) (o5 : Y5) (x6 : Int) (t18 : Y3) (t19 t20 : Int) (t29 : Y4) (t30 : Int) (t31 t32 : Bool) (t34 : Y4) (t35 t36 : Int) : Z9 :=
  cond (decide (t36 < t35))
  ((atI t34 t36).bind fun xq6 =>
  (atI o5 xq6).bind fun _ =>
  (o5[xq6.toNat]?).bind fun xq7 =>
  (o5[xq6.toNat]?).bind fun xq8 =>
  (atI xq8 x6).bind fun _ =>
  (o5[xq6.toNat]?).bind fun xq9 =>
  (xq9[x6.toNat]?).bind fun xq10 =>
  rec n4 (o5.set xq6.toNat (xq9.set x6.toNat true)) x6 t18 t19 t20 t29 t30 t31 t32 t34 t35 (IntKind.i64.wrap (t36 + (1 : Int))))
  (k n4 o5 t18 t19 t20 t29 t30 t31 t32)
def vip (rec : Int → Y5 → Y3 → Int → Int → Z9) (n4 : Int) (o5 : Y5) (t18 : Y3) (t19 t20 : Int) (t29 : Y4) (t30 : Int) (t31 t32 : Bool) : Z9 :=
  rec n4 o5 t18 t19 (IntKind.i64.wrap (t20 + (1 : Int)))
def vpc (L11 : Int → Y5 → Int → Y3 → Int → Int → Y4 → Int → Bool → Bool → Y4 → Int → Int → Z9) (k : Y5 → Z9) (n4 : Int) (o5 : Y5) (t18 : Y3) (t19 t20 : Int) : Z9 :=
  cond (decide (t20 < t19))
  ((atI t18 t20).bind fun xq2 =>
  (zz23 big xq2).bind fun rq3 =>
  cond (!rq3.1)
  (some (([], false, ()), (())))
  ((zz24 big xq2 n4).bind fun rq4 =>
  cond (!rq4.1)
  (some (([], false, ()), (())))
  (L11 n4 o5 t20 t18 t19 t20 xq2 n4 rq4.1 (!rq4.1) xq2 (xq2.length : Int) (0 : Int))))
  (k o5)
def vfg (o5 : Y5) : Z9 :=
  (zz25 big o5).bind fun rq5 =>
  some ((o5, rq5.1, ()), (()))
def vajf (L6 : Int → Y5 → Y3 → Int → Int → Z9) (p_0 : Y2) : Z9 :=
  cond (decide ((10 : Int) < (p_0.1.length : Int)))
  (some (([], false, ()), (())))
  ((zz22 big (p_0.1.length : Int)).bind fun rq1 =>
  L6 (p_0.1.length : Int) rq1.1 p_0.1 (p_0.1.length : Int) (0 : Int))
def vup (N : Nat) (k : Int → Y5 → Y3 → Int → Int → Y4 → Int → Bool → Bool → Z9) : Nat → Int → Y5 → Int → Y3 → Int → Int → Y4 → Int → Bool → Bool → Y4 → Int → Int → Z9
  | 0, _, _, _, _, _, _, _, _, _, _, _, _, _ => none
  | m + 1, n4, o5, x6, t18, t19, t20, t29, t30, t31, t32, t34, t35, t36 => vky (vup N k m) k n4 o5 x6 t18 t19 t20 t29 t30 t31 t32 t34 t35 t36
def vqh (N : Nat) (rec : Int → Y5 → Y3 → Int → Int → Z9) (k : Y5 → Z9) (n4 : Int) (o5 : Y5) (x6 : Int) (t18 : Y3) (t19 t20 : Int) (t29 : Y4) (t30 : Int) (t31 t32 : Bool) (t34 : Y4) (t35 t36 : Int) : Z9 := vup N (vip rec) N n4 o5 x6 t18 t19 t20 t29 t30 t31 t32 t34 t35 t36
def vadf (N : Nat) (k : Y5 → Z9) : Nat → Int → Y5 → Y3 → Int → Int → Z9
  | 0, _, _, _, _, _ => none
  | m + 1, n4, o5, t18, t19, t20 => vpc (vqh N (vadf N k m) k) k n4 o5 t18 t19 t20
def vaqr (N : Nat) (n4 : Int) (o5 : Y5) (t18 : Y3) (t19 t20 : Int) : Z9 := vadf N (vfg) N n4 o5 t18 t19 t20
def zz26 (N : Nat) (p_0 : Y2) : Z9 := vajf (vaqr N) p_0
def S_zz26 : Sig := { a := Q11, md := [0], mf := [], m := .unit, r := (.tup (.pair Q6 (.pair .bool .unit))), rf := (.p P10 .i), f := fun x => zz26 big x.1 }
def A_zz26 : Cfg := mkCfg tab [(56, S_zz22), (109, S_zz23), (90, S_zz24), (58, S_zz25)] [(12, [.drop, .drop, .drop, .drop, .as I .i, .as Q6 P10, .drop, .drop, .drop, .drop, .drop, .drop, .drop, .drop, .drop, .drop, .drop, .drop, .as (.sl Q7) .i, .as I .i, .as I .i]), (22, [.drop, .drop, .drop, .drop, .as I .i, .as Q6 P10, .as I .i, .drop, .drop, .drop, .drop, .drop, .drop, .drop, .drop, .drop, .drop, .drop, .as (.sl Q7) .i, .as I .i, .as I .i, .drop, .drop, .drop, .drop, .drop, .drop, .drop, .drop, .as Q7 .i, .as I .i, .as .bool .i, .as .bool .i, .drop, .as Q7 .i, .as I .i, .as I .i]), (33, [.drop, .drop, .drop, .drop, .drop, .as Q6 P10]), (31, [.drop, .drop, .drop, .drop, .as I .i, .as Q6 P10, .drop, .drop, .drop, .drop, .drop, .drop, .drop, .drop, .drop, .drop, .drop, .drop, .as (.sl Q7) .i, .as I .i, .as I .i, .drop, .drop, .drop, .drop, .drop, .drop, .drop, .drop, .as Q7 .i, .as I .i, .as .bool .i, .as .bool .i])]
noncomputable def vgl (N n : Nat) (K : Ex → St → Z9) (n4 : Int) (o5 : Y5) (t18 : Y3) (t19 t20 : Int) : Z9 := iter ((A_zz26).shape 12) (run (A_zz26) N (codeAt Try.f72 [1, 1, 1, 1, 0, 1, 0, 0])) n ([.u, .u, .u, .u, W0 n4, W5 o5, .u, .u, .u, .u, .u, .u, .u, .u, .u, .u, .u, .u, .val (.sl Q7) .i t18, W0 t19, W0 t20] ++ List.replicate 30 .u) K
noncomputable def veq (N n : Nat) (K : Ex → St → Z9) (n4 : Int) (o5 : Y5) (x6 : Int) (t18 : Y3) (t19 t20 : Int) (t29 : Y4) (t30 : Int) (t31 t32 : Bool) (t34 : Y4) (t35 t36 : Int) : Z9 := iter ((A_zz26).shape 22) (run (A_zz26) N (codeAt Try.f72 [1, 1, 1, 1, 0, 1, 0, 0, 1, 1, 0, 0, 1, 1, 1, 0, 0])) n ([.u, .u, .u, .u, W0 n4, W5 o5, W0 x6, .u, .u, .u, .u, .u, .u, .u, .u, .u, .u, .u, .val (.sl Q7) .i t18, W0 t19, W0 t20, .u, .u, .u, .u, .u, .u, .u, .u, W4 t29, W0 t30, .val .bool .i t31, .val .bool .i t32, .u, W4 t34, W0 t35, W0 t36] ++ List.replicate 14 .u) K
noncomputable abbrev vakn : Ex → St → Z9 := finish (A_zz26) S_zz26 Try.f72.results.toList
noncomputable abbrev vaan (kX : St → Z9) (o5 : Y5) : Z9 := kX ([.u, .u, .u, .u, .u, W5 o5] ++ List.replicate 45 .u)
noncomputable abbrev vik (kX : St → Z9) (kO : Nat → St → Z9) : Ex → St → Z9 := exK vakn 0 ((A_zz26).shape 33) kX kO
noncomputable abbrev vahz (kX : St → Z9) (n4 : Int) (o5 : Y5) (t18 : Y3) (t19 t20 : Int) (t29 : Y4) (t30 : Int) (t31 t32 : Bool) : Z9 := kX ([.u, .u, .u, .u, W0 n4, W5 o5, .u, .u, .u, .u, .u, .u, .u, .u, .u, .u, .u, .u, .val (.sl Q7) .i t18, W0 t19, W0 t20, .u, .u, .u, .u, .u, .u, .u, .u, W4 t29, W0 t30, .val .bool .i t31, .val .bool .i t32] ++ List.replicate 18 .u)
noncomputable abbrev vtq (kX : St → Z9) (kO : Nat → St → Z9) : Ex → St → Z9 := exK vakn 2 ((A_zz26).shape 31) kX kO
theorem vago (N kX kO) : ∀ n, veq N n (vtq kX kO) = vup N (vahz kX) n
 | 0 => rfl
 | m + 1 => (show veq N (m + 1) (vtq kX kO) = vky (veq N m (vtq kX kO)) (vahz kX) by kernel_rfl).trans (by rw [vago N kX kO m]; funext _ _ _ _ _ _ _ _ _ _ _ _ _; rfl)
noncomputable abbrev vvp (N m : Nat) (kX : St → Z9) (kO : Nat → St → Z9) : Ex → St → Z9 := (blockK 2 (blockK 1 (sqK (A_zz26) N 31 500015 (codeAt Try.f72 [1, 1, 1, 1, 0, 1, 0, 0, 1, 1, 1]) (itK (A_zz26) N 12 (codeAt Try.f72 [1, 1, 1, 1, 0, 1, 0, 0]) m (vik kX kO)))))
noncomputable abbrev vawk (N m : Nat) (kX : St → Z9) (kO : Nat → St → Z9) (st' : St) : Z9 := run (A_zz26) N (codeAt Try.f72 [1, 1, 1, 1, 0, 1, 0, 0, 1, 1, 1]) st' (itK (A_zz26) N 12 (codeAt Try.f72 [1, 1, 1, 1, 0, 1, 0, 0]) m (vik kX kO))
theorem vbkz (N m kX kO) {r} (h : vgl N m (vik kX kO) = r) : veq N N (vvp N m kX kO) = vqh N r (vaan kX) := by
 rw [show veq N N (vvp N m kX kO) = veq N N (vtq (vawk N m kX kO) fun j => (vvp N m kX kO) (.exit j)) from (by funext _ _ _ _ _ _ _ _ _ _ _ _ _; exact vac (fun _ => by kernel_rfl) fun _ => by kernel_rfl), vago, show vahz (vawk N m kX kO) = vip (vgl N m (vik kX kO)) by kernel_rfl, h]; rfl
theorem vaiu (N kX kO) : ∀ n, vgl N n (vik kX kO) = vadf N (vaan kX) n
 | 0 => rfl
 | m + 1 => (show vgl N (m + 1) (vik kX kO) = vpc (veq N N (vvp N m kX kO)) (vaan kX) by kernel_rfl).trans (by rw [vbkz N m kX kO (vaiu N kX kO m)]; funext _ _ _ _ _; rfl)
noncomputable abbrev vacb (N : Nat) : Ex → St → Z9 := (blockK 0 (sqK (A_zz26) N 33 500016 (codeAt Try.f72 [1, 1, 1, 1, 1]) vakn))
noncomputable abbrev vbcf (N : Nat) (st' : St) : Z9 := run (A_zz26) N (codeAt Try.f72 [1, 1, 1, 1, 1]) st' vakn
theorem vbmu (N) : vgl N N (vacb N) = vaqr N := by
 rw [show vgl N N (vacb N) = vgl N N (vik (vbcf N) fun j => (vacb N) (.exit j)) from (by funext _ _ _ _ _; exact vac (fun _ => by kernel_rfl) fun _ => by kernel_rfl), vaiu, show vaan (vbcf N) = vfg by kernel_rfl]; rfl
theorem run0_zz26 (N : Nat) (x : (S_zz26).a.den) : runF (A_zz26) N Try.f72 S_zz26 x = (vajf (vgl N N (vacb N)) x.1) := by kernel_rfl
theorem run_zz26 (N : Nat) (x : (S_zz26).a.den) : runF (A_zz26) N Try.f72 S_zz26 x = zz26 N x.1 := by
  refine (run0_zz26 N x).trans ?_
  rw [vbmu N]
  rfl
theorem fn_zz26 : FnOk Try.prog 72 := ⟨_, Try.func72, by kernel_rfl, by kernel_rfl⟩
theorem good_zz26 : Gx.Good Try.prog 72 S_zz26 := vaa Try.func72 (of_decide_eq_true (by kernel_rfl)) fun x r h => ⟨A_zz26, big, vad tabOk, vab (show SigsOk Try.prog [(56, S_zz22), (109, S_zz23), (90, S_zz24), (58, S_zz25)] from ⟨⟨fn_zz22, good_zz22⟩, ⟨fn_zz23, good_zz23⟩, ⟨fn_zz24, good_zz24⟩, ⟨fn_zz25, good_zz25⟩, trivial⟩), (run_zz26 big x).trans h⟩
def vmv (rec : Y5 → Y4 → Int → Bool → Y4 → Int → Int → Y4 → Int → Int → Z7) (k : Y5 → Y4 → Int → Bool → Y4 → Int → Int → Z7) (o0 : Y5) (list1 : Y4) (x6 : Int) (top7 : Bool) (t10 : Y4) (t11 t12 : Int) (t16 : Y4) (t17 t18 : Int) : Z7 :=
  cond (decide (t18 < t17))
  ((atI t16 t18).bind fun xq2 =>
  cond top7
  ((atI o0 xq2).bind fun xq3 =>
  (atI xq3 x6).bind fun xq4 =>
  rec o0 list1 x6 xq4 t10 t11 t12 t16 t17 (IntKind.i64.wrap (t18 + (1 : Int))))
  (rec o0 list1 x6 false t10 t11 t12 t16 t17 (IntKind.i64.wrap (t18 + (1 : Int)))))
  (k o0 list1 x6 top7 t10 t11 t12)
def vnp (rec : Y5 → Y4 → Y4 → Int → Int → Z7) (o0 : Y5) (list1 : Y4) (x6 : Int) (top7 : Bool) (t10 : Y4) (t11 t12 : Int) : Z7 :=
  cond top7
  (some (x6, (())))
  (rec o0 list1 t10 t11 (IntKind.i64.wrap (t12 + (1 : Int))))
def vmw (L6 : Y5 → Y4 → Int → Bool → Y4 → Int → Int → Y4 → Int → Int → Z7) (k : Z7) (o0 : Y5) (list1 t10 : Y4) (t11 t12 : Int) : Z7 :=
  cond (decide (t12 < t11))
  ((atI t10 t12).bind fun xq1 =>
  L6 o0 list1 xq1 true t10 t11 t12 list1 (list1.length : Int) (0 : Int))
  (k)
def vgo : Z7 :=
  some ((-1 : Int), (()))
def vazn (L2 : Y5 → Y4 → Y4 → Int → Int → Z7) (o_0 : Y5) (list_1 : Y4) : Z7 :=
  L2 o_0 list_1 list_1 (list_1.length : Int) (0 : Int)
def vabd (N : Nat) (k : Y5 → Y4 → Int → Bool → Y4 → Int → Int → Z7) : Nat → Y5 → Y4 → Int → Bool → Y4 → Int → Int → Y4 → Int → Int → Z7
  | 0, _, _, _, _, _, _, _, _, _, _ => none
  | m + 1, o0, list1, x6, top7, t10, t11, t12, t16, t17, t18 => vmv (vabd N k m) k o0 list1 x6 top7 t10 t11 t12 t16 t17 t18
def vsu (N : Nat) (rec : Y5 → Y4 → Y4 → Int → Int → Z7) (k : Z7) (o0 : Y5) (list1 : Y4) (x6 : Int) (top7 : Bool) (t10 : Y4) (t11 t12 : Int) (t16 : Y4) (t17 t18 : Int) : Z7 := vabd N (vnp rec) N o0 list1 x6 top7 t10 t11 t12 t16 t17 t18
def vye (N : Nat) (k : Z7) : Nat → Y5 → Y4 → Y4 → Int → Int → Z7
  | 0, _, _, _, _, _ => none
  | m + 1, o0, list1, t10, t11, t12 => vmw (vsu N (vye N k m) k) k o0 list1 t10 t11 t12
def vapd (N : Nat) (o0 : Y5) (list1 t10 : Y4) (t11 t12 : Int) : Z7 := vye N (vgo) N o0 list1 t10 t11 t12
def zz27 (N : Nat) (o_0 : Y5) (list_1 : Y4) : Z7 := vazn (vapd N) o_0 list_1
def S_zz27 : Sig := { a := (.pair Q6 Q12), md := [0, 0], mf := [], m := .unit, r := I, rf := .i, f := fun x => zz27 big x.1 x.2.1 }
def A_zz27 : Cfg := mkCfg tab [] [(4, [.as Q6 .i, .as Q7 .i, .drop, .drop, .drop, .drop, .drop, .drop, .drop, .drop, .as Q7 .i, .as I .i, .as I .i]), (12, [.as Q6 .i, .as Q7 .i, .drop, .drop, .drop, .drop, .as I .i, .as .bool .i, .drop, .drop, .as Q7 .i, .as I .i, .as I .i, .drop, .drop, .drop, .as Q7 .i, .as I .i, .as I .i]), (27, []), (21, [.as Q6 .i, .as Q7 .i, .drop, .drop, .drop, .drop, .as I .i, .as .bool .i, .drop, .drop, .as Q7 .i, .as I .i, .as I .i])]
noncomputable def vgj (N n : Nat) (K : Ex → St → Z7) (o0 : Y5) (list1 t10 : Y4) (t11 t12 : Int) : Z7 := iter ((A_zz27).shape 4) (run (A_zz27) N (codeAt Try.f116 [1, 0, 1, 0, 0])) n ([.val Q6 .i o0, W4 list1, .u, .u, .u, .u, .u, .u, .u, .u, W4 t10, W0 t11, W0 t12] ++ List.replicate 23 .u) K
noncomputable def viz (N n : Nat) (K : Ex → St → Z7) (o0 : Y5) (list1 : Y4) (x6 : Int) (top7 : Bool) (t10 : Y4) (t11 t12 : Int) (t16 : Y4) (t17 t18 : Int) : Z7 := iter ((A_zz27).shape 12) (run (A_zz27) N (codeAt Try.f116 [1, 0, 1, 0, 0, 1, 1, 0, 0, 1, 1, 0, 1, 0, 0])) n ([.val Q6 .i o0, W4 list1, .u, .u, .u, .u, W0 x6, .val .bool .i top7, .u, .u, W4 t10, W0 t11, W0 t12, .u, .u, .u, W4 t16, W0 t17, W0 t18] ++ List.replicate 17 .u) K
noncomputable abbrev vamo : Ex → St → Z7 := finish (A_zz27) S_zz27 Try.f116.results.toList
noncomputable abbrev vaff (kX : St → Z7) : Z7 := kX ([] ++ List.replicate 36 .u)
noncomputable abbrev vja (kX : St → Z7) (kO : Nat → St → Z7) : Ex → St → Z7 := exK vamo 0 ((A_zz27).shape 27) kX kO
noncomputable abbrev vani (kX : St → Z7) (o0 : Y5) (list1 : Y4) (x6 : Int) (top7 : Bool) (t10 : Y4) (t11 t12 : Int) : Z7 := kX ([.val Q6 .i o0, W4 list1, .u, .u, .u, .u, W0 x6, .val .bool .i top7, .u, .u, W4 t10, W0 t11, W0 t12] ++ List.replicate 23 .u)
noncomputable abbrev vacm (kX : St → Z7) (kO : Nat → St → Z7) : Ex → St → Z7 := exK vamo 2 ((A_zz27).shape 21) kX kO
theorem vakd (N kX kO) : ∀ n, viz N n (vacm kX kO) = vabd N (vani kX) n
 | 0 => rfl
 | m + 1 => (show viz N (m + 1) (vacm kX kO) = vmv (viz N m (vacm kX kO)) (vani kX) by kernel_rfl).trans (by rw [vakd N kX kO m]; funext _ _ _ _ _ _ _ _ _ _; rfl)
noncomputable abbrev vym (N m : Nat) (kX : St → Z7) (kO : Nat → St → Z7) : Ex → St → Z7 := (blockK 2 (sqK (A_zz27) N 21 500010 (codeAt Try.f116 [1, 0, 1, 0, 0, 1, 1, 0, 0, 1, 1, 1]) (blockK 1 (sqK (A_zz27) N 25 500012 (codeAt Try.f116 [1, 0, 1, 0, 0, 1, 1, 1]) (itK (A_zz27) N 4 (codeAt Try.f116 [1, 0, 1, 0, 0]) m (vja kX kO))))))
noncomputable abbrev vbfr (N m : Nat) (kX : St → Z7) (kO : Nat → St → Z7) (st' : St) : Z7 := run (A_zz27) N (codeAt Try.f116 [1, 0, 1, 0, 0, 1, 1, 0, 0, 1, 1, 1]) st' (blockK 1 (sqK (A_zz27) N 25 500012 (codeAt Try.f116 [1, 0, 1, 0, 0, 1, 1, 1]) (itK (A_zz27) N 4 (codeAt Try.f116 [1, 0, 1, 0, 0]) m (vja kX kO))))
theorem vbnr (N m kX kO) {r} (h : vgj N m (vja kX kO) = r) : viz N N (vym N m kX kO) = vsu N r (vaff kX) := by
 rw [show viz N N (vym N m kX kO) = viz N N (vacm (vbfr N m kX kO) fun j => (vym N m kX kO) (.exit j)) from (by funext _ _ _ _ _ _ _ _ _ _; exact vac (fun _ => by kernel_rfl) fun _ => by kernel_rfl), vakd, show vani (vbfr N m kX kO) = vnp (vgj N m (vja kX kO)) by kernel_rfl, h]; rfl
theorem vaig (N kX kO) : ∀ n, vgj N n (vja kX kO) = vye N (vaff kX) n
 | 0 => rfl
 | m + 1 => (show vgj N (m + 1) (vja kX kO) = vmw (viz N N (vym N m kX kO)) (vaff kX) by kernel_rfl).trans (by rw [vbnr N m kX kO (vaig N kX kO m)]; funext _ _ _ _ _; rfl)
noncomputable abbrev vaes (N : Nat) : Ex → St → Z7 := (blockK 0 (sqK (A_zz27) N 27 500013 (codeAt Try.f116 [1, 1]) vamo))
noncomputable abbrev vbel (N : Nat) (st' : St) : Z7 := run (A_zz27) N (codeAt Try.f116 [1, 1]) st' vamo
theorem vbob (N) : vgj N N (vaes N) = vapd N := by
 rw [show vgj N N (vaes N) = vgj N N (vja (vbel N) fun j => (vaes N) (.exit j)) from (by funext _ _ _ _ _; exact vac (fun _ => by kernel_rfl) fun _ => by kernel_rfl), vaig, show vaff (vbel N) = vgo by kernel_rfl]; rfl
theorem run0_zz27 (N : Nat) (x : (S_zz27).a.den) : runF (A_zz27) N Try.f116 S_zz27 x = (vazn (vgj N N (vaes N)) x.1 x.2.1) := by kernel_rfl
theorem run_zz27 (N : Nat) (x : (S_zz27).a.den) : runF (A_zz27) N Try.f116 S_zz27 x = zz27 N x.1 x.2.1 := by
  refine (run0_zz27 N x).trans ?_
  rw [vbob N]
  rfl
theorem fn_zz27 : FnOk Try.prog 116 := ⟨_, Try.func116, by kernel_rfl, by kernel_rfl⟩
theorem good_zz27 : Gx.Good Try.prog 116 S_zz27 := vaa Try.func116 (of_decide_eq_true (by kernel_rfl)) fun x r h => ⟨A_zz27, big, vad tabOk, vab (show SigsOk Try.prog [] from trivial), (run_zz27 big x).trans h⟩
def vbho (z_0 : Int) (p_1 : Y5) (p_2 p_3 : Int) : Z1 :=
  (atI p_1 z_0).bind fun xq1 =>
  (atI xq1 p_2).bind fun xq2 =>
  cond xq2
  ((atI p_1 z_0).bind fun xq3 =>
  (atI xq3 p_3).bind fun xq4 =>
  some (xq4, (())))
  (some (false, (())))
def zz28 (z_0 : Int) (p_1 : Y5) (p_2 p_3 : Int) : Z1 := vbho z_0 p_1 p_2 p_3
def S_zz28 : Sig := { a := (.pair I Q13), md := [0, 0, 0, 0], mf := [], m := .unit, r := .bool, rf := .i, f := fun x => zz28 x.1 x.2.1 x.2.2.1 x.2.2.2.1 }
def A_zz28 : Cfg := mkCfg tab [] []
theorem run_zz28 (N : Nat) (x : (S_zz28).a.den) : runF (A_zz28) N Try.f117 S_zz28 x = zz28 x.1 x.2.1 x.2.2.1 x.2.2.2.1 := by kernel_rfl
theorem fn_zz28 : FnOk Try.prog 117 := ⟨_, Try.func117, by kernel_rfl, by kernel_rfl⟩
theorem good_zz28 : Gx.Good Try.prog 117 S_zz28 := vaa Try.func117 (of_decide_eq_true (by kernel_rfl)) fun x r h => ⟨A_zz28, big, vad tabOk, vab (show SigsOk Try.prog [] from trivial), (run_zz28 big x).trans h⟩
def voq (rec : (Y5 × Z2) → Y4 → Int → Int → Z8) (k : Y4 → Z8) (so1 : (Y5 × Z2)) (list5 : Y4) (t9 t10 : Int) : Z8 :=
  cond (decide (t10 < t9))
  ((zz28 t10 so1.1 so1.2.1 so1.2.2.1).bind fun rq1 =>
  cond rq1.1
  ((appI list5 [t10]).bind fun xq2 =>
  rec so1 xq2 t9 (IntKind.i64.wrap (t10 + (1 : Int))))
  (rec so1 list5 t9 (IntKind.i64.wrap (t10 + (1 : Int)))))
  (k list5)
def vni (list5 : Y4) : Z8 :=
  some (list5, (()))
def vazf (L3 : (Y5 × Z2) → Y4 → Int → Int → Z8) (o_0 : Y5) (so_1 : (Y5 × Z2)) : Z8 :=
  L3 so_1 [] (o_0.length : Int) (0 : Int)
def vaek (N : Nat) (k : Y4 → Z8) : Nat → (Y5 × Z2) → Y4 → Int → Int → Z8
  | 0, _, _, _, _ => none
  | m + 1, so1, list5, t9, t10 => voq (vaek N k m) k so1 list5 t9 t10
def vaqa (N : Nat) (so1 : (Y5 × Z2)) (list5 : Y4) (t9 t10 : Int) : Z8 := vaek N (vni) N so1 list5 t9 t10
def zz29 (N : Nat) (o_0 : Y5) (so_1 : (Y5 × Z2)) : Z8 := vazf (vaqa N) o_0 so_1
def S_zz29 : Sig := { a := (.pair Q6 (.pair (.clo 117 0 Q13) .unit)), md := [0, 0], mf := [], m := .unit, r := Q7, rf := P5, f := fun x => zz29 big x.1 x.2.1 }
def A_zz29 : Cfg := mkCfg tab [(117, S_zz28)] [(6, [.drop, .as (.clo 117 0 Q13) .i, .drop, .drop, .drop, .as Q7 P5, .drop, .drop, .drop, .as I .i, .as I .i]), (17, [.drop, .drop, .drop, .drop, .drop, .as Q7 P5])]
noncomputable def vkl (N n : Nat) (K : Ex → St → Z8) (so1 : (Y5 × Z2)) (list5 : Y4) (t9 t10 : Int) : Z8 := iter ((A_zz29).shape 6) (run (A_zz29) N (codeAt Try.f106 [1, 1, 0, 1, 0, 0])) n ([.u, .val (.clo 117 0 Q13) .i so1, .u, .u, .u, W3 list5, .u, .u, .u, W0 t9, W0 t10] ++ List.replicate 11 .u) K
noncomputable abbrev vavm : Ex → St → Z8 := finish (A_zz29) S_zz29 Try.f106.results.toList
noncomputable abbrev vanj (kX : St → Z8) (list5 : Y4) : Z8 := kX ([.u, .u, .u, .u, .u, W3 list5] ++ List.replicate 16 .u)
noncomputable abbrev vabf (kX : St → Z8) (kO : Nat → St → Z8) : Ex → St → Z8 := exK vavm 0 ((A_zz29).shape 17) kX kO
theorem vajm (N kX kO) : ∀ n, vkl N n (vabf kX kO) = vaek N (vanj kX) n
 | 0 => rfl
 | m + 1 => (show vkl N (m + 1) (vabf kX kO) = voq (vkl N m (vabf kX kO)) (vanj kX) by kernel_rfl).trans (by rw [vajm N kX kO m]; funext _ _ _ _; rfl)
noncomputable abbrev vacu (N : Nat) : Ex → St → Z8 := (blockK 0 (sqK (A_zz29) N 17 500008 (codeAt Try.f106 [1, 1, 1]) vavm))
noncomputable abbrev vbdb (N : Nat) (st' : St) : Z8 := run (A_zz29) N (codeAt Try.f106 [1, 1, 1]) st' vavm
theorem vbne (N) : vkl N N (vacu N) = vaqa N := by
 rw [show vkl N N (vacu N) = vkl N N (vabf (vbdb N) fun j => (vacu N) (.exit j)) from (by funext _ _ _ _; exact vac (fun _ => by kernel_rfl) fun _ => by kernel_rfl), vajm, show vanj (vbdb N) = vni by kernel_rfl]; rfl
theorem run0_zz29 (N : Nat) (x : (S_zz29).a.den) : runF (A_zz29) N Try.f106 S_zz29 x = (vazf (vkl N N (vacu N)) x.1 x.2.1) := by kernel_rfl
theorem run_zz29 (N : Nat) (x : (S_zz29).a.den) : runF (A_zz29) N Try.f106 S_zz29 x = zz29 N x.1 x.2.1 := by
  refine (run0_zz29 N x).trans ?_
  rw [vbne N]
  rfl
theorem fn_zz29 : FnOk Try.prog 106 := ⟨_, Try.func106, by kernel_rfl, by kernel_rfl⟩
theorem good_zz29 : Gx.Good Try.prog 106 S_zz29 := vaa Try.func106 (of_decide_eq_true (by kernel_rfl)) fun x r h => ⟨A_zz29, big, vad tabOk, vab (show SigsOk Try.prog [(117, S_zz28)] from ⟨⟨fn_zz28, good_zz28⟩, trivial⟩), (run_zz29 big x).trans h⟩
def vnx (rec : Y5 → Y3 → Int → Y4 → Int → Int → Int → Int → Z10) (k : Y5 → Y3 → Y4 → Int → Int → Z10) (o1 : Y5) (table4 : Y3) (x5 : Int) (row6 : Y4) (t11 t12 t17 t18 : Int) : Z10 :=
  cond (decide (t18 < t17))
  ((zz29 big o1 (o1, x5, t18, ())).bind fun rq1 =>
  (zz27 big o1 rq1.1).bind fun rq2 =>
  cond (decide (rq2.1 < (0 : Int)))
  (some (([], false, ()), (())))
  ((appI row6 [rq2.1]).bind fun xq3 =>
  rec o1 table4 x5 xq3 t11 t12 t17 (IntKind.i64.wrap (t18 + (1 : Int)))))
  (k o1 table4 row6 t11 t12)
def vmg (rec : Y5 → Y3 → Int → Int → Z10) (o1 : Y5) (table4 : Y3) (row6 : Y4) (t11 t12 : Int) : Z10 :=
  (appI table4 [row6]).bind fun xq4 =>
  rec o1 xq4 t11 (IntKind.i64.wrap (t12 + (1 : Int)))
def vmp (L7 : Y5 → Y3 → Int → Y4 → Int → Int → Int → Int → Z10) (k : Y3 → Z10) (o1 : Y5) (table4 : Y3) (t11 t12 : Int) : Z10 :=
  cond (decide (t12 < t11))
  (L7 o1 table4 t12 [] t11 t12 (o1.length : Int) (0 : Int))
  (k table4)
def vfu (table4 : Y3) : Z10 :=
  some ((table4, true, ()), (()))
def vatp (L3 : Y5 → Y3 → Int → Int → Z10) (o_0 : Y5) : Z10 :=
  L3 o_0 [] (o_0.length : Int) (0 : Int)
def vaej (N : Nat) (k : Y5 → Y3 → Y4 → Int → Int → Z10) : Nat → Y5 → Y3 → Int → Y4 → Int → Int → Int → Int → Z10
  | 0, _, _, _, _, _, _, _, _ => none
  | m + 1, o1, table4, x5, row6, t11, t12, t17, t18 => vnx (vaej N k m) k o1 table4 x5 row6 t11 t12 t17 t18
def vrj (N : Nat) (rec : Y5 → Y3 → Int → Int → Z10) (k : Y3 → Z10) (o1 : Y5) (table4 : Y3) (x5 : Int) (row6 : Y4) (t11 t12 t17 t18 : Int) : Z10 := vaej N (vmg rec) N o1 table4 x5 row6 t11 t12 t17 t18
def vaaw (N : Nat) (k : Y3 → Z10) : Nat → Y5 → Y3 → Int → Int → Z10
  | 0, _, _, _, _ => none
  | m + 1, o1, table4, t11, t12 => vmp (vrj N (vaaw N k m) k) k o1 table4 t11 t12
def vapj (N : Nat) (o1 : Y5) (table4 : Y3) (t11 t12 : Int) : Z10 := vaaw N (vfu) N o1 table4 t11 t12
def zz30 (N : Nat) (o_0 : Y5) : Z10 := vatp (vapj N) o_0
def S_zz30 : Sig := { a := (.pair Q6 .unit), md := [0], mf := [], m := .unit, r := (.tup (.pair (.sl Q7) (.pair .bool .unit))), rf := (.p P10 .i), f := fun x => zz30 big x.1 }
def A_zz30 : Cfg := mkCfg tab [(106, S_zz29), (116, S_zz27)] [(6, [.drop, .as (.ptr Q6) .i, .drop, .drop, .as (.sl Q7) P10, .drop, .drop, .drop, .drop, .drop, .drop, .as I .i, .as I .i]), (14, [.drop, .as (.ptr Q6) .i, .drop, .drop, .as (.sl Q7) P10, .as (.ptr I) .i, .as Q7 P5, .drop, .drop, .drop, .drop, .as I .i, .as I .i, .drop, .drop, .drop, .drop, .as I .i, .as I .i]), (33, [.drop, .drop, .drop, .drop, .as (.sl Q7) P10]), (19, [.drop, .as (.ptr Q6) .i, .drop, .drop, .as (.sl Q7) P10, .as (.ptr I) .i, .as Q7 P5, .as (.ptr I) .i, .drop, .drop, .drop, .as I .i, .as I .i, .drop, .drop, .drop, .drop, .as I .i, .as I .i]), (29, [.drop, .as (.ptr Q6) .i, .drop, .drop, .as (.sl Q7) P10, .drop, .as Q7 P5, .drop, .drop, .drop, .drop, .as I .i, .as I .i])]
noncomputable def vfe (N n : Nat) (K : Ex → St → Z10) (o1 : Y5) (table4 : Y3) (t11 t12 : Int) : Z10 := iter ((A_zz30).shape 6) (run (A_zz30) N (codeAt Try.f88 [1, 1, 0, 1, 0, 0])) n ([.u, .val (.ptr Q6) .i o1, .u, .u, .val (.sl Q7) P10 table4, .u, .u, .u, .u, .u, .u, W0 t11, W0 t12] ++ List.replicate 26 .u) K
noncomputable def vki (N n : Nat) (K : Ex → St → Z10) (o1 : Y5) (table4 : Y3) (x5 : Int) (row6 : Y4) (t11 t12 t17 t18 : Int) : Z10 := iter ((A_zz30).shape 14) (run (A_zz30) N (codeAt Try.f88 [1, 1, 0, 1, 0, 0, 1, 1, 0, 0, 1, 1, 0, 1, 0, 0])) n ([.u, .val (.ptr Q6) .i o1, .u, .u, .val (.sl Q7) P10 table4, .val (.ptr I) .i x5, W3 row6, .u, .u, .u, .u, W0 t11, W0 t12, .u, .u, .u, .u, W0 t17, W0 t18] ++ List.replicate 20 .u) K
noncomputable abbrev valc : Ex → St → Z10 := finish (A_zz30) S_zz30 Try.f88.results.toList
noncomputable abbrev vaee (kX : St → Z10) (table4 : Y3) : Z10 := kX ([.u, .u, .u, .u, .val (.sl Q7) P10 table4] ++ List.replicate 34 .u)
noncomputable abbrev viw (kX : St → Z10) (kO : Nat → St → Z10) : Ex → St → Z10 := exK valc 0 ((A_zz30).shape 33) kX kO
noncomputable abbrev vaod (kX : St → Z10) (o1 : Y5) (table4 : Y3) (row6 : Y4) (t11 t12 : Int) : Z10 := kX ([.u, .val (.ptr Q6) .i o1, .u, .u, .val (.sl Q7) P10 table4, .u, W3 row6, .u, .u, .u, .u, W0 t11, W0 t12] ++ List.replicate 26 .u)
noncomputable abbrev vaca (kX : St → Z10) (kO : Nat → St → Z10) : Ex → St → Z10 := exK valc 2 ((A_zz30).shape 29) kX kO
theorem vakt (N kX kO) : ∀ n, vki N n (vaca kX kO) = vaej N (vaod kX) n
 | 0 => rfl
 | m + 1 => (show vki N (m + 1) (vaca kX kO) = vnx (vki N m (vaca kX kO)) (vaod kX) by kernel_rfl).trans (by rw [vakt N kX kO m]; funext _ _ _ _ _ _ _ _; rfl)
noncomputable abbrev vxq (N m : Nat) (kX : St → Z10) (kO : Nat → St → Z10) : Ex → St → Z10 := (blockK 2 (sqK (A_zz30) N 29 500014 (codeAt Try.f88 [1, 1, 0, 1, 0, 0, 1, 1, 0, 0, 1, 1, 1]) (blockK 1 (sqK (A_zz30) N 31 500015 (codeAt Try.f88 [1, 1, 0, 1, 0, 0, 1, 1, 1]) (itK (A_zz30) N 6 (codeAt Try.f88 [1, 1, 0, 1, 0, 0]) m (viw kX kO))))))
noncomputable abbrev vbcd (N m : Nat) (kX : St → Z10) (kO : Nat → St → Z10) (st' : St) : Z10 := run (A_zz30) N (codeAt Try.f88 [1, 1, 0, 1, 0, 0, 1, 1, 0, 0, 1, 1, 1]) st' (blockK 1 (sqK (A_zz30) N 31 500015 (codeAt Try.f88 [1, 1, 0, 1, 0, 0, 1, 1, 1]) (itK (A_zz30) N 6 (codeAt Try.f88 [1, 1, 0, 1, 0, 0]) m (viw kX kO))))
theorem vbms (N m kX kO) {r} (h : vfe N m (viw kX kO) = r) : vki N N (vxq N m kX kO) = vrj N r (vaee kX) := by
 rw [show vki N N (vxq N m kX kO) = vki N N (vaca (vbcd N m kX kO) fun j => (vxq N m kX kO) (.exit j)) from (by funext _ _ _ _ _ _ _ _; exact vac (fun _ => by kernel_rfl) fun _ => by kernel_rfl), vakt, show vaod (vbcd N m kX kO) = vmg (vfe N m (viw kX kO)) by kernel_rfl, h]; rfl
theorem vamf (N kX kO) : ∀ n, vfe N n (viw kX kO) = vaaw N (vaee kX) n
 | 0 => rfl
 | m + 1 => (show vfe N (m + 1) (viw kX kO) = vmp (vki N N (vxq N m kX kO)) (vaee kX) by kernel_rfl).trans (by rw [vbms N m kX kO (vamf N kX kO m)]; funext _ _ _ _; rfl)
noncomputable abbrev vzg (N : Nat) : Ex → St → Z10 := (blockK 0 (sqK (A_zz30) N 33 500016 (codeAt Try.f88 [1, 1, 1]) valc))
noncomputable abbrev vbcg (N : Nat) (st' : St) : Z10 := run (A_zz30) N (codeAt Try.f88 [1, 1, 1]) st' valc
theorem vboy (N) : vfe N N (vzg N) = vapj N := by
 rw [show vfe N N (vzg N) = vfe N N (viw (vbcg N) fun j => (vzg N) (.exit j)) from (by funext _ _ _ _; exact vac (fun _ => by kernel_rfl) fun _ => by kernel_rfl), vamf, show vaee (vbcg N) = vfu by kernel_rfl]; rfl
theorem run0_zz30 (N : Nat) (x : (S_zz30).a.den) : runF (A_zz30) N Try.f88 S_zz30 x = (vatp (vfe N N (vzg N)) x.1) := by kernel_rfl
theorem run_zz30 (N : Nat) (x : (S_zz30).a.den) : runF (A_zz30) N Try.f88 S_zz30 x = zz30 N x.1 := by
  refine (run0_zz30 N x).trans ?_
  rw [vboy N]
  rfl
theorem fn_zz30 : FnOk Try.prog 88 := ⟨_, Try.func88, by kernel_rfl, by kernel_rfl⟩
theorem good_zz30 : Gx.Good Try.prog 88 S_zz30 := vaa Try.func88 (of_decide_eq_true (by kernel_rfl)) fun x r h => ⟨A_zz30, big, vad tabOk, vab (show SigsOk Try.prog [(106, S_zz29), (116, S_zz27)] from ⟨⟨fn_zz29, good_zz29⟩, ⟨fn_zz27, good_zz27⟩, trivial⟩), (run_zz30 big x).trans h⟩
def vnr (rec : Y5 → Y5 → Int → Int → Int → Int → Int → Z13) (k : Y5 → Y5 → Int → Int → Z13) (o0 d3 : Y5) (x4 t10 t11 t15 t16 : Int) : Z13 :=
  cond (decide (t16 < t15))
  ((atI d3 x4).bind fun _ =>
  (d3[x4.toNat]?).bind fun xq2 =>
  (atI o0 t16).bind fun xq3 =>
  (atI xq3 x4).bind fun xq4 =>
  (d3[x4.toNat]?).bind fun xq5 =>
  (atI xq5 t16).bind fun _ =>
  (d3[x4.toNat]?).bind fun xq6 =>
  (xq6[t16.toNat]?).bind fun xq7 =>
  rec o0 (d3.set x4.toNat (xq6.set t16.toNat xq4)) x4 t10 t11 t15 (IntKind.i64.wrap (t16 + (1 : Int))))
  (k o0 d3 t10 t11)
def vor (rec : Y5 → Y5 → Int → Int → Z13) (o0 d3 : Y5) (t10 t11 : Int) : Z13 :=
  rec o0 d3 t10 (IntKind.i64.wrap (t11 + (1 : Int)))
def voc (L6 : Y5 → Y5 → Int → Int → Int → Int → Int → Z13) (k : Y5 → Z13) (o0 d3 : Y5) (t10 t11 : Int) : Z13 :=
  cond (decide (t11 < t10))
  (L6 o0 d3 t11 t10 t11 (o0.length : Int) (0 : Int))
  (k d3)
def vfh (d3 : Y5) : Z13 :=
  some (d3, (()))
def vaza (L3 : Y5 → Y5 → Int → Int → Z13) (o_0 : Y5) : Z13 :=
  (zz22 big (o_0.length : Int)).bind fun rq1 =>
  L3 o_0 rq1.1 (o_0.length : Int) (0 : Int)
def vabr (N : Nat) (k : Y5 → Y5 → Int → Int → Z13) : Nat → Y5 → Y5 → Int → Int → Int → Int → Int → Z13
  | 0, _, _, _, _, _, _, _ => none
  | m + 1, o0, d3, x4, t10, t11, t15, t16 => vnr (vabr N k m) k o0 d3 x4 t10 t11 t15 t16
def vsa (N : Nat) (rec : Y5 → Y5 → Int → Int → Z13) (k : Y5 → Z13) (o0 d3 : Y5) (x4 t10 t11 t15 t16 : Int) : Z13 := vabr N (vor rec) N o0 d3 x4 t10 t11 t15 t16
def vadq (N : Nat) (k : Y5 → Z13) : Nat → Y5 → Y5 → Int → Int → Z13
  | 0, _, _, _, _ => none
  | m + 1, o0, d3, t10, t11 => voc (vsa N (vadq N k m) k) k o0 d3 t10 t11
def vapa (N : Nat) (o0 d3 : Y5) (t10 t11 : Int) : Z13 := vadq N (vfh) N o0 d3 t10 t11
def zz31 (N : Nat) (o_0 : Y5) : Z13 := vaza (vapa N) o_0
def S_zz31 : Sig := { a := (.pair Q6 .unit), md := [0], mf := [], m := .unit, r := Q6, rf := P10, f := fun x => zz31 big x.1 }
def A_zz31 : Cfg := mkCfg tab [(56, S_zz22)] [(6, [.as Q6 .i, .drop, .drop, .as Q6 P10, .drop, .drop, .drop, .drop, .drop, .drop, .as I .i, .as I .i]), (12, [.as Q6 .i, .drop, .drop, .as Q6 P10, .as I .i, .drop, .drop, .drop, .drop, .drop, .as I .i, .as I .i, .drop, .drop, .drop, .as I .i, .as I .i]), (23, [.drop, .drop, .drop, .as Q6 P10]), (21, [.as Q6 .i, .drop, .drop, .as Q6 P10, .drop, .drop, .drop, .drop, .drop, .drop, .as I .i, .as I .i])]
noncomputable def vhn (N n : Nat) (K : Ex → St → Z13) (o0 d3 : Y5) (t10 t11 : Int) : Z13 := iter ((A_zz31).shape 6) (run (A_zz31) N (codeAt Try.f89 [1, 1, 0, 1, 0, 0])) n ([.val Q6 .i o0, .u, .u, W5 d3, .u, .u, .u, .u, .u, .u, W0 t10, W0 t11] ++ List.replicate 23 .u) K
noncomputable def vih (N n : Nat) (K : Ex → St → Z13) (o0 d3 : Y5) (x4 t10 t11 t15 t16 : Int) : Z13 := iter ((A_zz31).shape 12) (run (A_zz31) N (codeAt Try.f89 [1, 1, 0, 1, 0, 0, 1, 1, 0, 0, 1, 1, 0, 0])) n ([.val Q6 .i o0, .u, .u, W5 d3, W0 x4, .u, .u, .u, .u, .u, W0 t10, W0 t11, .u, .u, .u, W0 t15, W0 t16] ++ List.replicate 18 .u) K
noncomputable abbrev valm : Ex → St → Z13 := finish (A_zz31) S_zz31 Try.f89.results.toList
noncomputable abbrev vady (kX : St → Z13) (d3 : Y5) : Z13 := kX ([.u, .u, .u, W5 d3] ++ List.replicate 31 .u)
noncomputable abbrev vjr (kX : St → Z13) (kO : Nat → St → Z13) : Ex → St → Z13 := exK valm 0 ((A_zz31).shape 23) kX kO
noncomputable abbrev vans (kX : St → Z13) (o0 d3 : Y5) (t10 t11 : Int) : Z13 := kX ([.val Q6 .i o0, .u, .u, W5 d3, .u, .u, .u, .u, .u, .u, W0 t10, W0 t11] ++ List.replicate 23 .u)
noncomputable abbrev vabv (kX : St → Z13) (kO : Nat → St → Z13) : Ex → St → Z13 := exK valm 2 ((A_zz31).shape 21) kX kO
theorem vamz (N kX kO) : ∀ n, vih N n (vabv kX kO) = vabr N (vans kX) n
 | 0 => rfl
 | m + 1 => (show vih N (m + 1) (vabv kX kO) = vnr (vih N m (vabv kX kO)) (vans kX) by kernel_rfl).trans (by rw [vamz N kX kO m]; funext _ _ _ _ _ _ _; rfl)
noncomputable abbrev vabe (N m : Nat) (kX : St → Z13) (kO : Nat → St → Z13) : Ex → St → Z13 := (blockK 2 (blockK 1 (sqK (A_zz31) N 21 500010 (codeAt Try.f89 [1, 1, 0, 1, 0, 0, 1, 1, 1]) (itK (A_zz31) N 6 (codeAt Try.f89 [1, 1, 0, 1, 0, 0]) m (vjr kX kO)))))
noncomputable abbrev vbem (N m : Nat) (kX : St → Z13) (kO : Nat → St → Z13) (st' : St) : Z13 := run (A_zz31) N (codeAt Try.f89 [1, 1, 0, 1, 0, 0, 1, 1, 1]) st' (itK (A_zz31) N 6 (codeAt Try.f89 [1, 1, 0, 1, 0, 0]) m (vjr kX kO))
theorem vboz (N m kX kO) {r} (h : vhn N m (vjr kX kO) = r) : vih N N (vabe N m kX kO) = vsa N r (vady kX) := by
 rw [show vih N N (vabe N m kX kO) = vih N N (vabv (vbem N m kX kO) fun j => (vabe N m kX kO) (.exit j)) from (by funext _ _ _ _ _ _ _; exact vac (fun _ => by kernel_rfl) fun _ => by kernel_rfl), vamz, show vans (vbem N m kX kO) = vor (vhn N m (vjr kX kO)) by kernel_rfl, h]; rfl
theorem vaji (N kX kO) : ∀ n, vhn N n (vjr kX kO) = vadq N (vady kX) n
 | 0 => rfl
 | m + 1 => (show vhn N (m + 1) (vjr kX kO) = voc (vih N N (vabe N m kX kO)) (vady kX) by kernel_rfl).trans (by rw [vboz N m kX kO (vaji N kX kO m)]; funext _ _ _ _; rfl)
noncomputable abbrev vyf (N : Nat) : Ex → St → Z13 := (blockK 0 (sqK (A_zz31) N 23 500011 (codeAt Try.f89 [1, 1, 1]) valm))
noncomputable abbrev vbbw (N : Nat) (st' : St) : Z13 := run (A_zz31) N (codeAt Try.f89 [1, 1, 1]) st' valm
theorem vblr (N) : vhn N N (vyf N) = vapa N := by
 rw [show vhn N N (vyf N) = vhn N N (vjr (vbbw N) fun j => (vyf N) (.exit j)) from (by funext _ _ _ _; exact vac (fun _ => by kernel_rfl) fun _ => by kernel_rfl), vaji, show vady (vbbw N) = vfh by kernel_rfl]; rfl
theorem run0_zz31 (N : Nat) (x : (S_zz31).a.den) : runF (A_zz31) N Try.f89 S_zz31 x = (vaza (vhn N N (vyf N)) x.1) := by kernel_rfl
theorem run_zz31 (N : Nat) (x : (S_zz31).a.den) : runF (A_zz31) N Try.f89 S_zz31 x = zz31 N x.1 := by
  refine (run0_zz31 N x).trans ?_
  rw [vblr N]
  rfl
theorem fn_zz31 : FnOk Try.prog 89 := ⟨_, Try.func89, by kernel_rfl, by kernel_rfl⟩
theorem good_zz31 : Gx.Good Try.prog 89 S_zz31 := vaa Try.func89 (of_decide_eq_true (by kernel_rfl)) fun x r h => ⟨A_zz31, big, vad tabOk, vab (show SigsOk Try.prog [(56, S_zz22)] from ⟨⟨fn_zz22, good_zz22⟩, trivial⟩), (run_zz31 big x).trans h⟩
def vala (p_0 : Y2) : Option ((Y1 × (Bool × Unit)) × Unit) :=
  (zz26 big p_0).bind fun rq1 =>
  cond (!((((), rq1.1.2).2).1))
  (some ((none, false, ()), (())))
  (cond (decide ((rq1.1.1.length : Int) = (0 : Int)))
  (some ((none, false, ()), (())))
  ((zz30 big rq1.1.1).bind fun rq2 =>
  (zz31 big rq1.1.1).bind fun rq3 =>
  (zz30 big rq3.1).bind fun rq4 =>
  cond ((((), rq2.1.2).2).1)
  (some ((some (rq1.1.1, (rq2.1.1, (rq4.1.1, ()))), (((), rq4.1.2).2).1, ()), (())))
  (some ((some (rq1.1.1, (rq2.1.1, (rq4.1.1, ()))), false, ()), (())))))
def zz32 (p_0 : Y2) : Option ((Y1 × (Bool × Unit)) × Unit) := vala p_0
def S_zz32 : Sig := { a := Q11, md := [0], mf := [], m := .unit, r := (.tup (.pair Q2 (.pair .bool .unit))), rf := .i, f := fun x => zz32 x.1 }
def A_zz32 : Cfg := mkCfg tab [(72, S_zz26), (88, S_zz30), (89, S_zz31)] []
theorem run_zz32 (N : Nat) (x : (S_zz32).a.den) : runF (A_zz32) N Try.f52 S_zz32 x = zz32 x.1 := by kernel_rfl
theorem fn_zz32 : FnOk Try.prog 52 := ⟨_, Try.func52, by kernel_rfl, by kernel_rfl⟩
theorem good_zz32 : Gx.Good Try.prog 52 S_zz32 := vaa Try.func52 (of_decide_eq_true (by kernel_rfl)) fun x r h => ⟨A_zz32, big, vad tabOk, vab (show SigsOk Try.prog [(72, S_zz26), (88, S_zz30), (89, S_zz31)] from ⟨⟨fn_zz26, good_zz26⟩, ⟨fn_zz30, good_zz30⟩, ⟨fn_zz31, good_zz31⟩, trivial⟩), (run_zz32 big x).trans h⟩
def vmm (rec : Int → Y4 → Int → Int → Z1) (k : Z1) (x1 : Int) (t7 : Y4) (t8 t9 : Int) : Z1 :=
  cond (decide (t9 < t8))
  ((atI t7 t9).bind fun xq1 =>
  cond (decide (x1 = xq1))
  (some (false, (())))
  (rec x1 t7 t8 (IntKind.i64.wrap (t9 + (1 : Int)))))
  (k)
def vmn : Z1 :=
  some (true, (()))
def vayr (L2 : Int → Y4 → Int → Int → Z1) (list_0 : Y4) (x_1 : Int) : Z1 :=
  L2 x_1 list_0 (list_0.length : Int) (0 : Int)
def vaer (N : Nat) (k : Z1) : Nat → Int → Y4 → Int → Int → Z1
  | 0, _, _, _, _ => none
  | m + 1, x1, t7, t8, t9 => vmm (vaer N k m) k x1 t7 t8 t9
def vapw (N : Nat) (x1 : Int) (t7 : Y4) (t8 t9 : Int) : Z1 := vaer N (vmn) N x1 t7 t8 t9
def zz33 (N : Nat) (list_0 : Y4) (x_1 : Int) : Z1 := vayr (vapw N) list_0 x_1
def S_zz33 : Sig := { a := (.pair Q7 (.pair I .unit)), md := [0, 0], mf := [], m := .unit, r := .bool, rf := .i, f := fun x => zz33 big x.1 x.2.1 }
def A_zz33 : Cfg := mkCfg tab [] [(4, [.drop, .as I .i, .drop, .drop, .drop, .drop, .drop, .as Q7 .i, .as I .i, .as I .i]), (15, [])]
noncomputable def vkd (N n : Nat) (K : Ex → St → Z1) (x1 : Int) (t7 : Y4) (t8 t9 : Int) : Z1 := iter ((A_zz33).shape 4) (run (A_zz33) N (codeAt Try.f91 [1, 0, 1, 0, 0])) n ([.u, W0 x1, .u, .u, .u, .u, .u, W4 t7, W0 t8, W0 t9] ++ List.replicate 7 .u) K
noncomputable abbrev vazu : Ex → St → Z1 := finish (A_zz33) S_zz33 Try.f91.results.toList
noncomputable abbrev vapr (kX : St → Z1) : Z1 := kX ([] ++ List.replicate 17 .u)
noncomputable abbrev vaaj (kX : St → Z1) (kO : Nat → St → Z1) : Ex → St → Z1 := exK vazu 0 ((A_zz33).shape 15) kX kO
theorem vanf (N kX kO) : ∀ n, vkd N n (vaaj kX kO) = vaer N (vapr kX) n
 | 0 => rfl
 | m + 1 => (show vkd N (m + 1) (vaaj kX kO) = vmm (vkd N m (vaaj kX kO)) (vapr kX) by kernel_rfl).trans (by rw [vanf N kX kO m]; funext _ _ _ _; rfl)
noncomputable abbrev vabu (N : Nat) : Ex → St → Z1 := (blockK 0 (sqK (A_zz33) N 15 500007 (codeAt Try.f91 [1, 1]) vazu))
noncomputable abbrev vbfc (N : Nat) (st' : St) : Z1 := run (A_zz33) N (codeAt Try.f91 [1, 1]) st' vazu
theorem vbpo (N) : vkd N N (vabu N) = vapw N := by
 rw [show vkd N N (vabu N) = vkd N N (vaaj (vbfc N) fun j => (vabu N) (.exit j)) from (by funext _ _ _ _; exact vac (fun _ => by kernel_rfl) fun _ => by kernel_rfl), vanf, show vapr (vbfc N) = vmn by kernel_rfl]; rfl
theorem run0_zz33 (N : Nat) (x : (S_zz33).a.den) : runF (A_zz33) N Try.f91 S_zz33 x = (vayr (vkd N N (vabu N)) x.1 x.2.1) := by kernel_rfl
theorem run_zz33 (N : Nat) (x : (S_zz33).a.den) : runF (A_zz33) N Try.f91 S_zz33 x = zz33 N x.1 x.2.1 := by
  refine (run0_zz33 N x).trans ?_
  rw [vbpo N]
  rfl
theorem fn_zz33 : FnOk Try.prog 91 := ⟨_, Try.func91, by kernel_rfl, by kernel_rfl⟩
theorem good_zz33 : Gx.Good Try.prog 91 S_zz33 := vaa Try.func91 (of_decide_eq_true (by kernel_rfl)) fun x r h => ⟨A_zz33, big, vad tabOk, vab (show SigsOk Try.prog [] from trivial), (run_zz33 big x).trans h⟩
def vno (rec : Y4 → Y4 → Int → Int → Z1) (k : Z1) (list0 t5 : Y4) (t6 t7 : Int) : Z1 :=
  cond (decide (t7 < t6))
  ((atI t5 t7).bind fun xq1 =>
  (slI list0 0 t7).bind fun xq2 =>
  (zz33 big xq2 xq1).bind fun rq3 =>
  cond (!rq3.1)
  (some (false, (())))
  (rec list0 t5 t6 (IntKind.i64.wrap (t7 + (1 : Int)))))
  (k)
def vnk : Z1 :=
  some (true, (()))
def vazj (L2 : Y4 → Y4 → Int → Int → Z1) (list_0 : Y4) : Z1 :=
  L2 list_0 list_0 (list_0.length : Int) (0 : Int)
def vyh (N : Nat) (k : Z1) : Nat → Y4 → Y4 → Int → Int → Z1
  | 0, _, _, _, _ => none
  | m + 1, list0, t5, t6, t7 => vno (vyh N k m) k list0 t5 t6 t7
def vanh (N : Nat) (list0 t5 : Y4) (t6 t7 : Int) : Z1 := vyh N (vnk) N list0 t5 t6 t7
def zz34 (N : Nat) (list_0 : Y4) : Z1 := vazj (vanh N) list_0
def S_zz34 : Sig := { a := Q12, md := [0], mf := [], m := .unit, r := .bool, rf := .i, f := fun x => zz34 big x.1 }
def A_zz34 : Cfg := mkCfg tab [(91, S_zz33)] [(4, [.as Q7 .i, .drop, .drop, .drop, .drop, .as Q7 .i, .as I .i, .as I .i]), (15, [])]
noncomputable def vjs (N n : Nat) (K : Ex → St → Z1) (list0 t5 : Y4) (t6 t7 : Int) : Z1 := iter ((A_zz34).shape 4) (run (A_zz34) N (codeAt Try.f83 [1, 0, 1, 0, 0])) n ([W4 list0, .u, .u, .u, .u, W4 t5, W0 t6, W0 t7] ++ List.replicate 11 .u) K
noncomputable abbrev vato : Ex → St → Z1 := finish (A_zz34) S_zz34 Try.f83.results.toList
noncomputable abbrev vaoa (kX : St → Z1) : Z1 := kX ([] ++ List.replicate 19 .u)
noncomputable abbrev vzp (kX : St → Z1) (kO : Nat → St → Z1) : Ex → St → Z1 := exK vato 0 ((A_zz34).shape 15) kX kO
theorem vale (N kX kO) : ∀ n, vjs N n (vzp kX kO) = vyh N (vaoa kX) n
 | 0 => rfl
 | m + 1 => (show vjs N (m + 1) (vzp kX kO) = vno (vjs N m (vzp kX kO)) (vaoa kX) by kernel_rfl).trans (by rw [vale N kX kO m]; funext _ _ _ _; rfl)
noncomputable abbrev vze (N : Nat) : Ex → St → Z1 := (blockK 0 (sqK (A_zz34) N 15 500007 (codeAt Try.f83 [1, 1]) vato))
noncomputable abbrev vbef (N : Nat) (st' : St) : Z1 := run (A_zz34) N (codeAt Try.f83 [1, 1]) st' vato
theorem vblj (N) : vjs N N (vze N) = vanh N := by
 rw [show vjs N N (vze N) = vjs N N (vzp (vbef N) fun j => (vze N) (.exit j)) from (by funext _ _ _ _; exact vac (fun _ => by kernel_rfl) fun _ => by kernel_rfl), vale, show vaoa (vbef N) = vnk by kernel_rfl]; rfl
theorem run0_zz34 (N : Nat) (x : (S_zz34).a.den) : runF (A_zz34) N Try.f83 S_zz34 x = (vazj (vjs N N (vze N)) x.1) := by kernel_rfl
theorem run_zz34 (N : Nat) (x : (S_zz34).a.den) : runF (A_zz34) N Try.f83 S_zz34 x = zz34 N x.1 := by
  refine (run0_zz34 N x).trans ?_
  rw [vblj N]
  rfl
theorem fn_zz34 : FnOk Try.prog 83 := ⟨_, Try.func83, by kernel_rfl, by kernel_rfl⟩
theorem good_zz34 : Gx.Good Try.prog 83 S_zz34 := vaa Try.func83 (of_decide_eq_true (by kernel_rfl)) fun x r h => ⟨A_zz34, big, vad tabOk, vab (show SigsOk Try.prog [(91, S_zz33)] from ⟨⟨fn_zz33, good_zz33⟩, trivial⟩), (run_zz34 big x).trans h⟩
def voa (rec : Y4 → Y4 → Int → Z7) (k : Y4 → Y4 → Z7) (s0 t1 : Y4) (i5 : Int) : Z7 :=
  cond (decide (i5 < (s0.length : Int)))
  (cond (decide (i5 < (t1.length : Int)))
  ((atI s0 i5).bind fun xq1 =>
  (atI t1 i5).bind fun xq2 =>
  cond (decide (xq1 ≠ xq2))
  ((atI s0 i5).bind fun xq3 =>
  (atI t1 i5).bind fun xq4 =>
  cond (decide (xq3 < xq4))
  (some ((-1 : Int), (())))
  (some ((1 : Int), (()))))
  (rec s0 t1 (IntKind.i64.wrap (i5 + (1 : Int)))))
  (k s0 t1))
  (k s0 t1)
def vny (s0 t1 : Y4) : Z7 :=
  cond (decide ((s0.length : Int) < (t1.length : Int)))
  (some ((-1 : Int), (())))
  (cond (decide ((t1.length : Int) < (s0.length : Int)))
  (some ((1 : Int), (())))
  (some ((0 : Int), (()))))
def vazc (L2 : Y4 → Y4 → Int → Z7) (s_0 t_1 : Y4) : Z7 :=
  L2 s_0 t_1 (0 : Int)
def vzu (N : Nat) (k : Y4 → Y4 → Z7) : Nat → Y4 → Y4 → Int → Z7
  | 0, _, _, _ => none
  | m + 1, s0, t1, i5 => voa (vzu N k m) k s0 t1 i5
def vapk (N : Nat) (s0 t1 : Y4) (i5 : Int) : Z7 := vzu N (vny) N s0 t1 i5
def zz35 (N : Nat) (s_0 t_1 : Y4) : Z7 := vazc (vapk N) s_0 t_1
def S_zz35 : Sig := { a := (.pair Q7 Q12), md := [0, 0], mf := [], m := .unit, r := I, rf := .i, f := fun x => zz35 big x.1 x.2.1 }
def A_zz35 : Cfg := mkCfg tab [] [(4, [.as Q7 .i, .as Q7 .i, .drop, .drop, .drop, .as I .i]), (17, [.as Q7 .i, .as Q7 .i])]
noncomputable def vkr (N n : Nat) (K : Ex → St → Z7) (s0 t1 : Y4) (i5 : Int) : Z7 := iter ((A_zz35).shape 4) (run (A_zz35) N (codeAt Try.f84 [1, 0, 1, 0, 0])) n ([W4 s0, W4 t1, .u, .u, .u, W0 i5] ++ List.replicate 42 .u) K
noncomputable abbrev vaye : Ex → St → Z7 := finish (A_zz35) S_zz35 Try.f84.results.toList
noncomputable abbrev vanv (kX : St → Z7) (s0 t1 : Y4) : Z7 := kX ([W4 s0, W4 t1] ++ List.replicate 46 .u)
noncomputable abbrev vafe (kX : St → Z7) (kO : Nat → St → Z7) : Ex → St → Z7 := exK vaye 0 ((A_zz35).shape 17) kX kO
theorem valp (N kX kO) : ∀ n, vkr N n (vafe kX kO) = vzu N (vanv kX) n
 | 0 => rfl
 | m + 1 => (show vkr N (m + 1) (vafe kX kO) = voa (vkr N m (vafe kX kO)) (vanv kX) by kernel_rfl).trans (by rw [valp N kX kO m]; funext _ _ _; rfl)
noncomputable abbrev vyl (N : Nat) : Ex → St → Z7 := (blockK 0 (sqK (A_zz35) N 17 500008 (codeAt Try.f84 [1, 1]) vaye))
noncomputable abbrev vbez (N : Nat) (st' : St) : Z7 := run (A_zz35) N (codeAt Try.f84 [1, 1]) st' vaye
theorem vblu (N) : vkr N N (vyl N) = vapk N := by
 rw [show vkr N N (vyl N) = vkr N N (vafe (vbez N) fun j => (vyl N) (.exit j)) from (by funext _ _ _; exact vac (fun _ => by kernel_rfl) fun _ => by kernel_rfl), valp, show vanv (vbez N) = vny by kernel_rfl]; rfl
theorem run0_zz35 (N : Nat) (x : (S_zz35).a.den) : runF (A_zz35) N Try.f84 S_zz35 x = (vazc (vkr N N (vyl N)) x.1 x.2.1) := by kernel_rfl
theorem run_zz35 (N : Nat) (x : (S_zz35).a.den) : runF (A_zz35) N Try.f84 S_zz35 x = zz35 N x.1 x.2.1 := by
  refine (run0_zz35 N x).trans ?_
  rw [vblu N]
  rfl
theorem fn_zz35 : FnOk Try.prog 84 := ⟨_, Try.func84, by kernel_rfl, by kernel_rfl⟩
theorem good_zz35 : Gx.Good Try.prog 84 S_zz35 := vaa Try.func84 (of_decide_eq_true (by kernel_rfl)) fun x r h => ⟨A_zz35, big, vad tabOk, vab (show SigsOk Try.prog [] from trivial), (run_zz35 big x).trans h⟩
def vbik (o_0 : Y5) (x_1 y_2 : Int) : Z1 :=
  cond (decide (x_1 ≠ y_2))
  ((atI o_0 x_1).bind fun xq1 =>
  (atI xq1 y_2).bind fun xq2 =>
  some (xq2, (())))
  (some (false, (())))
def zz36 (o_0 : Y5) (x_1 y_2 : Int) : Z1 := vbik o_0 x_1 y_2
def S_zz36 : Sig := { a := (.pair Q6 Q8), md := [0, 0, 0], mf := [], m := .unit, r := .bool, rf := .i, f := fun x => zz36 x.1 x.2.1 x.2.2.1 }
def A_zz36 : Cfg := mkCfg tab [] []
theorem run_zz36 (N : Nat) (x : (S_zz36).a.den) : runF (A_zz36) N Try.f44 S_zz36 x = zz36 x.1 x.2.1 x.2.2.1 := by kernel_rfl
theorem fn_zz36 : FnOk Try.prog 44 := ⟨_, Try.func44, by kernel_rfl, by kernel_rfl⟩
theorem good_zz36 : Gx.Good Try.prog 44 S_zz36 := vaa Try.func44 (of_decide_eq_true (by kernel_rfl)) fun x r h => ⟨A_zz36, big, vad tabOk, vab (show SigsOk Try.prog [] from trivial), (run_zz36 big x).trans h⟩
def vbhm (l_0 : Y1) (o_1 a_2 b_3 c_4 i_5 : Int) : Z1 :=
  (l_0).bind fun xq1 =>
  (zz36 xq1.1 a_2 b_3).bind fun rq2 =>
  cond rq2.1
  ((l_0).bind fun xq3 =>
  (atI xq3.2.1 b_3).bind fun xq4 =>
  (atI xq4 c_4).bind fun xq5 =>
  cond (decide (xq5 = o_1))
  ((l_0).bind fun xq6 =>
  (atI xq6.2.2.1 b_3).bind fun xq7 =>
  (atI xq7 c_4).bind fun xq8 =>
  some (decide (xq8 = i_5), (())))
  (some (false, (()))))
  (some (false, (())))
def zz37 (l_0 : Y1) (o_1 a_2 b_3 c_4 i_5 : Int) : Z1 := vbhm l_0 o_1 a_2 b_3 c_4 i_5
def S_zz37 : Sig := { a := (.pair Q2 (.pair I (.pair I (.pair I Q8)))), md := [0, 0, 0, 0, 0, 0], mf := [], m := .unit, r := .bool, rf := .i, f := fun x => zz37 x.1 x.2.1 x.2.2.1 x.2.2.2.1 x.2.2.2.2.1 x.2.2.2.2.2.1 }
def A_zz37 : Cfg := mkCfg tab [(44, S_zz36)] []
theorem run_zz37 (N : Nat) (x : (S_zz37).a.den) : runF (A_zz37) N Try.f43 S_zz37 x = zz37 x.1 x.2.1 x.2.2.1 x.2.2.2.1 x.2.2.2.2.1 x.2.2.2.2.2.1 := by kernel_rfl
theorem fn_zz37 : FnOk Try.prog 43 := ⟨_, Try.func43, by kernel_rfl, by kernel_rfl⟩
theorem good_zz37 : Gx.Good Try.prog 43 S_zz37 := vaa Try.func43 (of_decide_eq_true (by kernel_rfl)) fun x r h => ⟨A_zz37, big, vad tabOk, vab (show SigsOk Try.prog [(44, S_zz36)] from ⟨⟨fn_zz36, good_zz36⟩, trivial⟩), (run_zz37 big x).trans h⟩
def vcx (rec : Unit → Y1 → Y4 → Int → Int → Int → Int → Int → Int → Int → Int → Z0) (k : Unit → Y1 → Y4 → Int → Int → Int → Int → Int → Z0) (good1 : Unit) (l6 : Y1) (best8 : Y4) (a9 b10 t26 t27 t34 t35 t42 t43 : Int) : Z0 :=
  cond (decide (t43 < t42))
  ((l6).bind fun xq5 =>
  (atI xq5.2.1 a9).bind fun xq6 =>
  (atI xq6 t43).bind fun xq7 =>
  (l6).bind fun xq8 =>
  (atI xq8.2.2.1 a9).bind fun xq9 =>
  (atI xq9 t43).bind fun xq10 =>
  (zz34 big [xq7, a9, b10, t43, xq10]).bind fun rq11 =>
  cond (!rq11.1)
  (rec good1 l6 best8 a9 b10 t26 t27 t34 t35 t42 (IntKind.i64.wrap (t43 + (1 : Int))))
  ((atI [xq7, a9, b10, t43, xq10] (0 : Int)).bind fun _ =>
  ([xq7, a9, b10, t43, xq10][(0 : Int).toNat]?).bind fun xq12 =>
  (atI [xq7, a9, b10, t43, xq10] (4 : Int)).bind fun _ =>
  ([xq7, a9, b10, t43, xq10][(4 : Int).toNat]?).bind fun xq13 =>
  (zz37 l6 xq12 a9 b10 t43 xq13).bind fun rq14 =>
  cond (!rq14.1)
  (rec good1 l6 best8 a9 b10 t26 t27 t34 t35 t42 (IntKind.i64.wrap (t43 + (1 : Int))))
  (cond (decide ((best8.length : Int) = (0 : Int)))
  (rec good1 l6 [xq7, a9, b10, t43, xq10] a9 b10 t26 t27 t34 t35 t42 (IntKind.i64.wrap (t43 + (1 : Int))))
  ((zz35 big [xq7, a9, b10, t43, xq10] best8).bind fun rq15 =>
  cond (decide (rq15.1 < (0 : Int)))
  (rec good1 l6 [xq7, a9, b10, t43, xq10] a9 b10 t26 t27 t34 t35 t42 (IntKind.i64.wrap (t43 + (1 : Int))))
  (rec good1 l6 best8 a9 b10 t26 t27 t34 t35 t42 (IntKind.i64.wrap (t43 + (1 : Int))))))))
  (k good1 l6 best8 a9 t26 t27 t34 t35)
def ves (rec : Unit → Y1 → Y4 → Int → Int → Int → Int → Int → Z0) (good1 : Unit) (l6 : Y1) (best8 : Y4) (a9 t26 t27 t34 t35 : Int) : Z0 :=
  rec good1 l6 best8 a9 t26 t27 t34 (IntKind.i64.wrap (t35 + (1 : Int)))
def vgg (L12 : Unit → Y1 → Y4 → Int → Int → Int → Int → Int → Int → Int → Int → Z0) (k : Unit → Y1 → Y4 → Int → Int → Z0) (good1 : Unit) (l6 : Y1) (best8 : Y4) (a9 t26 t27 t34 t35 : Int) : Z0 :=
  cond (decide (t35 < t34))
  ((l6).bind fun xq4 =>
  L12 good1 l6 best8 a9 t35 t26 t27 t34 t35 (xq4.1.length : Int) (0 : Int))
  (k good1 l6 best8 t26 t27)
def vdn (rec : Unit → Y1 → Y4 → Int → Int → Z0) (good1 : Unit) (l6 : Y1) (best8 : Y4) (t26 t27 : Int) : Z0 :=
  rec good1 l6 best8 t26 (IntKind.i64.wrap (t27 + (1 : Int)))
def vfo (L9 : Unit → Y1 → Y4 → Int → Int → Int → Int → Int → Z0) (k : Y4 → Z0) (good1 : Unit) (l6 : Y1) (best8 : Y4) (t26 t27 : Int) : Z0 :=
  cond (decide (t27 < t26))
  ((l6).bind fun xq3 =>
  L9 good1 l6 best8 t27 t26 t27 (xq3.1.length : Int) (0 : Int))
  (k best8)
def vdh (best8 : Y4) : Z0 :=
  some ((best8, decide ((0 : Int) < (best8.length : Int)), ()), (()))
def vwf (L6 : Unit → Y1 → Y4 → Int → Int → Z0) (p_0 : Y2) (good_1 : Unit) : Z0 :=
  (zz32 p_0).bind fun rq1 =>
  cond (!rq1.1.2.1)
  (some (([], false, ()), (())))
  ((rq1.1.1).bind fun xq2 =>
  L6 good_1 rq1.1.1 [] (xq2.1.length : Int) (0 : Int))
def vva (N : Nat) (k : Unit → Y1 → Y4 → Int → Int → Int → Int → Int → Z0) : Nat → Unit → Y1 → Y4 → Int → Int → Int → Int → Int → Int → Int → Int → Z0
  | 0, _, _, _, _, _, _, _, _, _, _, _ => none
  | m + 1, good1, l6, best8, a9, b10, t26, t27, t34, t35, t42, t43 => vcx (vva N k m) k good1 l6 best8 a9 b10 t26 t27 t34 t35 t42 t43
def vpw (N : Nat) (rec : Unit → Y1 → Y4 → Int → Int → Int → Int → Int → Z0) (k : Unit → Y1 → Y4 → Int → Int → Z0) (good1 : Unit) (l6 : Y1) (best8 : Y4) (a9 b10 t26 t27 t34 t35 t42 t43 : Int) : Z0 := vva N (ves rec) N good1 l6 best8 a9 b10 t26 t27 t34 t35 t42 t43
def vxj (N : Nat) (k : Unit → Y1 → Y4 → Int → Int → Z0) : Nat → Unit → Y1 → Y4 → Int → Int → Int → Int → Int → Z0
  | 0, _, _, _, _, _, _, _, _ => none
  | m + 1, good1, l6, best8, a9, t26, t27, t34, t35 => vgg (vpw N (vxj N k m) k) k good1 l6 best8 a9 t26 t27 t34 t35
def vsn (N : Nat) (rec : Unit → Y1 → Y4 → Int → Int → Z0) (k : Y4 → Z0) (good1 : Unit) (l6 : Y1) (best8 : Y4) (a9 t26 t27 t34 t35 : Int) : Z0 := vxj N (vdn rec) N good1 l6 best8 a9 t26 t27 t34 t35
def vabh (N : Nat) (k : Y4 → Z0) : Nat → Unit → Y1 → Y4 → Int → Int → Z0
  | 0, _, _, _, _, _ => none
  | m + 1, good1, l6, best8, t26, t27 => vfo (vsn N (vabh N k m) k) k good1 l6 best8 t26 t27
def vrg (N : Nat) (good1 : Unit) (l6 : Y1) (best8 : Y4) (t26 t27 : Int) : Z0 := vabh N (vdh) N good1 l6 best8 t26 t27
def zz38 (N : Nat) (p_0 : Y2) (good_1 : Unit) : Z0 := vwf (vrg N) p_0 good_1
def S_zz38 : Sig := { a := (.pair Q0 (.pair (.clo 43 0 .unit) .unit)), md := [0, 0], mf := [], m := .unit, r := Q9, rf := (.p P5 .i), f := fun x => zz38 big x.1 x.2.1 }
def A_zz38 : Cfg := mkCfg tab [(52, S_zz32), (83, S_zz34), (43, S_zz37), (84, S_zz35)] [(12, [.drop, .as (.clo 43 0 .unit) .i, .drop, .drop, .drop, .drop, .as Q2 .i, .drop, .as Q7 P5, .drop, .drop, .drop, .drop, .drop, .drop, .drop, .drop, .drop, .drop, .drop, .drop, .drop, .drop, .drop, .drop, .drop, .as I .i, .as I .i]), (18, [.drop, .as (.clo 43 0 .unit) .i, .drop, .drop, .drop, .drop, .as Q2 .i, .drop, .as Q7 P5, .as I .i, .drop, .drop, .drop, .drop, .drop, .drop, .drop, .drop, .drop, .drop, .drop, .drop, .drop, .drop, .drop, .drop, .as I .i, .as I .i, .drop, .drop, .drop, .drop, .drop, .drop, .as I .i, .as I .i]), (43, [.drop, .drop, .drop, .drop, .drop, .drop, .drop, .drop, .as Q7 P5]), (24, [.drop, .as (.clo 43 0 .unit) .i, .drop, .drop, .drop, .drop, .as Q2 .i, .drop, .as Q7 P5, .as I .i, .as I .i, .drop, .drop, .drop, .drop, .drop, .drop, .drop, .drop, .drop, .drop, .drop, .drop, .drop, .drop, .drop, .as I .i, .as I .i, .drop, .drop, .drop, .drop, .drop, .drop, .as I .i, .as I .i, .drop, .drop, .drop, .drop, .drop, .drop, .as I .i, .as I .i]), (41, [.drop, .as (.clo 43 0 .unit) .i, .drop, .drop, .drop, .drop, .as Q2 .i, .drop, .as Q7 P5, .drop, .drop, .drop, .drop, .drop, .drop, .drop, .drop, .drop, .drop, .drop, .drop, .drop, .drop, .drop, .drop, .drop, .as I .i, .as I .i]), (39, [.drop, .as (.clo 43 0 .unit) .i, .drop, .drop, .drop, .drop, .as Q2 .i, .drop, .as Q7 P5, .as I .i, .drop, .drop, .drop, .drop, .drop, .drop, .drop, .drop, .drop, .drop, .drop, .drop, .drop, .drop, .drop, .drop, .as I .i, .as I .i, .drop, .drop, .drop, .drop, .drop, .drop, .as I .i, .as I .i])]
noncomputable def vfz (N n : Nat) (K : Ex → St → Z0) (good1 : Unit) (l6 : Y1) (best8 : Y4) (t26 t27 : Int) : Z0 := iter ((A_zz38).shape 12) (run (A_zz38) N (codeAt Try.f42 [1, 1, 1, 1, 0, 1, 0, 0])) n ([.u, .val (.clo 43 0 .unit) .i good1, .u, .u, .u, .u, W6 l6, .u, W3 best8, .u, .u, .u, .u, .u, .u, .u, .u, .u, .u, .u, .u, .u, .u, .u, .u, .u, W0 t26, W0 t27] ++ List.replicate 77 .u) K
noncomputable def vgz (N n : Nat) (K : Ex → St → Z0) (good1 : Unit) (l6 : Y1) (best8 : Y4) (a9 t26 t27 t34 t35 : Int) : Z0 := iter ((A_zz38).shape 18) (run (A_zz38) N (codeAt Try.f42 [1, 1, 1, 1, 0, 1, 0, 0, 1, 1, 0, 0, 1, 1, 0, 0])) n ([.u, .val (.clo 43 0 .unit) .i good1, .u, .u, .u, .u, W6 l6, .u, W3 best8, W0 a9, .u, .u, .u, .u, .u, .u, .u, .u, .u, .u, .u, .u, .u, .u, .u, .u, W0 t26, W0 t27, .u, .u, .u, .u, .u, .u, W0 t34, W0 t35] ++ List.replicate 69 .u) K
noncomputable def vef (N n : Nat) (K : Ex → St → Z0) (good1 : Unit) (l6 : Y1) (best8 : Y4) (a9 b10 t26 t27 t34 t35 t42 t43 : Int) : Z0 := iter ((A_zz38).shape 24) (run (A_zz38) N (codeAt Try.f42 [1, 1, 1, 1, 0, 1, 0, 0, 1, 1, 0, 0, 1, 1, 0, 0, 1, 1, 0, 0, 1, 1, 0, 0])) n ([.u, .val (.clo 43 0 .unit) .i good1, .u, .u, .u, .u, W6 l6, .u, W3 best8, W0 a9, W0 b10, .u, .u, .u, .u, .u, .u, .u, .u, .u, .u, .u, .u, .u, .u, .u, W0 t26, W0 t27, .u, .u, .u, .u, .u, .u, W0 t34, W0 t35, .u, .u, .u, .u, .u, .u, W0 t42, W0 t43] ++ List.replicate 61 .u) K
noncomputable abbrev vxa : Ex → St → Z0 := finish (A_zz38) S_zz38 Try.f42.results.toList
noncomputable abbrev vyw (kX : St → Z0) (best8 : Y4) : Z0 := kX ([.u, .u, .u, .u, .u, .u, .u, .u, W3 best8] ++ List.replicate 96 .u)
noncomputable abbrev vks (kX : St → Z0) (kO : Nat → St → Z0) : Ex → St → Z0 := exK vxa 0 ((A_zz38).shape 43) kX kO
noncomputable abbrev vaed (kX : St → Z0) (good1 : Unit) (l6 : Y1) (best8 : Y4) (t26 t27 : Int) : Z0 := kX ([.u, .val (.clo 43 0 .unit) .i good1, .u, .u, .u, .u, W6 l6, .u, W3 best8, .u, .u, .u, .u, .u, .u, .u, .u, .u, .u, .u, .u, .u, .u, .u, .u, .u, W0 t26, W0 t27] ++ List.replicate 77 .u)
noncomputable abbrev vir (kX : St → Z0) (kO : Nat → St → Z0) : Ex → St → Z0 := exK vxa 2 ((A_zz38).shape 41) kX kO
noncomputable abbrev vahr (kX : St → Z0) (good1 : Unit) (l6 : Y1) (best8 : Y4) (a9 t26 t27 t34 t35 : Int) : Z0 := kX ([.u, .val (.clo 43 0 .unit) .i good1, .u, .u, .u, .u, W6 l6, .u, W3 best8, W0 a9, .u, .u, .u, .u, .u, .u, .u, .u, .u, .u, .u, .u, .u, .u, .u, .u, W0 t26, W0 t27, .u, .u, .u, .u, .u, .u, W0 t34, W0 t35] ++ List.replicate 69 .u)
noncomputable abbrev vtt (kX : St → Z0) (kO : Nat → St → Z0) : Ex → St → Z0 := exK vxa 4 ((A_zz38).shape 39) kX kO
theorem vage (N kX kO) : ∀ n, vef N n (vtt kX kO) = vva N (vahr kX) n
 | 0 => rfl
 | m + 1 => (show vef N (m + 1) (vtt kX kO) = vcx (vef N m (vtt kX kO)) (vahr kX) by kernel_rfl).trans (by rw [vage N kX kO m]; funext _ _ _ _ _ _ _ _ _ _ _; rfl)
noncomputable abbrev vtu (N m : Nat) (kX : St → Z0) (kO : Nat → St → Z0) : Ex → St → Z0 := (blockK 4 (blockK 3 (sqK (A_zz38) N 39 500019 (codeAt Try.f42 [1, 1, 1, 1, 0, 1, 0, 0, 1, 1, 0, 0, 1, 1, 0, 0, 1, 1, 1]) (itK (A_zz38) N 18 (codeAt Try.f42 [1, 1, 1, 1, 0, 1, 0, 0, 1, 1, 0, 0, 1, 1, 0, 0]) m (vir kX kO)))))
noncomputable abbrev vayv (N m : Nat) (kX : St → Z0) (kO : Nat → St → Z0) (st' : St) : Z0 := run (A_zz38) N (codeAt Try.f42 [1, 1, 1, 1, 0, 1, 0, 0, 1, 1, 0, 0, 1, 1, 0, 0, 1, 1, 1]) st' (itK (A_zz38) N 18 (codeAt Try.f42 [1, 1, 1, 1, 0, 1, 0, 0, 1, 1, 0, 0, 1, 1, 0, 0]) m (vir kX kO))
theorem vbjg (N m kX kO) {r} (h : vgz N m (vir kX kO) = r) : vef N N (vtu N m kX kO) = vpw N r (vaed kX) := by
 rw [show vef N N (vtu N m kX kO) = vef N N (vtt (vayv N m kX kO) fun j => (vtu N m kX kO) (.exit j)) from (by funext _ _ _ _ _ _ _ _ _ _ _; exact vac (fun _ => by kernel_rfl) fun _ => by kernel_rfl), vage, show vahr (vayv N m kX kO) = ves (vgz N m (vir kX kO)) by kernel_rfl, h]; rfl
theorem vajo (N kX kO) : ∀ n, vgz N n (vir kX kO) = vxj N (vaed kX) n
 | 0 => rfl
 | m + 1 => (show vgz N (m + 1) (vir kX kO) = vgg (vef N N (vtu N m kX kO)) (vaed kX) by kernel_rfl).trans (by rw [vbjg N m kX kO (vajo N kX kO m)]; funext _ _ _ _ _ _ _ _; rfl)
noncomputable abbrev vaeq (N m : Nat) (kX : St → Z0) (kO : Nat → St → Z0) : Ex → St → Z0 := (blockK 2 (blockK 1 (sqK (A_zz38) N 41 500020 (codeAt Try.f42 [1, 1, 1, 1, 0, 1, 0, 0, 1, 1, 1]) (itK (A_zz38) N 12 (codeAt Try.f42 [1, 1, 1, 1, 0, 1, 0, 0]) m (vks kX kO)))))
noncomputable abbrev vbbx (N m : Nat) (kX : St → Z0) (kO : Nat → St → Z0) (st' : St) : Z0 := run (A_zz38) N (codeAt Try.f42 [1, 1, 1, 1, 0, 1, 0, 0, 1, 1, 1]) st' (itK (A_zz38) N 12 (codeAt Try.f42 [1, 1, 1, 1, 0, 1, 0, 0]) m (vks kX kO))
theorem vbok (N m kX kO) {r} (h : vfz N m (vks kX kO) = r) : vgz N N (vaeq N m kX kO) = vsn N r (vyw kX) := by
 rw [show vgz N N (vaeq N m kX kO) = vgz N N (vir (vbbx N m kX kO) fun j => (vaeq N m kX kO) (.exit j)) from (by funext _ _ _ _ _ _ _ _; exact vac (fun _ => by kernel_rfl) fun _ => by kernel_rfl), vajo, show vaed (vbbx N m kX kO) = vdn (vfz N m (vks kX kO)) by kernel_rfl, h]; rfl
theorem vaie (N kX kO) : ∀ n, vfz N n (vks kX kO) = vabh N (vyw kX) n
 | 0 => rfl
 | m + 1 => (show vfz N (m + 1) (vks kX kO) = vfo (vgz N N (vaeq N m kX kO)) (vyw kX) by kernel_rfl).trans (by rw [vbok N m kX kO (vaie N kX kO m)]; funext _ _ _ _ _; rfl)
noncomputable abbrev vacc (N : Nat) : Ex → St → Z0 := (blockK 0 (sqK (A_zz38) N 43 500021 (codeAt Try.f42 [1, 1, 1, 1, 1]) vxa))
noncomputable abbrev vbcp (N : Nat) (st' : St) : Z0 := run (A_zz38) N (codeAt Try.f42 [1, 1, 1, 1, 1]) st' vxa
theorem vbpq (N) : vfz N N (vacc N) = vrg N := by
 rw [show vfz N N (vacc N) = vfz N N (vks (vbcp N) fun j => (vacc N) (.exit j)) from (by funext _ _ _ _ _; exact vac (fun _ => by kernel_rfl) fun _ => by kernel_rfl), vaie, show vyw (vbcp N) = vdh by kernel_rfl]; rfl
theorem run0_zz38 (N : Nat) (x : (S_zz38).a.den) : runF (A_zz38) N Try.f42 S_zz38 x = (vwf (vfz N N (vacc N)) x.1 x.2.1) := by kernel_rfl
theorem run_zz38 (N : Nat) (x : (S_zz38).a.den) : runF (A_zz38) N Try.f42 S_zz38 x = zz38 N x.1 x.2.1 := by
  refine (run0_zz38 N x).trans ?_
  rw [vbpq N]
  rfl
theorem fn_zz38 : FnOk Try.prog 42 := ⟨_, Try.func42, by kernel_rfl, by kernel_rfl⟩
theorem good_zz38 : Gx.Good Try.prog 42 S_zz38 := vaa Try.func42 (of_decide_eq_true (by kernel_rfl)) fun x r h => ⟨A_zz38, big, vad tabOk, vab (show SigsOk Try.prog [(52, S_zz32), (83, S_zz34), (43, S_zz37), (84, S_zz35)] from ⟨⟨fn_zz32, good_zz32⟩, ⟨fn_zz34, good_zz34⟩, ⟨fn_zz37, good_zz37⟩, ⟨fn_zz35, good_zz35⟩, trivial⟩), (run_zz38 big x).trans h⟩
def vajh (p_0 : Y2) : Z0 :=
  (zz38 big p_0 ()).bind fun rq1 =>
  some ((rq1.1.1, (((), rq1.1.2).2).1, ()), (()))
def zz39 (p_0 : Y2) : Z0 := vajh p_0
def S_zz39 : Sig := { a := Q11, md := [0], mf := [], m := .unit, r := Q9, rf := (.p P5 .i), f := fun x => zz39 x.1 }
def A_zz39 : Cfg := mkCfg tab [(42, S_zz38)] []
theorem run_zz39 (N : Nat) (x : (S_zz39).a.den) : runF (A_zz39) N Try.f7 S_zz39 x = zz39 x.1 := by kernel_rfl
theorem fn_zz39 : FnOk Try.prog 7 := ⟨_, Try.func7, by kernel_rfl, by kernel_rfl⟩
theorem good_zz39 : Gx.Good Try.prog 7 S_zz39 := vaa Try.func7 (of_decide_eq_true (by kernel_rfl)) fun x r h => ⟨A_zz39, big, vad tabOk, vab (show SigsOk Try.prog [(42, S_zz38)] from ⟨⟨fn_zz38, good_zz38⟩, trivial⟩), (run_zz39 big x).trans h⟩
def vany (rec : Y4 → Int → Int → Int → Z1) (k : Z1) (l0 : Y4) (lo1 hi2 i7 : Int) : Z1 :=
  cond (decide (i7 < (l0.length : Int)))
  ((atI l0 i7).bind fun xq1 =>
  (zz6 xq1 lo1 hi2).bind fun rq2 =>
  cond (!rq2.1)
  (some (false, (())))
  (cond (decide ((0 : Int) < i7))
  ((atI l0 (IntKind.i64.wrap (i7 - (1 : Int)))).bind fun xq3 =>
  (atI l0 i7).bind fun xq4 =>
  cond (decide (xq4 ≤ xq3))
  (some (false, (())))
  (rec l0 lo1 hi2 (IntKind.i64.wrap (i7 + (1 : Int)))))
  (rec l0 lo1 hi2 (IntKind.i64.wrap (i7 + (1 : Int))))))
  (k)
def vrk : Z1 :=
  some (true, (()))
def vayq (L2 : Y4 → Int → Int → Int → Z1) (l_0 : Y4) (lo_1 hi_2 : Int) : Z1 :=
  L2 l_0 lo_1 hi_2 (0 : Int)
def vmf (N : Nat) (k : Z1) : Nat → Y4 → Int → Int → Int → Z1
  | 0, _, _, _, _ => none
  | m + 1, l0, lo1, hi2, i7 => vany (vmf N k m) k l0 lo1 hi2 i7
def vanr (N : Nat) (l0 : Y4) (lo1 hi2 i7 : Int) : Z1 := vmf N (vrk) N l0 lo1 hi2 i7
def zz40 (N : Nat) (l_0 : Y4) (lo_1 hi_2 : Int) : Z1 := vayq (vanr N) l_0 lo_1 hi_2
def S_zz40 : Sig := { a := (.pair Q7 Q8), md := [0, 0, 0], mf := [], m := .unit, r := .bool, rf := .i, f := fun x => zz40 big x.1 x.2.1 x.2.2.1 }
def A_zz40 : Cfg := mkCfg tab [(121, S_zz6)] [(4, [.as Q7 .i, .as I .i, .as I .i, .drop, .drop, .drop, .drop, .as I .i]), (13, [])]
noncomputable def vje (N n : Nat) (K : Ex → St → Z1) (l0 : Y4) (lo1 hi2 i7 : Int) : Z1 := iter ((A_zz40).shape 4) (run (A_zz40) N (codeAt Try.f114 [1, 0, 1, 0, 0])) n ([W4 l0, W0 lo1, W0 hi2, .u, .u, .u, .u, W0 i7] ++ List.replicate 30 .u) K
noncomputable abbrev vayb : Ex → St → Z1 := finish (A_zz40) S_zz40 Try.f114.results.toList
noncomputable abbrev vaqo (kX : St → Z1) : Z1 := kX ([] ++ List.replicate 38 .u)
noncomputable abbrev vafg (kX : St → Z1) (kO : Nat → St → Z1) : Ex → St → Z1 := exK vayb 0 ((A_zz40).shape 13) kX kO
theorem vako (N kX kO) : ∀ n, vje N n (vafg kX kO) = vmf N (vaqo kX) n
 | 0 => rfl
 | m + 1 => (show vje N (m + 1) (vafg kX kO) = vany (vje N m (vafg kX kO)) (vaqo kX) by kernel_rfl).trans (by rw [vako N kX kO m]; funext _ _ _ _; rfl)
noncomputable abbrev vys (N : Nat) : Ex → St → Z1 := (blockK 0 (sqK (A_zz40) N 13 500006 (codeAt Try.f114 [1, 1]) vayb))
noncomputable abbrev vbfi (N : Nat) (st' : St) : Z1 := run (A_zz40) N (codeAt Try.f114 [1, 1]) st' vayb
theorem vbmi (N) : vje N N (vys N) = vanr N := by
 rw [show vje N N (vys N) = vje N N (vafg (vbfi N) fun j => (vys N) (.exit j)) from (by funext _ _ _ _; exact vac (fun _ => by kernel_rfl) fun _ => by kernel_rfl), vako, show vaqo (vbfi N) = vrk by kernel_rfl]; rfl
theorem run0_zz40 (N : Nat) (x : (S_zz40).a.den) : runF (A_zz40) N Try.f114 S_zz40 x = (vayq (vje N N (vys N)) x.1 x.2.1 x.2.2.1) := by kernel_rfl
theorem run_zz40 (N : Nat) (x : (S_zz40).a.den) : runF (A_zz40) N Try.f114 S_zz40 x = zz40 N x.1 x.2.1 x.2.2.1 := by
  refine (run0_zz40 N x).trans ?_
  rw [vbmi N]
  rfl
theorem fn_zz40 : FnOk Try.prog 114 := ⟨_, Try.func114, by kernel_rfl, by kernel_rfl⟩
theorem good_zz40 : Gx.Good Try.prog 114 S_zz40 := vaa Try.func114 (of_decide_eq_true (by kernel_rfl)) fun x r h => ⟨A_zz40, big, vad tabOk, vab (show SigsOk Try.prog [(121, S_zz6)] from ⟨⟨fn_zz6, good_zz6⟩, trivial⟩), (run_zz40 big x).trans h⟩
def voi (rec : Y4 → Y4 → Int → Z1) (k : Z1) (x0 y1 : Y4) (i5 : Int) : Z1 :=
  cond (decide (i5 < (x0.length : Int)))
  ((atI x0 i5).bind fun xq1 =>
  (zz14 big y1 xq1).bind fun rq2 =>
  cond (!rq2.1)
  (some (false, (())))
  (rec x0 y1 (IntKind.i64.wrap (i5 + (1 : Int)))))
  (k)
def vnt : Z1 :=
  some (true, (()))
def vaup (L2 : Y4 → Y4 → Int → Z1) (x_0 y_1 : Y4) : Z1 :=
  L2 x_0 y_1 (0 : Int)
def vxt (N : Nat) (k : Z1) : Nat → Y4 → Y4 → Int → Z1
  | 0, _, _, _ => none
  | m + 1, x0, y1, i5 => voi (vxt N k m) k x0 y1 i5
def vanu (N : Nat) (x0 y1 : Y4) (i5 : Int) : Z1 := vxt N (vnt) N x0 y1 i5
def zz41 (N : Nat) (x_0 y_1 : Y4) : Z1 := vaup (vanu N) x_0 y_1
def S_zz41 : Sig := { a := (.pair Q7 Q12), md := [0, 0], mf := [], m := .unit, r := .bool, rf := .i, f := fun x => zz41 big x.1 x.2.1 }
def A_zz41 : Cfg := mkCfg tab [(87, S_zz14)] [(4, [.as Q7 .i, .as Q7 .i, .drop, .drop, .drop, .as I .i]), (13, [])]
noncomputable def vkj (N n : Nat) (K : Ex → St → Z1) (x0 y1 : Y4) (i5 : Int) : Z1 := iter ((A_zz41).shape 4) (run (A_zz41) N (codeAt Try.f115 [1, 0, 1, 0, 0])) n ([W4 x0, W4 y1, .u, .u, .u, W0 i5] ++ List.replicate 13 .u) K
noncomputable abbrev vavt : Ex → St → Z1 := finish (A_zz41) S_zz41 Try.f115.results.toList
noncomputable abbrev vaoy (kX : St → Z1) : Z1 := kX ([] ++ List.replicate 19 .u)
noncomputable abbrev vaav (kX : St → Z1) (kO : Nat → St → Z1) : Ex → St → Z1 := exK vavt 0 ((A_zz41).shape 13) kX kO
theorem vajw (N kX kO) : ∀ n, vkj N n (vaav kX kO) = vxt N (vaoy kX) n
 | 0 => rfl
 | m + 1 => (show vkj N (m + 1) (vaav kX kO) = voi (vkj N m (vaav kX kO)) (vaoy kX) by kernel_rfl).trans (by rw [vajw N kX kO m]; funext _ _ _; rfl)
noncomputable abbrev vaeu (N : Nat) : Ex → St → Z1 := (blockK 0 (sqK (A_zz41) N 13 500006 (codeAt Try.f115 [1, 1]) vavt))
noncomputable abbrev vbba (N : Nat) (st' : St) : Z1 := run (A_zz41) N (codeAt Try.f115 [1, 1]) st' vavt
theorem vbmh (N) : vkj N N (vaeu N) = vanu N := by
 rw [show vkj N N (vaeu N) = vkj N N (vaav (vbba N) fun j => (vaeu N) (.exit j)) from (by funext _ _ _; exact vac (fun _ => by kernel_rfl) fun _ => by kernel_rfl), vajw, show vaoy (vbba N) = vnt by kernel_rfl]; rfl
theorem run0_zz41 (N : Nat) (x : (S_zz41).a.den) : runF (A_zz41) N Try.f115 S_zz41 x = (vaup (vkj N N (vaeu N)) x.1 x.2.1) := by kernel_rfl
theorem run_zz41 (N : Nat) (x : (S_zz41).a.den) : runF (A_zz41) N Try.f115 S_zz41 x = zz41 N x.1 x.2.1 := by
  refine (run0_zz41 N x).trans ?_
  rw [vbmh N]
  rfl
theorem fn_zz41 : FnOk Try.prog 115 := ⟨_, Try.func115, by kernel_rfl, by kernel_rfl⟩
theorem good_zz41 : Gx.Good Try.prog 115 S_zz41 := vaa Try.func115 (of_decide_eq_true (by kernel_rfl)) fun x r h => ⟨A_zz41, big, vad tabOk, vab (show SigsOk Try.prog [(87, S_zz14)] from ⟨⟨fn_zz14, good_zz14⟩, trivial⟩), (run_zz41 big x).trans h⟩
def vkt (rec : Y2 → Int → Int → Int → Z1) (k : Y2 → Int → Int → Z1) (p1 : Y2) (n3 x5 i6 : Int) : Z1 :=
  (atI p1.1 x5).bind fun xq5 =>
  cond (decide (i6 < (xq5.length : Int)))
  ((atI p1.1 x5).bind fun xq6 =>
  (atI xq6 i6).bind fun xq7 =>
  cond (decide (xq7 ≠ x5))
  ((atI p1.1 xq7).bind fun xq8 =>
  (zz14 big xq8 x5).bind fun rq9 =>
  cond rq9.1
  (some (false, (())))
  ((atI p1.1 xq7).bind fun xq10 =>
  (atI p1.1 x5).bind fun xq11 =>
  (zz41 big xq10 xq11).bind fun rq12 =>
  cond (!rq12.1)
  (some (false, (())))
  (rec p1 n3 x5 (IntKind.i64.wrap (i6 + (1 : Int))))))
  ((atI p1.1 xq7).bind fun xq13 =>
  (atI p1.1 x5).bind fun xq14 =>
  (zz41 big xq13 xq14).bind fun rq15 =>
  cond (!rq15.1)
  (some (false, (())))
  (rec p1 n3 x5 (IntKind.i64.wrap (i6 + (1 : Int))))))
  (k p1 n3 x5)
def viy (rec : Y2 → Int → Int → Z1) (p1 : Y2) (n3 x5 : Int) : Z1 :=
  rec p1 n3 (IntKind.i64.wrap (x5 + (1 : Int)))
def vji (L13 : Y2 → Int → Int → Int → Z1) (k : Z1) (p1 : Y2) (n3 x5 : Int) : Z1 :=
  cond (decide (x5 < n3))
  (L13 p1 n3 x5 (0 : Int))
  (k)
def vdd : Z1 :=
  some (true, (()))
def vna (rec : Y2 → Int → Int → Z1) (k : Y2 → Int → Z1) (p1 : Y2) (n3 x4 : Int) : Z1 :=
  cond (decide (x4 < n3))
  ((atI p1.1 x4).bind fun xq1 =>
  (zz40 big xq1 (0 : Int) (IntKind.i64.wrap (n3 - (1 : Int)))).bind fun rq2 =>
  cond (!rq2.1)
  (some (false, (())))
  ((atI p1.1 x4).bind fun xq3 =>
  (zz14 big xq3 x4).bind fun rq4 =>
  cond (!rq4.1)
  (some (false, (())))
  (rec p1 n3 (IntKind.i64.wrap (x4 + (1 : Int))))))
  (k p1 n3)
def vol (L10 : Y2 → Int → Int → Z1) (p1 : Y2) (n3 : Int) : Z1 :=
  L10 p1 n3 (0 : Int)
def vawd (L5 : Y2 → Int → Int → Z1) (p_0 : Y2) : Z1 :=
  cond (decide ((10 : Int) < (p_0.1.length : Int)))
  (some (false, (())))
  (L5 p_0 (p_0.1.length : Int) (0 : Int))
def vuz (N : Nat) (k : Y2 → Int → Int → Z1) : Nat → Y2 → Int → Int → Int → Z1
  | 0, _, _, _, _ => none
  | m + 1, p1, n3, x5, i6 => vkt (vuz N k m) k p1 n3 x5 i6
def vps (N : Nat) (rec : Y2 → Int → Int → Z1) (k : Z1) (p1 : Y2) (n3 x5 i6 : Int) : Z1 := vuz N (viy rec) N p1 n3 x5 i6
def vadp (N : Nat) (k : Y2 → Int → Z1) : Nat → Y2 → Int → Int → Z1
  | 0, _, _, _ => none
  | m + 1, p1, n3, x4 => vna (vadp N k m) k p1 n3 x4
def vuu (N : Nat) (k : Z1) : Nat → Y2 → Int → Int → Z1
  | 0, _, _, _ => none
  | m + 1, p1, n3, x5 => vji (vps N (vuu N k m) k) k p1 n3 x5
def vkx (N : Nat) (p1 : Y2) (n3 x5 : Int) : Z1 := vuu N (vdd) N p1 n3 x5
def vaqy (N : Nat) (p1 : Y2) (n3 x4 : Int) : Z1 := vadp N (vol (vkx N)) N p1 n3 x4
def zz42 (N : Nat) (p_0 : Y2) : Z1 := vawd (vaqy N) p_0
def S_zz42 : Sig := { a := Q11, md := [0], mf := [], m := .unit, r := .bool, rf := .i, f := fun x => zz42 big x.1 }
def A_zz42 : Cfg := mkCfg tab [(114, S_zz40), (87, S_zz14), (115, S_zz41)] [(10, [.drop, .as Q4 P5, .drop, .as I .i, .as I .i]), (19, [.drop, .as Q4 P5, .drop, .as I .i]), (20, [.drop, .as Q4 P5, .drop, .as I .i, .drop, .as I .i]), (26, [.drop, .as Q4 P5, .drop, .as I .i, .drop, .as I .i, .as I .i]), (37, []), (23, [.drop, .as Q4 P5, .drop, .as I .i, .drop, .as I .i])]
noncomputable def vjv (N n : Nat) (K : Ex → St → Z1) (p1 : Y2) (n3 x4 : Int) : Z1 := iter ((A_zz42).shape 10) (run (A_zz42) N (codeAt Try.f85 [1, 1, 1, 0, 1, 0, 0])) n ([.u, W2 p1, .u, W0 n3, W0 x4] ++ List.replicate 81 .u) K
noncomputable def vda (N n : Nat) (K : Ex → St → Z1) (p1 : Y2) (n3 x5 : Int) : Z1 := iter ((A_zz42).shape 20) (run (A_zz42) N (codeAt Try.f85 [1, 1, 1, 1, 0, 1, 0, 0])) n ([.u, W2 p1, .u, W0 n3, .u, W0 x5] ++ List.replicate 80 .u) K
noncomputable def veb (N n : Nat) (K : Ex → St → Z1) (p1 : Y2) (n3 x5 i6 : Int) : Z1 := iter ((A_zz42).shape 26) (run (A_zz42) N (codeAt Try.f85 [1, 1, 1, 1, 0, 1, 0, 0, 1, 0, 0, 1, 0, 0])) n ([.u, W2 p1, .u, W0 n3, .u, W0 x5, W0 i6] ++ List.replicate 79 .u) K
noncomputable abbrev vqd : Ex → St → Z1 := finish (A_zz42) S_zz42 Try.f85.results.toList
noncomputable abbrev vaqn (kX : St → Z1) (p1 : Y2) (n3 : Int) : Z1 := kX ([.u, W2 p1, .u, W0 n3] ++ List.replicate 82 .u)
noncomputable abbrev vaei (kX : St → Z1) (kO : Nat → St → Z1) : Ex → St → Z1 := exK vqd 0 ((A_zz42).shape 19) kX kO
noncomputable abbrev vug (kX : St → Z1) : Z1 := kX ([] ++ List.replicate 86 .u)
noncomputable abbrev veg (kX : St → Z1) (kO : Nat → St → Z1) : Ex → St → Z1 := exK vqd 2 ((A_zz42).shape 37) kX kO
noncomputable abbrev vahb (kX : St → Z1) (p1 : Y2) (n3 x5 : Int) : Z1 := kX ([.u, W2 p1, .u, W0 n3, .u, W0 x5] ++ List.replicate 80 .u)
noncomputable abbrev vvc (kX : St → Z1) (kO : Nat → St → Z1) : Ex → St → Z1 := exK vqd 4 ((A_zz42).shape 23) kX kO
theorem vaii (N kX kO) : ∀ n, vjv N n (vaei kX kO) = vadp N (vaqn kX) n
 | 0 => rfl
 | m + 1 => (show vjv N (m + 1) (vaei kX kO) = vna (vjv N m (vaei kX kO)) (vaqn kX) by kernel_rfl).trans (by rw [vaii N kX kO m]; funext _ _ _; rfl)
noncomputable abbrev vadm (N : Nat) : Ex → St → Z1 := (blockK 0 (sqK (A_zz42) N 19 500009 (codeAt Try.f85 [1, 1, 1, 1]) vqd))
theorem vafq (N kX kO) : ∀ n, veb N n (vvc kX kO) = vuz N (vahb kX) n
 | 0 => rfl
 | m + 1 => (show veb N (m + 1) (vvc kX kO) = vkt (veb N m (vvc kX kO)) (vahb kX) by kernel_rfl).trans (by rw [vafq N kX kO m]; funext _ _ _ _; rfl)
noncomputable abbrev vvd (N m : Nat) (kX : St → Z1) (kO : Nat → St → Z1) : Ex → St → Z1 := (blockK 4 (blockK 3 (sqK (A_zz42) N 23 500011 (codeAt Try.f85 [1, 1, 1, 1, 0, 1, 0, 0, 1, 1]) (itK (A_zz42) N 20 (codeAt Try.f85 [1, 1, 1, 1, 0, 1, 0, 0]) m (veg kX kO)))))
noncomputable abbrev vawq (N m : Nat) (kX : St → Z1) (kO : Nat → St → Z1) (st' : St) : Z1 := run (A_zz42) N (codeAt Try.f85 [1, 1, 1, 1, 0, 1, 0, 0, 1, 1]) st' (itK (A_zz42) N 20 (codeAt Try.f85 [1, 1, 1, 1, 0, 1, 0, 0]) m (veg kX kO))
theorem vbki (N m kX kO) {r} (h : vda N m (veg kX kO) = r) : veb N N (vvd N m kX kO) = vps N r (vug kX) := by
 rw [show veb N N (vvd N m kX kO) = veb N N (vvc (vawq N m kX kO) fun j => (vvd N m kX kO) (.exit j)) from (by funext _ _ _ _; exact vac (fun _ => by kernel_rfl) fun _ => by kernel_rfl), vafq, show vahb (vawq N m kX kO) = viy (vda N m (veg kX kO)) by kernel_rfl, h]; rfl
theorem vafr (N kX kO) : ∀ n, vda N n (veg kX kO) = vuu N (vug kX) n
 | 0 => rfl
 | m + 1 => (show vda N (m + 1) (veg kX kO) = vji (veb N N (vvd N m kX kO)) (vug kX) by kernel_rfl).trans (by rw [vbki N m kX kO (vafr N kX kO m)]; funext _ _ _; rfl)
noncomputable abbrev vtz (N : Nat) : Ex → St → Z1 := (blockK 2 (sqK (A_zz42) N 37 500018 (codeAt Try.f85 [1, 1, 1, 1, 1]) vqd))
noncomputable abbrev vawe (N : Nat) (st' : St) : Z1 := run (A_zz42) N (codeAt Try.f85 [1, 1, 1, 1, 1]) st' vqd
theorem vbkq (N) : vda N N (vtz N) = vkx N := by
 rw [show vda N N (vtz N) = vda N N (veg (vawe N) fun j => (vtz N) (.exit j)) from (by funext _ _ _; exact vac (fun _ => by kernel_rfl) fun _ => by kernel_rfl), vafr, show vug (vawe N) = vdd by kernel_rfl]; rfl
noncomputable abbrev vbch (N : Nat) (st' : St) : Z1 := run (A_zz42) N (codeAt Try.f85 [1, 1, 1, 1]) st' vqd
theorem vbnc (N) : vjv N N (vadm N) = vaqy N := by
 rw [show vjv N N (vadm N) = vjv N N (vaei (vbch N) fun j => (vadm N) (.exit j)) from (by funext _ _ _; exact vac (fun _ => by kernel_rfl) fun _ => by kernel_rfl), vaii, show vaqn (vbch N) = vol (vda N N (vtz N)) by kernel_rfl, vbkq N]; rfl
theorem run0_zz42 (N : Nat) (x : (S_zz42).a.den) : runF (A_zz42) N Try.f85 S_zz42 x = (vawd (vjv N N (vadm N)) x.1) := by kernel_rfl
theorem run_zz42 (N : Nat) (x : (S_zz42).a.den) : runF (A_zz42) N Try.f85 S_zz42 x = zz42 N x.1 := by
  refine (run0_zz42 N x).trans ?_
  rw [vbnc N]
  rfl
theorem fn_zz42 : FnOk Try.prog 85 := ⟨_, Try.func85, by kernel_rfl, by kernel_rfl⟩
theorem good_zz42 : Gx.Good Try.prog 85 S_zz42 := vaa Try.func85 (of_decide_eq_true (by kernel_rfl)) fun x r h => ⟨A_zz42, big, vad tabOk, vab (show SigsOk Try.prog [(114, S_zz40), (87, S_zz14), (115, S_zz41)] from ⟨⟨fn_zz40, good_zz40⟩, ⟨fn_zz14, good_zz14⟩, ⟨fn_zz41, good_zz41⟩, trivial⟩), (run_zz42 big x).trans h⟩
def vov (rec : Y2 → Y2 → Y2 → Int → Y4 → Int → Z3) (k : Y2 → Y2 → Y2 → Int → Y4 → Z3) (p1 t2 out3 : Y2) (x4 : Int) (below5 : Y4) (y6 : Int) : Z3 :=
  cond (decide (y6 < (p1.1.length : Int)))
  ((zz15 p1 x4 y6).bind fun rq1 =>
  cond rq1.1
  ((appI below5 [y6]).bind fun xq2 =>
  rec p1 t2 out3 x4 xq2 (IntKind.i64.wrap (y6 + (1 : Int))))
  (rec p1 t2 out3 x4 below5 (IntKind.i64.wrap (y6 + (1 : Int)))))
  (k p1 t2 out3 x4 below5)
def vot (rec : Y2 → Y2 → Y2 → Int → Z3) (p1 t2 out3 : Y2) (x4 : Int) (below5 : Y4) : Z3 :=
  (appI out3.1 [below5]).bind fun xq3 =>
  rec p1 t2 (xq3, ((), out3.2).2) (IntKind.i64.wrap (x4 + (1 : Int)))
def vpe (L7 : Y2 → Y2 → Y2 → Int → Y4 → Int → Z3) (k : Y2 → Y2 → Z3) (p1 t2 out3 : Y2) (x4 : Int) : Z3 :=
  cond (decide (x4 < (p1.1.length : Int)))
  (L7 p1 t2 out3 x4 [] (0 : Int))
  (k t2 out3)
def vgx (t2 out3 : Y2) : Z3 :=
  some (out3, (()))
def vawo (L3 : Y2 → Y2 → Y2 → Int → Z3) (p_0 : Y2) : Z3 :=
  L3 p_0 (([] : Y3), ()) ([], ()) (0 : Int)
def vaep (N : Nat) (k : Y2 → Y2 → Y2 → Int → Y4 → Z3) : Nat → Y2 → Y2 → Y2 → Int → Y4 → Int → Z3
  | 0, _, _, _, _, _, _ => none
  | m + 1, p1, t2, out3, x4, below5, y6 => vov (vaep N k m) k p1 t2 out3 x4 below5 y6
def vsf (N : Nat) (rec : Y2 → Y2 → Y2 → Int → Z3) (k : Y2 → Y2 → Z3) (p1 t2 out3 : Y2) (x4 : Int) (below5 : Y4) (y6 : Int) : Z3 := vaep N (vot rec) N p1 t2 out3 x4 below5 y6
def vzh (N : Nat) (k : Y2 → Y2 → Z3) : Nat → Y2 → Y2 → Y2 → Int → Z3
  | 0, _, _, _, _ => none
  | m + 1, p1, t2, out3, x4 => vpe (vsf N (vzh N k m) k) k p1 t2 out3 x4
def vaqg (N : Nat) (p1 t2 out3 : Y2) (x4 : Int) : Z3 := vzh N (vgx) N p1 t2 out3 x4
def zz43 (N : Nat) (p_0 : Y2) : Z3 := vawo (vaqg N) p_0
def S_zz43 : Sig := { a := Q11, md := [0], mf := [], m := .unit, r := Q0, rf := (.p P10 .i), f := fun x => zz43 big x.1 }
def A_zz43 : Cfg := mkCfg tab [(66, S_zz15)] [(6, [.drop, .as Q4 P5, .as Q4 P1, .as Q4 P1, .as I .i]), (14, [.drop, .as Q4 P5, .as Q4 P1, .as Q4 P1, .as I .i, .as Q7 P5, .as I .i]), (25, [.drop, .drop, .as Q4 P1, .as Q4 P1]), (23, [.drop, .as Q4 P5, .as Q4 P1, .as Q4 P1, .as I .i, .as Q7 P5])]
noncomputable def vgr (N n : Nat) (K : Ex → St → Z3) (p1 t2 out3 : Y2) (x4 : Int) : Z3 := iter ((A_zz43).shape 6) (run (A_zz43) N (codeAt Try.f78 [1, 1, 0, 1, 0, 0])) n ([.u, W2 p1, W1 t2, W1 out3, W0 x4] ++ List.replicate 34 .u) K
noncomputable def vld (N n : Nat) (K : Ex → St → Z3) (p1 t2 out3 : Y2) (x4 : Int) (below5 : Y4) (y6 : Int) : Z3 := iter ((A_zz43).shape 14) (run (A_zz43) N (codeAt Try.f78 [1, 1, 0, 1, 0, 0, 1, 0, 0, 1, 0, 1, 0, 0])) n ([.u, W2 p1, W1 t2, W1 out3, W0 x4, W3 below5, W0 y6] ++ List.replicate 32 .u) K
noncomputable abbrev vakb : Ex → St → Z3 := finish (A_zz43) S_zz43 Try.f78.results.toList
noncomputable abbrev vadt (kX : St → Z3) (t2 out3 : Y2) : Z3 := kX ([.u, .u, W1 t2, W1 out3] ++ List.replicate 35 .u)
noncomputable abbrev vid (kX : St → Z3) (kO : Nat → St → Z3) : Ex → St → Z3 := exK vakb 0 ((A_zz43).shape 25) kX kO
noncomputable abbrev vanx (kX : St → Z3) (p1 t2 out3 : Y2) (x4 : Int) (below5 : Y4) : Z3 := kX ([.u, W2 p1, W1 t2, W1 out3, W0 x4, W3 below5] ++ List.replicate 33 .u)
noncomputable abbrev vaad (kX : St → Z3) (kO : Nat → St → Z3) : Ex → St → Z3 := exK vakb 2 ((A_zz43).shape 23) kX kO
theorem vajp (N kX kO) : ∀ n, vld N n (vaad kX kO) = vaep N (vanx kX) n
 | 0 => rfl
 | m + 1 => (show vld N (m + 1) (vaad kX kO) = vov (vld N m (vaad kX kO)) (vanx kX) by kernel_rfl).trans (by rw [vajp N kX kO m]; funext _ _ _ _ _ _; rfl)
noncomputable abbrev vyc (N m : Nat) (kX : St → Z3) (kO : Nat → St → Z3) : Ex → St → Z3 := (blockK 2 (sqK (A_zz43) N 23 500011 (codeAt Try.f78 [1, 1, 0, 1, 0, 0, 1, 0, 0, 1, 1]) (blockK 1 (sqK (A_zz43) N 9 500004 (codeAt Try.f78 [1, 1, 0, 1, 0, 0, 1, 1]) (itK (A_zz43) N 6 (codeAt Try.f78 [1, 1, 0, 1, 0, 0]) m (vid kX kO))))))
noncomputable abbrev vbfe (N m : Nat) (kX : St → Z3) (kO : Nat → St → Z3) (st' : St) : Z3 := run (A_zz43) N (codeAt Try.f78 [1, 1, 0, 1, 0, 0, 1, 0, 0, 1, 1]) st' (blockK 1 (sqK (A_zz43) N 9 500004 (codeAt Try.f78 [1, 1, 0, 1, 0, 0, 1, 1]) (itK (A_zz43) N 6 (codeAt Try.f78 [1, 1, 0, 1, 0, 0]) m (vid kX kO))))
theorem vboo (N m kX kO) {r} (h : vgr N m (vid kX kO) = r) : vld N N (vyc N m kX kO) = vsf N r (vadt kX) := by
 rw [show vld N N (vyc N m kX kO) = vld N N (vaad (vbfe N m kX kO) fun j => (vyc N m kX kO) (.exit j)) from (by funext _ _ _ _ _ _; exact vac (fun _ => by kernel_rfl) fun _ => by kernel_rfl), vajp, show vanx (vbfe N m kX kO) = vot (vgr N m (vid kX kO)) by kernel_rfl, h]; rfl
theorem vana (N kX kO) : ∀ n, vgr N n (vid kX kO) = vzh N (vadt kX) n
 | 0 => rfl
 | m + 1 => (show vgr N (m + 1) (vid kX kO) = vpe (vld N N (vyc N m kX kO)) (vadt kX) by kernel_rfl).trans (by rw [vboo N m kX kO (vana N kX kO m)]; funext _ _ _ _; rfl)
noncomputable abbrev vacw (N : Nat) : Ex → St → Z3 := (blockK 0 (sqK (A_zz43) N 25 500012 (codeAt Try.f78 [1, 1, 1]) vakb))
noncomputable abbrev vbdi (N : Nat) (st' : St) : Z3 := run (A_zz43) N (codeAt Try.f78 [1, 1, 1]) st' vakb
theorem vbol (N) : vgr N N (vacw N) = vaqg N := by
 rw [show vgr N N (vacw N) = vgr N N (vid (vbdi N) fun j => (vacw N) (.exit j)) from (by funext _ _ _ _; exact vac (fun _ => by kernel_rfl) fun _ => by kernel_rfl), vana, show vadt (vbdi N) = vgx by kernel_rfl]; rfl
theorem run0_zz43 (N : Nat) (x : (S_zz43).a.den) : runF (A_zz43) N Try.f78 S_zz43 x = (vawo (vgr N N (vacw N)) x.1) := by kernel_rfl
theorem run_zz43 (N : Nat) (x : (S_zz43).a.den) : runF (A_zz43) N Try.f78 S_zz43 x = zz43 N x.1 := by
  refine (run0_zz43 N x).trans ?_
  rw [vbol N]
  rfl
theorem fn_zz43 : FnOk Try.prog 78 := ⟨_, Try.func78, by kernel_rfl, by kernel_rfl⟩
theorem good_zz43 : Gx.Good Try.prog 78 S_zz43 := vaa Try.func78 (of_decide_eq_true (by kernel_rfl)) fun x r h => ⟨A_zz43, big, vad tabOk, vab (show SigsOk Try.prog [(66, S_zz15)] from ⟨⟨fn_zz15, good_zz15⟩, trivial⟩), (run_zz43 big x).trans h⟩
end Go.Proofs.Yteanfidobhpchaa
