import Derived.Test.YtcdlbboeflehdaaUWO
set_option maxRecDepth 100000
set_option linter.unusedVariables false
namespace Go.Proofs.Ytcdlbboeflehdaa
open Go Go.Gx Go.Proofs

/-! zz41 -/
def zz41_b29 (rec k : Z10 → Y2 → Y2 → Z3) (c0 : Z10) (t2 p9 : Y2) : Z3 :=
  (zz2 c0 (2 : Int)).bind fun rq53 =>
  cond (decide ((p9.1.length : Int) < (IntKind.i64.wrap ((10 : Int) + rq53.1))))
  ((appI p9.1 [[(p9.1.length : Int)]]).bind fun xq54 =>
  rec rq53.2.1 t2 (xq54, ((), p9.2).2))
  (k rq53.2.1 t2 p9)
def zz41_a29 (c0 : Z10) (t2 p9 : Y2) : Z3 :=
  some (p9, (c0, ()))
def zz41_b14 (rec : Z10 → Y2 → Int → Z12 → Y4 → Int → Z3) (k : Z10 → Y2 → Int → Z12 → Z3) (c0 : Z10) (t2 : Y2) (n3 : Int) (pairs4 : Z12) (names7 : Y4) (i8 : Int) : Z3 :=
  cond (decide (i8 < (pairs4.length : Int)))
  ((atI pairs4 i8).bind fun _ =>
  (pairs4[i8.toNat]?).bind fun xq33 =>
  (pairs4[i8.toNat]?).bind fun xq34 =>
  (atI names7 xq34.1).bind fun _ =>
  (names7[xq34.1.toNat]?).bind fun xq35 =>
  (atI pairs4 i8).bind fun _ =>
  (pairs4[i8.toNat]?).bind fun xq36 =>
  (pairs4[i8.toNat]?).bind fun xq37 =>
  (atI names7 xq37.2.1).bind fun _ =>
  (names7[xq37.2.1.toNat]?).bind fun xq38 =>
  (atI pairs4 i8).bind fun _ =>
  (pairs4[i8.toNat]?).bind fun xq39 =>
  rec c0 t2 n3 (pairs4.set i8.toNat (xq35, (xq38, ()))) names7 (IntKind.i64.wrap (i8 + (1 : Int))))
  (k c0 t2 n3 pairs4)
def zz41_a14 (L29 : Z10 → Y2 → Y2 → Z3) (c0 : Z10) (t2 : Y2) (n3 : Int) (pairs4 : Z12) : Z3 :=
  (zz39 big n3 pairs4).bind fun rq40 =>
  cond (decide (n3 = (0 : Int)))
  (some (rq40.1, (c0, ())))
  ((zz4 c0 (16 : Int)).bind fun rq41 =>
  cond (!rq41.1)
  (some (rq40.1, (rq41.2.1, ())))
  ((zz2 rq41.2.1 n3).bind fun rq42 =>
  (zz2 rq42.2.1 (4 : Int)).bind fun rq43 =>
  cond (decide (rq43.1 = (0 : Int)))
  ((atI rq40.1.1 rq42.1).bind fun _ =>
  (rq40.1.1[rq42.1.toNat]?).bind fun xq44 =>
  (slI xq44 (1 : Int) xq44.length).bind fun xq45 =>
  (atI rq40.1.1 rq42.1).bind fun _ =>
  (rq40.1.1[rq42.1.toNat]?).bind fun xq46 =>
  some ((rq40.1.1.set rq42.1.toNat xq45, rq40.1.2), (rq43.2.1, ())))
  (cond (decide (rq43.1 = (1 : Int)))
  ((atI rq40.1.1 rq42.1).bind fun xq47 =>
  (appI xq47 [n3]).bind fun xq48 =>
  some ((rq40.1.1.set (rq42.1).toNat xq48, rq40.1.2), (rq43.2.1, ())))
  (cond (decide (rq43.1 = (2 : Int)))
  ((atI rq40.1.1 rq42.1).bind fun _ =>
  (rq40.1.1[rq42.1.toNat]?).bind fun xq49 =>
  (zz2 rq43.2.1 n3).bind fun rq50 =>
  (zz40 big xq49 rq50.1).bind fun rq51 =>
  (atI rq40.1.1 rq42.1).bind fun _ =>
  (rq40.1.1[rq42.1.toNat]?).bind fun xq52 =>
  some ((rq40.1.1.set rq42.1.toNat rq51.1, rq40.1.2), (rq50.2.1, ())))
  (cond (decide (rq43.1 = (3 : Int)))
  (L29 rq43.2.1 t2 rq40.1)
  (some (rq40.1, (rq43.2.1, ()))))))))
def zz41_b7 (rec : Z10 → Y2 → Int → Z12 → Int → Int → Z3) (k : Z10 → Y2 → Int → Z12 → Int → Z3) (c0 : Z10) (t2 : Y2) (n3 : Int) (pairs4 : Z12) (x5 y6 : Int) : Z3 :=
  cond (decide (y6 < n3))
  ((zz4 c0 (3 : Int)).bind fun rq31 =>
  cond rq31.1
  ((appI pairs4 [(x5, (y6, ()))]).bind fun xq32 =>
  rec rq31.2.1 t2 n3 xq32 x5 (IntKind.i64.wrap (y6 + (1 : Int))))
  (rec rq31.2.1 t2 n3 pairs4 x5 (IntKind.i64.wrap (y6 + (1 : Int)))))
  (k c0 t2 n3 pairs4 x5)
def zz41_a7 (rec : Z10 → Y2 → Int → Z12 → Int → Z3) (c0 : Z10) (t2 : Y2) (n3 : Int) (pairs4 : Z12) (x5 : Int) : Z3 :=
  rec c0 t2 n3 pairs4 (IntKind.i64.wrap (x5 + (1 : Int)))
def zz41_b4 (L7 : Z10 → Y2 → Int → Z12 → Int → Int → Z3) (k : Z10 → Y2 → Int → Z12 → Z3) (c0 : Z10) (t2 : Y2) (n3 : Int) (pairs4 : Z12) (x5 : Int) : Z3 :=
  cond (decide (x5 < n3))
  (L7 c0 t2 n3 pairs4 x5 (IntKind.i64.wrap (x5 + (1 : Int))))
  (k c0 t2 n3 pairs4)
def zz41_a4 (L14 : Z10 → Y2 → Int → Z12 → Y4 → Int → Z3) (L29 : Z10 → Y2 → Y2 → Z3) (c0 : Z10) (t2 : Y2) (n3 : Int) (pairs4 : Z12) : Z3 :=
  (zz36 big c0 n3).bind fun rq2 =>
  (zz38 big rq2.1 n3).bind fun rq3 =>
  cond rq3.1
  ((zz4 rq2.2.1 (2 : Int)).bind fun rq4 =>
  cond rq4.1
  (L14 rq4.2.1 t2 n3 pairs4 rq2.1 (0 : Int))
  ((zz39 big n3 pairs4).bind fun rq5 =>
  cond (decide (n3 = (0 : Int)))
  (some (rq5.1, (rq4.2.1, ())))
  ((zz4 rq4.2.1 (16 : Int)).bind fun rq6 =>
  cond (!rq6.1)
  (some (rq5.1, (rq6.2.1, ())))
  ((zz2 rq6.2.1 n3).bind fun rq7 =>
  (zz2 rq7.2.1 (4 : Int)).bind fun rq8 =>
  cond (decide (rq8.1 = (0 : Int)))
  ((atI rq5.1.1 rq7.1).bind fun _ =>
  (rq5.1.1[rq7.1.toNat]?).bind fun xq9 =>
  (slI xq9 (1 : Int) xq9.length).bind fun xq10 =>
  (atI rq5.1.1 rq7.1).bind fun _ =>
  (rq5.1.1[rq7.1.toNat]?).bind fun xq11 =>
  some ((rq5.1.1.set rq7.1.toNat xq10, rq5.1.2), (rq8.2.1, ())))
  (cond (decide (rq8.1 = (1 : Int)))
  ((atI rq5.1.1 rq7.1).bind fun xq12 =>
  (appI xq12 [n3]).bind fun xq13 =>
  some ((rq5.1.1.set (rq7.1).toNat xq13, rq5.1.2), (rq8.2.1, ())))
  (cond (decide (rq8.1 = (2 : Int)))
  ((atI rq5.1.1 rq7.1).bind fun _ =>
  (rq5.1.1[rq7.1.toNat]?).bind fun xq14 =>
  (zz2 rq8.2.1 n3).bind fun rq15 =>
  (zz40 big xq14 rq15.1).bind fun rq16 =>
  (atI rq5.1.1 rq7.1).bind fun _ =>
  (rq5.1.1[rq7.1.toNat]?).bind fun xq17 =>
  some ((rq5.1.1.set rq7.1.toNat rq16.1, rq5.1.2), (rq15.2.1, ())))
  (cond (decide (rq8.1 = (3 : Int)))
  (L29 rq8.2.1 t2 rq5.1)
  (some (rq5.1, (rq8.2.1, ()))))))))))
  ((zz39 big n3 pairs4).bind fun rq18 =>
  cond (decide (n3 = (0 : Int)))
  (some (rq18.1, (rq2.2.1, ())))
  ((zz4 rq2.2.1 (16 : Int)).bind fun rq19 =>
  cond (!rq19.1)
  (some (rq18.1, (rq19.2.1, ())))
  ((zz2 rq19.2.1 n3).bind fun rq20 =>
  (zz2 rq20.2.1 (4 : Int)).bind fun rq21 =>
  cond (decide (rq21.1 = (0 : Int)))
  ((atI rq18.1.1 rq20.1).bind fun _ =>
  (rq18.1.1[rq20.1.toNat]?).bind fun xq22 =>
  (slI xq22 (1 : Int) xq22.length).bind fun xq23 =>
  (atI rq18.1.1 rq20.1).bind fun _ =>
  (rq18.1.1[rq20.1.toNat]?).bind fun xq24 =>
  some ((rq18.1.1.set rq20.1.toNat xq23, rq18.1.2), (rq21.2.1, ())))
  (cond (decide (rq21.1 = (1 : Int)))
  ((atI rq18.1.1 rq20.1).bind fun xq25 =>
  (appI xq25 [n3]).bind fun xq26 =>
  some ((rq18.1.1.set (rq20.1).toNat xq26, rq18.1.2), (rq21.2.1, ())))
  (cond (decide (rq21.1 = (2 : Int)))
  ((atI rq18.1.1 rq20.1).bind fun _ =>
  (rq18.1.1[rq20.1.toNat]?).bind fun xq27 =>
  (zz2 rq21.2.1 n3).bind fun rq28 =>
  (zz40 big xq27 rq28.1).bind fun rq29 =>
  (atI rq18.1.1 rq20.1).bind fun _ =>
  (rq18.1.1[rq20.1.toNat]?).bind fun xq30 =>
  some ((rq18.1.1.set rq20.1.toNat rq29.1, rq18.1.2), (rq28.2.1, ())))
  (cond (decide (rq21.1 = (3 : Int)))
  (L29 rq21.2.1 t2 rq18.1)
  (some (rq18.1, (rq21.2.1, ())))))))))
def zz41_s (L4 : Z10 → Y2 → Int → Z12 → Int → Z3) (c_0 : Z10) : Z3 :=
  (zz3 c_0 [(0 : Int), (1 : Int), (2 : Int), (3 : Int), (4 : Int), (4 : Int), (5 : Int), (5 : Int), (6 : Int), (7 : Int)]).bind fun rq1 =>
  L4 rq1.2.1 (([] : Y3), ()) rq1.1 [] (0 : Int)
def zz41_l7 (N : Nat) (k : Z10 → Y2 → Int → Z12 → Int → Z3) : Nat → Z10 → Y2 → Int → Z12 → Int → Int → Z3
  | 0, _, _, _, _, _, _ => none
  | m + 1, c0, t2, n3, pairs4, x5, y6 => zz41_b7 (zz41_l7 N k m) k c0 t2 n3 pairs4 x5 y6
def zz41_F7 (N : Nat) (rec : Z10 → Y2 → Int → Z12 → Int → Z3) (k : Z10 → Y2 → Int → Z12 → Z3) (c0 : Z10) (t2 : Y2) (n3 : Int) (pairs4 : Z12) (x5 y6 : Int) : Z3 := zz41_l7 N (zz41_a7 rec) N c0 t2 n3 pairs4 x5 y6
def zz41_l4 (N : Nat) (k : Z10 → Y2 → Int → Z12 → Z3) : Nat → Z10 → Y2 → Int → Z12 → Int → Z3
  | 0, _, _, _, _, _ => none
  | m + 1, c0, t2, n3, pairs4, x5 => zz41_b4 (zz41_F7 N (zz41_l4 N k m) k) k c0 t2 n3 pairs4 x5
def zz41_l14 (N : Nat) (k : Z10 → Y2 → Int → Z12 → Z3) : Nat → Z10 → Y2 → Int → Z12 → Y4 → Int → Z3
  | 0, _, _, _, _, _, _ => none
  | m + 1, c0, t2, n3, pairs4, names7, i8 => zz41_b14 (zz41_l14 N k m) k c0 t2 n3 pairs4 names7 i8
def zz41_l29 (N : Nat) (k : Z10 → Y2 → Y2 → Z3) : Nat → Z10 → Y2 → Y2 → Z3
  | 0, _, _, _ => none
  | m + 1, c0, t2, p9 => zz41_b29 (zz41_l29 N k m) k c0 t2 p9
def zz41_F29 (N : Nat) (c0 : Z10) (t2 p9 : Y2) : Z3 := zz41_l29 N (zz41_a29) N c0 t2 p9
def zz41_F14 (N : Nat) (c0 : Z10) (t2 : Y2) (n3 : Int) (pairs4 : Z12) (names7 : Y4) (i8 : Int) : Z3 := zz41_l14 N (zz41_a14 (zz41_F29 N)) N c0 t2 n3 pairs4 names7 i8
def zz41_F4 (N : Nat) (c0 : Z10) (t2 : Y2) (n3 : Int) (pairs4 : Z12) (x5 : Int) : Z3 := zz41_l4 N (zz41_a4 (zz41_F14 N) (zz41_F29 N)) N c0 t2 n3 pairs4 x5
def zz41 (N : Nat) (c_0 : Z10) : Z3 := zz41_s (zz41_F4 N) c_0
def S_zz41 : Sig := { a := (.pair (.ptr (.pair (.sl (.int .u8)) (.pair I (.pair (.int .u64) .unit)))) .unit), md := [1], mf := [(.o .i)], m := (.pair (.ptr (.pair (.sl (.int .u8)) (.pair I (.pair (.int .u64) .unit)))) .unit), r := (.pair (.sl (.sl I)) .unit), rf := .i, f := fun x => zz41 big x.1 }
def A_zz41 : Cfg := hookCfg (fun i => if i = 25 then some PO.hook else none) (mkCfg tab [(87, S_zz3), (95, S_zz36), (96, S_zz38), (50, S_zz4), (98, S_zz39), (39, S_zz2), (120, S_zz40)] [(8, [.as (.ptr (.pair (.sl (.int .u8)) (.pair I (.pair (.int .u64) .unit)))) (.o .i), .drop, .as (.ptr (.pair (.sl (.sl I)) .unit)) (.o (.p (.o (.o .i)) .i)), .as I .i, .as (.sl (.pair I (.pair I .unit))) (.o .i), .as I .i]), (14, [.as (.ptr (.pair (.sl (.int .u8)) (.pair I (.pair (.int .u64) .unit)))) (.o .i), .drop, .as (.ptr (.pair (.sl (.sl I)) .unit)) (.o (.p (.o (.o .i)) .i)), .as I .i, .as (.sl (.pair I (.pair I .unit))) (.o .i), .as I .i, .as I .i]), (23, [.as (.ptr (.pair (.sl (.int .u8)) (.pair I (.pair (.int .u64) .unit)))) (.o .i), .drop, .as (.ptr (.pair (.sl (.sl I)) .unit)) (.o (.p (.o (.o .i)) .i)), .as I .i, .as (.sl (.pair I (.pair I .unit))) (.o .i)]), (28, [.as (.ptr (.pair (.sl (.int .u8)) (.pair I (.pair (.int .u64) .unit)))) (.o .i), .drop, .as (.ptr (.pair (.sl (.sl I)) .unit)) (.o (.p (.o (.o .i)) .i)), .as I .i, .as (.sl (.pair I (.pair I .unit))) (.o .i), .drop, .drop, .as (.sl I) (.o .i), .as I .i]), (1000023, [.as (.ptr (.pair (.sl (.int .u8)) (.pair I (.pair (.int .u64) .unit)))) (.o .i), .drop, .as (.ptr (.pair (.sl (.sl I)) .unit)) (.o (.p (.o (.o .i)) .i)), .drop, .drop, .drop, .drop, .drop, .drop, .as (.ptr (.pair (.sl (.sl I)) .unit)) (.o (.p (.o .i) .i)), .as I .i]), (1000027, [.as (.ptr (.pair (.sl (.int .u8)) (.pair I (.pair (.int .u64) .unit)))) (.o .i), .drop, .as (.ptr (.pair (.sl (.sl I)) .unit)) (.o (.p (.o (.o .i)) .i)), .as I .i, .drop, .drop, .drop, .drop, .drop, .as (.ptr (.pair (.sl (.sl I)) .unit)) (.o (.p (.o .i) .i)), .as I .i]), (58, [.as (.ptr (.pair (.sl (.int .u8)) (.pair I (.pair (.int .u64) .unit)))) (.o .i), .drop, .as (.ptr (.pair (.sl (.sl I)) .unit)) (.o (.p (.o (.o .i)) .i)), .drop, .drop, .drop, .drop, .drop, .drop, .as (.ptr (.pair (.sl (.sl I)) .unit)) (.o (.p (.o (.o .i)) .i))]), (11, [.as (.ptr (.pair (.sl (.int .u8)) (.pair I (.pair (.int .u64) .unit)))) (.o .i), .drop, .as (.ptr (.pair (.sl (.sl I)) .unit)) (.o (.p (.o (.o .i)) .i)), .as I .i, .as (.sl (.pair I (.pair I .unit))) (.o .i), .as I .i]), (35, [.as (.ptr (.pair (.sl (.int .u8)) (.pair I (.pair (.int .u64) .unit)))) (.o .i), .drop, .as (.ptr (.pair (.sl (.sl I)) .unit)) (.o (.p (.o (.o .i)) .i)), .as I .i, .as (.sl (.pair I (.pair I .unit))) (.o .i)]), (63, [.as (.ptr (.pair (.sl (.int .u8)) (.pair I (.pair (.int .u64) .unit)))) (.o .i), .drop, .as (.ptr (.pair (.sl (.sl I)) .unit)) (.o (.p (.o (.o .i)) .i)), .drop, .drop, .drop, .drop, .drop, .drop, .as (.ptr (.pair (.sl (.sl I)) .unit)) (.o (.p (.o .i) .i))])])
noncomputable def zz41_R4 (N n : Nat) (K : Ex → St → Z3) (c0 : Z10) (t2 : Y2) (n3 : Int) (pairs4 : Z12) (x5 : Int) : Z3 := iter ((A_zz41).shape 8) (run (A_zz41) N (codeAt Try.f93 [1, 1, 1, 0, 1, 0, 0])) n ([.val (.ptr (.pair (.sl (.int .u8)) (.pair I (.pair (.int .u64) .unit)))) (.o .i) c0, .u, .val (.ptr (.pair (.sl (.sl I)) .unit)) (.o (.p (.o (.o .i)) .i)) t2, .val I .i n3, .val (.sl (.pair I (.pair I .unit))) (.o .i) pairs4, .val I .i x5] ++ List.replicate 141 .u) K
noncomputable def zz41_R7 (N n : Nat) (K : Ex → St → Z3) (c0 : Z10) (t2 : Y2) (n3 : Int) (pairs4 : Z12) (x5 y6 : Int) : Z3 := iter ((A_zz41).shape 14) (run (A_zz41) N (codeAt Try.f93 [1, 1, 1, 0, 1, 0, 0, 1, 0, 0, 1, 0, 0])) n ([.val (.ptr (.pair (.sl (.int .u8)) (.pair I (.pair (.int .u64) .unit)))) (.o .i) c0, .u, .val (.ptr (.pair (.sl (.sl I)) .unit)) (.o (.p (.o (.o .i)) .i)) t2, .val I .i n3, .val (.sl (.pair I (.pair I .unit))) (.o .i) pairs4, .val I .i x5, .val I .i y6] ++ List.replicate 140 .u) K
noncomputable def zz41_R14 (N n : Nat) (K : Ex → St → Z3) (c0 : Z10) (t2 : Y2) (n3 : Int) (pairs4 : Z12) (names7 : Y4) (i8 : Int) : Z3 := iter ((A_zz41).shape 28) (run (A_zz41) N (codeAt Try.f93 [1, 1, 1, 1, 0, 1, 1, 0, 1, 0, 0])) n ([.val (.ptr (.pair (.sl (.int .u8)) (.pair I (.pair (.int .u64) .unit)))) (.o .i) c0, .u, .val (.ptr (.pair (.sl (.sl I)) .unit)) (.o (.p (.o (.o .i)) .i)) t2, .val I .i n3, .val (.sl (.pair I (.pair I .unit))) (.o .i) pairs4, .u, .u, .val (.sl I) (.o .i) names7, .val I .i i8] ++ List.replicate 138 .u) K
noncomputable def zz41_R29 (N n : Nat) (K : Ex → St → Z3) (c0 : Z10) (t2 p9 : Y2) : Z3 := iter ((A_zz41).shape 58) (run (A_zz41) N (codeAt Try.f93 [1, 1, 1, 1, 1, 1, 1, 1, 0, 1, 0, 1, 1, 1, 1, 1, 1, 1, 0, 0, 0])) n ([.val (.ptr (.pair (.sl (.int .u8)) (.pair I (.pair (.int .u64) .unit)))) (.o .i) c0, .u, .val (.ptr (.pair (.sl (.sl I)) .unit)) (.o (.p (.o (.o .i)) .i)) t2, .u, .u, .u, .u, .u, .u, .val (.ptr (.pair (.sl (.sl I)) .unit)) (.o (.p (.o (.o .i)) .i)) p9] ++ List.replicate 137 .u) K
noncomputable abbrev zz41_z : Ex → St → Z3 := finish (A_zz41) S_zz41 Try.f93.results.toList
noncomputable abbrev zz41_X4 (kX : St → Z3) : Z10 → Y2 → Int → Z12 → Z3 := fun (c0 : Z10) (t2 : Y2) (n3 : Int) (pairs4 : Z12) => kX ([.val (.ptr (.pair (.sl (.int .u8)) (.pair I (.pair (.int .u64) .unit)))) (.o .i) c0, .u, .val (.ptr (.pair (.sl (.sl I)) .unit)) (.o (.p (.o (.o .i)) .i)) t2, .val I .i n3, .val (.sl (.pair I (.pair I .unit))) (.o .i) pairs4] ++ List.replicate 142 .u)
noncomputable abbrev zz41_E4 (kX : St → Z3) (kO : Nat → St → Z3) : Ex → St → Z3 := exK zz41_z 0 ((A_zz41).shape 23) kX kO
noncomputable abbrev zz41_X7 (kX : St → Z3) : Z10 → Y2 → Int → Z12 → Int → Z3 := fun (c0 : Z10) (t2 : Y2) (n3 : Int) (pairs4 : Z12) (x5 : Int) => kX ([.val (.ptr (.pair (.sl (.int .u8)) (.pair I (.pair (.int .u64) .unit)))) (.o .i) c0, .u, .val (.ptr (.pair (.sl (.sl I)) .unit)) (.o (.p (.o (.o .i)) .i)) t2, .val I .i n3, .val (.sl (.pair I (.pair I .unit))) (.o .i) pairs4, .val I .i x5] ++ List.replicate 141 .u)
noncomputable abbrev zz41_E7 (kX : St → Z3) (kO : Nat → St → Z3) : Ex → St → Z3 := exK zz41_z 2 ((A_zz41).shape 11) kX kO
noncomputable abbrev zz41_X14 (kX : St → Z3) : Z10 → Y2 → Int → Z12 → Z3 := fun (c0 : Z10) (t2 : Y2) (n3 : Int) (pairs4 : Z12) => kX ([.val (.ptr (.pair (.sl (.int .u8)) (.pair I (.pair (.int .u64) .unit)))) (.o .i) c0, .u, .val (.ptr (.pair (.sl (.sl I)) .unit)) (.o (.p (.o (.o .i)) .i)) t2, .val I .i n3, .val (.sl (.pair I (.pair I .unit))) (.o .i) pairs4] ++ List.replicate 142 .u)
noncomputable abbrev zz41_E14 (kX : St → Z3) (kO : Nat → St → Z3) : Ex → St → Z3 := exK zz41_z 4 ((A_zz41).shape 35) kX kO
noncomputable abbrev zz41_X29 (kX : St → Z3) : Z10 → Y2 → Y2 → Z3 := fun (c0 : Z10) (t2 p9 : Y2) => kX ([.val (.ptr (.pair (.sl (.int .u8)) (.pair I (.pair (.int .u64) .unit)))) (.o .i) c0, .u, .val (.ptr (.pair (.sl (.sl I)) .unit)) (.o (.p (.o (.o .i)) .i)) t2, .u, .u, .u, .u, .u, .u, .val (.ptr (.pair (.sl (.sl I)) .unit)) (.o (.p (.o .i) .i)) p9] ++ List.replicate 137 .u)
noncomputable abbrev zz41_E29 (kX : St → Z3) (kO : Nat → St → Z3) : Ex → St → Z3 := exK zz41_z 7 ((A_zz41).shape 63) kX kO
theorem zz41_step7 (N m : Nat) (kX : St → Z3) (kO : Nat → St → Z3) (c0 : Z10) (t2 : Y2) (n3 : Int) (pairs4 : Z12) (x5 y6 : Int) : zz41_R7 N (m + 1) (zz41_E7 kX kO) c0 t2 n3 pairs4 x5 y6 = zz41_b7 (zz41_R7 N m (zz41_E7 kX kO)) (zz41_X7 kX) c0 t2 n3 pairs4 x5 y6 := by kernel_rfl
theorem zz41_iter7 (N : Nat) (kX : St → Z3) (kO : Nat → St → Z3) : ∀ (n : Nat) (c0 : Z10) (t2 : Y2) (n3 : Int) (pairs4 : Z12) (x5 y6 : Int), zz41_R7 N n (zz41_E7 kX kO) c0 t2 n3 pairs4 x5 y6 = zz41_l7 N (zz41_X7 kX) n c0 t2 n3 pairs4 x5 y6
  | 0, _, _, _, _, _, _ => rfl
  | m + 1, c0, t2, n3, pairs4, x5, y6 => by
    have hrec : zz41_R7 N m (zz41_E7 kX kO) = (zz41_l7 N (zz41_X7 kX) m) := (funext fun c0 => (funext fun t2 => (funext fun n3 => (funext fun pairs4 => (funext fun x5 => (funext fun y6 => zz41_iter7 N kX kO m c0 t2 n3 pairs4 x5 y6))))))
    refine (zz41_step7 N m kX kO c0 t2 n3 pairs4 x5 y6).trans ?_
    rw [hrec]
    rfl
noncomputable abbrev zz41_K7 (N m : Nat) (kX : St → Z3) (kO : Nat → St → Z3) : Ex → St → Z3 := (blockK 2 (blockK 1 (seqK ((A_zz41).shape 11) (gated ((A_zz41).shape 500005).isSome N (run (A_zz41) N (codeAt Try.f93 [1, 1, 1, 0, 1, 0, 0, 1, 1]))) (iterK ((A_zz41).shape 8) (run (A_zz41) N (codeAt Try.f93 [1, 1, 1, 0, 1, 0, 0])) m (zz41_E4 kX kO)))))
noncomputable abbrev zz41_k7 (N m : Nat) (kX : St → Z3) (kO : Nat → St → Z3) : St → Z3 := fun st' => run (A_zz41) N (codeAt Try.f93 [1, 1, 1, 0, 1, 0, 0, 1, 1]) st' (iterK ((A_zz41).shape 8) (run (A_zz41) N (codeAt Try.f93 [1, 1, 1, 0, 1, 0, 0])) m (zz41_E4 kX kO))
theorem zz41_after7 (N m : Nat) (kX : St → Z3) (kO : Nat → St → Z3) (c0 : Z10) (t2 : Y2) (n3 : Int) (pairs4 : Z12) (x5 : Int) : zz41_X7 (zz41_k7 N m kX kO) c0 t2 n3 pairs4 x5 = zz41_a7 (zz41_R4 N m (zz41_E4 kX kO)) c0 t2 n3 pairs4 x5 := by kernel_rfl
theorem zz41_in7 (N m : Nat) (kX : St → Z3) (kO : Nat → St → Z3) (recF : Z10 → Y2 → Int → Z12 → Int → Z3) (hrec : zz41_R4 N m (zz41_E4 kX kO) = recF) (c0 : Z10) (t2 : Y2) (n3 : Int) (pairs4 : Z12) (x5 y6 : Int) : zz41_R7 N N (zz41_K7 N m kX kO) c0 t2 n3 pairs4 x5 y6 = zz41_F7 N recF (zz41_X4 kX) c0 t2 n3 pairs4 x5 y6 :=
  have h : zz41_X7 (zz41_k7 N m kX kO) = (zz41_a7 recF) := (funext fun c0 => (funext fun t2 => (funext fun n3 => (funext fun pairs4 => (funext fun x5 => (zz41_after7 N m kX kO c0 t2 n3 pairs4 x5).trans (by rw [hrec]))))))
  ((iter_ex (fun st => by kernel_rfl) (fun st => by kernel_rfl)).trans (zz41_iter7 N (zz41_k7 N m kX kO) (fun j st => (zz41_K7 N m kX kO) (.exit j) st) N c0 t2 n3 pairs4 x5 y6)).trans (congrArg (fun k => zz41_l7 N k N c0 t2 n3 pairs4 x5 y6) h)
theorem zz41_step4 (N m : Nat) (kX : St → Z3) (kO : Nat → St → Z3) (c0 : Z10) (t2 : Y2) (n3 : Int) (pairs4 : Z12) (x5 : Int) : zz41_R4 N (m + 1) (zz41_E4 kX kO) c0 t2 n3 pairs4 x5 = zz41_b4 (zz41_R7 N N (zz41_K7 N m kX kO)) (zz41_X4 kX) c0 t2 n3 pairs4 x5 := by kernel_rfl
theorem zz41_iter4 (N : Nat) (kX : St → Z3) (kO : Nat → St → Z3) : ∀ (n : Nat) (c0 : Z10) (t2 : Y2) (n3 : Int) (pairs4 : Z12) (x5 : Int), zz41_R4 N n (zz41_E4 kX kO) c0 t2 n3 pairs4 x5 = zz41_l4 N (zz41_X4 kX) n c0 t2 n3 pairs4 x5
  | 0, _, _, _, _, _ => rfl
  | m + 1, c0, t2, n3, pairs4, x5 => by
    have hrec : zz41_R4 N m (zz41_E4 kX kO) = (zz41_l4 N (zz41_X4 kX) m) := (funext fun c0 => (funext fun t2 => (funext fun n3 => (funext fun pairs4 => (funext fun x5 => zz41_iter4 N kX kO m c0 t2 n3 pairs4 x5)))))
    refine (zz41_step4 N m kX kO c0 t2 n3 pairs4 x5).trans ?_
    rw [(funext fun c0 => (funext fun t2 => (funext fun n3 => (funext fun pairs4 => (funext fun x5 => (funext fun y6 => zz41_in7 N m kX kO (zz41_l4 N (zz41_X4 kX) m) hrec c0 t2 n3 pairs4 x5 y6))))))]
    rfl
noncomputable abbrev zz41_K4 (N : Nat) : Ex → St → Z3 := (blockK 0 (seqK ((A_zz41).shape 23) (gated ((A_zz41).shape 500011).isSome N (run (A_zz41) N (codeAt Try.f93 [1, 1, 1, 1]))) zz41_z))
theorem zz41_step14 (N m : Nat) (kX : St → Z3) (kO : Nat → St → Z3) (c0 : Z10) (t2 : Y2) (n3 : Int) (pairs4 : Z12) (names7 : Y4) (i8 : Int) : zz41_R14 N (m + 1) (zz41_E14 kX kO) c0 t2 n3 pairs4 names7 i8 = zz41_b14 (zz41_R14 N m (zz41_E14 kX kO)) (zz41_X14 kX) c0 t2 n3 pairs4 names7 i8 := by kernel_rfl
theorem zz41_iter14 (N : Nat) (kX : St → Z3) (kO : Nat → St → Z3) : ∀ (n : Nat) (c0 : Z10) (t2 : Y2) (n3 : Int) (pairs4 : Z12) (names7 : Y4) (i8 : Int), zz41_R14 N n (zz41_E14 kX kO) c0 t2 n3 pairs4 names7 i8 = zz41_l14 N (zz41_X14 kX) n c0 t2 n3 pairs4 names7 i8
  | 0, _, _, _, _, _, _ => rfl
  | m + 1, c0, t2, n3, pairs4, names7, i8 => by
    have hrec : zz41_R14 N m (zz41_E14 kX kO) = (zz41_l14 N (zz41_X14 kX) m) := (funext fun c0 => (funext fun t2 => (funext fun n3 => (funext fun pairs4 => (funext fun names7 => (funext fun i8 => zz41_iter14 N kX kO m c0 t2 n3 pairs4 names7 i8))))))
    refine (zz41_step14 N m kX kO c0 t2 n3 pairs4 names7 i8).trans ?_
    rw [hrec]
    rfl
noncomputable abbrev zz41_K14 (N : Nat) : Ex → St → Z3 := (blockK 4 (seqK ((A_zz41).shape 35) (gated ((A_zz41).shape 500017).isSome N (run (A_zz41) N (codeAt Try.f93 [1, 1, 1, 1, 1]))) zz41_z))
theorem zz41_step29 (N m : Nat) (kX : St → Z3) (kO : Nat → St → Z3) (c0 : Z10) (t2 p9 : Y2) : zz41_R29 N (m + 1) (zz41_E29 kX kO) c0 t2 p9 = zz41_b29 (zz41_R29 N m (zz41_E29 kX kO)) (zz41_X29 kX) c0 t2 p9 := by kernel_rfl
theorem zz41_iter29 (N : Nat) (kX : St → Z3) (kO : Nat → St → Z3) : ∀ (n : Nat) (c0 : Z10) (t2 p9 : Y2), zz41_R29 N n (zz41_E29 kX kO) c0 t2 p9 = zz41_l29 N (zz41_X29 kX) n c0 t2 p9
  | 0, _, _, _ => rfl
  | m + 1, c0, t2, p9 => by
    have hrec : zz41_R29 N m (zz41_E29 kX kO) = (zz41_l29 N (zz41_X29 kX) m) := (funext fun c0 => (funext fun t2 => (funext fun p9 => zz41_iter29 N kX kO m c0 t2 p9)))
    refine (zz41_step29 N m kX kO c0 t2 p9).trans ?_
    rw [hrec]
    rfl
noncomputable abbrev zz41_K29 (N : Nat) : Ex → St → Z3 := (blockK 7 (blockK 6 (seqK ((A_zz41).shape 63) (gated ((A_zz41).shape 500031).isSome N (run (A_zz41) N (codeAt Try.f93 [1, 1, 1, 1, 1, 1, 1, 1, 1]))) zz41_z)))
noncomputable abbrev zz41_k29 (N : Nat) : St → Z3 := fun st' => run (A_zz41) N (codeAt Try.f93 [1, 1, 1, 1, 1, 1, 1, 1, 1]) st' zz41_z
theorem zz41_after29 (N : Nat) (c0 : Z10) (t2 p9 : Y2) : zz41_X29 (zz41_k29 N) c0 t2 p9 = zz41_a29 c0 t2 p9 := by kernel_rfl
theorem zz41_in29 (N : Nat) (c0 : Z10) (t2 p9 : Y2) : zz41_R29 N N (zz41_K29 N) c0 t2 p9 = zz41_F29 N c0 t2 p9 :=
  have h : zz41_X29 (zz41_k29 N) = (zz41_a29) := (funext fun c0 => (funext fun t2 => (funext fun p9 => zz41_after29 N c0 t2 p9)))
  ((iter_ex (fun st => by kernel_rfl) (fun st => by kernel_rfl)).trans (zz41_iter29 N (zz41_k29 N) (fun j st => (zz41_K29 N) (.exit j) st) N c0 t2 p9)).trans (congrArg (fun k => zz41_l29 N k N c0 t2 p9) h)
noncomputable abbrev zz41_k14 (N : Nat) : St → Z3 := fun st' => run (A_zz41) N (codeAt Try.f93 [1, 1, 1, 1, 1]) st' zz41_z
theorem zz41_after14 (N : Nat) (c0 : Z10) (t2 : Y2) (n3 : Int) (pairs4 : Z12) : zz41_X14 (zz41_k14 N) c0 t2 n3 pairs4 = zz41_a14 (zz41_R29 N N (zz41_K29 N)) c0 t2 n3 pairs4 := by kernel_rfl
theorem zz41_in14 (N : Nat) (c0 : Z10) (t2 : Y2) (n3 : Int) (pairs4 : Z12) (names7 : Y4) (i8 : Int) : zz41_R14 N N (zz41_K14 N) c0 t2 n3 pairs4 names7 i8 = zz41_F14 N c0 t2 n3 pairs4 names7 i8 :=
  have h : zz41_X14 (zz41_k14 N) = (zz41_a14 (zz41_F29 N)) := (funext fun c0 => (funext fun t2 => (funext fun n3 => (funext fun pairs4 => (zz41_after14 N c0 t2 n3 pairs4).trans (by rw [(funext fun c0 => (funext fun t2 => (funext fun p9 => zz41_in29 N c0 t2 p9)))])))))
  ((iter_ex (fun st => by kernel_rfl) (fun st => by kernel_rfl)).trans (zz41_iter14 N (zz41_k14 N) (fun j st => (zz41_K14 N) (.exit j) st) N c0 t2 n3 pairs4 names7 i8)).trans (congrArg (fun k => zz41_l14 N k N c0 t2 n3 pairs4 names7 i8) h)
noncomputable abbrev zz41_k4 (N : Nat) : St → Z3 := fun st' => run (A_zz41) N (codeAt Try.f93 [1, 1, 1, 1]) st' zz41_z
theorem zz41_after4 (N : Nat) (c0 : Z10) (t2 : Y2) (n3 : Int) (pairs4 : Z12) : zz41_X4 (zz41_k4 N) c0 t2 n3 pairs4 = zz41_a4 (zz41_R14 N N (zz41_K14 N)) (zz41_R29 N N (zz41_K29 N)) c0 t2 n3 pairs4 := by kernel_rfl
theorem zz41_in4 (N : Nat) (c0 : Z10) (t2 : Y2) (n3 : Int) (pairs4 : Z12) (x5 : Int) : zz41_R4 N N (zz41_K4 N) c0 t2 n3 pairs4 x5 = zz41_F4 N c0 t2 n3 pairs4 x5 :=
  have h : zz41_X4 (zz41_k4 N) = (zz41_a4 (zz41_F14 N) (zz41_F29 N)) := (funext fun c0 => (funext fun t2 => (funext fun n3 => (funext fun pairs4 => (zz41_after4 N c0 t2 n3 pairs4).trans (by rw [(funext fun c0 => (funext fun t2 => (funext fun n3 => (funext fun pairs4 => (funext fun names7 => (funext fun i8 => zz41_in14 N c0 t2 n3 pairs4 names7 i8)))))), (funext fun c0 => (funext fun t2 => (funext fun p9 => zz41_in29 N c0 t2 p9)))])))))
  ((iter_ex (fun st => by kernel_rfl) (fun st => by kernel_rfl)).trans (zz41_iter4 N (zz41_k4 N) (fun j st => (zz41_K4 N) (.exit j) st) N c0 t2 n3 pairs4 x5)).trans (congrArg (fun k => zz41_l4 N k N c0 t2 n3 pairs4 x5) h)
theorem run0_zz41 (N : Nat) (x : (S_zz41).a.den) : runF (A_zz41) N Try.f93 S_zz41 x = (zz41_s (zz41_R4 N N (zz41_K4 N)) x.1) := by kernel_rfl
theorem run_zz41 (N : Nat) (x : (S_zz41).a.den) : runF (A_zz41) N Try.f93 S_zz41 x = zz41 N x.1 := by
  refine (run0_zz41 N x).trans ?_
  rw [(funext fun c0 => (funext fun t2 => (funext fun n3 => (funext fun pairs4 => (funext fun x5 => zz41_in4 N c0 t2 n3 pairs4 x5)))))]
  rfl
theorem fn_zz41 : FnOk Try.prog 93 := ⟨_, Try.func93, by kernel_rfl, by kernel_rfl⟩
theorem good_zz41 : Gx.Good Try.prog 93 S_zz41 := good_of_runH Try.func93 (of_decide_eq_true (by kernel_rfl)) fun x r h => ⟨A_zz41, big, hookCfg_ok (mkCfg_ok tabOk), hookCfg_sig (mkCfg_sigs (show SigsOk Try.prog [(87, S_zz3), (95, S_zz36), (96, S_zz38), (50, S_zz4), (98, S_zz39), (39, S_zz2), (120, S_zz40)] from ⟨⟨fn_zz3, good_zz3⟩, ⟨fn_zz36, good_zz36⟩, ⟨fn_zz38, good_zz38⟩, ⟨fn_zz4, good_zz4⟩, ⟨fn_zz39, good_zz39⟩, ⟨fn_zz2, good_zz2⟩, ⟨fn_zz40, good_zz40⟩, trivial⟩)), fun code hc => hooks_of (ids := [25]) (fun i hi => by simp only [List.mem_cons, List.not_mem_nil, or_false] at hi; simp [A_zz41, hookCfg, hi]) fun c hm => PO.hooks_spec_l1Cur_poset A_zz41 (by rfl) code hc c hm, (run_zz41 big x).trans h⟩

/-! zz42 -/
def zz42_b14 (rec : Y2 → Y2 → Y2 → Y2 → Int → Int → Int → Y4 → Int → Int → Z2) (k : Y2 → Y2 → Y2 → Y2 → Int → Int → Int → Y4 → Int → Z2) (p2 q3 t4 out5 : Y2) (m6 x7 y8 : Int) (below9 : Y4) (i10 k11 : Int) : Z2 :=
  (atI q3.1 y8).bind fun xq3 =>
  cond (decide (k11 < (xq3.length : Int)))
  ((atI p2.1 x7).bind fun xq4 =>
  (atI xq4 i10).bind fun xq5 =>
  (atI q3.1 y8).bind fun xq6 =>
  (atI xq6 k11).bind fun xq7 =>
  (appI below9 [IntKind.i64.wrap ((IntKind.i64.wrap (xq5 * m6)) + xq7)]).bind fun xq8 =>
  rec p2 q3 t4 out5 m6 x7 y8 xq8 i10 (IntKind.i64.wrap (k11 + (1 : Int))))
  (k p2 q3 t4 out5 m6 x7 y8 below9 i10)
def zz42_a14 (rec : Y2 → Y2 → Y2 → Y2 → Int → Int → Int → Y4 → Int → Z2) (p2 q3 t4 out5 : Y2) (m6 x7 y8 : Int) (below9 : Y4) (i10 : Int) : Z2 :=
  rec p2 q3 t4 out5 m6 x7 y8 below9 (IntKind.i64.wrap (i10 + (1 : Int)))
def zz42_b11 (L14 : Y2 → Y2 → Y2 → Y2 → Int → Int → Int → Y4 → Int → Int → Z2) (k : Y2 → Y2 → Y2 → Y2 → Int → Int → Int → Y4 → Z2) (p2 q3 t4 out5 : Y2) (m6 x7 y8 : Int) (below9 : Y4) (i10 : Int) : Z2 :=
  (atI p2.1 x7).bind fun xq1 =>
  cond (decide (i10 < (xq1.length : Int)))
  (L14 p2 q3 t4 out5 m6 x7 y8 below9 i10 (0 : Int))
  (k p2 q3 t4 out5 m6 x7 y8 below9)
def zz42_a11 (rec : Y2 → Y2 → Y2 → Y2 → Int → Int → Int → Z2) (p2 q3 t4 out5 : Y2) (m6 x7 y8 : Int) (below9 : Y4) : Z2 :=
  (appI out5.1 [below9]).bind fun xq2 =>
  rec p2 q3 t4 (xq2, ((), out5.2).2) m6 x7 (IntKind.i64.wrap (y8 + (1 : Int)))
def zz42_b7 (L11 : Y2 → Y2 → Y2 → Y2 → Int → Int → Int → Y4 → Int → Z2) (k : Y2 → Y2 → Y2 → Y2 → Int → Int → Z2) (p2 q3 t4 out5 : Y2) (m6 x7 y8 : Int) : Z2 :=
  cond (decide (y8 < m6))
  (L11 p2 q3 t4 out5 m6 x7 y8 [] (0 : Int))
  (k p2 q3 t4 out5 m6 x7)
def zz42_a7 (rec : Y2 → Y2 → Y2 → Y2 → Int → Int → Z2) (p2 q3 t4 out5 : Y2) (m6 x7 : Int) : Z2 :=
  rec p2 q3 t4 out5 m6 (IntKind.i64.wrap (x7 + (1 : Int)))
def zz42_b4 (L7 : Y2 → Y2 → Y2 → Y2 → Int → Int → Int → Z2) (k : Y2 → Y2 → Z2) (p2 q3 t4 out5 : Y2) (m6 x7 : Int) : Z2 :=
  cond (decide (x7 < (p2.1.length : Int)))
  (L7 p2 q3 t4 out5 m6 x7 (0 : Int))
  (k t4 out5)
def zz42_a4 (t4 out5 : Y2) : Z2 :=
  some (out5, (()))
def zz42_s (L4 : Y2 → Y2 → Y2 → Y2 → Int → Int → Z2) (p_0 q_1 : Y2) : Z2 :=
  L4 p_0 q_1 (([] : Y3), ()) ([], ()) (q_1.1.length : Int) (0 : Int)
def zz42_l14 (N : Nat) (k : Y2 → Y2 → Y2 → Y2 → Int → Int → Int → Y4 → Int → Z2) : Nat → Y2 → Y2 → Y2 → Y2 → Int → Int → Int → Y4 → Int → Int → Z2
  | 0, _, _, _, _, _, _, _, _, _, _ => none
  | m + 1, p2, q3, t4, out5, m6, x7, y8, below9, i10, k11 => zz42_b14 (zz42_l14 N k m) k p2 q3 t4 out5 m6 x7 y8 below9 i10 k11
def zz42_F14 (N : Nat) (rec : Y2 → Y2 → Y2 → Y2 → Int → Int → Int → Y4 → Int → Z2) (k : Y2 → Y2 → Y2 → Y2 → Int → Int → Int → Y4 → Z2) (p2 q3 t4 out5 : Y2) (m6 x7 y8 : Int) (below9 : Y4) (i10 k11 : Int) : Z2 := zz42_l14 N (zz42_a14 rec) N p2 q3 t4 out5 m6 x7 y8 below9 i10 k11
def zz42_l11 (N : Nat) (k : Y2 → Y2 → Y2 → Y2 → Int → Int → Int → Y4 → Z2) : Nat → Y2 → Y2 → Y2 → Y2 → Int → Int → Int → Y4 → Int → Z2
  | 0, _, _, _, _, _, _, _, _, _ => none
  | m + 1, p2, q3, t4, out5, m6, x7, y8, below9, i10 => zz42_b11 (zz42_F14 N (zz42_l11 N k m) k) k p2 q3 t4 out5 m6 x7 y8 below9 i10
def zz42_F11 (N : Nat) (rec : Y2 → Y2 → Y2 → Y2 → Int → Int → Int → Z2) (k : Y2 → Y2 → Y2 → Y2 → Int → Int → Z2) (p2 q3 t4 out5 : Y2) (m6 x7 y8 : Int) (below9 : Y4) (i10 : Int) : Z2 := zz42_l11 N (zz42_a11 rec) N p2 q3 t4 out5 m6 x7 y8 below9 i10
def zz42_l7 (N : Nat) (k : Y2 → Y2 → Y2 → Y2 → Int → Int → Z2) : Nat → Y2 → Y2 → Y2 → Y2 → Int → Int → Int → Z2
  | 0, _, _, _, _, _, _, _ => none
  | m + 1, p2, q3, t4, out5, m6, x7, y8 => zz42_b7 (zz42_F11 N (zz42_l7 N k m) k) k p2 q3 t4 out5 m6 x7 y8
def zz42_F7 (N : Nat) (rec : Y2 → Y2 → Y2 → Y2 → Int → Int → Z2) (k : Y2 → Y2 → Z2) (p2 q3 t4 out5 : Y2) (m6 x7 y8 : Int) : Z2 := zz42_l7 N (zz42_a7 rec) N p2 q3 t4 out5 m6 x7 y8
def zz42_l4 (N : Nat) (k : Y2 → Y2 → Z2) : Nat → Y2 → Y2 → Y2 → Y2 → Int → Int → Z2
  | 0, _, _, _, _, _, _ => none
  | m + 1, p2, q3, t4, out5, m6, x7 => zz42_b4 (zz42_F7 N (zz42_l4 N k m) k) k p2 q3 t4 out5 m6 x7
def zz42_F4 (N : Nat) (p2 q3 t4 out5 : Y2) (m6 x7 : Int) : Z2 := zz42_l4 N (zz42_a4) N p2 q3 t4 out5 m6 x7
def zz42 (N : Nat) (p_0 q_1 : Y2) : Z2 := zz42_s (zz42_F4 N) p_0 q_1
def S_zz42 : Sig := { a := (.pair (.pair (.sl (.sl I)) .unit) (.pair (.pair (.sl (.sl I)) .unit) .unit)), md := [0, 0], mf := [], m := .unit, r := (.pair (.sl (.sl I)) .unit), rf := (.p (.o (.o .i)) .i), f := fun x => zz42 big x.1 x.2.1 }
def A_zz42 : Cfg := mkCfg tab [] [(8, [.drop, .drop, .as (.ptr (.pair (.sl (.sl I)) .unit)) (.o .i), .as (.ptr (.pair (.sl (.sl I)) .unit)) (.o .i), .as (.ptr (.pair (.sl (.sl I)) .unit)) (.o (.p (.o (.o .i)) .i)), .as (.ptr (.pair (.sl (.sl I)) .unit)) (.o (.p (.o (.o .i)) .i)), .as I .i, .as I .i]), (14, [.drop, .drop, .as (.ptr (.pair (.sl (.sl I)) .unit)) (.o .i), .as (.ptr (.pair (.sl (.sl I)) .unit)) (.o .i), .as (.ptr (.pair (.sl (.sl I)) .unit)) (.o (.p (.o (.o .i)) .i)), .as (.ptr (.pair (.sl (.sl I)) .unit)) (.o (.p (.o (.o .i)) .i)), .as I .i, .as I .i, .as I .i]), (37, [.drop, .drop, .drop, .drop, .as (.ptr (.pair (.sl (.sl I)) .unit)) (.o (.p (.o (.o .i)) .i)), .as (.ptr (.pair (.sl (.sl I)) .unit)) (.o (.p (.o (.o .i)) .i))]), (22, [.drop, .drop, .as (.ptr (.pair (.sl (.sl I)) .unit)) (.o .i), .as (.ptr (.pair (.sl (.sl I)) .unit)) (.o .i), .as (.ptr (.pair (.sl (.sl I)) .unit)) (.o (.p (.o (.o .i)) .i)), .as (.ptr (.pair (.sl (.sl I)) .unit)) (.o (.p (.o (.o .i)) .i)), .as I .i, .as I .i, .as I .i, .as (.sl I) (.o .i), .as I .i]), (11, [.drop, .drop, .as (.ptr (.pair (.sl (.sl I)) .unit)) (.o .i), .as (.ptr (.pair (.sl (.sl I)) .unit)) (.o .i), .as (.ptr (.pair (.sl (.sl I)) .unit)) (.o (.p (.o (.o .i)) .i)), .as (.ptr (.pair (.sl (.sl I)) .unit)) (.o (.p (.o (.o .i)) .i)), .as I .i, .as I .i]), (28, [.drop, .drop, .as (.ptr (.pair (.sl (.sl I)) .unit)) (.o .i), .as (.ptr (.pair (.sl (.sl I)) .unit)) (.o .i), .as (.ptr (.pair (.sl (.sl I)) .unit)) (.o (.p (.o (.o .i)) .i)), .as (.ptr (.pair (.sl (.sl I)) .unit)) (.o (.p (.o (.o .i)) .i)), .as I .i, .as I .i, .as I .i, .as (.sl I) (.o .i), .as I .i, .as I .i]), (35, [.drop, .drop, .as (.ptr (.pair (.sl (.sl I)) .unit)) (.o .i), .as (.ptr (.pair (.sl (.sl I)) .unit)) (.o .i), .as (.ptr (.pair (.sl (.sl I)) .unit)) (.o (.p (.o (.o .i)) .i)), .as (.ptr (.pair (.sl (.sl I)) .unit)) (.o (.p (.o (.o .i)) .i)), .as I .i, .as I .i, .as I .i, .as (.sl I) (.o .i)]), (25, [.drop, .drop, .as (.ptr (.pair (.sl (.sl I)) .unit)) (.o .i), .as (.ptr (.pair (.sl (.sl I)) .unit)) (.o .i), .as (.ptr (.pair (.sl (.sl I)) .unit)) (.o (.p (.o (.o .i)) .i)), .as (.ptr (.pair (.sl (.sl I)) .unit)) (.o (.p (.o (.o .i)) .i)), .as I .i, .as I .i, .as I .i, .as (.sl I) (.o .i), .as I .i])]
noncomputable def zz42_R4 (N n : Nat) (K : Ex → St → Z2) (p2 q3 t4 out5 : Y2) (m6 x7 : Int) : Z2 := iter ((A_zz42).shape 8) (run (A_zz42) N (codeAt Try.f121 [1, 1, 1, 0, 1, 0, 0])) n ([.u, .u, .val (.ptr (.pair (.sl (.sl I)) .unit)) (.o .i) p2, .val (.ptr (.pair (.sl (.sl I)) .unit)) (.o .i) q3, .val (.ptr (.pair (.sl (.sl I)) .unit)) (.o (.p (.o (.o .i)) .i)) t4, .val (.ptr (.pair (.sl (.sl I)) .unit)) (.o (.p (.o (.o .i)) .i)) out5, .val I .i m6, .val I .i x7] ++ List.replicate 71 .u) K
noncomputable def zz42_R7 (N n : Nat) (K : Ex → St → Z2) (p2 q3 t4 out5 : Y2) (m6 x7 y8 : Int) : Z2 := iter ((A_zz42).shape 14) (run (A_zz42) N (codeAt Try.f121 [1, 1, 1, 0, 1, 0, 0, 1, 0, 0, 1, 0, 0])) n ([.u, .u, .val (.ptr (.pair (.sl (.sl I)) .unit)) (.o .i) p2, .val (.ptr (.pair (.sl (.sl I)) .unit)) (.o .i) q3, .val (.ptr (.pair (.sl (.sl I)) .unit)) (.o (.p (.o (.o .i)) .i)) t4, .val (.ptr (.pair (.sl (.sl I)) .unit)) (.o (.p (.o (.o .i)) .i)) out5, .val I .i m6, .val I .i x7, .val I .i y8] ++ List.replicate 70 .u) K
noncomputable def zz42_R11 (N n : Nat) (K : Ex → St → Z2) (p2 q3 t4 out5 : Y2) (m6 x7 y8 : Int) (below9 : Y4) (i10 : Int) : Z2 := iter ((A_zz42).shape 22) (run (A_zz42) N (codeAt Try.f121 [1, 1, 1, 0, 1, 0, 0, 1, 0, 0, 1, 0, 0, 1, 0, 0, 1, 0, 1, 0, 0])) n ([.u, .u, .val (.ptr (.pair (.sl (.sl I)) .unit)) (.o .i) p2, .val (.ptr (.pair (.sl (.sl I)) .unit)) (.o .i) q3, .val (.ptr (.pair (.sl (.sl I)) .unit)) (.o (.p (.o (.o .i)) .i)) t4, .val (.ptr (.pair (.sl (.sl I)) .unit)) (.o (.p (.o (.o .i)) .i)) out5, .val I .i m6, .val I .i x7, .val I .i y8, .val (.sl I) (.o .i) below9, .val I .i i10] ++ List.replicate 68 .u) K
noncomputable def zz42_R14 (N n : Nat) (K : Ex → St → Z2) (p2 q3 t4 out5 : Y2) (m6 x7 y8 : Int) (below9 : Y4) (i10 k11 : Int) : Z2 := iter ((A_zz42).shape 28) (run (A_zz42) N (codeAt Try.f121 [1, 1, 1, 0, 1, 0, 0, 1, 0, 0, 1, 0, 0, 1, 0, 0, 1, 0, 1, 0, 0, 1, 0, 0, 1, 0, 0])) n ([.u, .u, .val (.ptr (.pair (.sl (.sl I)) .unit)) (.o .i) p2, .val (.ptr (.pair (.sl (.sl I)) .unit)) (.o .i) q3, .val (.ptr (.pair (.sl (.sl I)) .unit)) (.o (.p (.o (.o .i)) .i)) t4, .val (.ptr (.pair (.sl (.sl I)) .unit)) (.o (.p (.o (.o .i)) .i)) out5, .val I .i m6, .val I .i x7, .val I .i y8, .val (.sl I) (.o .i) below9, .val I .i i10, .val I .i k11] ++ List.replicate 67 .u) K
noncomputable abbrev zz42_z : Ex → St → Z2 := finish (A_zz42) S_zz42 Try.f121.results.toList
noncomputable abbrev zz42_X4 (kX : St → Z2) : Y2 → Y2 → Z2 := fun (t4 out5 : Y2) => kX ([.u, .u, .u, .u, .val (.ptr (.pair (.sl (.sl I)) .unit)) (.o (.p (.o (.o .i)) .i)) t4, .val (.ptr (.pair (.sl (.sl I)) .unit)) (.o (.p (.o (.o .i)) .i)) out5] ++ List.replicate 73 .u)
noncomputable abbrev zz42_E4 (kX : St → Z2) (kO : Nat → St → Z2) : Ex → St → Z2 := exK zz42_z 0 ((A_zz42).shape 37) kX kO
noncomputable abbrev zz42_X7 (kX : St → Z2) : Y2 → Y2 → Y2 → Y2 → Int → Int → Z2 := fun (p2 q3 t4 out5 : Y2) (m6 x7 : Int) => kX ([.u, .u, .val (.ptr (.pair (.sl (.sl I)) .unit)) (.o .i) p2, .val (.ptr (.pair (.sl (.sl I)) .unit)) (.o .i) q3, .val (.ptr (.pair (.sl (.sl I)) .unit)) (.o (.p (.o (.o .i)) .i)) t4, .val (.ptr (.pair (.sl (.sl I)) .unit)) (.o (.p (.o (.o .i)) .i)) out5, .val I .i m6, .val I .i x7] ++ List.replicate 71 .u)
noncomputable abbrev zz42_E7 (kX : St → Z2) (kO : Nat → St → Z2) : Ex → St → Z2 := exK zz42_z 2 ((A_zz42).shape 11) kX kO
noncomputable abbrev zz42_X11 (kX : St → Z2) : Y2 → Y2 → Y2 → Y2 → Int → Int → Int → Y4 → Z2 := fun (p2 q3 t4 out5 : Y2) (m6 x7 y8 : Int) (below9 : Y4) => kX ([.u, .u, .val (.ptr (.pair (.sl (.sl I)) .unit)) (.o .i) p2, .val (.ptr (.pair (.sl (.sl I)) .unit)) (.o .i) q3, .val (.ptr (.pair (.sl (.sl I)) .unit)) (.o (.p (.o (.o .i)) .i)) t4, .val (.ptr (.pair (.sl (.sl I)) .unit)) (.o (.p (.o (.o .i)) .i)) out5, .val I .i m6, .val I .i x7, .val I .i y8, .val (.sl I) (.o .i) below9] ++ List.replicate 69 .u)
noncomputable abbrev zz42_E11 (kX : St → Z2) (kO : Nat → St → Z2) : Ex → St → Z2 := exK zz42_z 4 ((A_zz42).shape 35) kX kO
noncomputable abbrev zz42_X14 (kX : St → Z2) : Y2 → Y2 → Y2 → Y2 → Int → Int → Int → Y4 → Int → Z2 := fun (p2 q3 t4 out5 : Y2) (m6 x7 y8 : Int) (below9 : Y4) (i10 : Int) => kX ([.u, .u, .val (.ptr (.pair (.sl (.sl I)) .unit)) (.o .i) p2, .val (.ptr (.pair (.sl (.sl I)) .unit)) (.o .i) q3, .val (.ptr (.pair (.sl (.sl I)) .unit)) (.o (.p (.o (.o .i)) .i)) t4, .val (.ptr (.pair (.sl (.sl I)) .unit)) (.o (.p (.o (.o .i)) .i)) out5, .val I .i m6, .val I .i x7, .val I .i y8, .val (.sl I) (.o .i) below9, .val I .i i10] ++ List.replicate 68 .u)
noncomputable abbrev zz42_E14 (kX : St → Z2) (kO : Nat → St → Z2) : Ex → St → Z2 := exK zz42_z 6 ((A_zz42).shape 25) kX kO
theorem zz42_step14 (N m : Nat) (kX : St → Z2) (kO : Nat → St → Z2) (p2 q3 t4 out5 : Y2) (m6 x7 y8 : Int) (below9 : Y4) (i10 k11 : Int) : zz42_R14 N (m + 1) (zz42_E14 kX kO) p2 q3 t4 out5 m6 x7 y8 below9 i10 k11 = zz42_b14 (zz42_R14 N m (zz42_E14 kX kO)) (zz42_X14 kX) p2 q3 t4 out5 m6 x7 y8 below9 i10 k11 := by kernel_rfl
theorem zz42_iter14 (N : Nat) (kX : St → Z2) (kO : Nat → St → Z2) : ∀ (n : Nat) (p2 q3 t4 out5 : Y2) (m6 x7 y8 : Int) (below9 : Y4) (i10 k11 : Int), zz42_R14 N n (zz42_E14 kX kO) p2 q3 t4 out5 m6 x7 y8 below9 i10 k11 = zz42_l14 N (zz42_X14 kX) n p2 q3 t4 out5 m6 x7 y8 below9 i10 k11
  | 0, _, _, _, _, _, _, _, _, _, _ => rfl
  | m + 1, p2, q3, t4, out5, m6, x7, y8, below9, i10, k11 => by
    have hrec : zz42_R14 N m (zz42_E14 kX kO) = (zz42_l14 N (zz42_X14 kX) m) := (funext fun p2 => (funext fun q3 => (funext fun t4 => (funext fun out5 => (funext fun m6 => (funext fun x7 => (funext fun y8 => (funext fun below9 => (funext fun i10 => (funext fun k11 => zz42_iter14 N kX kO m p2 q3 t4 out5 m6 x7 y8 below9 i10 k11))))))))))
    refine (zz42_step14 N m kX kO p2 q3 t4 out5 m6 x7 y8 below9 i10 k11).trans ?_
    rw [hrec]
    rfl
noncomputable abbrev zz42_K14 (N m : Nat) (kX : St → Z2) (kO : Nat → St → Z2) : Ex → St → Z2 := (blockK 6 (blockK 5 (seqK ((A_zz42).shape 25) (gated ((A_zz42).shape 500012).isSome N (run (A_zz42) N (codeAt Try.f121 [1, 1, 1, 0, 1, 0, 0, 1, 0, 0, 1, 0, 0, 1, 0, 0, 1, 0, 1, 0, 0, 1, 1]))) (iterK ((A_zz42).shape 22) (run (A_zz42) N (codeAt Try.f121 [1, 1, 1, 0, 1, 0, 0, 1, 0, 0, 1, 0, 0, 1, 0, 0, 1, 0, 1, 0, 0])) m (zz42_E11 kX kO)))))
noncomputable abbrev zz42_k14 (N m : Nat) (kX : St → Z2) (kO : Nat → St → Z2) : St → Z2 := fun st' => run (A_zz42) N (codeAt Try.f121 [1, 1, 1, 0, 1, 0, 0, 1, 0, 0, 1, 0, 0, 1, 0, 0, 1, 0, 1, 0, 0, 1, 1]) st' (iterK ((A_zz42).shape 22) (run (A_zz42) N (codeAt Try.f121 [1, 1, 1, 0, 1, 0, 0, 1, 0, 0, 1, 0, 0, 1, 0, 0, 1, 0, 1, 0, 0])) m (zz42_E11 kX kO))
theorem zz42_after14 (N m : Nat) (kX : St → Z2) (kO : Nat → St → Z2) (p2 q3 t4 out5 : Y2) (m6 x7 y8 : Int) (below9 : Y4) (i10 : Int) : zz42_X14 (zz42_k14 N m kX kO) p2 q3 t4 out5 m6 x7 y8 below9 i10 = zz42_a14 (zz42_R11 N m (zz42_E11 kX kO)) p2 q3 t4 out5 m6 x7 y8 below9 i10 := by kernel_rfl
theorem zz42_in14 (N m : Nat) (kX : St → Z2) (kO : Nat → St → Z2) (recF : Y2 → Y2 → Y2 → Y2 → Int → Int → Int → Y4 → Int → Z2) (hrec : zz42_R11 N m (zz42_E11 kX kO) = recF) (p2 q3 t4 out5 : Y2) (m6 x7 y8 : Int) (below9 : Y4) (i10 k11 : Int) : zz42_R14 N N (zz42_K14 N m kX kO) p2 q3 t4 out5 m6 x7 y8 below9 i10 k11 = zz42_F14 N recF (zz42_X11 kX) p2 q3 t4 out5 m6 x7 y8 below9 i10 k11 :=
  have h : zz42_X14 (zz42_k14 N m kX kO) = (zz42_a14 recF) := (funext fun p2 => (funext fun q3 => (funext fun t4 => (funext fun out5 => (funext fun m6 => (funext fun x7 => (funext fun y8 => (funext fun below9 => (funext fun i10 => (zz42_after14 N m kX kO p2 q3 t4 out5 m6 x7 y8 below9 i10).trans (by rw [hrec]))))))))))
  ((iter_ex (fun st => by kernel_rfl) (fun st => by kernel_rfl)).trans (zz42_iter14 N (zz42_k14 N m kX kO) (fun j st => (zz42_K14 N m kX kO) (.exit j) st) N p2 q3 t4 out5 m6 x7 y8 below9 i10 k11)).trans (congrArg (fun k => zz42_l14 N k N p2 q3 t4 out5 m6 x7 y8 below9 i10 k11) h)
theorem zz42_step11 (N m : Nat) (kX : St → Z2) (kO : Nat → St → Z2) (p2 q3 t4 out5 : Y2) (m6 x7 y8 : Int) (below9 : Y4) (i10 : Int) : zz42_R11 N (m + 1) (zz42_E11 kX kO) p2 q3 t4 out5 m6 x7 y8 below9 i10 = zz42_b11 (zz42_R14 N N (zz42_K14 N m kX kO)) (zz42_X11 kX) p2 q3 t4 out5 m6 x7 y8 below9 i10 := by kernel_rfl
theorem zz42_iter11 (N : Nat) (kX : St → Z2) (kO : Nat → St → Z2) : ∀ (n : Nat) (p2 q3 t4 out5 : Y2) (m6 x7 y8 : Int) (below9 : Y4) (i10 : Int), zz42_R11 N n (zz42_E11 kX kO) p2 q3 t4 out5 m6 x7 y8 below9 i10 = zz42_l11 N (zz42_X11 kX) n p2 q3 t4 out5 m6 x7 y8 below9 i10
  | 0, _, _, _, _, _, _, _, _, _ => rfl
  | m + 1, p2, q3, t4, out5, m6, x7, y8, below9, i10 => by
    have hrec : zz42_R11 N m (zz42_E11 kX kO) = (zz42_l11 N (zz42_X11 kX) m) := (funext fun p2 => (funext fun q3 => (funext fun t4 => (funext fun out5 => (funext fun m6 => (funext fun x7 => (funext fun y8 => (funext fun below9 => (funext fun i10 => zz42_iter11 N kX kO m p2 q3 t4 out5 m6 x7 y8 below9 i10)))))))))
    refine (zz42_step11 N m kX kO p2 q3 t4 out5 m6 x7 y8 below9 i10).trans ?_
    rw [(funext fun p2 => (funext fun q3 => (funext fun t4 => (funext fun out5 => (funext fun m6 => (funext fun x7 => (funext fun y8 => (funext fun below9 => (funext fun i10 => (funext fun k11 => zz42_in14 N m kX kO (zz42_l11 N (zz42_X11 kX) m) hrec p2 q3 t4 out5 m6 x7 y8 below9 i10 k11))))))))))]
    rfl
noncomputable abbrev zz42_K11 (N m : Nat) (kX : St → Z2) (kO : Nat → St → Z2) : Ex → St → Z2 := (blockK 4 (seqK ((A_zz42).shape 35) (gated ((A_zz42).shape 500017).isSome N (run (A_zz42) N (codeAt Try.f121 [1, 1, 1, 0, 1, 0, 0, 1, 0, 0, 1, 0, 0, 1, 0, 0, 1, 1]))) (blockK 3 (seqK ((A_zz42).shape 17) (gated ((A_zz42).shape 500008).isSome N (run (A_zz42) N (codeAt Try.f121 [1, 1, 1, 0, 1, 0, 0, 1, 0, 0, 1, 0, 0, 1, 1]))) (iterK ((A_zz42).shape 14) (run (A_zz42) N (codeAt Try.f121 [1, 1, 1, 0, 1, 0, 0, 1, 0, 0, 1, 0, 0])) m (zz42_E7 kX kO))))))
noncomputable abbrev zz42_k11 (N m : Nat) (kX : St → Z2) (kO : Nat → St → Z2) : St → Z2 := fun st' => run (A_zz42) N (codeAt Try.f121 [1, 1, 1, 0, 1, 0, 0, 1, 0, 0, 1, 0, 0, 1, 0, 0, 1, 1]) st' (blockK 3 (seqK ((A_zz42).shape 17) (gated ((A_zz42).shape 500008).isSome N (run (A_zz42) N (codeAt Try.f121 [1, 1, 1, 0, 1, 0, 0, 1, 0, 0, 1, 0, 0, 1, 1]))) (iterK ((A_zz42).shape 14) (run (A_zz42) N (codeAt Try.f121 [1, 1, 1, 0, 1, 0, 0, 1, 0, 0, 1, 0, 0])) m (zz42_E7 kX kO))))
theorem zz42_after11 (N m : Nat) (kX : St → Z2) (kO : Nat → St → Z2) (p2 q3 t4 out5 : Y2) (m6 x7 y8 : Int) (below9 : Y4) : zz42_X11 (zz42_k11 N m kX kO) p2 q3 t4 out5 m6 x7 y8 below9 = zz42_a11 (zz42_R7 N m (zz42_E7 kX kO)) p2 q3 t4 out5 m6 x7 y8 below9 := by kernel_rfl
theorem zz42_in11 (N m : Nat) (kX : St → Z2) (kO : Nat → St → Z2) (recF : Y2 → Y2 → Y2 → Y2 → Int → Int → Int → Z2) (hrec : zz42_R7 N m (zz42_E7 kX kO) = recF) (p2 q3 t4 out5 : Y2) (m6 x7 y8 : Int) (below9 : Y4) (i10 : Int) : zz42_R11 N N (zz42_K11 N m kX kO) p2 q3 t4 out5 m6 x7 y8 below9 i10 = zz42_F11 N recF (zz42_X7 kX) p2 q3 t4 out5 m6 x7 y8 below9 i10 :=
  have h : zz42_X11 (zz42_k11 N m kX kO) = (zz42_a11 recF) := (funext fun p2 => (funext fun q3 => (funext fun t4 => (funext fun out5 => (funext fun m6 => (funext fun x7 => (funext fun y8 => (funext fun below9 => (zz42_after11 N m kX kO p2 q3 t4 out5 m6 x7 y8 below9).trans (by rw [hrec])))))))))
  ((iter_ex (fun st => by kernel_rfl) (fun st => by kernel_rfl)).trans (zz42_iter11 N (zz42_k11 N m kX kO) (fun j st => (zz42_K11 N m kX kO) (.exit j) st) N p2 q3 t4 out5 m6 x7 y8 below9 i10)).trans (congrArg (fun k => zz42_l11 N k N p2 q3 t4 out5 m6 x7 y8 below9 i10) h)
theorem zz42_step7 (N m : Nat) (kX : St → Z2) (kO : Nat → St → Z2) (p2 q3 t4 out5 : Y2) (m6 x7 y8 : Int) : zz42_R7 N (m + 1) (zz42_E7 kX kO) p2 q3 t4 out5 m6 x7 y8 = zz42_b7 (zz42_R11 N N (zz42_K11 N m kX kO)) (zz42_X7 kX) p2 q3 t4 out5 m6 x7 y8 := by kernel_rfl
theorem zz42_iter7 (N : Nat) (kX : St → Z2) (kO : Nat → St → Z2) : ∀ (n : Nat) (p2 q3 t4 out5 : Y2) (m6 x7 y8 : Int), zz42_R7 N n (zz42_E7 kX kO) p2 q3 t4 out5 m6 x7 y8 = zz42_l7 N (zz42_X7 kX) n p2 q3 t4 out5 m6 x7 y8
  | 0, _, _, _, _, _, _, _ => rfl
  | m + 1, p2, q3, t4, out5, m6, x7, y8 => by
    have hrec : zz42_R7 N m (zz42_E7 kX kO) = (zz42_l7 N (zz42_X7 kX) m) := (funext fun p2 => (funext fun q3 => (funext fun t4 => (funext fun out5 => (funext fun m6 => (funext fun x7 => (funext fun y8 => zz42_iter7 N kX kO m p2 q3 t4 out5 m6 x7 y8)))))))
    refine (zz42_step7 N m kX kO p2 q3 t4 out5 m6 x7 y8).trans ?_
    rw [(funext fun p2 => (funext fun q3 => (funext fun t4 => (funext fun out5 => (funext fun m6 => (funext fun x7 => (funext fun y8 => (funext fun below9 => (funext fun i10 => zz42_in11 N m kX kO (zz42_l7 N (zz42_X7 kX) m) hrec p2 q3 t4 out5 m6 x7 y8 below9 i10)))))))))]
    rfl
noncomputable abbrev zz42_K7 (N m : Nat) (kX : St → Z2) (kO : Nat → St → Z2) : Ex → St → Z2 := (blockK 2 (blockK 1 (seqK ((A_zz42).shape 11) (gated ((A_zz42).shape 500005).isSome N (run (A_zz42) N (codeAt Try.f121 [1, 1, 1, 0, 1, 0, 0, 1, 1]))) (iterK ((A_zz42).shape 8) (run (A_zz42) N (codeAt Try.f121 [1, 1, 1, 0, 1, 0, 0])) m (zz42_E4 kX kO)))))
noncomputable abbrev zz42_k7 (N m : Nat) (kX : St → Z2) (kO : Nat → St → Z2) : St → Z2 := fun st' => run (A_zz42) N (codeAt Try.f121 [1, 1, 1, 0, 1, 0, 0, 1, 1]) st' (iterK ((A_zz42).shape 8) (run (A_zz42) N (codeAt Try.f121 [1, 1, 1, 0, 1, 0, 0])) m (zz42_E4 kX kO))
theorem zz42_after7 (N m : Nat) (kX : St → Z2) (kO : Nat → St → Z2) (p2 q3 t4 out5 : Y2) (m6 x7 : Int) : zz42_X7 (zz42_k7 N m kX kO) p2 q3 t4 out5 m6 x7 = zz42_a7 (zz42_R4 N m (zz42_E4 kX kO)) p2 q3 t4 out5 m6 x7 := by kernel_rfl
theorem zz42_in7 (N m : Nat) (kX : St → Z2) (kO : Nat → St → Z2) (recF : Y2 → Y2 → Y2 → Y2 → Int → Int → Z2) (hrec : zz42_R4 N m (zz42_E4 kX kO) = recF) (p2 q3 t4 out5 : Y2) (m6 x7 y8 : Int) : zz42_R7 N N (zz42_K7 N m kX kO) p2 q3 t4 out5 m6 x7 y8 = zz42_F7 N recF (zz42_X4 kX) p2 q3 t4 out5 m6 x7 y8 :=
  have h : zz42_X7 (zz42_k7 N m kX kO) = (zz42_a7 recF) := (funext fun p2 => (funext fun q3 => (funext fun t4 => (funext fun out5 => (funext fun m6 => (funext fun x7 => (zz42_after7 N m kX kO p2 q3 t4 out5 m6 x7).trans (by rw [hrec])))))))
  ((iter_ex (fun st => by kernel_rfl) (fun st => by kernel_rfl)).trans (zz42_iter7 N (zz42_k7 N m kX kO) (fun j st => (zz42_K7 N m kX kO) (.exit j) st) N p2 q3 t4 out5 m6 x7 y8)).trans (congrArg (fun k => zz42_l7 N k N p2 q3 t4 out5 m6 x7 y8) h)
theorem zz42_step4 (N m : Nat) (kX : St → Z2) (kO : Nat → St → Z2) (p2 q3 t4 out5 : Y2) (m6 x7 : Int) : zz42_R4 N (m + 1) (zz42_E4 kX kO) p2 q3 t4 out5 m6 x7 = zz42_b4 (zz42_R7 N N (zz42_K7 N m kX kO)) (zz42_X4 kX) p2 q3 t4 out5 m6 x7 := by kernel_rfl
theorem zz42_iter4 (N : Nat) (kX : St → Z2) (kO : Nat → St → Z2) : ∀ (n : Nat) (p2 q3 t4 out5 : Y2) (m6 x7 : Int), zz42_R4 N n (zz42_E4 kX kO) p2 q3 t4 out5 m6 x7 = zz42_l4 N (zz42_X4 kX) n p2 q3 t4 out5 m6 x7
  | 0, _, _, _, _, _, _ => rfl
  | m + 1, p2, q3, t4, out5, m6, x7 => by
    have hrec : zz42_R4 N m (zz42_E4 kX kO) = (zz42_l4 N (zz42_X4 kX) m) := (funext fun p2 => (funext fun q3 => (funext fun t4 => (funext fun out5 => (funext fun m6 => (funext fun x7 => zz42_iter4 N kX kO m p2 q3 t4 out5 m6 x7))))))
    refine (zz42_step4 N m kX kO p2 q3 t4 out5 m6 x7).trans ?_
    rw [(funext fun p2 => (funext fun q3 => (funext fun t4 => (funext fun out5 => (funext fun m6 => (funext fun x7 => (funext fun y8 => zz42_in7 N m kX kO (zz42_l4 N (zz42_X4 kX) m) hrec p2 q3 t4 out5 m6 x7 y8)))))))]
    rfl
noncomputable abbrev zz42_K4 (N : Nat) : Ex → St → Z2 := (blockK 0 (seqK ((A_zz42).shape 37) (gated ((A_zz42).shape 500018).isSome N (run (A_zz42) N (codeAt Try.f121 [1, 1, 1, 1]))) zz42_z))
noncomputable abbrev zz42_k4 (N : Nat) : St → Z2 := fun st' => run (A_zz42) N (codeAt Try.f121 [1, 1, 1, 1]) st' zz42_z
theorem zz42_after4 (N : Nat) (t4 out5 : Y2) : zz42_X4 (zz42_k4 N) t4 out5 = zz42_a4 t4 out5 := by kernel_rfl
theorem zz42_in4 (N : Nat) (p2 q3 t4 out5 : Y2) (m6 x7 : Int) : zz42_R4 N N (zz42_K4 N) p2 q3 t4 out5 m6 x7 = zz42_F4 N p2 q3 t4 out5 m6 x7 :=
  have h : zz42_X4 (zz42_k4 N) = (zz42_a4) := (funext fun t4 => (funext fun out5 => zz42_after4 N t4 out5))
  ((iter_ex (fun st => by kernel_rfl) (fun st => by kernel_rfl)).trans (zz42_iter4 N (zz42_k4 N) (fun j st => (zz42_K4 N) (.exit j) st) N p2 q3 t4 out5 m6 x7)).trans (congrArg (fun k => zz42_l4 N k N p2 q3 t4 out5 m6 x7) h)
theorem run0_zz42 (N : Nat) (x : (S_zz42).a.den) : runF (A_zz42) N Try.f121 S_zz42 x = (zz42_s (zz42_R4 N N (zz42_K4 N)) x.1 x.2.1) := by kernel_rfl
theorem run_zz42 (N : Nat) (x : (S_zz42).a.den) : runF (A_zz42) N Try.f121 S_zz42 x = zz42 N x.1 x.2.1 := by
  refine (run0_zz42 N x).trans ?_
  rw [(funext fun p2 => (funext fun q3 => (funext fun t4 => (funext fun out5 => (funext fun m6 => (funext fun x7 => zz42_in4 N p2 q3 t4 out5 m6 x7))))))]
  rfl
theorem fn_zz42 : FnOk Try.prog 121 := ⟨_, Try.func121, by kernel_rfl, by kernel_rfl⟩
theorem good_zz42 : Gx.Good Try.prog 121 S_zz42 := good_of_run Try.func121 (of_decide_eq_true (by kernel_rfl)) fun x r h => ⟨A_zz42, big, mkCfg_ok tabOk, mkCfg_sigs (show SigsOk Try.prog [] from trivial), (run_zz42 big x).trans h⟩

/-! zz43 -/
def zz43_s (k_0 : Int) : Z2 :=
  cond (decide (k_0 = (0 : Int)))
  ((zz39 big (1 : Int) []).bind fun rq1 =>
  some (rq1.1, (())))
  (cond (decide (k_0 = (1 : Int)))
  ((zz39 big (2 : Int) [((0 : Int), ((1 : Int), ()))]).bind fun rq2 =>
  some (rq2.1, (())))
  (cond (decide (k_0 = (2 : Int)))
  ((zz39 big (4 : Int) [((0 : Int), ((1 : Int), ())), ((1 : Int), ((2 : Int), ())), ((2 : Int), ((3 : Int), ()))]).bind fun rq3 =>
  some (rq3.1, (())))
  (cond (decide (k_0 = (3 : Int)))
  ((zz39 big (4 : Int) [((0 : Int), ((1 : Int), ())), ((0 : Int), ((2 : Int), ())), ((1 : Int), ((3 : Int), ())), ((2 : Int), ((3 : Int), ()))]).bind fun rq4 =>
  some (rq4.1, (())))
  (cond (decide (k_0 = (4 : Int)))
  ((zz39 big (5 : Int) [((0 : Int), ((1 : Int), ())), ((0 : Int), ((2 : Int), ())), ((0 : Int), ((3 : Int), ())), ((1 : Int), ((4 : Int), ())), ((2 : Int), ((4 : Int), ())), ((3 : Int), ((4 : Int), ()))]).bind fun rq5 =>
  some (rq5.1, (())))
  (cond (decide (k_0 = (5 : Int)))
  ((zz39 big (5 : Int) [((0 : Int), ((1 : Int), ())), ((1 : Int), ((2 : Int), ())), ((0 : Int), ((3 : Int), ())), ((2 : Int), ((4 : Int), ())), ((3 : Int), ((4 : Int), ()))]).bind fun rq6 =>
  some (rq6.1, (())))
  (cond (decide (k_0 = (6 : Int)))
  ((zz39 big (8 : Int) [((0 : Int), ((1 : Int), ())), ((0 : Int), ((2 : Int), ())), ((0 : Int), ((3 : Int), ())), ((1 : Int), ((4 : Int), ())), ((1 : Int), ((5 : Int), ())), ((2 : Int), ((4 : Int), ())), ((2 : Int), ((6 : Int), ())), ((3 : Int), ((5 : Int), ())), ((3 : Int), ((6 : Int), ())), ((4 : Int), ((7 : Int), ())), ((5 : Int), ((7 : Int), ())), ((6 : Int), ((7 : Int), ()))]).bind fun rq7 =>
  some (rq7.1, (())))
  (cond (decide (k_0 = (7 : Int)))
  ((zz39 big (6 : Int) [((0 : Int), ((1 : Int), ())), ((0 : Int), ((2 : Int), ())), ((1 : Int), ((3 : Int), ())), ((2 : Int), ((3 : Int), ())), ((2 : Int), ((4 : Int), ())), ((3 : Int), ((5 : Int), ())), ((4 : Int), ((5 : Int), ()))]).bind fun rq8 =>
  some (rq8.1, (())))
  (cond (decide (k_0 = (8 : Int)))
  ((zz39 big (6 : Int) [((0 : Int), ((1 : Int), ())), ((0 : Int), ((2 : Int), ())), ((1 : Int), ((3 : Int), ())), ((2 : Int), ((4 : Int), ())), ((3 : Int), ((5 : Int), ())), ((4 : Int), ((5 : Int), ()))]).bind fun rq9 =>
  some (rq9.1, (())))
  (cond (decide (k_0 = (9 : Int)))
  ((zz39 big (7 : Int) [((0 : Int), ((1 : Int), ())), ((0 : Int), ((2 : Int), ())), ((0 : Int), ((3 : Int), ())), ((1 : Int), ((4 : Int), ())), ((2 : Int), ((4 : Int), ())), ((3 : Int), ((5 : Int), ())), ((2 : Int), ((5 : Int), ())), ((4 : Int), ((6 : Int), ())), ((5 : Int), ((6 : Int), ()))]).bind fun rq10 =>
  some (rq10.1, (())))
  (cond (decide (k_0 = (10 : Int)))
  ((zz39 big (3 : Int) [((0 : Int), ((1 : Int), ())), ((1 : Int), ((2 : Int), ()))]).bind fun rq11 =>
  (zz39 big (3 : Int) [((0 : Int), ((1 : Int), ())), ((1 : Int), ((2 : Int), ()))]).bind fun rq12 =>
  (zz42 big rq11.1 rq12.1).bind fun rq13 =>
  some (rq13.1, (())))
  ((zz39 big (3 : Int) [((0 : Int), ((1 : Int), ())), ((1 : Int), ((2 : Int), ()))]).bind fun rq14 =>
  some (rq14.1, (())))))))))))))
def zz43 (k_0 : Int) : Z2 := zz43_s k_0
def S_zz43 : Sig := { a := (.pair I .unit), md := [0], mf := [], m := .unit, r := (.pair (.sl (.sl I)) .unit), rf := (.p (.o (.o .i)) .i), f := fun x => zz43 x.1 }
def A_zz43 : Cfg := mkCfg tab [(98, S_zz39), (121, S_zz42)] []
theorem run_zz43 (N : Nat) (x : (S_zz43).a.den) : runF (A_zz43) N Try.f94 S_zz43 x = zz43 x.1 := by kernel_rfl
theorem fn_zz43 : FnOk Try.prog 94 := ⟨_, Try.func94, by kernel_rfl, by kernel_rfl⟩
theorem good_zz43 : Gx.Good Try.prog 94 S_zz43 := good_of_run Try.func94 (of_decide_eq_true (by kernel_rfl)) fun x r h => ⟨A_zz43, big, mkCfg_ok tabOk, mkCfg_sigs (show SigsOk Try.prog [(98, S_zz39), (121, S_zz42)] from ⟨⟨fn_zz39, good_zz39⟩, ⟨fn_zz42, good_zz42⟩, trivial⟩), (run_zz43 big x).trans h⟩

/-! zz44 -/
def zz44_b2 (rec : Y4 → Int → Int → Z1) (k : Z1) (l0 : Y4) (n1 i5 : Int) : Z1 :=
  cond (decide (i5 < (l0.length : Int)))
  ((atI l0 i5).bind fun xq1 =>
  cond (decide (xq1 = n1))
  (some (true, (())))
  (rec l0 n1 (IntKind.i64.wrap (i5 + (1 : Int)))))
  (k)
def zz44_a2 : Z1 :=
  some (false, (()))
def zz44_s (L2 : Y4 → Int → Int → Z1) (l_0 : Y4) (n_1 : Int) : Z1 :=
  L2 l_0 n_1 (0 : Int)
def zz44_l2 (N : Nat) (k : Z1) : Nat → Y4 → Int → Int → Z1
  | 0, _, _, _ => none
  | m + 1, l0, n1, i5 => zz44_b2 (zz44_l2 N k m) k l0 n1 i5
def zz44_F2 (N : Nat) (l0 : Y4) (n1 i5 : Int) : Z1 := zz44_l2 N (zz44_a2) N l0 n1 i5
def zz44 (N : Nat) (l_0 : Y4) (n_1 : Int) : Z1 := zz44_s (zz44_F2 N) l_0 n_1
def S_zz44 : Sig := { a := (.pair (.sl I) (.pair I .unit)), md := [0, 0], mf := [], m := .unit, r := .bool, rf := .i, f := fun x => zz44 big x.1 x.2.1 }
def A_zz44 : Cfg := mkCfg tab [] [(4, [.as (.sl I) .i, .as I .i, .drop, .drop, .drop, .as I .i]), (13, [])]
noncomputable def zz44_R2 (N n : Nat) (K : Ex → St → Z1) (l0 : Y4) (n1 i5 : Int) : Z1 := iter ((A_zz44).shape 4) (run (A_zz44) N (codeAt Try.f69 [1, 0, 1, 0, 0])) n ([.val (.sl I) .i l0, .val I .i n1, .u, .u, .u, .val I .i i5] ++ List.replicate 12 .u) K
noncomputable abbrev zz44_z : Ex → St → Z1 := finish (A_zz44) S_zz44 Try.f69.results.toList
noncomputable abbrev zz44_X2 (kX : St → Z1) : Z1 := kX ([] ++ List.replicate 18 .u)
noncomputable abbrev zz44_E2 (kX : St → Z1) (kO : Nat → St → Z1) : Ex → St → Z1 := exK zz44_z 0 ((A_zz44).shape 13) kX kO
theorem zz44_step2 (N m : Nat) (kX : St → Z1) (kO : Nat → St → Z1) (l0 : Y4) (n1 i5 : Int) : zz44_R2 N (m + 1) (zz44_E2 kX kO) l0 n1 i5 = zz44_b2 (zz44_R2 N m (zz44_E2 kX kO)) (zz44_X2 kX) l0 n1 i5 := by kernel_rfl
theorem zz44_iter2 (N : Nat) (kX : St → Z1) (kO : Nat → St → Z1) : ∀ (n : Nat) (l0 : Y4) (n1 i5 : Int), zz44_R2 N n (zz44_E2 kX kO) l0 n1 i5 = zz44_l2 N (zz44_X2 kX) n l0 n1 i5
  | 0, _, _, _ => rfl
  | m + 1, l0, n1, i5 => by
    have hrec : zz44_R2 N m (zz44_E2 kX kO) = (zz44_l2 N (zz44_X2 kX) m) := (funext fun l0 => (funext fun n1 => (funext fun i5 => zz44_iter2 N kX kO m l0 n1 i5)))
    refine (zz44_step2 N m kX kO l0 n1 i5).trans ?_
    rw [hrec]
    rfl
noncomputable abbrev zz44_K2 (N : Nat) : Ex → St → Z1 := (blockK 0 (seqK ((A_zz44).shape 13) (gated ((A_zz44).shape 500006).isSome N (run (A_zz44) N (codeAt Try.f69 [1, 1]))) zz44_z))
noncomputable abbrev zz44_k2 (N : Nat) : St → Z1 := fun st' => run (A_zz44) N (codeAt Try.f69 [1, 1]) st' zz44_z
theorem zz44_after2 (N : Nat) : zz44_X2 (zz44_k2 N) = zz44_a2 := by kernel_rfl
theorem zz44_in2 (N : Nat) (l0 : Y4) (n1 i5 : Int) : zz44_R2 N N (zz44_K2 N) l0 n1 i5 = zz44_F2 N l0 n1 i5 :=
  have h : zz44_X2 (zz44_k2 N) = (zz44_a2) := zz44_after2 N
  ((iter_ex (fun st => by kernel_rfl) (fun st => by kernel_rfl)).trans (zz44_iter2 N (zz44_k2 N) (fun j st => (zz44_K2 N) (.exit j) st) N l0 n1 i5)).trans (congrArg (fun k => zz44_l2 N k N l0 n1 i5) h)
theorem run0_zz44 (N : Nat) (x : (S_zz44).a.den) : runF (A_zz44) N Try.f69 S_zz44 x = (zz44_s (zz44_R2 N N (zz44_K2 N)) x.1 x.2.1) := by kernel_rfl
theorem run_zz44 (N : Nat) (x : (S_zz44).a.den) : runF (A_zz44) N Try.f69 S_zz44 x = zz44 N x.1 x.2.1 := by
  refine (run0_zz44 N x).trans ?_
  rw [(funext fun l0 => (funext fun n1 => (funext fun i5 => zz44_in2 N l0 n1 i5)))]
  rfl
theorem fn_zz44 : FnOk Try.prog 69 := ⟨_, Try.func69, by kernel_rfl, by kernel_rfl⟩
theorem good_zz44 : Gx.Good Try.prog 69 S_zz44 := good_of_run Try.func69 (of_decide_eq_true (by kernel_rfl)) fun x r h => ⟨A_zz44, big, mkCfg_ok tabOk, mkCfg_sigs (show SigsOk Try.prog [] from trivial), (run_zz44 big x).trans h⟩

/-! zz45 -/
def zz45_s (p_0 : Y2) (x_1 y_2 : Int) : Z1 :=
  (atI p_0.1 y_2).bind fun xq1 =>
  (zz44 big xq1 x_1).bind fun rq2 =>
  some (rq2.1, (()))
def zz45 (p_0 : Y2) (x_1 y_2 : Int) : Z1 := zz45_s p_0 x_1 y_2
def S_zz45 : Sig := { a := (.pair (.pair (.sl (.sl I)) .unit) (.pair I (.pair I .unit))), md := [0, 0, 0], mf := [], m := .unit, r := .bool, rf := .i, f := fun x => zz45 x.1 x.2.1 x.2.2.1 }
def A_zz45 : Cfg := mkCfg tab [(69, S_zz44)] []
theorem run_zz45 (N : Nat) (x : (S_zz45).a.den) : runF (A_zz45) N Try.f78 S_zz45 x = zz45 x.1 x.2.1 x.2.2.1 := by kernel_rfl
theorem fn_zz45 : FnOk Try.prog 78 := ⟨_, Try.func78, by kernel_rfl, by kernel_rfl⟩
theorem good_zz45 : Gx.Good Try.prog 78 S_zz45 := good_of_run Try.func78 (of_decide_eq_true (by kernel_rfl)) fun x r h => ⟨A_zz45, big, mkCfg_ok tabOk, mkCfg_sigs (show SigsOk Try.prog [(69, S_zz44)] from ⟨⟨fn_zz44, good_zz44⟩, trivial⟩), (run_zz45 big x).trans h⟩

/-! zz46 -/
def zz46_s (p_0 : Y2) (x_1 y_2 : Int) : Z1 :=
  cond (decide (x_1 ≠ y_2))
  ((zz45 p_0 x_1 y_2).bind fun rq1 =>
  some (rq1.1, (())))
  (some (false, (())))
def zz46 (p_0 : Y2) (x_1 y_2 : Int) : Z1 := zz46_s p_0 x_1 y_2
def S_zz46 : Sig := { a := (.pair (.pair (.sl (.sl I)) .unit) (.pair I (.pair I .unit))), md := [0, 0, 0], mf := [], m := .unit, r := .bool, rf := .i, f := fun x => zz46 x.1 x.2.1 x.2.2.1 }
def A_zz46 : Cfg := mkCfg tab [(78, S_zz45)] []
theorem run_zz46 (N : Nat) (x : (S_zz46).a.den) : runF (A_zz46) N Try.f128 S_zz46 x = zz46 x.1 x.2.1 x.2.2.1 := by kernel_rfl
theorem fn_zz46 : FnOk Try.prog 128 := ⟨_, Try.func128, by kernel_rfl, by kernel_rfl⟩
theorem good_zz46 : Gx.Good Try.prog 128 S_zz46 := good_of_run Try.func128 (of_decide_eq_true (by kernel_rfl)) fun x r h => ⟨A_zz46, big, mkCfg_ok tabOk, mkCfg_sigs (show SigsOk Try.prog [(78, S_zz45)] from ⟨⟨fn_zz45, good_zz45⟩, trivial⟩), (run_zz46 big x).trans h⟩

/-! zz47 -/
def zz47_b4 (rec : Int → Int → Y2 → Int → Z1) (k : Z1) (x1 y2 : Int) (p3 : Y2) (z7 : Int) : Z1 :=
  cond (decide (z7 < (p3.1.length : Int)))
  ((zz46 p3 x1 z7).bind fun rq2 =>
  cond rq2.1
  ((zz46 p3 z7 y2).bind fun rq3 =>
  cond rq3.1
  (some (false, (())))
  (rec x1 y2 p3 (IntKind.i64.wrap (z7 + (1 : Int)))))
  (rec x1 y2 p3 (IntKind.i64.wrap (z7 + (1 : Int)))))
  (k)
def zz47_a4 : Z1 :=
  some (true, (()))
def zz47_s (L4 : Int → Int → Y2 → Int → Z1) (p_0 : Y2) (x_1 y_2 : Int) : Z1 :=
  (zz46 p_0 x_1 y_2).bind fun rq1 =>
  cond (!rq1.1)
  (some (false, (())))
  (L4 x_1 y_2 p_0 (0 : Int))
def zz47_l4 (N : Nat) (k : Z1) : Nat → Int → Int → Y2 → Int → Z1
  | 0, _, _, _, _ => none
  | m + 1, x1, y2, p3, z7 => zz47_b4 (zz47_l4 N k m) k x1 y2 p3 z7
def zz47_F4 (N : Nat) (x1 y2 : Int) (p3 : Y2) (z7 : Int) : Z1 := zz47_l4 N (zz47_a4) N x1 y2 p3 z7
def zz47 (N : Nat) (p_0 : Y2) (x_1 y_2 : Int) : Z1 := zz47_s (zz47_F4 N) p_0 x_1 y_2
def S_zz47 : Sig := { a := (.pair (.pair (.sl (.sl I)) .unit) (.pair I (.pair I .unit))), md := [0, 0, 0], mf := [], m := .unit, r := .bool, rf := .i, f := fun x => zz47 big x.1 x.2.1 x.2.2.1 }
def A_zz47 : Cfg := mkCfg tab [(128, S_zz46)] [(8, [.drop, .as I .i, .as I .i, .as (.ptr (.pair (.sl (.sl I)) .unit)) (.o .i), .drop, .drop, .drop, .as I .i]), (17, [])]
noncomputable def zz47_R4 (N n : Nat) (K : Ex → St → Z1) (x1 y2 : Int) (p3 : Y2) (z7 : Int) : Z1 := iter ((A_zz47).shape 8) (run (A_zz47) N (codeAt Try.f122 [1, 1, 0, 1, 0, 0])) n ([.u, .val I .i x1, .val I .i y2, .val (.ptr (.pair (.sl (.sl I)) .unit)) (.o .i) p3, .u, .u, .u, .val I .i z7] ++ List.replicate 22 .u) K
noncomputable abbrev zz47_z : Ex → St → Z1 := finish (A_zz47) S_zz47 Try.f122.results.toList
noncomputable abbrev zz47_X4 (kX : St → Z1) : Z1 := kX ([] ++ List.replicate 30 .u)
noncomputable abbrev zz47_E4 (kX : St → Z1) (kO : Nat → St → Z1) : Ex → St → Z1 := exK zz47_z 0 ((A_zz47).shape 17) kX kO
theorem zz47_step4 (N m : Nat) (kX : St → Z1) (kO : Nat → St → Z1) (x1 y2 : Int) (p3 : Y2) (z7 : Int) : zz47_R4 N (m + 1) (zz47_E4 kX kO) x1 y2 p3 z7 = zz47_b4 (zz47_R4 N m (zz47_E4 kX kO)) (zz47_X4 kX) x1 y2 p3 z7 := by kernel_rfl
theorem zz47_iter4 (N : Nat) (kX : St → Z1) (kO : Nat → St → Z1) : ∀ (n : Nat) (x1 y2 : Int) (p3 : Y2) (z7 : Int), zz47_R4 N n (zz47_E4 kX kO) x1 y2 p3 z7 = zz47_l4 N (zz47_X4 kX) n x1 y2 p3 z7
  | 0, _, _, _, _ => rfl
  | m + 1, x1, y2, p3, z7 => by
    have hrec : zz47_R4 N m (zz47_E4 kX kO) = (zz47_l4 N (zz47_X4 kX) m) := (funext fun x1 => (funext fun y2 => (funext fun p3 => (funext fun z7 => zz47_iter4 N kX kO m x1 y2 p3 z7))))
    refine (zz47_step4 N m kX kO x1 y2 p3 z7).trans ?_
    rw [hrec]
    rfl
noncomputable abbrev zz47_K4 (N : Nat) : Ex → St → Z1 := (blockK 0 (seqK ((A_zz47).shape 17) (gated ((A_zz47).shape 500008).isSome N (run (A_zz47) N (codeAt Try.f122 [1, 1, 1]))) zz47_z))
noncomputable abbrev zz47_k4 (N : Nat) : St → Z1 := fun st' => run (A_zz47) N (codeAt Try.f122 [1, 1, 1]) st' zz47_z
theorem zz47_after4 (N : Nat) : zz47_X4 (zz47_k4 N) = zz47_a4 := by kernel_rfl
theorem zz47_in4 (N : Nat) (x1 y2 : Int) (p3 : Y2) (z7 : Int) : zz47_R4 N N (zz47_K4 N) x1 y2 p3 z7 = zz47_F4 N x1 y2 p3 z7 :=
  have h : zz47_X4 (zz47_k4 N) = (zz47_a4) := zz47_after4 N
  ((iter_ex (fun st => by kernel_rfl) (fun st => by kernel_rfl)).trans (zz47_iter4 N (zz47_k4 N) (fun j st => (zz47_K4 N) (.exit j) st) N x1 y2 p3 z7)).trans (congrArg (fun k => zz47_l4 N k N x1 y2 p3 z7) h)
theorem run0_zz47 (N : Nat) (x : (S_zz47).a.den) : runF (A_zz47) N Try.f122 S_zz47 x = (zz47_s (zz47_R4 N N (zz47_K4 N)) x.1 x.2.1 x.2.2.1) := by kernel_rfl
theorem run_zz47 (N : Nat) (x : (S_zz47).a.den) : runF (A_zz47) N Try.f122 S_zz47 x = zz47 N x.1 x.2.1 x.2.2.1 := by
  refine (run0_zz47 N x).trans ?_
  rw [(funext fun x1 => (funext fun y2 => (funext fun p3 => (funext fun z7 => zz47_in4 N x1 y2 p3 z7))))]
  rfl
theorem fn_zz47 : FnOk Try.prog 122 := ⟨_, Try.func122, by kernel_rfl, by kernel_rfl⟩
theorem good_zz47 : Gx.Good Try.prog 122 S_zz47 := good_of_run Try.func122 (of_decide_eq_true (by kernel_rfl)) fun x r h => ⟨A_zz47, big, mkCfg_ok tabOk, mkCfg_sigs (show SigsOk Try.prog [(128, S_zz46)] from ⟨⟨fn_zz46, good_zz46⟩, trivial⟩), (run_zz47 big x).trans h⟩

/-! zz48 -/
def zz48_b6 (rec : Y2 → Z12 → Int → Int → Z13) (k : Y2 → Z12 → Int → Z13) (p1 : Y2) (out3 : Z12) (x4 y5 : Int) : Z13 :=
  cond (decide (y5 < (p1.1.length : Int)))
  ((zz47 big p1 x4 y5).bind fun rq1 =>
  cond rq1.1
  ((appI out3 [(x4, (y5, ()))]).bind fun xq2 =>
  rec p1 xq2 x4 (IntKind.i64.wrap (y5 + (1 : Int))))
  (rec p1 out3 x4 (IntKind.i64.wrap (y5 + (1 : Int)))))
  (k p1 out3 x4)
def zz48_a6 (rec : Y2 → Z12 → Int → Z13) (p1 : Y2) (out3 : Z12) (x4 : Int) : Z13 :=
  rec p1 out3 (IntKind.i64.wrap (x4 + (1 : Int)))
def zz48_b3 (L6 : Y2 → Z12 → Int → Int → Z13) (k : Z12 → Z13) (p1 : Y2) (out3 : Z12) (x4 : Int) : Z13 :=
  cond (decide (x4 < (p1.1.length : Int)))
  (L6 p1 out3 x4 (0 : Int))
  (k out3)
def zz48_a3 (out3 : Z12) : Z13 :=
  some (out3, (()))
def zz48_s (L3 : Y2 → Z12 → Int → Z13) (p_0 : Y2) : Z13 :=
  L3 p_0 [] (0 : Int)
def zz48_l6 (N : Nat) (k : Y2 → Z12 → Int → Z13) : Nat → Y2 → Z12 → Int → Int → Z13
  | 0, _, _, _, _ => none
  | m + 1, p1, out3, x4, y5 => zz48_b6 (zz48_l6 N k m) k p1 out3 x4 y5
def zz48_F6 (N : Nat) (rec : Y2 → Z12 → Int → Z13) (k : Z12 → Z13) (p1 : Y2) (out3 : Z12) (x4 y5 : Int) : Z13 := zz48_l6 N (zz48_a6 rec) N p1 out3 x4 y5
def zz48_l3 (N : Nat) (k : Z12 → Z13) : Nat → Y2 → Z12 → Int → Z13
  | 0, _, _, _ => none
  | m + 1, p1, out3, x4 => zz48_b3 (zz48_F6 N (zz48_l3 N k m) k) k p1 out3 x4
def zz48_F3 (N : Nat) (p1 : Y2) (out3 : Z12) (x4 : Int) : Z13 := zz48_l3 N (zz48_a3) N p1 out3 x4
def zz48 (N : Nat) (p_0 : Y2) : Z13 := zz48_s (zz48_F3 N) p_0
def S_zz48 : Sig := { a := (.pair (.pair (.sl (.sl I)) .unit) .unit), md := [0], mf := [], m := .unit, r := (.sl (.pair I (.pair I .unit))), rf := (.o .i), f := fun x => zz48 big x.1 }
def A_zz48 : Cfg := mkCfg tab [(122, S_zz47)] [(6, [.drop, .as (.ptr (.pair (.sl (.sl I)) .unit)) (.o .i), .drop, .as (.sl (.pair I (.pair I .unit))) (.o .i), .as I .i]), (12, [.drop, .as (.ptr (.pair (.sl (.sl I)) .unit)) (.o .i), .drop, .as (.sl (.pair I (.pair I .unit))) (.o .i), .as I .i, .as I .i]), (21, [.drop, .drop, .drop, .as (.sl (.pair I (.pair I .unit))) (.o .i)]), (9, [.drop, .as (.ptr (.pair (.sl (.sl I)) .unit)) (.o .i), .drop, .as (.sl (.pair I (.pair I .unit))) (.o .i), .as I .i])]
noncomputable def zz48_R3 (N n : Nat) (K : Ex → St → Z13) (p1 : Y2) (out3 : Z12) (x4 : Int) : Z13 := iter ((A_zz48).shape 6) (run (A_zz48) N (codeAt Try.f97 [1, 1, 0, 1, 0, 0])) n ([.u, .val (.ptr (.pair (.sl (.sl I)) .unit)) (.o .i) p1, .u, .val (.sl (.pair I (.pair I .unit))) (.o .i) out3, .val I .i x4] ++ List.replicate 27 .u) K
noncomputable def zz48_R6 (N n : Nat) (K : Ex → St → Z13) (p1 : Y2) (out3 : Z12) (x4 y5 : Int) : Z13 := iter ((A_zz48).shape 12) (run (A_zz48) N (codeAt Try.f97 [1, 1, 0, 1, 0, 0, 1, 0, 0, 1, 0, 0])) n ([.u, .val (.ptr (.pair (.sl (.sl I)) .unit)) (.o .i) p1, .u, .val (.sl (.pair I (.pair I .unit))) (.o .i) out3, .val I .i x4, .val I .i y5] ++ List.replicate 26 .u) K
noncomputable abbrev zz48_z : Ex → St → Z13 := finish (A_zz48) S_zz48 Try.f97.results.toList
noncomputable abbrev zz48_X3 (kX : St → Z13) : Z12 → Z13 := fun (out3 : Z12) => kX ([.u, .u, .u, .val (.sl (.pair I (.pair I .unit))) (.o .i) out3] ++ List.replicate 28 .u)
noncomputable abbrev zz48_E3 (kX : St → Z13) (kO : Nat → St → Z13) : Ex → St → Z13 := exK zz48_z 0 ((A_zz48).shape 21) kX kO
noncomputable abbrev zz48_X6 (kX : St → Z13) : Y2 → Z12 → Int → Z13 := fun (p1 : Y2) (out3 : Z12) (x4 : Int) => kX ([.u, .val (.ptr (.pair (.sl (.sl I)) .unit)) (.o .i) p1, .u, .val (.sl (.pair I (.pair I .unit))) (.o .i) out3, .val I .i x4] ++ List.replicate 27 .u)
noncomputable abbrev zz48_E6 (kX : St → Z13) (kO : Nat → St → Z13) : Ex → St → Z13 := exK zz48_z 2 ((A_zz48).shape 9) kX kO
theorem zz48_step6 (N m : Nat) (kX : St → Z13) (kO : Nat → St → Z13) (p1 : Y2) (out3 : Z12) (x4 y5 : Int) : zz48_R6 N (m + 1) (zz48_E6 kX kO) p1 out3 x4 y5 = zz48_b6 (zz48_R6 N m (zz48_E6 kX kO)) (zz48_X6 kX) p1 out3 x4 y5 := by kernel_rfl
theorem zz48_iter6 (N : Nat) (kX : St → Z13) (kO : Nat → St → Z13) : ∀ (n : Nat) (p1 : Y2) (out3 : Z12) (x4 y5 : Int), zz48_R6 N n (zz48_E6 kX kO) p1 out3 x4 y5 = zz48_l6 N (zz48_X6 kX) n p1 out3 x4 y5
  | 0, _, _, _, _ => rfl
  | m + 1, p1, out3, x4, y5 => by
    have hrec : zz48_R6 N m (zz48_E6 kX kO) = (zz48_l6 N (zz48_X6 kX) m) := (funext fun p1 => (funext fun out3 => (funext fun x4 => (funext fun y5 => zz48_iter6 N kX kO m p1 out3 x4 y5))))
    refine (zz48_step6 N m kX kO p1 out3 x4 y5).trans ?_
    rw [hrec]
    rfl
noncomputable abbrev zz48_K6 (N m : Nat) (kX : St → Z13) (kO : Nat → St → Z13) : Ex → St → Z13 := (blockK 2 (blockK 1 (seqK ((A_zz48).shape 9) (gated ((A_zz48).shape 500004).isSome N (run (A_zz48) N (codeAt Try.f97 [1, 1, 0, 1, 0, 0, 1, 1]))) (iterK ((A_zz48).shape 6) (run (A_zz48) N (codeAt Try.f97 [1, 1, 0, 1, 0, 0])) m (zz48_E3 kX kO)))))
noncomputable abbrev zz48_k6 (N m : Nat) (kX : St → Z13) (kO : Nat → St → Z13) : St → Z13 := fun st' => run (A_zz48) N (codeAt Try.f97 [1, 1, 0, 1, 0, 0, 1, 1]) st' (iterK ((A_zz48).shape 6) (run (A_zz48) N (codeAt Try.f97 [1, 1, 0, 1, 0, 0])) m (zz48_E3 kX kO))
theorem zz48_after6 (N m : Nat) (kX : St → Z13) (kO : Nat → St → Z13) (p1 : Y2) (out3 : Z12) (x4 : Int) : zz48_X6 (zz48_k6 N m kX kO) p1 out3 x4 = zz48_a6 (zz48_R3 N m (zz48_E3 kX kO)) p1 out3 x4 := by kernel_rfl
theorem zz48_in6 (N m : Nat) (kX : St → Z13) (kO : Nat → St → Z13) (recF : Y2 → Z12 → Int → Z13) (hrec : zz48_R3 N m (zz48_E3 kX kO) = recF) (p1 : Y2) (out3 : Z12) (x4 y5 : Int) : zz48_R6 N N (zz48_K6 N m kX kO) p1 out3 x4 y5 = zz48_F6 N recF (zz48_X3 kX) p1 out3 x4 y5 :=
  have h : zz48_X6 (zz48_k6 N m kX kO) = (zz48_a6 recF) := (funext fun p1 => (funext fun out3 => (funext fun x4 => (zz48_after6 N m kX kO p1 out3 x4).trans (by rw [hrec]))))
  ((iter_ex (fun st => by kernel_rfl) (fun st => by kernel_rfl)).trans (zz48_iter6 N (zz48_k6 N m kX kO) (fun j st => (zz48_K6 N m kX kO) (.exit j) st) N p1 out3 x4 y5)).trans (congrArg (fun k => zz48_l6 N k N p1 out3 x4 y5) h)
theorem zz48_step3 (N m : Nat) (kX : St → Z13) (kO : Nat → St → Z13) (p1 : Y2) (out3 : Z12) (x4 : Int) : zz48_R3 N (m + 1) (zz48_E3 kX kO) p1 out3 x4 = zz48_b3 (zz48_R6 N N (zz48_K6 N m kX kO)) (zz48_X3 kX) p1 out3 x4 := by kernel_rfl
theorem zz48_iter3 (N : Nat) (kX : St → Z13) (kO : Nat → St → Z13) : ∀ (n : Nat) (p1 : Y2) (out3 : Z12) (x4 : Int), zz48_R3 N n (zz48_E3 kX kO) p1 out3 x4 = zz48_l3 N (zz48_X3 kX) n p1 out3 x4
  | 0, _, _, _ => rfl
  | m + 1, p1, out3, x4 => by
    have hrec : zz48_R3 N m (zz48_E3 kX kO) = (zz48_l3 N (zz48_X3 kX) m) := (funext fun p1 => (funext fun out3 => (funext fun x4 => zz48_iter3 N kX kO m p1 out3 x4)))
    refine (zz48_step3 N m kX kO p1 out3 x4).trans ?_
    rw [(funext fun p1 => (funext fun out3 => (funext fun x4 => (funext fun y5 => zz48_in6 N m kX kO (zz48_l3 N (zz48_X3 kX) m) hrec p1 out3 x4 y5))))]
    rfl
noncomputable abbrev zz48_K3 (N : Nat) : Ex → St → Z13 := (blockK 0 (seqK ((A_zz48).shape 21) (gated ((A_zz48).shape 500010).isSome N (run (A_zz48) N (codeAt Try.f97 [1, 1, 1]))) zz48_z))
noncomputable abbrev zz48_k3 (N : Nat) : St → Z13 := fun st' => run (A_zz48) N (codeAt Try.f97 [1, 1, 1]) st' zz48_z
theorem zz48_after3 (N : Nat) (out3 : Z12) : zz48_X3 (zz48_k3 N) out3 = zz48_a3 out3 := by kernel_rfl
theorem zz48_in3 (N : Nat) (p1 : Y2) (out3 : Z12) (x4 : Int) : zz48_R3 N N (zz48_K3 N) p1 out3 x4 = zz48_F3 N p1 out3 x4 :=
  have h : zz48_X3 (zz48_k3 N) = (zz48_a3) := (funext fun out3 => zz48_after3 N out3)
  ((iter_ex (fun st => by kernel_rfl) (fun st => by kernel_rfl)).trans (zz48_iter3 N (zz48_k3 N) (fun j st => (zz48_K3 N) (.exit j) st) N p1 out3 x4)).trans (congrArg (fun k => zz48_l3 N k N p1 out3 x4) h)
theorem run0_zz48 (N : Nat) (x : (S_zz48).a.den) : runF (A_zz48) N Try.f97 S_zz48 x = (zz48_s (zz48_R3 N N (zz48_K3 N)) x.1) := by kernel_rfl
theorem run_zz48 (N : Nat) (x : (S_zz48).a.den) : runF (A_zz48) N Try.f97 S_zz48 x = zz48 N x.1 := by
  refine (run0_zz48 N x).trans ?_
  rw [(funext fun p1 => (funext fun out3 => (funext fun x4 => zz48_in3 N p1 out3 x4)))]
  rfl
theorem fn_zz48 : FnOk Try.prog 97 := ⟨_, Try.func97, by kernel_rfl, by kernel_rfl⟩
theorem good_zz48 : Gx.Good Try.prog 97 S_zz48 := good_of_run Try.func97 (of_decide_eq_true (by kernel_rfl)) fun x r h => ⟨A_zz48, big, mkCfg_ok tabOk, mkCfg_sigs (show SigsOk Try.prog [(122, S_zz47)] from ⟨⟨fn_zz47, good_zz47⟩, trivial⟩), (run_zz48 big x).trans h⟩

/-! zz49 -/
def zz49_b9 (rec : Z10 → Y2 → Y2 → Int → Y4 → Z12 → Int → Z3) (k : Z10 → Y2 → Y2 → Int → Z12 → Z3) (c0 : Z10) (t2 p3 : Y2) (n4 : Int) (names5 : Y4) (pairs6 : Z12) (i7 : Int) : Z3 :=
  cond (decide (i7 < (pairs6.length : Int)))
  ((atI pairs6 i7).bind fun _ =>
  (pairs6[i7.toNat]?).bind fun xq9 =>
  (pairs6[i7.toNat]?).bind fun xq10 =>
  (atI names5 xq10.1).bind fun _ =>
  (names5[xq10.1.toNat]?).bind fun xq11 =>
  (atI pairs6 i7).bind fun _ =>
  (pairs6[i7.toNat]?).bind fun xq12 =>
  (pairs6[i7.toNat]?).bind fun xq13 =>
  (atI names5 xq13.2.1).bind fun _ =>
  (names5[xq13.2.1.toNat]?).bind fun xq14 =>
  (atI pairs6 i7).bind fun _ =>
  (pairs6[i7.toNat]?).bind fun xq15 =>
  rec c0 t2 p3 n4 names5 (pairs6.set i7.toNat (xq11, (xq14, ()))) (IntKind.i64.wrap (i7 + (1 : Int))))
  (k c0 t2 p3 n4 pairs6)
def zz49_a9 (c0 : Z10) (t2 p3 : Y2) (n4 : Int) (pairs6 : Z12) : Z3 :=
  (zz39 big n4 pairs6).bind fun rq16 =>
  some (rq16.1, (c0, ()))
def zz49_s (L9 : Z10 → Y2 → Y2 → Int → Y4 → Z12 → Int → Z3) (c_0 : Z10) : Z3 :=
  (zz4 c_0 (10 : Int)).bind fun rq1 =>
  cond rq1.1
  ((zz41 big rq1.2.1).bind fun rq2 =>
  some (rq2.1, (rq2.2.1, ())))
  ((zz2 rq1.2.1 (12 : Int)).bind fun rq3 =>
  (zz43 rq3.1).bind fun rq4 =>
  (zz36 big rq3.2.1 (rq4.1.1.length : Int)).bind fun rq5 =>
  (zz38 big rq5.1 (rq4.1.1.length : Int)).bind fun rq6 =>
  cond rq6.1
  ((zz4 rq5.2.1 (2 : Int)).bind fun rq7 =>
  cond rq7.1
  ((zz48 big rq4.1).bind fun rq8 =>
  L9 rq7.2.1 (([] : Y3), ()) rq4.1 (rq4.1.1.length : Int) rq5.1 rq8.1 (0 : Int))
  (some (rq4.1, (rq7.2.1, ()))))
  (some (rq4.1, (rq5.2.1, ()))))
def zz49_l9 (N : Nat) (k : Z10 → Y2 → Y2 → Int → Z12 → Z3) : Nat → Z10 → Y2 → Y2 → Int → Y4 → Z12 → Int → Z3
  | 0, _, _, _, _, _, _, _ => none
  | m + 1, c0, t2, p3, n4, names5, pairs6, i7 => zz49_b9 (zz49_l9 N k m) k c0 t2 p3 n4 names5 pairs6 i7
def zz49_F9 (N : Nat) (c0 : Z10) (t2 p3 : Y2) (n4 : Int) (names5 : Y4) (pairs6 : Z12) (i7 : Int) : Z3 := zz49_l9 N (zz49_a9) N c0 t2 p3 n4 names5 pairs6 i7
def zz49 (N : Nat) (c_0 : Z10) : Z3 := zz49_s (zz49_F9 N) c_0
def S_zz49 : Sig := { a := (.pair (.ptr (.pair (.sl (.int .u8)) (.pair I (.pair (.int .u64) .unit)))) .unit), md := [1], mf := [(.o .i)], m := (.pair (.ptr (.pair (.sl (.int .u8)) (.pair I (.pair (.int .u64) .unit)))) .unit), r := (.pair (.sl (.sl I)) .unit), rf := .i, f := fun x => zz49 big x.1 }
def A_zz49 : Cfg := mkCfg tab [(50, S_zz4), (93, S_zz41), (39, S_zz2), (94, S_zz43), (95, S_zz36), (96, S_zz38), (97, S_zz48), (98, S_zz39)] [(18, [.as (.ptr (.pair (.sl (.int .u8)) (.pair I (.pair (.int .u64) .unit)))) (.o .i), .drop, .as (.ptr (.pair (.sl (.sl I)) .unit)) (.o (.p (.o (.o .i)) .i)), .as (.ptr (.pair (.sl (.sl I)) .unit)) (.o (.p (.o (.o .i)) .i)), .as I .i, .as (.sl I) (.o .i), .as (.sl (.pair I (.pair I .unit))) (.o .i), .as I .i]), (25, [.as (.ptr (.pair (.sl (.int .u8)) (.pair I (.pair (.int .u64) .unit)))) (.o .i), .drop, .as (.ptr (.pair (.sl (.sl I)) .unit)) (.o (.p (.o (.o .i)) .i)), .as (.ptr (.pair (.sl (.sl I)) .unit)) (.o (.p (.o (.o .i)) .i)), .as I .i, .drop, .as (.sl (.pair I (.pair I .unit))) (.o .i)])]
noncomputable def zz49_R9 (N n : Nat) (K : Ex → St → Z3) (c0 : Z10) (t2 p3 : Y2) (n4 : Int) (names5 : Y4) (pairs6 : Z12) (i7 : Int) : Z3 := iter ((A_zz49).shape 18) (run (A_zz49) N (codeAt Try.f48 [1, 1, 1, 1, 0, 1, 1, 0, 1, 0, 1, 0, 0])) n ([.val (.ptr (.pair (.sl (.int .u8)) (.pair I (.pair (.int .u64) .unit)))) (.o .i) c0, .u, .val (.ptr (.pair (.sl (.sl I)) .unit)) (.o (.p (.o (.o .i)) .i)) t2, .val (.ptr (.pair (.sl (.sl I)) .unit)) (.o (.p (.o (.o .i)) .i)) p3, .val I .i n4, .val (.sl I) (.o .i) names5, .val (.sl (.pair I (.pair I .unit))) (.o .i) pairs6, .val I .i i7] ++ List.replicate 52 .u) K
noncomputable abbrev zz49_z : Ex → St → Z3 := finish (A_zz49) S_zz49 Try.f48.results.toList
noncomputable abbrev zz49_X9 (kX : St → Z3) : Z10 → Y2 → Y2 → Int → Z12 → Z3 := fun (c0 : Z10) (t2 p3 : Y2) (n4 : Int) (pairs6 : Z12) => kX ([.val (.ptr (.pair (.sl (.int .u8)) (.pair I (.pair (.int .u64) .unit)))) (.o .i) c0, .u, .val (.ptr (.pair (.sl (.sl I)) .unit)) (.o (.p (.o (.o .i)) .i)) t2, .val (.ptr (.pair (.sl (.sl I)) .unit)) (.o (.p (.o (.o .i)) .i)) p3, .val I .i n4, .u, .val (.sl (.pair I (.pair I .unit))) (.o .i) pairs6] ++ List.replicate 53 .u)
noncomputable abbrev zz49_E9 (kX : St → Z3) (kO : Nat → St → Z3) : Ex → St → Z3 := exK zz49_z 0 ((A_zz49).shape 25) kX kO
theorem zz49_step9 (N m : Nat) (kX : St → Z3) (kO : Nat → St → Z3) (c0 : Z10) (t2 p3 : Y2) (n4 : Int) (names5 : Y4) (pairs6 : Z12) (i7 : Int) : zz49_R9 N (m + 1) (zz49_E9 kX kO) c0 t2 p3 n4 names5 pairs6 i7 = zz49_b9 (zz49_R9 N m (zz49_E9 kX kO)) (zz49_X9 kX) c0 t2 p3 n4 names5 pairs6 i7 := by kernel_rfl
theorem zz49_iter9 (N : Nat) (kX : St → Z3) (kO : Nat → St → Z3) : ∀ (n : Nat) (c0 : Z10) (t2 p3 : Y2) (n4 : Int) (names5 : Y4) (pairs6 : Z12) (i7 : Int), zz49_R9 N n (zz49_E9 kX kO) c0 t2 p3 n4 names5 pairs6 i7 = zz49_l9 N (zz49_X9 kX) n c0 t2 p3 n4 names5 pairs6 i7
  | 0, _, _, _, _, _, _, _ => rfl
  | m + 1, c0, t2, p3, n4, names5, pairs6, i7 => by
    have hrec : zz49_R9 N m (zz49_E9 kX kO) = (zz49_l9 N (zz49_X9 kX) m) := (funext fun c0 => (funext fun t2 => (funext fun p3 => (funext fun n4 => (funext fun names5 => (funext fun pairs6 => (funext fun i7 => zz49_iter9 N kX kO m c0 t2 p3 n4 names5 pairs6 i7)))))))
    refine (zz49_step9 N m kX kO c0 t2 p3 n4 names5 pairs6 i7).trans ?_
    rw [hrec]
    rfl
noncomputable abbrev zz49_K9 (N : Nat) : Ex → St → Z3 := (blockK 0 (seqK ((A_zz49).shape 25) (gated ((A_zz49).shape 500012).isSome N (run (A_zz49) N (codeAt Try.f48 [1, 1, 1, 1, 0, 1, 1, 0, 1, 1]))) (seqK ((A_zz49).shape 27) (gated ((A_zz49).shape 500013).isSome N (run (A_zz49) N (codeAt Try.f48 [1, 1, 1, 1, 1]))) zz49_z)))
noncomputable abbrev zz49_k9 (N : Nat) : St → Z3 := fun st' => run (A_zz49) N (codeAt Try.f48 [1, 1, 1, 1, 0, 1, 1, 0, 1, 1]) st' (seqK ((A_zz49).shape 27) (gated ((A_zz49).shape 500013).isSome N (run (A_zz49) N (codeAt Try.f48 [1, 1, 1, 1, 1]))) zz49_z)
theorem zz49_after9 (N : Nat) (c0 : Z10) (t2 p3 : Y2) (n4 : Int) (pairs6 : Z12) : zz49_X9 (zz49_k9 N) c0 t2 p3 n4 pairs6 = zz49_a9 c0 t2 p3 n4 pairs6 := by kernel_rfl
theorem zz49_in9 (N : Nat) (c0 : Z10) (t2 p3 : Y2) (n4 : Int) (names5 : Y4) (pairs6 : Z12) (i7 : Int) : zz49_R9 N N (zz49_K9 N) c0 t2 p3 n4 names5 pairs6 i7 = zz49_F9 N c0 t2 p3 n4 names5 pairs6 i7 :=
  have h : zz49_X9 (zz49_k9 N) = (zz49_a9) := (funext fun c0 => (funext fun t2 => (funext fun p3 => (funext fun n4 => (funext fun pairs6 => zz49_after9 N c0 t2 p3 n4 pairs6)))))
  ((iter_ex (fun st => by kernel_rfl) (fun st => by kernel_rfl)).trans (zz49_iter9 N (zz49_k9 N) (fun j st => (zz49_K9 N) (.exit j) st) N c0 t2 p3 n4 names5 pairs6 i7)).trans (congrArg (fun k => zz49_l9 N k N c0 t2 p3 n4 names5 pairs6 i7) h)
theorem run0_zz49 (N : Nat) (x : (S_zz49).a.den) : runF (A_zz49) N Try.f48 S_zz49 x = (zz49_s (zz49_R9 N N (zz49_K9 N)) x.1) := by kernel_rfl
theorem run_zz49 (N : Nat) (x : (S_zz49).a.den) : runF (A_zz49) N Try.f48 S_zz49 x = zz49 N x.1 := by
  refine (run0_zz49 N x).trans ?_
  rw [(funext fun c0 => (funext fun t2 => (funext fun p3 => (funext fun n4 => (funext fun names5 => (funext fun pairs6 => (funext fun i7 => zz49_in9 N c0 t2 p3 n4 names5 pairs6 i7)))))))]
  rfl
theorem fn_zz49 : FnOk Try.prog 48 := ⟨_, Try.func48, by kernel_rfl, by kernel_rfl⟩
theorem good_zz49 : Gx.Good Try.prog 48 S_zz49 := good_of_run Try.func48 (of_decide_eq_true (by kernel_rfl)) fun x r h => ⟨A_zz49, big, mkCfg_ok tabOk, mkCfg_sigs (show SigsOk Try.prog [(50, S_zz4), (93, S_zz41), (39, S_zz2), (94, S_zz43), (95, S_zz36), (96, S_zz38), (97, S_zz48), (98, S_zz39)] from ⟨⟨fn_zz4, good_zz4⟩, ⟨fn_zz41, good_zz41⟩, ⟨fn_zz2, good_zz2⟩, ⟨fn_zz43, good_zz43⟩, ⟨fn_zz36, good_zz36⟩, ⟨fn_zz38, good_zz38⟩, ⟨fn_zz48, good_zz48⟩, ⟨fn_zz39, good_zz39⟩, trivial⟩), (run_zz49 big x).trans h⟩

/-! zz50 -/
def zz50_s (c_0 : Z10) (p_1 : Y2) : Option (Int × (Z10 × Unit)) :=
  cond (decide ((p_1.1.length : Int) = (0 : Int)))
  ((zz3 c_0 [(-1 : Int), (p_1.1.length : Int)]).bind fun rq1 =>
  some (rq1.1, (rq1.2.1, ())))
  ((zz4 c_0 (24 : Int)).bind fun rq2 =>
  cond rq2.1
  ((zz3 rq2.2.1 [(-1 : Int), (p_1.1.length : Int)]).bind fun rq3 =>
  some (rq3.1, (rq3.2.1, ())))
  ((zz2 rq2.2.1 (p_1.1.length : Int)).bind fun rq4 =>
  some (rq4.1, (rq4.2.1, ()))))
def zz50 (c_0 : Z10) (p_1 : Y2) : Option (Int × (Z10 × Unit)) := zz50_s c_0 p_1
def S_zz50 : Sig := { a := (.pair (.ptr (.pair (.sl (.int .u8)) (.pair I (.pair (.int .u64) .unit)))) (.pair (.pair (.sl (.sl I)) .unit) .unit)), md := [1, 0], mf := [(.o .i)], m := (.pair (.ptr (.pair (.sl (.int .u8)) (.pair I (.pair (.int .u64) .unit)))) .unit), r := I, rf := .i, f := fun x => zz50 x.1 x.2.1 }
def A_zz50 : Cfg := mkCfg tab [(87, S_zz3), (50, S_zz4), (39, S_zz2)] []
theorem run_zz50 (N : Nat) (x : (S_zz50).a.den) : runF (A_zz50) N Try.f49 S_zz50 x = zz50 x.1 x.2.1 := by kernel_rfl
theorem fn_zz50 : FnOk Try.prog 49 := ⟨_, Try.func49, by kernel_rfl, by kernel_rfl⟩
theorem good_zz50 : Gx.Good Try.prog 49 S_zz50 := good_of_run Try.func49 (of_decide_eq_true (by kernel_rfl)) fun x r h => ⟨A_zz50, big, mkCfg_ok tabOk, mkCfg_sigs (show SigsOk Try.prog [(87, S_zz3), (50, S_zz4), (39, S_zz2)] from ⟨⟨fn_zz3, good_zz3⟩, ⟨fn_zz4, good_zz4⟩, ⟨fn_zz2, good_zz2⟩, trivial⟩), (run_zz50 big x).trans h⟩

/-! zz51 -/
def zz51_b5 (rec : Y2 → Z10 → Y2 → Y4 → Int → Z14) (k : Y2 → Z10 → Y2 → Y4 → Z14) (t2 : Y2) (c5 : Z10) (p6 : Y2) (elements7 : Y4) (i8 : Int) : Z14 :=
  cond (decide (i8 < (5 : Int)))
  ((zz50 c5 p6).bind fun rq2 =>
  (appI elements7 [rq2.1]).bind fun xq3 =>
  rec t2 rq2.2.1 p6 xq3 (IntKind.i64.wrap (i8 + (1 : Int))))
  (k t2 c5 p6 elements7)
def zz51_a5 (t2 : Y2) (c5 : Z10) (p6 : Y2) (elements7 : Y4) : Z14 :=
  (zz4 c5 (20 : Int)).bind fun rq4 =>
  cond rq4.1
  ((slI elements7 (1 : Int) elements7.length).bind fun xq5 =>
  (zz8 big rq4.2.1).bind fun rq6 =>
  some ((p6, rq6.1, xq5, ()), (())))
  ((zz8 big rq4.2.1).bind fun rq7 =>
  some ((p6, rq7.1, elements7, ()), (())))
def zz51_s (L5 : Y2 → Z10 → Y2 → Y4 → Int → Z14) (code_0 : Y4) : Z14 :=
  (zz49 big (code_0, ((0 : Int), ((0 : Int), ())))).bind fun rq1 =>
  L5 (([] : Y3), ()) rq1.2.1 rq1.1 [] (0 : Int)
def zz51_l5 (N : Nat) (k : Y2 → Z10 → Y2 → Y4 → Z14) : Nat → Y2 → Z10 → Y2 → Y4 → Int → Z14
  | 0, _, _, _, _, _ => none
  | m + 1, t2, c5, p6, elements7, i8 => zz51_b5 (zz51_l5 N k m) k t2 c5 p6 elements7 i8
def zz51_F5 (N : Nat) (t2 : Y2) (c5 : Z10) (p6 : Y2) (elements7 : Y4) (i8 : Int) : Z14 := zz51_l5 N (zz51_a5) N t2 c5 p6 elements7 i8
def zz51 (N : Nat) (code_0 : Y4) : Z14 := zz51_s (zz51_F5 N) code_0
def S_zz51 : Sig := { a := (.pair (.sl (.int .u8)) .unit), md := [0], mf := [], m := .unit, r := (.tup (.pair (.pair (.sl (.sl I)) .unit) (.pair (.sl I) (.pair (.sl I) .unit)))), rf := .i, f := fun x => zz51 big x.1 }
def A_zz51 : Cfg := mkCfg tab [(48, S_zz49), (49, S_zz50), (50, S_zz4), (37, S_zz8)] [(10, [.drop, .drop, .as (.ptr (.pair (.sl (.sl I)) .unit)) (.o (.p (.o (.o .i)) .i)), .drop, .drop, .as (.ptr (.pair (.sl (.int .u8)) (.pair I (.pair (.int .u64) .unit)))) (.o .i), .as (.ptr (.pair (.sl (.sl I)) .unit)) (.o .i), .as (.sl I) (.o .i), .as I .i]), (17, [.drop, .drop, .as (.ptr (.pair (.sl (.sl I)) .unit)) (.o (.p (.o (.o .i)) .i)), .drop, .drop, .as (.ptr (.pair (.sl (.int .u8)) (.pair I (.pair (.int .u64) .unit)))) (.o .i), .as (.ptr (.pair (.sl (.sl I)) .unit)) (.o .i), .as (.sl I) (.o .i)])]
noncomputable def zz51_R5 (N n : Nat) (K : Ex → St → Z14) (t2 : Y2) (c5 : Z10) (p6 : Y2) (elements7 : Y4) (i8 : Int) : Z14 := iter ((A_zz51).shape 10) (run (A_zz51) N (codeAt Try.f14 [1, 1, 1, 1, 0, 1, 0, 0])) n ([.u, .u, .val (.ptr (.pair (.sl (.sl I)) .unit)) (.o (.p (.o (.o .i)) .i)) t2, .u, .u, .val (.ptr (.pair (.sl (.int .u8)) (.pair I (.pair (.int .u64) .unit)))) (.o .i) c5, .val (.ptr (.pair (.sl (.sl I)) .unit)) (.o .i) p6, .val (.sl I) (.o .i) elements7, .val I .i i8] ++ List.replicate 24 .u) K
noncomputable abbrev zz51_z : Ex → St → Z14 := finish (A_zz51) S_zz51 Try.f14.results.toList
noncomputable abbrev zz51_X5 (kX : St → Z14) : Y2 → Z10 → Y2 → Y4 → Z14 := fun (t2 : Y2) (c5 : Z10) (p6 : Y2) (elements7 : Y4) => kX ([.u, .u, .val (.ptr (.pair (.sl (.sl I)) .unit)) (.o (.p (.o (.o .i)) .i)) t2, .u, .u, .val (.ptr (.pair (.sl (.int .u8)) (.pair I (.pair (.int .u64) .unit)))) (.o .i) c5, .val (.ptr (.pair (.sl (.sl I)) .unit)) (.o .i) p6, .val (.sl I) (.o .i) elements7] ++ List.replicate 25 .u)
noncomputable abbrev zz51_E5 (kX : St → Z14) (kO : Nat → St → Z14) : Ex → St → Z14 := exK zz51_z 0 ((A_zz51).shape 17) kX kO
theorem zz51_step5 (N m : Nat) (kX : St → Z14) (kO : Nat → St → Z14) (t2 : Y2) (c5 : Z10) (p6 : Y2) (elements7 : Y4) (i8 : Int) : zz51_R5 N (m + 1) (zz51_E5 kX kO) t2 c5 p6 elements7 i8 = zz51_b5 (zz51_R5 N m (zz51_E5 kX kO)) (zz51_X5 kX) t2 c5 p6 elements7 i8 := by kernel_rfl
theorem zz51_iter5 (N : Nat) (kX : St → Z14) (kO : Nat → St → Z14) : ∀ (n : Nat) (t2 : Y2) (c5 : Z10) (p6 : Y2) (elements7 : Y4) (i8 : Int), zz51_R5 N n (zz51_E5 kX kO) t2 c5 p6 elements7 i8 = zz51_l5 N (zz51_X5 kX) n t2 c5 p6 elements7 i8
  | 0, _, _, _, _, _ => rfl
  | m + 1, t2, c5, p6, elements7, i8 => by
    have hrec : zz51_R5 N m (zz51_E5 kX kO) = (zz51_l5 N (zz51_X5 kX) m) := (funext fun t2 => (funext fun c5 => (funext fun p6 => (funext fun elements7 => (funext fun i8 => zz51_iter5 N kX kO m t2 c5 p6 elements7 i8)))))
    refine (zz51_step5 N m kX kO t2 c5 p6 elements7 i8).trans ?_
    rw [hrec]
    rfl
noncomputable abbrev zz51_K5 (N : Nat) : Ex → St → Z14 := (blockK 0 (seqK ((A_zz51).shape 17) (gated ((A_zz51).shape 500008).isSome N (run (A_zz51) N (codeAt Try.f14 [1, 1, 1, 1, 1]))) zz51_z))
noncomputable abbrev zz51_k5 (N : Nat) : St → Z14 := fun st' => run (A_zz51) N (codeAt Try.f14 [1, 1, 1, 1, 1]) st' zz51_z
theorem zz51_after5 (N : Nat) (t2 : Y2) (c5 : Z10) (p6 : Y2) (elements7 : Y4) : zz51_X5 (zz51_k5 N) t2 c5 p6 elements7 = zz51_a5 t2 c5 p6 elements7 := by kernel_rfl
theorem zz51_in5 (N : Nat) (t2 : Y2) (c5 : Z10) (p6 : Y2) (elements7 : Y4) (i8 : Int) : zz51_R5 N N (zz51_K5 N) t2 c5 p6 elements7 i8 = zz51_F5 N t2 c5 p6 elements7 i8 :=
  have h : zz51_X5 (zz51_k5 N) = (zz51_a5) := (funext fun t2 => (funext fun c5 => (funext fun p6 => (funext fun elements7 => zz51_after5 N t2 c5 p6 elements7))))
  ((iter_ex (fun st => by kernel_rfl) (fun st => by kernel_rfl)).trans (zz51_iter5 N (zz51_k5 N) (fun j st => (zz51_K5 N) (.exit j) st) N t2 c5 p6 elements7 i8)).trans (congrArg (fun k => zz51_l5 N k N t2 c5 p6 elements7 i8) h)
theorem run0_zz51 (N : Nat) (x : (S_zz51).a.den) : runF (A_zz51) N Try.f14 S_zz51 x = (zz51_s (zz51_R5 N N (zz51_K5 N)) x.1) := by kernel_rfl
theorem run_zz51 (N : Nat) (x : (S_zz51).a.den) : runF (A_zz51) N Try.f14 S_zz51 x = zz51 N x.1 := by
  refine (run0_zz51 N x).trans ?_
  rw [(funext fun t2 => (funext fun c5 => (funext fun p6 => (funext fun elements7 => (funext fun i8 => zz51_in5 N t2 c5 p6 elements7 i8)))))]
  rfl
theorem fn_zz51 : FnOk Try.prog 14 := ⟨_, Try.func14, by kernel_rfl, by kernel_rfl⟩
theorem good_zz51 : Gx.Good Try.prog 14 S_zz51 := good_of_run Try.func14 (of_decide_eq_true (by kernel_rfl)) fun x r h => ⟨A_zz51, big, mkCfg_ok tabOk, mkCfg_sigs (show SigsOk Try.prog [(48, S_zz49), (49, S_zz50), (50, S_zz4), (37, S_zz8)] from ⟨⟨fn_zz49, good_zz49⟩, ⟨fn_zz50, good_zz50⟩, ⟨fn_zz4, good_zz4⟩, ⟨fn_zz8, good_zz8⟩, trivial⟩), (run_zz51 big x).trans h⟩

/-! zz52 -/
def zz52_b3 (rec : Int → Y5 → Int → Int → Z9) (k : Y5 → Z9) (n0 : Int) (o3 : Y5) (t8 t9 : Int) : Z9 :=
  cond (decide (t9 < t8))
  ((mkI false n0).bind fun xq3 => (mkI false n0).bind fun xq4 => cond (decide (n0 ≤ n0))
  ((atI o3 t9).bind fun _ =>
  (o3[t9.toNat]?).bind fun xq5 =>
  rec n0 (o3.set t9.toNat xq4) t8 (IntKind.i64.wrap (t9 + (1 : Int))))
  none)
  (k o3)
def zz52_a3 (o3 : Y5) : Z9 :=
  some (o3, (()))
def zz52_s (L3 : Int → Y5 → Int → Int → Z9) (n_0 : Int) : Z9 :=
  (mkI ([] : (List Bool)) n_0).bind fun xq1 => (mkI ([] : (List Bool)) n_0).bind fun xq2 => cond (decide (n_0 ≤ n_0))
  (L3 n_0 xq2 (xq2.length : Int) (0 : Int))
  none
def zz52_l3 (N : Nat) (k : Y5 → Z9) : Nat → Int → Y5 → Int → Int → Z9
  | 0, _, _, _, _ => none
  | m + 1, n0, o3, t8, t9 => zz52_b3 (zz52_l3 N k m) k n0 o3 t8 t9
def zz52_F3 (N : Nat) (n0 : Int) (o3 : Y5) (t8 t9 : Int) : Z9 := zz52_l3 N (zz52_a3) N n0 o3 t8 t9
def zz52 (N : Nat) (n_0 : Int) : Z9 := zz52_s (zz52_F3 N) n_0
def S_zz52 : Sig := { a := (.pair I .unit), md := [0], mf := [], m := .unit, r := (.sl (.sl .bool)), rf := (.o (.o .i)), f := fun x => zz52 big x.1 }
def A_zz52 : Cfg := mkCfg tab [] [(6, [.as I .i, .drop, .drop, .as (.sl (.sl .bool)) (.o (.o .i)), .drop, .drop, .drop, .drop, .as I .i, .as I .i]), (15, [.drop, .drop, .drop, .as (.sl (.sl .bool)) (.o (.o .i))])]
noncomputable def zz52_R3 (N n : Nat) (K : Ex → St → Z9) (n0 : Int) (o3 : Y5) (t8 t9 : Int) : Z9 := iter ((A_zz52).shape 6) (run (A_zz52) N (codeAt Try.f109 [1, 1, 0, 1, 0, 0])) n ([.val I .i n0, .u, .u, .val (.sl (.sl .bool)) (.o (.o .i)) o3, .u, .u, .u, .u, .val I .i t8, .val I .i t9] ++ List.replicate 9 .u) K
noncomputable abbrev zz52_z : Ex → St → Z9 := finish (A_zz52) S_zz52 Try.f109.results.toList
noncomputable abbrev zz52_X3 (kX : St → Z9) : Y5 → Z9 := fun (o3 : Y5) => kX ([.u, .u, .u, .val (.sl (.sl .bool)) (.o (.o .i)) o3] ++ List.replicate 15 .u)
noncomputable abbrev zz52_E3 (kX : St → Z9) (kO : Nat → St → Z9) : Ex → St → Z9 := exK zz52_z 0 ((A_zz52).shape 15) kX kO
theorem zz52_step3 (N m : Nat) (kX : St → Z9) (kO : Nat → St → Z9) (n0 : Int) (o3 : Y5) (t8 t9 : Int) : zz52_R3 N (m + 1) (zz52_E3 kX kO) n0 o3 t8 t9 = zz52_b3 (zz52_R3 N m (zz52_E3 kX kO)) (zz52_X3 kX) n0 o3 t8 t9 := by kernel_rfl
theorem zz52_iter3 (N : Nat) (kX : St → Z9) (kO : Nat → St → Z9) : ∀ (n : Nat) (n0 : Int) (o3 : Y5) (t8 t9 : Int), zz52_R3 N n (zz52_E3 kX kO) n0 o3 t8 t9 = zz52_l3 N (zz52_X3 kX) n n0 o3 t8 t9
  | 0, _, _, _, _ => rfl
  | m + 1, n0, o3, t8, t9 => by
    have hrec : zz52_R3 N m (zz52_E3 kX kO) = (zz52_l3 N (zz52_X3 kX) m) := (funext fun n0 => (funext fun o3 => (funext fun t8 => (funext fun t9 => zz52_iter3 N kX kO m n0 o3 t8 t9))))
    refine (zz52_step3 N m kX kO n0 o3 t8 t9).trans ?_
    rw [hrec]
    rfl
noncomputable abbrev zz52_K3 (N : Nat) : Ex → St → Z9 := (blockK 0 (seqK ((A_zz52).shape 15) (gated ((A_zz52).shape 500007).isSome N (run (A_zz52) N (codeAt Try.f109 [1, 1, 1]))) zz52_z))
noncomputable abbrev zz52_k3 (N : Nat) : St → Z9 := fun st' => run (A_zz52) N (codeAt Try.f109 [1, 1, 1]) st' zz52_z
theorem zz52_after3 (N : Nat) (o3 : Y5) : zz52_X3 (zz52_k3 N) o3 = zz52_a3 o3 := by kernel_rfl
theorem zz52_in3 (N : Nat) (n0 : Int) (o3 : Y5) (t8 t9 : Int) : zz52_R3 N N (zz52_K3 N) n0 o3 t8 t9 = zz52_F3 N n0 o3 t8 t9 :=
  have h : zz52_X3 (zz52_k3 N) = (zz52_a3) := (funext fun o3 => zz52_after3 N o3)
  ((iter_ex (fun st => by kernel_rfl) (fun st => by kernel_rfl)).trans (zz52_iter3 N (zz52_k3 N) (fun j st => (zz52_K3 N) (.exit j) st) N n0 o3 t8 t9)).trans (congrArg (fun k => zz52_l3 N k N n0 o3 t8 t9) h)
theorem run0_zz52 (N : Nat) (x : (S_zz52).a.den) : runF (A_zz52) N Try.f109 S_zz52 x = (zz52_s (zz52_R3 N N (zz52_K3 N)) x.1) := by kernel_rfl
theorem run_zz52 (N : Nat) (x : (S_zz52).a.den) : runF (A_zz52) N Try.f109 S_zz52 x = zz52 N x.1 := by
  refine (run0_zz52 N x).trans ?_
  rw [(funext fun n0 => (funext fun o3 => (funext fun t8 => (funext fun t9 => zz52_in3 N n0 o3 t8 t9))))]
  rfl
theorem fn_zz52 : FnOk Try.prog 109 := ⟨_, Try.func109, by kernel_rfl, by kernel_rfl⟩
theorem good_zz52 : Gx.Good Try.prog 109 S_zz52 := good_of_run Try.func109 (of_decide_eq_true (by kernel_rfl)) fun x r h => ⟨A_zz52, big, mkCfg_ok tabOk, mkCfg_sigs (show SigsOk Try.prog [] from trivial), (run_zz52 big x).trans h⟩

/-! zz53 -/
def zz53_b2 (rec : Y4 → Int → Z1) (k : Z1) (list0 : Y4) (i3 : Int) : Z1 :=
  cond (decide (i3 < (list0.length : Int)))
  ((atI list0 (IntKind.i64.wrap (i3 - (1 : Int)))).bind fun xq1 =>
  (atI list0 i3).bind fun xq2 =>
  cond (decide (xq2 ≤ xq1))
  (some (false, (())))
  (rec list0 (IntKind.i64.wrap (i3 + (1 : Int)))))
  (k)
def zz53_a2 : Z1 :=
  some (true, (()))
def zz53_s (L2 : Y4 → Int → Z1) (list_0 : Y4) : Z1 :=
  L2 list_0 (1 : Int)
def zz53_l2 (N : Nat) (k : Z1) : Nat → Y4 → Int → Z1
  | 0, _, _ => none
  | m + 1, list0, i3 => zz53_b2 (zz53_l2 N k m) k list0 i3
def zz53_F2 (N : Nat) (list0 : Y4) (i3 : Int) : Z1 := zz53_l2 N (zz53_a2) N list0 i3
def zz53 (N : Nat) (list_0 : Y4) : Z1 := zz53_s (zz53_F2 N) list_0
def S_zz53 : Sig := { a := (.pair (.sl I) .unit), md := [0], mf := [], m := .unit, r := .bool, rf := .i, f := fun x => zz53 big x.1 }
def A_zz53 : Cfg := mkCfg tab [] [(4, [.as (.sl I) .i, .drop, .drop, .as I .i]), (13, [])]
noncomputable def zz53_R2 (N n : Nat) (K : Ex → St → Z1) (list0 : Y4) (i3 : Int) : Z1 := iter ((A_zz53).shape 4) (run (A_zz53) N (codeAt Try.f110 [1, 0, 1, 0, 0])) n ([.val (.sl I) .i list0, .u, .u, .val I .i i3] ++ List.replicate 16 .u) K
noncomputable abbrev zz53_z : Ex → St → Z1 := finish (A_zz53) S_zz53 Try.f110.results.toList
noncomputable abbrev zz53_X2 (kX : St → Z1) : Z1 := kX ([] ++ List.replicate 20 .u)
noncomputable abbrev zz53_E2 (kX : St → Z1) (kO : Nat → St → Z1) : Ex → St → Z1 := exK zz53_z 0 ((A_zz53).shape 13) kX kO
theorem zz53_step2 (N m : Nat) (kX : St → Z1) (kO : Nat → St → Z1) (list0 : Y4) (i3 : Int) : zz53_R2 N (m + 1) (zz53_E2 kX kO) list0 i3 = zz53_b2 (zz53_R2 N m (zz53_E2 kX kO)) (zz53_X2 kX) list0 i3 := by kernel_rfl
theorem zz53_iter2 (N : Nat) (kX : St → Z1) (kO : Nat → St → Z1) : ∀ (n : Nat) (list0 : Y4) (i3 : Int), zz53_R2 N n (zz53_E2 kX kO) list0 i3 = zz53_l2 N (zz53_X2 kX) n list0 i3
  | 0, _, _ => rfl
  | m + 1, list0, i3 => by
    have hrec : zz53_R2 N m (zz53_E2 kX kO) = (zz53_l2 N (zz53_X2 kX) m) := (funext fun list0 => (funext fun i3 => zz53_iter2 N kX kO m list0 i3))
    refine (zz53_step2 N m kX kO list0 i3).trans ?_
    rw [hrec]
    rfl
noncomputable abbrev zz53_K2 (N : Nat) : Ex → St → Z1 := (blockK 0 (seqK ((A_zz53).shape 13) (gated ((A_zz53).shape 500006).isSome N (run (A_zz53) N (codeAt Try.f110 [1, 1]))) zz53_z))
noncomputable abbrev zz53_k2 (N : Nat) : St → Z1 := fun st' => run (A_zz53) N (codeAt Try.f110 [1, 1]) st' zz53_z
theorem zz53_after2 (N : Nat) : zz53_X2 (zz53_k2 N) = zz53_a2 := by kernel_rfl
theorem zz53_in2 (N : Nat) (list0 : Y4) (i3 : Int) : zz53_R2 N N (zz53_K2 N) list0 i3 = zz53_F2 N list0 i3 :=
  have h : zz53_X2 (zz53_k2 N) = (zz53_a2) := zz53_after2 N
  ((iter_ex (fun st => by kernel_rfl) (fun st => by kernel_rfl)).trans (zz53_iter2 N (zz53_k2 N) (fun j st => (zz53_K2 N) (.exit j) st) N list0 i3)).trans (congrArg (fun k => zz53_l2 N k N list0 i3) h)
theorem run0_zz53 (N : Nat) (x : (S_zz53).a.den) : runF (A_zz53) N Try.f110 S_zz53 x = (zz53_s (zz53_R2 N N (zz53_K2 N)) x.1) := by kernel_rfl
theorem run_zz53 (N : Nat) (x : (S_zz53).a.den) : runF (A_zz53) N Try.f110 S_zz53 x = zz53 N x.1 := by
  refine (run0_zz53 N x).trans ?_
  rw [(funext fun list0 => (funext fun i3 => zz53_in2 N list0 i3))]
  rfl
theorem fn_zz53 : FnOk Try.prog 110 := ⟨_, Try.func110, by kernel_rfl, by kernel_rfl⟩
theorem good_zz53 : Gx.Good Try.prog 110 S_zz53 := good_of_run Try.func110 (of_decide_eq_true (by kernel_rfl)) fun x r h => ⟨A_zz53, big, mkCfg_ok tabOk, mkCfg_sigs (show SigsOk Try.prog [] from trivial), (run_zz53 big x).trans h⟩

/-! zz54 -/
def zz54_b2 (rec : Int → Y4 → Int → Int → Z1) (k : Z1) (n1 : Int) (t7 : Y4) (t8 t9 : Int) : Z1 :=
  cond (decide (t9 < t8))
  ((atI t7 t9).bind fun xq1 =>
  cond (decide (xq1 < (0 : Int)))
  (some (false, (())))
  (cond (decide (n1 ≤ xq1))
  (some (false, (())))
  (rec n1 t7 t8 (IntKind.i64.wrap (t9 + (1 : Int))))))
  (k)
def zz54_a2 : Z1 :=
  some (true, (()))
def zz54_s (L2 : Int → Y4 → Int → Int → Z1) (list_0 : Y4) (n_1 : Int) : Z1 :=
  L2 n_1 list_0 (list_0.length : Int) (0 : Int)
def zz54_l2 (N : Nat) (k : Z1) : Nat → Int → Y4 → Int → Int → Z1
  | 0, _, _, _, _ => none
  | m + 1, n1, t7, t8, t9 => zz54_b2 (zz54_l2 N k m) k n1 t7 t8 t9
def zz54_F2 (N : Nat) (n1 : Int) (t7 : Y4) (t8 t9 : Int) : Z1 := zz54_l2 N (zz54_a2) N n1 t7 t8 t9
def zz54 (N : Nat) (list_0 : Y4) (n_1 : Int) : Z1 := zz54_s (zz54_F2 N) list_0 n_1
def S_zz54 : Sig := { a := (.pair (.sl I) (.pair I .unit)), md := [0, 0], mf := [], m := .unit, r := .bool, rf := .i, f := fun x => zz54 big x.1 x.2.1 }
def A_zz54 : Cfg := mkCfg tab [] [(4, [.drop, .as I .i, .drop, .drop, .drop, .drop, .drop, .as (.sl I) .i, .as I .i, .as I .i]), (15, [])]
noncomputable def zz54_R2 (N n : Nat) (K : Ex → St → Z1) (n1 : Int) (t7 : Y4) (t8 t9 : Int) : Z1 := iter ((A_zz54).shape 4) (run (A_zz54) N (codeAt Try.f101 [1, 0, 1, 0, 0])) n ([.u, .val I .i n1, .u, .u, .u, .u, .u, .val (.sl I) .i t7, .val I .i t8, .val I .i t9] ++ List.replicate 11 .u) K
noncomputable abbrev zz54_z : Ex → St → Z1 := finish (A_zz54) S_zz54 Try.f101.results.toList
noncomputable abbrev zz54_X2 (kX : St → Z1) : Z1 := kX ([] ++ List.replicate 21 .u)
noncomputable abbrev zz54_E2 (kX : St → Z1) (kO : Nat → St → Z1) : Ex → St → Z1 := exK zz54_z 0 ((A_zz54).shape 15) kX kO
theorem zz54_step2 (N m : Nat) (kX : St → Z1) (kO : Nat → St → Z1) (n1 : Int) (t7 : Y4) (t8 t9 : Int) : zz54_R2 N (m + 1) (zz54_E2 kX kO) n1 t7 t8 t9 = zz54_b2 (zz54_R2 N m (zz54_E2 kX kO)) (zz54_X2 kX) n1 t7 t8 t9 := by kernel_rfl
theorem zz54_iter2 (N : Nat) (kX : St → Z1) (kO : Nat → St → Z1) : ∀ (n : Nat) (n1 : Int) (t7 : Y4) (t8 t9 : Int), zz54_R2 N n (zz54_E2 kX kO) n1 t7 t8 t9 = zz54_l2 N (zz54_X2 kX) n n1 t7 t8 t9
  | 0, _, _, _, _ => rfl
  | m + 1, n1, t7, t8, t9 => by
    have hrec : zz54_R2 N m (zz54_E2 kX kO) = (zz54_l2 N (zz54_X2 kX) m) := (funext fun n1 => (funext fun t7 => (funext fun t8 => (funext fun t9 => zz54_iter2 N kX kO m n1 t7 t8 t9))))
    refine (zz54_step2 N m kX kO n1 t7 t8 t9).trans ?_
    rw [hrec]
    rfl
noncomputable abbrev zz54_K2 (N : Nat) : Ex → St → Z1 := (blockK 0 (seqK ((A_zz54).shape 15) (gated ((A_zz54).shape 500007).isSome N (run (A_zz54) N (codeAt Try.f101 [1, 1]))) zz54_z))
noncomputable abbrev zz54_k2 (N : Nat) : St → Z1 := fun st' => run (A_zz54) N (codeAt Try.f101 [1, 1]) st' zz54_z
theorem zz54_after2 (N : Nat) : zz54_X2 (zz54_k2 N) = zz54_a2 := by kernel_rfl
theorem zz54_in2 (N : Nat) (n1 : Int) (t7 : Y4) (t8 t9 : Int) : zz54_R2 N N (zz54_K2 N) n1 t7 t8 t9 = zz54_F2 N n1 t7 t8 t9 :=
  have h : zz54_X2 (zz54_k2 N) = (zz54_a2) := zz54_after2 N
  ((iter_ex (fun st => by kernel_rfl) (fun st => by kernel_rfl)).trans (zz54_iter2 N (zz54_k2 N) (fun j st => (zz54_K2 N) (.exit j) st) N n1 t7 t8 t9)).trans (congrArg (fun k => zz54_l2 N k N n1 t7 t8 t9) h)
theorem run0_zz54 (N : Nat) (x : (S_zz54).a.den) : runF (A_zz54) N Try.f101 S_zz54 x = (zz54_s (zz54_R2 N N (zz54_K2 N)) x.1 x.2.1) := by kernel_rfl
theorem run_zz54 (N : Nat) (x : (S_zz54).a.den) : runF (A_zz54) N Try.f101 S_zz54 x = zz54 N x.1 x.2.1 := by
  refine (run0_zz54 N x).trans ?_
  rw [(funext fun n1 => (funext fun t7 => (funext fun t8 => (funext fun t9 => zz54_in2 N n1 t7 t8 t9))))]
  rfl
theorem fn_zz54 : FnOk Try.prog 101 := ⟨_, Try.func101, by kernel_rfl, by kernel_rfl⟩
theorem good_zz54 : Gx.Good Try.prog 101 S_zz54 := good_of_run Try.func101 (of_decide_eq_true (by kernel_rfl)) fun x r h => ⟨A_zz54, big, mkCfg_ok tabOk, mkCfg_sigs (show SigsOk Try.prog [] from trivial), (run_zz54 big x).trans h⟩

/-! zz55 -/
def zz55_b12 (rec : Y5 → Int → Int → Int → Int → Int → Int → Int → Int → Z1) (k : Y5 → Int → Int → Int → Int → Int → Z1) (o0 : Y5) (x3 y4 t7 t8 t20 t21 t46 t47 : Int) : Z1 :=
  cond (decide (t47 < t46))
  ((atI o0 x3).bind fun xq7 =>
  (atI xq7 y4).bind fun xq8 =>
  cond xq8
  ((atI o0 y4).bind fun xq9 =>
  (atI xq9 t47).bind fun xq10 =>
  cond xq10
  ((atI o0 x3).bind fun xq11 =>
  (atI xq11 t47).bind fun xq12 =>
  cond (!xq12)
  (some (false, (())))
  (rec o0 x3 y4 t7 t8 t20 t21 t46 (IntKind.i64.wrap (t47 + (1 : Int)))))
  (rec o0 x3 y4 t7 t8 t20 t21 t46 (IntKind.i64.wrap (t47 + (1 : Int)))))
  (rec o0 x3 y4 t7 t8 t20 t21 t46 (IntKind.i64.wrap (t47 + (1 : Int)))))
  (k o0 x3 t7 t8 t20 t21)
def zz55_a12 (rec : Y5 → Int → Int → Int → Int → Int → Z1) (o0 : Y5) (x3 t7 t8 t20 t21 : Int) : Z1 :=
  rec o0 x3 t7 t8 t20 (IntKind.i64.wrap (t21 + (1 : Int)))
def zz55_b7 (L12 : Y5 → Int → Int → Int → Int → Int → Int → Int → Int → Z1) (k : Y5 → Int → Int → Z1) (o0 : Y5) (x3 t7 t8 t20 t21 : Int) : Z1 :=
  cond (decide (t21 < t20))
  (cond (decide (x3 ≠ t21))
  ((atI o0 x3).bind fun xq3 =>
  (atI xq3 t21).bind fun xq4 =>
  cond xq4
  ((atI o0 t21).bind fun xq5 =>
  (atI xq5 x3).bind fun xq6 =>
  cond xq6
  (some (false, (())))
  (L12 o0 x3 t21 t7 t8 t20 t21 (o0.length : Int) (0 : Int)))
  (L12 o0 x3 t21 t7 t8 t20 t21 (o0.length : Int) (0 : Int)))
  (L12 o0 x3 t21 t7 t8 t20 t21 (o0.length : Int) (0 : Int)))
  (k o0 t7 t8)
def zz55_a7 (rec : Y5 → Int → Int → Z1) (o0 : Y5) (t7 t8 : Int) : Z1 :=
  rec o0 t7 (IntKind.i64.wrap (t8 + (1 : Int)))
def zz55_b2 (L7 : Y5 → Int → Int → Int → Int → Int → Z1) (k : Z1) (o0 : Y5) (t7 t8 : Int) : Z1 :=
  cond (decide (t8 < t7))
  ((atI o0 t8).bind fun xq1 =>
  (atI xq1 t8).bind fun xq2 =>
  cond (!xq2)
  (some (false, (())))
  (L7 o0 t8 t7 t8 (o0.length : Int) (0 : Int)))
  (k)
def zz55_a2 : Z1 :=
  some (true, (()))
def zz55_s (L2 : Y5 → Int → Int → Z1) (o_0 : Y5) : Z1 :=
  L2 o_0 (o_0.length : Int) (0 : Int)
def zz55_l12 (N : Nat) (k : Y5 → Int → Int → Int → Int → Int → Z1) : Nat → Y5 → Int → Int → Int → Int → Int → Int → Int → Int → Z1
  | 0, _, _, _, _, _, _, _, _, _ => none
  | m + 1, o0, x3, y4, t7, t8, t20, t21, t46, t47 => zz55_b12 (zz55_l12 N k m) k o0 x3 y4 t7 t8 t20 t21 t46 t47
def zz55_F12 (N : Nat) (rec : Y5 → Int → Int → Int → Int → Int → Z1) (k : Y5 → Int → Int → Z1) (o0 : Y5) (x3 y4 t7 t8 t20 t21 t46 t47 : Int) : Z1 := zz55_l12 N (zz55_a12 rec) N o0 x3 y4 t7 t8 t20 t21 t46 t47
def zz55_l7 (N : Nat) (k : Y5 → Int → Int → Z1) : Nat → Y5 → Int → Int → Int → Int → Int → Z1
  | 0, _, _, _, _, _, _ => none
  | m + 1, o0, x3, t7, t8, t20, t21 => zz55_b7 (zz55_F12 N (zz55_l7 N k m) k) k o0 x3 t7 t8 t20 t21
def zz55_F7 (N : Nat) (rec : Y5 → Int → Int → Z1) (k : Z1) (o0 : Y5) (x3 t7 t8 t20 t21 : Int) : Z1 := zz55_l7 N (zz55_a7 rec) N o0 x3 t7 t8 t20 t21
def zz55_l2 (N : Nat) (k : Z1) : Nat → Y5 → Int → Int → Z1
  | 0, _, _, _ => none
  | m + 1, o0, t7, t8 => zz55_b2 (zz55_F7 N (zz55_l2 N k m) k) k o0 t7 t8
def zz55_F2 (N : Nat) (o0 : Y5) (t7 t8 : Int) : Z1 := zz55_l2 N (zz55_a2) N o0 t7 t8
def zz55 (N : Nat) (o_0 : Y5) : Z1 := zz55_s (zz55_F2 N) o_0
def S_zz55 : Sig := { a := (.pair (.sl (.sl .bool)) .unit), md := [0], mf := [], m := .unit, r := .bool, rf := .i, f := fun x => zz55 big x.1 }
def A_zz55 : Cfg := mkCfg tab [] [(4, [.as (.sl (.sl .bool)) .i, .drop, .drop, .drop, .drop, .drop, .drop, .as I .i, .as I .i]), (14, [.as (.sl (.sl .bool)) .i, .drop, .drop, .as I .i, .drop, .drop, .drop, .as I .i, .as I .i, .drop, .drop, .drop, .drop, .drop, .drop, .drop, .drop, .drop, .drop, .drop, .as I .i, .as I .i]), (39, []), (24, [.as (.sl (.sl .bool)) .i, .drop, .drop, .as I .i, .as I .i, .drop, .drop, .as I .i, .as I .i, .drop, .drop, .drop, .drop, .drop, .drop, .drop, .drop, .drop, .drop, .drop, .as I .i, .as I .i, .drop, .drop, .drop, .drop, .drop, .drop, .drop, .drop, .drop, .drop, .drop, .drop, .drop, .drop, .drop, .drop, .drop, .drop, .drop, .drop, .drop, .drop, .drop, .drop, .as I .i, .as I .i]), (37, [.as (.sl (.sl .bool)) .i, .drop, .drop, .drop, .drop, .drop, .drop, .as I .i, .as I .i]), (35, [.as (.sl (.sl .bool)) .i, .drop, .drop, .as I .i, .drop, .drop, .drop, .as I .i, .as I .i, .drop, .drop, .drop, .drop, .drop, .drop, .drop, .drop, .drop, .drop, .drop, .as I .i, .as I .i])]
noncomputable def zz55_R2 (N n : Nat) (K : Ex → St → Z1) (o0 : Y5) (t7 t8 : Int) : Z1 := iter ((A_zz55).shape 4) (run (A_zz55) N (codeAt Try.f111 [1, 0, 1, 0, 0])) n ([.val (.sl (.sl .bool)) .i o0, .u, .u, .u, .u, .u, .u, .val I .i t7, .val I .i t8] ++ List.replicate 70 .u) K
noncomputable def zz55_R7 (N n : Nat) (K : Ex → St → Z1) (o0 : Y5) (x3 t7 t8 t20 t21 : Int) : Z1 := iter ((A_zz55).shape 14) (run (A_zz55) N (codeAt Try.f111 [1, 0, 1, 0, 0, 1, 1, 0, 0, 1, 1, 1, 0, 0])) n ([.val (.sl (.sl .bool)) .i o0, .u, .u, .val I .i x3, .u, .u, .u, .val I .i t7, .val I .i t8, .u, .u, .u, .u, .u, .u, .u, .u, .u, .u, .u, .val I .i t20, .val I .i t21] ++ List.replicate 57 .u) K
noncomputable def zz55_R12 (N n : Nat) (K : Ex → St → Z1) (o0 : Y5) (x3 y4 t7 t8 t20 t21 t46 t47 : Int) : Z1 := iter ((A_zz55).shape 24) (run (A_zz55) N (codeAt Try.f111 [1, 0, 1, 0, 0, 1, 1, 0, 0, 1, 1, 1, 0, 0, 1, 1, 0, 0, 1, 1, 1, 0, 0])) n ([.val (.sl (.sl .bool)) .i o0, .u, .u, .val I .i x3, .val I .i y4, .u, .u, .val I .i t7, .val I .i t8, .u, .u, .u, .u, .u, .u, .u, .u, .u, .u, .u, .val I .i t20, .val I .i t21, .u, .u, .u, .u, .u, .u, .u, .u, .u, .u, .u, .u, .u, .u, .u, .u, .u, .u, .u, .u, .u, .u, .u, .u, .val I .i t46, .val I .i t47] ++ List.replicate 31 .u) K
noncomputable abbrev zz55_z : Ex → St → Z1 := finish (A_zz55) S_zz55 Try.f111.results.toList
noncomputable abbrev zz55_X2 (kX : St → Z1) : Z1 := kX ([] ++ List.replicate 79 .u)
noncomputable abbrev zz55_E2 (kX : St → Z1) (kO : Nat → St → Z1) : Ex → St → Z1 := exK zz55_z 0 ((A_zz55).shape 39) kX kO
noncomputable abbrev zz55_X7 (kX : St → Z1) : Y5 → Int → Int → Z1 := fun (o0 : Y5) (t7 t8 : Int) => kX ([.val (.sl (.sl .bool)) .i o0, .u, .u, .u, .u, .u, .u, .val I .i t7, .val I .i t8] ++ List.replicate 70 .u)
noncomputable abbrev zz55_E7 (kX : St → Z1) (kO : Nat → St → Z1) : Ex → St → Z1 := exK zz55_z 2 ((A_zz55).shape 37) kX kO
noncomputable abbrev zz55_X12 (kX : St → Z1) : Y5 → Int → Int → Int → Int → Int → Z1 := fun (o0 : Y5) (x3 t7 t8 t20 t21 : Int) => kX ([.val (.sl (.sl .bool)) .i o0, .u, .u, .val I .i x3, .u, .u, .u, .val I .i t7, .val I .i t8, .u, .u, .u, .u, .u, .u, .u, .u, .u, .u, .u, .val I .i t20, .val I .i t21] ++ List.replicate 57 .u)
noncomputable abbrev zz55_E12 (kX : St → Z1) (kO : Nat → St → Z1) : Ex → St → Z1 := exK zz55_z 4 ((A_zz55).shape 35) kX kO
theorem zz55_step12 (N m : Nat) (kX : St → Z1) (kO : Nat → St → Z1) (o0 : Y5) (x3 y4 t7 t8 t20 t21 t46 t47 : Int) : zz55_R12 N (m + 1) (zz55_E12 kX kO) o0 x3 y4 t7 t8 t20 t21 t46 t47 = zz55_b12 (zz55_R12 N m (zz55_E12 kX kO)) (zz55_X12 kX) o0 x3 y4 t7 t8 t20 t21 t46 t47 := by kernel_rfl
theorem zz55_iter12 (N : Nat) (kX : St → Z1) (kO : Nat → St → Z1) : ∀ (n : Nat) (o0 : Y5) (x3 y4 t7 t8 t20 t21 t46 t47 : Int), zz55_R12 N n (zz55_E12 kX kO) o0 x3 y4 t7 t8 t20 t21 t46 t47 = zz55_l12 N (zz55_X12 kX) n o0 x3 y4 t7 t8 t20 t21 t46 t47
  | 0, _, _, _, _, _, _, _, _, _ => rfl
  | m + 1, o0, x3, y4, t7, t8, t20, t21, t46, t47 => by
    have hrec : zz55_R12 N m (zz55_E12 kX kO) = (zz55_l12 N (zz55_X12 kX) m) := (funext fun o0 => (funext fun x3 => (funext fun y4 => (funext fun t7 => (funext fun t8 => (funext fun t20 => (funext fun t21 => (funext fun t46 => (funext fun t47 => zz55_iter12 N kX kO m o0 x3 y4 t7 t8 t20 t21 t46 t47)))))))))
    refine (zz55_step12 N m kX kO o0 x3 y4 t7 t8 t20 t21 t46 t47).trans ?_
    rw [hrec]
    rfl
noncomputable abbrev zz55_K12 (N m : Nat) (kX : St → Z1) (kO : Nat → St → Z1) : Ex → St → Z1 := (blockK 4 (blockK 3 (seqK ((A_zz55).shape 35) (gated ((A_zz55).shape 500017).isSome N (run (A_zz55) N (codeAt Try.f111 [1, 0, 1, 0, 0, 1, 1, 0, 0, 1, 1, 1, 0, 0, 1, 1, 1]))) (iterK ((A_zz55).shape 14) (run (A_zz55) N (codeAt Try.f111 [1, 0, 1, 0, 0, 1, 1, 0, 0, 1, 1, 1, 0, 0])) m (zz55_E7 kX kO)))))
noncomputable abbrev zz55_k12 (N m : Nat) (kX : St → Z1) (kO : Nat → St → Z1) : St → Z1 := fun st' => run (A_zz55) N (codeAt Try.f111 [1, 0, 1, 0, 0, 1, 1, 0, 0, 1, 1, 1, 0, 0, 1, 1, 1]) st' (iterK ((A_zz55).shape 14) (run (A_zz55) N (codeAt Try.f111 [1, 0, 1, 0, 0, 1, 1, 0, 0, 1, 1, 1, 0, 0])) m (zz55_E7 kX kO))
theorem zz55_after12 (N m : Nat) (kX : St → Z1) (kO : Nat → St → Z1) (o0 : Y5) (x3 t7 t8 t20 t21 : Int) : zz55_X12 (zz55_k12 N m kX kO) o0 x3 t7 t8 t20 t21 = zz55_a12 (zz55_R7 N m (zz55_E7 kX kO)) o0 x3 t7 t8 t20 t21 := by kernel_rfl
theorem zz55_in12 (N m : Nat) (kX : St → Z1) (kO : Nat → St → Z1) (recF : Y5 → Int → Int → Int → Int → Int → Z1) (hrec : zz55_R7 N m (zz55_E7 kX kO) = recF) (o0 : Y5) (x3 y4 t7 t8 t20 t21 t46 t47 : Int) : zz55_R12 N N (zz55_K12 N m kX kO) o0 x3 y4 t7 t8 t20 t21 t46 t47 = zz55_F12 N recF (zz55_X7 kX) o0 x3 y4 t7 t8 t20 t21 t46 t47 :=
  have h : zz55_X12 (zz55_k12 N m kX kO) = (zz55_a12 recF) := (funext fun o0 => (funext fun x3 => (funext fun t7 => (funext fun t8 => (funext fun t20 => (funext fun t21 => (zz55_after12 N m kX kO o0 x3 t7 t8 t20 t21).trans (by rw [hrec])))))))
  ((iter_ex (fun st => by kernel_rfl) (fun st => by kernel_rfl)).trans (zz55_iter12 N (zz55_k12 N m kX kO) (fun j st => (zz55_K12 N m kX kO) (.exit j) st) N o0 x3 y4 t7 t8 t20 t21 t46 t47)).trans (congrArg (fun k => zz55_l12 N k N o0 x3 y4 t7 t8 t20 t21 t46 t47) h)
theorem zz55_step7 (N m : Nat) (kX : St → Z1) (kO : Nat → St → Z1) (o0 : Y5) (x3 t7 t8 t20 t21 : Int) : zz55_R7 N (m + 1) (zz55_E7 kX kO) o0 x3 t7 t8 t20 t21 = zz55_b7 (zz55_R12 N N (zz55_K12 N m kX kO)) (zz55_X7 kX) o0 x3 t7 t8 t20 t21 := by kernel_rfl
theorem zz55_iter7 (N : Nat) (kX : St → Z1) (kO : Nat → St → Z1) : ∀ (n : Nat) (o0 : Y5) (x3 t7 t8 t20 t21 : Int), zz55_R7 N n (zz55_E7 kX kO) o0 x3 t7 t8 t20 t21 = zz55_l7 N (zz55_X7 kX) n o0 x3 t7 t8 t20 t21
  | 0, _, _, _, _, _, _ => rfl
  | m + 1, o0, x3, t7, t8, t20, t21 => by
    have hrec : zz55_R7 N m (zz55_E7 kX kO) = (zz55_l7 N (zz55_X7 kX) m) := (funext fun o0 => (funext fun x3 => (funext fun t7 => (funext fun t8 => (funext fun t20 => (funext fun t21 => zz55_iter7 N kX kO m o0 x3 t7 t8 t20 t21))))))
    refine (zz55_step7 N m kX kO o0 x3 t7 t8 t20 t21).trans ?_
    rw [(funext fun o0 => (funext fun x3 => (funext fun y4 => (funext fun t7 => (funext fun t8 => (funext fun t20 => (funext fun t21 => (funext fun t46 => (funext fun t47 => zz55_in12 N m kX kO (zz55_l7 N (zz55_X7 kX) m) hrec o0 x3 y4 t7 t8 t20 t21 t46 t47)))))))))]
    rfl
noncomputable abbrev zz55_K7 (N m : Nat) (kX : St → Z1) (kO : Nat → St → Z1) : Ex → St → Z1 := (blockK 2 (blockK 1 (seqK ((A_zz55).shape 37) (gated ((A_zz55).shape 500018).isSome N (run (A_zz55) N (codeAt Try.f111 [1, 0, 1, 0, 0, 1, 1, 1]))) (iterK ((A_zz55).shape 4) (run (A_zz55) N (codeAt Try.f111 [1, 0, 1, 0, 0])) m (zz55_E2 kX kO)))))
noncomputable abbrev zz55_k7 (N m : Nat) (kX : St → Z1) (kO : Nat → St → Z1) : St → Z1 := fun st' => run (A_zz55) N (codeAt Try.f111 [1, 0, 1, 0, 0, 1, 1, 1]) st' (iterK ((A_zz55).shape 4) (run (A_zz55) N (codeAt Try.f111 [1, 0, 1, 0, 0])) m (zz55_E2 kX kO))
theorem zz55_after7 (N m : Nat) (kX : St → Z1) (kO : Nat → St → Z1) (o0 : Y5) (t7 t8 : Int) : zz55_X7 (zz55_k7 N m kX kO) o0 t7 t8 = zz55_a7 (zz55_R2 N m (zz55_E2 kX kO)) o0 t7 t8 := by kernel_rfl
theorem zz55_in7 (N m : Nat) (kX : St → Z1) (kO : Nat → St → Z1) (recF : Y5 → Int → Int → Z1) (hrec : zz55_R2 N m (zz55_E2 kX kO) = recF) (o0 : Y5) (x3 t7 t8 t20 t21 : Int) : zz55_R7 N N (zz55_K7 N m kX kO) o0 x3 t7 t8 t20 t21 = zz55_F7 N recF (zz55_X2 kX) o0 x3 t7 t8 t20 t21 :=
  have h : zz55_X7 (zz55_k7 N m kX kO) = (zz55_a7 recF) := (funext fun o0 => (funext fun t7 => (funext fun t8 => (zz55_after7 N m kX kO o0 t7 t8).trans (by rw [hrec]))))
  ((iter_ex (fun st => by kernel_rfl) (fun st => by kernel_rfl)).trans (zz55_iter7 N (zz55_k7 N m kX kO) (fun j st => (zz55_K7 N m kX kO) (.exit j) st) N o0 x3 t7 t8 t20 t21)).trans (congrArg (fun k => zz55_l7 N k N o0 x3 t7 t8 t20 t21) h)
theorem zz55_step2 (N m : Nat) (kX : St → Z1) (kO : Nat → St → Z1) (o0 : Y5) (t7 t8 : Int) : zz55_R2 N (m + 1) (zz55_E2 kX kO) o0 t7 t8 = zz55_b2 (zz55_R7 N N (zz55_K7 N m kX kO)) (zz55_X2 kX) o0 t7 t8 := by kernel_rfl
theorem zz55_iter2 (N : Nat) (kX : St → Z1) (kO : Nat → St → Z1) : ∀ (n : Nat) (o0 : Y5) (t7 t8 : Int), zz55_R2 N n (zz55_E2 kX kO) o0 t7 t8 = zz55_l2 N (zz55_X2 kX) n o0 t7 t8
  | 0, _, _, _ => rfl
  | m + 1, o0, t7, t8 => by
    have hrec : zz55_R2 N m (zz55_E2 kX kO) = (zz55_l2 N (zz55_X2 kX) m) := (funext fun o0 => (funext fun t7 => (funext fun t8 => zz55_iter2 N kX kO m o0 t7 t8)))
    refine (zz55_step2 N m kX kO o0 t7 t8).trans ?_
    rw [(funext fun o0 => (funext fun x3 => (funext fun t7 => (funext fun t8 => (funext fun t20 => (funext fun t21 => zz55_in7 N m kX kO (zz55_l2 N (zz55_X2 kX) m) hrec o0 x3 t7 t8 t20 t21))))))]
    rfl
noncomputable abbrev zz55_K2 (N : Nat) : Ex → St → Z1 := (blockK 0 (seqK ((A_zz55).shape 39) (gated ((A_zz55).shape 500019).isSome N (run (A_zz55) N (codeAt Try.f111 [1, 1]))) zz55_z))
noncomputable abbrev zz55_k2 (N : Nat) : St → Z1 := fun st' => run (A_zz55) N (codeAt Try.f111 [1, 1]) st' zz55_z
theorem zz55_after2 (N : Nat) : zz55_X2 (zz55_k2 N) = zz55_a2 := by kernel_rfl
theorem zz55_in2 (N : Nat) (o0 : Y5) (t7 t8 : Int) : zz55_R2 N N (zz55_K2 N) o0 t7 t8 = zz55_F2 N o0 t7 t8 :=
  have h : zz55_X2 (zz55_k2 N) = (zz55_a2) := zz55_after2 N
  ((iter_ex (fun st => by kernel_rfl) (fun st => by kernel_rfl)).trans (zz55_iter2 N (zz55_k2 N) (fun j st => (zz55_K2 N) (.exit j) st) N o0 t7 t8)).trans (congrArg (fun k => zz55_l2 N k N o0 t7 t8) h)
theorem run0_zz55 (N : Nat) (x : (S_zz55).a.den) : runF (A_zz55) N Try.f111 S_zz55 x = (zz55_s (zz55_R2 N N (zz55_K2 N)) x.1) := by kernel_rfl
theorem run_zz55 (N : Nat) (x : (S_zz55).a.den) : runF (A_zz55) N Try.f111 S_zz55 x = zz55 N x.1 := by
  refine (run0_zz55 N x).trans ?_
  rw [(funext fun o0 => (funext fun t7 => (funext fun t8 => zz55_in2 N o0 t7 t8)))]
  rfl
theorem fn_zz55 : FnOk Try.prog 111 := ⟨_, Try.func111, by kernel_rfl, by kernel_rfl⟩
theorem good_zz55 : Gx.Good Try.prog 111 S_zz55 := good_of_run Try.func111 (of_decide_eq_true (by kernel_rfl)) fun x r h => ⟨A_zz55, big, mkCfg_ok tabOk, mkCfg_sigs (show SigsOk Try.prog [] from trivial), (run_zz55 big x).trans h⟩

/-! zz56 -/
def zz56_b11 (rec : Int → Y5 → Int → Y3 → Int → Int → Y4 → Int → Bool → Bool → Y4 → Int → Int → Z5) (k : Int → Y5 → Y3 → Int → Int → Y4 → Int → Bool → Bool → Z5) (n4 : Int) (o5 : Y5) (x6 : Int) (t18 : Y3) (t19 t20 : Int) (t29 : Y4) (t30 : Int) (t31 t32 : Bool) (t34 : Y4) (t35 t36 : Int) : Z5 :=
  cond (decide (t36 < t35))
  ((atI t34 t36).bind fun xq6 =>
  (atI o5 xq6).bind fun _ =>
  (o5[xq6.toNat]?).bind fun xq7 =>
  (o5[xq6.toNat]?).bind fun xq8 =>
  (atI xq8 x6).bind fun _ =>
  (o5[xq6.toNat]?).bind fun xq9 =>
  (xq9[x6.toNat]?).bind fun xq10 =>
  rec n4 (o5.set xq6.toNat (xq9.set x6.toNat true)) x6 t18 t19 t20 t29 t30 t31 t32 t34 t35 (IntKind.i64.wrap (t36 + (1 : Int))))
  (k n4 o5 t18 t19 t20 t29 t30 t31 t32)
def zz56_a11 (rec : Int → Y5 → Y3 → Int → Int → Z5) (n4 : Int) (o5 : Y5) (t18 : Y3) (t19 t20 : Int) (t29 : Y4) (t30 : Int) (t31 t32 : Bool) : Z5 :=
  rec n4 o5 t18 t19 (IntKind.i64.wrap (t20 + (1 : Int)))
def zz56_b6 (L11 : Int → Y5 → Int → Y3 → Int → Int → Y4 → Int → Bool → Bool → Y4 → Int → Int → Z5) (k : Y5 → Z5) (n4 : Int) (o5 : Y5) (t18 : Y3) (t19 t20 : Int) : Z5 :=
  cond (decide (t20 < t19))
  ((atI t18 t20).bind fun xq2 =>
  (zz53 big xq2).bind fun rq3 =>
  cond (!rq3.1)
  (some (([], false, ()), (())))
  ((zz54 big xq2 n4).bind fun rq4 =>
  cond (!rq4.1)
  (some (([], false, ()), (())))
  (L11 n4 o5 t20 t18 t19 t20 xq2 n4 rq4.1 (!rq4.1) xq2 (xq2.length : Int) (0 : Int))))
  (k o5)
def zz56_a6 (o5 : Y5) : Z5 :=
  (zz55 big o5).bind fun rq5 =>
  some ((o5, rq5.1, ()), (()))
def zz56_s (L6 : Int → Y5 → Y3 → Int → Int → Z5) (p_0 : Y2) : Z5 :=
  cond (decide ((10 : Int) < (p_0.1.length : Int)))
  (some (([], false, ()), (())))
  ((zz52 big (p_0.1.length : Int)).bind fun rq1 =>
  L6 (p_0.1.length : Int) rq1.1 p_0.1 (p_0.1.length : Int) (0 : Int))
def zz56_l11 (N : Nat) (k : Int → Y5 → Y3 → Int → Int → Y4 → Int → Bool → Bool → Z5) : Nat → Int → Y5 → Int → Y3 → Int → Int → Y4 → Int → Bool → Bool → Y4 → Int → Int → Z5
  | 0, _, _, _, _, _, _, _, _, _, _, _, _, _ => none
  | m + 1, n4, o5, x6, t18, t19, t20, t29, t30, t31, t32, t34, t35, t36 => zz56_b11 (zz56_l11 N k m) k n4 o5 x6 t18 t19 t20 t29 t30 t31 t32 t34 t35 t36
def zz56_F11 (N : Nat) (rec : Int → Y5 → Y3 → Int → Int → Z5) (k : Y5 → Z5) (n4 : Int) (o5 : Y5) (x6 : Int) (t18 : Y3) (t19 t20 : Int) (t29 : Y4) (t30 : Int) (t31 t32 : Bool) (t34 : Y4) (t35 t36 : Int) : Z5 := zz56_l11 N (zz56_a11 rec) N n4 o5 x6 t18 t19 t20 t29 t30 t31 t32 t34 t35 t36
def zz56_l6 (N : Nat) (k : Y5 → Z5) : Nat → Int → Y5 → Y3 → Int → Int → Z5
  | 0, _, _, _, _, _ => none
  | m + 1, n4, o5, t18, t19, t20 => zz56_b6 (zz56_F11 N (zz56_l6 N k m) k) k n4 o5 t18 t19 t20
def zz56_F6 (N : Nat) (n4 : Int) (o5 : Y5) (t18 : Y3) (t19 t20 : Int) : Z5 := zz56_l6 N (zz56_a6) N n4 o5 t18 t19 t20
def zz56 (N : Nat) (p_0 : Y2) : Z5 := zz56_s (zz56_F6 N) p_0
def S_zz56 : Sig := { a := (.pair (.pair (.sl (.sl I)) .unit) .unit), md := [0], mf := [], m := .unit, r := (.tup (.pair (.sl (.sl .bool)) (.pair .bool .unit))), rf := (.p (.o (.o .i)) .i), f := fun x => zz56 big x.1 }
def A_zz56 : Cfg := mkCfg tab [(109, S_zz52), (110, S_zz53), (101, S_zz54), (111, S_zz55)] [(12, [.drop, .drop, .drop, .drop, .as I .i, .as (.sl (.sl .bool)) (.o (.o .i)), .drop, .drop, .drop, .drop, .drop, .drop, .drop, .drop, .drop, .drop, .drop, .drop, .as (.sl (.sl I)) .i, .as I .i, .as I .i]), (22, [.drop, .drop, .drop, .drop, .as I .i, .as (.sl (.sl .bool)) (.o (.o .i)), .as I .i, .drop, .drop, .drop, .drop, .drop, .drop, .drop, .drop, .drop, .drop, .drop, .as (.sl (.sl I)) .i, .as I .i, .as I .i, .drop, .drop, .drop, .drop, .drop, .drop, .drop, .drop, .as (.sl I) .i, .as I .i, .as .bool .i, .as .bool .i, .drop, .as (.sl I) .i, .as I .i, .as I .i]), (33, [.drop, .drop, .drop, .drop, .drop, .as (.sl (.sl .bool)) (.o (.o .i))]), (31, [.drop, .drop, .drop, .drop, .as I .i, .as (.sl (.sl .bool)) (.o (.o .i)), .drop, .drop, .drop, .drop, .drop, .drop, .drop, .drop, .drop, .drop, .drop, .drop, .as (.sl (.sl I)) .i, .as I .i, .as I .i, .drop, .drop, .drop, .drop, .drop, .drop, .drop, .drop, .as (.sl I) .i, .as I .i, .as .bool .i, .as .bool .i])]
noncomputable def zz56_R6 (N n : Nat) (K : Ex → St → Z5) (n4 : Int) (o5 : Y5) (t18 : Y3) (t19 t20 : Int) : Z5 := iter ((A_zz56).shape 12) (run (A_zz56) N (codeAt Try.f58 [1, 1, 1, 1, 0, 1, 0, 0])) n ([.u, .u, .u, .u, .val I .i n4, .val (.sl (.sl .bool)) (.o (.o .i)) o5, .u, .u, .u, .u, .u, .u, .u, .u, .u, .u, .u, .u, .val (.sl (.sl I)) .i t18, .val I .i t19, .val I .i t20] ++ List.replicate 30 .u) K
noncomputable def zz56_R11 (N n : Nat) (K : Ex → St → Z5) (n4 : Int) (o5 : Y5) (x6 : Int) (t18 : Y3) (t19 t20 : Int) (t29 : Y4) (t30 : Int) (t31 t32 : Bool) (t34 : Y4) (t35 t36 : Int) : Z5 := iter ((A_zz56).shape 22) (run (A_zz56) N (codeAt Try.f58 [1, 1, 1, 1, 0, 1, 0, 0, 1, 1, 0, 0, 1, 1, 1, 0, 0])) n ([.u, .u, .u, .u, .val I .i n4, .val (.sl (.sl .bool)) (.o (.o .i)) o5, .val I .i x6, .u, .u, .u, .u, .u, .u, .u, .u, .u, .u, .u, .val (.sl (.sl I)) .i t18, .val I .i t19, .val I .i t20, .u, .u, .u, .u, .u, .u, .u, .u, .val (.sl I) .i t29, .val I .i t30, .val .bool .i t31, .val .bool .i t32, .u, .val (.sl I) .i t34, .val I .i t35, .val I .i t36] ++ List.replicate 14 .u) K
noncomputable abbrev zz56_z : Ex → St → Z5 := finish (A_zz56) S_zz56 Try.f58.results.toList
noncomputable abbrev zz56_X6 (kX : St → Z5) : Y5 → Z5 := fun (o5 : Y5) => kX ([.u, .u, .u, .u, .u, .val (.sl (.sl .bool)) (.o (.o .i)) o5] ++ List.replicate 45 .u)
noncomputable abbrev zz56_E6 (kX : St → Z5) (kO : Nat → St → Z5) : Ex → St → Z5 := exK zz56_z 0 ((A_zz56).shape 33) kX kO
noncomputable abbrev zz56_X11 (kX : St → Z5) : Int → Y5 → Y3 → Int → Int → Y4 → Int → Bool → Bool → Z5 := fun (n4 : Int) (o5 : Y5) (t18 : Y3) (t19 t20 : Int) (t29 : Y4) (t30 : Int) (t31 t32 : Bool) => kX ([.u, .u, .u, .u, .val I .i n4, .val (.sl (.sl .bool)) (.o (.o .i)) o5, .u, .u, .u, .u, .u, .u, .u, .u, .u, .u, .u, .u, .val (.sl (.sl I)) .i t18, .val I .i t19, .val I .i t20, .u, .u, .u, .u, .u, .u, .u, .u, .val (.sl I) .i t29, .val I .i t30, .val .bool .i t31, .val .bool .i t32] ++ List.replicate 18 .u)
noncomputable abbrev zz56_E11 (kX : St → Z5) (kO : Nat → St → Z5) : Ex → St → Z5 := exK zz56_z 2 ((A_zz56).shape 31) kX kO
theorem zz56_step11 (N m : Nat) (kX : St → Z5) (kO : Nat → St → Z5) (n4 : Int) (o5 : Y5) (x6 : Int) (t18 : Y3) (t19 t20 : Int) (t29 : Y4) (t30 : Int) (t31 t32 : Bool) (t34 : Y4) (t35 t36 : Int) : zz56_R11 N (m + 1) (zz56_E11 kX kO) n4 o5 x6 t18 t19 t20 t29 t30 t31 t32 t34 t35 t36 = zz56_b11 (zz56_R11 N m (zz56_E11 kX kO)) (zz56_X11 kX) n4 o5 x6 t18 t19 t20 t29 t30 t31 t32 t34 t35 t36 := by kernel_rfl
theorem zz56_iter11 (N : Nat) (kX : St → Z5) (kO : Nat → St → Z5) : ∀ (n : Nat) (n4 : Int) (o5 : Y5) (x6 : Int) (t18 : Y3) (t19 t20 : Int) (t29 : Y4) (t30 : Int) (t31 t32 : Bool) (t34 : Y4) (t35 t36 : Int), zz56_R11 N n (zz56_E11 kX kO) n4 o5 x6 t18 t19 t20 t29 t30 t31 t32 t34 t35 t36 = zz56_l11 N (zz56_X11 kX) n n4 o5 x6 t18 t19 t20 t29 t30 t31 t32 t34 t35 t36
  | 0, _, _, _, _, _, _, _, _, _, _, _, _, _ => rfl
  | m + 1, n4, o5, x6, t18, t19, t20, t29, t30, t31, t32, t34, t35, t36 => by
    have hrec : zz56_R11 N m (zz56_E11 kX kO) = (zz56_l11 N (zz56_X11 kX) m) := (funext fun n4 => (funext fun o5 => (funext fun x6 => (funext fun t18 => (funext fun t19 => (funext fun t20 => (funext fun t29 => (funext fun t30 => (funext fun t31 => (funext fun t32 => (funext fun t34 => (funext fun t35 => (funext fun t36 => zz56_iter11 N kX kO m n4 o5 x6 t18 t19 t20 t29 t30 t31 t32 t34 t35 t36)))))))))))))
    refine (zz56_step11 N m kX kO n4 o5 x6 t18 t19 t20 t29 t30 t31 t32 t34 t35 t36).trans ?_
    rw [hrec]
    rfl
noncomputable abbrev zz56_K11 (N m : Nat) (kX : St → Z5) (kO : Nat → St → Z5) : Ex → St → Z5 := (blockK 2 (blockK 1 (seqK ((A_zz56).shape 31) (gated ((A_zz56).shape 500015).isSome N (run (A_zz56) N (codeAt Try.f58 [1, 1, 1, 1, 0, 1, 0, 0, 1, 1, 1]))) (iterK ((A_zz56).shape 12) (run (A_zz56) N (codeAt Try.f58 [1, 1, 1, 1, 0, 1, 0, 0])) m (zz56_E6 kX kO)))))
noncomputable abbrev zz56_k11 (N m : Nat) (kX : St → Z5) (kO : Nat → St → Z5) : St → Z5 := fun st' => run (A_zz56) N (codeAt Try.f58 [1, 1, 1, 1, 0, 1, 0, 0, 1, 1, 1]) st' (iterK ((A_zz56).shape 12) (run (A_zz56) N (codeAt Try.f58 [1, 1, 1, 1, 0, 1, 0, 0])) m (zz56_E6 kX kO))
theorem zz56_after11 (N m : Nat) (kX : St → Z5) (kO : Nat → St → Z5) (n4 : Int) (o5 : Y5) (t18 : Y3) (t19 t20 : Int) (t29 : Y4) (t30 : Int) (t31 t32 : Bool) : zz56_X11 (zz56_k11 N m kX kO) n4 o5 t18 t19 t20 t29 t30 t31 t32 = zz56_a11 (zz56_R6 N m (zz56_E6 kX kO)) n4 o5 t18 t19 t20 t29 t30 t31 t32 := by kernel_rfl
theorem zz56_in11 (N m : Nat) (kX : St → Z5) (kO : Nat → St → Z5) (recF : Int → Y5 → Y3 → Int → Int → Z5) (hrec : zz56_R6 N m (zz56_E6 kX kO) = recF) (n4 : Int) (o5 : Y5) (x6 : Int) (t18 : Y3) (t19 t20 : Int) (t29 : Y4) (t30 : Int) (t31 t32 : Bool) (t34 : Y4) (t35 t36 : Int) : zz56_R11 N N (zz56_K11 N m kX kO) n4 o5 x6 t18 t19 t20 t29 t30 t31 t32 t34 t35 t36 = zz56_F11 N recF (zz56_X6 kX) n4 o5 x6 t18 t19 t20 t29 t30 t31 t32 t34 t35 t36 :=
  have h : zz56_X11 (zz56_k11 N m kX kO) = (zz56_a11 recF) := (funext fun n4 => (funext fun o5 => (funext fun t18 => (funext fun t19 => (funext fun t20 => (funext fun t29 => (funext fun t30 => (funext fun t31 => (funext fun t32 => (zz56_after11 N m kX kO n4 o5 t18 t19 t20 t29 t30 t31 t32).trans (by rw [hrec]))))))))))
  ((iter_ex (fun st => by kernel_rfl) (fun st => by kernel_rfl)).trans (zz56_iter11 N (zz56_k11 N m kX kO) (fun j st => (zz56_K11 N m kX kO) (.exit j) st) N n4 o5 x6 t18 t19 t20 t29 t30 t31 t32 t34 t35 t36)).trans (congrArg (fun k => zz56_l11 N k N n4 o5 x6 t18 t19 t20 t29 t30 t31 t32 t34 t35 t36) h)
theorem zz56_step6 (N m : Nat) (kX : St → Z5) (kO : Nat → St → Z5) (n4 : Int) (o5 : Y5) (t18 : Y3) (t19 t20 : Int) : zz56_R6 N (m + 1) (zz56_E6 kX kO) n4 o5 t18 t19 t20 = zz56_b6 (zz56_R11 N N (zz56_K11 N m kX kO)) (zz56_X6 kX) n4 o5 t18 t19 t20 := by kernel_rfl
theorem zz56_iter6 (N : Nat) (kX : St → Z5) (kO : Nat → St → Z5) : ∀ (n : Nat) (n4 : Int) (o5 : Y5) (t18 : Y3) (t19 t20 : Int), zz56_R6 N n (zz56_E6 kX kO) n4 o5 t18 t19 t20 = zz56_l6 N (zz56_X6 kX) n n4 o5 t18 t19 t20
  | 0, _, _, _, _, _ => rfl
  | m + 1, n4, o5, t18, t19, t20 => by
    have hrec : zz56_R6 N m (zz56_E6 kX kO) = (zz56_l6 N (zz56_X6 kX) m) := (funext fun n4 => (funext fun o5 => (funext fun t18 => (funext fun t19 => (funext fun t20 => zz56_iter6 N kX kO m n4 o5 t18 t19 t20)))))
    refine (zz56_step6 N m kX kO n4 o5 t18 t19 t20).trans ?_
    rw [(funext fun n4 => (funext fun o5 => (funext fun x6 => (funext fun t18 => (funext fun t19 => (funext fun t20 => (funext fun t29 => (funext fun t30 => (funext fun t31 => (funext fun t32 => (funext fun t34 => (funext fun t35 => (funext fun t36 => zz56_in11 N m kX kO (zz56_l6 N (zz56_X6 kX) m) hrec n4 o5 x6 t18 t19 t20 t29 t30 t31 t32 t34 t35 t36)))))))))))))]
    rfl
noncomputable abbrev zz56_K6 (N : Nat) : Ex → St → Z5 := (blockK 0 (seqK ((A_zz56).shape 33) (gated ((A_zz56).shape 500016).isSome N (run (A_zz56) N (codeAt Try.f58 [1, 1, 1, 1, 1]))) zz56_z))
noncomputable abbrev zz56_k6 (N : Nat) : St → Z5 := fun st' => run (A_zz56) N (codeAt Try.f58 [1, 1, 1, 1, 1]) st' zz56_z
theorem zz56_after6 (N : Nat) (o5 : Y5) : zz56_X6 (zz56_k6 N) o5 = zz56_a6 o5 := by kernel_rfl
theorem zz56_in6 (N : Nat) (n4 : Int) (o5 : Y5) (t18 : Y3) (t19 t20 : Int) : zz56_R6 N N (zz56_K6 N) n4 o5 t18 t19 t20 = zz56_F6 N n4 o5 t18 t19 t20 :=
  have h : zz56_X6 (zz56_k6 N) = (zz56_a6) := (funext fun o5 => zz56_after6 N o5)
  ((iter_ex (fun st => by kernel_rfl) (fun st => by kernel_rfl)).trans (zz56_iter6 N (zz56_k6 N) (fun j st => (zz56_K6 N) (.exit j) st) N n4 o5 t18 t19 t20)).trans (congrArg (fun k => zz56_l6 N k N n4 o5 t18 t19 t20) h)
theorem run0_zz56 (N : Nat) (x : (S_zz56).a.den) : runF (A_zz56) N Try.f58 S_zz56 x = (zz56_s (zz56_R6 N N (zz56_K6 N)) x.1) := by kernel_rfl
theorem run_zz56 (N : Nat) (x : (S_zz56).a.den) : runF (A_zz56) N Try.f58 S_zz56 x = zz56 N x.1 := by
  refine (run0_zz56 N x).trans ?_
  rw [(funext fun n4 => (funext fun o5 => (funext fun t18 => (funext fun t19 => (funext fun t20 => zz56_in6 N n4 o5 t18 t19 t20)))))]
  rfl
theorem fn_zz56 : FnOk Try.prog 58 := ⟨_, Try.func58, by kernel_rfl, by kernel_rfl⟩
theorem good_zz56 : Gx.Good Try.prog 58 S_zz56 := good_of_run Try.func58 (of_decide_eq_true (by kernel_rfl)) fun x r h => ⟨A_zz56, big, mkCfg_ok tabOk, mkCfg_sigs (show SigsOk Try.prog [(109, S_zz52), (110, S_zz53), (101, S_zz54), (111, S_zz55)] from ⟨⟨fn_zz52, good_zz52⟩, ⟨fn_zz53, good_zz53⟩, ⟨fn_zz54, good_zz54⟩, ⟨fn_zz55, good_zz55⟩, trivial⟩), (run_zz56 big x).trans h⟩

/-! zz57 -/
def zz57_b6 (rec : Y5 → Y4 → Int → Bool → Y4 → Int → Int → Y4 → Int → Int → Z4) (k : Y5 → Y4 → Int → Bool → Y4 → Int → Int → Z4) (o0 : Y5) (list1 : Y4) (x6 : Int) (top7 : Bool) (t10 : Y4) (t11 t12 : Int) (t16 : Y4) (t17 t18 : Int) : Z4 :=
  cond (decide (t18 < t17))
  ((atI t16 t18).bind fun xq2 =>
  cond top7
  ((atI o0 xq2).bind fun xq3 =>
  (atI xq3 x6).bind fun xq4 =>
  rec o0 list1 x6 xq4 t10 t11 t12 t16 t17 (IntKind.i64.wrap (t18 + (1 : Int))))
  (rec o0 list1 x6 false t10 t11 t12 t16 t17 (IntKind.i64.wrap (t18 + (1 : Int)))))
  (k o0 list1 x6 top7 t10 t11 t12)
def zz57_a6 (rec : Y5 → Y4 → Y4 → Int → Int → Z4) (o0 : Y5) (list1 : Y4) (x6 : Int) (top7 : Bool) (t10 : Y4) (t11 t12 : Int) : Z4 :=
  cond top7
  (some (x6, (())))
  (rec o0 list1 t10 t11 (IntKind.i64.wrap (t12 + (1 : Int))))
def zz57_b2 (L6 : Y5 → Y4 → Int → Bool → Y4 → Int → Int → Y4 → Int → Int → Z4) (k : Z4) (o0 : Y5) (list1 t10 : Y4) (t11 t12 : Int) : Z4 :=
  cond (decide (t12 < t11))
  ((atI t10 t12).bind fun xq1 =>
  L6 o0 list1 xq1 true t10 t11 t12 list1 (list1.length : Int) (0 : Int))
  (k)
def zz57_a2 : Z4 :=
  some ((-1 : Int), (()))
def zz57_s (L2 : Y5 → Y4 → Y4 → Int → Int → Z4) (o_0 : Y5) (list_1 : Y4) : Z4 :=
  L2 o_0 list_1 list_1 (list_1.length : Int) (0 : Int)
def zz57_l6 (N : Nat) (k : Y5 → Y4 → Int → Bool → Y4 → Int → Int → Z4) : Nat → Y5 → Y4 → Int → Bool → Y4 → Int → Int → Y4 → Int → Int → Z4
  | 0, _, _, _, _, _, _, _, _, _, _ => none
  | m + 1, o0, list1, x6, top7, t10, t11, t12, t16, t17, t18 => zz57_b6 (zz57_l6 N k m) k o0 list1 x6 top7 t10 t11 t12 t16 t17 t18
def zz57_F6 (N : Nat) (rec : Y5 → Y4 → Y4 → Int → Int → Z4) (k : Z4) (o0 : Y5) (list1 : Y4) (x6 : Int) (top7 : Bool) (t10 : Y4) (t11 t12 : Int) (t16 : Y4) (t17 t18 : Int) : Z4 := zz57_l6 N (zz57_a6 rec) N o0 list1 x6 top7 t10 t11 t12 t16 t17 t18
def zz57_l2 (N : Nat) (k : Z4) : Nat → Y5 → Y4 → Y4 → Int → Int → Z4
  | 0, _, _, _, _, _ => none
  | m + 1, o0, list1, t10, t11, t12 => zz57_b2 (zz57_F6 N (zz57_l2 N k m) k) k o0 list1 t10 t11 t12
def zz57_F2 (N : Nat) (o0 : Y5) (list1 t10 : Y4) (t11 t12 : Int) : Z4 := zz57_l2 N (zz57_a2) N o0 list1 t10 t11 t12
def zz57 (N : Nat) (o_0 : Y5) (list_1 : Y4) : Z4 := zz57_s (zz57_F2 N) o_0 list_1
def S_zz57 : Sig := { a := (.pair (.sl (.sl .bool)) (.pair (.sl I) .unit)), md := [0, 0], mf := [], m := .unit, r := I, rf := .i, f := fun x => zz57 big x.1 x.2.1 }
def A_zz57 : Cfg := mkCfg tab [] [(4, [.as (.sl (.sl .bool)) .i, .as (.sl I) .i, .drop, .drop, .drop, .drop, .drop, .drop, .drop, .drop, .as (.sl I) .i, .as I .i, .as I .i]), (12, [.as (.sl (.sl .bool)) .i, .as (.sl I) .i, .drop, .drop, .drop, .drop, .as I .i, .as .bool .i, .drop, .drop, .as (.sl I) .i, .as I .i, .as I .i, .drop, .drop, .drop, .as (.sl I) .i, .as I .i, .as I .i]), (27, []), (21, [.as (.sl (.sl .bool)) .i, .as (.sl I) .i, .drop, .drop, .drop, .drop, .as I .i, .as .bool .i, .drop, .drop, .as (.sl I) .i, .as I .i, .as I .i])]
noncomputable def zz57_R2 (N n : Nat) (K : Ex → St → Z4) (o0 : Y5) (list1 t10 : Y4) (t11 t12 : Int) : Z4 := iter ((A_zz57).shape 4) (run (A_zz57) N (codeAt Try.f123 [1, 0, 1, 0, 0])) n ([.val (.sl (.sl .bool)) .i o0, .val (.sl I) .i list1, .u, .u, .u, .u, .u, .u, .u, .u, .val (.sl I) .i t10, .val I .i t11, .val I .i t12] ++ List.replicate 23 .u) K
noncomputable def zz57_R6 (N n : Nat) (K : Ex → St → Z4) (o0 : Y5) (list1 : Y4) (x6 : Int) (top7 : Bool) (t10 : Y4) (t11 t12 : Int) (t16 : Y4) (t17 t18 : Int) : Z4 := iter ((A_zz57).shape 12) (run (A_zz57) N (codeAt Try.f123 [1, 0, 1, 0, 0, 1, 1, 0, 0, 1, 1, 0, 1, 0, 0])) n ([.val (.sl (.sl .bool)) .i o0, .val (.sl I) .i list1, .u, .u, .u, .u, .val I .i x6, .val .bool .i top7, .u, .u, .val (.sl I) .i t10, .val I .i t11, .val I .i t12, .u, .u, .u, .val (.sl I) .i t16, .val I .i t17, .val I .i t18] ++ List.replicate 17 .u) K
noncomputable abbrev zz57_z : Ex → St → Z4 := finish (A_zz57) S_zz57 Try.f123.results.toList
noncomputable abbrev zz57_X2 (kX : St → Z4) : Z4 := kX ([] ++ List.replicate 36 .u)
noncomputable abbrev zz57_E2 (kX : St → Z4) (kO : Nat → St → Z4) : Ex → St → Z4 := exK zz57_z 0 ((A_zz57).shape 27) kX kO
noncomputable abbrev zz57_X6 (kX : St → Z4) : Y5 → Y4 → Int → Bool → Y4 → Int → Int → Z4 := fun (o0 : Y5) (list1 : Y4) (x6 : Int) (top7 : Bool) (t10 : Y4) (t11 t12 : Int) => kX ([.val (.sl (.sl .bool)) .i o0, .val (.sl I) .i list1, .u, .u, .u, .u, .val I .i x6, .val .bool .i top7, .u, .u, .val (.sl I) .i t10, .val I .i t11, .val I .i t12] ++ List.replicate 23 .u)
noncomputable abbrev zz57_E6 (kX : St → Z4) (kO : Nat → St → Z4) : Ex → St → Z4 := exK zz57_z 2 ((A_zz57).shape 21) kX kO
theorem zz57_step6 (N m : Nat) (kX : St → Z4) (kO : Nat → St → Z4) (o0 : Y5) (list1 : Y4) (x6 : Int) (top7 : Bool) (t10 : Y4) (t11 t12 : Int) (t16 : Y4) (t17 t18 : Int) : zz57_R6 N (m + 1) (zz57_E6 kX kO) o0 list1 x6 top7 t10 t11 t12 t16 t17 t18 = zz57_b6 (zz57_R6 N m (zz57_E6 kX kO)) (zz57_X6 kX) o0 list1 x6 top7 t10 t11 t12 t16 t17 t18 := by kernel_rfl
theorem zz57_iter6 (N : Nat) (kX : St → Z4) (kO : Nat → St → Z4) : ∀ (n : Nat) (o0 : Y5) (list1 : Y4) (x6 : Int) (top7 : Bool) (t10 : Y4) (t11 t12 : Int) (t16 : Y4) (t17 t18 : Int), zz57_R6 N n (zz57_E6 kX kO) o0 list1 x6 top7 t10 t11 t12 t16 t17 t18 = zz57_l6 N (zz57_X6 kX) n o0 list1 x6 top7 t10 t11 t12 t16 t17 t18
  | 0, _, _, _, _, _, _, _, _, _, _ => rfl
  | m + 1, o0, list1, x6, top7, t10, t11, t12, t16, t17, t18 => by
    have hrec : zz57_R6 N m (zz57_E6 kX kO) = (zz57_l6 N (zz57_X6 kX) m) := (funext fun o0 => (funext fun list1 => (funext fun x6 => (funext fun top7 => (funext fun t10 => (funext fun t11 => (funext fun t12 => (funext fun t16 => (funext fun t17 => (funext fun t18 => zz57_iter6 N kX kO m o0 list1 x6 top7 t10 t11 t12 t16 t17 t18))))))))))
    refine (zz57_step6 N m kX kO o0 list1 x6 top7 t10 t11 t12 t16 t17 t18).trans ?_
    rw [hrec]
    rfl
noncomputable abbrev zz57_K6 (N m : Nat) (kX : St → Z4) (kO : Nat → St → Z4) : Ex → St → Z4 := (blockK 2 (seqK ((A_zz57).shape 21) (gated ((A_zz57).shape 500010).isSome N (run (A_zz57) N (codeAt Try.f123 [1, 0, 1, 0, 0, 1, 1, 0, 0, 1, 1, 1]))) (blockK 1 (seqK ((A_zz57).shape 25) (gated ((A_zz57).shape 500012).isSome N (run (A_zz57) N (codeAt Try.f123 [1, 0, 1, 0, 0, 1, 1, 1]))) (iterK ((A_zz57).shape 4) (run (A_zz57) N (codeAt Try.f123 [1, 0, 1, 0, 0])) m (zz57_E2 kX kO))))))
noncomputable abbrev zz57_k6 (N m : Nat) (kX : St → Z4) (kO : Nat → St → Z4) : St → Z4 := fun st' => run (A_zz57) N (codeAt Try.f123 [1, 0, 1, 0, 0, 1, 1, 0, 0, 1, 1, 1]) st' (blockK 1 (seqK ((A_zz57).shape 25) (gated ((A_zz57).shape 500012).isSome N (run (A_zz57) N (codeAt Try.f123 [1, 0, 1, 0, 0, 1, 1, 1]))) (iterK ((A_zz57).shape 4) (run (A_zz57) N (codeAt Try.f123 [1, 0, 1, 0, 0])) m (zz57_E2 kX kO))))
theorem zz57_after6 (N m : Nat) (kX : St → Z4) (kO : Nat → St → Z4) (o0 : Y5) (list1 : Y4) (x6 : Int) (top7 : Bool) (t10 : Y4) (t11 t12 : Int) : zz57_X6 (zz57_k6 N m kX kO) o0 list1 x6 top7 t10 t11 t12 = zz57_a6 (zz57_R2 N m (zz57_E2 kX kO)) o0 list1 x6 top7 t10 t11 t12 := by kernel_rfl
theorem zz57_in6 (N m : Nat) (kX : St → Z4) (kO : Nat → St → Z4) (recF : Y5 → Y4 → Y4 → Int → Int → Z4) (hrec : zz57_R2 N m (zz57_E2 kX kO) = recF) (o0 : Y5) (list1 : Y4) (x6 : Int) (top7 : Bool) (t10 : Y4) (t11 t12 : Int) (t16 : Y4) (t17 t18 : Int) : zz57_R6 N N (zz57_K6 N m kX kO) o0 list1 x6 top7 t10 t11 t12 t16 t17 t18 = zz57_F6 N recF (zz57_X2 kX) o0 list1 x6 top7 t10 t11 t12 t16 t17 t18 :=
  have h : zz57_X6 (zz57_k6 N m kX kO) = (zz57_a6 recF) := (funext fun o0 => (funext fun list1 => (funext fun x6 => (funext fun top7 => (funext fun t10 => (funext fun t11 => (funext fun t12 => (zz57_after6 N m kX kO o0 list1 x6 top7 t10 t11 t12).trans (by rw [hrec]))))))))
  ((iter_ex (fun st => by kernel_rfl) (fun st => by kernel_rfl)).trans (zz57_iter6 N (zz57_k6 N m kX kO) (fun j st => (zz57_K6 N m kX kO) (.exit j) st) N o0 list1 x6 top7 t10 t11 t12 t16 t17 t18)).trans (congrArg (fun k => zz57_l6 N k N o0 list1 x6 top7 t10 t11 t12 t16 t17 t18) h)
theorem zz57_step2 (N m : Nat) (kX : St → Z4) (kO : Nat → St → Z4) (o0 : Y5) (list1 t10 : Y4) (t11 t12 : Int) : zz57_R2 N (m + 1) (zz57_E2 kX kO) o0 list1 t10 t11 t12 = zz57_b2 (zz57_R6 N N (zz57_K6 N m kX kO)) (zz57_X2 kX) o0 list1 t10 t11 t12 := by kernel_rfl
theorem zz57_iter2 (N : Nat) (kX : St → Z4) (kO : Nat → St → Z4) : ∀ (n : Nat) (o0 : Y5) (list1 t10 : Y4) (t11 t12 : Int), zz57_R2 N n (zz57_E2 kX kO) o0 list1 t10 t11 t12 = zz57_l2 N (zz57_X2 kX) n o0 list1 t10 t11 t12
  | 0, _, _, _, _, _ => rfl
  | m + 1, o0, list1, t10, t11, t12 => by
    have hrec : zz57_R2 N m (zz57_E2 kX kO) = (zz57_l2 N (zz57_X2 kX) m) := (funext fun o0 => (funext fun list1 => (funext fun t10 => (funext fun t11 => (funext fun t12 => zz57_iter2 N kX kO m o0 list1 t10 t11 t12)))))
    refine (zz57_step2 N m kX kO o0 list1 t10 t11 t12).trans ?_
    rw [(funext fun o0 => (funext fun list1 => (funext fun x6 => (funext fun top7 => (funext fun t10 => (funext fun t11 => (funext fun t12 => (funext fun t16 => (funext fun t17 => (funext fun t18 => zz57_in6 N m kX kO (zz57_l2 N (zz57_X2 kX) m) hrec o0 list1 x6 top7 t10 t11 t12 t16 t17 t18))))))))))]
    rfl
noncomputable abbrev zz57_K2 (N : Nat) : Ex → St → Z4 := (blockK 0 (seqK ((A_zz57).shape 27) (gated ((A_zz57).shape 500013).isSome N (run (A_zz57) N (codeAt Try.f123 [1, 1]))) zz57_z))
noncomputable abbrev zz57_k2 (N : Nat) : St → Z4 := fun st' => run (A_zz57) N (codeAt Try.f123 [1, 1]) st' zz57_z
theorem zz57_after2 (N : Nat) : zz57_X2 (zz57_k2 N) = zz57_a2 := by kernel_rfl
theorem zz57_in2 (N : Nat) (o0 : Y5) (list1 t10 : Y4) (t11 t12 : Int) : zz57_R2 N N (zz57_K2 N) o0 list1 t10 t11 t12 = zz57_F2 N o0 list1 t10 t11 t12 :=
  have h : zz57_X2 (zz57_k2 N) = (zz57_a2) := zz57_after2 N
  ((iter_ex (fun st => by kernel_rfl) (fun st => by kernel_rfl)).trans (zz57_iter2 N (zz57_k2 N) (fun j st => (zz57_K2 N) (.exit j) st) N o0 list1 t10 t11 t12)).trans (congrArg (fun k => zz57_l2 N k N o0 list1 t10 t11 t12) h)
theorem run0_zz57 (N : Nat) (x : (S_zz57).a.den) : runF (A_zz57) N Try.f123 S_zz57 x = (zz57_s (zz57_R2 N N (zz57_K2 N)) x.1 x.2.1) := by kernel_rfl
theorem run_zz57 (N : Nat) (x : (S_zz57).a.den) : runF (A_zz57) N Try.f123 S_zz57 x = zz57 N x.1 x.2.1 := by
  refine (run0_zz57 N x).trans ?_
  rw [(funext fun o0 => (funext fun list1 => (funext fun t10 => (funext fun t11 => (funext fun t12 => zz57_in2 N o0 list1 t10 t11 t12)))))]
  rfl
theorem fn_zz57 : FnOk Try.prog 123 := ⟨_, Try.func123, by kernel_rfl, by kernel_rfl⟩
theorem good_zz57 : Gx.Good Try.prog 123 S_zz57 := good_of_run Try.func123 (of_decide_eq_true (by kernel_rfl)) fun x r h => ⟨A_zz57, big, mkCfg_ok tabOk, mkCfg_sigs (show SigsOk Try.prog [] from trivial), (run_zz57 big x).trans h⟩

/-! zz58 -/
def zz58_s (z_0 : Int) (p_1 : Y5) (p_2 p_3 : Int) : Z1 :=
  (atI p_1 z_0).bind fun xq1 =>
  (atI xq1 p_2).bind fun xq2 =>
  cond xq2
  ((atI p_1 z_0).bind fun xq3 =>
  (atI xq3 p_3).bind fun xq4 =>
  some (xq4, (())))
  (some (false, (())))
def zz58 (z_0 : Int) (p_1 : Y5) (p_2 p_3 : Int) : Z1 := zz58_s z_0 p_1 p_2 p_3
def S_zz58 : Sig := { a := (.pair I (.pair (.ptr (.sl (.sl .bool))) (.pair (.ptr I) (.pair (.ptr I) .unit)))), md := [0, 0, 0, 0], mf := [], m := .unit, r := .bool, rf := .i, f := fun x => zz58 x.1 x.2.1 x.2.2.1 x.2.2.2.1 }
def A_zz58 : Cfg := mkCfg tab [] []
theorem run_zz58 (N : Nat) (x : (S_zz58).a.den) : runF (A_zz58) N Try.f124 S_zz58 x = zz58 x.1 x.2.1 x.2.2.1 x.2.2.2.1 := by kernel_rfl
theorem fn_zz58 : FnOk Try.prog 124 := ⟨_, Try.func124, by kernel_rfl, by kernel_rfl⟩
theorem good_zz58 : Gx.Good Try.prog 124 S_zz58 := good_of_run Try.func124 (of_decide_eq_true (by kernel_rfl)) fun x r h => ⟨A_zz58, big, mkCfg_ok tabOk, mkCfg_sigs (show SigsOk Try.prog [] from trivial), (run_zz58 big x).trans h⟩

/-! zz59 -/
def zz59_b3 (rec : (Y5 × Z0) → Y4 → Int → Int → Option Z11) (k : Y4 → Option Z11) (so1 : (Y5 × Z0)) (list5 : Y4) (t9 t10 : Int) : Option Z11 :=
  cond (decide (t10 < t9))
  ((zz58 t10 so1.1 so1.2.1 so1.2.2.1).bind fun rq1 =>
  cond rq1.1
  ((appI list5 [t10]).bind fun xq2 =>
  rec so1 xq2 t9 (IntKind.i64.wrap (t10 + (1 : Int))))
  (rec so1 list5 t9 (IntKind.i64.wrap (t10 + (1 : Int)))))
  (k list5)
def zz59_a3 (list5 : Y4) : Option Z11 :=
  some (list5, (()))
def zz59_s (L3 : (Y5 × Z0) → Y4 → Int → Int → Option Z11) (o_0 : Y5) (so_1 : (Y5 × Z0)) : Option Z11 :=
  L3 so_1 [] (o_0.length : Int) (0 : Int)
def zz59_l3 (N : Nat) (k : Y4 → Option Z11) : Nat → (Y5 × Z0) → Y4 → Int → Int → Option Z11
  | 0, _, _, _, _ => none
  | m + 1, so1, list5, t9, t10 => zz59_b3 (zz59_l3 N k m) k so1 list5 t9 t10
def zz59_F3 (N : Nat) (so1 : (Y5 × Z0)) (list5 : Y4) (t9 t10 : Int) : Option Z11 := zz59_l3 N (zz59_a3) N so1 list5 t9 t10
def zz59 (N : Nat) (o_0 : Y5) (so_1 : (Y5 × Z0)) : Option Z11 := zz59_s (zz59_F3 N) o_0 so_1
def S_zz59 : Sig := { a := (.pair (.sl (.sl .bool)) (.pair (.clo 124 0 (.pair (.ptr (.sl (.sl .bool))) (.pair (.ptr I) (.pair (.ptr I) .unit)))) .unit)), md := [0, 0], mf := [], m := .unit, r := (.sl I), rf := (.o .i), f := fun x => zz59 big x.1 x.2.1 }
def A_zz59 : Cfg := mkCfg tab [(124, S_zz58)] [(6, [.drop, .as (.clo 124 0 (.pair (.ptr (.sl (.sl .bool))) (.pair (.ptr I) (.pair (.ptr I) .unit)))) .i, .drop, .drop, .drop, .as (.sl I) (.o .i), .drop, .drop, .drop, .as I .i, .as I .i]), (17, [.drop, .drop, .drop, .drop, .drop, .as (.sl I) (.o .i)])]
noncomputable def zz59_R3 (N n : Nat) (K : Ex → St → Option Z11) (so1 : (Y5 × Z0)) (list5 : Y4) (t9 t10 : Int) : Option Z11 := iter ((A_zz59).shape 6) (run (A_zz59) N (codeAt Try.f62 [1, 1, 0, 1, 0, 0])) n ([.u, .val (.clo 124 0 (.pair (.ptr (.sl (.sl .bool))) (.pair (.ptr I) (.pair (.ptr I) .unit)))) .i so1, .u, .u, .u, .val (.sl I) (.o .i) list5, .u, .u, .u, .val I .i t9, .val I .i t10] ++ List.replicate 11 .u) K
noncomputable abbrev zz59_z : Ex → St → Option Z11 := finish (A_zz59) S_zz59 Try.f62.results.toList
noncomputable abbrev zz59_X3 (kX : St → Option Z11) : Y4 → Option Z11 := fun (list5 : Y4) => kX ([.u, .u, .u, .u, .u, .val (.sl I) (.o .i) list5] ++ List.replicate 16 .u)
noncomputable abbrev zz59_E3 (kX : St → Option Z11) (kO : Nat → St → Option Z11) : Ex → St → Option Z11 := exK zz59_z 0 ((A_zz59).shape 17) kX kO
theorem zz59_step3 (N m : Nat) (kX : St → Option Z11) (kO : Nat → St → Option Z11) (so1 : (Y5 × Z0)) (list5 : Y4) (t9 t10 : Int) : zz59_R3 N (m + 1) (zz59_E3 kX kO) so1 list5 t9 t10 = zz59_b3 (zz59_R3 N m (zz59_E3 kX kO)) (zz59_X3 kX) so1 list5 t9 t10 := by kernel_rfl
theorem zz59_iter3 (N : Nat) (kX : St → Option Z11) (kO : Nat → St → Option Z11) : ∀ (n : Nat) (so1 : (Y5 × Z0)) (list5 : Y4) (t9 t10 : Int), zz59_R3 N n (zz59_E3 kX kO) so1 list5 t9 t10 = zz59_l3 N (zz59_X3 kX) n so1 list5 t9 t10
  | 0, _, _, _, _ => rfl
  | m + 1, so1, list5, t9, t10 => by
    have hrec : zz59_R3 N m (zz59_E3 kX kO) = (zz59_l3 N (zz59_X3 kX) m) := (funext fun so1 => (funext fun list5 => (funext fun t9 => (funext fun t10 => zz59_iter3 N kX kO m so1 list5 t9 t10))))
    refine (zz59_step3 N m kX kO so1 list5 t9 t10).trans ?_
    rw [hrec]
    rfl
noncomputable abbrev zz59_K3 (N : Nat) : Ex → St → Option Z11 := (blockK 0 (seqK ((A_zz59).shape 17) (gated ((A_zz59).shape 500008).isSome N (run (A_zz59) N (codeAt Try.f62 [1, 1, 1]))) zz59_z))
noncomputable abbrev zz59_k3 (N : Nat) : St → Option Z11 := fun st' => run (A_zz59) N (codeAt Try.f62 [1, 1, 1]) st' zz59_z
theorem zz59_after3 (N : Nat) (list5 : Y4) : zz59_X3 (zz59_k3 N) list5 = zz59_a3 list5 := by kernel_rfl
theorem zz59_in3 (N : Nat) (so1 : (Y5 × Z0)) (list5 : Y4) (t9 t10 : Int) : zz59_R3 N N (zz59_K3 N) so1 list5 t9 t10 = zz59_F3 N so1 list5 t9 t10 :=
  have h : zz59_X3 (zz59_k3 N) = (zz59_a3) := (funext fun list5 => zz59_after3 N list5)
  ((iter_ex (fun st => by kernel_rfl) (fun st => by kernel_rfl)).trans (zz59_iter3 N (zz59_k3 N) (fun j st => (zz59_K3 N) (.exit j) st) N so1 list5 t9 t10)).trans (congrArg (fun k => zz59_l3 N k N so1 list5 t9 t10) h)
theorem run0_zz59 (N : Nat) (x : (S_zz59).a.den) : runF (A_zz59) N Try.f62 S_zz59 x = (zz59_s (zz59_R3 N N (zz59_K3 N)) x.1 x.2.1) := by kernel_rfl
theorem run_zz59 (N : Nat) (x : (S_zz59).a.den) : runF (A_zz59) N Try.f62 S_zz59 x = zz59 N x.1 x.2.1 := by
  refine (run0_zz59 N x).trans ?_
  rw [(funext fun so1 => (funext fun list5 => (funext fun t9 => (funext fun t10 => zz59_in3 N so1 list5 t9 t10))))]
  rfl
theorem fn_zz59 : FnOk Try.prog 62 := ⟨_, Try.func62, by kernel_rfl, by kernel_rfl⟩
theorem good_zz59 : Gx.Good Try.prog 62 S_zz59 := good_of_run Try.func62 (of_decide_eq_true (by kernel_rfl)) fun x r h => ⟨A_zz59, big, mkCfg_ok tabOk, mkCfg_sigs (show SigsOk Try.prog [(124, S_zz58)] from ⟨⟨fn_zz58, good_zz58⟩, trivial⟩), (run_zz59 big x).trans h⟩

/-! zz60 -/
def zz60_b7 (rec : Y5 → Y3 → Int → Y4 → Int → Int → Int → Int → Z6) (k : Y5 → Y3 → Y4 → Int → Int → Z6) (o1 : Y5) (table4 : Y3) (x5 : Int) (row6 : Y4) (t11 t12 t17 t18 : Int) : Z6 :=
  cond (decide (t18 < t17))
  ((zz59 big o1 (o1, x5, t18, ())).bind fun rq1 =>
  (zz57 big o1 rq1.1).bind fun rq2 =>
  cond (decide (rq2.1 < (0 : Int)))
  (some (([], false, ()), (())))
  ((appI row6 [rq2.1]).bind fun xq3 =>
  rec o1 table4 x5 xq3 t11 t12 t17 (IntKind.i64.wrap (t18 + (1 : Int)))))
  (k o1 table4 row6 t11 t12)
def zz60_a7 (rec : Y5 → Y3 → Int → Int → Z6) (o1 : Y5) (table4 : Y3) (row6 : Y4) (t11 t12 : Int) : Z6 :=
  (appI table4 [row6]).bind fun xq4 =>
  rec o1 xq4 t11 (IntKind.i64.wrap (t12 + (1 : Int)))
def zz60_b3 (L7 : Y5 → Y3 → Int → Y4 → Int → Int → Int → Int → Z6) (k : Y3 → Z6) (o1 : Y5) (table4 : Y3) (t11 t12 : Int) : Z6 :=
  cond (decide (t12 < t11))
  (L7 o1 table4 t12 [] t11 t12 (o1.length : Int) (0 : Int))
  (k table4)
def zz60_a3 (table4 : Y3) : Z6 :=
  some ((table4, true, ()), (()))
def zz60_s (L3 : Y5 → Y3 → Int → Int → Z6) (o_0 : Y5) : Z6 :=
  L3 o_0 [] (o_0.length : Int) (0 : Int)
def zz60_l7 (N : Nat) (k : Y5 → Y3 → Y4 → Int → Int → Z6) : Nat → Y5 → Y3 → Int → Y4 → Int → Int → Int → Int → Z6
  | 0, _, _, _, _, _, _, _, _ => none
  | m + 1, o1, table4, x5, row6, t11, t12, t17, t18 => zz60_b7 (zz60_l7 N k m) k o1 table4 x5 row6 t11 t12 t17 t18
def zz60_F7 (N : Nat) (rec : Y5 → Y3 → Int → Int → Z6) (k : Y3 → Z6) (o1 : Y5) (table4 : Y3) (x5 : Int) (row6 : Y4) (t11 t12 t17 t18 : Int) : Z6 := zz60_l7 N (zz60_a7 rec) N o1 table4 x5 row6 t11 t12 t17 t18
def zz60_l3 (N : Nat) (k : Y3 → Z6) : Nat → Y5 → Y3 → Int → Int → Z6
  | 0, _, _, _, _ => none
  | m + 1, o1, table4, t11, t12 => zz60_b3 (zz60_F7 N (zz60_l3 N k m) k) k o1 table4 t11 t12
def zz60_F3 (N : Nat) (o1 : Y5) (table4 : Y3) (t11 t12 : Int) : Z6 := zz60_l3 N (zz60_a3) N o1 table4 t11 t12
def zz60 (N : Nat) (o_0 : Y5) : Z6 := zz60_s (zz60_F3 N) o_0
def S_zz60 : Sig := { a := (.pair (.sl (.sl .bool)) .unit), md := [0], mf := [], m := .unit, r := (.tup (.pair (.sl (.sl I)) (.pair .bool .unit))), rf := (.p (.o (.o .i)) .i), f := fun x => zz60 big x.1 }
def A_zz60 : Cfg := mkCfg tab [(62, S_zz59), (123, S_zz57)] [(6, [.drop, .as (.ptr (.sl (.sl .bool))) .i, .drop, .drop, .as (.sl (.sl I)) (.o (.o .i)), .drop, .drop, .drop, .drop, .drop, .drop, .as I .i, .as I .i]), (14, [.drop, .as (.ptr (.sl (.sl .bool))) .i, .drop, .drop, .as (.sl (.sl I)) (.o (.o .i)), .as (.ptr I) .i, .as (.sl I) (.o .i), .drop, .drop, .drop, .drop, .as I .i, .as I .i, .drop, .drop, .drop, .drop, .as I .i, .as I .i]), (33, [.drop, .drop, .drop, .drop, .as (.sl (.sl I)) (.o (.o .i))]), (19, [.drop, .as (.ptr (.sl (.sl .bool))) .i, .drop, .drop, .as (.sl (.sl I)) (.o (.o .i)), .as (.ptr I) .i, .as (.sl I) (.o .i), .as (.ptr I) .i, .drop, .drop, .drop, .as I .i, .as I .i, .drop, .drop, .drop, .drop, .as I .i, .as I .i]), (29, [.drop, .as (.ptr (.sl (.sl .bool))) .i, .drop, .drop, .as (.sl (.sl I)) (.o (.o .i)), .drop, .as (.sl I) (.o .i), .drop, .drop, .drop, .drop, .as I .i, .as I .i])]
noncomputable def zz60_R3 (N n : Nat) (K : Ex → St → Z6) (o1 : Y5) (table4 : Y3) (t11 t12 : Int) : Z6 := iter ((A_zz60).shape 6) (run (A_zz60) N (codeAt Try.f99 [1, 1, 0, 1, 0, 0])) n ([.u, .val (.ptr (.sl (.sl .bool))) .i o1, .u, .u, .val (.sl (.sl I)) (.o (.o .i)) table4, .u, .u, .u, .u, .u, .u, .val I .i t11, .val I .i t12] ++ List.replicate 26 .u) K
noncomputable def zz60_R7 (N n : Nat) (K : Ex → St → Z6) (o1 : Y5) (table4 : Y3) (x5 : Int) (row6 : Y4) (t11 t12 t17 t18 : Int) : Z6 := iter ((A_zz60).shape 14) (run (A_zz60) N (codeAt Try.f99 [1, 1, 0, 1, 0, 0, 1, 1, 0, 0, 1, 1, 0, 1, 0, 0])) n ([.u, .val (.ptr (.sl (.sl .bool))) .i o1, .u, .u, .val (.sl (.sl I)) (.o (.o .i)) table4, .val (.ptr I) .i x5, .val (.sl I) (.o .i) row6, .u, .u, .u, .u, .val I .i t11, .val I .i t12, .u, .u, .u, .u, .val I .i t17, .val I .i t18] ++ List.replicate 20 .u) K
noncomputable abbrev zz60_z : Ex → St → Z6 := finish (A_zz60) S_zz60 Try.f99.results.toList
noncomputable abbrev zz60_X3 (kX : St → Z6) : Y3 → Z6 := fun (table4 : Y3) => kX ([.u, .u, .u, .u, .val (.sl (.sl I)) (.o (.o .i)) table4] ++ List.replicate 34 .u)
noncomputable abbrev zz60_E3 (kX : St → Z6) (kO : Nat → St → Z6) : Ex → St → Z6 := exK zz60_z 0 ((A_zz60).shape 33) kX kO
noncomputable abbrev zz60_X7 (kX : St → Z6) : Y5 → Y3 → Y4 → Int → Int → Z6 := fun (o1 : Y5) (table4 : Y3) (row6 : Y4) (t11 t12 : Int) => kX ([.u, .val (.ptr (.sl (.sl .bool))) .i o1, .u, .u, .val (.sl (.sl I)) (.o (.o .i)) table4, .u, .val (.sl I) (.o .i) row6, .u, .u, .u, .u, .val I .i t11, .val I .i t12] ++ List.replicate 26 .u)
noncomputable abbrev zz60_E7 (kX : St → Z6) (kO : Nat → St → Z6) : Ex → St → Z6 := exK zz60_z 2 ((A_zz60).shape 29) kX kO
theorem zz60_step7 (N m : Nat) (kX : St → Z6) (kO : Nat → St → Z6) (o1 : Y5) (table4 : Y3) (x5 : Int) (row6 : Y4) (t11 t12 t17 t18 : Int) : zz60_R7 N (m + 1) (zz60_E7 kX kO) o1 table4 x5 row6 t11 t12 t17 t18 = zz60_b7 (zz60_R7 N m (zz60_E7 kX kO)) (zz60_X7 kX) o1 table4 x5 row6 t11 t12 t17 t18 := by kernel_rfl
theorem zz60_iter7 (N : Nat) (kX : St → Z6) (kO : Nat → St → Z6) : ∀ (n : Nat) (o1 : Y5) (table4 : Y3) (x5 : Int) (row6 : Y4) (t11 t12 t17 t18 : Int), zz60_R7 N n (zz60_E7 kX kO) o1 table4 x5 row6 t11 t12 t17 t18 = zz60_l7 N (zz60_X7 kX) n o1 table4 x5 row6 t11 t12 t17 t18
  | 0, _, _, _, _, _, _, _, _ => rfl
  | m + 1, o1, table4, x5, row6, t11, t12, t17, t18 => by
    have hrec : zz60_R7 N m (zz60_E7 kX kO) = (zz60_l7 N (zz60_X7 kX) m) := (funext fun o1 => (funext fun table4 => (funext fun x5 => (funext fun row6 => (funext fun t11 => (funext fun t12 => (funext fun t17 => (funext fun t18 => zz60_iter7 N kX kO m o1 table4 x5 row6 t11 t12 t17 t18))))))))
    refine (zz60_step7 N m kX kO o1 table4 x5 row6 t11 t12 t17 t18).trans ?_
    rw [hrec]
    rfl
noncomputable abbrev zz60_K7 (N m : Nat) (kX : St → Z6) (kO : Nat → St → Z6) : Ex → St → Z6 := (blockK 2 (seqK ((A_zz60).shape 29) (gated ((A_zz60).shape 500014).isSome N (run (A_zz60) N (codeAt Try.f99 [1, 1, 0, 1, 0, 0, 1, 1, 0, 0, 1, 1, 1]))) (blockK 1 (seqK ((A_zz60).shape 31) (gated ((A_zz60).shape 500015).isSome N (run (A_zz60) N (codeAt Try.f99 [1, 1, 0, 1, 0, 0, 1, 1, 1]))) (iterK ((A_zz60).shape 6) (run (A_zz60) N (codeAt Try.f99 [1, 1, 0, 1, 0, 0])) m (zz60_E3 kX kO))))))
noncomputable abbrev zz60_k7 (N m : Nat) (kX : St → Z6) (kO : Nat → St → Z6) : St → Z6 := fun st' => run (A_zz60) N (codeAt Try.f99 [1, 1, 0, 1, 0, 0, 1, 1, 0, 0, 1, 1, 1]) st' (blockK 1 (seqK ((A_zz60).shape 31) (gated ((A_zz60).shape 500015).isSome N (run (A_zz60) N (codeAt Try.f99 [1, 1, 0, 1, 0, 0, 1, 1, 1]))) (iterK ((A_zz60).shape 6) (run (A_zz60) N (codeAt Try.f99 [1, 1, 0, 1, 0, 0])) m (zz60_E3 kX kO))))
theorem zz60_after7 (N m : Nat) (kX : St → Z6) (kO : Nat → St → Z6) (o1 : Y5) (table4 : Y3) (row6 : Y4) (t11 t12 : Int) : zz60_X7 (zz60_k7 N m kX kO) o1 table4 row6 t11 t12 = zz60_a7 (zz60_R3 N m (zz60_E3 kX kO)) o1 table4 row6 t11 t12 := by kernel_rfl
theorem zz60_in7 (N m : Nat) (kX : St → Z6) (kO : Nat → St → Z6) (recF : Y5 → Y3 → Int → Int → Z6) (hrec : zz60_R3 N m (zz60_E3 kX kO) = recF) (o1 : Y5) (table4 : Y3) (x5 : Int) (row6 : Y4) (t11 t12 t17 t18 : Int) : zz60_R7 N N (zz60_K7 N m kX kO) o1 table4 x5 row6 t11 t12 t17 t18 = zz60_F7 N recF (zz60_X3 kX) o1 table4 x5 row6 t11 t12 t17 t18 :=
  have h : zz60_X7 (zz60_k7 N m kX kO) = (zz60_a7 recF) := (funext fun o1 => (funext fun table4 => (funext fun row6 => (funext fun t11 => (funext fun t12 => (zz60_after7 N m kX kO o1 table4 row6 t11 t12).trans (by rw [hrec]))))))
  ((iter_ex (fun st => by kernel_rfl) (fun st => by kernel_rfl)).trans (zz60_iter7 N (zz60_k7 N m kX kO) (fun j st => (zz60_K7 N m kX kO) (.exit j) st) N o1 table4 x5 row6 t11 t12 t17 t18)).trans (congrArg (fun k => zz60_l7 N k N o1 table4 x5 row6 t11 t12 t17 t18) h)
theorem zz60_step3 (N m : Nat) (kX : St → Z6) (kO : Nat → St → Z6) (o1 : Y5) (table4 : Y3) (t11 t12 : Int) : zz60_R3 N (m + 1) (zz60_E3 kX kO) o1 table4 t11 t12 = zz60_b3 (zz60_R7 N N (zz60_K7 N m kX kO)) (zz60_X3 kX) o1 table4 t11 t12 := by kernel_rfl
theorem zz60_iter3 (N : Nat) (kX : St → Z6) (kO : Nat → St → Z6) : ∀ (n : Nat) (o1 : Y5) (table4 : Y3) (t11 t12 : Int), zz60_R3 N n (zz60_E3 kX kO) o1 table4 t11 t12 = zz60_l3 N (zz60_X3 kX) n o1 table4 t11 t12
  | 0, _, _, _, _ => rfl
  | m + 1, o1, table4, t11, t12 => by
    have hrec : zz60_R3 N m (zz60_E3 kX kO) = (zz60_l3 N (zz60_X3 kX) m) := (funext fun o1 => (funext fun table4 => (funext fun t11 => (funext fun t12 => zz60_iter3 N kX kO m o1 table4 t11 t12))))
    refine (zz60_step3 N m kX kO o1 table4 t11 t12).trans ?_
    rw [(funext fun o1 => (funext fun table4 => (funext fun x5 => (funext fun row6 => (funext fun t11 => (funext fun t12 => (funext fun t17 => (funext fun t18 => zz60_in7 N m kX kO (zz60_l3 N (zz60_X3 kX) m) hrec o1 table4 x5 row6 t11 t12 t17 t18))))))))]
    rfl
noncomputable abbrev zz60_K3 (N : Nat) : Ex → St → Z6 := (blockK 0 (seqK ((A_zz60).shape 33) (gated ((A_zz60).shape 500016).isSome N (run (A_zz60) N (codeAt Try.f99 [1, 1, 1]))) zz60_z))
noncomputable abbrev zz60_k3 (N : Nat) : St → Z6 := fun st' => run (A_zz60) N (codeAt Try.f99 [1, 1, 1]) st' zz60_z
theorem zz60_after3 (N : Nat) (table4 : Y3) : zz60_X3 (zz60_k3 N) table4 = zz60_a3 table4 := by kernel_rfl
theorem zz60_in3 (N : Nat) (o1 : Y5) (table4 : Y3) (t11 t12 : Int) : zz60_R3 N N (zz60_K3 N) o1 table4 t11 t12 = zz60_F3 N o1 table4 t11 t12 :=
  have h : zz60_X3 (zz60_k3 N) = (zz60_a3) := (funext fun table4 => zz60_after3 N table4)
  ((iter_ex (fun st => by kernel_rfl) (fun st => by kernel_rfl)).trans (zz60_iter3 N (zz60_k3 N) (fun j st => (zz60_K3 N) (.exit j) st) N o1 table4 t11 t12)).trans (congrArg (fun k => zz60_l3 N k N o1 table4 t11 t12) h)
theorem run0_zz60 (N : Nat) (x : (S_zz60).a.den) : runF (A_zz60) N Try.f99 S_zz60 x = (zz60_s (zz60_R3 N N (zz60_K3 N)) x.1) := by kernel_rfl
theorem run_zz60 (N : Nat) (x : (S_zz60).a.den) : runF (A_zz60) N Try.f99 S_zz60 x = zz60 N x.1 := by
  refine (run0_zz60 N x).trans ?_
  rw [(funext fun o1 => (funext fun table4 => (funext fun t11 => (funext fun t12 => zz60_in3 N o1 table4 t11 t12))))]
  rfl
theorem fn_zz60 : FnOk Try.prog 99 := ⟨_, Try.func99, by kernel_rfl, by kernel_rfl⟩
theorem good_zz60 : Gx.Good Try.prog 99 S_zz60 := good_of_run Try.func99 (of_decide_eq_true (by kernel_rfl)) fun x r h => ⟨A_zz60, big, mkCfg_ok tabOk, mkCfg_sigs (show SigsOk Try.prog [(62, S_zz59), (123, S_zz57)] from ⟨⟨fn_zz59, good_zz59⟩, ⟨fn_zz57, good_zz57⟩, trivial⟩), (run_zz60 big x).trans h⟩

/-! zz61 -/
def zz61_b6 (rec : Y5 → Y5 → Int → Int → Int → Int → Int → Z9) (k : Y5 → Y5 → Int → Int → Z9) (o0 d3 : Y5) (x4 t10 t11 t15 t16 : Int) : Z9 :=
  cond (decide (t16 < t15))
  ((atI d3 x4).bind fun _ =>
  (d3[x4.toNat]?).bind fun xq2 =>
  (atI o0 t16).bind fun xq3 =>
  (atI xq3 x4).bind fun xq4 =>
  (d3[x4.toNat]?).bind fun xq5 =>
  (atI xq5 t16).bind fun _ =>
  (d3[x4.toNat]?).bind fun xq6 =>
  (xq6[t16.toNat]?).bind fun xq7 =>
  rec o0 (d3.set x4.toNat (xq6.set t16.toNat xq4)) x4 t10 t11 t15 (IntKind.i64.wrap (t16 + (1 : Int))))
  (k o0 d3 t10 t11)
def zz61_a6 (rec : Y5 → Y5 → Int → Int → Z9) (o0 d3 : Y5) (t10 t11 : Int) : Z9 :=
  rec o0 d3 t10 (IntKind.i64.wrap (t11 + (1 : Int)))
def zz61_b3 (L6 : Y5 → Y5 → Int → Int → Int → Int → Int → Z9) (k : Y5 → Z9) (o0 d3 : Y5) (t10 t11 : Int) : Z9 :=
  cond (decide (t11 < t10))
  (L6 o0 d3 t11 t10 t11 (o0.length : Int) (0 : Int))
  (k d3)
def zz61_a3 (d3 : Y5) : Z9 :=
  some (d3, (()))
def zz61_s (L3 : Y5 → Y5 → Int → Int → Z9) (o_0 : Y5) : Z9 :=
  (zz52 big (o_0.length : Int)).bind fun rq1 =>
  L3 o_0 rq1.1 (o_0.length : Int) (0 : Int)
def zz61_l6 (N : Nat) (k : Y5 → Y5 → Int → Int → Z9) : Nat → Y5 → Y5 → Int → Int → Int → Int → Int → Z9
  | 0, _, _, _, _, _, _, _ => none
  | m + 1, o0, d3, x4, t10, t11, t15, t16 => zz61_b6 (zz61_l6 N k m) k o0 d3 x4 t10 t11 t15 t16
def zz61_F6 (N : Nat) (rec : Y5 → Y5 → Int → Int → Z9) (k : Y5 → Z9) (o0 d3 : Y5) (x4 t10 t11 t15 t16 : Int) : Z9 := zz61_l6 N (zz61_a6 rec) N o0 d3 x4 t10 t11 t15 t16
def zz61_l3 (N : Nat) (k : Y5 → Z9) : Nat → Y5 → Y5 → Int → Int → Z9
  | 0, _, _, _, _ => none
  | m + 1, o0, d3, t10, t11 => zz61_b3 (zz61_F6 N (zz61_l3 N k m) k) k o0 d3 t10 t11
def zz61_F3 (N : Nat) (o0 d3 : Y5) (t10 t11 : Int) : Z9 := zz61_l3 N (zz61_a3) N o0 d3 t10 t11
def zz61 (N : Nat) (o_0 : Y5) : Z9 := zz61_s (zz61_F3 N) o_0
def S_zz61 : Sig := { a := (.pair (.sl (.sl .bool)) .unit), md := [0], mf := [], m := .unit, r := (.sl (.sl .bool)), rf := (.o (.o .i)), f := fun x => zz61 big x.1 }
def A_zz61 : Cfg := mkCfg tab [(109, S_zz52)] [(6, [.as (.sl (.sl .bool)) .i, .drop, .drop, .as (.sl (.sl .bool)) (.o (.o .i)), .drop, .drop, .drop, .drop, .drop, .drop, .as I .i, .as I .i]), (12, [.as (.sl (.sl .bool)) .i, .drop, .drop, .as (.sl (.sl .bool)) (.o (.o .i)), .as I .i, .drop, .drop, .drop, .drop, .drop, .as I .i, .as I .i, .drop, .drop, .drop, .as I .i, .as I .i]), (23, [.drop, .drop, .drop, .as (.sl (.sl .bool)) (.o (.o .i))]), (21, [.as (.sl (.sl .bool)) .i, .drop, .drop, .as (.sl (.sl .bool)) (.o (.o .i)), .drop, .drop, .drop, .drop, .drop, .drop, .as I .i, .as I .i])]
noncomputable def zz61_R3 (N n : Nat) (K : Ex → St → Z9) (o0 d3 : Y5) (t10 t11 : Int) : Z9 := iter ((A_zz61).shape 6) (run (A_zz61) N (codeAt Try.f100 [1, 1, 0, 1, 0, 0])) n ([.val (.sl (.sl .bool)) .i o0, .u, .u, .val (.sl (.sl .bool)) (.o (.o .i)) d3, .u, .u, .u, .u, .u, .u, .val I .i t10, .val I .i t11] ++ List.replicate 23 .u) K
noncomputable def zz61_R6 (N n : Nat) (K : Ex → St → Z9) (o0 d3 : Y5) (x4 t10 t11 t15 t16 : Int) : Z9 := iter ((A_zz61).shape 12) (run (A_zz61) N (codeAt Try.f100 [1, 1, 0, 1, 0, 0, 1, 1, 0, 0, 1, 1, 0, 0])) n ([.val (.sl (.sl .bool)) .i o0, .u, .u, .val (.sl (.sl .bool)) (.o (.o .i)) d3, .val I .i x4, .u, .u, .u, .u, .u, .val I .i t10, .val I .i t11, .u, .u, .u, .val I .i t15, .val I .i t16] ++ List.replicate 18 .u) K
noncomputable abbrev zz61_z : Ex → St → Z9 := finish (A_zz61) S_zz61 Try.f100.results.toList
noncomputable abbrev zz61_X3 (kX : St → Z9) : Y5 → Z9 := fun (d3 : Y5) => kX ([.u, .u, .u, .val (.sl (.sl .bool)) (.o (.o .i)) d3] ++ List.replicate 31 .u)
noncomputable abbrev zz61_E3 (kX : St → Z9) (kO : Nat → St → Z9) : Ex → St → Z9 := exK zz61_z 0 ((A_zz61).shape 23) kX kO
noncomputable abbrev zz61_X6 (kX : St → Z9) : Y5 → Y5 → Int → Int → Z9 := fun (o0 d3 : Y5) (t10 t11 : Int) => kX ([.val (.sl (.sl .bool)) .i o0, .u, .u, .val (.sl (.sl .bool)) (.o (.o .i)) d3, .u, .u, .u, .u, .u, .u, .val I .i t10, .val I .i t11] ++ List.replicate 23 .u)
noncomputable abbrev zz61_E6 (kX : St → Z9) (kO : Nat → St → Z9) : Ex → St → Z9 := exK zz61_z 2 ((A_zz61).shape 21) kX kO
theorem zz61_step6 (N m : Nat) (kX : St → Z9) (kO : Nat → St → Z9) (o0 d3 : Y5) (x4 t10 t11 t15 t16 : Int) : zz61_R6 N (m + 1) (zz61_E6 kX kO) o0 d3 x4 t10 t11 t15 t16 = zz61_b6 (zz61_R6 N m (zz61_E6 kX kO)) (zz61_X6 kX) o0 d3 x4 t10 t11 t15 t16 := by kernel_rfl
theorem zz61_iter6 (N : Nat) (kX : St → Z9) (kO : Nat → St → Z9) : ∀ (n : Nat) (o0 d3 : Y5) (x4 t10 t11 t15 t16 : Int), zz61_R6 N n (zz61_E6 kX kO) o0 d3 x4 t10 t11 t15 t16 = zz61_l6 N (zz61_X6 kX) n o0 d3 x4 t10 t11 t15 t16
  | 0, _, _, _, _, _, _, _ => rfl
  | m + 1, o0, d3, x4, t10, t11, t15, t16 => by
    have hrec : zz61_R6 N m (zz61_E6 kX kO) = (zz61_l6 N (zz61_X6 kX) m) := (funext fun o0 => (funext fun d3 => (funext fun x4 => (funext fun t10 => (funext fun t11 => (funext fun t15 => (funext fun t16 => zz61_iter6 N kX kO m o0 d3 x4 t10 t11 t15 t16)))))))
    refine (zz61_step6 N m kX kO o0 d3 x4 t10 t11 t15 t16).trans ?_
    rw [hrec]
    rfl
noncomputable abbrev zz61_K6 (N m : Nat) (kX : St → Z9) (kO : Nat → St → Z9) : Ex → St → Z9 := (blockK 2 (blockK 1 (seqK ((A_zz61).shape 21) (gated ((A_zz61).shape 500010).isSome N (run (A_zz61) N (codeAt Try.f100 [1, 1, 0, 1, 0, 0, 1, 1, 1]))) (iterK ((A_zz61).shape 6) (run (A_zz61) N (codeAt Try.f100 [1, 1, 0, 1, 0, 0])) m (zz61_E3 kX kO)))))
noncomputable abbrev zz61_k6 (N m : Nat) (kX : St → Z9) (kO : Nat → St → Z9) : St → Z9 := fun st' => run (A_zz61) N (codeAt Try.f100 [1, 1, 0, 1, 0, 0, 1, 1, 1]) st' (iterK ((A_zz61).shape 6) (run (A_zz61) N (codeAt Try.f100 [1, 1, 0, 1, 0, 0])) m (zz61_E3 kX kO))
theorem zz61_after6 (N m : Nat) (kX : St → Z9) (kO : Nat → St → Z9) (o0 d3 : Y5) (t10 t11 : Int) : zz61_X6 (zz61_k6 N m kX kO) o0 d3 t10 t11 = zz61_a6 (zz61_R3 N m (zz61_E3 kX kO)) o0 d3 t10 t11 := by kernel_rfl
theorem zz61_in6 (N m : Nat) (kX : St → Z9) (kO : Nat → St → Z9) (recF : Y5 → Y5 → Int → Int → Z9) (hrec : zz61_R3 N m (zz61_E3 kX kO) = recF) (o0 d3 : Y5) (x4 t10 t11 t15 t16 : Int) : zz61_R6 N N (zz61_K6 N m kX kO) o0 d3 x4 t10 t11 t15 t16 = zz61_F6 N recF (zz61_X3 kX) o0 d3 x4 t10 t11 t15 t16 :=
  have h : zz61_X6 (zz61_k6 N m kX kO) = (zz61_a6 recF) := (funext fun o0 => (funext fun d3 => (funext fun t10 => (funext fun t11 => (zz61_after6 N m kX kO o0 d3 t10 t11).trans (by rw [hrec])))))
  ((iter_ex (fun st => by kernel_rfl) (fun st => by kernel_rfl)).trans (zz61_iter6 N (zz61_k6 N m kX kO) (fun j st => (zz61_K6 N m kX kO) (.exit j) st) N o0 d3 x4 t10 t11 t15 t16)).trans (congrArg (fun k => zz61_l6 N k N o0 d3 x4 t10 t11 t15 t16) h)
theorem zz61_step3 (N m : Nat) (kX : St → Z9) (kO : Nat → St → Z9) (o0 d3 : Y5) (t10 t11 : Int) : zz61_R3 N (m + 1) (zz61_E3 kX kO) o0 d3 t10 t11 = zz61_b3 (zz61_R6 N N (zz61_K6 N m kX kO)) (zz61_X3 kX) o0 d3 t10 t11 := by kernel_rfl
theorem zz61_iter3 (N : Nat) (kX : St → Z9) (kO : Nat → St → Z9) : ∀ (n : Nat) (o0 d3 : Y5) (t10 t11 : Int), zz61_R3 N n (zz61_E3 kX kO) o0 d3 t10 t11 = zz61_l3 N (zz61_X3 kX) n o0 d3 t10 t11
  | 0, _, _, _, _ => rfl
  | m + 1, o0, d3, t10, t11 => by
    have hrec : zz61_R3 N m (zz61_E3 kX kO) = (zz61_l3 N (zz61_X3 kX) m) := (funext fun o0 => (funext fun d3 => (funext fun t10 => (funext fun t11 => zz61_iter3 N kX kO m o0 d3 t10 t11))))
    refine (zz61_step3 N m kX kO o0 d3 t10 t11).trans ?_
    rw [(funext fun o0 => (funext fun d3 => (funext fun x4 => (funext fun t10 => (funext fun t11 => (funext fun t15 => (funext fun t16 => zz61_in6 N m kX kO (zz61_l3 N (zz61_X3 kX) m) hrec o0 d3 x4 t10 t11 t15 t16)))))))]
    rfl
noncomputable abbrev zz61_K3 (N : Nat) : Ex → St → Z9 := (blockK 0 (seqK ((A_zz61).shape 23) (gated ((A_zz61).shape 500011).isSome N (run (A_zz61) N (codeAt Try.f100 [1, 1, 1]))) zz61_z))
noncomputable abbrev zz61_k3 (N : Nat) : St → Z9 := fun st' => run (A_zz61) N (codeAt Try.f100 [1, 1, 1]) st' zz61_z
theorem zz61_after3 (N : Nat) (d3 : Y5) : zz61_X3 (zz61_k3 N) d3 = zz61_a3 d3 := by kernel_rfl
theorem zz61_in3 (N : Nat) (o0 d3 : Y5) (t10 t11 : Int) : zz61_R3 N N (zz61_K3 N) o0 d3 t10 t11 = zz61_F3 N o0 d3 t10 t11 :=
  have h : zz61_X3 (zz61_k3 N) = (zz61_a3) := (funext fun d3 => zz61_after3 N d3)
  ((iter_ex (fun st => by kernel_rfl) (fun st => by kernel_rfl)).trans (zz61_iter3 N (zz61_k3 N) (fun j st => (zz61_K3 N) (.exit j) st) N o0 d3 t10 t11)).trans (congrArg (fun k => zz61_l3 N k N o0 d3 t10 t11) h)
theorem run0_zz61 (N : Nat) (x : (S_zz61).a.den) : runF (A_zz61) N Try.f100 S_zz61 x = (zz61_s (zz61_R3 N N (zz61_K3 N)) x.1) := by kernel_rfl
theorem run_zz61 (N : Nat) (x : (S_zz61).a.den) : runF (A_zz61) N Try.f100 S_zz61 x = zz61 N x.1 := by
  refine (run0_zz61 N x).trans ?_
  rw [(funext fun o0 => (funext fun d3 => (funext fun t10 => (funext fun t11 => zz61_in3 N o0 d3 t10 t11))))]
  rfl
theorem fn_zz61 : FnOk Try.prog 100 := ⟨_, Try.func100, by kernel_rfl, by kernel_rfl⟩
theorem good_zz61 : Gx.Good Try.prog 100 S_zz61 := good_of_run Try.func100 (of_decide_eq_true (by kernel_rfl)) fun x r h => ⟨A_zz61, big, mkCfg_ok tabOk, mkCfg_sigs (show SigsOk Try.prog [(109, S_zz52)] from ⟨⟨fn_zz52, good_zz52⟩, trivial⟩), (run_zz61 big x).trans h⟩

/-! zz62 -/
def zz62_s (p_0 : Y2) : Option ((Y1 × (Bool × Unit)) × Unit) :=
  (zz56 big p_0).bind fun rq1 =>
  cond (!((((), rq1.1.2).2).1))
  (some ((none, false, ()), (())))
  (cond (decide ((rq1.1.1.length : Int) = (0 : Int)))
  (some ((none, false, ()), (())))
  ((zz60 big rq1.1.1).bind fun rq2 =>
  (zz61 big rq1.1.1).bind fun rq3 =>
  (zz60 big rq3.1).bind fun rq4 =>
  cond ((((), rq2.1.2).2).1)
  (some ((some (rq1.1.1, (rq2.1.1, (rq4.1.1, ()))), (((), rq4.1.2).2).1, ()), (())))
  (some ((some (rq1.1.1, (rq2.1.1, (rq4.1.1, ()))), false, ()), (())))))
def zz62 (p_0 : Y2) : Option ((Y1 × (Bool × Unit)) × Unit) := zz62_s p_0
def S_zz62 : Sig := { a := (.pair (.pair (.sl (.sl I)) .unit) .unit), md := [0], mf := [], m := .unit, r := (.tup (.pair (.opt (.pair (.sl (.sl .bool)) (.pair (.sl (.sl I)) (.pair (.sl (.sl I)) .unit)))) (.pair .bool .unit))), rf := .i, f := fun x => zz62 x.1 }
def A_zz62 : Cfg := mkCfg tab [(58, S_zz56), (99, S_zz60), (100, S_zz61)] []
theorem run_zz62 (N : Nat) (x : (S_zz62).a.den) : runF (A_zz62) N Try.f51 S_zz62 x = zz62 x.1 := by kernel_rfl
theorem fn_zz62 : FnOk Try.prog 51 := ⟨_, Try.func51, by kernel_rfl, by kernel_rfl⟩
theorem good_zz62 : Gx.Good Try.prog 51 S_zz62 := good_of_run Try.func51 (of_decide_eq_true (by kernel_rfl)) fun x r h => ⟨A_zz62, big, mkCfg_ok tabOk, mkCfg_sigs (show SigsOk Try.prog [(58, S_zz56), (99, S_zz60), (100, S_zz61)] from ⟨⟨fn_zz56, good_zz56⟩, ⟨fn_zz60, good_zz60⟩, ⟨fn_zz61, good_zz61⟩, trivial⟩), (run_zz62 big x).trans h⟩

/-! zz63 -/
def zz63_s (o_0 : Y5) (list_1 : Y4) : Z1 :=
  (zz54 big list_1 (o_0.length : Int)).bind fun rq1 =>
  some (rq1.1, (()))
def zz63 (o_0 : Y5) (list_1 : Y4) : Z1 := zz63_s o_0 list_1
def S_zz63 : Sig := { a := (.pair (.sl (.sl .bool)) (.pair (.sl I) .unit)), md := [0, 0], mf := [], m := .unit, r := .bool, rf := .i, f := fun x => zz63 x.1 x.2.1 }
def A_zz63 : Cfg := mkCfg tab [(101, S_zz54)] []
theorem run_zz63 (N : Nat) (x : (S_zz63).a.den) : runF (A_zz63) N Try.f52 S_zz63 x = zz63 x.1 x.2.1 := by kernel_rfl
theorem fn_zz63 : FnOk Try.prog 52 := ⟨_, Try.func52, by kernel_rfl, by kernel_rfl⟩
theorem good_zz63 : Gx.Good Try.prog 52 S_zz63 := good_of_run Try.func52 (of_decide_eq_true (by kernel_rfl)) fun x r h => ⟨A_zz63, big, mkCfg_ok tabOk, mkCfg_sigs (show SigsOk Try.prog [(101, S_zz54)] from ⟨⟨fn_zz54, good_zz54⟩, trivial⟩), (run_zz63 big x).trans h⟩

/-! zz64 -/
def zz64_s (w_0 : Y4) : Option ((Y4 × Z11) × Unit) :=
  (zz14 big w_0 (1 : Int)).bind fun rq1 =>
  (slI w_0 (1 : Int) rq1.1).bind fun xq2 =>
  (slI w_0 rq1.1 w_0.length).bind fun xq3 =>
  some ((xq2, xq3, ()), (()))
def zz64 (w_0 : Y4) : Option ((Y4 × Z11) × Unit) := zz64_s w_0
def S_zz64 : Sig := { a := (.pair (.sl I) .unit), md := [0], mf := [], m := .unit, r := (.tup (.pair (.sl I) (.pair (.sl I) .unit))), rf := .i, f := fun x => zz64 x.1 }
def A_zz64 : Cfg := mkCfg tab [(44, S_zz14)] []
theorem run_zz64 (N : Nat) (x : (S_zz64).a.den) : runF (A_zz64) N Try.f102 S_zz64 x = zz64 x.1 := by kernel_rfl
theorem fn_zz64 : FnOk Try.prog 102 := ⟨_, Try.func102, by kernel_rfl, by kernel_rfl⟩
theorem good_zz64 : Gx.Good Try.prog 102 S_zz64 := good_of_run Try.func102 (of_decide_eq_true (by kernel_rfl)) fun x r h => ⟨A_zz64, big, mkCfg_ok tabOk, mkCfg_sigs (show SigsOk Try.prog [(44, S_zz14)] from ⟨⟨fn_zz14, good_zz14⟩, trivial⟩), (run_zz64 big x).trans h⟩

/-! types of zz65 -/
def T_zz65 (self : (Y1 × (Y4 × Z11)) → Z4) : Sig := { a := (.pair (.opt (.pair (.sl (.sl .bool)) (.pair (.sl (.sl I)) (.pair (.sl (.sl I)) .unit)))) (.pair (.sl I) (.pair (.sl I) .unit))), md := [0, 0, 0], mf := [], m := .unit, r := I, rf := .i, f := self }

/-! zz65 -/
def zz65_s (self_zz65 : (Y1 × (Y4 × Z11)) → Z4) (l_0 : Y1) (w_1 elements_2 : Y4) : Z4 :=
  (atI w_1 (0 : Int)).bind fun xq1 =>
  cond (decide ((0 : Int) ≤ xq1))
  ((atI w_1 (0 : Int)).bind fun xq2 =>
  (atI elements_2 xq2).bind fun xq3 =>
  some (xq3, (())))
  ((zz64 w_1).bind fun rq4 =>
  (self_zz65 (l_0, rq4.1.1, elements_2, ())).bind fun rq5 =>
  (self_zz65 (l_0, rq4.1.2.1, elements_2, ())).bind fun rq6 =>
  (atI w_1 (0 : Int)).bind fun xq7 =>
  cond (decide (xq7 = (-1 : Int)))
  ((l_0).bind fun xq8 =>
  (atI xq8.2.1 rq5.1).bind fun xq9 =>
  (atI xq9 rq6.1).bind fun xq10 =>
  some (xq10, (())))
  ((l_0).bind fun xq11 =>
  (atI xq11.2.2.1 rq5.1).bind fun xq12 =>
  (atI xq12 rq6.1).bind fun xq13 =>
  some (xq13, (()))))
def zz65 (self_zz65 : (Y1 × (Y4 × Z11)) → Z4) (l_0 : Y1) (w_1 elements_2 : Y4) : Z4 := zz65_s self_zz65 l_0 w_1 elements_2
def A_zz65 (self_zz65 : (Y1 × (Y4 × Z11)) → Z4) : Cfg := mkCfg tab [(102, S_zz64), (53, T_zz65 self_zz65)] []
theorem run_zz65 (self_zz65 : (Y1 × (Y4 × Z11)) → Z4) (N : Nat) (x : ((T_zz65 self_zz65)).a.den) : runF (A_zz65 self_zz65) N Try.f53 (T_zz65 self_zz65) x = zz65 self_zz65 x.1 x.2.1 x.2.2.1 := by kernel_rfl
theorem fn_zz65 : FnOk Try.prog 53 := ⟨_, Try.func53, by kernel_rfl, by kernel_rfl⟩

/-! zz78 -/
def R_zz65 : Nat → (Y1 × (Y4 × Z11)) → Z4
  | 0, _ => none
  | d + 1, x => zz65 (R_zz65 d) x.1 x.2.1 x.2.2.1
def S_zz65 : Sig := T_zz65 (R_zz65 big)
theorem goodR_impl_lattice_wordValue : ∀ d, Gx.Good Try.prog 53 (T_zz65 (R_zz65 d))
  | 0 => fun x r h => by cases h
  | d + 1 => good_of_run Try.func53 (of_decide_eq_true (by kernel_rfl)) fun x r h => ⟨A_zz65 (R_zz65 d), big, mkCfg_ok tabOk, mkCfg_sigs (show SigsOk Try.prog [(102, S_zz64), (53, T_zz65 (R_zz65 d))] from ⟨⟨fn_zz64, good_zz64⟩, ⟨fn_zz65, goodR_impl_lattice_wordValue d⟩, trivial⟩), (run_zz65 (R_zz65 d) big x).trans h⟩
theorem good_zz65 : Gx.Good Try.prog 53 S_zz65 := goodR_impl_lattice_wordValue big

/-! zz67 -/
def zz67_s (p_0 : Y2) (w_1 elements_2 : Y4) : Option ((Int × (Bool × Unit)) × Unit) :=
  (zz62 p_0).bind fun rq1 =>
  cond (!rq1.1.2.1)
  (some (((0 : Int), false, ()), (())))
  ((zz15 w_1).bind fun rq2 =>
  cond (!rq2.1)
  (some (((0 : Int), false, ()), (())))
  (cond (decide ((elements_2.length : Int) ≠ (5 : Int)))
  (some (((0 : Int), false, ()), (())))
  ((rq1.1.1).bind fun xq3 =>
  (zz63 xq3.1 elements_2).bind fun rq4 =>
  cond (!rq4.1)
  (some (((0 : Int), false, ()), (())))
  ((R_zz65 big (rq1.1.1, w_1, elements_2, ())).bind fun rq5 =>
  some ((rq5.1, true, ()), (()))))))
def zz67 (p_0 : Y2) (w_1 elements_2 : Y4) : Option ((Int × (Bool × Unit)) × Unit) := zz67_s p_0 w_1 elements_2
def S_zz67 : Sig := { a := (.pair (.pair (.sl (.sl I)) .unit) (.pair (.sl I) (.pair (.sl I) .unit))), md := [0, 0, 0], mf := [], m := .unit, r := (.tup (.pair I (.pair .bool .unit))), rf := .i, f := fun x => zz67 x.1 x.2.1 x.2.2.1 }
def A_zz67 : Cfg := mkCfg tab [(51, S_zz62), (9, S_zz15), (52, S_zz63), (53, S_zz65)] []
theorem run_zz67 (N : Nat) (x : (S_zz67).a.den) : runF (A_zz67) N Try.f15 S_zz67 x = zz67 x.1 x.2.1 x.2.2.1 := by kernel_rfl
theorem fn_zz67 : FnOk Try.prog 15 := ⟨_, Try.func15, by kernel_rfl, by kernel_rfl⟩
theorem good_zz67 : Gx.Good Try.prog 15 S_zz67 := good_of_run Try.func15 (of_decide_eq_true (by kernel_rfl)) fun x r h => ⟨A_zz67, big, mkCfg_ok tabOk, mkCfg_sigs (show SigsOk Try.prog [(51, S_zz62), (9, S_zz15), (52, S_zz63), (53, S_zz65)] from ⟨⟨fn_zz62, good_zz62⟩, ⟨fn_zz15, good_zz15⟩, ⟨fn_zz63, good_zz63⟩, ⟨fn_zz65, good_zz65⟩, trivial⟩), (run_zz67 big x).trans h⟩

/-! zz68 -/
def zz68_b2 (rec : Y4 → Int → Int → Int → Z1) (k : Z1) (l0 : Y4) (lo1 hi2 i7 : Int) : Z1 :=
  cond (decide (i7 < (l0.length : Int)))
  ((atI l0 i7).bind fun xq1 =>
  (zz9 xq1 lo1 hi2).bind fun rq2 =>
  cond (!rq2.1)
  (some (false, (())))
  (cond (decide ((0 : Int) < i7))
  ((atI l0 (IntKind.i64.wrap (i7 - (1 : Int)))).bind fun xq3 =>
  (atI l0 i7).bind fun xq4 =>
  cond (decide (xq4 ≤ xq3))
  (some (false, (())))
  (rec l0 lo1 hi2 (IntKind.i64.wrap (i7 + (1 : Int)))))
  (rec l0 lo1 hi2 (IntKind.i64.wrap (i7 + (1 : Int))))))
  (k)
def zz68_a2 : Z1 :=
  some (true, (()))
def zz68_s (L2 : Y4 → Int → Int → Int → Z1) (l_0 : Y4) (lo_1 hi_2 : Int) : Z1 :=
  L2 l_0 lo_1 hi_2 (0 : Int)
def zz68_l2 (N : Nat) (k : Z1) : Nat → Y4 → Int → Int → Int → Z1
  | 0, _, _, _, _ => none
  | m + 1, l0, lo1, hi2, i7 => zz68_b2 (zz68_l2 N k m) k l0 lo1 hi2 i7
def zz68_F2 (N : Nat) (l0 : Y4) (lo1 hi2 i7 : Int) : Z1 := zz68_l2 N (zz68_a2) N l0 lo1 hi2 i7
def zz68 (N : Nat) (l_0 : Y4) (lo_1 hi_2 : Int) : Z1 := zz68_s (zz68_F2 N) l_0 lo_1 hi_2
def S_zz68 : Sig := { a := (.pair (.sl I) (.pair I (.pair I .unit))), md := [0, 0, 0], mf := [], m := .unit, r := .bool, rf := .i, f := fun x => zz68 big x.1 x.2.1 x.2.2.1 }
def A_zz68 : Cfg := mkCfg tab [(107, S_zz9)] [(4, [.as (.sl I) .i, .as I .i, .as I .i, .drop, .drop, .drop, .drop, .as I .i]), (13, [])]
noncomputable def zz68_R2 (N n : Nat) (K : Ex → St → Z1) (l0 : Y4) (lo1 hi2 i7 : Int) : Z1 := iter ((A_zz68).shape 4) (run (A_zz68) N (codeAt Try.f125 [1, 0, 1, 0, 0])) n ([.val (.sl I) .i l0, .val I .i lo1, .val I .i hi2, .u, .u, .u, .u, .val I .i i7] ++ List.replicate 30 .u) K
noncomputable abbrev zz68_z : Ex → St → Z1 := finish (A_zz68) S_zz68 Try.f125.results.toList
noncomputable abbrev zz68_X2 (kX : St → Z1) : Z1 := kX ([] ++ List.replicate 38 .u)
noncomputable abbrev zz68_E2 (kX : St → Z1) (kO : Nat → St → Z1) : Ex → St → Z1 := exK zz68_z 0 ((A_zz68).shape 13) kX kO
theorem zz68_step2 (N m : Nat) (kX : St → Z1) (kO : Nat → St → Z1) (l0 : Y4) (lo1 hi2 i7 : Int) : zz68_R2 N (m + 1) (zz68_E2 kX kO) l0 lo1 hi2 i7 = zz68_b2 (zz68_R2 N m (zz68_E2 kX kO)) (zz68_X2 kX) l0 lo1 hi2 i7 := by kernel_rfl
theorem zz68_iter2 (N : Nat) (kX : St → Z1) (kO : Nat → St → Z1) : ∀ (n : Nat) (l0 : Y4) (lo1 hi2 i7 : Int), zz68_R2 N n (zz68_E2 kX kO) l0 lo1 hi2 i7 = zz68_l2 N (zz68_X2 kX) n l0 lo1 hi2 i7
  | 0, _, _, _, _ => rfl
  | m + 1, l0, lo1, hi2, i7 => by
    have hrec : zz68_R2 N m (zz68_E2 kX kO) = (zz68_l2 N (zz68_X2 kX) m) := (funext fun l0 => (funext fun lo1 => (funext fun hi2 => (funext fun i7 => zz68_iter2 N kX kO m l0 lo1 hi2 i7))))
    refine (zz68_step2 N m kX kO l0 lo1 hi2 i7).trans ?_
    rw [hrec]
    rfl
noncomputable abbrev zz68_K2 (N : Nat) : Ex → St → Z1 := (blockK 0 (seqK ((A_zz68).shape 13) (gated ((A_zz68).shape 500006).isSome N (run (A_zz68) N (codeAt Try.f125 [1, 1]))) zz68_z))
noncomputable abbrev zz68_k2 (N : Nat) : St → Z1 := fun st' => run (A_zz68) N (codeAt Try.f125 [1, 1]) st' zz68_z
theorem zz68_after2 (N : Nat) : zz68_X2 (zz68_k2 N) = zz68_a2 := by kernel_rfl
theorem zz68_in2 (N : Nat) (l0 : Y4) (lo1 hi2 i7 : Int) : zz68_R2 N N (zz68_K2 N) l0 lo1 hi2 i7 = zz68_F2 N l0 lo1 hi2 i7 :=
  have h : zz68_X2 (zz68_k2 N) = (zz68_a2) := zz68_after2 N
  ((iter_ex (fun st => by kernel_rfl) (fun st => by kernel_rfl)).trans (zz68_iter2 N (zz68_k2 N) (fun j st => (zz68_K2 N) (.exit j) st) N l0 lo1 hi2 i7)).trans (congrArg (fun k => zz68_l2 N k N l0 lo1 hi2 i7) h)
theorem run0_zz68 (N : Nat) (x : (S_zz68).a.den) : runF (A_zz68) N Try.f125 S_zz68 x = (zz68_s (zz68_R2 N N (zz68_K2 N)) x.1 x.2.1 x.2.2.1) := by kernel_rfl
theorem run_zz68 (N : Nat) (x : (S_zz68).a.den) : runF (A_zz68) N Try.f125 S_zz68 x = zz68 N x.1 x.2.1 x.2.2.1 := by
  refine (run0_zz68 N x).trans ?_
  rw [(funext fun l0 => (funext fun lo1 => (funext fun hi2 => (funext fun i7 => zz68_in2 N l0 lo1 hi2 i7))))]
  rfl
theorem fn_zz68 : FnOk Try.prog 125 := ⟨_, Try.func125, by kernel_rfl, by kernel_rfl⟩
theorem good_zz68 : Gx.Good Try.prog 125 S_zz68 := good_of_run Try.func125 (of_decide_eq_true (by kernel_rfl)) fun x r h => ⟨A_zz68, big, mkCfg_ok tabOk, mkCfg_sigs (show SigsOk Try.prog [(107, S_zz9)] from ⟨⟨fn_zz9, good_zz9⟩, trivial⟩), (run_zz68 big x).trans h⟩

/-! zz69 -/
def zz69_b2 (rec : Y4 → Y4 → Int → Z1) (k : Z1) (x0 y1 : Y4) (i5 : Int) : Z1 :=
  cond (decide (i5 < (x0.length : Int)))
  ((atI x0 i5).bind fun xq1 =>
  (zz44 big y1 xq1).bind fun rq2 =>
  cond (!rq2.1)
  (some (false, (())))
  (rec x0 y1 (IntKind.i64.wrap (i5 + (1 : Int)))))
  (k)
def zz69_a2 : Z1 :=
  some (true, (()))
def zz69_s (L2 : Y4 → Y4 → Int → Z1) (x_0 y_1 : Y4) : Z1 :=
  L2 x_0 y_1 (0 : Int)
def zz69_l2 (N : Nat) (k : Z1) : Nat → Y4 → Y4 → Int → Z1
  | 0, _, _, _ => none
  | m + 1, x0, y1, i5 => zz69_b2 (zz69_l2 N k m) k x0 y1 i5
def zz69_F2 (N : Nat) (x0 y1 : Y4) (i5 : Int) : Z1 := zz69_l2 N (zz69_a2) N x0 y1 i5
def zz69 (N : Nat) (x_0 y_1 : Y4) : Z1 := zz69_s (zz69_F2 N) x_0 y_1
def S_zz69 : Sig := { a := (.pair (.sl I) (.pair (.sl I) .unit)), md := [0, 0], mf := [], m := .unit, r := .bool, rf := .i, f := fun x => zz69 big x.1 x.2.1 }
def A_zz69 : Cfg := mkCfg tab [(69, S_zz44)] [(4, [.as (.sl I) .i, .as (.sl I) .i, .drop, .drop, .drop, .as I .i]), (13, [])]
noncomputable def zz69_R2 (N n : Nat) (K : Ex → St → Z1) (x0 y1 : Y4) (i5 : Int) : Z1 := iter ((A_zz69).shape 4) (run (A_zz69) N (codeAt Try.f126 [1, 0, 1, 0, 0])) n ([.val (.sl I) .i x0, .val (.sl I) .i y1, .u, .u, .u, .val I .i i5] ++ List.replicate 13 .u) K
noncomputable abbrev zz69_z : Ex → St → Z1 := finish (A_zz69) S_zz69 Try.f126.results.toList
noncomputable abbrev zz69_X2 (kX : St → Z1) : Z1 := kX ([] ++ List.replicate 19 .u)
noncomputable abbrev zz69_E2 (kX : St → Z1) (kO : Nat → St → Z1) : Ex → St → Z1 := exK zz69_z 0 ((A_zz69).shape 13) kX kO
theorem zz69_step2 (N m : Nat) (kX : St → Z1) (kO : Nat → St → Z1) (x0 y1 : Y4) (i5 : Int) : zz69_R2 N (m + 1) (zz69_E2 kX kO) x0 y1 i5 = zz69_b2 (zz69_R2 N m (zz69_E2 kX kO)) (zz69_X2 kX) x0 y1 i5 := by kernel_rfl
theorem zz69_iter2 (N : Nat) (kX : St → Z1) (kO : Nat → St → Z1) : ∀ (n : Nat) (x0 y1 : Y4) (i5 : Int), zz69_R2 N n (zz69_E2 kX kO) x0 y1 i5 = zz69_l2 N (zz69_X2 kX) n x0 y1 i5
  | 0, _, _, _ => rfl
  | m + 1, x0, y1, i5 => by
    have hrec : zz69_R2 N m (zz69_E2 kX kO) = (zz69_l2 N (zz69_X2 kX) m) := (funext fun x0 => (funext fun y1 => (funext fun i5 => zz69_iter2 N kX kO m x0 y1 i5)))
    refine (zz69_step2 N m kX kO x0 y1 i5).trans ?_
    rw [hrec]
    rfl
noncomputable abbrev zz69_K2 (N : Nat) : Ex → St → Z1 := (blockK 0 (seqK ((A_zz69).shape 13) (gated ((A_zz69).shape 500006).isSome N (run (A_zz69) N (codeAt Try.f126 [1, 1]))) zz69_z))
noncomputable abbrev zz69_k2 (N : Nat) : St → Z1 := fun st' => run (A_zz69) N (codeAt Try.f126 [1, 1]) st' zz69_z
theorem zz69_after2 (N : Nat) : zz69_X2 (zz69_k2 N) = zz69_a2 := by kernel_rfl
theorem zz69_in2 (N : Nat) (x0 y1 : Y4) (i5 : Int) : zz69_R2 N N (zz69_K2 N) x0 y1 i5 = zz69_F2 N x0 y1 i5 :=
  have h : zz69_X2 (zz69_k2 N) = (zz69_a2) := zz69_after2 N
  ((iter_ex (fun st => by kernel_rfl) (fun st => by kernel_rfl)).trans (zz69_iter2 N (zz69_k2 N) (fun j st => (zz69_K2 N) (.exit j) st) N x0 y1 i5)).trans (congrArg (fun k => zz69_l2 N k N x0 y1 i5) h)
theorem run0_zz69 (N : Nat) (x : (S_zz69).a.den) : runF (A_zz69) N Try.f126 S_zz69 x = (zz69_s (zz69_R2 N N (zz69_K2 N)) x.1 x.2.1) := by kernel_rfl
theorem run_zz69 (N : Nat) (x : (S_zz69).a.den) : runF (A_zz69) N Try.f126 S_zz69 x = zz69 N x.1 x.2.1 := by
  refine (run0_zz69 N x).trans ?_
  rw [(funext fun x0 => (funext fun y1 => (funext fun i5 => zz69_in2 N x0 y1 i5)))]
  rfl
theorem fn_zz69 : FnOk Try.prog 126 := ⟨_, Try.func126, by kernel_rfl, by kernel_rfl⟩
theorem good_zz69 : Gx.Good Try.prog 126 S_zz69 := good_of_run Try.func126 (of_decide_eq_true (by kernel_rfl)) fun x r h => ⟨A_zz69, big, mkCfg_ok tabOk, mkCfg_sigs (show SigsOk Try.prog [(69, S_zz44)] from ⟨⟨fn_zz44, good_zz44⟩, trivial⟩), (run_zz69 big x).trans h⟩
end Go.Proofs.Ytcdlbboeflehdaa
