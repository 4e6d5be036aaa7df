import Derived.Test.YtcdlbboeflehdaaUCO
set_option maxRecDepth 100000
set_option linter.unusedVariables false
namespace Go.Proofs.Ytcdlbboeflehdaa
open Go Go.Gx Go.Proofs
def vvv (rec k : Z13 → Y2 → Y2 → Z4) (c0 : Z13) (t2 p9 : Y2) : Z4 :=
  (zz2 c0 (2 : Int)).bind fun rq53 =>
  cond (decide ((p9.1.length : Int) < (IntKind.i64.wrap ((10 : Int) + rq53.1))))
  ((appI p9.1 [[(p9.1.length : Int)]]).bind fun xq54 =>
  rec rq53.2.1 t2 (xq54, ((), p9.2).2))
  (k rq53.2.1 t2 p9)
def vhg (c0 : Z13) (t2 p9 : Y2) : Z4 :=
  some (p9, (c0, ()))
def vkm (rec : Z13 → Y2 → Int → Z12 → Y4 → Int → Z4) (k : Z13 → Y2 → Int → Z12 → Z4) (c0 : Z13) (t2 : Y2) (n3 : Int) (pairs4 : Z12) (names7 : Y4) (i8 : Int) : Z4 :=
  cond (decide (i8 < (pairs4.length : Int)))
  ((atI pairs4 i8).bind fun _ =>
  (pairs4[i8.toNat]?).bind fun xq33 =>
  (pairs4[i8.toNat]?).bind fun xq34 =>
  (atI names7 xq34.1).bind fun _ =>
  (names7[xq34.1.toNat]?).bind fun xq35 =>
  (atI pairs4 i8).bind fun _ =>
  (pairs4[i8.toNat]?).bind fun xq36 =>
  (pairs4[i8.toNat]?).bind fun xq37 =>
  (atI names7 xq37.2.1).bind fun _ =>
  (names7[xq37.2.1.toNat]?).bind fun xq38 =>
  (atI pairs4 i8).bind fun _ =>
  (pairs4[i8.toNat]?).bind fun xq39 =>
  rec c0 t2 n3 (pairs4.set i8.toNat (xq35, (xq38, ()))) names7 (IntKind.i64.wrap (i8 + (1 : Int))))
  (k c0 t2 n3 pairs4)
def vci (L29 : Z13 → Y2 → Y2 → Z4) (c0 : Z13) (t2 : Y2) (n3 : Int) (pairs4 : Z12) : Z4 :=
  (zz9 big n3 pairs4).bind fun rq40 =>
  cond (decide (n3 = (0 : Int)))
  (some (rq40.1, (c0, ())))
  ((zz3 c0 (16 : Int)).bind fun rq41 =>
  cond (!rq41.1)
  (some (rq40.1, (rq41.2.1, ())))
  ((zz2 rq41.2.1 n3).bind fun rq42 =>
  (zz2 rq42.2.1 (4 : Int)).bind fun rq43 =>
  cond (decide (rq43.1 = (0 : Int)))
  ((atI rq40.1.1 rq42.1).bind fun _ =>
  (rq40.1.1[rq42.1.toNat]?).bind fun xq44 =>
  (slI xq44 (1 : Int) xq44.length).bind fun xq45 =>
  (atI rq40.1.1 rq42.1).bind fun _ =>
  (rq40.1.1[rq42.1.toNat]?).bind fun xq46 =>
  some ((rq40.1.1.set rq42.1.toNat xq45, rq40.1.2), (rq43.2.1, ())))
  (cond (decide (rq43.1 = (1 : Int)))
  ((atI rq40.1.1 rq42.1).bind fun xq47 =>
  (appI xq47 [n3]).bind fun xq48 =>
  some ((rq40.1.1.set (rq42.1).toNat xq48, rq40.1.2), (rq43.2.1, ())))
  (cond (decide (rq43.1 = (2 : Int)))
  ((atI rq40.1.1 rq42.1).bind fun _ =>
  (rq40.1.1[rq42.1.toNat]?).bind fun xq49 =>
  (zz2 rq43.2.1 n3).bind fun rq50 =>
  (zz10 big xq49 rq50.1).bind fun rq51 =>
  (atI rq40.1.1 rq42.1).bind fun _ =>
  (rq40.1.1[rq42.1.toNat]?).bind fun xq52 =>
  some ((rq40.1.1.set rq42.1.toNat rq51.1, rq40.1.2), (rq50.2.1, ())))
  (cond (decide (rq43.1 = (3 : Int)))
  (L29 rq43.2.1 t2 rq40.1)
  (some (rq40.1, (rq43.2.1, ()))))))))
def vnp (rec : Z13 → Y2 → Int → Z12 → Int → Int → Z4) (k : Z13 → Y2 → Int → Z12 → Int → Z4) (c0 : Z13) (t2 : Y2) (n3 : Int) (pairs4 : Z12) (x5 y6 : Int) : Z4 :=
  cond (decide (y6 < n3))
  ((zz3 c0 (3 : Int)).bind fun rq31 =>
  cond rq31.1
  ((appI pairs4 [(x5, (y6, ()))]).bind fun xq32 =>
  rec rq31.2.1 t2 n3 xq32 x5 (IntKind.i64.wrap (y6 + (1 : Int))))
  (rec rq31.2.1 t2 n3 pairs4 x5 (IntKind.i64.wrap (y6 + (1 : Int)))))
  (k c0 t2 n3 pairs4 x5)
def vkc (rec : Z13 → Y2 → Int → Z12 → Int → Z4) (c0 : Z13) (t2 : Y2) (n3 : Int) (pairs4 : Z12) (x5 : Int) : Z4 :=
  rec c0 t2 n3 pairs4 (IntKind.i64.wrap (x5 + (1 : Int)))
def voo (L7 : Z13 → Y2 → Int → Z12 → Int → Int → Z4) (k : Z13 → Y2 → Int → Z12 → Z4) (c0 : Z13) (t2 : Y2) (n3 : Int) (pairs4 : Z12) (x5 : Int) : Z4 :=
  cond (decide (x5 < n3))
  (L7 c0 t2 n3 pairs4 x5 (IntKind.i64.wrap (x5 + (1 : Int))))
  (k c0 t2 n3 pairs4)
def vcw (L14 : Z13 → Y2 → Int → Z12 → Y4 → Int → Z4) (L29 : Z13 → Y2 → Y2 → Z4) (c0 : Z13) (t2 : Y2) (n3 : Int) (pairs4 : Z12) : Z4 :=
  (zz5 big c0 n3).bind fun rq2 =>
  (zz8 big rq2.1 n3).bind fun rq3 =>
  cond rq3.1
  ((zz3 rq2.2.1 (2 : Int)).bind fun rq4 =>
  cond rq4.1
  (L14 rq4.2.1 t2 n3 pairs4 rq2.1 (0 : Int))
  ((zz9 big n3 pairs4).bind fun rq5 =>
  cond (decide (n3 = (0 : Int)))
  (some (rq5.1, (rq4.2.1, ())))
  ((zz3 rq4.2.1 (16 : Int)).bind fun rq6 =>
  cond (!rq6.1)
  (some (rq5.1, (rq6.2.1, ())))
  ((zz2 rq6.2.1 n3).bind fun rq7 =>
  (zz2 rq7.2.1 (4 : Int)).bind fun rq8 =>
  cond (decide (rq8.1 = (0 : Int)))
  ((atI rq5.1.1 rq7.1).bind fun _ =>
  (rq5.1.1[rq7.1.toNat]?).bind fun xq9 =>
  (slI xq9 (1 : Int) xq9.length).bind fun xq10 =>
  (atI rq5.1.1 rq7.1).bind fun _ =>
  (rq5.1.1[rq7.1.toNat]?).bind fun xq11 =>
  some ((rq5.1.1.set rq7.1.toNat xq10, rq5.1.2), (rq8.2.1, ())))
  (cond (decide (rq8.1 = (1 : Int)))
  ((atI rq5.1.1 rq7.1).bind fun xq12 =>
  (appI xq12 [n3]).bind fun xq13 =>
  some ((rq5.1.1.set (rq7.1).toNat xq13, rq5.1.2), (rq8.2.1, ())))
  (cond (decide (rq8.1 = (2 : Int)))
  ((atI rq5.1.1 rq7.1).bind fun _ =>
  (rq5.1.1[rq7.1.toNat]?).bind fun xq14 =>
  (zz2 rq8.2.1 n3).bind fun rq15 =>
  (zz10 big xq14 rq15.1).bind fun rq16 =>
  (atI rq5.1.1 rq7.1).bind fun _ =>
  (rq5.1.1[rq7.1.toNat]?).bind fun xq17 =>
  some ((rq5.1.1.set rq7.1.toNat rq16.1, rq5.1.2), (rq15.2.1, ())))
  (cond (decide (rq8.1 = (3 : Int)))
  (L29 rq8.2.1 t2 rq5.1)
  (some (rq5.1, (rq8.2.1, ()))))))))))
  ((zz9 big n3 pairs4).bind fun rq18 =>
  cond (decide (n3 = (0 : Int)))
  (some (rq18.1, (rq2.2.1, ())))
  ((zz3 rq2.2.1 (16 : Int)).bind fun rq19 =>
  cond (!rq19.1)
  (some (rq18.1, (rq19.2.1, ())))
  ((zz2 rq19.2.1 n3).bind fun rq20 =>
  (zz2 rq20.2.1 (4 : Int)).bind fun rq21 =>
  cond (decide (rq21.1 = (0 : Int)))
  ((atI rq18.1.1 rq20.1).bind fun _ =>
  (rq18.1.1[rq20.1.toNat]?).bind fun xq22 =>
  (slI xq22 (1 : Int) xq22.length).bind fun xq23 =>
  (atI rq18.1.1 rq20.1).bind fun _ =>
  (rq18.1.1[rq20.1.toNat]?).bind fun xq24 =>
  some ((rq18.1.1.set rq20.1.toNat xq23, rq18.1.2), (rq21.2.1, ())))
  (cond (decide (rq21.1 = (1 : Int)))
  ((atI rq18.1.1 rq20.1).bind fun xq25 =>
  (appI xq25 [n3]).bind fun xq26 =>
  some ((rq18.1.1.set (rq20.1).toNat xq26, rq18.1.2), (rq21.2.1, ())))
  (cond (decide (rq21.1 = (2 : Int)))
  ((atI rq18.1.1 rq20.1).bind fun _ =>
  (rq18.1.1[rq20.1.toNat]?).bind fun xq27 =>
  (zz2 rq21.2.1 n3).bind fun rq28 =>
  (zz10 big xq27 rq28.1).bind fun rq29 =>
  (atI rq18.1.1 rq20.1).bind fun _ =>
  (rq18.1.1[rq20.1.toNat]?).bind fun xq30 =>
  some ((rq18.1.1.set rq20.1.toNat rq29.1, rq18.1.2), (rq28.2.1, ())))
  (cond (decide (rq21.1 = (3 : Int)))
  (L29 rq21.2.1 t2 rq18.1)
  (some (rq18.1, (rq21.2.1, ())))))))))
def vatv (L4 : Z13 → Y2 → Int → Z12 → Int → Z4) (c_0 : Z13) : Z4 :=
  (zz4 c_0 [(0 : Int), (1 : Int), (2 : Int), (3 : Int), (4 : Int), (4 : Int), (5 : Int), (5 : Int), (6 : Int), (7 : Int)]).bind fun rq1 =>
  L4 rq1.2.1 (([] : Y3), ()) rq1.1 [] (0 : Int)
def vmw (N : Nat) (k : Z13 → Y2 → Int → Z12 → Int → Z4) : Nat → Z13 → Y2 → Int → Z12 → Int → Int → Z4
  | 0, _, _, _, _, _, _ => none
  | m + 1, c0, t2, n3, pairs4, x5, y6 => vnp (vmw N k m) k c0 t2 n3 pairs4 x5 y6
def vtf (N : Nat) (rec : Z13 → Y2 → Int → Z12 → Int → Z4) (k : Z13 → Y2 → Int → Z12 → Z4) (c0 : Z13) (t2 : Y2) (n3 : Int) (pairs4 : Z12) (x5 y6 : Int) : Z4 := vmw N (vkc rec) N c0 t2 n3 pairs4 x5 y6
def vkj (N : Nat) (k : Z13 → Y2 → Int → Z12 → Z4) : Nat → Z13 → Y2 → Int → Z12 → Int → Z4
  | 0, _, _, _, _, _ => none
  | m + 1, c0, t2, n3, pairs4, x5 => voo (vtf N (vkj N k m) k) k c0 t2 n3 pairs4 x5
def vim (N : Nat) (k : Z13 → Y2 → Int → Z12 → Z4) : Nat → Z13 → Y2 → Int → Z12 → Y4 → Int → Z4
  | 0, _, _, _, _, _, _ => none
  | m + 1, c0, t2, n3, pairs4, names7, i8 => vkm (vim N k m) k c0 t2 n3 pairs4 names7 i8
def vhq (N : Nat) (k : Z13 → Y2 → Y2 → Z4) : Nat → Z13 → Y2 → Y2 → Z4
  | 0, _, _, _ => none
  | m + 1, c0, t2, p9 => vvv (vhq N k m) k c0 t2 p9
def vaq (N : Nat) (c0 : Z13) (t2 p9 : Y2) : Z4 := vhq N (vhg) N c0 t2 p9
def vbx (N : Nat) (c0 : Z13) (t2 : Y2) (n3 : Int) (pairs4 : Z12) (names7 : Y4) (i8 : Int) : Z4 := vim N (vci (vaq N)) N c0 t2 n3 pairs4 names7 i8
def vahz (N : Nat) (c0 : Z13) (t2 : Y2) (n3 : Int) (pairs4 : Z12) (x5 : Int) : Z4 := vkj N (vcw (vbx N) (vaq N)) N c0 t2 n3 pairs4 x5
def zz11 (N : Nat) (c_0 : Z13) : Z4 := vatv (vahz N) c_0
def S_zz11 : Sig := { a := (.pair (.ptr (.pair (.sl (.int .u8)) (.pair I (.pair (.int .u64) .unit)))) .unit), md := [1], mf := [(.o .i)], m := (.pair (.ptr (.pair (.sl (.int .u8)) (.pair I (.pair (.int .u64) .unit)))) .unit), r := (.pair (.sl (.sl I)) .unit), rf := .i, f := fun x => zz11 big x.1 }
def A_zz11 : Cfg := hookCfg (fun i => if i = 25 then some PO.hook else none) (mkCfg tab [(87, S_zz4), (95, S_zz5), (96, S_zz8), (50, S_zz3), (98, S_zz9), (39, S_zz2), (120, S_zz10)] [(8, [.as (.ptr (.pair (.sl (.int .u8)) (.pair I (.pair (.int .u64) .unit)))) (.o .i), .drop, .as y1 (.o (.p (.o (.o .i)) .i)), .as I .i, .as (.sl (.pair I (.pair I .unit))) (.o .i), .as I .i]), (14, [.as (.ptr (.pair (.sl (.int .u8)) (.pair I (.pair (.int .u64) .unit)))) (.o .i), .drop, .as y1 (.o (.p (.o (.o .i)) .i)), .as I .i, .as (.sl (.pair I (.pair I .unit))) (.o .i), .as I .i, .as I .i]), (23, [.as (.ptr (.pair (.sl (.int .u8)) (.pair I (.pair (.int .u64) .unit)))) (.o .i), .drop, .as y1 (.o (.p (.o (.o .i)) .i)), .as I .i, .as (.sl (.pair I (.pair I .unit))) (.o .i)]), (28, [.as (.ptr (.pair (.sl (.int .u8)) (.pair I (.pair (.int .u64) .unit)))) (.o .i), .drop, .as y1 (.o (.p (.o (.o .i)) .i)), .as I .i, .as (.sl (.pair I (.pair I .unit))) (.o .i), .drop, .drop, .as (.sl I) (.o .i), .as I .i]), (1000023, [.as (.ptr (.pair (.sl (.int .u8)) (.pair I (.pair (.int .u64) .unit)))) (.o .i), .drop, .as y1 (.o (.p (.o (.o .i)) .i)), .drop, .drop, .drop, .drop, .drop, .drop, .as y1 (.o (.p (.o .i) .i)), .as I .i]), (1000027, [.as (.ptr (.pair (.sl (.int .u8)) (.pair I (.pair (.int .u64) .unit)))) (.o .i), .drop, .as y1 (.o (.p (.o (.o .i)) .i)), .as I .i, .drop, .drop, .drop, .drop, .drop, .as y1 (.o (.p (.o .i) .i)), .as I .i]), (58, [.as (.ptr (.pair (.sl (.int .u8)) (.pair I (.pair (.int .u64) .unit)))) (.o .i), .drop, .as y1 (.o (.p (.o (.o .i)) .i)), .drop, .drop, .drop, .drop, .drop, .drop, .as y1 (.o (.p (.o (.o .i)) .i))]), (11, [.as (.ptr (.pair (.sl (.int .u8)) (.pair I (.pair (.int .u64) .unit)))) (.o .i), .drop, .as y1 (.o (.p (.o (.o .i)) .i)), .as I .i, .as (.sl (.pair I (.pair I .unit))) (.o .i), .as I .i]), (35, [.as (.ptr (.pair (.sl (.int .u8)) (.pair I (.pair (.int .u64) .unit)))) (.o .i), .drop, .as y1 (.o (.p (.o (.o .i)) .i)), .as I .i, .as (.sl (.pair I (.pair I .unit))) (.o .i)]), (63, [.as (.ptr (.pair (.sl (.int .u8)) (.pair I (.pair (.int .u64) .unit)))) (.o .i), .drop, .as y1 (.o (.p (.o (.o .i)) .i)), .drop, .drop, .drop, .drop, .drop, .drop, .as y1 (.o (.p (.o .i) .i))])])
noncomputable def vjy (N n : Nat) (K : Ex → St → Z4) (c0 : Z13) (t2 : Y2) (n3 : Int) (pairs4 : Z12) (x5 : Int) : Z4 := iter ((A_zz11).shape 8) (run (A_zz11) N (codeAt Try.f93 [1, 1, 1, 0, 1, 0, 0])) n ([.val (.ptr (.pair (.sl (.int .u8)) (.pair I (.pair (.int .u64) .unit)))) (.o .i) c0, .u, .val y1 (.o (.p (.o (.o .i)) .i)) t2, .val I .i n3, .val (.sl (.pair I (.pair I .unit))) (.o .i) pairs4, .val I .i x5] ++ List.replicate 141 .u) K
noncomputable def vlo (N n : Nat) (K : Ex → St → Z4) (c0 : Z13) (t2 : Y2) (n3 : Int) (pairs4 : Z12) (x5 y6 : Int) : Z4 := iter ((A_zz11).shape 14) (run (A_zz11) N (codeAt Try.f93 [1, 1, 1, 0, 1, 0, 0, 1, 0, 0, 1, 0, 0])) n ([.val (.ptr (.pair (.sl (.int .u8)) (.pair I (.pair (.int .u64) .unit)))) (.o .i) c0, .u, .val y1 (.o (.p (.o (.o .i)) .i)) t2, .val I .i n3, .val (.sl (.pair I (.pair I .unit))) (.o .i) pairs4, .val I .i x5, .val I .i y6] ++ List.replicate 140 .u) K
noncomputable def vjb (N n : Nat) (K : Ex → St → Z4) (c0 : Z13) (t2 : Y2) (n3 : Int) (pairs4 : Z12) (names7 : Y4) (i8 : Int) : Z4 := iter ((A_zz11).shape 28) (run (A_zz11) N (codeAt Try.f93 [1, 1, 1, 1, 0, 1, 1, 0, 1, 0, 0])) n ([.val (.ptr (.pair (.sl (.int .u8)) (.pair I (.pair (.int .u64) .unit)))) (.o .i) c0, .u, .val y1 (.o (.p (.o (.o .i)) .i)) t2, .val I .i n3, .val (.sl (.pair I (.pair I .unit))) (.o .i) pairs4, .u, .u, .val (.sl I) (.o .i) names7, .val I .i i8] ++ List.replicate 138 .u) K
noncomputable def vdz (N n : Nat) (K : Ex → St → Z4) (c0 : Z13) (t2 p9 : Y2) : Z4 := iter ((A_zz11).shape 58) (run (A_zz11) N (codeAt Try.f93 [1, 1, 1, 1, 1, 1, 1, 1, 0, 1, 0, 1, 1, 1, 1, 1, 1, 1, 0, 0, 0])) n ([.val (.ptr (.pair (.sl (.int .u8)) (.pair I (.pair (.int .u64) .unit)))) (.o .i) c0, .u, .val y1 (.o (.p (.o (.o .i)) .i)) t2, .u, .u, .u, .u, .u, .u, .val y1 (.o (.p (.o (.o .i)) .i)) p9] ++ List.replicate 137 .u) K
noncomputable abbrev vdn : Ex → St → Z4 := finish (A_zz11) S_zz11 Try.f93.results.toList
noncomputable abbrev vgl (kX : St → Z4) : Z13 → Y2 → Int → Z12 → Z4 := fun (c0 : Z13) (t2 : Y2) (n3 : Int) (pairs4 : Z12) => kX ([.val (.ptr (.pair (.sl (.int .u8)) (.pair I (.pair (.int .u64) .unit)))) (.o .i) c0, .u, .val y1 (.o (.p (.o (.o .i)) .i)) t2, .val I .i n3, .val (.sl (.pair I (.pair I .unit))) (.o .i) pairs4] ++ List.replicate 142 .u)
noncomputable abbrev vez (kX : St → Z4) (kO : Nat → St → Z4) : Ex → St → Z4 := exK vdn 0 ((A_zz11).shape 23) kX kO
noncomputable abbrev vta (kX : St → Z4) : Z13 → Y2 → Int → Z12 → Int → Z4 := fun (c0 : Z13) (t2 : Y2) (n3 : Int) (pairs4 : Z12) (x5 : Int) => kX ([.val (.ptr (.pair (.sl (.int .u8)) (.pair I (.pair (.int .u64) .unit)))) (.o .i) c0, .u, .val y1 (.o (.p (.o (.o .i)) .i)) t2, .val I .i n3, .val (.sl (.pair I (.pair I .unit))) (.o .i) pairs4, .val I .i x5] ++ List.replicate 141 .u)
noncomputable abbrev vyr (kX : St → Z4) (kO : Nat → St → Z4) : Ex → St → Z4 := exK vdn 2 ((A_zz11).shape 11) kX kO
noncomputable abbrev vrb (kX : St → Z4) : Z13 → Y2 → Int → Z12 → Z4 := fun (c0 : Z13) (t2 : Y2) (n3 : Int) (pairs4 : Z12) => kX ([.val (.ptr (.pair (.sl (.int .u8)) (.pair I (.pair (.int .u64) .unit)))) (.o .i) c0, .u, .val y1 (.o (.p (.o (.o .i)) .i)) t2, .val I .i n3, .val (.sl (.pair I (.pair I .unit))) (.o .i) pairs4] ++ List.replicate 142 .u)
noncomputable abbrev vwk (kX : St → Z4) (kO : Nat → St → Z4) : Ex → St → Z4 := exK vdn 4 ((A_zz11).shape 35) kX kO
noncomputable abbrev vrg (kX : St → Z4) : Z13 → Y2 → Y2 → Z4 := fun (c0 : Z13) (t2 p9 : Y2) => kX ([.val (.ptr (.pair (.sl (.int .u8)) (.pair I (.pair (.int .u64) .unit)))) (.o .i) c0, .u, .val y1 (.o (.p (.o (.o .i)) .i)) t2, .u, .u, .u, .u, .u, .u, .val y1 (.o (.p (.o .i) .i)) p9] ++ List.replicate 137 .u)
noncomputable abbrev vvy (kX : St → Z4) (kO : Nat → St → Z4) : Ex → St → Z4 := exK vdn 7 ((A_zz11).shape 63) kX kO
theorem vbbt (N m : Nat) (kX : St → Z4) (kO : Nat → St → Z4) (c0 : Z13) (t2 : Y2) (n3 : Int) (pairs4 : Z12) (x5 y6 : Int) : vlo N (m + 1) (vyr kX kO) c0 t2 n3 pairs4 x5 y6 = vnp (vlo N m (vyr kX kO)) (vta kX) c0 t2 n3 pairs4 x5 y6 := by kernel_rfl
theorem vaes (N : Nat) (kX : St → Z4) (kO : Nat → St → Z4) : ∀ (n : Nat) (c0 : Z13) (t2 : Y2) (n3 : Int) (pairs4 : Z12) (x5 y6 : Int), vlo N n (vyr kX kO) c0 t2 n3 pairs4 x5 y6 = vmw N (vta kX) n c0 t2 n3 pairs4 x5 y6
  | 0, _, _, _, _, _, _ => rfl
  | m + 1, c0, t2, n3, pairs4, x5, y6 => by
    have hrec : vlo N m (vyr kX kO) = (vmw N (vta kX) m) := (funext fun c0 => (funext fun t2 => (funext fun n3 => (funext fun pairs4 => (funext fun x5 => (funext fun y6 => vaes N kX kO m c0 t2 n3 pairs4 x5 y6))))))
    refine (vbbt N m kX kO c0 t2 n3 pairs4 x5 y6).trans ?_
    rw [hrec]
    rfl
noncomputable abbrev vajt (N m : Nat) (kX : St → Z4) (kO : Nat → St → Z4) : Ex → St → Z4 := (blockK 2 (blockK 1 (seqK ((A_zz11).shape 11) (gated ((A_zz11).shape 500005).isSome N (run (A_zz11) N (codeAt Try.f93 [1, 1, 1, 0, 1, 0, 0, 1, 1]))) (iterK ((A_zz11).shape 8) (run (A_zz11) N (codeAt Try.f93 [1, 1, 1, 0, 1, 0, 0])) m (vez kX kO)))))
noncomputable abbrev vail (N m : Nat) (kX : St → Z4) (kO : Nat → St → Z4) : St → Z4 := fun st' => run (A_zz11) N (codeAt Try.f93 [1, 1, 1, 0, 1, 0, 0, 1, 1]) st' (iterK ((A_zz11).shape 8) (run (A_zz11) N (codeAt Try.f93 [1, 1, 1, 0, 1, 0, 0])) m (vez kX kO))
theorem vavg (N m : Nat) (kX : St → Z4) (kO : Nat → St → Z4) (c0 : Z13) (t2 : Y2) (n3 : Int) (pairs4 : Z12) (x5 : Int) : vta (vail N m kX kO) c0 t2 n3 pairs4 x5 = vkc (vjy N m (vez kX kO)) c0 t2 n3 pairs4 x5 := by kernel_rfl
theorem vbiq (N m : Nat) (kX : St → Z4) (kO : Nat → St → Z4) (recF : Z13 → Y2 → Int → Z12 → Int → Z4) (hrec : vjy N m (vez kX kO) = recF) (c0 : Z13) (t2 : Y2) (n3 : Int) (pairs4 : Z12) (x5 y6 : Int) : vlo N N (vajt N m kX kO) c0 t2 n3 pairs4 x5 y6 = vtf N recF (vgl kX) c0 t2 n3 pairs4 x5 y6 :=
  have h : vta (vail N m kX kO) = (vkc recF) := (funext fun c0 => (funext fun t2 => (funext fun n3 => (funext fun pairs4 => (funext fun x5 => (vavg N m kX kO c0 t2 n3 pairs4 x5).trans (by rw [hrec]))))))
  ((vad (fun st => by kernel_rfl) (fun st => by kernel_rfl)).trans (vaes N (vail N m kX kO) (fun j st => (vajt N m kX kO) (.exit j) st) N c0 t2 n3 pairs4 x5 y6)).trans (congrArg (fun k => vmw N k N c0 t2 n3 pairs4 x5 y6) h)
theorem vbdn (N m : Nat) (kX : St → Z4) (kO : Nat → St → Z4) (c0 : Z13) (t2 : Y2) (n3 : Int) (pairs4 : Z12) (x5 : Int) : vjy N (m + 1) (vez kX kO) c0 t2 n3 pairs4 x5 = voo (vlo N N (vajt N m kX kO)) (vgl kX) c0 t2 n3 pairs4 x5 := by kernel_rfl
theorem vadj (N : Nat) (kX : St → Z4) (kO : Nat → St → Z4) : ∀ (n : Nat) (c0 : Z13) (t2 : Y2) (n3 : Int) (pairs4 : Z12) (x5 : Int), vjy N n (vez kX kO) c0 t2 n3 pairs4 x5 = vkj N (vgl kX) n c0 t2 n3 pairs4 x5
  | 0, _, _, _, _, _ => rfl
  | m + 1, c0, t2, n3, pairs4, x5 => by
    have hrec : vjy N m (vez kX kO) = (vkj N (vgl kX) m) := (funext fun c0 => (funext fun t2 => (funext fun n3 => (funext fun pairs4 => (funext fun x5 => vadj N kX kO m c0 t2 n3 pairs4 x5)))))
    refine (vbdn N m kX kO c0 t2 n3 pairs4 x5).trans ?_
    rw [(funext fun c0 => (funext fun t2 => (funext fun n3 => (funext fun pairs4 => (funext fun x5 => (funext fun y6 => vbiq N m kX kO (vkj N (vgl kX) m) hrec c0 t2 n3 pairs4 x5 y6))))))]
    rfl
noncomputable abbrev vajo (N : Nat) : Ex → St → Z4 := (blockK 0 (seqK ((A_zz11).shape 23) (gated ((A_zz11).shape 500011).isSome N (run (A_zz11) N (codeAt Try.f93 [1, 1, 1, 1]))) vdn))
theorem vayo (N m : Nat) (kX : St → Z4) (kO : Nat → St → Z4) (c0 : Z13) (t2 : Y2) (n3 : Int) (pairs4 : Z12) (names7 : Y4) (i8 : Int) : vjb N (m + 1) (vwk kX kO) c0 t2 n3 pairs4 names7 i8 = vkm (vjb N m (vwk kX kO)) (vrb kX) c0 t2 n3 pairs4 names7 i8 := by kernel_rfl
theorem vaan (N : Nat) (kX : St → Z4) (kO : Nat → St → Z4) : ∀ (n : Nat) (c0 : Z13) (t2 : Y2) (n3 : Int) (pairs4 : Z12) (names7 : Y4) (i8 : Int), vjb N n (vwk kX kO) c0 t2 n3 pairs4 names7 i8 = vim N (vrb kX) n c0 t2 n3 pairs4 names7 i8
  | 0, _, _, _, _, _, _ => rfl
  | m + 1, c0, t2, n3, pairs4, names7, i8 => by
    have hrec : vjb N m (vwk kX kO) = (vim N (vrb kX) m) := (funext fun c0 => (funext fun t2 => (funext fun n3 => (funext fun pairs4 => (funext fun names7 => (funext fun i8 => vaan N kX kO m c0 t2 n3 pairs4 names7 i8))))))
    refine (vayo N m kX kO c0 t2 n3 pairs4 names7 i8).trans ?_
    rw [hrec]
    rfl
noncomputable abbrev vace (N : Nat) : Ex → St → Z4 := (blockK 4 (seqK ((A_zz11).shape 35) (gated ((A_zz11).shape 500017).isSome N (run (A_zz11) N (codeAt Try.f93 [1, 1, 1, 1, 1]))) vdn))
theorem vaxj (N m : Nat) (kX : St → Z4) (kO : Nat → St → Z4) (c0 : Z13) (t2 p9 : Y2) : vdz N (m + 1) (vvy kX kO) c0 t2 p9 = vvv (vdz N m (vvy kX kO)) (vrg kX) c0 t2 p9 := by kernel_rfl
theorem vaab (N : Nat) (kX : St → Z4) (kO : Nat → St → Z4) : ∀ (n : Nat) (c0 : Z13) (t2 p9 : Y2), vdz N n (vvy kX kO) c0 t2 p9 = vhq N (vrg kX) n c0 t2 p9
  | 0, _, _, _ => rfl
  | m + 1, c0, t2, p9 => by
    have hrec : vdz N m (vvy kX kO) = (vhq N (vrg kX) m) := (funext fun c0 => (funext fun t2 => (funext fun p9 => vaab N kX kO m c0 t2 p9)))
    refine (vaxj N m kX kO c0 t2 p9).trans ?_
    rw [hrec]
    rfl
noncomputable abbrev vwl (N : Nat) : Ex → St → Z4 := (blockK 7 (blockK 6 (seqK ((A_zz11).shape 63) (gated ((A_zz11).shape 500031).isSome N (run (A_zz11) N (codeAt Try.f93 [1, 1, 1, 1, 1, 1, 1, 1, 1]))) vdn)))
noncomputable abbrev vacd (N : Nat) : St → Z4 := fun st' => run (A_zz11) N (codeAt Try.f93 [1, 1, 1, 1, 1, 1, 1, 1, 1]) st' vdn
theorem vapb (N : Nat) (c0 : Z13) (t2 p9 : Y2) : vrg (vacd N) c0 t2 p9 = vhg c0 t2 p9 := by kernel_rfl
theorem vaoa (N : Nat) (c0 : Z13) (t2 p9 : Y2) : vdz N N (vwl N) c0 t2 p9 = vaq N c0 t2 p9 :=
  have h : vrg (vacd N) = (vhg) := (funext fun c0 => (funext fun t2 => (funext fun p9 => vapb N c0 t2 p9)))
  ((vad (fun st => by kernel_rfl) (fun st => by kernel_rfl)).trans (vaab N (vacd N) (fun j st => (vwl N) (.exit j) st) N c0 t2 p9)).trans (congrArg (fun k => vhq N k N c0 t2 p9) h)
noncomputable abbrev vabd (N : Nat) : St → Z4 := fun st' => run (A_zz11) N (codeAt Try.f93 [1, 1, 1, 1, 1]) st' vdn
theorem vaug (N : Nat) (c0 : Z13) (t2 : Y2) (n3 : Int) (pairs4 : Z12) : vrb (vabd N) c0 t2 n3 pairs4 = vci (vdz N N (vwl N)) c0 t2 n3 pairs4 := by kernel_rfl
theorem vbfc (N : Nat) (c0 : Z13) (t2 : Y2) (n3 : Int) (pairs4 : Z12) (names7 : Y4) (i8 : Int) : vjb N N (vace N) c0 t2 n3 pairs4 names7 i8 = vbx N c0 t2 n3 pairs4 names7 i8 :=
  have h : vrb (vabd N) = (vci (vaq N)) := (funext fun c0 => (funext fun t2 => (funext fun n3 => (funext fun pairs4 => (vaug N c0 t2 n3 pairs4).trans (by rw [(funext fun c0 => (funext fun t2 => (funext fun p9 => vaoa N c0 t2 p9)))])))))
  ((vad (fun st => by kernel_rfl) (fun st => by kernel_rfl)).trans (vaan N (vabd N) (fun j st => (vace N) (.exit j) st) N c0 t2 n3 pairs4 names7 i8)).trans (congrArg (fun k => vim N k N c0 t2 n3 pairs4 names7 i8) h)
noncomputable abbrev vagt (N : Nat) : St → Z4 := fun st' => run (A_zz11) N (codeAt Try.f93 [1, 1, 1, 1]) st' vdn
theorem vawj (N : Nat) (c0 : Z13) (t2 : Y2) (n3 : Int) (pairs4 : Z12) : vgl (vagt N) c0 t2 n3 pairs4 = vcw (vjb N N (vace N)) (vdz N N (vwl N)) c0 t2 n3 pairs4 := by kernel_rfl
theorem vbix (N : Nat) (c0 : Z13) (t2 : Y2) (n3 : Int) (pairs4 : Z12) (x5 : Int) : vjy N N (vajo N) c0 t2 n3 pairs4 x5 = vahz N c0 t2 n3 pairs4 x5 :=
  have h : vgl (vagt N) = (vcw (vbx N) (vaq N)) := (funext fun c0 => (funext fun t2 => (funext fun n3 => (funext fun pairs4 => (vawj N c0 t2 n3 pairs4).trans (by rw [(funext fun c0 => (funext fun t2 => (funext fun n3 => (funext fun pairs4 => (funext fun names7 => (funext fun i8 => vbfc N c0 t2 n3 pairs4 names7 i8)))))), (funext fun c0 => (funext fun t2 => (funext fun p9 => vaoa N c0 t2 p9)))])))))
  ((vad (fun st => by kernel_rfl) (fun st => by kernel_rfl)).trans (vadj N (vagt N) (fun j st => (vajo N) (.exit j) st) N c0 t2 n3 pairs4 x5)).trans (congrArg (fun k => vkj N k N c0 t2 n3 pairs4 x5) h)
theorem run0_zz11 (N : Nat) (x : (S_zz11).a.den) : runF (A_zz11) N Try.f93 S_zz11 x = (vatv (vjy N N (vajo N)) x.1) := by kernel_rfl
theorem run_zz11 (N : Nat) (x : (S_zz11).a.den) : runF (A_zz11) N Try.f93 S_zz11 x = zz11 N x.1 := by
  refine (run0_zz11 N x).trans ?_
  rw [(funext fun c0 => (funext fun t2 => (funext fun n3 => (funext fun pairs4 => (funext fun x5 => vbix N c0 t2 n3 pairs4 x5)))))]
  rfl
theorem fn_zz11 : FnOk Try.prog 93 := ⟨_, Try.func93, by kernel_rfl, by kernel_rfl⟩
theorem good_zz11 : Gx.Good Try.prog 93 S_zz11 := vxs Try.func93 (of_decide_eq_true (by kernel_rfl)) fun x r h => ⟨A_zz11, big, vbay (vac tabOk), vawf (vab (show SigsOk Try.prog [(87, S_zz4), (95, S_zz5), (96, S_zz8), (50, S_zz3), (98, S_zz9), (39, S_zz2), (120, S_zz10)] from ⟨⟨fn_zz4, good_zz4⟩, ⟨fn_zz5, good_zz5⟩, ⟨fn_zz8, good_zz8⟩, ⟨fn_zz3, good_zz3⟩, ⟨fn_zz9, good_zz9⟩, ⟨fn_zz2, good_zz2⟩, ⟨fn_zz10, good_zz10⟩, trivial⟩)), fun code hc => vdr (ids := [25]) (fun i hi => by simp only [List.mem_cons, List.not_mem_nil, or_false] at hi; simp [A_zz11, hookCfg, hi]) fun c hm => PO.hooks_spec_l1Cur_poset A_zz11 (by rfl) code hc c hm, (run_zz11 big x).trans h⟩
def vaqj (rec : Y2 → Y2 → Y2 → Y2 → Int → Int → Int → Y4 → Int → Int → Z3) (k : Y2 → Y2 → Y2 → Y2 → Int → Int → Int → Y4 → Int → Z3) (p2 q3 t4 out5 : Y2) (m6 x7 y8 : Int) (below9 : Y4) (i10 k11 : Int) : Z3 :=
  (atI q3.1 y8).bind fun xq3 =>
  cond (decide (k11 < (xq3.length : Int)))
  ((atI p2.1 x7).bind fun xq4 =>
  (atI xq4 i10).bind fun xq5 =>
  (atI q3.1 y8).bind fun xq6 =>
  (atI xq6 k11).bind fun xq7 =>
  (appI below9 [IntKind.i64.wrap ((IntKind.i64.wrap (xq5 * m6)) + xq7)]).bind fun xq8 =>
  rec p2 q3 t4 out5 m6 x7 y8 xq8 i10 (IntKind.i64.wrap (k11 + (1 : Int))))
  (k p2 q3 t4 out5 m6 x7 y8 below9 i10)
def vabz (rec : Y2 → Y2 → Y2 → Y2 → Int → Int → Int → Y4 → Int → Z3) (p2 q3 t4 out5 : Y2) (m6 x7 y8 : Int) (below9 : Y4) (i10 : Int) : Z3 :=
  rec p2 q3 t4 out5 m6 x7 y8 below9 (IntKind.i64.wrap (i10 + (1 : Int)))
def vaqq (L14 : Y2 → Y2 → Y2 → Y2 → Int → Int → Int → Y4 → Int → Int → Z3) (k : Y2 → Y2 → Y2 → Y2 → Int → Int → Int → Y4 → Z3) (p2 q3 t4 out5 : Y2) (m6 x7 y8 : Int) (below9 : Y4) (i10 : Int) : Z3 :=
  (atI p2.1 x7).bind fun xq1 =>
  cond (decide (i10 < (xq1.length : Int)))
  (L14 p2 q3 t4 out5 m6 x7 y8 below9 i10 (0 : Int))
  (k p2 q3 t4 out5 m6 x7 y8 below9)
def vacc (rec : Y2 → Y2 → Y2 → Y2 → Int → Int → Int → Z3) (p2 q3 t4 out5 : Y2) (m6 x7 y8 : Int) (below9 : Y4) : Z3 :=
  (appI out5.1 [below9]).bind fun xq2 =>
  rec p2 q3 t4 (xq2, ((), out5.2).2) m6 x7 (IntKind.i64.wrap (y8 + (1 : Int)))
def vazq (L11 : Y2 → Y2 → Y2 → Y2 → Int → Int → Int → Y4 → Int → Z3) (k : Y2 → Y2 → Y2 → Y2 → Int → Int → Z3) (p2 q3 t4 out5 : Y2) (m6 x7 y8 : Int) : Z3 :=
  cond (decide (y8 < m6))
  (L11 p2 q3 t4 out5 m6 x7 y8 [] (0 : Int))
  (k p2 q3 t4 out5 m6 x7)
def vajw (rec : Y2 → Y2 → Y2 → Y2 → Int → Int → Z3) (p2 q3 t4 out5 : Y2) (m6 x7 : Int) : Z3 :=
  rec p2 q3 t4 out5 m6 (IntKind.i64.wrap (x7 + (1 : Int)))
def vazt (L7 : Y2 → Y2 → Y2 → Y2 → Int → Int → Int → Z3) (k : Y2 → Y2 → Z3) (p2 q3 t4 out5 : Y2) (m6 x7 : Int) : Z3 :=
  cond (decide (x7 < (p2.1.length : Int)))
  (L7 p2 q3 t4 out5 m6 x7 (0 : Int))
  (k t4 out5)
def vagr (t4 out5 : Y2) : Z3 :=
  some (out5, (()))
def vbfl (L4 : Y2 → Y2 → Y2 → Y2 → Int → Int → Z3) (p_0 q_1 : Y2) : Z3 :=
  L4 p_0 q_1 (([] : Y3), ()) ([], ()) (q_1.1.length : Int) (0 : Int)
def vqy (N : Nat) (k : Y2 → Y2 → Y2 → Y2 → Int → Int → Int → Y4 → Int → Z3) : Nat → Y2 → Y2 → Y2 → Y2 → Int → Int → Int → Y4 → Int → Int → Z3
  | 0, _, _, _, _, _, _, _, _, _, _ => none
  | m + 1, p2, q3, t4, out5, m6, x7, y8, below9, i10, k11 => vaqj (vqy N k m) k p2 q3 t4 out5 m6 x7 y8 below9 i10 k11
def vatz (N : Nat) (rec : Y2 → Y2 → Y2 → Y2 → Int → Int → Int → Y4 → Int → Z3) (k : Y2 → Y2 → Y2 → Y2 → Int → Int → Int → Y4 → Z3) (p2 q3 t4 out5 : Y2) (m6 x7 y8 : Int) (below9 : Y4) (i10 k11 : Int) : Z3 := vqy N (vabz rec) N p2 q3 t4 out5 m6 x7 y8 below9 i10 k11
def vfu (N : Nat) (k : Y2 → Y2 → Y2 → Y2 → Int → Int → Int → Y4 → Z3) : Nat → Y2 → Y2 → Y2 → Y2 → Int → Int → Int → Y4 → Int → Z3
  | 0, _, _, _, _, _, _, _, _, _ => none
  | m + 1, p2, q3, t4, out5, m6, x7, y8, below9, i10 => vaqq (vatz N (vfu N k m) k) k p2 q3 t4 out5 m6 x7 y8 below9 i10
def vaup (N : Nat) (rec : Y2 → Y2 → Y2 → Y2 → Int → Int → Int → Z3) (k : Y2 → Y2 → Y2 → Y2 → Int → Int → Z3) (p2 q3 t4 out5 : Y2) (m6 x7 y8 : Int) (below9 : Y4) (i10 : Int) : Z3 := vfu N (vacc rec) N p2 q3 t4 out5 m6 x7 y8 below9 i10
def vqd (N : Nat) (k : Y2 → Y2 → Y2 → Y2 → Int → Int → Z3) : Nat → Y2 → Y2 → Y2 → Y2 → Int → Int → Int → Z3
  | 0, _, _, _, _, _, _, _ => none
  | m + 1, p2, q3, t4, out5, m6, x7, y8 => vazq (vaup N (vqd N k m) k) k p2 q3 t4 out5 m6 x7 y8
def vayy (N : Nat) (rec : Y2 → Y2 → Y2 → Y2 → Int → Int → Z3) (k : Y2 → Y2 → Z3) (p2 q3 t4 out5 : Y2) (m6 x7 y8 : Int) : Z3 := vqd N (vajw rec) N p2 q3 t4 out5 m6 x7 y8
def vov (N : Nat) (k : Y2 → Y2 → Z3) : Nat → Y2 → Y2 → Y2 → Y2 → Int → Int → Z3
  | 0, _, _, _, _, _, _ => none
  | m + 1, p2, q3, t4, out5, m6, x7 => vazt (vayy N (vov N k m) k) k p2 q3 t4 out5 m6 x7
def vazi (N : Nat) (p2 q3 t4 out5 : Y2) (m6 x7 : Int) : Z3 := vov N (vagr) N p2 q3 t4 out5 m6 x7
def zz12 (N : Nat) (p_0 q_1 : Y2) : Z3 := vbfl (vazi N) p_0 q_1
def S_zz12 : Sig := { a := (.pair (.pair (.sl (.sl I)) .unit) (.pair (.pair (.sl (.sl I)) .unit) .unit)), md := [0, 0], mf := [], m := .unit, r := (.pair (.sl (.sl I)) .unit), rf := (.p (.o (.o .i)) .i), f := fun x => zz12 big x.1 x.2.1 }
def A_zz12 : Cfg := mkCfg tab [] [(8, [.drop, .drop, .as y1 (.o .i), .as y1 (.o .i), .as y1 (.o (.p (.o (.o .i)) .i)), .as y1 (.o (.p (.o (.o .i)) .i)), .as I .i, .as I .i]), (14, [.drop, .drop, .as y1 (.o .i), .as y1 (.o .i), .as y1 (.o (.p (.o (.o .i)) .i)), .as y1 (.o (.p (.o (.o .i)) .i)), .as I .i, .as I .i, .as I .i]), (37, [.drop, .drop, .drop, .drop, .as y1 (.o (.p (.o (.o .i)) .i)), .as y1 (.o (.p (.o (.o .i)) .i))]), (22, [.drop, .drop, .as y1 (.o .i), .as y1 (.o .i), .as y1 (.o (.p (.o (.o .i)) .i)), .as y1 (.o (.p (.o (.o .i)) .i)), .as I .i, .as I .i, .as I .i, .as (.sl I) (.o .i), .as I .i]), (11, [.drop, .drop, .as y1 (.o .i), .as y1 (.o .i), .as y1 (.o (.p (.o (.o .i)) .i)), .as y1 (.o (.p (.o (.o .i)) .i)), .as I .i, .as I .i]), (28, [.drop, .drop, .as y1 (.o .i), .as y1 (.o .i), .as y1 (.o (.p (.o (.o .i)) .i)), .as y1 (.o (.p (.o (.o .i)) .i)), .as I .i, .as I .i, .as I .i, .as (.sl I) (.o .i), .as I .i, .as I .i]), (35, [.drop, .drop, .as y1 (.o .i), .as y1 (.o .i), .as y1 (.o (.p (.o (.o .i)) .i)), .as y1 (.o (.p (.o (.o .i)) .i)), .as I .i, .as I .i, .as I .i, .as (.sl I) (.o .i)]), (25, [.drop, .drop, .as y1 (.o .i), .as y1 (.o .i), .as y1 (.o (.p (.o (.o .i)) .i)), .as y1 (.o (.p (.o (.o .i)) .i)), .as I .i, .as I .i, .as I .i, .as (.sl I) (.o .i), .as I .i])]
noncomputable def vgn (N n : Nat) (K : Ex → St → Z3) (p2 q3 t4 out5 : Y2) (m6 x7 : Int) : Z3 := iter ((A_zz12).shape 8) (run (A_zz12) N (codeAt Try.f121 [1, 1, 1, 0, 1, 0, 0])) n ([.u, .u, .val y1 (.o .i) p2, .val y1 (.o .i) q3, .val y1 (.o (.p (.o (.o .i)) .i)) t4, .val y1 (.o (.p (.o (.o .i)) .i)) out5, .val I .i m6, .val I .i x7] ++ List.replicate 71 .u) K
noncomputable def vjk (N n : Nat) (K : Ex → St → Z3) (p2 q3 t4 out5 : Y2) (m6 x7 y8 : Int) : Z3 := iter ((A_zz12).shape 14) (run (A_zz12) N (codeAt Try.f121 [1, 1, 1, 0, 1, 0, 0, 1, 0, 0, 1, 0, 0])) n ([.u, .u, .val y1 (.o .i) p2, .val y1 (.o .i) q3, .val y1 (.o (.p (.o (.o .i)) .i)) t4, .val y1 (.o (.p (.o (.o .i)) .i)) out5, .val I .i m6, .val I .i x7, .val I .i y8] ++ List.replicate 70 .u) K
noncomputable def vea (N n : Nat) (K : Ex → St → Z3) (p2 q3 t4 out5 : Y2) (m6 x7 y8 : Int) (below9 : Y4) (i10 : Int) : Z3 := iter ((A_zz12).shape 22) (run (A_zz12) N (codeAt Try.f121 [1, 1, 1, 0, 1, 0, 0, 1, 0, 0, 1, 0, 0, 1, 0, 0, 1, 0, 1, 0, 0])) n ([.u, .u, .val y1 (.o .i) p2, .val y1 (.o .i) q3, .val y1 (.o (.p (.o (.o .i)) .i)) t4, .val y1 (.o (.p (.o (.o .i)) .i)) out5, .val I .i m6, .val I .i x7, .val I .i y8, .val (.sl I) (.o .i) below9, .val I .i i10] ++ List.replicate 68 .u) K
noncomputable def vfb (N n : Nat) (K : Ex → St → Z3) (p2 q3 t4 out5 : Y2) (m6 x7 y8 : Int) (below9 : Y4) (i10 k11 : Int) : Z3 := iter ((A_zz12).shape 28) (run (A_zz12) N (codeAt Try.f121 [1, 1, 1, 0, 1, 0, 0, 1, 0, 0, 1, 0, 0, 1, 0, 0, 1, 0, 1, 0, 0, 1, 0, 0, 1, 0, 0])) n ([.u, .u, .val y1 (.o .i) p2, .val y1 (.o .i) q3, .val y1 (.o (.p (.o (.o .i)) .i)) t4, .val y1 (.o (.p (.o (.o .i)) .i)) out5, .val I .i m6, .val I .i x7, .val I .i y8, .val (.sl I) (.o .i) below9, .val I .i i10, .val I .i k11] ++ List.replicate 67 .u) K
noncomputable abbrev vve : Ex → St → Z3 := finish (A_zz12) S_zz12 Try.f121.results.toList
noncomputable abbrev vka (kX : St → Z3) : Y2 → Y2 → Z3 := fun (t4 out5 : Y2) => kX ([.u, .u, .u, .u, .val y1 (.o (.p (.o (.o .i)) .i)) t4, .val y1 (.o (.p (.o (.o .i)) .i)) out5] ++ List.replicate 73 .u)
noncomputable abbrev vgh (kX : St → Z3) (kO : Nat → St → Z3) : Ex → St → Z3 := exK vve 0 ((A_zz12).shape 37) kX kO
noncomputable abbrev vgx (kX : St → Z3) : Y2 → Y2 → Y2 → Y2 → Int → Int → Z3 := fun (p2 q3 t4 out5 : Y2) (m6 x7 : Int) => kX ([.u, .u, .val y1 (.o .i) p2, .val y1 (.o .i) q3, .val y1 (.o (.p (.o (.o .i)) .i)) t4, .val y1 (.o (.p (.o (.o .i)) .i)) out5, .val I .i m6, .val I .i x7] ++ List.replicate 71 .u)
noncomputable abbrev vgs (kX : St → Z3) (kO : Nat → St → Z3) : Ex → St → Z3 := exK vve 2 ((A_zz12).shape 11) kX kO
noncomputable abbrev vdq (kX : St → Z3) : Y2 → Y2 → Y2 → Y2 → Int → Int → Int → Y4 → Z3 := fun (p2 q3 t4 out5 : Y2) (m6 x7 y8 : Int) (below9 : Y4) => kX ([.u, .u, .val y1 (.o .i) p2, .val y1 (.o .i) q3, .val y1 (.o (.p (.o (.o .i)) .i)) t4, .val y1 (.o (.p (.o (.o .i)) .i)) out5, .val I .i m6, .val I .i x7, .val I .i y8, .val (.sl I) (.o .i) below9] ++ List.replicate 69 .u)
noncomputable abbrev vdy (kX : St → Z3) (kO : Nat → St → Z3) : Ex → St → Z3 := exK vve 4 ((A_zz12).shape 35) kX kO
noncomputable abbrev vqs (kX : St → Z3) : Y2 → Y2 → Y2 → Y2 → Int → Int → Int → Y4 → Int → Z3 := fun (p2 q3 t4 out5 : Y2) (m6 x7 y8 : Int) (below9 : Y4) (i10 : Int) => kX ([.u, .u, .val y1 (.o .i) p2, .val y1 (.o .i) q3, .val y1 (.o (.p (.o (.o .i)) .i)) t4, .val y1 (.o (.p (.o (.o .i)) .i)) out5, .val I .i m6, .val I .i x7, .val I .i y8, .val (.sl I) (.o .i) below9, .val I .i i10] ++ List.replicate 68 .u)
noncomputable abbrev vwc (kX : St → Z3) (kO : Nat → St → Z3) : Ex → St → Z3 := exK vve 6 ((A_zz12).shape 25) kX kO
theorem vawe (N m : Nat) (kX : St → Z3) (kO : Nat → St → Z3) (p2 q3 t4 out5 : Y2) (m6 x7 y8 : Int) (below9 : Y4) (i10 k11 : Int) : vfb N (m + 1) (vwc kX kO) p2 q3 t4 out5 m6 x7 y8 below9 i10 k11 = vaqj (vfb N m (vwc kX kO)) (vqs kX) p2 q3 t4 out5 m6 x7 y8 below9 i10 k11 := by kernel_rfl
theorem vaay (N : Nat) (kX : St → Z3) (kO : Nat → St → Z3) : ∀ (n : Nat) (p2 q3 t4 out5 : Y2) (m6 x7 y8 : Int) (below9 : Y4) (i10 k11 : Int), vfb N n (vwc kX kO) p2 q3 t4 out5 m6 x7 y8 below9 i10 k11 = vqy N (vqs kX) n p2 q3 t4 out5 m6 x7 y8 below9 i10 k11
  | 0, _, _, _, _, _, _, _, _, _, _ => rfl
  | m + 1, p2, q3, t4, out5, m6, x7, y8, below9, i10, k11 => by
    have hrec : vfb N m (vwc kX kO) = (vqy N (vqs kX) m) := (funext fun p2 => (funext fun q3 => (funext fun t4 => (funext fun out5 => (funext fun m6 => (funext fun x7 => (funext fun y8 => (funext fun below9 => (funext fun i10 => (funext fun k11 => vaay N kX kO m p2 q3 t4 out5 m6 x7 y8 below9 i10 k11))))))))))
    refine (vawe N m kX kO p2 q3 t4 out5 m6 x7 y8 below9 i10 k11).trans ?_
    rw [hrec]
    rfl
noncomputable abbrev vabn (N m : Nat) (kX : St → Z3) (kO : Nat → St → Z3) : Ex → St → Z3 := (blockK 6 (blockK 5 (seqK ((A_zz12).shape 25) (gated ((A_zz12).shape 500012).isSome N (run (A_zz12) N (codeAt Try.f121 [1, 1, 1, 0, 1, 0, 0, 1, 0, 0, 1, 0, 0, 1, 0, 0, 1, 0, 1, 0, 0, 1, 1]))) (iterK ((A_zz12).shape 22) (run (A_zz12) N (codeAt Try.f121 [1, 1, 1, 0, 1, 0, 0, 1, 0, 0, 1, 0, 0, 1, 0, 0, 1, 0, 1, 0, 0])) m (vdy kX kO)))))
noncomputable abbrev vabh (N m : Nat) (kX : St → Z3) (kO : Nat → St → Z3) : St → Z3 := fun st' => run (A_zz12) N (codeAt Try.f121 [1, 1, 1, 0, 1, 0, 0, 1, 0, 0, 1, 0, 0, 1, 0, 0, 1, 0, 1, 0, 0, 1, 1]) st' (iterK ((A_zz12).shape 22) (run (A_zz12) N (codeAt Try.f121 [1, 1, 1, 0, 1, 0, 0, 1, 0, 0, 1, 0, 0, 1, 0, 0, 1, 0, 1, 0, 0])) m (vdy kX kO))
theorem vaty (N m : Nat) (kX : St → Z3) (kO : Nat → St → Z3) (p2 q3 t4 out5 : Y2) (m6 x7 y8 : Int) (below9 : Y4) (i10 : Int) : vqs (vabh N m kX kO) p2 q3 t4 out5 m6 x7 y8 below9 i10 = vabz (vea N m (vdy kX kO)) p2 q3 t4 out5 m6 x7 y8 below9 i10 := by kernel_rfl
theorem vbgg (N m : Nat) (kX : St → Z3) (kO : Nat → St → Z3) (recF : Y2 → Y2 → Y2 → Y2 → Int → Int → Int → Y4 → Int → Z3) (hrec : vea N m (vdy kX kO) = recF) (p2 q3 t4 out5 : Y2) (m6 x7 y8 : Int) (below9 : Y4) (i10 k11 : Int) : vfb N N (vabn N m kX kO) p2 q3 t4 out5 m6 x7 y8 below9 i10 k11 = vatz N recF (vdq kX) p2 q3 t4 out5 m6 x7 y8 below9 i10 k11 :=
  have h : vqs (vabh N m kX kO) = (vabz recF) := (funext fun p2 => (funext fun q3 => (funext fun t4 => (funext fun out5 => (funext fun m6 => (funext fun x7 => (funext fun y8 => (funext fun below9 => (funext fun i10 => (vaty N m kX kO p2 q3 t4 out5 m6 x7 y8 below9 i10).trans (by rw [hrec]))))))))))
  ((vad (fun st => by kernel_rfl) (fun st => by kernel_rfl)).trans (vaay N (vabh N m kX kO) (fun j st => (vabn N m kX kO) (.exit j) st) N p2 q3 t4 out5 m6 x7 y8 below9 i10 k11)).trans (congrArg (fun k => vqy N k N p2 q3 t4 out5 m6 x7 y8 below9 i10 k11) h)
theorem vaxl (N m : Nat) (kX : St → Z3) (kO : Nat → St → Z3) (p2 q3 t4 out5 : Y2) (m6 x7 y8 : Int) (below9 : Y4) (i10 : Int) : vea N (m + 1) (vdy kX kO) p2 q3 t4 out5 m6 x7 y8 below9 i10 = vaqq (vfb N N (vabn N m kX kO)) (vdq kX) p2 q3 t4 out5 m6 x7 y8 below9 i10 := by kernel_rfl
theorem vaac (N : Nat) (kX : St → Z3) (kO : Nat → St → Z3) : ∀ (n : Nat) (p2 q3 t4 out5 : Y2) (m6 x7 y8 : Int) (below9 : Y4) (i10 : Int), vea N n (vdy kX kO) p2 q3 t4 out5 m6 x7 y8 below9 i10 = vfu N (vdq kX) n p2 q3 t4 out5 m6 x7 y8 below9 i10
  | 0, _, _, _, _, _, _, _, _, _ => rfl
  | m + 1, p2, q3, t4, out5, m6, x7, y8, below9, i10 => by
    have hrec : vea N m (vdy kX kO) = (vfu N (vdq kX) m) := (funext fun p2 => (funext fun q3 => (funext fun t4 => (funext fun out5 => (funext fun m6 => (funext fun x7 => (funext fun y8 => (funext fun below9 => (funext fun i10 => vaac N kX kO m p2 q3 t4 out5 m6 x7 y8 below9 i10)))))))))
    refine (vaxl N m kX kO p2 q3 t4 out5 m6 x7 y8 below9 i10).trans ?_
    rw [(funext fun p2 => (funext fun q3 => (funext fun t4 => (funext fun out5 => (funext fun m6 => (funext fun x7 => (funext fun y8 => (funext fun below9 => (funext fun i10 => (funext fun k11 => vbgg N m kX kO (vfu N (vdq kX) m) hrec p2 q3 t4 out5 m6 x7 y8 below9 i10 k11))))))))))]
    rfl
noncomputable abbrev vabk (N m : Nat) (kX : St → Z3) (kO : Nat → St → Z3) : Ex → St → Z3 := (blockK 4 (seqK ((A_zz12).shape 35) (gated ((A_zz12).shape 500017).isSome N (run (A_zz12) N (codeAt Try.f121 [1, 1, 1, 0, 1, 0, 0, 1, 0, 0, 1, 0, 0, 1, 0, 0, 1, 1]))) (blockK 3 (seqK ((A_zz12).shape 17) (gated ((A_zz12).shape 500008).isSome N (run (A_zz12) N (codeAt Try.f121 [1, 1, 1, 0, 1, 0, 0, 1, 0, 0, 1, 0, 0, 1, 1]))) (iterK ((A_zz12).shape 14) (run (A_zz12) N (codeAt Try.f121 [1, 1, 1, 0, 1, 0, 0, 1, 0, 0, 1, 0, 0])) m (vgs kX kO))))))
noncomputable abbrev vabl (N m : Nat) (kX : St → Z3) (kO : Nat → St → Z3) : St → Z3 := fun st' => run (A_zz12) N (codeAt Try.f121 [1, 1, 1, 0, 1, 0, 0, 1, 0, 0, 1, 0, 0, 1, 0, 0, 1, 1]) st' (blockK 3 (seqK ((A_zz12).shape 17) (gated ((A_zz12).shape 500008).isSome N (run (A_zz12) N (codeAt Try.f121 [1, 1, 1, 0, 1, 0, 0, 1, 0, 0, 1, 0, 0, 1, 1]))) (iterK ((A_zz12).shape 14) (run (A_zz12) N (codeAt Try.f121 [1, 1, 1, 0, 1, 0, 0, 1, 0, 0, 1, 0, 0])) m (vgs kX kO))))
theorem vaqm (N m : Nat) (kX : St → Z3) (kO : Nat → St → Z3) (p2 q3 t4 out5 : Y2) (m6 x7 y8 : Int) (below9 : Y4) : vdq (vabl N m kX kO) p2 q3 t4 out5 m6 x7 y8 below9 = vacc (vjk N m (vgs kX kO)) p2 q3 t4 out5 m6 x7 y8 below9 := by kernel_rfl
theorem vbha (N m : Nat) (kX : St → Z3) (kO : Nat → St → Z3) (recF : Y2 → Y2 → Y2 → Y2 → Int → Int → Int → Z3) (hrec : vjk N m (vgs kX kO) = recF) (p2 q3 t4 out5 : Y2) (m6 x7 y8 : Int) (below9 : Y4) (i10 : Int) : vea N N (vabk N m kX kO) p2 q3 t4 out5 m6 x7 y8 below9 i10 = vaup N recF (vgx kX) p2 q3 t4 out5 m6 x7 y8 below9 i10 :=
  have h : vdq (vabl N m kX kO) = (vacc recF) := (funext fun p2 => (funext fun q3 => (funext fun t4 => (funext fun out5 => (funext fun m6 => (funext fun x7 => (funext fun y8 => (funext fun below9 => (vaqm N m kX kO p2 q3 t4 out5 m6 x7 y8 below9).trans (by rw [hrec])))))))))
  ((vad (fun st => by kernel_rfl) (fun st => by kernel_rfl)).trans (vaac N (vabl N m kX kO) (fun j st => (vabk N m kX kO) (.exit j) st) N p2 q3 t4 out5 m6 x7 y8 below9 i10)).trans (congrArg (fun k => vfu N k N p2 q3 t4 out5 m6 x7 y8 below9 i10) h)
theorem vbco (N m : Nat) (kX : St → Z3) (kO : Nat → St → Z3) (p2 q3 t4 out5 : Y2) (m6 x7 y8 : Int) : vjk N (m + 1) (vgs kX kO) p2 q3 t4 out5 m6 x7 y8 = vazq (vea N N (vabk N m kX kO)) (vgx kX) p2 q3 t4 out5 m6 x7 y8 := by kernel_rfl
theorem vafr (N : Nat) (kX : St → Z3) (kO : Nat → St → Z3) : ∀ (n : Nat) (p2 q3 t4 out5 : Y2) (m6 x7 y8 : Int), vjk N n (vgs kX kO) p2 q3 t4 out5 m6 x7 y8 = vqd N (vgx kX) n p2 q3 t4 out5 m6 x7 y8
  | 0, _, _, _, _, _, _, _ => rfl
  | m + 1, p2, q3, t4, out5, m6, x7, y8 => by
    have hrec : vjk N m (vgs kX kO) = (vqd N (vgx kX) m) := (funext fun p2 => (funext fun q3 => (funext fun t4 => (funext fun out5 => (funext fun m6 => (funext fun x7 => (funext fun y8 => vafr N kX kO m p2 q3 t4 out5 m6 x7 y8)))))))
    refine (vbco N m kX kO p2 q3 t4 out5 m6 x7 y8).trans ?_
    rw [(funext fun p2 => (funext fun q3 => (funext fun t4 => (funext fun out5 => (funext fun m6 => (funext fun x7 => (funext fun y8 => (funext fun below9 => (funext fun i10 => vbha N m kX kO (vqd N (vgx kX) m) hrec p2 q3 t4 out5 m6 x7 y8 below9 i10)))))))))]
    rfl
noncomputable abbrev vaha (N m : Nat) (kX : St → Z3) (kO : Nat → St → Z3) : Ex → St → Z3 := (blockK 2 (blockK 1 (seqK ((A_zz12).shape 11) (gated ((A_zz12).shape 500005).isSome N (run (A_zz12) N (codeAt Try.f121 [1, 1, 1, 0, 1, 0, 0, 1, 1]))) (iterK ((A_zz12).shape 8) (run (A_zz12) N (codeAt Try.f121 [1, 1, 1, 0, 1, 0, 0])) m (vgh kX kO)))))
noncomputable abbrev vait (N m : Nat) (kX : St → Z3) (kO : Nat → St → Z3) : St → Z3 := fun st' => run (A_zz12) N (codeAt Try.f121 [1, 1, 1, 0, 1, 0, 0, 1, 1]) st' (iterK ((A_zz12).shape 8) (run (A_zz12) N (codeAt Try.f121 [1, 1, 1, 0, 1, 0, 0])) m (vgh kX kO))
theorem vavl (N m : Nat) (kX : St → Z3) (kO : Nat → St → Z3) (p2 q3 t4 out5 : Y2) (m6 x7 : Int) : vgx (vait N m kX kO) p2 q3 t4 out5 m6 x7 = vajw (vgn N m (vgh kX kO)) p2 q3 t4 out5 m6 x7 := by kernel_rfl
theorem vbjg (N m : Nat) (kX : St → Z3) (kO : Nat → St → Z3) (recF : Y2 → Y2 → Y2 → Y2 → Int → Int → Z3) (hrec : vgn N m (vgh kX kO) = recF) (p2 q3 t4 out5 : Y2) (m6 x7 y8 : Int) : vjk N N (vaha N m kX kO) p2 q3 t4 out5 m6 x7 y8 = vayy N recF (vka kX) p2 q3 t4 out5 m6 x7 y8 :=
  have h : vgx (vait N m kX kO) = (vajw recF) := (funext fun p2 => (funext fun q3 => (funext fun t4 => (funext fun out5 => (funext fun m6 => (funext fun x7 => (vavl N m kX kO p2 q3 t4 out5 m6 x7).trans (by rw [hrec])))))))
  ((vad (fun st => by kernel_rfl) (fun st => by kernel_rfl)).trans (vafr N (vait N m kX kO) (fun j st => (vaha N m kX kO) (.exit j) st) N p2 q3 t4 out5 m6 x7 y8)).trans (congrArg (fun k => vqd N k N p2 q3 t4 out5 m6 x7 y8) h)
theorem vbam (N m : Nat) (kX : St → Z3) (kO : Nat → St → Z3) (p2 q3 t4 out5 : Y2) (m6 x7 : Int) : vgn N (m + 1) (vgh kX kO) p2 q3 t4 out5 m6 x7 = vazt (vjk N N (vaha N m kX kO)) (vka kX) p2 q3 t4 out5 m6 x7 := by kernel_rfl
theorem vacs (N : Nat) (kX : St → Z3) (kO : Nat → St → Z3) : ∀ (n : Nat) (p2 q3 t4 out5 : Y2) (m6 x7 : Int), vgn N n (vgh kX kO) p2 q3 t4 out5 m6 x7 = vov N (vka kX) n p2 q3 t4 out5 m6 x7
  | 0, _, _, _, _, _, _ => rfl
  | m + 1, p2, q3, t4, out5, m6, x7 => by
    have hrec : vgn N m (vgh kX kO) = (vov N (vka kX) m) := (funext fun p2 => (funext fun q3 => (funext fun t4 => (funext fun out5 => (funext fun m6 => (funext fun x7 => vacs N kX kO m p2 q3 t4 out5 m6 x7))))))
    refine (vbam N m kX kO p2 q3 t4 out5 m6 x7).trans ?_
    rw [(funext fun p2 => (funext fun q3 => (funext fun t4 => (funext fun out5 => (funext fun m6 => (funext fun x7 => (funext fun y8 => vbjg N m kX kO (vov N (vka kX) m) hrec p2 q3 t4 out5 m6 x7 y8)))))))]
    rfl
noncomputable abbrev vamv (N : Nat) : Ex → St → Z3 := (blockK 0 (seqK ((A_zz12).shape 37) (gated ((A_zz12).shape 500018).isSome N (run (A_zz12) N (codeAt Try.f121 [1, 1, 1, 1]))) vve))
noncomputable abbrev vakp (N : Nat) : St → Z3 := fun st' => run (A_zz12) N (codeAt Try.f121 [1, 1, 1, 1]) st' vve
theorem vawz (N : Nat) (t4 out5 : Y2) : vka (vakp N) t4 out5 = vagr t4 out5 := by kernel_rfl
theorem vbiv (N : Nat) (p2 q3 t4 out5 : Y2) (m6 x7 : Int) : vgn N N (vamv N) p2 q3 t4 out5 m6 x7 = vazi N p2 q3 t4 out5 m6 x7 :=
  have h : vka (vakp N) = (vagr) := (funext fun t4 => (funext fun out5 => vawz N t4 out5))
  ((vad (fun st => by kernel_rfl) (fun st => by kernel_rfl)).trans (vacs N (vakp N) (fun j st => (vamv N) (.exit j) st) N p2 q3 t4 out5 m6 x7)).trans (congrArg (fun k => vov N k N p2 q3 t4 out5 m6 x7) h)
theorem run0_zz12 (N : Nat) (x : (S_zz12).a.den) : runF (A_zz12) N Try.f121 S_zz12 x = (vbfl (vgn N N (vamv N)) x.1 x.2.1) := by kernel_rfl
theorem run_zz12 (N : Nat) (x : (S_zz12).a.den) : runF (A_zz12) N Try.f121 S_zz12 x = zz12 N x.1 x.2.1 := by
  refine (run0_zz12 N x).trans ?_
  rw [(funext fun p2 => (funext fun q3 => (funext fun t4 => (funext fun out5 => (funext fun m6 => (funext fun x7 => vbiv N p2 q3 t4 out5 m6 x7))))))]
  rfl
theorem fn_zz12 : FnOk Try.prog 121 := ⟨_, Try.func121, by kernel_rfl, by kernel_rfl⟩
theorem good_zz12 : Gx.Good Try.prog 121 S_zz12 := vaa Try.func121 (of_decide_eq_true (by kernel_rfl)) fun x r h => ⟨A_zz12, big, vac tabOk, vab (show SigsOk Try.prog [] from trivial), (run_zz12 big x).trans h⟩
def vbpy (k_0 : Int) : Z3 :=
  cond (decide (k_0 = (0 : Int)))
  ((zz9 big (1 : Int) []).bind fun rq1 =>
  some (rq1.1, (())))
  (cond (decide (k_0 = (1 : Int)))
  ((zz9 big (2 : Int) [((0 : Int), ((1 : Int), ()))]).bind fun rq2 =>
  some (rq2.1, (())))
  (cond (decide (k_0 = (2 : Int)))
  ((zz9 big (4 : Int) [((0 : Int), ((1 : Int), ())), ((1 : Int), ((2 : Int), ())), ((2 : Int), ((3 : Int), ()))]).bind fun rq3 =>
  some (rq3.1, (())))
  (cond (decide (k_0 = (3 : Int)))
  ((zz9 big (4 : Int) [((0 : Int), ((1 : Int), ())), ((0 : Int), ((2 : Int), ())), ((1 : Int), ((3 : Int), ())), ((2 : Int), ((3 : Int), ()))]).bind fun rq4 =>
  some (rq4.1, (())))
  (cond (decide (k_0 = (4 : Int)))
  ((zz9 big (5 : Int) [((0 : Int), ((1 : Int), ())), ((0 : Int), ((2 : Int), ())), ((0 : Int), ((3 : Int), ())), ((1 : Int), ((4 : Int), ())), ((2 : Int), ((4 : Int), ())), ((3 : Int), ((4 : Int), ()))]).bind fun rq5 =>
  some (rq5.1, (())))
  (cond (decide (k_0 = (5 : Int)))
  ((zz9 big (5 : Int) [((0 : Int), ((1 : Int), ())), ((1 : Int), ((2 : Int), ())), ((0 : Int), ((3 : Int), ())), ((2 : Int), ((4 : Int), ())), ((3 : Int), ((4 : Int), ()))]).bind fun rq6 =>
  some (rq6.1, (())))
  (cond (decide (k_0 = (6 : Int)))
  ((zz9 big (8 : Int) [((0 : Int), ((1 : Int), ())), ((0 : Int), ((2 : Int), ())), ((0 : Int), ((3 : Int), ())), ((1 : Int), ((4 : Int), ())), ((1 : Int), ((5 : Int), ())), ((2 : Int), ((4 : Int), ())), ((2 : Int), ((6 : Int), ())), ((3 : Int), ((5 : Int), ())), ((3 : Int), ((6 : Int), ())), ((4 : Int), ((7 : Int), ())), ((5 : Int), ((7 : Int), ())), ((6 : Int), ((7 : Int), ()))]).bind fun rq7 =>
  some (rq7.1, (())))
  (cond (decide (k_0 = (7 : Int)))
  ((zz9 big (6 : Int) [((0 : Int), ((1 : Int), ())), ((0 : Int), ((2 : Int), ())), ((1 : Int), ((3 : Int), ())), ((2 : Int), ((3 : Int), ())), ((2 : Int), ((4 : Int), ())), ((3 : Int), ((5 : Int), ())), ((4 : Int), ((5 : Int), ()))]).bind fun rq8 =>
  some (rq8.1, (())))
  (cond (decide (k_0 = (8 : Int)))
  ((zz9 big (6 : Int) [((0 : Int), ((1 : Int), ())), ((0 : Int), ((2 : Int), ())), ((1 : Int), ((3 : Int), ())), ((2 : Int), ((4 : Int), ())), ((3 : Int), ((5 : Int), ())), ((4 : Int), ((5 : Int), ()))]).bind fun rq9 =>
  some (rq9.1, (())))
  (cond (decide (k_0 = (9 : Int)))
  ((zz9 big (7 : Int) [((0 : Int), ((1 : Int), ())), ((0 : Int), ((2 : Int), ())), ((0 : Int), ((3 : Int), ())), ((1 : Int), ((4 : Int), ())), ((2 : Int), ((4 : Int), ())), ((3 : Int), ((5 : Int), ())), ((2 : Int), ((5 : Int), ())), ((4 : Int), ((6 : Int), ())), ((5 : Int), ((6 : Int), ()))]).bind fun rq10 =>
  some (rq10.1, (())))
  (cond (decide (k_0 = (10 : Int)))
  ((zz9 big (3 : Int) [((0 : Int), ((1 : Int), ())), ((1 : Int), ((2 : Int), ()))]).bind fun rq11 =>
  (zz9 big (3 : Int) [((0 : Int), ((1 : Int), ())), ((1 : Int), ((2 : Int), ()))]).bind fun rq12 =>
  (zz12 big rq11.1 rq12.1).bind fun rq13 =>
  some (rq13.1, (())))
  ((zz9 big (3 : Int) [((0 : Int), ((1 : Int), ())), ((1 : Int), ((2 : Int), ()))]).bind fun rq14 =>
  some (rq14.1, (())))))))))))))
def zz13 (k_0 : Int) : Z3 := vbpy k_0
def S_zz13 : Sig := { a := (.pair I .unit), md := [0], mf := [], m := .unit, r := (.pair (.sl (.sl I)) .unit), rf := (.p (.o (.o .i)) .i), f := fun x => zz13 x.1 }
def A_zz13 : Cfg := mkCfg tab [(98, S_zz9), (121, S_zz12)] []
theorem run_zz13 (N : Nat) (x : (S_zz13).a.den) : runF (A_zz13) N Try.f94 S_zz13 x = zz13 x.1 := by kernel_rfl
theorem fn_zz13 : FnOk Try.prog 94 := ⟨_, Try.func94, by kernel_rfl, by kernel_rfl⟩
theorem good_zz13 : Gx.Good Try.prog 94 S_zz13 := vaa Try.func94 (of_decide_eq_true (by kernel_rfl)) fun x r h => ⟨A_zz13, big, vac tabOk, vab (show SigsOk Try.prog [(98, S_zz9), (121, S_zz12)] from ⟨⟨fn_zz9, good_zz9⟩, ⟨fn_zz12, good_zz12⟩, trivial⟩), (run_zz13 big x).trans h⟩
def vlw (rec : Y4 → Int → Int → Z0) (k : Z0) (l0 : Y4) (n1 i5 : Int) : Z0 :=
  cond (decide (i5 < (l0.length : Int)))
  ((atI l0 i5).bind fun xq1 =>
  cond (decide (xq1 = n1))
  (some (true, (())))
  (rec l0 n1 (IntKind.i64.wrap (i5 + (1 : Int)))))
  (k)
def vfh : Z0 :=
  some (false, (()))
def vaqp (L2 : Y4 → Int → Int → Z0) (l_0 : Y4) (n_1 : Int) : Z0 :=
  L2 l_0 n_1 (0 : Int)
def vpa (N : Nat) (k : Z0) : Nat → Y4 → Int → Int → Z0
  | 0, _, _, _ => none
  | m + 1, l0, n1, i5 => vlw (vpa N k m) k l0 n1 i5
def valk (N : Nat) (l0 : Y4) (n1 i5 : Int) : Z0 := vpa N (vfh) N l0 n1 i5
def zz14 (N : Nat) (l_0 : Y4) (n_1 : Int) : Z0 := vaqp (valk N) l_0 n_1
def S_zz14 : Sig := { a := (.pair (.sl I) (.pair I .unit)), md := [0, 0], mf := [], m := .unit, r := .bool, rf := .i, f := fun x => zz14 big x.1 x.2.1 }
def A_zz14 : Cfg := mkCfg tab [] [(4, [.as (.sl I) .i, .as I .i, .drop, .drop, .drop, .as I .i]), (13, [])]
noncomputable def vms (N n : Nat) (K : Ex → St → Z0) (l0 : Y4) (n1 i5 : Int) : Z0 := iter ((A_zz14).shape 4) (run (A_zz14) N (codeAt Try.f69 [1, 0, 1, 0, 0])) n ([.val (.sl I) .i l0, .val I .i n1, .u, .u, .u, .val I .i i5] ++ List.replicate 12 .u) K
noncomputable abbrev vaqi : Ex → St → Z0 := finish (A_zz14) S_zz14 Try.f69.results.toList
noncomputable abbrev vuy (kX : St → Z0) : Z0 := kX ([] ++ List.replicate 18 .u)
noncomputable abbrev vzm (kX : St → Z0) (kO : Nat → St → Z0) : Ex → St → Z0 := exK vaqi 0 ((A_zz14).shape 13) kX kO
theorem vbbn (N m : Nat) (kX : St → Z0) (kO : Nat → St → Z0) (l0 : Y4) (n1 i5 : Int) : vms N (m + 1) (vzm kX kO) l0 n1 i5 = vlw (vms N m (vzm kX kO)) (vuy kX) l0 n1 i5 := by kernel_rfl
theorem vadw (N : Nat) (kX : St → Z0) (kO : Nat → St → Z0) : ∀ (n : Nat) (l0 : Y4) (n1 i5 : Int), vms N n (vzm kX kO) l0 n1 i5 = vpa N (vuy kX) n l0 n1 i5
  | 0, _, _, _ => rfl
  | m + 1, l0, n1, i5 => by
    have hrec : vms N m (vzm kX kO) = (vpa N (vuy kX) m) := (funext fun l0 => (funext fun n1 => (funext fun i5 => vadw N kX kO m l0 n1 i5)))
    refine (vbbn N m kX kO l0 n1 i5).trans ?_
    rw [hrec]
    rfl
noncomputable abbrev vajk (N : Nat) : Ex → St → Z0 := (blockK 0 (seqK ((A_zz14).shape 13) (gated ((A_zz14).shape 500006).isSome N (run (A_zz14) N (codeAt Try.f69 [1, 1]))) vaqi))
noncomputable abbrev vaje (N : Nat) : St → Z0 := fun st' => run (A_zz14) N (codeAt Try.f69 [1, 1]) st' vaqi
theorem vaxw (N : Nat) : vuy (vaje N) = vfh := by kernel_rfl
theorem vbkh (N : Nat) (l0 : Y4) (n1 i5 : Int) : vms N N (vajk N) l0 n1 i5 = valk N l0 n1 i5 :=
  have h : vuy (vaje N) = (vfh) := vaxw N
  ((vad (fun st => by kernel_rfl) (fun st => by kernel_rfl)).trans (vadw N (vaje N) (fun j st => (vajk N) (.exit j) st) N l0 n1 i5)).trans (congrArg (fun k => vpa N k N l0 n1 i5) h)
theorem run0_zz14 (N : Nat) (x : (S_zz14).a.den) : runF (A_zz14) N Try.f69 S_zz14 x = (vaqp (vms N N (vajk N)) x.1 x.2.1) := by kernel_rfl
theorem run_zz14 (N : Nat) (x : (S_zz14).a.den) : runF (A_zz14) N Try.f69 S_zz14 x = zz14 N x.1 x.2.1 := by
  refine (run0_zz14 N x).trans ?_
  rw [(funext fun l0 => (funext fun n1 => (funext fun i5 => vbkh N l0 n1 i5)))]
  rfl
theorem fn_zz14 : FnOk Try.prog 69 := ⟨_, Try.func69, by kernel_rfl, by kernel_rfl⟩
theorem good_zz14 : Gx.Good Try.prog 69 S_zz14 := vaa Try.func69 (of_decide_eq_true (by kernel_rfl)) fun x r h => ⟨A_zz14, big, vac tabOk, vab (show SigsOk Try.prog [] from trivial), (run_zz14 big x).trans h⟩
def vbfg (p_0 : Y2) (x_1 y_2 : Int) : Z0 :=
  (atI p_0.1 y_2).bind fun xq1 =>
  (zz14 big xq1 x_1).bind fun rq2 =>
  some (rq2.1, (()))
def zz15 (p_0 : Y2) (x_1 y_2 : Int) : Z0 := vbfg p_0 x_1 y_2
def S_zz15 : Sig := { a := (.pair (.pair (.sl (.sl I)) .unit) (.pair I (.pair I .unit))), md := [0, 0, 0], mf := [], m := .unit, r := .bool, rf := .i, f := fun x => zz15 x.1 x.2.1 x.2.2.1 }
def A_zz15 : Cfg := mkCfg tab [(69, S_zz14)] []
theorem run_zz15 (N : Nat) (x : (S_zz15).a.den) : runF (A_zz15) N Try.f78 S_zz15 x = zz15 x.1 x.2.1 x.2.2.1 := by kernel_rfl
theorem fn_zz15 : FnOk Try.prog 78 := ⟨_, Try.func78, by kernel_rfl, by kernel_rfl⟩
theorem good_zz15 : Gx.Good Try.prog 78 S_zz15 := vaa Try.func78 (of_decide_eq_true (by kernel_rfl)) fun x r h => ⟨A_zz15, big, vac tabOk, vab (show SigsOk Try.prog [(69, S_zz14)] from ⟨⟨fn_zz14, good_zz14⟩, trivial⟩), (run_zz15 big x).trans h⟩
def vbqh (p_0 : Y2) (x_1 y_2 : Int) : Z0 :=
  cond (decide (x_1 ≠ y_2))
  ((zz15 p_0 x_1 y_2).bind fun rq1 =>
  some (rq1.1, (())))
  (some (false, (())))
def zz16 (p_0 : Y2) (x_1 y_2 : Int) : Z0 := vbqh p_0 x_1 y_2
def S_zz16 : Sig := { a := (.pair (.pair (.sl (.sl I)) .unit) (.pair I (.pair I .unit))), md := [0, 0, 0], mf := [], m := .unit, r := .bool, rf := .i, f := fun x => zz16 x.1 x.2.1 x.2.2.1 }
def A_zz16 : Cfg := mkCfg tab [(78, S_zz15)] []
theorem run_zz16 (N : Nat) (x : (S_zz16).a.den) : runF (A_zz16) N Try.f128 S_zz16 x = zz16 x.1 x.2.1 x.2.2.1 := by kernel_rfl
theorem fn_zz16 : FnOk Try.prog 128 := ⟨_, Try.func128, by kernel_rfl, by kernel_rfl⟩
theorem good_zz16 : Gx.Good Try.prog 128 S_zz16 := vaa Try.func128 (of_decide_eq_true (by kernel_rfl)) fun x r h => ⟨A_zz16, big, vac tabOk, vab (show SigsOk Try.prog [(78, S_zz15)] from ⟨⟨fn_zz15, good_zz15⟩, trivial⟩), (run_zz16 big x).trans h⟩
def vaza (rec : Int → Int → Y2 → Int → Z0) (k : Z0) (x1 y2 : Int) (p3 : Y2) (z7 : Int) : Z0 :=
  cond (decide (z7 < (p3.1.length : Int)))
  ((zz16 p3 x1 z7).bind fun rq2 =>
  cond rq2.1
  ((zz16 p3 z7 y2).bind fun rq3 =>
  cond rq3.1
  (some (false, (())))
  (rec x1 y2 p3 (IntKind.i64.wrap (z7 + (1 : Int)))))
  (rec x1 y2 p3 (IntKind.i64.wrap (z7 + (1 : Int)))))
  (k)
def vamm : Z0 :=
  some (true, (()))
def vbhu (L4 : Int → Int → Y2 → Int → Z0) (p_0 : Y2) (x_1 y_2 : Int) : Z0 :=
  (zz16 p_0 x_1 y_2).bind fun rq1 =>
  cond (!rq1.1)
  (some (false, (())))
  (L4 x_1 y_2 p_0 (0 : Int))
def vue (N : Nat) (k : Z0) : Nat → Int → Int → Y2 → Int → Z0
  | 0, _, _, _, _ => none
  | m + 1, x1, y2, p3, z7 => vaza (vue N k m) k x1 y2 p3 z7
def vayw (N : Nat) (x1 y2 : Int) (p3 : Y2) (z7 : Int) : Z0 := vue N (vamm) N x1 y2 p3 z7
def zz17 (N : Nat) (p_0 : Y2) (x_1 y_2 : Int) : Z0 := vbhu (vayw N) p_0 x_1 y_2
def S_zz17 : Sig := { a := (.pair (.pair (.sl (.sl I)) .unit) (.pair I (.pair I .unit))), md := [0, 0, 0], mf := [], m := .unit, r := .bool, rf := .i, f := fun x => zz17 big x.1 x.2.1 x.2.2.1 }
def A_zz17 : Cfg := mkCfg tab [(128, S_zz16)] [(8, [.drop, .as I .i, .as I .i, .as y1 (.o .i), .drop, .drop, .drop, .as I .i]), (17, [])]
noncomputable def vmc (N n : Nat) (K : Ex → St → Z0) (x1 y2 : Int) (p3 : Y2) (z7 : Int) : Z0 := iter ((A_zz17).shape 8) (run (A_zz17) N (codeAt Try.f122 [1, 1, 0, 1, 0, 0])) n ([.u, .val I .i x1, .val I .i y2, .val y1 (.o .i) p3, .u, .u, .u, .val I .i z7] ++ List.replicate 22 .u) K
noncomputable abbrev varc : Ex → St → Z0 := finish (A_zz17) S_zz17 Try.f122.results.toList
noncomputable abbrev vtv (kX : St → Z0) : Z0 := kX ([] ++ List.replicate 30 .u)
noncomputable abbrev vzl (kX : St → Z0) (kO : Nat → St → Z0) : Ex → St → Z0 := exK varc 0 ((A_zz17).shape 17) kX kO
theorem vbch (N m : Nat) (kX : St → Z0) (kO : Nat → St → Z0) (x1 y2 : Int) (p3 : Y2) (z7 : Int) : vmc N (m + 1) (vzl kX kO) x1 y2 p3 z7 = vaza (vmc N m (vzl kX kO)) (vtv kX) x1 y2 p3 z7 := by kernel_rfl
theorem vagd (N : Nat) (kX : St → Z0) (kO : Nat → St → Z0) : ∀ (n : Nat) (x1 y2 : Int) (p3 : Y2) (z7 : Int), vmc N n (vzl kX kO) x1 y2 p3 z7 = vue N (vtv kX) n x1 y2 p3 z7
  | 0, _, _, _, _ => rfl
  | m + 1, x1, y2, p3, z7 => by
    have hrec : vmc N m (vzl kX kO) = (vue N (vtv kX) m) := (funext fun x1 => (funext fun y2 => (funext fun p3 => (funext fun z7 => vagd N kX kO m x1 y2 p3 z7))))
    refine (vbch N m kX kO x1 y2 p3 z7).trans ?_
    rw [hrec]
    rfl
noncomputable abbrev vakh (N : Nat) : Ex → St → Z0 := (blockK 0 (seqK ((A_zz17).shape 17) (gated ((A_zz17).shape 500008).isSome N (run (A_zz17) N (codeAt Try.f122 [1, 1, 1]))) varc))
noncomputable abbrev vagy (N : Nat) : St → Z0 := fun st' => run (A_zz17) N (codeAt Try.f122 [1, 1, 1]) st' varc
theorem vawb (N : Nat) : vtv (vagy N) = vamm := by kernel_rfl
theorem vbkx (N : Nat) (x1 y2 : Int) (p3 : Y2) (z7 : Int) : vmc N N (vakh N) x1 y2 p3 z7 = vayw N x1 y2 p3 z7 :=
  have h : vtv (vagy N) = (vamm) := vawb N
  ((vad (fun st => by kernel_rfl) (fun st => by kernel_rfl)).trans (vagd N (vagy N) (fun j st => (vakh N) (.exit j) st) N x1 y2 p3 z7)).trans (congrArg (fun k => vue N k N x1 y2 p3 z7) h)
theorem run0_zz17 (N : Nat) (x : (S_zz17).a.den) : runF (A_zz17) N Try.f122 S_zz17 x = (vbhu (vmc N N (vakh N)) x.1 x.2.1 x.2.2.1) := by kernel_rfl
theorem run_zz17 (N : Nat) (x : (S_zz17).a.den) : runF (A_zz17) N Try.f122 S_zz17 x = zz17 N x.1 x.2.1 x.2.2.1 := by
  refine (run0_zz17 N x).trans ?_
  rw [(funext fun x1 => (funext fun y2 => (funext fun p3 => (funext fun z7 => vbkx N x1 y2 p3 z7))))]
  rfl
theorem fn_zz17 : FnOk Try.prog 122 := ⟨_, Try.func122, by kernel_rfl, by kernel_rfl⟩
theorem good_zz17 : Gx.Good Try.prog 122 S_zz17 := vaa Try.func122 (of_decide_eq_true (by kernel_rfl)) fun x r h => ⟨A_zz17, big, vac tabOk, vab (show SigsOk Try.prog [(128, S_zz16)] from ⟨⟨fn_zz16, good_zz16⟩, trivial⟩), (run_zz17 big x).trans h⟩
def vazd (rec : Y2 → Z12 → Int → Int → Z14) (k : Y2 → Z12 → Int → Z14) (p1 : Y2) (out3 : Z12) (x4 y5 : Int) : Z14 :=
  cond (decide (y5 < (p1.1.length : Int)))
  ((zz17 big p1 x4 y5).bind fun rq1 =>
  cond rq1.1
  ((appI out3 [(x4, (y5, ()))]).bind fun xq2 =>
  rec p1 xq2 x4 (IntKind.i64.wrap (y5 + (1 : Int))))
  (rec p1 out3 x4 (IntKind.i64.wrap (y5 + (1 : Int)))))
  (k p1 out3 x4)
def vaie (rec : Y2 → Z12 → Int → Z14) (p1 : Y2) (out3 : Z12) (x4 : Int) : Z14 :=
  rec p1 out3 (IntKind.i64.wrap (x4 + (1 : Int)))
def vazz (L6 : Y2 → Z12 → Int → Int → Z14) (k : Z12 → Z14) (p1 : Y2) (out3 : Z12) (x4 : Int) : Z14 :=
  cond (decide (x4 < (p1.1.length : Int)))
  (L6 p1 out3 x4 (0 : Int))
  (k out3)
def vald (out3 : Z12) : Z14 :=
  some (out3, (()))
def vbfs (L3 : Y2 → Z12 → Int → Z14) (p_0 : Y2) : Z14 :=
  L3 p_0 [] (0 : Int)
def vtq (N : Nat) (k : Y2 → Z12 → Int → Z14) : Nat → Y2 → Z12 → Int → Int → Z14
  | 0, _, _, _, _ => none
  | m + 1, p1, out3, x4, y5 => vazd (vtq N k m) k p1 out3 x4 y5
def vazo (N : Nat) (rec : Y2 → Z12 → Int → Z14) (k : Z12 → Z14) (p1 : Y2) (out3 : Z12) (x4 y5 : Int) : Z14 := vtq N (vaie rec) N p1 out3 x4 y5
def vmv (N : Nat) (k : Z12 → Z14) : Nat → Y2 → Z12 → Int → Z14
  | 0, _, _, _ => none
  | m + 1, p1, out3, x4 => vazz (vazo N (vmv N k m) k) k p1 out3 x4
def vayx (N : Nat) (p1 : Y2) (out3 : Z12) (x4 : Int) : Z14 := vmv N (vald) N p1 out3 x4
def zz18 (N : Nat) (p_0 : Y2) : Z14 := vbfs (vayx N) p_0
def S_zz18 : Sig := { a := (.pair (.pair (.sl (.sl I)) .unit) .unit), md := [0], mf := [], m := .unit, r := (.sl (.pair I (.pair I .unit))), rf := (.o .i), f := fun x => zz18 big x.1 }
def A_zz18 : Cfg := mkCfg tab [(122, S_zz17)] [(6, [.drop, .as y1 (.o .i), .drop, .as (.sl (.pair I (.pair I .unit))) (.o .i), .as I .i]), (12, [.drop, .as y1 (.o .i), .drop, .as (.sl (.pair I (.pair I .unit))) (.o .i), .as I .i, .as I .i]), (21, [.drop, .drop, .drop, .as (.sl (.pair I (.pair I .unit))) (.o .i)]), (9, [.drop, .as y1 (.o .i), .drop, .as (.sl (.pair I (.pair I .unit))) (.o .i), .as I .i])]
noncomputable def vik (N n : Nat) (K : Ex → St → Z14) (p1 : Y2) (out3 : Z12) (x4 : Int) : Z14 := iter ((A_zz18).shape 6) (run (A_zz18) N (codeAt Try.f97 [1, 1, 0, 1, 0, 0])) n ([.u, .val y1 (.o .i) p1, .u, .val (.sl (.pair I (.pair I .unit))) (.o .i) out3, .val I .i x4] ++ List.replicate 27 .u) K
noncomputable def vny (N n : Nat) (K : Ex → St → Z14) (p1 : Y2) (out3 : Z12) (x4 y5 : Int) : Z14 := iter ((A_zz18).shape 12) (run (A_zz18) N (codeAt Try.f97 [1, 1, 0, 1, 0, 0, 1, 0, 0, 1, 0, 0])) n ([.u, .val y1 (.o .i) p1, .u, .val (.sl (.pair I (.pair I .unit))) (.o .i) out3, .val I .i x4, .val I .i y5] ++ List.replicate 26 .u) K
noncomputable abbrev vacj : Ex → St → Z14 := finish (A_zz18) S_zz18 Try.f97.results.toList
noncomputable abbrev vgc (kX : St → Z14) : Z12 → Z14 := fun (out3 : Z12) => kX ([.u, .u, .u, .val (.sl (.pair I (.pair I .unit))) (.o .i) out3] ++ List.replicate 28 .u)
noncomputable abbrev vhk (kX : St → Z14) (kO : Nat → St → Z14) : Ex → St → Z14 := exK vacj 0 ((A_zz18).shape 21) kX kO
noncomputable abbrev vtm (kX : St → Z14) : Y2 → Z12 → Int → Z14 := fun (p1 : Y2) (out3 : Z12) (x4 : Int) => kX ([.u, .val y1 (.o .i) p1, .u, .val (.sl (.pair I (.pair I .unit))) (.o .i) out3, .val I .i x4] ++ List.replicate 27 .u)
noncomputable abbrev vzx (kX : St → Z14) (kO : Nat → St → Z14) : Ex → St → Z14 := exK vacj 2 ((A_zz18).shape 9) kX kO
theorem vbcz (N m : Nat) (kX : St → Z14) (kO : Nat → St → Z14) (p1 : Y2) (out3 : Z12) (x4 y5 : Int) : vny N (m + 1) (vzx kX kO) p1 out3 x4 y5 = vazd (vny N m (vzx kX kO)) (vtm kX) p1 out3 x4 y5 := by kernel_rfl
theorem vadc (N : Nat) (kX : St → Z14) (kO : Nat → St → Z14) : ∀ (n : Nat) (p1 : Y2) (out3 : Z12) (x4 y5 : Int), vny N n (vzx kX kO) p1 out3 x4 y5 = vtq N (vtm kX) n p1 out3 x4 y5
  | 0, _, _, _, _ => rfl
  | m + 1, p1, out3, x4, y5 => by
    have hrec : vny N m (vzx kX kO) = (vtq N (vtm kX) m) := (funext fun p1 => (funext fun out3 => (funext fun x4 => (funext fun y5 => vadc N kX kO m p1 out3 x4 y5))))
    refine (vbcz N m kX kO p1 out3 x4 y5).trans ?_
    rw [hrec]
    rfl
noncomputable abbrev valh (N m : Nat) (kX : St → Z14) (kO : Nat → St → Z14) : Ex → St → Z14 := (blockK 2 (blockK 1 (seqK ((A_zz18).shape 9) (gated ((A_zz18).shape 500004).isSome N (run (A_zz18) N (codeAt Try.f97 [1, 1, 0, 1, 0, 0, 1, 1]))) (iterK ((A_zz18).shape 6) (run (A_zz18) N (codeAt Try.f97 [1, 1, 0, 1, 0, 0])) m (vhk kX kO)))))
noncomputable abbrev vakw (N m : Nat) (kX : St → Z14) (kO : Nat → St → Z14) : St → Z14 := fun st' => run (A_zz18) N (codeAt Try.f97 [1, 1, 0, 1, 0, 0, 1, 1]) st' (iterK ((A_zz18).shape 6) (run (A_zz18) N (codeAt Try.f97 [1, 1, 0, 1, 0, 0])) m (vhk kX kO))
theorem vavp (N m : Nat) (kX : St → Z14) (kO : Nat → St → Z14) (p1 : Y2) (out3 : Z12) (x4 : Int) : vtm (vakw N m kX kO) p1 out3 x4 = vaie (vik N m (vhk kX kO)) p1 out3 x4 := by kernel_rfl
theorem vblh (N m : Nat) (kX : St → Z14) (kO : Nat → St → Z14) (recF : Y2 → Z12 → Int → Z14) (hrec : vik N m (vhk kX kO) = recF) (p1 : Y2) (out3 : Z12) (x4 y5 : Int) : vny N N (valh N m kX kO) p1 out3 x4 y5 = vazo N recF (vgc kX) p1 out3 x4 y5 :=
  have h : vtm (vakw N m kX kO) = (vaie recF) := (funext fun p1 => (funext fun out3 => (funext fun x4 => (vavp N m kX kO p1 out3 x4).trans (by rw [hrec]))))
  ((vad (fun st => by kernel_rfl) (fun st => by kernel_rfl)).trans (vadc N (vakw N m kX kO) (fun j st => (valh N m kX kO) (.exit j) st) N p1 out3 x4 y5)).trans (congrArg (fun k => vtq N k N p1 out3 x4 y5) h)
theorem vbbv (N m : Nat) (kX : St → Z14) (kO : Nat → St → Z14) (p1 : Y2) (out3 : Z12) (x4 : Int) : vik N (m + 1) (vhk kX kO) p1 out3 x4 = vazz (vny N N (valh N m kX kO)) (vgc kX) p1 out3 x4 := by kernel_rfl
theorem vafh (N : Nat) (kX : St → Z14) (kO : Nat → St → Z14) : ∀ (n : Nat) (p1 : Y2) (out3 : Z12) (x4 : Int), vik N n (vhk kX kO) p1 out3 x4 = vmv N (vgc kX) n p1 out3 x4
  | 0, _, _, _ => rfl
  | m + 1, p1, out3, x4 => by
    have hrec : vik N m (vhk kX kO) = (vmv N (vgc kX) m) := (funext fun p1 => (funext fun out3 => (funext fun x4 => vafh N kX kO m p1 out3 x4)))
    refine (vbbv N m kX kO p1 out3 x4).trans ?_
    rw [(funext fun p1 => (funext fun out3 => (funext fun x4 => (funext fun y5 => vblh N m kX kO (vmv N (vgc kX) m) hrec p1 out3 x4 y5))))]
    rfl
noncomputable abbrev vahx (N : Nat) : Ex → St → Z14 := (blockK 0 (seqK ((A_zz18).shape 21) (gated ((A_zz18).shape 500010).isSome N (run (A_zz18) N (codeAt Try.f97 [1, 1, 1]))) vacj))
noncomputable abbrev vala (N : Nat) : St → Z14 := fun st' => run (A_zz18) N (codeAt Try.f97 [1, 1, 1]) st' vacj
theorem vawg (N : Nat) (out3 : Z12) : vgc (vala N) out3 = vald out3 := by kernel_rfl
theorem vbim (N : Nat) (p1 : Y2) (out3 : Z12) (x4 : Int) : vik N N (vahx N) p1 out3 x4 = vayx N p1 out3 x4 :=
  have h : vgc (vala N) = (vald) := (funext fun out3 => vawg N out3)
  ((vad (fun st => by kernel_rfl) (fun st => by kernel_rfl)).trans (vafh N (vala N) (fun j st => (vahx N) (.exit j) st) N p1 out3 x4)).trans (congrArg (fun k => vmv N k N p1 out3 x4) h)
theorem run0_zz18 (N : Nat) (x : (S_zz18).a.den) : runF (A_zz18) N Try.f97 S_zz18 x = (vbfs (vik N N (vahx N)) x.1) := by kernel_rfl
theorem run_zz18 (N : Nat) (x : (S_zz18).a.den) : runF (A_zz18) N Try.f97 S_zz18 x = zz18 N x.1 := by
  refine (run0_zz18 N x).trans ?_
  rw [(funext fun p1 => (funext fun out3 => (funext fun x4 => vbim N p1 out3 x4)))]
  rfl
theorem fn_zz18 : FnOk Try.prog 97 := ⟨_, Try.func97, by kernel_rfl, by kernel_rfl⟩
theorem good_zz18 : Gx.Good Try.prog 97 S_zz18 := vaa Try.func97 (of_decide_eq_true (by kernel_rfl)) fun x r h => ⟨A_zz18, big, vac tabOk, vab (show SigsOk Try.prog [(122, S_zz17)] from ⟨⟨fn_zz17, good_zz17⟩, trivial⟩), (run_zz18 big x).trans h⟩
def vqi (rec : Z13 → Y2 → Y2 → Int → Y4 → Z12 → Int → Z4) (k : Z13 → Y2 → Y2 → Int → Z12 → Z4) (c0 : Z13) (t2 p3 : Y2) (n4 : Int) (names5 : Y4) (pairs6 : Z12) (i7 : Int) : Z4 :=
  cond (decide (i7 < (pairs6.length : Int)))
  ((atI pairs6 i7).bind fun _ =>
  (pairs6[i7.toNat]?).bind fun xq9 =>
  (pairs6[i7.toNat]?).bind fun xq10 =>
  (atI names5 xq10.1).bind fun _ =>
  (names5[xq10.1.toNat]?).bind fun xq11 =>
  (atI pairs6 i7).bind fun _ =>
  (pairs6[i7.toNat]?).bind fun xq12 =>
  (pairs6[i7.toNat]?).bind fun xq13 =>
  (atI names5 xq13.2.1).bind fun _ =>
  (names5[xq13.2.1.toNat]?).bind fun xq14 =>
  (atI pairs6 i7).bind fun _ =>
  (pairs6[i7.toNat]?).bind fun xq15 =>
  rec c0 t2 p3 n4 names5 (pairs6.set i7.toNat (xq11, (xq14, ()))) (IntKind.i64.wrap (i7 + (1 : Int))))
  (k c0 t2 p3 n4 pairs6)
def vgf (c0 : Z13) (t2 p3 : Y2) (n4 : Int) (pairs6 : Z12) : Z4 :=
  (zz9 big n4 pairs6).bind fun rq16 =>
  some (rq16.1, (c0, ()))
def varu (L9 : Z13 → Y2 → Y2 → Int → Y4 → Z12 → Int → Z4) (c_0 : Z13) : Z4 :=
  (zz3 c_0 (10 : Int)).bind fun rq1 =>
  cond rq1.1
  ((zz11 big rq1.2.1).bind fun rq2 =>
  some (rq2.1, (rq2.2.1, ())))
  ((zz2 rq1.2.1 (12 : Int)).bind fun rq3 =>
  (zz13 rq3.1).bind fun rq4 =>
  (zz5 big rq3.2.1 (rq4.1.1.length : Int)).bind fun rq5 =>
  (zz8 big rq5.1 (rq4.1.1.length : Int)).bind fun rq6 =>
  cond rq6.1
  ((zz3 rq5.2.1 (2 : Int)).bind fun rq7 =>
  cond rq7.1
  ((zz18 big rq4.1).bind fun rq8 =>
  L9 rq7.2.1 (([] : Y3), ()) rq4.1 (rq4.1.1.length : Int) rq5.1 rq8.1 (0 : Int))
  (some (rq4.1, (rq7.2.1, ()))))
  (some (rq4.1, (rq5.2.1, ()))))
def vqh (N : Nat) (k : Z13 → Y2 → Y2 → Int → Z12 → Z4) : Nat → Z13 → Y2 → Y2 → Int → Y4 → Z12 → Int → Z4
  | 0, _, _, _, _, _, _, _ => none
  | m + 1, c0, t2, p3, n4, names5, pairs6, i7 => vqi (vqh N k m) k c0 t2 p3 n4 names5 pairs6 i7
def valp (N : Nat) (c0 : Z13) (t2 p3 : Y2) (n4 : Int) (names5 : Y4) (pairs6 : Z12) (i7 : Int) : Z4 := vqh N (vgf) N c0 t2 p3 n4 names5 pairs6 i7
def zz19 (N : Nat) (c_0 : Z13) : Z4 := varu (valp N) c_0
def S_zz19 : Sig := { a := (.pair (.ptr (.pair (.sl (.int .u8)) (.pair I (.pair (.int .u64) .unit)))) .unit), md := [1], mf := [(.o .i)], m := (.pair (.ptr (.pair (.sl (.int .u8)) (.pair I (.pair (.int .u64) .unit)))) .unit), r := (.pair (.sl (.sl I)) .unit), rf := .i, f := fun x => zz19 big x.1 }
def A_zz19 : Cfg := mkCfg tab [(50, S_zz3), (93, S_zz11), (39, S_zz2), (94, S_zz13), (95, S_zz5), (96, S_zz8), (97, S_zz18), (98, S_zz9)] [(18, [.as (.ptr (.pair (.sl (.int .u8)) (.pair I (.pair (.int .u64) .unit)))) (.o .i), .drop, .as y1 (.o (.p (.o (.o .i)) .i)), .as y1 (.o (.p (.o (.o .i)) .i)), .as I .i, .as (.sl I) (.o .i), .as (.sl (.pair I (.pair I .unit))) (.o .i), .as I .i]), (25, [.as (.ptr (.pair (.sl (.int .u8)) (.pair I (.pair (.int .u64) .unit)))) (.o .i), .drop, .as y1 (.o (.p (.o (.o .i)) .i)), .as y1 (.o (.p (.o (.o .i)) .i)), .as I .i, .drop, .as (.sl (.pair I (.pair I .unit))) (.o .i)])]
noncomputable def vpy (N n : Nat) (K : Ex → St → Z4) (c0 : Z13) (t2 p3 : Y2) (n4 : Int) (names5 : Y4) (pairs6 : Z12) (i7 : Int) : Z4 := iter ((A_zz19).shape 18) (run (A_zz19) N (codeAt Try.f48 [1, 1, 1, 1, 0, 1, 1, 0, 1, 0, 1, 0, 0])) n ([.val (.ptr (.pair (.sl (.int .u8)) (.pair I (.pair (.int .u64) .unit)))) (.o .i) c0, .u, .val y1 (.o (.p (.o (.o .i)) .i)) t2, .val y1 (.o (.p (.o (.o .i)) .i)) p3, .val I .i n4, .val (.sl I) (.o .i) names5, .val (.sl (.pair I (.pair I .unit))) (.o .i) pairs6, .val I .i i7] ++ List.replicate 52 .u) K
noncomputable abbrev vaqe : Ex → St → Z4 := finish (A_zz19) S_zz19 Try.f48.results.toList
noncomputable abbrev vuz (kX : St → Z4) : Z13 → Y2 → Y2 → Int → Z12 → Z4 := fun (c0 : Z13) (t2 p3 : Y2) (n4 : Int) (pairs6 : Z12) => kX ([.val (.ptr (.pair (.sl (.int .u8)) (.pair I (.pair (.int .u64) .unit)))) (.o .i) c0, .u, .val y1 (.o (.p (.o (.o .i)) .i)) t2, .val y1 (.o (.p (.o (.o .i)) .i)) p3, .val I .i n4, .u, .val (.sl (.pair I (.pair I .unit))) (.o .i) pairs6] ++ List.replicate 53 .u)
noncomputable abbrev vzc (kX : St → Z4) (kO : Nat → St → Z4) : Ex → St → Z4 := exK vaqe 0 ((A_zz19).shape 25) kX kO
theorem vbcp (N m : Nat) (kX : St → Z4) (kO : Nat → St → Z4) (c0 : Z13) (t2 p3 : Y2) (n4 : Int) (names5 : Y4) (pairs6 : Z12) (i7 : Int) : vpy N (m + 1) (vzc kX kO) c0 t2 p3 n4 names5 pairs6 i7 = vqi (vpy N m (vzc kX kO)) (vuz kX) c0 t2 p3 n4 names5 pairs6 i7 := by kernel_rfl
theorem vadb (N : Nat) (kX : St → Z4) (kO : Nat → St → Z4) : ∀ (n : Nat) (c0 : Z13) (t2 p3 : Y2) (n4 : Int) (names5 : Y4) (pairs6 : Z12) (i7 : Int), vpy N n (vzc kX kO) c0 t2 p3 n4 names5 pairs6 i7 = vqh N (vuz kX) n c0 t2 p3 n4 names5 pairs6 i7
  | 0, _, _, _, _, _, _, _ => rfl
  | m + 1, c0, t2, p3, n4, names5, pairs6, i7 => by
    have hrec : vpy N m (vzc kX kO) = (vqh N (vuz kX) m) := (funext fun c0 => (funext fun t2 => (funext fun p3 => (funext fun n4 => (funext fun names5 => (funext fun pairs6 => (funext fun i7 => vadb N kX kO m c0 t2 p3 n4 names5 pairs6 i7)))))))
    refine (vbcp N m kX kO c0 t2 p3 n4 names5 pairs6 i7).trans ?_
    rw [hrec]
    rfl
noncomputable abbrev vamn (N : Nat) : Ex → St → Z4 := (blockK 0 (seqK ((A_zz19).shape 25) (gated ((A_zz19).shape 500012).isSome N (run (A_zz19) N (codeAt Try.f48 [1, 1, 1, 1, 0, 1, 1, 0, 1, 1]))) (seqK ((A_zz19).shape 27) (gated ((A_zz19).shape 500013).isSome N (run (A_zz19) N (codeAt Try.f48 [1, 1, 1, 1, 1]))) vaqe)))
noncomputable abbrev vahp (N : Nat) : St → Z4 := fun st' => run (A_zz19) N (codeAt Try.f48 [1, 1, 1, 1, 0, 1, 1, 0, 1, 1]) st' (seqK ((A_zz19).shape 27) (gated ((A_zz19).shape 500013).isSome N (run (A_zz19) N (codeAt Try.f48 [1, 1, 1, 1, 1]))) vaqe)
theorem vavs (N : Nat) (c0 : Z13) (t2 p3 : Y2) (n4 : Int) (pairs6 : Z12) : vuz (vahp N) c0 t2 p3 n4 pairs6 = vgf c0 t2 p3 n4 pairs6 := by kernel_rfl
theorem vbkt (N : Nat) (c0 : Z13) (t2 p3 : Y2) (n4 : Int) (names5 : Y4) (pairs6 : Z12) (i7 : Int) : vpy N N (vamn N) c0 t2 p3 n4 names5 pairs6 i7 = valp N c0 t2 p3 n4 names5 pairs6 i7 :=
  have h : vuz (vahp N) = (vgf) := (funext fun c0 => (funext fun t2 => (funext fun p3 => (funext fun n4 => (funext fun pairs6 => vavs N c0 t2 p3 n4 pairs6)))))
  ((vad (fun st => by kernel_rfl) (fun st => by kernel_rfl)).trans (vadb N (vahp N) (fun j st => (vamn N) (.exit j) st) N c0 t2 p3 n4 names5 pairs6 i7)).trans (congrArg (fun k => vqh N k N c0 t2 p3 n4 names5 pairs6 i7) h)
theorem run0_zz19 (N : Nat) (x : (S_zz19).a.den) : runF (A_zz19) N Try.f48 S_zz19 x = (varu (vpy N N (vamn N)) x.1) := by kernel_rfl
theorem run_zz19 (N : Nat) (x : (S_zz19).a.den) : runF (A_zz19) N Try.f48 S_zz19 x = zz19 N x.1 := by
  refine (run0_zz19 N x).trans ?_
  rw [(funext fun c0 => (funext fun t2 => (funext fun p3 => (funext fun n4 => (funext fun names5 => (funext fun pairs6 => (funext fun i7 => vbkt N c0 t2 p3 n4 names5 pairs6 i7)))))))]
  rfl
theorem fn_zz19 : FnOk Try.prog 48 := ⟨_, Try.func48, by kernel_rfl, by kernel_rfl⟩
theorem good_zz19 : Gx.Good Try.prog 48 S_zz19 := vaa Try.func48 (of_decide_eq_true (by kernel_rfl)) fun x r h => ⟨A_zz19, big, vac tabOk, vab (show SigsOk Try.prog [(50, S_zz3), (93, S_zz11), (39, S_zz2), (94, S_zz13), (95, S_zz5), (96, S_zz8), (97, S_zz18), (98, S_zz9)] from ⟨⟨fn_zz3, good_zz3⟩, ⟨fn_zz11, good_zz11⟩, ⟨fn_zz2, good_zz2⟩, ⟨fn_zz13, good_zz13⟩, ⟨fn_zz5, good_zz5⟩, ⟨fn_zz8, good_zz8⟩, ⟨fn_zz18, good_zz18⟩, ⟨fn_zz9, good_zz9⟩, trivial⟩), (run_zz19 big x).trans h⟩
def vbek (code_0 : Y4) : Z3 :=
  (zz19 big (code_0, ((0 : Int), ((0 : Int), ())))).bind fun rq1 =>
  some (rq1.1, (()))
def zz20 (code_0 : Y4) : Z3 := vbek code_0
def S_zz20 : Sig := { a := (.pair (.sl (.int .u8)) .unit), md := [0], mf := [], m := .unit, r := (.pair (.sl (.sl I)) .unit), rf := .i, f := fun x => zz20 x.1 }
def A_zz20 : Cfg := mkCfg tab [(48, S_zz19)] []
theorem run_zz20 (N : Nat) (x : (S_zz20).a.den) : runF (A_zz20) N Try.f59 S_zz20 x = zz20 x.1 := by kernel_rfl
theorem fn_zz20 : FnOk Try.prog 59 := ⟨_, Try.func59, by kernel_rfl, by kernel_rfl⟩
theorem good_zz20 : Gx.Good Try.prog 59 S_zz20 := vaa Try.func59 (of_decide_eq_true (by kernel_rfl)) fun x r h => ⟨A_zz20, big, vac tabOk, vab (show SigsOk Try.prog [(48, S_zz19)] from ⟨⟨fn_zz19, good_zz19⟩, trivial⟩), (run_zz20 big x).trans h⟩
def vbho (code_0 : Y4) : Z3 :=
  (zz20 code_0).bind fun rq1 =>
  some (rq1.1, (()))
def zz21 (code_0 : Y4) : Z3 := vbho code_0
def S_zz21 : Sig := { a := (.pair (.sl (.int .u8)) .unit), md := [0], mf := [], m := .unit, r := (.pair (.sl (.sl I)) .unit), rf := .i, f := fun x => zz21 x.1 }
def A_zz21 : Cfg := mkCfg tab [(59, S_zz20)] []
theorem run_zz21 (N : Nat) (x : (S_zz21).a.den) : runF (A_zz21) N Try.f19 S_zz21 x = zz21 x.1 := by kernel_rfl
theorem fn_zz21 : FnOk Try.prog 19 := ⟨_, Try.func19, by kernel_rfl, by kernel_rfl⟩
theorem good_zz21 : Gx.Good Try.prog 19 S_zz21 := vaa Try.func19 (of_decide_eq_true (by kernel_rfl)) fun x r h => ⟨A_zz21, big, vac tabOk, vab (show SigsOk Try.prog [(59, S_zz20)] from ⟨⟨fn_zz20, good_zz20⟩, trivial⟩), (run_zz21 big x).trans h⟩
def vof (rec : Int → Y5 → Int → Int → Z11) (k : Y5 → Z11) (n0 : Int) (o3 : Y5) (t8 t9 : Int) : Z11 :=
  cond (decide (t9 < t8))
  ((mkI false n0).bind fun xq3 => (mkI false n0).bind fun xq4 => cond (decide (n0 ≤ n0))
  ((atI o3 t9).bind fun _ =>
  (o3[t9.toNat]?).bind fun xq5 =>
  rec n0 (o3.set t9.toNat xq4) t8 (IntKind.i64.wrap (t9 + (1 : Int))))
  none)
  (k o3)
def vfj (o3 : Y5) : Z11 :=
  some (o3, (()))
def vatn (L3 : Int → Y5 → Int → Int → Z11) (n_0 : Int) : Z11 :=
  (mkI ([] : (List Bool)) n_0).bind fun xq1 => (mkI ([] : (List Bool)) n_0).bind fun xq2 => cond (decide (n_0 ≤ n_0))
  (L3 n_0 xq2 (xq2.length : Int) (0 : Int))
  none
def vlp (N : Nat) (k : Y5 → Z11) : Nat → Int → Y5 → Int → Int → Z11
  | 0, _, _, _, _ => none
  | m + 1, n0, o3, t8, t9 => vof (vlp N k m) k n0 o3 t8 t9
def vamj (N : Nat) (n0 : Int) (o3 : Y5) (t8 t9 : Int) : Z11 := vlp N (vfj) N n0 o3 t8 t9
def zz22 (N : Nat) (n_0 : Int) : Z11 := vatn (vamj N) n_0
def S_zz22 : Sig := { a := (.pair I .unit), md := [0], mf := [], m := .unit, r := (.sl (.sl .bool)), rf := (.o (.o .i)), f := fun x => zz22 big x.1 }
def A_zz22 : Cfg := mkCfg tab [] [(6, [.as I .i, .drop, .drop, .as (.sl (.sl .bool)) (.o (.o .i)), .drop, .drop, .drop, .drop, .as I .i, .as I .i]), (15, [.drop, .drop, .drop, .as (.sl (.sl .bool)) (.o (.o .i))])]
noncomputable def vpi (N n : Nat) (K : Ex → St → Z11) (n0 : Int) (o3 : Y5) (t8 t9 : Int) : Z11 := iter ((A_zz22).shape 6) (run (A_zz22) N (codeAt Try.f109 [1, 1, 0, 1, 0, 0])) n ([.val I .i n0, .u, .u, .val (.sl (.sl .bool)) (.o (.o .i)) o3, .u, .u, .u, .u, .val I .i t8, .val I .i t9] ++ List.replicate 9 .u) K
noncomputable abbrev vape : Ex → St → Z11 := finish (A_zz22) S_zz22 Try.f109.results.toList
noncomputable abbrev vua (kX : St → Z11) : Y5 → Z11 := fun (o3 : Y5) => kX ([.u, .u, .u, .val (.sl (.sl .bool)) (.o (.o .i)) o3] ++ List.replicate 15 .u)
noncomputable abbrev vzr (kX : St → Z11) (kO : Nat → St → Z11) : Ex → St → Z11 := exK vape 0 ((A_zz22).shape 15) kX kO
theorem vban (N m : Nat) (kX : St → Z11) (kO : Nat → St → Z11) (n0 : Int) (o3 : Y5) (t8 t9 : Int) : vpi N (m + 1) (vzr kX kO) n0 o3 t8 t9 = vof (vpi N m (vzr kX kO)) (vua kX) n0 o3 t8 t9 := by kernel_rfl
theorem vage (N : Nat) (kX : St → Z11) (kO : Nat → St → Z11) : ∀ (n : Nat) (n0 : Int) (o3 : Y5) (t8 t9 : Int), vpi N n (vzr kX kO) n0 o3 t8 t9 = vlp N (vua kX) n n0 o3 t8 t9
  | 0, _, _, _, _ => rfl
  | m + 1, n0, o3, t8, t9 => by
    have hrec : vpi N m (vzr kX kO) = (vlp N (vua kX) m) := (funext fun n0 => (funext fun o3 => (funext fun t8 => (funext fun t9 => vage N kX kO m n0 o3 t8 t9))))
    refine (vban N m kX kO n0 o3 t8 t9).trans ?_
    rw [hrec]
    rfl
noncomputable abbrev vaib (N : Nat) : Ex → St → Z11 := (blockK 0 (seqK ((A_zz22).shape 15) (gated ((A_zz22).shape 500007).isSome N (run (A_zz22) N (codeAt Try.f109 [1, 1, 1]))) vape))
noncomputable abbrev vams (N : Nat) : St → Z11 := fun st' => run (A_zz22) N (codeAt Try.f109 [1, 1, 1]) st' vape
theorem vaxa (N : Nat) (o3 : Y5) : vua (vams N) o3 = vfj o3 := by kernel_rfl
theorem vblq (N : Nat) (n0 : Int) (o3 : Y5) (t8 t9 : Int) : vpi N N (vaib N) n0 o3 t8 t9 = vamj N n0 o3 t8 t9 :=
  have h : vua (vams N) = (vfj) := (funext fun o3 => vaxa N o3)
  ((vad (fun st => by kernel_rfl) (fun st => by kernel_rfl)).trans (vage N (vams N) (fun j st => (vaib N) (.exit j) st) N n0 o3 t8 t9)).trans (congrArg (fun k => vlp N k N n0 o3 t8 t9) h)
theorem run0_zz22 (N : Nat) (x : (S_zz22).a.den) : runF (A_zz22) N Try.f109 S_zz22 x = (vatn (vpi N N (vaib N)) x.1) := by kernel_rfl
theorem run_zz22 (N : Nat) (x : (S_zz22).a.den) : runF (A_zz22) N Try.f109 S_zz22 x = zz22 N x.1 := by
  refine (run0_zz22 N x).trans ?_
  rw [(funext fun n0 => (funext fun o3 => (funext fun t8 => (funext fun t9 => vblq N n0 o3 t8 t9))))]
  rfl
theorem fn_zz22 : FnOk Try.prog 109 := ⟨_, Try.func109, by kernel_rfl, by kernel_rfl⟩
theorem good_zz22 : Gx.Good Try.prog 109 S_zz22 := vaa Try.func109 (of_decide_eq_true (by kernel_rfl)) fun x r h => ⟨A_zz22, big, vac tabOk, vab (show SigsOk Try.prog [] from trivial), (run_zz22 big x).trans h⟩
def vaka (rec : Y4 → Int → Z0) (k : Z0) (list0 : Y4) (i3 : Int) : Z0 :=
  cond (decide (i3 < (list0.length : Int)))
  ((atI list0 (IntKind.i64.wrap (i3 - (1 : Int)))).bind fun xq1 =>
  (atI list0 i3).bind fun xq2 =>
  cond (decide (xq2 ≤ xq1))
  (some (false, (())))
  (rec list0 (IntKind.i64.wrap (i3 + (1 : Int)))))
  (k)
def vyb : Z0 :=
  some (true, (()))
def vasd (L2 : Y4 → Int → Z0) (list_0 : Y4) : Z0 :=
  L2 list_0 (1 : Int)
def vke (N : Nat) (k : Z0) : Nat → Y4 → Int → Z0
  | 0, _, _ => none
  | m + 1, list0, i3 => vaka (vke N k m) k list0 i3
def vahw (N : Nat) (list0 : Y4) (i3 : Int) : Z0 := vke N (vyb) N list0 i3
def zz23 (N : Nat) (list_0 : Y4) : Z0 := vasd (vahw N) list_0
def S_zz23 : Sig := { a := (.pair (.sl I) .unit), md := [0], mf := [], m := .unit, r := .bool, rf := .i, f := fun x => zz23 big x.1 }
def A_zz23 : Cfg := mkCfg tab [] [(4, [.as (.sl I) .i, .drop, .drop, .as I .i]), (13, [])]
noncomputable def vpl (N n : Nat) (K : Ex → St → Z0) (list0 : Y4) (i3 : Int) : Z0 := iter ((A_zz23).shape 4) (run (A_zz23) N (codeAt Try.f110 [1, 0, 1, 0, 0])) n ([.val (.sl I) .i list0, .u, .u, .val I .i i3] ++ List.replicate 16 .u) K
noncomputable abbrev vauu : Ex → St → Z0 := finish (A_zz23) S_zz23 Try.f110.results.toList
noncomputable abbrev vsy (kX : St → Z0) : Z0 := kX ([] ++ List.replicate 20 .u)
noncomputable abbrev vyp (kX : St → Z0) (kO : Nat → St → Z0) : Ex → St → Z0 := exK vauu 0 ((A_zz23).shape 13) kX kO
theorem vbai (N m : Nat) (kX : St → Z0) (kO : Nat → St → Z0) (list0 : Y4) (i3 : Int) : vpl N (m + 1) (vyp kX kO) list0 i3 = vaka (vpl N m (vyp kX kO)) (vsy kX) list0 i3 := by kernel_rfl
theorem vadt (N : Nat) (kX : St → Z0) (kO : Nat → St → Z0) : ∀ (n : Nat) (list0 : Y4) (i3 : Int), vpl N n (vyp kX kO) list0 i3 = vke N (vsy kX) n list0 i3
  | 0, _, _ => rfl
  | m + 1, list0, i3 => by
    have hrec : vpl N m (vyp kX kO) = (vke N (vsy kX) m) := (funext fun list0 => (funext fun i3 => vadt N kX kO m list0 i3))
    refine (vbai N m kX kO list0 i3).trans ?_
    rw [hrec]
    rfl
noncomputable abbrev vaky (N : Nat) : Ex → St → Z0 := (blockK 0 (seqK ((A_zz23).shape 13) (gated ((A_zz23).shape 500006).isSome N (run (A_zz23) N (codeAt Try.f110 [1, 1]))) vauu))
noncomputable abbrev vakl (N : Nat) : St → Z0 := fun st' => run (A_zz23) N (codeAt Try.f110 [1, 1]) st' vauu
theorem vawn (N : Nat) : vsy (vakl N) = vyb := by kernel_rfl
theorem vbis (N : Nat) (list0 : Y4) (i3 : Int) : vpl N N (vaky N) list0 i3 = vahw N list0 i3 :=
  have h : vsy (vakl N) = (vyb) := vawn N
  ((vad (fun st => by kernel_rfl) (fun st => by kernel_rfl)).trans (vadt N (vakl N) (fun j st => (vaky N) (.exit j) st) N list0 i3)).trans (congrArg (fun k => vke N k N list0 i3) h)
theorem run0_zz23 (N : Nat) (x : (S_zz23).a.den) : runF (A_zz23) N Try.f110 S_zz23 x = (vasd (vpl N N (vaky N)) x.1) := by kernel_rfl
theorem run_zz23 (N : Nat) (x : (S_zz23).a.den) : runF (A_zz23) N Try.f110 S_zz23 x = zz23 N x.1 := by
  refine (run0_zz23 N x).trans ?_
  rw [(funext fun list0 => (funext fun i3 => vbis N list0 i3))]
  rfl
theorem fn_zz23 : FnOk Try.prog 110 := ⟨_, Try.func110, by kernel_rfl, by kernel_rfl⟩
theorem good_zz23 : Gx.Good Try.prog 110 S_zz23 := vaa Try.func110 (of_decide_eq_true (by kernel_rfl)) fun x r h => ⟨A_zz23, big, vac tabOk, vab (show SigsOk Try.prog [] from trivial), (run_zz23 big x).trans h⟩
def vaig (rec : Int → Y4 → Int → Int → Z0) (k : Z0) (n1 : Int) (t7 : Y4) (t8 t9 : Int) : Z0 :=
  cond (decide (t9 < t8))
  ((atI t7 t9).bind fun xq1 =>
  cond (decide (xq1 < (0 : Int)))
  (some (false, (())))
  (cond (decide (n1 ≤ xq1))
  (some (false, (())))
  (rec n1 t7 t8 (IntKind.i64.wrap (t9 + (1 : Int))))))
  (k)
def vyd : Z0 :=
  some (true, (()))
def vari (L2 : Int → Y4 → Int → Int → Z0) (list_0 : Y4) (n_1 : Int) : Z0 :=
  L2 n_1 list_0 (list_0.length : Int) (0 : Int)
def vjn (N : Nat) (k : Z0) : Nat → Int → Y4 → Int → Int → Z0
  | 0, _, _, _, _ => none
  | m + 1, n1, t7, t8, t9 => vaig (vjn N k m) k n1 t7 t8 t9
def vaml (N : Nat) (n1 : Int) (t7 : Y4) (t8 t9 : Int) : Z0 := vjn N (vyd) N n1 t7 t8 t9
def zz24 (N : Nat) (list_0 : Y4) (n_1 : Int) : Z0 := vari (vaml N) list_0 n_1
def S_zz24 : Sig := { a := (.pair (.sl I) (.pair I .unit)), md := [0, 0], mf := [], m := .unit, r := .bool, rf := .i, f := fun x => zz24 big x.1 x.2.1 }
def A_zz24 : Cfg := mkCfg tab [] [(4, [.drop, .as I .i, .drop, .drop, .drop, .drop, .drop, .as (.sl I) .i, .as I .i, .as I .i]), (15, [])]
noncomputable def vlm (N n : Nat) (K : Ex → St → Z0) (n1 : Int) (t7 : Y4) (t8 t9 : Int) : Z0 := iter ((A_zz24).shape 4) (run (A_zz24) N (codeAt Try.f101 [1, 0, 1, 0, 0])) n ([.u, .val I .i n1, .u, .u, .u, .u, .u, .val (.sl I) .i t7, .val I .i t8, .val I .i t9] ++ List.replicate 11 .u) K
noncomputable abbrev vatw : Ex → St → Z0 := finish (A_zz24) S_zz24 Try.f101.results.toList
noncomputable abbrev vsv (kX : St → Z0) : Z0 := kX ([] ++ List.replicate 21 .u)
noncomputable abbrev vzy (kX : St → Z0) (kO : Nat → St → Z0) : Ex → St → Z0 := exK vatw 0 ((A_zz24).shape 15) kX kO
theorem vbby (N m : Nat) (kX : St → Z0) (kO : Nat → St → Z0) (n1 : Int) (t7 : Y4) (t8 t9 : Int) : vlm N (m + 1) (vzy kX kO) n1 t7 t8 t9 = vaig (vlm N m (vzy kX kO)) (vsv kX) n1 t7 t8 t9 := by kernel_rfl
theorem vaej (N : Nat) (kX : St → Z0) (kO : Nat → St → Z0) : ∀ (n : Nat) (n1 : Int) (t7 : Y4) (t8 t9 : Int), vlm N n (vzy kX kO) n1 t7 t8 t9 = vjn N (vsv kX) n n1 t7 t8 t9
  | 0, _, _, _, _ => rfl
  | m + 1, n1, t7, t8, t9 => by
    have hrec : vlm N m (vzy kX kO) = (vjn N (vsv kX) m) := (funext fun n1 => (funext fun t7 => (funext fun t8 => (funext fun t9 => vaej N kX kO m n1 t7 t8 t9))))
    refine (vbby N m kX kO n1 t7 t8 t9).trans ?_
    rw [hrec]
    rfl
noncomputable abbrev vana (N : Nat) : Ex → St → Z0 := (blockK 0 (seqK ((A_zz24).shape 15) (gated ((A_zz24).shape 500007).isSome N (run (A_zz24) N (codeAt Try.f101 [1, 1]))) vatw))
noncomputable abbrev vagw (N : Nat) : St → Z0 := fun st' => run (A_zz24) N (codeAt Try.f101 [1, 1]) st' vatw
theorem vayl (N : Nat) : vsv (vagw N) = vyd := by kernel_rfl
theorem vbio (N : Nat) (n1 : Int) (t7 : Y4) (t8 t9 : Int) : vlm N N (vana N) n1 t7 t8 t9 = vaml N n1 t7 t8 t9 :=
  have h : vsv (vagw N) = (vyd) := vayl N
  ((vad (fun st => by kernel_rfl) (fun st => by kernel_rfl)).trans (vaej N (vagw N) (fun j st => (vana N) (.exit j) st) N n1 t7 t8 t9)).trans (congrArg (fun k => vjn N k N n1 t7 t8 t9) h)
theorem run0_zz24 (N : Nat) (x : (S_zz24).a.den) : runF (A_zz24) N Try.f101 S_zz24 x = (vari (vlm N N (vana N)) x.1 x.2.1) := by kernel_rfl
theorem run_zz24 (N : Nat) (x : (S_zz24).a.den) : runF (A_zz24) N Try.f101 S_zz24 x = zz24 N x.1 x.2.1 := by
  refine (run0_zz24 N x).trans ?_
  rw [(funext fun n1 => (funext fun t7 => (funext fun t8 => (funext fun t9 => vbio N n1 t7 t8 t9))))]
  rfl
theorem fn_zz24 : FnOk Try.prog 101 := ⟨_, Try.func101, by kernel_rfl, by kernel_rfl⟩
theorem good_zz24 : Gx.Good Try.prog 101 S_zz24 := vaa Try.func101 (of_decide_eq_true (by kernel_rfl)) fun x r h => ⟨A_zz24, big, vac tabOk, vab (show SigsOk Try.prog [] from trivial), (run_zz24 big x).trans h⟩
def vgg (rec : Y5 → Int → Int → Int → Int → Int → Int → Int → Int → Z0) (k : Y5 → Int → Int → Int → Int → Int → Z0) (o0 : Y5) (x3 y4 t7 t8 t20 t21 t46 t47 : Int) : Z0 :=
  cond (decide (t47 < t46))
  ((atI o0 x3).bind fun xq7 =>
  (atI xq7 y4).bind fun xq8 =>
  cond xq8
  ((atI o0 y4).bind fun xq9 =>
  (atI xq9 t47).bind fun xq10 =>
  cond xq10
  ((atI o0 x3).bind fun xq11 =>
  (atI xq11 t47).bind fun xq12 =>
  cond (!xq12)
  (some (false, (())))
  (rec o0 x3 y4 t7 t8 t20 t21 t46 (IntKind.i64.wrap (t47 + (1 : Int)))))
  (rec o0 x3 y4 t7 t8 t20 t21 t46 (IntKind.i64.wrap (t47 + (1 : Int)))))
  (rec o0 x3 y4 t7 t8 t20 t21 t46 (IntKind.i64.wrap (t47 + (1 : Int)))))
  (k o0 x3 t7 t8 t20 t21)
def vdw (rec : Y5 → Int → Int → Int → Int → Int → Z0) (o0 : Y5) (x3 t7 t8 t20 t21 : Int) : Z0 :=
  rec o0 x3 t7 t8 t20 (IntKind.i64.wrap (t21 + (1 : Int)))
def vpw (L12 : Y5 → Int → Int → Int → Int → Int → Int → Int → Int → Z0) (k : Y5 → Int → Int → Z0) (o0 : Y5) (x3 t7 t8 t20 t21 : Int) : Z0 :=
  cond (decide (t21 < t20))
  (cond (decide (x3 ≠ t21))
  ((atI o0 x3).bind fun xq3 =>
  (atI xq3 t21).bind fun xq4 =>
  cond xq4
  ((atI o0 t21).bind fun xq5 =>
  (atI xq5 x3).bind fun xq6 =>
  cond xq6
  (some (false, (())))
  (L12 o0 x3 t21 t7 t8 t20 t21 (o0.length : Int) (0 : Int)))
  (L12 o0 x3 t21 t7 t8 t20 t21 (o0.length : Int) (0 : Int)))
  (L12 o0 x3 t21 t7 t8 t20 t21 (o0.length : Int) (0 : Int)))
  (k o0 t7 t8)
def vce (rec : Y5 → Int → Int → Z0) (o0 : Y5) (t7 t8 : Int) : Z0 :=
  rec o0 t7 (IntKind.i64.wrap (t8 + (1 : Int)))
def vmn (L7 : Y5 → Int → Int → Int → Int → Int → Z0) (k : Z0) (o0 : Y5) (t7 t8 : Int) : Z0 :=
  cond (decide (t8 < t7))
  ((atI o0 t8).bind fun xq1 =>
  (atI xq1 t8).bind fun xq2 =>
  cond (!xq2)
  (some (false, (())))
  (L7 o0 t8 t7 t8 (o0.length : Int) (0 : Int)))
  (k)
def vda : Z0 :=
  some (true, (()))
def vatt (L2 : Y5 → Int → Int → Z0) (o_0 : Y5) : Z0 :=
  L2 o_0 (o_0.length : Int) (0 : Int)
def viy (N : Nat) (k : Y5 → Int → Int → Int → Int → Int → Z0) : Nat → Y5 → Int → Int → Int → Int → Int → Int → Int → Int → Z0
  | 0, _, _, _, _, _, _, _, _, _ => none
  | m + 1, o0, x3, y4, t7, t8, t20, t21, t46, t47 => vgg (viy N k m) k o0 x3 y4 t7 t8 t20 t21 t46 t47
def vjm (N : Nat) (rec : Y5 → Int → Int → Int → Int → Int → Z0) (k : Y5 → Int → Int → Z0) (o0 : Y5) (x3 y4 t7 t8 t20 t21 t46 t47 : Int) : Z0 := viy N (vdw rec) N o0 x3 y4 t7 t8 t20 t21 t46 t47
def viw (N : Nat) (k : Y5 → Int → Int → Z0) : Nat → Y5 → Int → Int → Int → Int → Int → Z0
  | 0, _, _, _, _, _, _ => none
  | m + 1, o0, x3, t7, t8, t20, t21 => vpw (vjm N (viw N k m) k) k o0 x3 t7 t8 t20 t21
def vvf (N : Nat) (rec : Y5 → Int → Int → Z0) (k : Z0) (o0 : Y5) (x3 t7 t8 t20 t21 : Int) : Z0 := viw N (vce rec) N o0 x3 t7 t8 t20 t21
def vhx (N : Nat) (k : Z0) : Nat → Y5 → Int → Int → Z0
  | 0, _, _, _ => none
  | m + 1, o0, t7, t8 => vmn (vvf N (vhx N k m) k) k o0 t7 t8
def valf (N : Nat) (o0 : Y5) (t7 t8 : Int) : Z0 := vhx N (vda) N o0 t7 t8
def zz25 (N : Nat) (o_0 : Y5) : Z0 := vatt (valf N) o_0
def S_zz25 : Sig := { a := (.pair (.sl (.sl .bool)) .unit), md := [0], mf := [], m := .unit, r := .bool, rf := .i, f := fun x => zz25 big x.1 }
def A_zz25 : Cfg := mkCfg tab [] [(4, [.as (.sl (.sl .bool)) .i, .drop, .drop, .drop, .drop, .drop, .drop, .as I .i, .as I .i]), (14, [.as (.sl (.sl .bool)) .i, .drop, .drop, .as I .i, .drop, .drop, .drop, .as I .i, .as I .i, .drop, .drop, .drop, .drop, .drop, .drop, .drop, .drop, .drop, .drop, .drop, .as I .i, .as I .i]), (39, []), (24, [.as (.sl (.sl .bool)) .i, .drop, .drop, .as I .i, .as I .i, .drop, .drop, .as I .i, .as I .i, .drop, .drop, .drop, .drop, .drop, .drop, .drop, .drop, .drop, .drop, .drop, .as I .i, .as I .i, .drop, .drop, .drop, .drop, .drop, .drop, .drop, .drop, .drop, .drop, .drop, .drop, .drop, .drop, .drop, .drop, .drop, .drop, .drop, .drop, .drop, .drop, .drop, .drop, .as I .i, .as I .i]), (37, [.as (.sl (.sl .bool)) .i, .drop, .drop, .drop, .drop, .drop, .drop, .as I .i, .as I .i]), (35, [.as (.sl (.sl .bool)) .i, .drop, .drop, .as I .i, .drop, .drop, .drop, .as I .i, .as I .i, .drop, .drop, .drop, .drop, .drop, .drop, .drop, .drop, .drop, .drop, .drop, .as I .i, .as I .i])]
noncomputable def vji (N n : Nat) (K : Ex → St → Z0) (o0 : Y5) (t7 t8 : Int) : Z0 := iter ((A_zz25).shape 4) (run (A_zz25) N (codeAt Try.f111 [1, 0, 1, 0, 0])) n ([.val (.sl (.sl .bool)) .i o0, .u, .u, .u, .u, .u, .u, .val I .i t7, .val I .i t8] ++ List.replicate 70 .u) K
noncomputable def vgj (N n : Nat) (K : Ex → St → Z0) (o0 : Y5) (x3 t7 t8 t20 t21 : Int) : Z0 := iter ((A_zz25).shape 14) (run (A_zz25) N (codeAt Try.f111 [1, 0, 1, 0, 0, 1, 1, 0, 0, 1, 1, 1, 0, 0])) n ([.val (.sl (.sl .bool)) .i o0, .u, .u, .val I .i x3, .u, .u, .u, .val I .i t7, .val I .i t8, .u, .u, .u, .u, .u, .u, .u, .u, .u, .u, .u, .val I .i t20, .val I .i t21] ++ List.replicate 57 .u) K
noncomputable def vfc (N n : Nat) (K : Ex → St → Z0) (o0 : Y5) (x3 y4 t7 t8 t20 t21 t46 t47 : Int) : Z0 := iter ((A_zz25).shape 24) (run (A_zz25) N (codeAt Try.f111 [1, 0, 1, 0, 0, 1, 1, 0, 0, 1, 1, 1, 0, 0, 1, 1, 0, 0, 1, 1, 1, 0, 0])) n ([.val (.sl (.sl .bool)) .i o0, .u, .u, .val I .i x3, .val I .i y4, .u, .u, .val I .i t7, .val I .i t8, .u, .u, .u, .u, .u, .u, .u, .u, .u, .u, .u, .val I .i t20, .val I .i t21, .u, .u, .u, .u, .u, .u, .u, .u, .u, .u, .u, .u, .u, .u, .u, .u, .u, .u, .u, .u, .u, .u, .u, .u, .val I .i t46, .val I .i t47] ++ List.replicate 31 .u) K
noncomputable abbrev vxh : Ex → St → Z0 := finish (A_zz25) S_zz25 Try.f111.results.toList
noncomputable abbrev vhe (kX : St → Z0) : Z0 := kX ([] ++ List.replicate 79 .u)
noncomputable abbrev vjh (kX : St → Z0) (kO : Nat → St → Z0) : Ex → St → Z0 := exK vxh 0 ((A_zz25).shape 39) kX kO
noncomputable abbrev vfd (kX : St → Z0) : Y5 → Int → Int → Z0 := fun (o0 : Y5) (t7 t8 : Int) => kX ([.val (.sl (.sl .bool)) .i o0, .u, .u, .u, .u, .u, .u, .val I .i t7, .val I .i t8] ++ List.replicate 70 .u)
noncomputable abbrev vkn (kX : St → Z0) (kO : Nat → St → Z0) : Ex → St → Z0 := exK vxh 2 ((A_zz25).shape 37) kX kO
noncomputable abbrev vqn (kX : St → Z0) : Y5 → Int → Int → Int → Int → Int → Z0 := fun (o0 : Y5) (x3 t7 t8 t20 t21 : Int) => kX ([.val (.sl (.sl .bool)) .i o0, .u, .u, .val I .i x3, .u, .u, .u, .val I .i t7, .val I .i t8, .u, .u, .u, .u, .u, .u, .u, .u, .u, .u, .u, .val I .i t20, .val I .i t21] ++ List.replicate 57 .u)
noncomputable abbrev vvk (kX : St → Z0) (kO : Nat → St → Z0) : Ex → St → Z0 := exK vxh 4 ((A_zz25).shape 35) kX kO
theorem vayq (N m : Nat) (kX : St → Z0) (kO : Nat → St → Z0) (o0 : Y5) (x3 y4 t7 t8 t20 t21 t46 t47 : Int) : vfc N (m + 1) (vvk kX kO) o0 x3 y4 t7 t8 t20 t21 t46 t47 = vgg (vfc N m (vvk kX kO)) (vqn kX) o0 x3 y4 t7 t8 t20 t21 t46 t47 := by kernel_rfl
theorem vaas (N : Nat) (kX : St → Z0) (kO : Nat → St → Z0) : ∀ (n : Nat) (o0 : Y5) (x3 y4 t7 t8 t20 t21 t46 t47 : Int), vfc N n (vvk kX kO) o0 x3 y4 t7 t8 t20 t21 t46 t47 = viy N (vqn kX) n o0 x3 y4 t7 t8 t20 t21 t46 t47
  | 0, _, _, _, _, _, _, _, _, _ => rfl
  | m + 1, o0, x3, y4, t7, t8, t20, t21, t46, t47 => by
    have hrec : vfc N m (vvk kX kO) = (viy N (vqn kX) m) := (funext fun o0 => (funext fun x3 => (funext fun y4 => (funext fun t7 => (funext fun t8 => (funext fun t20 => (funext fun t21 => (funext fun t46 => (funext fun t47 => vaas N kX kO m o0 x3 y4 t7 t8 t20 t21 t46 t47)))))))))
    refine (vayq N m kX kO o0 x3 y4 t7 t8 t20 t21 t46 t47).trans ?_
    rw [hrec]
    rfl
noncomputable abbrev vabm (N m : Nat) (kX : St → Z0) (kO : Nat → St → Z0) : Ex → St → Z0 := (blockK 4 (blockK 3 (seqK ((A_zz25).shape 35) (gated ((A_zz25).shape 500017).isSome N (run (A_zz25) N (codeAt Try.f111 [1, 0, 1, 0, 0, 1, 1, 0, 0, 1, 1, 1, 0, 0, 1, 1, 1]))) (iterK ((A_zz25).shape 14) (run (A_zz25) N (codeAt Try.f111 [1, 0, 1, 0, 0, 1, 1, 0, 0, 1, 1, 1, 0, 0])) m (vkn kX kO)))))
noncomputable abbrev vabt (N m : Nat) (kX : St → Z0) (kO : Nat → St → Z0) : St → Z0 := fun st' => run (A_zz25) N (codeAt Try.f111 [1, 0, 1, 0, 0, 1, 1, 0, 0, 1, 1, 1, 0, 0, 1, 1, 1]) st' (iterK ((A_zz25).shape 14) (run (A_zz25) N (codeAt Try.f111 [1, 0, 1, 0, 0, 1, 1, 0, 0, 1, 1, 1, 0, 0])) m (vkn kX kO))
theorem vaqy (N m : Nat) (kX : St → Z0) (kO : Nat → St → Z0) (o0 : Y5) (x3 t7 t8 t20 t21 : Int) : vqn (vabt N m kX kO) o0 x3 t7 t8 t20 t21 = vdw (vgj N m (vkn kX kO)) o0 x3 t7 t8 t20 t21 := by kernel_rfl
theorem vbhi (N m : Nat) (kX : St → Z0) (kO : Nat → St → Z0) (recF : Y5 → Int → Int → Int → Int → Int → Z0) (hrec : vgj N m (vkn kX kO) = recF) (o0 : Y5) (x3 y4 t7 t8 t20 t21 t46 t47 : Int) : vfc N N (vabm N m kX kO) o0 x3 y4 t7 t8 t20 t21 t46 t47 = vjm N recF (vfd kX) o0 x3 y4 t7 t8 t20 t21 t46 t47 :=
  have h : vqn (vabt N m kX kO) = (vdw recF) := (funext fun o0 => (funext fun x3 => (funext fun t7 => (funext fun t8 => (funext fun t20 => (funext fun t21 => (vaqy N m kX kO o0 x3 t7 t8 t20 t21).trans (by rw [hrec])))))))
  ((vad (fun st => by kernel_rfl) (fun st => by kernel_rfl)).trans (vaas N (vabt N m kX kO) (fun j st => (vabm N m kX kO) (.exit j) st) N o0 x3 y4 t7 t8 t20 t21 t46 t47)).trans (congrArg (fun k => viy N k N o0 x3 y4 t7 t8 t20 t21 t46 t47) h)
theorem vbao (N m : Nat) (kX : St → Z0) (kO : Nat → St → Z0) (o0 : Y5) (x3 t7 t8 t20 t21 : Int) : vgj N (m + 1) (vkn kX kO) o0 x3 t7 t8 t20 t21 = vpw (vfc N N (vabm N m kX kO)) (vfd kX) o0 x3 t7 t8 t20 t21 := by kernel_rfl
theorem vaci (N : Nat) (kX : St → Z0) (kO : Nat → St → Z0) : ∀ (n : Nat) (o0 : Y5) (x3 t7 t8 t20 t21 : Int), vgj N n (vkn kX kO) o0 x3 t7 t8 t20 t21 = viw N (vfd kX) n o0 x3 t7 t8 t20 t21
  | 0, _, _, _, _, _, _ => rfl
  | m + 1, o0, x3, t7, t8, t20, t21 => by
    have hrec : vgj N m (vkn kX kO) = (viw N (vfd kX) m) := (funext fun o0 => (funext fun x3 => (funext fun t7 => (funext fun t8 => (funext fun t20 => (funext fun t21 => vaci N kX kO m o0 x3 t7 t8 t20 t21))))))
    refine (vbao N m kX kO o0 x3 t7 t8 t20 t21).trans ?_
    rw [(funext fun o0 => (funext fun x3 => (funext fun y4 => (funext fun t7 => (funext fun t8 => (funext fun t20 => (funext fun t21 => (funext fun t46 => (funext fun t47 => vbhi N m kX kO (viw N (vfd kX) m) hrec o0 x3 y4 t7 t8 t20 t21 t46 t47)))))))))]
    rfl
noncomputable abbrev vamt (N m : Nat) (kX : St → Z0) (kO : Nat → St → Z0) : Ex → St → Z0 := (blockK 2 (blockK 1 (seqK ((A_zz25).shape 37) (gated ((A_zz25).shape 500018).isSome N (run (A_zz25) N (codeAt Try.f111 [1, 0, 1, 0, 0, 1, 1, 1]))) (iterK ((A_zz25).shape 4) (run (A_zz25) N (codeAt Try.f111 [1, 0, 1, 0, 0])) m (vjh kX kO)))))
noncomputable abbrev vahb (N m : Nat) (kX : St → Z0) (kO : Nat → St → Z0) : St → Z0 := fun st' => run (A_zz25) N (codeAt Try.f111 [1, 0, 1, 0, 0, 1, 1, 1]) st' (iterK ((A_zz25).shape 4) (run (A_zz25) N (codeAt Try.f111 [1, 0, 1, 0, 0])) m (vjh kX kO))
theorem vaxf (N m : Nat) (kX : St → Z0) (kO : Nat → St → Z0) (o0 : Y5) (t7 t8 : Int) : vfd (vahb N m kX kO) o0 t7 t8 = vce (vji N m (vjh kX kO)) o0 t7 t8 := by kernel_rfl
theorem vbke (N m : Nat) (kX : St → Z0) (kO : Nat → St → Z0) (recF : Y5 → Int → Int → Z0) (hrec : vji N m (vjh kX kO) = recF) (o0 : Y5) (x3 t7 t8 t20 t21 : Int) : vgj N N (vamt N m kX kO) o0 x3 t7 t8 t20 t21 = vvf N recF (vhe kX) o0 x3 t7 t8 t20 t21 :=
  have h : vfd (vahb N m kX kO) = (vce recF) := (funext fun o0 => (funext fun t7 => (funext fun t8 => (vaxf N m kX kO o0 t7 t8).trans (by rw [hrec]))))
  ((vad (fun st => by kernel_rfl) (fun st => by kernel_rfl)).trans (vaci N (vahb N m kX kO) (fun j st => (vamt N m kX kO) (.exit j) st) N o0 x3 t7 t8 t20 t21)).trans (congrArg (fun k => viw N k N o0 x3 t7 t8 t20 t21) h)
theorem vbcq (N m : Nat) (kX : St → Z0) (kO : Nat → St → Z0) (o0 : Y5) (t7 t8 : Int) : vji N (m + 1) (vjh kX kO) o0 t7 t8 = vmn (vgj N N (vamt N m kX kO)) (vhe kX) o0 t7 t8 := by kernel_rfl
theorem vacg (N : Nat) (kX : St → Z0) (kO : Nat → St → Z0) : ∀ (n : Nat) (o0 : Y5) (t7 t8 : Int), vji N n (vjh kX kO) o0 t7 t8 = vhx N (vhe kX) n o0 t7 t8
  | 0, _, _, _ => rfl
  | m + 1, o0, t7, t8 => by
    have hrec : vji N m (vjh kX kO) = (vhx N (vhe kX) m) := (funext fun o0 => (funext fun t7 => (funext fun t8 => vacg N kX kO m o0 t7 t8)))
    refine (vbcq N m kX kO o0 t7 t8).trans ?_
    rw [(funext fun o0 => (funext fun x3 => (funext fun t7 => (funext fun t8 => (funext fun t20 => (funext fun t21 => vbke N m kX kO (vhx N (vhe kX) m) hrec o0 x3 t7 t8 t20 t21))))))]
    rfl
noncomputable abbrev vali (N : Nat) : Ex → St → Z0 := (blockK 0 (seqK ((A_zz25).shape 39) (gated ((A_zz25).shape 500019).isSome N (run (A_zz25) N (codeAt Try.f111 [1, 1]))) vxh))
noncomputable abbrev valg (N : Nat) : St → Z0 := fun st' => run (A_zz25) N (codeAt Try.f111 [1, 1]) st' vxh
theorem vaxk (N : Nat) : vhe (valg N) = vda := by kernel_rfl
theorem vbkc (N : Nat) (o0 : Y5) (t7 t8 : Int) : vji N N (vali N) o0 t7 t8 = valf N o0 t7 t8 :=
  have h : vhe (valg N) = (vda) := vaxk N
  ((vad (fun st => by kernel_rfl) (fun st => by kernel_rfl)).trans (vacg N (valg N) (fun j st => (vali N) (.exit j) st) N o0 t7 t8)).trans (congrArg (fun k => vhx N k N o0 t7 t8) h)
theorem run0_zz25 (N : Nat) (x : (S_zz25).a.den) : runF (A_zz25) N Try.f111 S_zz25 x = (vatt (vji N N (vali N)) x.1) := by kernel_rfl
theorem run_zz25 (N : Nat) (x : (S_zz25).a.den) : runF (A_zz25) N Try.f111 S_zz25 x = zz25 N x.1 := by
  refine (run0_zz25 N x).trans ?_
  rw [(funext fun o0 => (funext fun t7 => (funext fun t8 => vbkc N o0 t7 t8)))]
  rfl
theorem fn_zz25 : FnOk Try.prog 111 := ⟨_, Try.func111, by kernel_rfl, by kernel_rfl⟩
theorem good_zz25 : Gx.Good Try.prog 111 S_zz25 := vaa Try.func111 (of_decide_eq_true (by kernel_rfl)) fun x r h => ⟨A_zz25, big, vac tabOk, vab (show SigsOk Try.prog [] from trivial), (run_zz25 big x).trans h⟩
def viz (rec : Int → Y5 → Int → Y3 → Int → Int → Y4 → Int → Bool → Bool → Y4 → Int → Int → Z9) (k : Int → Y5 → Y3 → Int → Int → Y4 → Int → Bool → Bool → Z9) (n4 : Int) (o5 : Y5) (x6 : Int) (t18 : Y3) (t19 t20 : Int) (t29 : Y4) (t30 : Int) (t31 t32 : Bool) (t34 : Y4) (t35 t36 : Int) : Z9 :=
  cond (decide (t36 < t35))
  ((atI t34 t36).bind fun xq6 =>
  (atI o5 xq6).bind fun _ =>
  (o5[xq6.toNat]?).bind fun xq7 =>
  (o5[xq6.toNat]?).bind fun xq8 =>
  (atI xq8 x6).bind fun _ =>
  (o5[xq6.toNat]?).bind fun xq9 =>
  (xq9[x6.toNat]?).bind fun xq10 =>
  rec n4 (o5.set xq6.toNat (xq9.set x6.toNat true)) x6 t18 t19 t20 t29 t30 t31 t32 t34 t35 (IntKind.i64.wrap (t36 + (1 : Int))))
  (k n4 o5 t18 t19 t20 t29 t30 t31 t32)
def vdu (rec : Int → Y5 → Y3 → Int → Int → Z9) (n4 : Int) (o5 : Y5) (t18 : Y3) (t19 t20 : Int) (t29 : Y4) (t30 : Int) (t31 t32 : Bool) : Z9 :=
  rec n4 o5 t18 t19 (IntKind.i64.wrap (t20 + (1 : Int)))
def vpc (L11 : Int → Y5 → Int → Y3 → Int → Int → Y4 → Int → Bool → Bool → Y4 → Int → Int → Z9) (k : Y5 → Z9) (n4 : Int) (o5 : Y5) (t18 : Y3) (t19 t20 : Int) : Z9 :=
  cond (decide (t20 < t19))
  ((atI t18 t20).bind fun xq2 =>
  (zz23 big xq2).bind fun rq3 =>
  cond (!rq3.1)
  (some (([], false, ()), (())))
  ((zz24 big xq2 n4).bind fun rq4 =>
  cond (!rq4.1)
  (some (([], false, ()), (())))
  (L11 n4 o5 t20 t18 t19 t20 xq2 n4 rq4.1 (!rq4.1) xq2 (xq2.length : Int) (0 : Int))))
  (k o5)
def vde (o5 : Y5) : Z9 :=
  (zz25 big o5).bind fun rq5 =>
  some ((o5, rq5.1, ()), (()))
def vaex (L6 : Int → Y5 → Y3 → Int → Int → Z9) (p_0 : Y2) : Z9 :=
  cond (decide ((10 : Int) < (p_0.1.length : Int)))
  (some (([], false, ()), (())))
  ((zz22 big (p_0.1.length : Int)).bind fun rq1 =>
  L6 (p_0.1.length : Int) rq1.1 p_0.1 (p_0.1.length : Int) (0 : Int))
def vhf (N : Nat) (k : Int → Y5 → Y3 → Int → Int → Y4 → Int → Bool → Bool → Z9) : Nat → Int → Y5 → Int → Y3 → Int → Int → Y4 → Int → Bool → Bool → Y4 → Int → Int → Z9
  | 0, _, _, _, _, _, _, _, _, _, _, _, _, _ => none
  | m + 1, n4, o5, x6, t18, t19, t20, t29, t30, t31, t32, t34, t35, t36 => viz (vhf N k m) k n4 o5 x6 t18 t19 t20 t29 t30 t31 t32 t34 t35 t36
def vqr (N : Nat) (rec : Int → Y5 → Y3 → Int → Int → Z9) (k : Y5 → Z9) (n4 : Int) (o5 : Y5) (x6 : Int) (t18 : Y3) (t19 t20 : Int) (t29 : Y4) (t30 : Int) (t31 t32 : Bool) (t34 : Y4) (t35 t36 : Int) : Z9 := vhf N (vdu rec) N n4 o5 x6 t18 t19 t20 t29 t30 t31 t32 t34 t35 t36
def vgy (N : Nat) (k : Y5 → Z9) : Nat → Int → Y5 → Y3 → Int → Int → Z9
  | 0, _, _, _, _, _ => none
  | m + 1, n4, o5, t18, t19, t20 => vpc (vqr N (vgy N k m) k) k n4 o5 t18 t19 t20
def vamu (N : Nat) (n4 : Int) (o5 : Y5) (t18 : Y3) (t19 t20 : Int) : Z9 := vgy N (vde) N n4 o5 t18 t19 t20
def zz26 (N : Nat) (p_0 : Y2) : Z9 := vaex (vamu N) p_0
def S_zz26 : Sig := { a := (.pair (.pair (.sl (.sl I)) .unit) .unit), md := [0], mf := [], m := .unit, r := (.tup (.pair (.sl (.sl .bool)) (.pair .bool .unit))), rf := (.p (.o (.o .i)) .i), f := fun x => zz26 big x.1 }
def A_zz26 : Cfg := mkCfg tab [(109, S_zz22), (110, S_zz23), (101, S_zz24), (111, S_zz25)] [(12, [.drop, .drop, .drop, .drop, .as I .i, .as (.sl (.sl .bool)) (.o (.o .i)), .drop, .drop, .drop, .drop, .drop, .drop, .drop, .drop, .drop, .drop, .drop, .drop, .as (.sl (.sl I)) .i, .as I .i, .as I .i]), (22, [.drop, .drop, .drop, .drop, .as I .i, .as (.sl (.sl .bool)) (.o (.o .i)), .as I .i, .drop, .drop, .drop, .drop, .drop, .drop, .drop, .drop, .drop, .drop, .drop, .as (.sl (.sl I)) .i, .as I .i, .as I .i, .drop, .drop, .drop, .drop, .drop, .drop, .drop, .drop, .as (.sl I) .i, .as I .i, .as .bool .i, .as .bool .i, .drop, .as (.sl I) .i, .as I .i, .as I .i]), (33, [.drop, .drop, .drop, .drop, .drop, .as (.sl (.sl .bool)) (.o (.o .i))]), (31, [.drop, .drop, .drop, .drop, .as I .i, .as (.sl (.sl .bool)) (.o (.o .i)), .drop, .drop, .drop, .drop, .drop, .drop, .drop, .drop, .drop, .drop, .drop, .drop, .as (.sl (.sl I)) .i, .as I .i, .as I .i, .drop, .drop, .drop, .drop, .drop, .drop, .drop, .drop, .as (.sl I) .i, .as I .i, .as .bool .i, .as .bool .i])]
noncomputable def vij (N n : Nat) (K : Ex → St → Z9) (n4 : Int) (o5 : Y5) (t18 : Y3) (t19 t20 : Int) : Z9 := iter ((A_zz26).shape 12) (run (A_zz26) N (codeAt Try.f58 [1, 1, 1, 1, 0, 1, 0, 0])) n ([.u, .u, .u, .u, .val I .i n4, .val (.sl (.sl .bool)) (.o (.o .i)) o5, .u, .u, .u, .u, .u, .u, .u, .u, .u, .u, .u, .u, .val (.sl (.sl I)) .i t18, .val I .i t19, .val I .i t20] ++ List.replicate 30 .u) K
noncomputable def vip (N n : Nat) (K : Ex → St → Z9) (n4 : Int) (o5 : Y5) (x6 : Int) (t18 : Y3) (t19 t20 : Int) (t29 : Y4) (t30 : Int) (t31 t32 : Bool) (t34 : Y4) (t35 t36 : Int) : Z9 := iter ((A_zz26).shape 22) (run (A_zz26) N (codeAt Try.f58 [1, 1, 1, 1, 0, 1, 0, 0, 1, 1, 0, 0, 1, 1, 1, 0, 0])) n ([.u, .u, .u, .u, .val I .i n4, .val (.sl (.sl .bool)) (.o (.o .i)) o5, .val I .i x6, .u, .u, .u, .u, .u, .u, .u, .u, .u, .u, .u, .val (.sl (.sl I)) .i t18, .val I .i t19, .val I .i t20, .u, .u, .u, .u, .u, .u, .u, .u, .val (.sl I) .i t29, .val I .i t30, .val .bool .i t31, .val .bool .i t32, .u, .val (.sl I) .i t34, .val I .i t35, .val I .i t36] ++ List.replicate 14 .u) K
noncomputable abbrev vadk : Ex → St → Z9 := finish (A_zz26) S_zz26 Try.f58.results.toList
noncomputable abbrev vhu (kX : St → Z9) : Y5 → Z9 := fun (o5 : Y5) => kX ([.u, .u, .u, .u, .u, .val (.sl (.sl .bool)) (.o (.o .i)) o5] ++ List.replicate 45 .u)
noncomputable abbrev vkb (kX : St → Z9) (kO : Nat → St → Z9) : Ex → St → Z9 := exK vadk 0 ((A_zz26).shape 33) kX kO
noncomputable abbrev vre (kX : St → Z9) : Int → Y5 → Y3 → Int → Int → Y4 → Int → Bool → Bool → Z9 := fun (n4 : Int) (o5 : Y5) (t18 : Y3) (t19 t20 : Int) (t29 : Y4) (t30 : Int) (t31 t32 : Bool) => kX ([.u, .u, .u, .u, .val I .i n4, .val (.sl (.sl .bool)) (.o (.o .i)) o5, .u, .u, .u, .u, .u, .u, .u, .u, .u, .u, .u, .u, .val (.sl (.sl I)) .i t18, .val I .i t19, .val I .i t20, .u, .u, .u, .u, .u, .u, .u, .u, .val (.sl I) .i t29, .val I .i t30, .val .bool .i t31, .val .bool .i t32] ++ List.replicate 18 .u)
noncomputable abbrev vvs (kX : St → Z9) (kO : Nat → St → Z9) : Ex → St → Z9 := exK vadk 2 ((A_zz26).shape 31) kX kO
theorem vaxo (N m : Nat) (kX : St → Z9) (kO : Nat → St → Z9) (n4 : Int) (o5 : Y5) (x6 : Int) (t18 : Y3) (t19 t20 : Int) (t29 : Y4) (t30 : Int) (t31 t32 : Bool) (t34 : Y4) (t35 t36 : Int) : vip N (m + 1) (vvs kX kO) n4 o5 x6 t18 t19 t20 t29 t30 t31 t32 t34 t35 t36 = viz (vip N m (vvs kX kO)) (vre kX) n4 o5 x6 t18 t19 t20 t29 t30 t31 t32 t34 t35 t36 := by kernel_rfl
theorem vaaz (N : Nat) (kX : St → Z9) (kO : Nat → St → Z9) : ∀ (n : Nat) (n4 : Int) (o5 : Y5) (x6 : Int) (t18 : Y3) (t19 t20 : Int) (t29 : Y4) (t30 : Int) (t31 t32 : Bool) (t34 : Y4) (t35 t36 : Int), vip N n (vvs kX kO) n4 o5 x6 t18 t19 t20 t29 t30 t31 t32 t34 t35 t36 = vhf N (vre kX) n n4 o5 x6 t18 t19 t20 t29 t30 t31 t32 t34 t35 t36
  | 0, _, _, _, _, _, _, _, _, _, _, _, _, _ => rfl
  | m + 1, n4, o5, x6, t18, t19, t20, t29, t30, t31, t32, t34, t35, t36 => by
    have hrec : vip N m (vvs kX kO) = (vhf N (vre kX) m) := (funext fun n4 => (funext fun o5 => (funext fun x6 => (funext fun t18 => (funext fun t19 => (funext fun t20 => (funext fun t29 => (funext fun t30 => (funext fun t31 => (funext fun t32 => (funext fun t34 => (funext fun t35 => (funext fun t36 => vaaz N kX kO m n4 o5 x6 t18 t19 t20 t29 t30 t31 t32 t34 t35 t36)))))))))))))
    refine (vaxo N m kX kO n4 o5 x6 t18 t19 t20 t29 t30 t31 t32 t34 t35 t36).trans ?_
    rw [hrec]
    rfl
noncomputable abbrev vabe (N m : Nat) (kX : St → Z9) (kO : Nat → St → Z9) : Ex → St → Z9 := (blockK 2 (blockK 1 (seqK ((A_zz26).shape 31) (gated ((A_zz26).shape 500015).isSome N (run (A_zz26) N (codeAt Try.f58 [1, 1, 1, 1, 0, 1, 0, 0, 1, 1, 1]))) (iterK ((A_zz26).shape 12) (run (A_zz26) N (codeAt Try.f58 [1, 1, 1, 1, 0, 1, 0, 0])) m (vkb kX kO)))))
noncomputable abbrev vaba (N m : Nat) (kX : St → Z9) (kO : Nat → St → Z9) : St → Z9 := fun st' => run (A_zz26) N (codeAt Try.f58 [1, 1, 1, 1, 0, 1, 0, 0, 1, 1, 1]) st' (iterK ((A_zz26).shape 12) (run (A_zz26) N (codeAt Try.f58 [1, 1, 1, 1, 0, 1, 0, 0])) m (vkb kX kO))
theorem vash (N m : Nat) (kX : St → Z9) (kO : Nat → St → Z9) (n4 : Int) (o5 : Y5) (t18 : Y3) (t19 t20 : Int) (t29 : Y4) (t30 : Int) (t31 t32 : Bool) : vre (vaba N m kX kO) n4 o5 t18 t19 t20 t29 t30 t31 t32 = vdu (vij N m (vkb kX kO)) n4 o5 t18 t19 t20 t29 t30 t31 t32 := by kernel_rfl
theorem vbfn (N m : Nat) (kX : St → Z9) (kO : Nat → St → Z9) (recF : Int → Y5 → Y3 → Int → Int → Z9) (hrec : vij N m (vkb kX kO) = recF) (n4 : Int) (o5 : Y5) (x6 : Int) (t18 : Y3) (t19 t20 : Int) (t29 : Y4) (t30 : Int) (t31 t32 : Bool) (t34 : Y4) (t35 t36 : Int) : vip N N (vabe N m kX kO) n4 o5 x6 t18 t19 t20 t29 t30 t31 t32 t34 t35 t36 = vqr N recF (vhu kX) n4 o5 x6 t18 t19 t20 t29 t30 t31 t32 t34 t35 t36 :=
  have h : vre (vaba N m kX kO) = (vdu recF) := (funext fun n4 => (funext fun o5 => (funext fun t18 => (funext fun t19 => (funext fun t20 => (funext fun t29 => (funext fun t30 => (funext fun t31 => (funext fun t32 => (vash N m kX kO n4 o5 t18 t19 t20 t29 t30 t31 t32).trans (by rw [hrec]))))))))))
  ((vad (fun st => by kernel_rfl) (fun st => by kernel_rfl)).trans (vaaz N (vaba N m kX kO) (fun j st => (vabe N m kX kO) (.exit j) st) N n4 o5 x6 t18 t19 t20 t29 t30 t31 t32 t34 t35 t36)).trans (congrArg (fun k => vhf N k N n4 o5 x6 t18 t19 t20 t29 t30 t31 t32 t34 t35 t36) h)
theorem vbdy (N m : Nat) (kX : St → Z9) (kO : Nat → St → Z9) (n4 : Int) (o5 : Y5) (t18 : Y3) (t19 t20 : Int) : vij N (m + 1) (vkb kX kO) n4 o5 t18 t19 t20 = vpc (vip N N (vabe N m kX kO)) (vhu kX) n4 o5 t18 t19 t20 := by kernel_rfl
theorem vacq (N : Nat) (kX : St → Z9) (kO : Nat → St → Z9) : ∀ (n : Nat) (n4 : Int) (o5 : Y5) (t18 : Y3) (t19 t20 : Int), vij N n (vkb kX kO) n4 o5 t18 t19 t20 = vgy N (vhu kX) n n4 o5 t18 t19 t20
  | 0, _, _, _, _, _ => rfl
  | m + 1, n4, o5, t18, t19, t20 => by
    have hrec : vij N m (vkb kX kO) = (vgy N (vhu kX) m) := (funext fun n4 => (funext fun o5 => (funext fun t18 => (funext fun t19 => (funext fun t20 => vacq N kX kO m n4 o5 t18 t19 t20)))))
    refine (vbdy N m kX kO n4 o5 t18 t19 t20).trans ?_
    rw [(funext fun n4 => (funext fun o5 => (funext fun x6 => (funext fun t18 => (funext fun t19 => (funext fun t20 => (funext fun t29 => (funext fun t30 => (funext fun t31 => (funext fun t32 => (funext fun t34 => (funext fun t35 => (funext fun t36 => vbfn N m kX kO (vgy N (vhu kX) m) hrec n4 o5 x6 t18 t19 t20 t29 t30 t31 t32 t34 t35 t36)))))))))))))]
    rfl
noncomputable abbrev vame (N : Nat) : Ex → St → Z9 := (blockK 0 (seqK ((A_zz26).shape 33) (gated ((A_zz26).shape 500016).isSome N (run (A_zz26) N (codeAt Try.f58 [1, 1, 1, 1, 1]))) vadk))
noncomputable abbrev vajg (N : Nat) : St → Z9 := fun st' => run (A_zz26) N (codeAt Try.f58 [1, 1, 1, 1, 1]) st' vadk
theorem vawd (N : Nat) (o5 : Y5) : vhu (vajg N) o5 = vde o5 := by kernel_rfl
theorem vbjq (N : Nat) (n4 : Int) (o5 : Y5) (t18 : Y3) (t19 t20 : Int) : vij N N (vame N) n4 o5 t18 t19 t20 = vamu N n4 o5 t18 t19 t20 :=
  have h : vhu (vajg N) = (vde) := (funext fun o5 => vawd N o5)
  ((vad (fun st => by kernel_rfl) (fun st => by kernel_rfl)).trans (vacq N (vajg N) (fun j st => (vame N) (.exit j) st) N n4 o5 t18 t19 t20)).trans (congrArg (fun k => vgy N k N n4 o5 t18 t19 t20) h)
theorem run0_zz26 (N : Nat) (x : (S_zz26).a.den) : runF (A_zz26) N Try.f58 S_zz26 x = (vaex (vij N N (vame N)) x.1) := by kernel_rfl
theorem run_zz26 (N : Nat) (x : (S_zz26).a.den) : runF (A_zz26) N Try.f58 S_zz26 x = zz26 N x.1 := by
  refine (run0_zz26 N x).trans ?_
  rw [(funext fun n4 => (funext fun o5 => (funext fun t18 => (funext fun t19 => (funext fun t20 => vbjq N n4 o5 t18 t19 t20)))))]
  rfl
theorem fn_zz26 : FnOk Try.prog 58 := ⟨_, Try.func58, by kernel_rfl, by kernel_rfl⟩
theorem good_zz26 : Gx.Good Try.prog 58 S_zz26 := vaa Try.func58 (of_decide_eq_true (by kernel_rfl)) fun x r h => ⟨A_zz26, big, vac tabOk, vab (show SigsOk Try.prog [(109, S_zz22), (110, S_zz23), (101, S_zz24), (111, S_zz25)] from ⟨⟨fn_zz22, good_zz22⟩, ⟨fn_zz23, good_zz23⟩, ⟨fn_zz24, good_zz24⟩, ⟨fn_zz25, good_zz25⟩, trivial⟩), (run_zz26 big x).trans h⟩
def vqg (rec : Y5 → Y4 → Int → Bool → Y4 → Int → Int → Y4 → Int → Int → Z6) (k : Y5 → Y4 → Int → Bool → Y4 → Int → Int → Z6) (o0 : Y5) (list1 : Y4) (x6 : Int) (top7 : Bool) (t10 : Y4) (t11 t12 : Int) (t16 : Y4) (t17 t18 : Int) : Z6 :=
  cond (decide (t18 < t17))
  ((atI t16 t18).bind fun xq2 =>
  cond top7
  ((atI o0 xq2).bind fun xq3 =>
  (atI xq3 x6).bind fun xq4 =>
  rec o0 list1 x6 xq4 t10 t11 t12 t16 t17 (IntKind.i64.wrap (t18 + (1 : Int))))
  (rec o0 list1 x6 false t10 t11 t12 t16 t17 (IntKind.i64.wrap (t18 + (1 : Int)))))
  (k o0 list1 x6 top7 t10 t11 t12)
def vff (rec : Y5 → Y4 → Y4 → Int → Int → Z6) (o0 : Y5) (list1 : Y4) (x6 : Int) (top7 : Bool) (t10 : Y4) (t11 t12 : Int) : Z6 :=
  cond top7
  (some (x6, (())))
  (rec o0 list1 t10 t11 (IntKind.i64.wrap (t12 + (1 : Int))))
def voy (L6 : Y5 → Y4 → Int → Bool → Y4 → Int → Int → Y4 → Int → Int → Z6) (k : Z6) (o0 : Y5) (list1 t10 : Y4) (t11 t12 : Int) : Z6 :=
  cond (decide (t12 < t11))
  ((atI t10 t12).bind fun xq1 =>
  L6 o0 list1 xq1 true t10 t11 t12 list1 (list1.length : Int) (0 : Int))
  (k)
def vco : Z6 :=
  some ((-1 : Int), (()))
def vaux (L2 : Y5 → Y4 → Y4 → Int → Int → Z6) (o_0 : Y5) (list_1 : Y4) : Z6 :=
  L2 o_0 list_1 list_1 (list_1.length : Int) (0 : Int)
def vpv (N : Nat) (k : Y5 → Y4 → Int → Bool → Y4 → Int → Int → Z6) : Nat → Y5 → Y4 → Int → Bool → Y4 → Int → Int → Y4 → Int → Int → Z6
  | 0, _, _, _, _, _, _, _, _, _, _ => none
  | m + 1, o0, list1, x6, top7, t10, t11, t12, t16, t17, t18 => vqg (vpv N k m) k o0 list1 x6 top7 t10 t11 t12 t16 t17 t18
def vvg (N : Nat) (rec : Y5 → Y4 → Y4 → Int → Int → Z6) (k : Z6) (o0 : Y5) (list1 : Y4) (x6 : Int) (top7 : Bool) (t10 : Y4) (t11 t12 : Int) (t16 : Y4) (t17 t18 : Int) : Z6 := vpv N (vff rec) N o0 list1 x6 top7 t10 t11 t12 t16 t17 t18
def vjs (N : Nat) (k : Z6) : Nat → Y5 → Y4 → Y4 → Int → Int → Z6
  | 0, _, _, _, _, _ => none
  | m + 1, o0, list1, t10, t11, t12 => voy (vvg N (vjs N k m) k) k o0 list1 t10 t11 t12
def vajf (N : Nat) (o0 : Y5) (list1 t10 : Y4) (t11 t12 : Int) : Z6 := vjs N (vco) N o0 list1 t10 t11 t12
def zz27 (N : Nat) (o_0 : Y5) (list_1 : Y4) : Z6 := vaux (vajf N) o_0 list_1
def S_zz27 : Sig := { a := (.pair (.sl (.sl .bool)) (.pair (.sl I) .unit)), md := [0, 0], mf := [], m := .unit, r := I, rf := .i, f := fun x => zz27 big x.1 x.2.1 }
def A_zz27 : Cfg := mkCfg tab [] [(4, [.as (.sl (.sl .bool)) .i, .as (.sl I) .i, .drop, .drop, .drop, .drop, .drop, .drop, .drop, .drop, .as (.sl I) .i, .as I .i, .as I .i]), (12, [.as (.sl (.sl .bool)) .i, .as (.sl I) .i, .drop, .drop, .drop, .drop, .as I .i, .as .bool .i, .drop, .drop, .as (.sl I) .i, .as I .i, .as I .i, .drop, .drop, .drop, .as (.sl I) .i, .as I .i, .as I .i]), (27, []), (21, [.as (.sl (.sl .bool)) .i, .as (.sl I) .i, .drop, .drop, .drop, .drop, .as I .i, .as .bool .i, .drop, .drop, .as (.sl I) .i, .as I .i, .as I .i])]
noncomputable def vio (N n : Nat) (K : Ex → St → Z6) (o0 : Y5) (list1 t10 : Y4) (t11 t12 : Int) : Z6 := iter ((A_zz27).shape 4) (run (A_zz27) N (codeAt Try.f123 [1, 0, 1, 0, 0])) n ([.val (.sl (.sl .bool)) .i o0, .val (.sl I) .i list1, .u, .u, .u, .u, .u, .u, .u, .u, .val (.sl I) .i t10, .val I .i t11, .val I .i t12] ++ List.replicate 23 .u) K
noncomputable def vmh (N n : Nat) (K : Ex → St → Z6) (o0 : Y5) (list1 : Y4) (x6 : Int) (top7 : Bool) (t10 : Y4) (t11 t12 : Int) (t16 : Y4) (t17 t18 : Int) : Z6 := iter ((A_zz27).shape 12) (run (A_zz27) N (codeAt Try.f123 [1, 0, 1, 0, 0, 1, 1, 0, 0, 1, 1, 0, 1, 0, 0])) n ([.val (.sl (.sl .bool)) .i o0, .val (.sl I) .i list1, .u, .u, .u, .u, .val I .i x6, .val .bool .i top7, .u, .u, .val (.sl I) .i t10, .val I .i t11, .val I .i t12, .u, .u, .u, .val (.sl I) .i t16, .val I .i t17, .val I .i t18] ++ List.replicate 17 .u) K
noncomputable abbrev vaet : Ex → St → Z6 := finish (A_zz27) S_zz27 Try.f123.results.toList
noncomputable abbrev vgi (kX : St → Z6) : Z6 := kX ([] ++ List.replicate 36 .u)
noncomputable abbrev vit (kX : St → Z6) (kO : Nat → St → Z6) : Ex → St → Z6 := exK vaet 0 ((A_zz27).shape 27) kX kO
noncomputable abbrev vtg (kX : St → Z6) : Y5 → Y4 → Int → Bool → Y4 → Int → Int → Z6 := fun (o0 : Y5) (list1 : Y4) (x6 : Int) (top7 : Bool) (t10 : Y4) (t11 t12 : Int) => kX ([.val (.sl (.sl .bool)) .i o0, .val (.sl I) .i list1, .u, .u, .u, .u, .val I .i x6, .val .bool .i top7, .u, .u, .val (.sl I) .i t10, .val I .i t11, .val I .i t12] ++ List.replicate 23 .u)
noncomputable abbrev vyy (kX : St → Z6) (kO : Nat → St → Z6) : Ex → St → Z6 := exK vaet 2 ((A_zz27).shape 21) kX kO
theorem vbat (N m : Nat) (kX : St → Z6) (kO : Nat → St → Z6) (o0 : Y5) (list1 : Y4) (x6 : Int) (top7 : Bool) (t10 : Y4) (t11 t12 : Int) (t16 : Y4) (t17 t18 : Int) : vmh N (m + 1) (vyy kX kO) o0 list1 x6 top7 t10 t11 t12 t16 t17 t18 = vqg (vmh N m (vyy kX kO)) (vtg kX) o0 list1 x6 top7 t10 t11 t12 t16 t17 t18 := by kernel_rfl
theorem vadg (N : Nat) (kX : St → Z6) (kO : Nat → St → Z6) : ∀ (n : Nat) (o0 : Y5) (list1 : Y4) (x6 : Int) (top7 : Bool) (t10 : Y4) (t11 t12 : Int) (t16 : Y4) (t17 t18 : Int), vmh N n (vyy kX kO) o0 list1 x6 top7 t10 t11 t12 t16 t17 t18 = vpv N (vtg kX) n o0 list1 x6 top7 t10 t11 t12 t16 t17 t18
  | 0, _, _, _, _, _, _, _, _, _, _ => rfl
  | m + 1, o0, list1, x6, top7, t10, t11, t12, t16, t17, t18 => by
    have hrec : vmh N m (vyy kX kO) = (vpv N (vtg kX) m) := (funext fun o0 => (funext fun list1 => (funext fun x6 => (funext fun top7 => (funext fun t10 => (funext fun t11 => (funext fun t12 => (funext fun t16 => (funext fun t17 => (funext fun t18 => vadg N kX kO m o0 list1 x6 top7 t10 t11 t12 t16 t17 t18))))))))))
    refine (vbat N m kX kO o0 list1 x6 top7 t10 t11 t12 t16 t17 t18).trans ?_
    rw [hrec]
    rfl
noncomputable abbrev valv (N m : Nat) (kX : St → Z6) (kO : Nat → St → Z6) : Ex → St → Z6 := (blockK 2 (seqK ((A_zz27).shape 21) (gated ((A_zz27).shape 500010).isSome N (run (A_zz27) N (codeAt Try.f123 [1, 0, 1, 0, 0, 1, 1, 0, 0, 1, 1, 1]))) (blockK 1 (seqK ((A_zz27).shape 25) (gated ((A_zz27).shape 500012).isSome N (run (A_zz27) N (codeAt Try.f123 [1, 0, 1, 0, 0, 1, 1, 1]))) (iterK ((A_zz27).shape 4) (run (A_zz27) N (codeAt Try.f123 [1, 0, 1, 0, 0])) m (vit kX kO))))))
noncomputable abbrev vaii (N m : Nat) (kX : St → Z6) (kO : Nat → St → Z6) : St → Z6 := fun st' => run (A_zz27) N (codeAt Try.f123 [1, 0, 1, 0, 0, 1, 1, 0, 0, 1, 1, 1]) st' (blockK 1 (seqK ((A_zz27).shape 25) (gated ((A_zz27).shape 500012).isSome N (run (A_zz27) N (codeAt Try.f123 [1, 0, 1, 0, 0, 1, 1, 1]))) (iterK ((A_zz27).shape 4) (run (A_zz27) N (codeAt Try.f123 [1, 0, 1, 0, 0])) m (vit kX kO))))
theorem vays (N m : Nat) (kX : St → Z6) (kO : Nat → St → Z6) (o0 : Y5) (list1 : Y4) (x6 : Int) (top7 : Bool) (t10 : Y4) (t11 t12 : Int) : vtg (vaii N m kX kO) o0 list1 x6 top7 t10 t11 t12 = vff (vio N m (vit kX kO)) o0 list1 x6 top7 t10 t11 t12 := by kernel_rfl
theorem vbib (N m : Nat) (kX : St → Z6) (kO : Nat → St → Z6) (recF : Y5 → Y4 → Y4 → Int → Int → Z6) (hrec : vio N m (vit kX kO) = recF) (o0 : Y5) (list1 : Y4) (x6 : Int) (top7 : Bool) (t10 : Y4) (t11 t12 : Int) (t16 : Y4) (t17 t18 : Int) : vmh N N (valv N m kX kO) o0 list1 x6 top7 t10 t11 t12 t16 t17 t18 = vvg N recF (vgi kX) o0 list1 x6 top7 t10 t11 t12 t16 t17 t18 :=
  have h : vtg (vaii N m kX kO) = (vff recF) := (funext fun o0 => (funext fun list1 => (funext fun x6 => (funext fun top7 => (funext fun t10 => (funext fun t11 => (funext fun t12 => (vays N m kX kO o0 list1 x6 top7 t10 t11 t12).trans (by rw [hrec]))))))))
  ((vad (fun st => by kernel_rfl) (fun st => by kernel_rfl)).trans (vadg N (vaii N m kX kO) (fun j st => (valv N m kX kO) (.exit j) st) N o0 list1 x6 top7 t10 t11 t12 t16 t17 t18)).trans (congrArg (fun k => vpv N k N o0 list1 x6 top7 t10 t11 t12 t16 t17 t18) h)
theorem vbdl (N m : Nat) (kX : St → Z6) (kO : Nat → St → Z6) (o0 : Y5) (list1 t10 : Y4) (t11 t12 : Int) : vio N (m + 1) (vit kX kO) o0 list1 t10 t11 t12 = voy (vmh N N (valv N m kX kO)) (vgi kX) o0 list1 t10 t11 t12 := by kernel_rfl
theorem vadl (N : Nat) (kX : St → Z6) (kO : Nat → St → Z6) : ∀ (n : Nat) (o0 : Y5) (list1 t10 : Y4) (t11 t12 : Int), vio N n (vit kX kO) o0 list1 t10 t11 t12 = vjs N (vgi kX) n o0 list1 t10 t11 t12
  | 0, _, _, _, _, _ => rfl
  | m + 1, o0, list1, t10, t11, t12 => by
    have hrec : vio N m (vit kX kO) = (vjs N (vgi kX) m) := (funext fun o0 => (funext fun list1 => (funext fun t10 => (funext fun t11 => (funext fun t12 => vadl N kX kO m o0 list1 t10 t11 t12)))))
    refine (vbdl N m kX kO o0 list1 t10 t11 t12).trans ?_
    rw [(funext fun o0 => (funext fun list1 => (funext fun x6 => (funext fun top7 => (funext fun t10 => (funext fun t11 => (funext fun t12 => (funext fun t16 => (funext fun t17 => (funext fun t18 => vbib N m kX kO (vjs N (vgi kX) m) hrec o0 list1 x6 top7 t10 t11 t12 t16 t17 t18))))))))))]
    rfl
noncomputable abbrev vagu (N : Nat) : Ex → St → Z6 := (blockK 0 (seqK ((A_zz27).shape 27) (gated ((A_zz27).shape 500013).isSome N (run (A_zz27) N (codeAt Try.f123 [1, 1]))) vaet))
noncomputable abbrev vaiy (N : Nat) : St → Z6 := fun st' => run (A_zz27) N (codeAt Try.f123 [1, 1]) st' vaet
theorem vayk (N : Nat) : vgi (vaiy N) = vco := by kernel_rfl
theorem vbiy (N : Nat) (o0 : Y5) (list1 t10 : Y4) (t11 t12 : Int) : vio N N (vagu N) o0 list1 t10 t11 t12 = vajf N o0 list1 t10 t11 t12 :=
  have h : vgi (vaiy N) = (vco) := vayk N
  ((vad (fun st => by kernel_rfl) (fun st => by kernel_rfl)).trans (vadl N (vaiy N) (fun j st => (vagu N) (.exit j) st) N o0 list1 t10 t11 t12)).trans (congrArg (fun k => vjs N k N o0 list1 t10 t11 t12) h)
theorem run0_zz27 (N : Nat) (x : (S_zz27).a.den) : runF (A_zz27) N Try.f123 S_zz27 x = (vaux (vio N N (vagu N)) x.1 x.2.1) := by kernel_rfl
theorem run_zz27 (N : Nat) (x : (S_zz27).a.den) : runF (A_zz27) N Try.f123 S_zz27 x = zz27 N x.1 x.2.1 := by
  refine (run0_zz27 N x).trans ?_
  rw [(funext fun o0 => (funext fun list1 => (funext fun t10 => (funext fun t11 => (funext fun t12 => vbiy N o0 list1 t10 t11 t12)))))]
  rfl
theorem fn_zz27 : FnOk Try.prog 123 := ⟨_, Try.func123, by kernel_rfl, by kernel_rfl⟩
theorem good_zz27 : Gx.Good Try.prog 123 S_zz27 := vaa Try.func123 (of_decide_eq_true (by kernel_rfl)) fun x r h => ⟨A_zz27, big, vac tabOk, vab (show SigsOk Try.prog [] from trivial), (run_zz27 big x).trans h⟩
def vbes (z_0 : Int) (p_1 : Y5) (p_2 p_3 : Int) : Z0 :=
  (atI p_1 z_0).bind fun xq1 =>
  (atI xq1 p_2).bind fun xq2 =>
  cond xq2
  ((atI p_1 z_0).bind fun xq3 =>
  (atI xq3 p_3).bind fun xq4 =>
  some (xq4, (())))
  (some (false, (())))
def zz28 (z_0 : Int) (p_1 : Y5) (p_2 p_3 : Int) : Z0 := vbes z_0 p_1 p_2 p_3
def S_zz28 : Sig := { a := (.pair I (.pair (.ptr (.sl (.sl .bool))) (.pair (.ptr I) (.pair (.ptr I) .unit)))), md := [0, 0, 0, 0], mf := [], m := .unit, r := .bool, rf := .i, f := fun x => zz28 x.1 x.2.1 x.2.2.1 x.2.2.2.1 }
def A_zz28 : Cfg := mkCfg tab [] []
theorem run_zz28 (N : Nat) (x : (S_zz28).a.den) : runF (A_zz28) N Try.f124 S_zz28 x = zz28 x.1 x.2.1 x.2.2.1 x.2.2.2.1 := by kernel_rfl
theorem fn_zz28 : FnOk Try.prog 124 := ⟨_, Try.func124, by kernel_rfl, by kernel_rfl⟩
theorem good_zz28 : Gx.Good Try.prog 124 S_zz28 := vaa Try.func124 (of_decide_eq_true (by kernel_rfl)) fun x r h => ⟨A_zz28, big, vac tabOk, vab (show SigsOk Try.prog [] from trivial), (run_zz28 big x).trans h⟩
def vnk (rec : (Y5 × Z1) → Y4 → Int → Int → Z5) (k : Y4 → Z5) (so1 : (Y5 × Z1)) (list5 : Y4) (t9 t10 : Int) : Z5 :=
  cond (decide (t10 < t9))
  ((zz28 t10 so1.1 so1.2.1 so1.2.2.1).bind fun rq1 =>
  cond rq1.1
  ((appI list5 [t10]).bind fun xq2 =>
  rec so1 xq2 t9 (IntKind.i64.wrap (t10 + (1 : Int))))
  (rec so1 list5 t9 (IntKind.i64.wrap (t10 + (1 : Int)))))
  (k list5)
def vkf (list5 : Y4) : Z5 :=
  some (list5, (()))
def varx (L3 : (Y5 × Z1) → Y4 → Int → Int → Z5) (o_0 : Y5) (so_1 : (Y5 × Z1)) : Z5 :=
  L3 so_1 [] (o_0.length : Int) (0 : Int)
def vnq (N : Nat) (k : Y4 → Z5) : Nat → (Y5 × Z1) → Y4 → Int → Int → Z5
  | 0, _, _, _, _ => none
  | m + 1, so1, list5, t9, t10 => vnk (vnq N k m) k so1 list5 t9 t10
def vakf (N : Nat) (so1 : (Y5 × Z1)) (list5 : Y4) (t9 t10 : Int) : Z5 := vnq N (vkf) N so1 list5 t9 t10
def zz29 (N : Nat) (o_0 : Y5) (so_1 : (Y5 × Z1)) : Z5 := varx (vakf N) o_0 so_1
def S_zz29 : Sig := { a := (.pair (.sl (.sl .bool)) (.pair (.clo 124 0 (.pair (.ptr (.sl (.sl .bool))) (.pair (.ptr I) (.pair (.ptr I) .unit)))) .unit)), md := [0, 0], mf := [], m := .unit, r := (.sl I), rf := (.o .i), f := fun x => zz29 big x.1 x.2.1 }
def A_zz29 : Cfg := mkCfg tab [(124, S_zz28)] [(6, [.drop, .as (.clo 124 0 (.pair (.ptr (.sl (.sl .bool))) (.pair (.ptr I) (.pair (.ptr I) .unit)))) .i, .drop, .drop, .drop, .as (.sl I) (.o .i), .drop, .drop, .drop, .as I .i, .as I .i]), (17, [.drop, .drop, .drop, .drop, .drop, .as (.sl I) (.o .i)])]
noncomputable def vls (N n : Nat) (K : Ex → St → Z5) (so1 : (Y5 × Z1)) (list5 : Y4) (t9 t10 : Int) : Z5 := iter ((A_zz29).shape 6) (run (A_zz29) N (codeAt Try.f62 [1, 1, 0, 1, 0, 0])) n ([.u, .val (.clo 124 0 (.pair (.ptr (.sl (.sl .bool))) (.pair (.ptr I) (.pair (.ptr I) .unit)))) .i so1, .u, .u, .u, .val (.sl I) (.o .i) list5, .u, .u, .u, .val I .i t9, .val I .i t10] ++ List.replicate 11 .u) K
noncomputable abbrev vapu : Ex → St → Z5 := finish (A_zz29) S_zz29 Try.f62.results.toList
noncomputable abbrev vsr (kX : St → Z5) : Y4 → Z5 := fun (list5 : Y4) => kX ([.u, .u, .u, .u, .u, .val (.sl I) (.o .i) list5] ++ List.replicate 16 .u)
noncomputable abbrev vyu (kX : St → Z5) (kO : Nat → St → Z5) : Ex → St → Z5 := exK vapu 0 ((A_zz29).shape 17) kX kO
theorem vbdw (N m : Nat) (kX : St → Z5) (kO : Nat → St → Z5) (so1 : (Y5 × Z1)) (list5 : Y4) (t9 t10 : Int) : vls N (m + 1) (vyu kX kO) so1 list5 t9 t10 = vnk (vls N m (vyu kX kO)) (vsr kX) so1 list5 t9 t10 := by kernel_rfl
theorem vafk (N : Nat) (kX : St → Z5) (kO : Nat → St → Z5) : ∀ (n : Nat) (so1 : (Y5 × Z1)) (list5 : Y4) (t9 t10 : Int), vls N n (vyu kX kO) so1 list5 t9 t10 = vnq N (vsr kX) n so1 list5 t9 t10
  | 0, _, _, _, _ => rfl
  | m + 1, so1, list5, t9, t10 => by
    have hrec : vls N m (vyu kX kO) = (vnq N (vsr kX) m) := (funext fun so1 => (funext fun list5 => (funext fun t9 => (funext fun t10 => vafk N kX kO m so1 list5 t9 t10))))
    refine (vbdw N m kX kO so1 list5 t9 t10).trans ?_
    rw [hrec]
    rfl
noncomputable abbrev vajn (N : Nat) : Ex → St → Z5 := (blockK 0 (seqK ((A_zz29).shape 17) (gated ((A_zz29).shape 500008).isSome N (run (A_zz29) N (codeAt Try.f62 [1, 1, 1]))) vapu))
noncomputable abbrev vamc (N : Nat) : St → Z5 := fun st' => run (A_zz29) N (codeAt Try.f62 [1, 1, 1]) st' vapu
theorem vayn (N : Nat) (list5 : Y4) : vsr (vamc N) list5 = vkf list5 := by kernel_rfl
theorem vbif (N : Nat) (so1 : (Y5 × Z1)) (list5 : Y4) (t9 t10 : Int) : vls N N (vajn N) so1 list5 t9 t10 = vakf N so1 list5 t9 t10 :=
  have h : vsr (vamc N) = (vkf) := (funext fun list5 => vayn N list5)
  ((vad (fun st => by kernel_rfl) (fun st => by kernel_rfl)).trans (vafk N (vamc N) (fun j st => (vajn N) (.exit j) st) N so1 list5 t9 t10)).trans (congrArg (fun k => vnq N k N so1 list5 t9 t10) h)
theorem run0_zz29 (N : Nat) (x : (S_zz29).a.den) : runF (A_zz29) N Try.f62 S_zz29 x = (varx (vls N N (vajn N)) x.1 x.2.1) := by kernel_rfl
theorem run_zz29 (N : Nat) (x : (S_zz29).a.den) : runF (A_zz29) N Try.f62 S_zz29 x = zz29 N x.1 x.2.1 := by
  refine (run0_zz29 N x).trans ?_
  rw [(funext fun so1 => (funext fun list5 => (funext fun t9 => (funext fun t10 => vbif N so1 list5 t9 t10))))]
  rfl
theorem fn_zz29 : FnOk Try.prog 62 := ⟨_, Try.func62, by kernel_rfl, by kernel_rfl⟩
theorem good_zz29 : Gx.Good Try.prog 62 S_zz29 := vaa Try.func62 (of_decide_eq_true (by kernel_rfl)) fun x r h => ⟨A_zz29, big, vac tabOk, vab (show SigsOk Try.prog [(124, S_zz28)] from ⟨⟨fn_zz28, good_zz28⟩, trivial⟩), (run_zz29 big x).trans h⟩
def voi (rec : Y5 → Y3 → Int → Y4 → Int → Int → Int → Int → Z10) (k : Y5 → Y3 → Y4 → Int → Int → Z10) (o1 : Y5) (table4 : Y3) (x5 : Int) (row6 : Y4) (t11 t12 t17 t18 : Int) : Z10 :=
  cond (decide (t18 < t17))
  ((zz29 big o1 (o1, x5, t18, ())).bind fun rq1 =>
  (zz27 big o1 rq1.1).bind fun rq2 =>
  cond (decide (rq2.1 < (0 : Int)))
  (some (([], false, ()), (())))
  ((appI row6 [rq2.1]).bind fun xq3 =>
  rec o1 table4 x5 xq3 t11 t12 t17 (IntKind.i64.wrap (t18 + (1 : Int)))))
  (k o1 table4 row6 t11 t12)
def vge (rec : Y5 → Y3 → Int → Int → Z10) (o1 : Y5) (table4 : Y3) (row6 : Y4) (t11 t12 : Int) : Z10 :=
  (appI table4 [row6]).bind fun xq4 =>
  rec o1 xq4 t11 (IntKind.i64.wrap (t12 + (1 : Int)))
def von (L7 : Y5 → Y3 → Int → Y4 → Int → Int → Int → Int → Z10) (k : Y3 → Z10) (o1 : Y5) (table4 : Y3) (t11 t12 : Int) : Z10 :=
  cond (decide (t12 < t11))
  (L7 o1 table4 t12 [] t11 t12 (o1.length : Int) (0 : Int))
  (k table4)
def vcp (table4 : Y3) : Z10 :=
  some ((table4, true, ()), (()))
def vatx (L3 : Y5 → Y3 → Int → Int → Z10) (o_0 : Y5) : Z10 :=
  L3 o_0 [] (o_0.length : Int) (0 : Int)
def vmx (N : Nat) (k : Y5 → Y3 → Y4 → Int → Int → Z10) : Nat → Y5 → Y3 → Int → Y4 → Int → Int → Int → Int → Z10
  | 0, _, _, _, _, _, _, _, _ => none
  | m + 1, o1, table4, x5, row6, t11, t12, t17, t18 => voi (vmx N k m) k o1 table4 x5 row6 t11 t12 t17 t18
def vst (N : Nat) (rec : Y5 → Y3 → Int → Int → Z10) (k : Y3 → Z10) (o1 : Y5) (table4 : Y3) (x5 : Int) (row6 : Y4) (t11 t12 t17 t18 : Int) : Z10 := vmx N (vge rec) N o1 table4 x5 row6 t11 t12 t17 t18
def viu (N : Nat) (k : Y3 → Z10) : Nat → Y5 → Y3 → Int → Int → Z10
  | 0, _, _, _, _ => none
  | m + 1, o1, table4, t11, t12 => von (vst N (viu N k m) k) k o1 table4 t11 t12
def vags (N : Nat) (o1 : Y5) (table4 : Y3) (t11 t12 : Int) : Z10 := viu N (vcp) N o1 table4 t11 t12
def zz30 (N : Nat) (o_0 : Y5) : Z10 := vatx (vags N) o_0
def S_zz30 : Sig := { a := (.pair (.sl (.sl .bool)) .unit), md := [0], mf := [], m := .unit, r := (.tup (.pair (.sl (.sl I)) (.pair .bool .unit))), rf := (.p (.o (.o .i)) .i), f := fun x => zz30 big x.1 }
def A_zz30 : Cfg := mkCfg tab [(62, S_zz29), (123, S_zz27)] [(6, [.drop, .as (.ptr (.sl (.sl .bool))) .i, .drop, .drop, .as (.sl (.sl I)) (.o (.o .i)), .drop, .drop, .drop, .drop, .drop, .drop, .as I .i, .as I .i]), (14, [.drop, .as (.ptr (.sl (.sl .bool))) .i, .drop, .drop, .as (.sl (.sl I)) (.o (.o .i)), .as (.ptr I) .i, .as (.sl I) (.o .i), .drop, .drop, .drop, .drop, .as I .i, .as I .i, .drop, .drop, .drop, .drop, .as I .i, .as I .i]), (33, [.drop, .drop, .drop, .drop, .as (.sl (.sl I)) (.o (.o .i))]), (19, [.drop, .as (.ptr (.sl (.sl .bool))) .i, .drop, .drop, .as (.sl (.sl I)) (.o (.o .i)), .as (.ptr I) .i, .as (.sl I) (.o .i), .as (.ptr I) .i, .drop, .drop, .drop, .as I .i, .as I .i, .drop, .drop, .drop, .drop, .as I .i, .as I .i]), (29, [.drop, .as (.ptr (.sl (.sl .bool))) .i, .drop, .drop, .as (.sl (.sl I)) (.o (.o .i)), .drop, .as (.sl I) (.o .i), .drop, .drop, .drop, .drop, .as I .i, .as I .i])]
noncomputable def vib (N n : Nat) (K : Ex → St → Z10) (o1 : Y5) (table4 : Y3) (t11 t12 : Int) : Z10 := iter ((A_zz30).shape 6) (run (A_zz30) N (codeAt Try.f99 [1, 1, 0, 1, 0, 0])) n ([.u, .val (.ptr (.sl (.sl .bool))) .i o1, .u, .u, .val (.sl (.sl I)) (.o (.o .i)) table4, .u, .u, .u, .u, .u, .u, .val I .i t11, .val I .i t12] ++ List.replicate 26 .u) K
noncomputable def vpd (N n : Nat) (K : Ex → St → Z10) (o1 : Y5) (table4 : Y3) (x5 : Int) (row6 : Y4) (t11 t12 t17 t18 : Int) : Z10 := iter ((A_zz30).shape 14) (run (A_zz30) N (codeAt Try.f99 [1, 1, 0, 1, 0, 0, 1, 1, 0, 0, 1, 1, 0, 1, 0, 0])) n ([.u, .val (.ptr (.sl (.sl .bool))) .i o1, .u, .u, .val (.sl (.sl I)) (.o (.o .i)) table4, .val (.ptr I) .i x5, .val (.sl I) (.o .i) row6, .u, .u, .u, .u, .val I .i t11, .val I .i t12, .u, .u, .u, .u, .val I .i t17, .val I .i t18] ++ List.replicate 20 .u) K
noncomputable abbrev vafs : Ex → St → Z10 := finish (A_zz30) S_zz30 Try.f99.results.toList
noncomputable abbrev vif (kX : St → Z10) : Y3 → Z10 := fun (table4 : Y3) => kX ([.u, .u, .u, .u, .val (.sl (.sl I)) (.o (.o .i)) table4] ++ List.replicate 34 .u)
noncomputable abbrev vey (kX : St → Z10) (kO : Nat → St → Z10) : Ex → St → Z10 := exK vafs 0 ((A_zz30).shape 33) kX kO
noncomputable abbrev vtr (kX : St → Z10) : Y5 → Y3 → Y4 → Int → Int → Z10 := fun (o1 : Y5) (table4 : Y3) (row6 : Y4) (t11 t12 : Int) => kX ([.u, .val (.ptr (.sl (.sl .bool))) .i o1, .u, .u, .val (.sl (.sl I)) (.o (.o .i)) table4, .u, .val (.sl I) (.o .i) row6, .u, .u, .u, .u, .val I .i t11, .val I .i t12] ++ List.replicate 26 .u)
noncomputable abbrev vyk (kX : St → Z10) (kO : Nat → St → Z10) : Ex → St → Z10 := exK vafs 2 ((A_zz30).shape 29) kX kO
theorem vbck (N m : Nat) (kX : St → Z10) (kO : Nat → St → Z10) (o1 : Y5) (table4 : Y3) (x5 : Int) (row6 : Y4) (t11 t12 t17 t18 : Int) : vpd N (m + 1) (vyk kX kO) o1 table4 x5 row6 t11 t12 t17 t18 = voi (vpd N m (vyk kX kO)) (vtr kX) o1 table4 x5 row6 t11 t12 t17 t18 := by kernel_rfl
theorem vafg (N : Nat) (kX : St → Z10) (kO : Nat → St → Z10) : ∀ (n : Nat) (o1 : Y5) (table4 : Y3) (x5 : Int) (row6 : Y4) (t11 t12 t17 t18 : Int), vpd N n (vyk kX kO) o1 table4 x5 row6 t11 t12 t17 t18 = vmx N (vtr kX) n o1 table4 x5 row6 t11 t12 t17 t18
  | 0, _, _, _, _, _, _, _, _ => rfl
  | m + 1, o1, table4, x5, row6, t11, t12, t17, t18 => by
    have hrec : vpd N m (vyk kX kO) = (vmx N (vtr kX) m) := (funext fun o1 => (funext fun table4 => (funext fun x5 => (funext fun row6 => (funext fun t11 => (funext fun t12 => (funext fun t17 => (funext fun t18 => vafg N kX kO m o1 table4 x5 row6 t11 t12 t17 t18))))))))
    refine (vbck N m kX kO o1 table4 x5 row6 t11 t12 t17 t18).trans ?_
    rw [hrec]
    rfl
noncomputable abbrev vaid (N m : Nat) (kX : St → Z10) (kO : Nat → St → Z10) : Ex → St → Z10 := (blockK 2 (seqK ((A_zz30).shape 29) (gated ((A_zz30).shape 500014).isSome N (run (A_zz30) N (codeAt Try.f99 [1, 1, 0, 1, 0, 0, 1, 1, 0, 0, 1, 1, 1]))) (blockK 1 (seqK ((A_zz30).shape 31) (gated ((A_zz30).shape 500015).isSome N (run (A_zz30) N (codeAt Try.f99 [1, 1, 0, 1, 0, 0, 1, 1, 1]))) (iterK ((A_zz30).shape 6) (run (A_zz30) N (codeAt Try.f99 [1, 1, 0, 1, 0, 0])) m (vey kX kO))))))
noncomputable abbrev vaio (N m : Nat) (kX : St → Z10) (kO : Nat → St → Z10) : St → Z10 := fun st' => run (A_zz30) N (codeAt Try.f99 [1, 1, 0, 1, 0, 0, 1, 1, 0, 0, 1, 1, 1]) st' (blockK 1 (seqK ((A_zz30).shape 31) (gated ((A_zz30).shape 500015).isSome N (run (A_zz30) N (codeAt Try.f99 [1, 1, 0, 1, 0, 0, 1, 1, 1]))) (iterK ((A_zz30).shape 6) (run (A_zz30) N (codeAt Try.f99 [1, 1, 0, 1, 0, 0])) m (vey kX kO))))
theorem vaxz (N m : Nat) (kX : St → Z10) (kO : Nat → St → Z10) (o1 : Y5) (table4 : Y3) (row6 : Y4) (t11 t12 : Int) : vtr (vaio N m kX kO) o1 table4 row6 t11 t12 = vge (vib N m (vey kX kO)) o1 table4 row6 t11 t12 := by kernel_rfl
theorem vbkn (N m : Nat) (kX : St → Z10) (kO : Nat → St → Z10) (recF : Y5 → Y3 → Int → Int → Z10) (hrec : vib N m (vey kX kO) = recF) (o1 : Y5) (table4 : Y3) (x5 : Int) (row6 : Y4) (t11 t12 t17 t18 : Int) : vpd N N (vaid N m kX kO) o1 table4 x5 row6 t11 t12 t17 t18 = vst N recF (vif kX) o1 table4 x5 row6 t11 t12 t17 t18 :=
  have h : vtr (vaio N m kX kO) = (vge recF) := (funext fun o1 => (funext fun table4 => (funext fun row6 => (funext fun t11 => (funext fun t12 => (vaxz N m kX kO o1 table4 row6 t11 t12).trans (by rw [hrec]))))))
  ((vad (fun st => by kernel_rfl) (fun st => by kernel_rfl)).trans (vafg N (vaio N m kX kO) (fun j st => (vaid N m kX kO) (.exit j) st) N o1 table4 x5 row6 t11 t12 t17 t18)).trans (congrArg (fun k => vmx N k N o1 table4 x5 row6 t11 t12 t17 t18) h)
theorem vbdg (N m : Nat) (kX : St → Z10) (kO : Nat → St → Z10) (o1 : Y5) (table4 : Y3) (t11 t12 : Int) : vib N (m + 1) (vey kX kO) o1 table4 t11 t12 = von (vpd N N (vaid N m kX kO)) (vif kX) o1 table4 t11 t12 := by kernel_rfl
theorem vafe (N : Nat) (kX : St → Z10) (kO : Nat → St → Z10) : ∀ (n : Nat) (o1 : Y5) (table4 : Y3) (t11 t12 : Int), vib N n (vey kX kO) o1 table4 t11 t12 = viu N (vif kX) n o1 table4 t11 t12
  | 0, _, _, _, _ => rfl
  | m + 1, o1, table4, t11, t12 => by
    have hrec : vib N m (vey kX kO) = (viu N (vif kX) m) := (funext fun o1 => (funext fun table4 => (funext fun t11 => (funext fun t12 => vafe N kX kO m o1 table4 t11 t12))))
    refine (vbdg N m kX kO o1 table4 t11 t12).trans ?_
    rw [(funext fun o1 => (funext fun table4 => (funext fun x5 => (funext fun row6 => (funext fun t11 => (funext fun t12 => (funext fun t17 => (funext fun t18 => vbkn N m kX kO (viu N (vif kX) m) hrec o1 table4 x5 row6 t11 t12 t17 t18))))))))]
    rfl
noncomputable abbrev valr (N : Nat) : Ex → St → Z10 := (blockK 0 (seqK ((A_zz30).shape 33) (gated ((A_zz30).shape 500016).isSome N (run (A_zz30) N (codeAt Try.f99 [1, 1, 1]))) vafs))
noncomputable abbrev vahi (N : Nat) : St → Z10 := fun st' => run (A_zz30) N (codeAt Try.f99 [1, 1, 1]) st' vafs
theorem vayg (N : Nat) (table4 : Y3) : vif (vahi N) table4 = vcp table4 := by kernel_rfl
theorem vbkb (N : Nat) (o1 : Y5) (table4 : Y3) (t11 t12 : Int) : vib N N (valr N) o1 table4 t11 t12 = vags N o1 table4 t11 t12 :=
  have h : vif (vahi N) = (vcp) := (funext fun table4 => vayg N table4)
  ((vad (fun st => by kernel_rfl) (fun st => by kernel_rfl)).trans (vafe N (vahi N) (fun j st => (valr N) (.exit j) st) N o1 table4 t11 t12)).trans (congrArg (fun k => viu N k N o1 table4 t11 t12) h)
theorem run0_zz30 (N : Nat) (x : (S_zz30).a.den) : runF (A_zz30) N Try.f99 S_zz30 x = (vatx (vib N N (valr N)) x.1) := by kernel_rfl
theorem run_zz30 (N : Nat) (x : (S_zz30).a.den) : runF (A_zz30) N Try.f99 S_zz30 x = zz30 N x.1 := by
  refine (run0_zz30 N x).trans ?_
  rw [(funext fun o1 => (funext fun table4 => (funext fun t11 => (funext fun t12 => vbkb N o1 table4 t11 t12))))]
  rfl
theorem fn_zz30 : FnOk Try.prog 99 := ⟨_, Try.func99, by kernel_rfl, by kernel_rfl⟩
theorem good_zz30 : Gx.Good Try.prog 99 S_zz30 := vaa Try.func99 (of_decide_eq_true (by kernel_rfl)) fun x r h => ⟨A_zz30, big, vac tabOk, vab (show SigsOk Try.prog [(62, S_zz29), (123, S_zz27)] from ⟨⟨fn_zz29, good_zz29⟩, ⟨fn_zz27, good_zz27⟩, trivial⟩), (run_zz30 big x).trans h⟩
def vlk (rec : Y5 → Y5 → Int → Int → Int → Int → Int → Z11) (k : Y5 → Y5 → Int → Int → Z11) (o0 d3 : Y5) (x4 t10 t11 t15 t16 : Int) : Z11 :=
  cond (decide (t16 < t15))
  ((atI d3 x4).bind fun _ =>
  (d3[x4.toNat]?).bind fun xq2 =>
  (atI o0 t16).bind fun xq3 =>
  (atI xq3 x4).bind fun xq4 =>
  (d3[x4.toNat]?).bind fun xq5 =>
  (atI xq5 t16).bind fun _ =>
  (d3[x4.toNat]?).bind fun xq6 =>
  (xq6[t16.toNat]?).bind fun xq7 =>
  rec o0 (d3.set x4.toNat (xq6.set t16.toNat xq4)) x4 t10 t11 t15 (IntKind.i64.wrap (t16 + (1 : Int))))
  (k o0 d3 t10 t11)
def vir (rec : Y5 → Y5 → Int → Int → Z11) (o0 d3 : Y5) (t10 t11 : Int) : Z11 :=
  rec o0 d3 t10 (IntKind.i64.wrap (t11 + (1 : Int)))
def vmd (L6 : Y5 → Y5 → Int → Int → Int → Int → Int → Z11) (k : Y5 → Z11) (o0 d3 : Y5) (t10 t11 : Int) : Z11 :=
  cond (decide (t11 < t10))
  (L6 o0 d3 t11 t10 t11 (o0.length : Int) (0 : Int))
  (k d3)
def vcr (d3 : Y5) : Z11 :=
  some (d3, (()))
def varj (L3 : Y5 → Y5 → Int → Int → Z11) (o_0 : Y5) : Z11 :=
  (zz22 big (o_0.length : Int)).bind fun rq1 =>
  L3 o_0 rq1.1 (o_0.length : Int) (0 : Int)
def vps (N : Nat) (k : Y5 → Y5 → Int → Int → Z11) : Nat → Y5 → Y5 → Int → Int → Int → Int → Int → Z11
  | 0, _, _, _, _, _, _, _ => none
  | m + 1, o0, d3, x4, t10, t11, t15, t16 => vlk (vps N k m) k o0 d3 x4 t10 t11 t15 t16
def vtt (N : Nat) (rec : Y5 → Y5 → Int → Int → Z11) (k : Y5 → Z11) (o0 d3 : Y5) (x4 t10 t11 t15 t16 : Int) : Z11 := vps N (vir rec) N o0 d3 x4 t10 t11 t15 t16
def vki (N : Nat) (k : Y5 → Z11) : Nat → Y5 → Y5 → Int → Int → Z11
  | 0, _, _, _, _ => none
  | m + 1, o0, d3, t10, t11 => vmd (vtt N (vki N k m) k) k o0 d3 t10 t11
def vagv (N : Nat) (o0 d3 : Y5) (t10 t11 : Int) : Z11 := vki N (vcr) N o0 d3 t10 t11
def zz31 (N : Nat) (o_0 : Y5) : Z11 := varj (vagv N) o_0
def S_zz31 : Sig := { a := (.pair (.sl (.sl .bool)) .unit), md := [0], mf := [], m := .unit, r := (.sl (.sl .bool)), rf := (.o (.o .i)), f := fun x => zz31 big x.1 }
def A_zz31 : Cfg := mkCfg tab [(109, S_zz22)] [(6, [.as (.sl (.sl .bool)) .i, .drop, .drop, .as (.sl (.sl .bool)) (.o (.o .i)), .drop, .drop, .drop, .drop, .drop, .drop, .as I .i, .as I .i]), (12, [.as (.sl (.sl .bool)) .i, .drop, .drop, .as (.sl (.sl .bool)) (.o (.o .i)), .as I .i, .drop, .drop, .drop, .drop, .drop, .as I .i, .as I .i, .drop, .drop, .drop, .as I .i, .as I .i]), (23, [.drop, .drop, .drop, .as (.sl (.sl .bool)) (.o (.o .i))]), (21, [.as (.sl (.sl .bool)) .i, .drop, .drop, .as (.sl (.sl .bool)) (.o (.o .i)), .drop, .drop, .drop, .drop, .drop, .drop, .as I .i, .as I .i])]
noncomputable def vjv (N n : Nat) (K : Ex → St → Z11) (o0 d3 : Y5) (t10 t11 : Int) : Z11 := iter ((A_zz31).shape 6) (run (A_zz31) N (codeAt Try.f100 [1, 1, 0, 1, 0, 0])) n ([.val (.sl (.sl .bool)) .i o0, .u, .u, .val (.sl (.sl .bool)) (.o (.o .i)) d3, .u, .u, .u, .u, .u, .u, .val I .i t10, .val I .i t11] ++ List.replicate 23 .u) K
noncomputable def vmz (N n : Nat) (K : Ex → St → Z11) (o0 d3 : Y5) (x4 t10 t11 t15 t16 : Int) : Z11 := iter ((A_zz31).shape 12) (run (A_zz31) N (codeAt Try.f100 [1, 1, 0, 1, 0, 0, 1, 1, 0, 0, 1, 1, 0, 0])) n ([.val (.sl (.sl .bool)) .i o0, .u, .u, .val (.sl (.sl .bool)) (.o (.o .i)) d3, .val I .i x4, .u, .u, .u, .u, .u, .val I .i t10, .val I .i t11, .u, .u, .u, .val I .i t15, .val I .i t16] ++ List.replicate 18 .u) K
noncomputable abbrev vaem : Ex → St → Z11 := finish (A_zz31) S_zz31 Try.f100.results.toList
noncomputable abbrev vii (kX : St → Z11) : Y5 → Z11 := fun (d3 : Y5) => kX ([.u, .u, .u, .val (.sl (.sl .bool)) (.o (.o .i)) d3] ++ List.replicate 31 .u)
noncomputable abbrev vhh (kX : St → Z11) (kO : Nat → St → Z11) : Ex → St → Z11 := exK vaem 0 ((A_zz31).shape 23) kX kO
noncomputable abbrev vss (kX : St → Z11) : Y5 → Y5 → Int → Int → Z11 := fun (o0 d3 : Y5) (t10 t11 : Int) => kX ([.val (.sl (.sl .bool)) .i o0, .u, .u, .val (.sl (.sl .bool)) (.o (.o .i)) d3, .u, .u, .u, .u, .u, .u, .val I .i t10, .val I .i t11] ++ List.replicate 23 .u)
noncomputable abbrev vzp (kX : St → Z11) (kO : Nat → St → Z11) : Ex → St → Z11 := exK vaem 2 ((A_zz31).shape 21) kX kO
theorem vbdu (N m : Nat) (kX : St → Z11) (kO : Nat → St → Z11) (o0 d3 : Y5) (x4 t10 t11 t15 t16 : Int) : vmz N (m + 1) (vzp kX kO) o0 d3 x4 t10 t11 t15 t16 = vlk (vmz N m (vzp kX kO)) (vss kX) o0 d3 x4 t10 t11 t15 t16 := by kernel_rfl
theorem vacl (N : Nat) (kX : St → Z11) (kO : Nat → St → Z11) : ∀ (n : Nat) (o0 d3 : Y5) (x4 t10 t11 t15 t16 : Int), vmz N n (vzp kX kO) o0 d3 x4 t10 t11 t15 t16 = vps N (vss kX) n o0 d3 x4 t10 t11 t15 t16
  | 0, _, _, _, _, _, _, _ => rfl
  | m + 1, o0, d3, x4, t10, t11, t15, t16 => by
    have hrec : vmz N m (vzp kX kO) = (vps N (vss kX) m) := (funext fun o0 => (funext fun d3 => (funext fun x4 => (funext fun t10 => (funext fun t11 => (funext fun t15 => (funext fun t16 => vacl N kX kO m o0 d3 x4 t10 t11 t15 t16)))))))
    refine (vbdu N m kX kO o0 d3 x4 t10 t11 t15 t16).trans ?_
    rw [hrec]
    rfl
noncomputable abbrev vajv (N m : Nat) (kX : St → Z11) (kO : Nat → St → Z11) : Ex → St → Z11 := (blockK 2 (blockK 1 (seqK ((A_zz31).shape 21) (gated ((A_zz31).shape 500010).isSome N (run (A_zz31) N (codeAt Try.f100 [1, 1, 0, 1, 0, 0, 1, 1, 1]))) (iterK ((A_zz31).shape 6) (run (A_zz31) N (codeAt Try.f100 [1, 1, 0, 1, 0, 0])) m (vhh kX kO)))))
noncomputable abbrev vakc (N m : Nat) (kX : St → Z11) (kO : Nat → St → Z11) : St → Z11 := fun st' => run (A_zz31) N (codeAt Try.f100 [1, 1, 0, 1, 0, 0, 1, 1, 1]) st' (iterK ((A_zz31).shape 6) (run (A_zz31) N (codeAt Try.f100 [1, 1, 0, 1, 0, 0])) m (vhh kX kO))
theorem vawa (N m : Nat) (kX : St → Z11) (kO : Nat → St → Z11) (o0 d3 : Y5) (t10 t11 : Int) : vss (vakc N m kX kO) o0 d3 t10 t11 = vir (vjv N m (vhh kX kO)) o0 d3 t10 t11 := by kernel_rfl
theorem vbkm (N m : Nat) (kX : St → Z11) (kO : Nat → St → Z11) (recF : Y5 → Y5 → Int → Int → Z11) (hrec : vjv N m (vhh kX kO) = recF) (o0 d3 : Y5) (x4 t10 t11 t15 t16 : Int) : vmz N N (vajv N m kX kO) o0 d3 x4 t10 t11 t15 t16 = vtt N recF (vii kX) o0 d3 x4 t10 t11 t15 t16 :=
  have h : vss (vakc N m kX kO) = (vir recF) := (funext fun o0 => (funext fun d3 => (funext fun t10 => (funext fun t11 => (vawa N m kX kO o0 d3 t10 t11).trans (by rw [hrec])))))
  ((vad (fun st => by kernel_rfl) (fun st => by kernel_rfl)).trans (vacl N (vakc N m kX kO) (fun j st => (vajv N m kX kO) (.exit j) st) N o0 d3 x4 t10 t11 t15 t16)).trans (congrArg (fun k => vps N k N o0 d3 x4 t10 t11 t15 t16) h)
theorem vbdj (N m : Nat) (kX : St → Z11) (kO : Nat → St → Z11) (o0 d3 : Y5) (t10 t11 : Int) : vjv N (m + 1) (vhh kX kO) o0 d3 t10 t11 = vmd (vmz N N (vajv N m kX kO)) (vii kX) o0 d3 t10 t11 := by kernel_rfl
theorem vaek (N : Nat) (kX : St → Z11) (kO : Nat → St → Z11) : ∀ (n : Nat) (o0 d3 : Y5) (t10 t11 : Int), vjv N n (vhh kX kO) o0 d3 t10 t11 = vki N (vii kX) n o0 d3 t10 t11
  | 0, _, _, _, _ => rfl
  | m + 1, o0, d3, t10, t11 => by
    have hrec : vjv N m (vhh kX kO) = (vki N (vii kX) m) := (funext fun o0 => (funext fun d3 => (funext fun t10 => (funext fun t11 => vaek N kX kO m o0 d3 t10 t11))))
    refine (vbdj N m kX kO o0 d3 t10 t11).trans ?_
    rw [(funext fun o0 => (funext fun d3 => (funext fun x4 => (funext fun t10 => (funext fun t11 => (funext fun t15 => (funext fun t16 => vbkm N m kX kO (vki N (vii kX) m) hrec o0 d3 x4 t10 t11 t15 t16)))))))]
    rfl
noncomputable abbrev vajs (N : Nat) : Ex → St → Z11 := (blockK 0 (seqK ((A_zz31).shape 23) (gated ((A_zz31).shape 500011).isSome N (run (A_zz31) N (codeAt Try.f100 [1, 1, 1]))) vaem))
noncomputable abbrev vami (N : Nat) : St → Z11 := fun st' => run (A_zz31) N (codeAt Try.f100 [1, 1, 1]) st' vaem
theorem vaxu (N : Nat) (d3 : Y5) : vii (vami N) d3 = vcr d3 := by kernel_rfl
theorem vbjl (N : Nat) (o0 d3 : Y5) (t10 t11 : Int) : vjv N N (vajs N) o0 d3 t10 t11 = vagv N o0 d3 t10 t11 :=
  have h : vii (vami N) = (vcr) := (funext fun d3 => vaxu N d3)
  ((vad (fun st => by kernel_rfl) (fun st => by kernel_rfl)).trans (vaek N (vami N) (fun j st => (vajs N) (.exit j) st) N o0 d3 t10 t11)).trans (congrArg (fun k => vki N k N o0 d3 t10 t11) h)
theorem run0_zz31 (N : Nat) (x : (S_zz31).a.den) : runF (A_zz31) N Try.f100 S_zz31 x = (varj (vjv N N (vajs N)) x.1) := by kernel_rfl
theorem run_zz31 (N : Nat) (x : (S_zz31).a.den) : runF (A_zz31) N Try.f100 S_zz31 x = zz31 N x.1 := by
  refine (run0_zz31 N x).trans ?_
  rw [(funext fun o0 => (funext fun d3 => (funext fun t10 => (funext fun t11 => vbjl N o0 d3 t10 t11))))]
  rfl
theorem fn_zz31 : FnOk Try.prog 100 := ⟨_, Try.func100, by kernel_rfl, by kernel_rfl⟩
theorem good_zz31 : Gx.Good Try.prog 100 S_zz31 := vaa Try.func100 (of_decide_eq_true (by kernel_rfl)) fun x r h => ⟨A_zz31, big, vac tabOk, vab (show SigsOk Try.prog [(109, S_zz22)] from ⟨⟨fn_zz22, good_zz22⟩, trivial⟩), (run_zz31 big x).trans h⟩
def vadq (p_0 : Y2) : Option ((Y1 × (Bool × Unit)) × Unit) :=
  (zz26 big p_0).bind fun rq1 =>
  cond (!((((), rq1.1.2).2).1))
  (some ((none, false, ()), (())))
  (cond (decide ((rq1.1.1.length : Int) = (0 : Int)))
  (some ((none, false, ()), (())))
  ((zz30 big rq1.1.1).bind fun rq2 =>
  (zz31 big rq1.1.1).bind fun rq3 =>
  (zz30 big rq3.1).bind fun rq4 =>
  cond ((((), rq2.1.2).2).1)
  (some ((some (rq1.1.1, (rq2.1.1, (rq4.1.1, ()))), (((), rq4.1.2).2).1, ()), (())))
  (some ((some (rq1.1.1, (rq2.1.1, (rq4.1.1, ()))), false, ()), (())))))
def zz32 (p_0 : Y2) : Option ((Y1 × (Bool × Unit)) × Unit) := vadq p_0
def S_zz32 : Sig := { a := (.pair (.pair (.sl (.sl I)) .unit) .unit), md := [0], mf := [], m := .unit, r := (.tup (.pair (.opt (.pair (.sl (.sl .bool)) (.pair (.sl (.sl I)) (.pair (.sl (.sl I)) .unit)))) (.pair .bool .unit))), rf := .i, f := fun x => zz32 x.1 }
def A_zz32 : Cfg := mkCfg tab [(58, S_zz26), (99, S_zz30), (100, S_zz31)] []
theorem run_zz32 (N : Nat) (x : (S_zz32).a.den) : runF (A_zz32) N Try.f51 S_zz32 x = zz32 x.1 := by kernel_rfl
theorem fn_zz32 : FnOk Try.prog 51 := ⟨_, Try.func51, by kernel_rfl, by kernel_rfl⟩
theorem good_zz32 : Gx.Good Try.prog 51 S_zz32 := vaa Try.func51 (of_decide_eq_true (by kernel_rfl)) fun x r h => ⟨A_zz32, big, vac tabOk, vab (show SigsOk Try.prog [(58, S_zz26), (99, S_zz30), (100, S_zz31)] from ⟨⟨fn_zz26, good_zz26⟩, ⟨fn_zz30, good_zz30⟩, ⟨fn_zz31, good_zz31⟩, trivial⟩), (run_zz32 big x).trans h⟩
def vqf (rec : Y1 → Int → Int → Int → Z6) (k : Int → Z6) (l0 : Y1) (b3 t9 t10 : Int) : Z6 :=
  cond (decide (t10 < t9))
  ((l0).bind fun xq2 =>
  (atI xq2.2.1 b3).bind fun xq3 =>
  (atI xq3 t10).bind fun xq4 =>
  rec l0 xq4 t9 (IntKind.i64.wrap (t10 + (1 : Int))))
  (k b3)
def vkl (b3 : Int) : Z6 :=
  some (b3, (()))
def vatp (L3 : Y1 → Int → Int → Int → Z6) (l_0 : Y1) : Z6 :=
  (l_0).bind fun xq1 =>
  L3 l_0 (0 : Int) (xq1.1.length : Int) (0 : Int)
def vpq (N : Nat) (k : Int → Z6) : Nat → Y1 → Int → Int → Int → Z6
  | 0, _, _, _, _ => none
  | m + 1, l0, b3, t9, t10 => vqf (vpq N k m) k l0 b3 t9 t10
def vaiz (N : Nat) (l0 : Y1) (b3 t9 t10 : Int) : Z6 := vpq N (vkl) N l0 b3 t9 t10
def zz33 (N : Nat) (l_0 : Y1) : Z6 := vatp (vaiz N) l_0
def S_zz33 : Sig := { a := (.pair (.opt (.pair (.sl (.sl .bool)) (.pair (.sl (.sl I)) (.pair (.sl (.sl I)) .unit)))) .unit), md := [0], mf := [], m := .unit, r := I, rf := .i, f := fun x => zz33 big x.1 }
def A_zz33 : Cfg := mkCfg tab [] [(6, [.as (.opt (.pair (.sl (.sl .bool)) (.pair (.sl (.sl I)) (.pair (.sl (.sl I)) .unit)))) .i, .drop, .drop, .as I .i, .drop, .drop, .drop, .drop, .drop, .as I .i, .as I .i]), (15, [.drop, .drop, .drop, .as I .i])]
noncomputable def voq (N n : Nat) (K : Ex → St → Z6) (l0 : Y1) (b3 t9 t10 : Int) : Z6 := iter ((A_zz33).shape 6) (run (A_zz33) N (codeAt Try.f114 [1, 1, 0, 1, 0, 0])) n ([.val (.opt (.pair (.sl (.sl .bool)) (.pair (.sl (.sl I)) (.pair (.sl (.sl I)) .unit)))) .i l0, .u, .u, .val I .i b3, .u, .u, .u, .u, .u, .val I .i t9, .val I .i t10] ++ List.replicate 14 .u) K
noncomputable abbrev vatj : Ex → St → Z6 := finish (A_zz33) S_zz33 Try.f114.results.toList
noncomputable abbrev vsh (kX : St → Z6) : Int → Z6 := fun (b3 : Int) => kX ([.u, .u, .u, .val I .i b3] ++ List.replicate 21 .u)
noncomputable abbrev vyq (kX : St → Z6) (kO : Nat → St → Z6) : Ex → St → Z6 := exK vatj 0 ((A_zz33).shape 15) kX kO
theorem vbdm (N m : Nat) (kX : St → Z6) (kO : Nat → St → Z6) (l0 : Y1) (b3 t9 t10 : Int) : voq N (m + 1) (vyq kX kO) l0 b3 t9 t10 = vqf (voq N m (vyq kX kO)) (vsh kX) l0 b3 t9 t10 := by kernel_rfl
theorem vaey (N : Nat) (kX : St → Z6) (kO : Nat → St → Z6) : ∀ (n : Nat) (l0 : Y1) (b3 t9 t10 : Int), voq N n (vyq kX kO) l0 b3 t9 t10 = vpq N (vsh kX) n l0 b3 t9 t10
  | 0, _, _, _, _ => rfl
  | m + 1, l0, b3, t9, t10 => by
    have hrec : voq N m (vyq kX kO) = (vpq N (vsh kX) m) := (funext fun l0 => (funext fun b3 => (funext fun t9 => (funext fun t10 => vaey N kX kO m l0 b3 t9 t10))))
    refine (vbdm N m kX kO l0 b3 t9 t10).trans ?_
    rw [hrec]
    rfl
noncomputable abbrev vagk (N : Nat) : Ex → St → Z6 := (blockK 0 (seqK ((A_zz33).shape 15) (gated ((A_zz33).shape 500007).isSome N (run (A_zz33) N (codeAt Try.f114 [1, 1, 1]))) vatj))
noncomputable abbrev vamx (N : Nat) : St → Z6 := fun st' => run (A_zz33) N (codeAt Try.f114 [1, 1, 1]) st' vatj
theorem vawp (N : Nat) (b3 : Int) : vsh (vamx N) b3 = vkl b3 := by kernel_rfl
theorem vbjt (N : Nat) (l0 : Y1) (b3 t9 t10 : Int) : voq N N (vagk N) l0 b3 t9 t10 = vaiz N l0 b3 t9 t10 :=
  have h : vsh (vamx N) = (vkl) := (funext fun b3 => vawp N b3)
  ((vad (fun st => by kernel_rfl) (fun st => by kernel_rfl)).trans (vaey N (vamx N) (fun j st => (vagk N) (.exit j) st) N l0 b3 t9 t10)).trans (congrArg (fun k => vpq N k N l0 b3 t9 t10) h)
theorem run0_zz33 (N : Nat) (x : (S_zz33).a.den) : runF (A_zz33) N Try.f114 S_zz33 x = (vatp (voq N N (vagk N)) x.1) := by kernel_rfl
theorem run_zz33 (N : Nat) (x : (S_zz33).a.den) : runF (A_zz33) N Try.f114 S_zz33 x = zz33 N x.1 := by
  refine (run0_zz33 N x).trans ?_
  rw [(funext fun l0 => (funext fun b3 => (funext fun t9 => (funext fun t10 => vbjt N l0 b3 t9 t10))))]
  rfl
theorem fn_zz33 : FnOk Try.prog 114 := ⟨_, Try.func114, by kernel_rfl, by kernel_rfl⟩
theorem good_zz33 : Gx.Good Try.prog 114 S_zz33 := vaa Try.func114 (of_decide_eq_true (by kernel_rfl)) fun x r h => ⟨A_zz33, big, vac tabOk, vab (show SigsOk Try.prog [] from trivial), (run_zz33 big x).trans h⟩
def vmy (rec : Y1 → Int → Int → Int → Z6) (k : Int → Z6) (l0 : Y1) (t3 t9 t10 : Int) : Z6 :=
  cond (decide (t10 < t9))
  ((l0).bind fun xq2 =>
  (atI xq2.2.2.1 t3).bind fun xq3 =>
  (atI xq3 t10).bind fun xq4 =>
  rec l0 xq4 t9 (IntKind.i64.wrap (t10 + (1 : Int))))
  (k t3)
def vhl (t3 : Int) : Z6 :=
  some (t3, (()))
def vatk (L3 : Y1 → Int → Int → Int → Z6) (l_0 : Y1) : Z6 :=
  (l_0).bind fun xq1 =>
  L3 l_0 (0 : Int) (xq1.1.length : Int) (0 : Int)
def vnm (N : Nat) (k : Int → Z6) : Nat → Y1 → Int → Int → Int → Z6
  | 0, _, _, _, _ => none
  | m + 1, l0, t3, t9, t10 => vmy (vnm N k m) k l0 t3 t9 t10
def vajj (N : Nat) (l0 : Y1) (t3 t9 t10 : Int) : Z6 := vnm N (vhl) N l0 t3 t9 t10
def zz34 (N : Nat) (l_0 : Y1) : Z6 := vatk (vajj N) l_0
def S_zz34 : Sig := { a := (.pair (.opt (.pair (.sl (.sl .bool)) (.pair (.sl (.sl I)) (.pair (.sl (.sl I)) .unit)))) .unit), md := [0], mf := [], m := .unit, r := I, rf := .i, f := fun x => zz34 big x.1 }
def A_zz34 : Cfg := mkCfg tab [] [(6, [.as (.opt (.pair (.sl (.sl .bool)) (.pair (.sl (.sl I)) (.pair (.sl (.sl I)) .unit)))) .i, .drop, .drop, .as I .i, .drop, .drop, .drop, .drop, .drop, .as I .i, .as I .i]), (15, [.drop, .drop, .drop, .as I .i])]
noncomputable def vnn (N n : Nat) (K : Ex → St → Z6) (l0 : Y1) (t3 t9 t10 : Int) : Z6 := iter ((A_zz34).shape 6) (run (A_zz34) N (codeAt Try.f115 [1, 1, 0, 1, 0, 0])) n ([.val (.opt (.pair (.sl (.sl .bool)) (.pair (.sl (.sl I)) (.pair (.sl (.sl I)) .unit)))) .i l0, .u, .u, .val I .i t3, .u, .u, .u, .u, .u, .val I .i t9, .val I .i t10] ++ List.replicate 14 .u) K
noncomputable abbrev vasj : Ex → St → Z6 := finish (A_zz34) S_zz34 Try.f115.results.toList
noncomputable abbrev vug (kX : St → Z6) : Int → Z6 := fun (t3 : Int) => kX ([.u, .u, .u, .val I .i t3] ++ List.replicate 21 .u)
noncomputable abbrev vzf (kX : St → Z6) (kO : Nat → St → Z6) : Ex → St → Z6 := exK vasj 0 ((A_zz34).shape 15) kX kO
theorem vbds (N m : Nat) (kX : St → Z6) (kO : Nat → St → Z6) (l0 : Y1) (t3 t9 t10 : Int) : vnn N (m + 1) (vzf kX kO) l0 t3 t9 t10 = vmy (vnn N m (vzf kX kO)) (vug kX) l0 t3 t9 t10 := by kernel_rfl
theorem vafm (N : Nat) (kX : St → Z6) (kO : Nat → St → Z6) : ∀ (n : Nat) (l0 : Y1) (t3 t9 t10 : Int), vnn N n (vzf kX kO) l0 t3 t9 t10 = vnm N (vug kX) n l0 t3 t9 t10
  | 0, _, _, _, _ => rfl
  | m + 1, l0, t3, t9, t10 => by
    have hrec : vnn N m (vzf kX kO) = (vnm N (vug kX) m) := (funext fun l0 => (funext fun t3 => (funext fun t9 => (funext fun t10 => vafm N kX kO m l0 t3 t9 t10))))
    refine (vbds N m kX kO l0 t3 t9 t10).trans ?_
    rw [hrec]
    rfl
noncomputable abbrev valj (N : Nat) : Ex → St → Z6 := (blockK 0 (seqK ((A_zz34).shape 15) (gated ((A_zz34).shape 500007).isSome N (run (A_zz34) N (codeAt Try.f115 [1, 1, 1]))) vasj))
noncomputable abbrev vamk (N : Nat) : St → Z6 := fun st' => run (A_zz34) N (codeAt Try.f115 [1, 1, 1]) st' vasj
theorem vaxq (N : Nat) (t3 : Int) : vug (vamk N) t3 = vhl t3 := by kernel_rfl
theorem vbli (N : Nat) (l0 : Y1) (t3 t9 t10 : Int) : vnn N N (valj N) l0 t3 t9 t10 = vajj N l0 t3 t9 t10 :=
  have h : vug (vamk N) = (vhl) := (funext fun t3 => vaxq N t3)
  ((vad (fun st => by kernel_rfl) (fun st => by kernel_rfl)).trans (vafm N (vamk N) (fun j st => (valj N) (.exit j) st) N l0 t3 t9 t10)).trans (congrArg (fun k => vnm N k N l0 t3 t9 t10) h)
theorem run0_zz34 (N : Nat) (x : (S_zz34).a.den) : runF (A_zz34) N Try.f115 S_zz34 x = (vatk (vnn N N (valj N)) x.1) := by kernel_rfl
theorem run_zz34 (N : Nat) (x : (S_zz34).a.den) : runF (A_zz34) N Try.f115 S_zz34 x = zz34 N x.1 := by
  refine (run0_zz34 N x).trans ?_
  rw [(funext fun l0 => (funext fun t3 => (funext fun t9 => (funext fun t10 => vbli N l0 t3 t9 t10))))]
  rfl
theorem fn_zz34 : FnOk Try.prog 115 := ⟨_, Try.func115, by kernel_rfl, by kernel_rfl⟩
theorem good_zz34 : Gx.Good Try.prog 115 S_zz34 := vaa Try.func115 (of_decide_eq_true (by kernel_rfl)) fun x r h => ⟨A_zz34, big, vac tabOk, vab (show SigsOk Try.prog [] from trivial), (run_zz34 big x).trans h⟩
def vbfi (c_0 : Int) (p_1 : Y1) (p_2 p_3 p_4 : Int) : Z0 :=
  (p_1).bind fun xq1 =>
  (atI xq1.2.1 c_0).bind fun xq2 =>
  (atI xq2 p_2).bind fun xq3 =>
  cond (decide (xq3 = p_3))
  ((p_1).bind fun xq4 =>
  (atI xq4.2.2.1 c_0).bind fun xq5 =>
  (atI xq5 p_2).bind fun xq6 =>
  some (decide (xq6 = p_4), (())))
  (some (false, (())))
def zz35 (c_0 : Int) (p_1 : Y1) (p_2 p_3 p_4 : Int) : Z0 := vbfi c_0 p_1 p_2 p_3 p_4
def S_zz35 : Sig := { a := (.pair I (.pair (.ptr (.opt (.pair (.sl (.sl .bool)) (.pair (.sl (.sl I)) (.pair (.sl (.sl I)) .unit))))) (.pair (.ptr I) (.pair (.ptr I) (.pair (.ptr I) .unit))))), md := [0, 0, 0, 0, 0], mf := [], m := .unit, r := .bool, rf := .i, f := fun x => zz35 x.1 x.2.1 x.2.2.1 x.2.2.2.1 x.2.2.2.2.1 }
def A_zz35 : Cfg := mkCfg tab [] []
theorem run_zz35 (N : Nat) (x : (S_zz35).a.den) : runF (A_zz35) N Try.f116 S_zz35 x = zz35 x.1 x.2.1 x.2.2.1 x.2.2.2.1 x.2.2.2.2.1 := by kernel_rfl
theorem fn_zz35 : FnOk Try.prog 116 := ⟨_, Try.func116, by kernel_rfl, by kernel_rfl⟩
theorem good_zz35 : Gx.Good Try.prog 116 S_zz35 := vaa Try.func116 (of_decide_eq_true (by kernel_rfl)) fun x r h => ⟨A_zz35, big, vac tabOk, vab (show SigsOk Try.prog [] from trivial), (run_zz35 big x).trans h⟩
def vph (rec : (Y1 × (Int × Z1)) → Y4 → Int → Int → Z5) (k : Y4 → Z5) (so1 : (Y1 × (Int × Z1))) (list5 : Y4) (t9 t10 : Int) : Z5 :=
  cond (decide (t10 < t9))
  ((zz35 t10 so1.1 so1.2.1 so1.2.2.1 so1.2.2.2.1).bind fun rq1 =>
  cond rq1.1
  ((appI list5 [t10]).bind fun xq2 =>
  rec so1 xq2 t9 (IntKind.i64.wrap (t10 + (1 : Int))))
  (rec so1 list5 t9 (IntKind.i64.wrap (t10 + (1 : Int)))))
  (k list5)
def vin (list5 : Y4) : Z5 :=
  some (list5, (()))
def vatc (L3 : (Y1 × (Int × Z1)) → Y4 → Int → Int → Z5) (o_0 : Y5) (so_1 : (Y1 × (Int × Z1))) : Z5 :=
  L3 so_1 [] (o_0.length : Int) (0 : Int)
def vop (N : Nat) (k : Y4 → Z5) : Nat → (Y1 × (Int × Z1)) → Y4 → Int → Int → Z5
  | 0, _, _, _, _ => none
  | m + 1, so1, list5, t9, t10 => vph (vop N k m) k so1 list5 t9 t10
def vaik (N : Nat) (so1 : (Y1 × (Int × Z1))) (list5 : Y4) (t9 t10 : Int) : Z5 := vop N (vin) N so1 list5 t9 t10
def zz36 (N : Nat) (o_0 : Y5) (so_1 : (Y1 × (Int × Z1))) : Z5 := vatc (vaik N) o_0 so_1
def S_zz36 : Sig := { a := (.pair (.sl (.sl .bool)) (.pair (.clo 116 0 (.pair (.ptr (.opt (.pair (.sl (.sl .bool)) (.pair (.sl (.sl I)) (.pair (.sl (.sl I)) .unit))))) (.pair (.ptr I) (.pair (.ptr I) (.pair (.ptr I) .unit))))) .unit)), md := [0, 0], mf := [], m := .unit, r := (.sl I), rf := (.o .i), f := fun x => zz36 big x.1 x.2.1 }
def A_zz36 : Cfg := mkCfg tab [(116, S_zz35)] [(6, [.drop, .as (.clo 116 0 (.pair (.ptr (.opt (.pair (.sl (.sl .bool)) (.pair (.sl (.sl I)) (.pair (.sl (.sl I)) .unit))))) (.pair (.ptr I) (.pair (.ptr I) (.pair (.ptr I) .unit))))) .i, .drop, .drop, .drop, .as (.sl I) (.o .i), .drop, .drop, .drop, .as I .i, .as I .i]), (17, [.drop, .drop, .drop, .drop, .drop, .as (.sl I) (.o .i)])]
noncomputable def vlz (N n : Nat) (K : Ex → St → Z5) (so1 : (Y1 × (Int × Z1))) (list5 : Y4) (t9 t10 : Int) : Z5 := iter ((A_zz36).shape 6) (run (A_zz36) N (codeAt Try.f62 [1, 1, 0, 1, 0, 0])) n ([.u, .val (.clo 116 0 (.pair (.ptr (.opt (.pair (.sl (.sl .bool)) (.pair (.sl (.sl I)) (.pair (.sl (.sl I)) .unit))))) (.pair (.ptr I) (.pair (.ptr I) (.pair (.ptr I) .unit))))) .i so1, .u, .u, .u, .val (.sl I) (.o .i) list5, .u, .u, .u, .val I .i t9, .val I .i t10] ++ List.replicate 11 .u) K
noncomputable abbrev vaqb : Ex → St → Z5 := finish (A_zz36) S_zz36 Try.f62.results.toList
noncomputable abbrev vsn (kX : St → Z5) : Y4 → Z5 := fun (list5 : Y4) => kX ([.u, .u, .u, .u, .u, .val (.sl I) (.o .i) list5] ++ List.replicate 16 .u)
noncomputable abbrev vze (kX : St → Z5) (kO : Nat → St → Z5) : Ex → St → Z5 := exK vaqb 0 ((A_zz36).shape 17) kX kO
theorem vbak (N m : Nat) (kX : St → Z5) (kO : Nat → St → Z5) (so1 : (Y1 × (Int × Z1))) (list5 : Y4) (t9 t10 : Int) : vlz N (m + 1) (vze kX kO) so1 list5 t9 t10 = vph (vlz N m (vze kX kO)) (vsn kX) so1 list5 t9 t10 := by kernel_rfl
theorem vadv (N : Nat) (kX : St → Z5) (kO : Nat → St → Z5) : ∀ (n : Nat) (so1 : (Y1 × (Int × Z1))) (list5 : Y4) (t9 t10 : Int), vlz N n (vze kX kO) so1 list5 t9 t10 = vop N (vsn kX) n so1 list5 t9 t10
  | 0, _, _, _, _ => rfl
  | m + 1, so1, list5, t9, t10 => by
    have hrec : vlz N m (vze kX kO) = (vop N (vsn kX) m) := (funext fun so1 => (funext fun list5 => (funext fun t9 => (funext fun t10 => vadv N kX kO m so1 list5 t9 t10))))
    refine (vbak N m kX kO so1 list5 t9 t10).trans ?_
    rw [hrec]
    rfl
noncomputable abbrev vago (N : Nat) : Ex → St → Z5 := (blockK 0 (seqK ((A_zz36).shape 17) (gated ((A_zz36).shape 500008).isSome N (run (A_zz36) N (codeAt Try.f62 [1, 1, 1]))) vaqb))
noncomputable abbrev vaht (N : Nat) : St → Z5 := fun st' => run (A_zz36) N (codeAt Try.f62 [1, 1, 1]) st' vaqb
theorem vawo (N : Nat) (list5 : Y4) : vsn (vaht N) list5 = vin list5 := by kernel_rfl
theorem vbjk (N : Nat) (so1 : (Y1 × (Int × Z1))) (list5 : Y4) (t9 t10 : Int) : vlz N N (vago N) so1 list5 t9 t10 = vaik N so1 list5 t9 t10 :=
  have h : vsn (vaht N) = (vin) := (funext fun list5 => vawo N list5)
  ((vad (fun st => by kernel_rfl) (fun st => by kernel_rfl)).trans (vadv N (vaht N) (fun j st => (vago N) (.exit j) st) N so1 list5 t9 t10)).trans (congrArg (fun k => vop N k N so1 list5 t9 t10) h)
theorem run0_zz36 (N : Nat) (x : (S_zz36).a.den) : runF (A_zz36) N Try.f62 S_zz36 x = (vatc (vlz N N (vago N)) x.1 x.2.1) := by kernel_rfl
theorem run_zz36 (N : Nat) (x : (S_zz36).a.den) : runF (A_zz36) N Try.f62 S_zz36 x = zz36 N x.1 x.2.1 := by
  refine (run0_zz36 N x).trans ?_
  rw [(funext fun so1 => (funext fun list5 => (funext fun t9 => (funext fun t10 => vbjk N so1 list5 t9 t10))))]
  rfl
theorem fn_zz36 : FnOk Try.prog 62 := ⟨_, Try.func62, by kernel_rfl, by kernel_rfl⟩
theorem good_zz36 : Gx.Good Try.prog 62 S_zz36 := vaa Try.func62 (of_decide_eq_true (by kernel_rfl)) fun x r h => ⟨A_zz36, big, vac tabOk, vab (show SigsOk Try.prog [(116, S_zz35)] from ⟨⟨fn_zz35, good_zz35⟩, trivial⟩), (run_zz36 big x).trans h⟩
def vbef (l_0 : Y1) (x_1 y_2 z_3 : Int) : Z5 :=
  (l_0).bind fun xq1 =>
  (zz36 big xq1.1 (l_0, y_2, x_1, z_3, ())).bind fun rq2 =>
  some (rq2.1, (()))
def zz37 (l_0 : Y1) (x_1 y_2 z_3 : Int) : Z5 := vbef l_0 x_1 y_2 z_3
def S_zz37 : Sig := { a := (.pair (.opt (.pair (.sl (.sl .bool)) (.pair (.sl (.sl I)) (.pair (.sl (.sl I)) .unit)))) (.pair I (.pair I (.pair I .unit)))), md := [0, 0, 0, 0], mf := [], m := .unit, r := (.sl I), rf := (.o .i), f := fun x => zz37 x.1 x.2.1 x.2.2.1 x.2.2.2.1 }
def A_zz37 : Cfg := mkCfg tab [(62, S_zz36)] [(3, [.drop, .drop, .drop, .drop, .as (.ptr (.opt (.pair (.sl (.sl .bool)) (.pair (.sl (.sl I)) (.pair (.sl (.sl I)) .unit))))) .i, .as (.ptr I) .i, .as (.ptr I) .i, .as (.ptr I) .i])]
theorem run_zz37 (N : Nat) (x : (S_zz37).a.den) : runF (A_zz37) N Try.f77 S_zz37 x = zz37 x.1 x.2.1 x.2.2.1 x.2.2.2.1 := by kernel_rfl
theorem fn_zz37 : FnOk Try.prog 77 := ⟨_, Try.func77, by kernel_rfl, by kernel_rfl⟩
theorem good_zz37 : Gx.Good Try.prog 77 S_zz37 := vaa Try.func77 (of_decide_eq_true (by kernel_rfl)) fun x r h => ⟨A_zz37, big, vac tabOk, vab (show SigsOk Try.prog [(62, S_zz36)] from ⟨⟨fn_zz36, good_zz36⟩, trivial⟩), (run_zz37 big x).trans h⟩
def vber (l_0 : Y1) (x_1 : Int) : Z5 :=
  (zz33 big l_0).bind fun rq1 =>
  (zz34 big l_0).bind fun rq2 =>
  (zz37 l_0 rq1.1 x_1 rq2.1).bind fun rq3 =>
  some (rq3.1, (()))
def zz38 (l_0 : Y1) (x_1 : Int) : Z5 := vber l_0 x_1
def S_zz38 : Sig := { a := (.pair (.opt (.pair (.sl (.sl .bool)) (.pair (.sl (.sl I)) (.pair (.sl (.sl I)) .unit)))) (.pair I .unit)), md := [0, 0], mf := [], m := .unit, r := (.sl I), rf := (.o .i), f := fun x => zz38 x.1 x.2.1 }
def A_zz38 : Cfg := mkCfg tab [(114, S_zz33), (115, S_zz34), (77, S_zz37)] []
theorem run_zz38 (N : Nat) (x : (S_zz38).a.den) : runF (A_zz38) N Try.f73 S_zz38 x = zz38 x.1 x.2.1 := by kernel_rfl
theorem fn_zz38 : FnOk Try.prog 73 := ⟨_, Try.func73, by kernel_rfl, by kernel_rfl⟩
theorem good_zz38 : Gx.Good Try.prog 73 S_zz38 := vaa Try.func73 (of_decide_eq_true (by kernel_rfl)) fun x r h => ⟨A_zz38, big, vac tabOk, vab (show SigsOk Try.prog [(114, S_zz33), (115, S_zz34), (77, S_zz37)] from ⟨⟨fn_zz33, good_zz33⟩, ⟨fn_zz34, good_zz34⟩, ⟨fn_zz37, good_zz37⟩, trivial⟩), (run_zz38 big x).trans h⟩
def vbgx (z_0 : Int) (p_1 : Y1) (p_2 p_3 : Int) : Z0 :=
  (p_1).bind fun xq1 =>
  (p_1).bind fun xq2 =>
  (atI xq2.2.1 z_0).bind fun xq3 =>
  (atI xq3 p_2).bind fun xq4 =>
  (atI xq1.2.2.1 xq4).bind fun xq5 =>
  (p_1).bind fun xq6 =>
  (atI xq6.2.1 z_0).bind fun xq7 =>
  (atI xq7 p_3).bind fun xq8 =>
  (atI xq5 xq8).bind fun xq9 =>
  cond (decide (xq9 ≠ z_0))
  (some (true, (())))
  ((p_1).bind fun xq10 =>
  (p_1).bind fun xq11 =>
  (atI xq11.2.2.1 z_0).bind fun xq12 =>
  (atI xq12 p_2).bind fun xq13 =>
  (atI xq10.2.1 xq13).bind fun xq14 =>
  (p_1).bind fun xq15 =>
  (atI xq15.2.2.1 z_0).bind fun xq16 =>
  (atI xq16 p_3).bind fun xq17 =>
  (atI xq14 xq17).bind fun xq18 =>
  some (decide (xq18 ≠ z_0), (())))
def zz39 (z_0 : Int) (p_1 : Y1) (p_2 p_3 : Int) : Z0 := vbgx z_0 p_1 p_2 p_3
def S_zz39 : Sig := { a := (.pair I (.pair (.ptr (.opt (.pair (.sl (.sl .bool)) (.pair (.sl (.sl I)) (.pair (.sl (.sl I)) .unit))))) (.pair (.ptr I) (.pair (.ptr I) .unit)))), md := [0, 0, 0, 0], mf := [], m := .unit, r := .bool, rf := .i, f := fun x => zz39 x.1 x.2.1 x.2.2.1 x.2.2.2.1 }
def A_zz39 : Cfg := mkCfg tab [] []
theorem run_zz39 (N : Nat) (x : (S_zz39).a.den) : runF (A_zz39) N Try.f112 S_zz39 x = zz39 x.1 x.2.1 x.2.2.1 x.2.2.2.1 := by kernel_rfl
theorem fn_zz39 : FnOk Try.prog 112 := ⟨_, Try.func112, by kernel_rfl, by kernel_rfl⟩
theorem good_zz39 : Gx.Good Try.prog 112 S_zz39 := vaa Try.func112 (of_decide_eq_true (by kernel_rfl)) fun x r h => ⟨A_zz39, big, vac tabOk, vab (show SigsOk Try.prog [] from trivial), (run_zz39 big x).trans h⟩
end Go.Proofs.Ytcdlbboeflehdaa
