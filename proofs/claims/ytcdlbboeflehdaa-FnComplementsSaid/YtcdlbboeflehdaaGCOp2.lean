import Derived.Test.YtcdlbboeflehdaaUCO
set_option maxRecDepth 100000
set_option linter.unusedVariables false
namespace Go.Proofs.Ytcdlbboeflehdaa
open Go Go.Gx Go.Proofs
def vwd (rec k : Z13 → Y2 → Y2 → Z4) (c0 : Z13) (t2 p9 : Y2) : Z4 :=
  (zz2 c0 (2 : Int)).bind fun rq53 =>
  cond (decide ((p9.1.length : Int) < (IntKind.i64.wrap ((10 : Int) + rq53.1))))
  ((appI p9.1 [[(p9.1.length : Int)]]).bind fun xq54 =>
  rec rq53.2.1 t2 (xq54, ((), p9.2).2))
  (k rq53.2.1 t2 p9)
def vif (c0 : Z13) (t2 p9 : Y2) : Z4 :=
  some (p9, (c0, ()))
def vgh (rec : Z13 → Y2 → Int → Z12 → Y4 → Int → Z4) (k : Z13 → Y2 → Int → Z12 → Z4) (c0 : Z13) (t2 : Y2) (n3 : Int) (pairs4 : Z12) (names7 : Y4) (i8 : Int) : Z4 :=
  cond (decide (i8 < (pairs4.length : Int)))
  ((atI pairs4 i8).bind fun _ =>
  (pairs4[i8.toNat]?).bind fun xq33 =>
  (pairs4[i8.toNat]?).bind fun xq34 =>
  (atI names7 xq34.1).bind fun _ =>
  (names7[xq34.1.toNat]?).bind fun xq35 =>
  (atI pairs4 i8).bind fun _ =>
  (pairs4[i8.toNat]?).bind fun xq36 =>
  (pairs4[i8.toNat]?).bind fun xq37 =>
  (atI names7 xq37.2.1).bind fun _ =>
  (names7[xq37.2.1.toNat]?).bind fun xq38 =>
  (atI pairs4 i8).bind fun _ =>
  (pairs4[i8.toNat]?).bind fun xq39 =>
  rec c0 t2 n3 (pairs4.set i8.toNat (xq35, (xq38, ()))) names7 (IntKind.i64.wrap (i8 + (1 : Int))))
  (k c0 t2 n3 pairs4)
def vch (L29 : Z13 → Y2 → Y2 → Z4) (c0 : Z13) (t2 : Y2) (n3 : Int) (pairs4 : Z12) : Z4 :=
  (zz9 big n3 pairs4).bind fun rq40 =>
  cond (decide (n3 = (0 : Int)))
  (some (rq40.1, (c0, ())))
  ((zz3 c0 (16 : Int)).bind fun rq41 =>
  cond (!rq41.1)
  (some (rq40.1, (rq41.2.1, ())))
  ((zz2 rq41.2.1 n3).bind fun rq42 =>
  (zz2 rq42.2.1 (4 : Int)).bind fun rq43 =>
  cond (decide (rq43.1 = (0 : Int)))
  ((atI rq40.1.1 rq42.1).bind fun _ =>
  (rq40.1.1[rq42.1.toNat]?).bind fun xq44 =>
  (slI xq44 (1 : Int) xq44.length).bind fun xq45 =>
  (atI rq40.1.1 rq42.1).bind fun _ =>
  (rq40.1.1[rq42.1.toNat]?).bind fun xq46 =>
  some ((rq40.1.1.set rq42.1.toNat xq45, rq40.1.2), (rq43.2.1, ())))
  (cond (decide (rq43.1 = (1 : Int)))
  ((atI rq40.1.1 rq42.1).bind fun xq47 =>
  (appI xq47 [n3]).bind fun xq48 =>
  some ((rq40.1.1.set (rq42.1).toNat xq48, rq40.1.2), (rq43.2.1, ())))
  (cond (decide (rq43.1 = (2 : Int)))
  ((atI rq40.1.1 rq42.1).bind fun _ =>
  (rq40.1.1[rq42.1.toNat]?).bind fun xq49 =>
  (zz2 rq43.2.1 n3).bind fun rq50 =>
  (zz10 big xq49 rq50.1).bind fun rq51 =>
  (atI rq40.1.1 rq42.1).bind fun _ =>
  (rq40.1.1[rq42.1.toNat]?).bind fun xq52 =>
  some ((rq40.1.1.set rq42.1.toNat rq51.1, rq40.1.2), (rq50.2.1, ())))
  (cond (decide (rq43.1 = (3 : Int)))
  (L29 rq43.2.1 t2 rq40.1)
  (some (rq40.1, (rq43.2.1, ()))))))))
def vnf (rec : Z13 → Y2 → Int → Z12 → Int → Int → Z4) (k : Z13 → Y2 → Int → Z12 → Int → Z4) (c0 : Z13) (t2 : Y2) (n3 : Int) (pairs4 : Z12) (x5 y6 : Int) : Z4 :=
  cond (decide (y6 < n3))
  ((zz3 c0 (3 : Int)).bind fun rq31 =>
  cond rq31.1
  ((appI pairs4 [(x5, (y6, ()))]).bind fun xq32 =>
  rec rq31.2.1 t2 n3 xq32 x5 (IntKind.i64.wrap (y6 + (1 : Int))))
  (rec rq31.2.1 t2 n3 pairs4 x5 (IntKind.i64.wrap (y6 + (1 : Int)))))
  (k c0 t2 n3 pairs4 x5)
def vgp (rec : Z13 → Y2 → Int → Z12 → Int → Z4) (c0 : Z13) (t2 : Y2) (n3 : Int) (pairs4 : Z12) (x5 : Int) : Z4 :=
  rec c0 t2 n3 pairs4 (IntKind.i64.wrap (x5 + (1 : Int)))
def vly (L7 : Z13 → Y2 → Int → Z12 → Int → Int → Z4) (k : Z13 → Y2 → Int → Z12 → Z4) (c0 : Z13) (t2 : Y2) (n3 : Int) (pairs4 : Z12) (x5 : Int) : Z4 :=
  cond (decide (x5 < n3))
  (L7 c0 t2 n3 pairs4 x5 (IntKind.i64.wrap (x5 + (1 : Int))))
  (k c0 t2 n3 pairs4)
def vcr (L14 : Z13 → Y2 → Int → Z12 → Y4 → Int → Z4) (L29 : Z13 → Y2 → Y2 → Z4) (c0 : Z13) (t2 : Y2) (n3 : Int) (pairs4 : Z12) : Z4 :=
  (zz5 big c0 n3).bind fun rq2 =>
  (zz8 big rq2.1 n3).bind fun rq3 =>
  cond rq3.1
  ((zz3 rq2.2.1 (2 : Int)).bind fun rq4 =>
  cond rq4.1
  (L14 rq4.2.1 t2 n3 pairs4 rq2.1 (0 : Int))
  ((zz9 big n3 pairs4).bind fun rq5 =>
  cond (decide (n3 = (0 : Int)))
  (some (rq5.1, (rq4.2.1, ())))
  ((zz3 rq4.2.1 (16 : Int)).bind fun rq6 =>
  cond (!rq6.1)
  (some (rq5.1, (rq6.2.1, ())))
  ((zz2 rq6.2.1 n3).bind fun rq7 =>
  (zz2 rq7.2.1 (4 : Int)).bind fun rq8 =>
  cond (decide (rq8.1 = (0 : Int)))
  ((atI rq5.1.1 rq7.1).bind fun _ =>
  (rq5.1.1[rq7.1.toNat]?).bind fun xq9 =>
  (slI xq9 (1 : Int) xq9.length).bind fun xq10 =>
  (atI rq5.1.1 rq7.1).bind fun _ =>
  (rq5.1.1[rq7.1.toNat]?).bind fun xq11 =>
  some ((rq5.1.1.set rq7.1.toNat xq10, rq5.1.2), (rq8.2.1, ())))
  (cond (decide (rq8.1 = (1 : Int)))
  ((atI rq5.1.1 rq7.1).bind fun xq12 =>
  (appI xq12 [n3]).bind fun xq13 =>
  some ((rq5.1.1.set (rq7.1).toNat xq13, rq5.1.2), (rq8.2.1, ())))
  (cond (decide (rq8.1 = (2 : Int)))
  ((atI rq5.1.1 rq7.1).bind fun _ =>
  (rq5.1.1[rq7.1.toNat]?).bind fun xq14 =>
  (zz2 rq8.2.1 n3).bind fun rq15 =>
  (zz10 big xq14 rq15.1).bind fun rq16 =>
  (atI rq5.1.1 rq7.1).bind fun _ =>
  (rq5.1.1[rq7.1.toNat]?).bind fun xq17 =>
  some ((rq5.1.1.set rq7.1.toNat rq16.1, rq5.1.2), (rq15.2.1, ())))
  (cond (decide (rq8.1 = (3 : Int)))
  (L29 rq8.2.1 t2 rq5.1)
  (some (rq5.1, (rq8.2.1, ()))))))))))
  ((zz9 big n3 pairs4).bind fun rq18 =>
  cond (decide (n3 = (0 : Int)))
  (some (rq18.1, (rq2.2.1, ())))
  ((zz3 rq2.2.1 (16 : Int)).bind fun rq19 =>
  cond (!rq19.1)
  (some (rq18.1, (rq19.2.1, ())))
  ((zz2 rq19.2.1 n3).bind fun rq20 =>
  (zz2 rq20.2.1 (4 : Int)).bind fun rq21 =>
  cond (decide (rq21.1 = (0 : Int)))
  ((atI rq18.1.1 rq20.1).bind fun _ =>
  (rq18.1.1[rq20.1.toNat]?).bind fun xq22 =>
  (slI xq22 (1 : Int) xq22.length).bind fun xq23 =>
  (atI rq18.1.1 rq20.1).bind fun _ =>
  (rq18.1.1[rq20.1.toNat]?).bind fun xq24 =>
  some ((rq18.1.1.set rq20.1.toNat xq23, rq18.1.2), (rq21.2.1, ())))
  (cond (decide (rq21.1 = (1 : Int)))
  ((atI rq18.1.1 rq20.1).bind fun xq25 =>
  (appI xq25 [n3]).bind fun xq26 =>
  some ((rq18.1.1.set (rq20.1).toNat xq26, rq18.1.2), (rq21.2.1, ())))
  (cond (decide (rq21.1 = (2 : Int)))
  ((atI rq18.1.1 rq20.1).bind fun _ =>
  (rq18.1.1[rq20.1.toNat]?).bind fun xq27 =>
  (zz2 rq21.2.1 n3).bind fun rq28 =>
  (zz10 big xq27 rq28.1).bind fun rq29 =>
  (atI rq18.1.1 rq20.1).bind fun _ =>
  (rq18.1.1[rq20.1.toNat]?).bind fun xq30 =>
  some ((rq18.1.1.set rq20.1.toNat rq29.1, rq18.1.2), (rq28.2.1, ())))
  (cond (decide (rq21.1 = (3 : Int)))
  (L29 rq21.2.1 t2 rq18.1)
  (some (rq18.1, (rq21.2.1, ())))))))))
def varr (L4 : Z13 → Y2 → Int → Z12 → Int → Z4) (c_0 : Z13) : Z4 :=
  (zz4 c_0 [(0 : Int), (1 : Int), (2 : Int), (3 : Int), (4 : Int), (4 : Int), (5 : Int), (5 : Int), (6 : Int), (7 : Int)]).bind fun rq1 =>
  L4 rq1.2.1 (([] : Y3), ()) rq1.1 [] (0 : Int)
def vls (N : Nat) (k : Z13 → Y2 → Int → Z12 → Int → Z4) : Nat → Z13 → Y2 → Int → Z12 → Int → Int → Z4
  | 0, _, _, _, _, _, _ => none
  | m + 1, c0, t2, n3, pairs4, x5, y6 => vnf (vls N k m) k c0 t2 n3 pairs4 x5 y6
def vsm (N : Nat) (rec : Z13 → Y2 → Int → Z12 → Int → Z4) (k : Z13 → Y2 → Int → Z12 → Z4) (c0 : Z13) (t2 : Y2) (n3 : Int) (pairs4 : Z12) (x5 y6 : Int) : Z4 := vls N (vgp rec) N c0 t2 n3 pairs4 x5 y6
def vhl (N : Nat) (k : Z13 → Y2 → Int → Z12 → Z4) : Nat → Z13 → Y2 → Int → Z12 → Int → Z4
  | 0, _, _, _, _, _ => none
  | m + 1, c0, t2, n3, pairs4, x5 => vly (vsm N (vhl N k m) k) k c0 t2 n3 pairs4 x5
def viu (N : Nat) (k : Z13 → Y2 → Int → Z12 → Z4) : Nat → Z13 → Y2 → Int → Z12 → Y4 → Int → Z4
  | 0, _, _, _, _, _, _ => none
  | m + 1, c0, t2, n3, pairs4, names7, i8 => vgh (viu N k m) k c0 t2 n3 pairs4 names7 i8
def vjj (N : Nat) (k : Z13 → Y2 → Y2 → Z4) : Nat → Z13 → Y2 → Y2 → Z4
  | 0, _, _, _ => none
  | m + 1, c0, t2, p9 => vwd (vjj N k m) k c0 t2 p9
def vaq (N : Nat) (c0 : Z13) (t2 p9 : Y2) : Z4 := vjj N (vif) N c0 t2 p9
def vbz (N : Nat) (c0 : Z13) (t2 : Y2) (n3 : Int) (pairs4 : Z12) (names7 : Y4) (i8 : Int) : Z4 := viu N (vch (vaq N)) N c0 t2 n3 pairs4 names7 i8
def vaik (N : Nat) (c0 : Z13) (t2 : Y2) (n3 : Int) (pairs4 : Z12) (x5 : Int) : Z4 := vhl N (vcr (vbz N) (vaq N)) N c0 t2 n3 pairs4 x5
def zz11 (N : Nat) (c_0 : Z13) : Z4 := varr (vaik N) c_0
def S_zz11 : Sig := { a := (.pair (.ptr (.pair (.sl (.int .u8)) (.pair I (.pair (.int .u64) .unit)))) .unit), md := [1], mf := [(.o .i)], m := (.pair (.ptr (.pair (.sl (.int .u8)) (.pair I (.pair (.int .u64) .unit)))) .unit), r := (.pair (.sl (.sl I)) .unit), rf := .i, f := fun x => zz11 big x.1 }
def A_zz11 : Cfg := hookCfg (fun i => if i = 25 then some PO.hook else none) (mkCfg tab [(87, S_zz4), (95, S_zz5), (96, S_zz8), (50, S_zz3), (98, S_zz9), (39, S_zz2), (120, S_zz10)] [(8, [.as (.ptr (.pair (.sl (.int .u8)) (.pair I (.pair (.int .u64) .unit)))) (.o .i), .drop, .as y1 (.o (.p (.o (.o .i)) .i)), .as I .i, .as (.sl (.pair I (.pair I .unit))) (.o .i), .as I .i]), (14, [.as (.ptr (.pair (.sl (.int .u8)) (.pair I (.pair (.int .u64) .unit)))) (.o .i), .drop, .as y1 (.o (.p (.o (.o .i)) .i)), .as I .i, .as (.sl (.pair I (.pair I .unit))) (.o .i), .as I .i, .as I .i]), (23, [.as (.ptr (.pair (.sl (.int .u8)) (.pair I (.pair (.int .u64) .unit)))) (.o .i), .drop, .as y1 (.o (.p (.o (.o .i)) .i)), .as I .i, .as (.sl (.pair I (.pair I .unit))) (.o .i)]), (28, [.as (.ptr (.pair (.sl (.int .u8)) (.pair I (.pair (.int .u64) .unit)))) (.o .i), .drop, .as y1 (.o (.p (.o (.o .i)) .i)), .as I .i, .as (.sl (.pair I (.pair I .unit))) (.o .i), .drop, .drop, .as (.sl I) (.o .i), .as I .i]), (1000023, [.as (.ptr (.pair (.sl (.int .u8)) (.pair I (.pair (.int .u64) .unit)))) (.o .i), .drop, .as y1 (.o (.p (.o (.o .i)) .i)), .drop, .drop, .drop, .drop, .drop, .drop, .as y1 (.o (.p (.o .i) .i)), .as I .i]), (1000027, [.as (.ptr (.pair (.sl (.int .u8)) (.pair I (.pair (.int .u64) .unit)))) (.o .i), .drop, .as y1 (.o (.p (.o (.o .i)) .i)), .as I .i, .drop, .drop, .drop, .drop, .drop, .as y1 (.o (.p (.o .i) .i)), .as I .i]), (58, [.as (.ptr (.pair (.sl (.int .u8)) (.pair I (.pair (.int .u64) .unit)))) (.o .i), .drop, .as y1 (.o (.p (.o (.o .i)) .i)), .drop, .drop, .drop, .drop, .drop, .drop, .as y1 (.o (.p (.o (.o .i)) .i))]), (11, [.as (.ptr (.pair (.sl (.int .u8)) (.pair I (.pair (.int .u64) .unit)))) (.o .i), .drop, .as y1 (.o (.p (.o (.o .i)) .i)), .as I .i, .as (.sl (.pair I (.pair I .unit))) (.o .i), .as I .i]), (35, [.as (.ptr (.pair (.sl (.int .u8)) (.pair I (.pair (.int .u64) .unit)))) (.o .i), .drop, .as y1 (.o (.p (.o (.o .i)) .i)), .as I .i, .as (.sl (.pair I (.pair I .unit))) (.o .i)]), (63, [.as (.ptr (.pair (.sl (.int .u8)) (.pair I (.pair (.int .u64) .unit)))) (.o .i), .drop, .as y1 (.o (.p (.o (.o .i)) .i)), .drop, .drop, .drop, .drop, .drop, .drop, .as y1 (.o (.p (.o .i) .i))])])
noncomputable def vjg (N n : Nat) (K : Ex → St → Z4) (c0 : Z13) (t2 : Y2) (n3 : Int) (pairs4 : Z12) (x5 : Int) : Z4 := iter ((A_zz11).shape 8) (run (A_zz11) N (codeAt Try.f93 [1, 1, 1, 0, 1, 0, 0])) n ([.val (.ptr (.pair (.sl (.int .u8)) (.pair I (.pair (.int .u64) .unit)))) (.o .i) c0, .u, .val y1 (.o (.p (.o (.o .i)) .i)) t2, .val I .i n3, .val (.sl (.pair I (.pair I .unit))) (.o .i) pairs4, .val I .i x5] ++ List.replicate 141 .u) K
noncomputable def vnx (N n : Nat) (K : Ex → St → Z4) (c0 : Z13) (t2 : Y2) (n3 : Int) (pairs4 : Z12) (x5 y6 : Int) : Z4 := iter ((A_zz11).shape 14) (run (A_zz11) N (codeAt Try.f93 [1, 1, 1, 0, 1, 0, 0, 1, 0, 0, 1, 0, 0])) n ([.val (.ptr (.pair (.sl (.int .u8)) (.pair I (.pair (.int .u64) .unit)))) (.o .i) c0, .u, .val y1 (.o (.p (.o (.o .i)) .i)) t2, .val I .i n3, .val (.sl (.pair I (.pair I .unit))) (.o .i) pairs4, .val I .i x5, .val I .i y6] ++ List.replicate 140 .u) K
noncomputable def vhb (N n : Nat) (K : Ex → St → Z4) (c0 : Z13) (t2 : Y2) (n3 : Int) (pairs4 : Z12) (names7 : Y4) (i8 : Int) : Z4 := iter ((A_zz11).shape 28) (run (A_zz11) N (codeAt Try.f93 [1, 1, 1, 1, 0, 1, 1, 0, 1, 0, 0])) n ([.val (.ptr (.pair (.sl (.int .u8)) (.pair I (.pair (.int .u64) .unit)))) (.o .i) c0, .u, .val y1 (.o (.p (.o (.o .i)) .i)) t2, .val I .i n3, .val (.sl (.pair I (.pair I .unit))) (.o .i) pairs4, .u, .u, .val (.sl I) (.o .i) names7, .val I .i i8] ++ List.replicate 138 .u) K
noncomputable def vdr (N n : Nat) (K : Ex → St → Z4) (c0 : Z13) (t2 p9 : Y2) : Z4 := iter ((A_zz11).shape 58) (run (A_zz11) N (codeAt Try.f93 [1, 1, 1, 1, 1, 1, 1, 1, 0, 1, 0, 1, 1, 1, 1, 1, 1, 1, 0, 0, 0])) n ([.val (.ptr (.pair (.sl (.int .u8)) (.pair I (.pair (.int .u64) .unit)))) (.o .i) c0, .u, .val y1 (.o (.p (.o (.o .i)) .i)) t2, .u, .u, .u, .u, .u, .u, .val y1 (.o (.p (.o (.o .i)) .i)) p9] ++ List.replicate 137 .u) K
noncomputable abbrev vdn : Ex → St → Z4 := finish (A_zz11) S_zz11 Try.f93.results.toList
noncomputable abbrev vhq (kX : St → Z4) : Z13 → Y2 → Int → Z12 → Z4 := fun (c0 : Z13) (t2 : Y2) (n3 : Int) (pairs4 : Z12) => kX ([.val (.ptr (.pair (.sl (.int .u8)) (.pair I (.pair (.int .u64) .unit)))) (.o .i) c0, .u, .val y1 (.o (.p (.o (.o .i)) .i)) t2, .val I .i n3, .val (.sl (.pair I (.pair I .unit))) (.o .i) pairs4] ++ List.replicate 142 .u)
noncomputable abbrev vjw (kX : St → Z4) (kO : Nat → St → Z4) : Ex → St → Z4 := exK vdn 0 ((A_zz11).shape 23) kX kO
noncomputable abbrev vvd (kX : St → Z4) : Z13 → Y2 → Int → Z12 → Int → Z4 := fun (c0 : Z13) (t2 : Y2) (n3 : Int) (pairs4 : Z12) (x5 : Int) => kX ([.val (.ptr (.pair (.sl (.int .u8)) (.pair I (.pair (.int .u64) .unit)))) (.o .i) c0, .u, .val y1 (.o (.p (.o (.o .i)) .i)) t2, .val I .i n3, .val (.sl (.pair I (.pair I .unit))) (.o .i) pairs4, .val I .i x5] ++ List.replicate 141 .u)
noncomputable abbrev vyj (kX : St → Z4) (kO : Nat → St → Z4) : Ex → St → Z4 := exK vdn 2 ((A_zz11).shape 11) kX kO
noncomputable abbrev vrc (kX : St → Z4) : Z13 → Y2 → Int → Z12 → Z4 := fun (c0 : Z13) (t2 : Y2) (n3 : Int) (pairs4 : Z12) => kX ([.val (.ptr (.pair (.sl (.int .u8)) (.pair I (.pair (.int .u64) .unit)))) (.o .i) c0, .u, .val y1 (.o (.p (.o (.o .i)) .i)) t2, .val I .i n3, .val (.sl (.pair I (.pair I .unit))) (.o .i) pairs4] ++ List.replicate 142 .u)
noncomputable abbrev vvv (kX : St → Z4) (kO : Nat → St → Z4) : Ex → St → Z4 := exK vdn 4 ((A_zz11).shape 35) kX kO
noncomputable abbrev vrk (kX : St → Z4) : Z13 → Y2 → Y2 → Z4 := fun (c0 : Z13) (t2 p9 : Y2) => kX ([.val (.ptr (.pair (.sl (.int .u8)) (.pair I (.pair (.int .u64) .unit)))) (.o .i) c0, .u, .val y1 (.o (.p (.o (.o .i)) .i)) t2, .u, .u, .u, .u, .u, .u, .val y1 (.o (.p (.o .i) .i)) p9] ++ List.replicate 137 .u)
noncomputable abbrev vvp (kX : St → Z4) (kO : Nat → St → Z4) : Ex → St → Z4 := exK vdn 7 ((A_zz11).shape 63) kX kO
theorem vbdl (N m : Nat) (kX : St → Z4) (kO : Nat → St → Z4) (c0 : Z13) (t2 : Y2) (n3 : Int) (pairs4 : Z12) (x5 y6 : Int) : vnx N (m + 1) (vyj kX kO) c0 t2 n3 pairs4 x5 y6 = vnf (vnx N m (vyj kX kO)) (vvd kX) c0 t2 n3 pairs4 x5 y6 := by kernel_rfl
theorem vadh (N : Nat) (kX : St → Z4) (kO : Nat → St → Z4) : ∀ (n : Nat) (c0 : Z13) (t2 : Y2) (n3 : Int) (pairs4 : Z12) (x5 y6 : Int), vnx N n (vyj kX kO) c0 t2 n3 pairs4 x5 y6 = vls N (vvd kX) n c0 t2 n3 pairs4 x5 y6
  | 0, _, _, _, _, _, _ => rfl
  | m + 1, c0, t2, n3, pairs4, x5, y6 => by
    have hrec : vnx N m (vyj kX kO) = (vls N (vvd kX) m) := (funext fun c0 => (funext fun t2 => (funext fun n3 => (funext fun pairs4 => (funext fun x5 => (funext fun y6 => vadh N kX kO m c0 t2 n3 pairs4 x5 y6))))))
    refine (vbdl N m kX kO c0 t2 n3 pairs4 x5 y6).trans ?_
    rw [hrec]
    rfl
noncomputable abbrev vagq (N m : Nat) (kX : St → Z4) (kO : Nat → St → Z4) : Ex → St → Z4 := (blockK 2 (blockK 1 (seqK ((A_zz11).shape 11) (gated ((A_zz11).shape 500005).isSome N (run (A_zz11) N (codeAt Try.f93 [1, 1, 1, 0, 1, 0, 0, 1, 1]))) (iterK ((A_zz11).shape 8) (run (A_zz11) N (codeAt Try.f93 [1, 1, 1, 0, 1, 0, 0])) m (vjw kX kO)))))
noncomputable abbrev vags (N m : Nat) (kX : St → Z4) (kO : Nat → St → Z4) : St → Z4 := fun st' => run (A_zz11) N (codeAt Try.f93 [1, 1, 1, 0, 1, 0, 0, 1, 1]) st' (iterK ((A_zz11).shape 8) (run (A_zz11) N (codeAt Try.f93 [1, 1, 1, 0, 1, 0, 0])) m (vjw kX kO))
theorem vayn (N m : Nat) (kX : St → Z4) (kO : Nat → St → Z4) (c0 : Z13) (t2 : Y2) (n3 : Int) (pairs4 : Z12) (x5 : Int) : vvd (vags N m kX kO) c0 t2 n3 pairs4 x5 = vgp (vjg N m (vjw kX kO)) c0 t2 n3 pairs4 x5 := by kernel_rfl
theorem vbii (N m : Nat) (kX : St → Z4) (kO : Nat → St → Z4) (recF : Z13 → Y2 → Int → Z12 → Int → Z4) (hrec : vjg N m (vjw kX kO) = recF) (c0 : Z13) (t2 : Y2) (n3 : Int) (pairs4 : Z12) (x5 y6 : Int) : vnx N N (vagq N m kX kO) c0 t2 n3 pairs4 x5 y6 = vsm N recF (vhq kX) c0 t2 n3 pairs4 x5 y6 :=
  have h : vvd (vags N m kX kO) = (vgp recF) := (funext fun c0 => (funext fun t2 => (funext fun n3 => (funext fun pairs4 => (funext fun x5 => (vayn N m kX kO c0 t2 n3 pairs4 x5).trans (by rw [hrec]))))))
  ((vad (fun st => by kernel_rfl) (fun st => by kernel_rfl)).trans (vadh N (vags N m kX kO) (fun j st => (vagq N m kX kO) (.exit j) st) N c0 t2 n3 pairs4 x5 y6)).trans (congrArg (fun k => vls N k N c0 t2 n3 pairs4 x5 y6) h)
theorem vbdx (N m : Nat) (kX : St → Z4) (kO : Nat → St → Z4) (c0 : Z13) (t2 : Y2) (n3 : Int) (pairs4 : Z12) (x5 : Int) : vjg N (m + 1) (vjw kX kO) c0 t2 n3 pairs4 x5 = vly (vnx N N (vagq N m kX kO)) (vhq kX) c0 t2 n3 pairs4 x5 := by kernel_rfl
theorem vady (N : Nat) (kX : St → Z4) (kO : Nat → St → Z4) : ∀ (n : Nat) (c0 : Z13) (t2 : Y2) (n3 : Int) (pairs4 : Z12) (x5 : Int), vjg N n (vjw kX kO) c0 t2 n3 pairs4 x5 = vhl N (vhq kX) n c0 t2 n3 pairs4 x5
  | 0, _, _, _, _, _ => rfl
  | m + 1, c0, t2, n3, pairs4, x5 => by
    have hrec : vjg N m (vjw kX kO) = (vhl N (vhq kX) m) := (funext fun c0 => (funext fun t2 => (funext fun n3 => (funext fun pairs4 => (funext fun x5 => vady N kX kO m c0 t2 n3 pairs4 x5)))))
    refine (vbdx N m kX kO c0 t2 n3 pairs4 x5).trans ?_
    rw [(funext fun c0 => (funext fun t2 => (funext fun n3 => (funext fun pairs4 => (funext fun x5 => (funext fun y6 => vbii N m kX kO (vhl N (vhq kX) m) hrec c0 t2 n3 pairs4 x5 y6))))))]
    rfl
noncomputable abbrev vahn (N : Nat) : Ex → St → Z4 := (blockK 0 (seqK ((A_zz11).shape 23) (gated ((A_zz11).shape 500011).isSome N (run (A_zz11) N (codeAt Try.f93 [1, 1, 1, 1]))) vdn))
theorem vayc (N m : Nat) (kX : St → Z4) (kO : Nat → St → Z4) (c0 : Z13) (t2 : Y2) (n3 : Int) (pairs4 : Z12) (names7 : Y4) (i8 : Int) : vhb N (m + 1) (vvv kX kO) c0 t2 n3 pairs4 names7 i8 = vgh (vhb N m (vvv kX kO)) (vrc kX) c0 t2 n3 pairs4 names7 i8 := by kernel_rfl
theorem vaap (N : Nat) (kX : St → Z4) (kO : Nat → St → Z4) : ∀ (n : Nat) (c0 : Z13) (t2 : Y2) (n3 : Int) (pairs4 : Z12) (names7 : Y4) (i8 : Int), vhb N n (vvv kX kO) c0 t2 n3 pairs4 names7 i8 = viu N (vrc kX) n c0 t2 n3 pairs4 names7 i8
  | 0, _, _, _, _, _, _ => rfl
  | m + 1, c0, t2, n3, pairs4, names7, i8 => by
    have hrec : vhb N m (vvv kX kO) = (viu N (vrc kX) m) := (funext fun c0 => (funext fun t2 => (funext fun n3 => (funext fun pairs4 => (funext fun names7 => (funext fun i8 => vaap N kX kO m c0 t2 n3 pairs4 names7 i8))))))
    refine (vayc N m kX kO c0 t2 n3 pairs4 names7 i8).trans ?_
    rw [hrec]
    rfl
noncomputable abbrev vabz (N : Nat) : Ex → St → Z4 := (blockK 4 (seqK ((A_zz11).shape 35) (gated ((A_zz11).shape 500017).isSome N (run (A_zz11) N (codeAt Try.f93 [1, 1, 1, 1, 1]))) vdn))
theorem vaym (N m : Nat) (kX : St → Z4) (kO : Nat → St → Z4) (c0 : Z13) (t2 p9 : Y2) : vdr N (m + 1) (vvp kX kO) c0 t2 p9 = vwd (vdr N m (vvp kX kO)) (vrk kX) c0 t2 p9 := by kernel_rfl
theorem vaas (N : Nat) (kX : St → Z4) (kO : Nat → St → Z4) : ∀ (n : Nat) (c0 : Z13) (t2 p9 : Y2), vdr N n (vvp kX kO) c0 t2 p9 = vjj N (vrk kX) n c0 t2 p9
  | 0, _, _, _ => rfl
  | m + 1, c0, t2, p9 => by
    have hrec : vdr N m (vvp kX kO) = (vjj N (vrk kX) m) := (funext fun c0 => (funext fun t2 => (funext fun p9 => vaas N kX kO m c0 t2 p9)))
    refine (vaym N m kX kO c0 t2 p9).trans ?_
    rw [hrec]
    rfl
noncomputable abbrev vvi (N : Nat) : Ex → St → Z4 := (blockK 7 (blockK 6 (seqK ((A_zz11).shape 63) (gated ((A_zz11).shape 500031).isSome N (run (A_zz11) N (codeAt Try.f93 [1, 1, 1, 1, 1, 1, 1, 1, 1]))) vdn)))
noncomputable abbrev vabs (N : Nat) : St → Z4 := fun st' => run (A_zz11) N (codeAt Try.f93 [1, 1, 1, 1, 1, 1, 1, 1, 1]) st' vdn
theorem vasb (N : Nat) (c0 : Z13) (t2 p9 : Y2) : vrk (vabs N) c0 t2 p9 = vif c0 t2 p9 := by kernel_rfl
theorem vane (N : Nat) (c0 : Z13) (t2 p9 : Y2) : vdr N N (vvi N) c0 t2 p9 = vaq N c0 t2 p9 :=
  have h : vrk (vabs N) = (vif) := (funext fun c0 => (funext fun t2 => (funext fun p9 => vasb N c0 t2 p9)))
  ((vad (fun st => by kernel_rfl) (fun st => by kernel_rfl)).trans (vaas N (vabs N) (fun j st => (vvi N) (.exit j) st) N c0 t2 p9)).trans (congrArg (fun k => vjj N k N c0 t2 p9) h)
noncomputable abbrev vabv (N : Nat) : St → Z4 := fun st' => run (A_zz11) N (codeAt Try.f93 [1, 1, 1, 1, 1]) st' vdn
theorem vauf (N : Nat) (c0 : Z13) (t2 : Y2) (n3 : Int) (pairs4 : Z12) : vrc (vabv N) c0 t2 n3 pairs4 = vch (vdr N N (vvi N)) c0 t2 n3 pairs4 := by kernel_rfl
theorem vber (N : Nat) (c0 : Z13) (t2 : Y2) (n3 : Int) (pairs4 : Z12) (names7 : Y4) (i8 : Int) : vhb N N (vabz N) c0 t2 n3 pairs4 names7 i8 = vbz N c0 t2 n3 pairs4 names7 i8 :=
  have h : vrc (vabv N) = (vch (vaq N)) := (funext fun c0 => (funext fun t2 => (funext fun n3 => (funext fun pairs4 => (vauf N c0 t2 n3 pairs4).trans (by rw [(funext fun c0 => (funext fun t2 => (funext fun p9 => vane N c0 t2 p9)))])))))
  ((vad (fun st => by kernel_rfl) (fun st => by kernel_rfl)).trans (vaap N (vabv N) (fun j st => (vabz N) (.exit j) st) N c0 t2 n3 pairs4 names7 i8)).trans (congrArg (fun k => viu N k N c0 t2 n3 pairs4 names7 i8) h)
noncomputable abbrev vakq (N : Nat) : St → Z4 := fun st' => run (A_zz11) N (codeAt Try.f93 [1, 1, 1, 1]) st' vdn
theorem vawz (N : Nat) (c0 : Z13) (t2 : Y2) (n3 : Int) (pairs4 : Z12) : vhq (vakq N) c0 t2 n3 pairs4 = vcr (vhb N N (vabz N)) (vdr N N (vvi N)) c0 t2 n3 pairs4 := by kernel_rfl
theorem vbiu (N : Nat) (c0 : Z13) (t2 : Y2) (n3 : Int) (pairs4 : Z12) (x5 : Int) : vjg N N (vahn N) c0 t2 n3 pairs4 x5 = vaik N c0 t2 n3 pairs4 x5 :=
  have h : vhq (vakq N) = (vcr (vbz N) (vaq N)) := (funext fun c0 => (funext fun t2 => (funext fun n3 => (funext fun pairs4 => (vawz N c0 t2 n3 pairs4).trans (by rw [(funext fun c0 => (funext fun t2 => (funext fun n3 => (funext fun pairs4 => (funext fun names7 => (funext fun i8 => vber N c0 t2 n3 pairs4 names7 i8)))))), (funext fun c0 => (funext fun t2 => (funext fun p9 => vane N c0 t2 p9)))])))))
  ((vad (fun st => by kernel_rfl) (fun st => by kernel_rfl)).trans (vady N (vakq N) (fun j st => (vahn N) (.exit j) st) N c0 t2 n3 pairs4 x5)).trans (congrArg (fun k => vhl N k N c0 t2 n3 pairs4 x5) h)
theorem run0_zz11 (N : Nat) (x : (S_zz11).a.den) : runF (A_zz11) N Try.f93 S_zz11 x = (varr (vjg N N (vahn N)) x.1) := by kernel_rfl
theorem run_zz11 (N : Nat) (x : (S_zz11).a.den) : runF (A_zz11) N Try.f93 S_zz11 x = zz11 N x.1 := by
  refine (run0_zz11 N x).trans ?_
  rw [(funext fun c0 => (funext fun t2 => (funext fun n3 => (funext fun pairs4 => (funext fun x5 => vbiu N c0 t2 n3 pairs4 x5)))))]
  rfl
theorem fn_zz11 : FnOk Try.prog 93 := ⟨_, Try.func93, by kernel_rfl, by kernel_rfl⟩
theorem good_zz11 : Gx.Good Try.prog 93 S_zz11 := vxw Try.func93 (of_decide_eq_true (by kernel_rfl)) fun x r h => ⟨A_zz11, big, vbde (vac tabOk), vayf (vab (show SigsOk Try.prog [(87, S_zz4), (95, S_zz5), (96, S_zz8), (50, S_zz3), (98, S_zz9), (39, S_zz2), (120, S_zz10)] from ⟨⟨fn_zz4, good_zz4⟩, ⟨fn_zz5, good_zz5⟩, ⟨fn_zz8, good_zz8⟩, ⟨fn_zz3, good_zz3⟩, ⟨fn_zz9, good_zz9⟩, ⟨fn_zz2, good_zz2⟩, ⟨fn_zz10, good_zz10⟩, trivial⟩)), fun code hc => vdx (ids := [25]) (fun i hi => by simp only [List.mem_cons, List.not_mem_nil, or_false] at hi; simp [A_zz11, hookCfg, hi]) fun c hm => PO.hooks_spec_l1Cur_poset A_zz11 (by rfl) code hc c hm, (run_zz11 big x).trans h⟩
def vaux (rec : Y2 → Y2 → Y2 → Y2 → Int → Int → Int → Y4 → Int → Int → Z3) (k : Y2 → Y2 → Y2 → Y2 → Int → Int → Int → Y4 → Int → Z3) (p2 q3 t4 out5 : Y2) (m6 x7 y8 : Int) (below9 : Y4) (i10 k11 : Int) : Z3 :=
  (atI q3.1 y8).bind fun xq3 =>
  cond (decide (k11 < (xq3.length : Int)))
  ((atI p2.1 x7).bind fun xq4 =>
  (atI xq4 i10).bind fun xq5 =>
  (atI q3.1 y8).bind fun xq6 =>
  (atI xq6 k11).bind fun xq7 =>
  (appI below9 [IntKind.i64.wrap ((IntKind.i64.wrap (xq5 * m6)) + xq7)]).bind fun xq8 =>
  rec p2 q3 t4 out5 m6 x7 y8 xq8 i10 (IntKind.i64.wrap (k11 + (1 : Int))))
  (k p2 q3 t4 out5 m6 x7 y8 below9 i10)
def vabf (rec : Y2 → Y2 → Y2 → Y2 → Int → Int → Int → Y4 → Int → Z3) (p2 q3 t4 out5 : Y2) (m6 x7 y8 : Int) (below9 : Y4) (i10 : Int) : Z3 :=
  rec p2 q3 t4 out5 m6 x7 y8 below9 (IntKind.i64.wrap (i10 + (1 : Int)))
def vaqd (L14 : Y2 → Y2 → Y2 → Y2 → Int → Int → Int → Y4 → Int → Int → Z3) (k : Y2 → Y2 → Y2 → Y2 → Int → Int → Int → Y4 → Z3) (p2 q3 t4 out5 : Y2) (m6 x7 y8 : Int) (below9 : Y4) (i10 : Int) : Z3 :=
  (atI p2.1 x7).bind fun xq1 =>
  cond (decide (i10 < (xq1.length : Int)))
  (L14 p2 q3 t4 out5 m6 x7 y8 below9 i10 (0 : Int))
  (k p2 q3 t4 out5 m6 x7 y8 below9)
def vabj (rec : Y2 → Y2 → Y2 → Y2 → Int → Int → Int → Z3) (p2 q3 t4 out5 : Y2) (m6 x7 y8 : Int) (below9 : Y4) : Z3 :=
  (appI out5.1 [below9]).bind fun xq2 =>
  rec p2 q3 t4 (xq2, ((), out5.2).2) m6 x7 (IntKind.i64.wrap (y8 + (1 : Int)))
def vaza (L11 : Y2 → Y2 → Y2 → Y2 → Int → Int → Int → Y4 → Int → Z3) (k : Y2 → Y2 → Y2 → Y2 → Int → Int → Z3) (p2 q3 t4 out5 : Y2) (m6 x7 y8 : Int) : Z3 :=
  cond (decide (y8 < m6))
  (L11 p2 q3 t4 out5 m6 x7 y8 [] (0 : Int))
  (k p2 q3 t4 out5 m6 x7)
def vamq (rec : Y2 → Y2 → Y2 → Y2 → Int → Int → Z3) (p2 q3 t4 out5 : Y2) (m6 x7 : Int) : Z3 :=
  rec p2 q3 t4 out5 m6 (IntKind.i64.wrap (x7 + (1 : Int)))
def vaze (L7 : Y2 → Y2 → Y2 → Y2 → Int → Int → Int → Z3) (k : Y2 → Y2 → Z3) (p2 q3 t4 out5 : Y2) (m6 x7 : Int) : Z3 :=
  cond (decide (x7 < (p2.1.length : Int)))
  (L7 p2 q3 t4 out5 m6 x7 (0 : Int))
  (k t4 out5)
def vamu (t4 out5 : Y2) : Z3 :=
  some (out5, (()))
def vbfk (L4 : Y2 → Y2 → Y2 → Y2 → Int → Int → Z3) (p_0 q_1 : Y2) : Z3 :=
  L4 p_0 q_1 (([] : Y3), ()) ([], ()) (q_1.1.length : Int) (0 : Int)
def vqv (N : Nat) (k : Y2 → Y2 → Y2 → Y2 → Int → Int → Int → Y4 → Int → Z3) : Nat → Y2 → Y2 → Y2 → Y2 → Int → Int → Int → Y4 → Int → Int → Z3
  | 0, _, _, _, _, _, _, _, _, _, _ => none
  | m + 1, p2, q3, t4, out5, m6, x7, y8, below9, i10, k11 => vaux (vqv N k m) k p2 q3 t4 out5 m6 x7 y8 below9 i10 k11
def vaqf (N : Nat) (rec : Y2 → Y2 → Y2 → Y2 → Int → Int → Int → Y4 → Int → Z3) (k : Y2 → Y2 → Y2 → Y2 → Int → Int → Int → Y4 → Z3) (p2 q3 t4 out5 : Y2) (m6 x7 y8 : Int) (below9 : Y4) (i10 k11 : Int) : Z3 := vqv N (vabf rec) N p2 q3 t4 out5 m6 x7 y8 below9 i10 k11
def vfm (N : Nat) (k : Y2 → Y2 → Y2 → Y2 → Int → Int → Int → Y4 → Z3) : Nat → Y2 → Y2 → Y2 → Y2 → Int → Int → Int → Y4 → Int → Z3
  | 0, _, _, _, _, _, _, _, _, _ => none
  | m + 1, p2, q3, t4, out5, m6, x7, y8, below9, i10 => vaqd (vaqf N (vfm N k m) k) k p2 q3 t4 out5 m6 x7 y8 below9 i10
def varn (N : Nat) (rec : Y2 → Y2 → Y2 → Y2 → Int → Int → Int → Z3) (k : Y2 → Y2 → Y2 → Y2 → Int → Int → Z3) (p2 q3 t4 out5 : Y2) (m6 x7 y8 : Int) (below9 : Y4) (i10 : Int) : Z3 := vfm N (vabj rec) N p2 q3 t4 out5 m6 x7 y8 below9 i10
def vqk (N : Nat) (k : Y2 → Y2 → Y2 → Y2 → Int → Int → Z3) : Nat → Y2 → Y2 → Y2 → Y2 → Int → Int → Int → Z3
  | 0, _, _, _, _, _, _, _ => none
  | m + 1, p2, q3, t4, out5, m6, x7, y8 => vaza (varn N (vqk N k m) k) k p2 q3 t4 out5 m6 x7 y8
def vazu (N : Nat) (rec : Y2 → Y2 → Y2 → Y2 → Int → Int → Z3) (k : Y2 → Y2 → Z3) (p2 q3 t4 out5 : Y2) (m6 x7 y8 : Int) : Z3 := vqk N (vamq rec) N p2 q3 t4 out5 m6 x7 y8
def vqb (N : Nat) (k : Y2 → Y2 → Z3) : Nat → Y2 → Y2 → Y2 → Y2 → Int → Int → Z3
  | 0, _, _, _, _, _, _ => none
  | m + 1, p2, q3, t4, out5, m6, x7 => vaze (vazu N (vqb N k m) k) k p2 q3 t4 out5 m6 x7
def vazl (N : Nat) (p2 q3 t4 out5 : Y2) (m6 x7 : Int) : Z3 := vqb N (vamu) N p2 q3 t4 out5 m6 x7
def zz12 (N : Nat) (p_0 q_1 : Y2) : Z3 := vbfk (vazl N) p_0 q_1
def S_zz12 : Sig := { a := (.pair (.pair (.sl (.sl I)) .unit) (.pair (.pair (.sl (.sl I)) .unit) .unit)), md := [0, 0], mf := [], m := .unit, r := (.pair (.sl (.sl I)) .unit), rf := (.p (.o (.o .i)) .i), f := fun x => zz12 big x.1 x.2.1 }
def A_zz12 : Cfg := mkCfg tab [] [(8, [.drop, .drop, .as y1 (.o .i), .as y1 (.o .i), .as y1 (.o (.p (.o (.o .i)) .i)), .as y1 (.o (.p (.o (.o .i)) .i)), .as I .i, .as I .i]), (14, [.drop, .drop, .as y1 (.o .i), .as y1 (.o .i), .as y1 (.o (.p (.o (.o .i)) .i)), .as y1 (.o (.p (.o (.o .i)) .i)), .as I .i, .as I .i, .as I .i]), (37, [.drop, .drop, .drop, .drop, .as y1 (.o (.p (.o (.o .i)) .i)), .as y1 (.o (.p (.o (.o .i)) .i))]), (22, [.drop, .drop, .as y1 (.o .i), .as y1 (.o .i), .as y1 (.o (.p (.o (.o .i)) .i)), .as y1 (.o (.p (.o (.o .i)) .i)), .as I .i, .as I .i, .as I .i, .as (.sl I) (.o .i), .as I .i]), (11, [.drop, .drop, .as y1 (.o .i), .as y1 (.o .i), .as y1 (.o (.p (.o (.o .i)) .i)), .as y1 (.o (.p (.o (.o .i)) .i)), .as I .i, .as I .i]), (28, [.drop, .drop, .as y1 (.o .i), .as y1 (.o .i), .as y1 (.o (.p (.o (.o .i)) .i)), .as y1 (.o (.p (.o (.o .i)) .i)), .as I .i, .as I .i, .as I .i, .as (.sl I) (.o .i), .as I .i, .as I .i]), (35, [.drop, .drop, .as y1 (.o .i), .as y1 (.o .i), .as y1 (.o (.p (.o (.o .i)) .i)), .as y1 (.o (.p (.o (.o .i)) .i)), .as I .i, .as I .i, .as I .i, .as (.sl I) (.o .i)]), (25, [.drop, .drop, .as y1 (.o .i), .as y1 (.o .i), .as y1 (.o (.p (.o (.o .i)) .i)), .as y1 (.o (.p (.o (.o .i)) .i)), .as I .i, .as I .i, .as I .i, .as (.sl I) (.o .i), .as I .i])]
noncomputable def vfj (N n : Nat) (K : Ex → St → Z3) (p2 q3 t4 out5 : Y2) (m6 x7 : Int) : Z3 := iter ((A_zz12).shape 8) (run (A_zz12) N (codeAt Try.f121 [1, 1, 1, 0, 1, 0, 0])) n ([.u, .u, .val y1 (.o .i) p2, .val y1 (.o .i) q3, .val y1 (.o (.p (.o (.o .i)) .i)) t4, .val y1 (.o (.p (.o (.o .i)) .i)) out5, .val I .i m6, .val I .i x7] ++ List.replicate 71 .u) K
noncomputable def vhz (N n : Nat) (K : Ex → St → Z3) (p2 q3 t4 out5 : Y2) (m6 x7 y8 : Int) : Z3 := iter ((A_zz12).shape 14) (run (A_zz12) N (codeAt Try.f121 [1, 1, 1, 0, 1, 0, 0, 1, 0, 0, 1, 0, 0])) n ([.u, .u, .val y1 (.o .i) p2, .val y1 (.o .i) q3, .val y1 (.o (.p (.o (.o .i)) .i)) t4, .val y1 (.o (.p (.o (.o .i)) .i)) out5, .val I .i m6, .val I .i x7, .val I .i y8] ++ List.replicate 70 .u) K
noncomputable def vee (N n : Nat) (K : Ex → St → Z3) (p2 q3 t4 out5 : Y2) (m6 x7 y8 : Int) (below9 : Y4) (i10 : Int) : Z3 := iter ((A_zz12).shape 22) (run (A_zz12) N (codeAt Try.f121 [1, 1, 1, 0, 1, 0, 0, 1, 0, 0, 1, 0, 0, 1, 0, 0, 1, 0, 1, 0, 0])) n ([.u, .u, .val y1 (.o .i) p2, .val y1 (.o .i) q3, .val y1 (.o (.p (.o (.o .i)) .i)) t4, .val y1 (.o (.p (.o (.o .i)) .i)) out5, .val I .i m6, .val I .i x7, .val I .i y8, .val (.sl I) (.o .i) below9, .val I .i i10] ++ List.replicate 68 .u) K
noncomputable def vfv (N n : Nat) (K : Ex → St → Z3) (p2 q3 t4 out5 : Y2) (m6 x7 y8 : Int) (below9 : Y4) (i10 k11 : Int) : Z3 := iter ((A_zz12).shape 28) (run (A_zz12) N (codeAt Try.f121 [1, 1, 1, 0, 1, 0, 0, 1, 0, 0, 1, 0, 0, 1, 0, 0, 1, 0, 1, 0, 0, 1, 0, 0, 1, 0, 0])) n ([.u, .u, .val y1 (.o .i) p2, .val y1 (.o .i) q3, .val y1 (.o (.p (.o (.o .i)) .i)) t4, .val y1 (.o (.p (.o (.o .i)) .i)) out5, .val I .i m6, .val I .i x7, .val I .i y8, .val (.sl I) (.o .i) below9, .val I .i i10, .val I .i k11] ++ List.replicate 67 .u) K
noncomputable abbrev vsq : Ex → St → Z3 := finish (A_zz12) S_zz12 Try.f121.results.toList
noncomputable abbrev viy (kX : St → Z3) : Y2 → Y2 → Z3 := fun (t4 out5 : Y2) => kX ([.u, .u, .u, .u, .val y1 (.o (.p (.o (.o .i)) .i)) t4, .val y1 (.o (.p (.o (.o .i)) .i)) out5] ++ List.replicate 73 .u)
noncomputable abbrev vje (kX : St → Z3) (kO : Nat → St → Z3) : Ex → St → Z3 := exK vsq 0 ((A_zz12).shape 37) kX kO
noncomputable abbrev vkc (kX : St → Z3) : Y2 → Y2 → Y2 → Y2 → Int → Int → Z3 := fun (p2 q3 t4 out5 : Y2) (m6 x7 : Int) => kX ([.u, .u, .val y1 (.o .i) p2, .val y1 (.o .i) q3, .val y1 (.o (.p (.o (.o .i)) .i)) t4, .val y1 (.o (.p (.o (.o .i)) .i)) out5, .val I .i m6, .val I .i x7] ++ List.replicate 71 .u)
noncomputable abbrev vjx (kX : St → Z3) (kO : Nat → St → Z3) : Ex → St → Z3 := exK vsq 2 ((A_zz12).shape 11) kX kO
noncomputable abbrev vdv (kX : St → Z3) : Y2 → Y2 → Y2 → Y2 → Int → Int → Int → Y4 → Z3 := fun (p2 q3 t4 out5 : Y2) (m6 x7 y8 : Int) (below9 : Y4) => kX ([.u, .u, .val y1 (.o .i) p2, .val y1 (.o .i) q3, .val y1 (.o (.p (.o (.o .i)) .i)) t4, .val y1 (.o (.p (.o (.o .i)) .i)) out5, .val I .i m6, .val I .i x7, .val I .i y8, .val (.sl I) (.o .i) below9] ++ List.replicate 69 .u)
noncomputable abbrev vdz (kX : St → Z3) (kO : Nat → St → Z3) : Ex → St → Z3 := exK vsq 4 ((A_zz12).shape 35) kX kO
noncomputable abbrev vqw (kX : St → Z3) : Y2 → Y2 → Y2 → Y2 → Int → Int → Int → Y4 → Int → Z3 := fun (p2 q3 t4 out5 : Y2) (m6 x7 y8 : Int) (below9 : Y4) (i10 : Int) => kX ([.u, .u, .val y1 (.o .i) p2, .val y1 (.o .i) q3, .val y1 (.o (.p (.o (.o .i)) .i)) t4, .val y1 (.o (.p (.o (.o .i)) .i)) out5, .val I .i m6, .val I .i x7, .val I .i y8, .val (.sl I) (.o .i) below9, .val I .i i10] ++ List.replicate 68 .u)
noncomputable abbrev vwi (kX : St → Z3) (kO : Nat → St → Z3) : Ex → St → Z3 := exK vsq 6 ((A_zz12).shape 25) kX kO
theorem vaxj (N m : Nat) (kX : St → Z3) (kO : Nat → St → Z3) (p2 q3 t4 out5 : Y2) (m6 x7 y8 : Int) (below9 : Y4) (i10 k11 : Int) : vfv N (m + 1) (vwi kX kO) p2 q3 t4 out5 m6 x7 y8 below9 i10 k11 = vaux (vfv N m (vwi kX kO)) (vqw kX) p2 q3 t4 out5 m6 x7 y8 below9 i10 k11 := by kernel_rfl
theorem vaaz (N : Nat) (kX : St → Z3) (kO : Nat → St → Z3) : ∀ (n : Nat) (p2 q3 t4 out5 : Y2) (m6 x7 y8 : Int) (below9 : Y4) (i10 k11 : Int), vfv N n (vwi kX kO) p2 q3 t4 out5 m6 x7 y8 below9 i10 k11 = vqv N (vqw kX) n p2 q3 t4 out5 m6 x7 y8 below9 i10 k11
  | 0, _, _, _, _, _, _, _, _, _, _ => rfl
  | m + 1, p2, q3, t4, out5, m6, x7, y8, below9, i10, k11 => by
    have hrec : vfv N m (vwi kX kO) = (vqv N (vqw kX) m) := (funext fun p2 => (funext fun q3 => (funext fun t4 => (funext fun out5 => (funext fun m6 => (funext fun x7 => (funext fun y8 => (funext fun below9 => (funext fun i10 => (funext fun k11 => vaaz N kX kO m p2 q3 t4 out5 m6 x7 y8 below9 i10 k11))))))))))
    refine (vaxj N m kX kO p2 q3 t4 out5 m6 x7 y8 below9 i10 k11).trans ?_
    rw [hrec]
    rfl
noncomputable abbrev vabw (N m : Nat) (kX : St → Z3) (kO : Nat → St → Z3) : Ex → St → Z3 := (blockK 6 (blockK 5 (seqK ((A_zz12).shape 25) (gated ((A_zz12).shape 500012).isSome N (run (A_zz12) N (codeAt Try.f121 [1, 1, 1, 0, 1, 0, 0, 1, 0, 0, 1, 0, 0, 1, 0, 0, 1, 0, 1, 0, 0, 1, 1]))) (iterK ((A_zz12).shape 22) (run (A_zz12) N (codeAt Try.f121 [1, 1, 1, 0, 1, 0, 0, 1, 0, 0, 1, 0, 0, 1, 0, 0, 1, 0, 1, 0, 0])) m (vdz kX kO)))))
noncomputable abbrev vabx (N m : Nat) (kX : St → Z3) (kO : Nat → St → Z3) : St → Z3 := fun st' => run (A_zz12) N (codeAt Try.f121 [1, 1, 1, 0, 1, 0, 0, 1, 0, 0, 1, 0, 0, 1, 0, 0, 1, 0, 1, 0, 0, 1, 1]) st' (iterK ((A_zz12).shape 22) (run (A_zz12) N (codeAt Try.f121 [1, 1, 1, 0, 1, 0, 0, 1, 0, 0, 1, 0, 0, 1, 0, 0, 1, 0, 1, 0, 0])) m (vdz kX kO))
theorem vauv (N m : Nat) (kX : St → Z3) (kO : Nat → St → Z3) (p2 q3 t4 out5 : Y2) (m6 x7 y8 : Int) (below9 : Y4) (i10 : Int) : vqw (vabx N m kX kO) p2 q3 t4 out5 m6 x7 y8 below9 i10 = vabf (vee N m (vdz kX kO)) p2 q3 t4 out5 m6 x7 y8 below9 i10 := by kernel_rfl
theorem vbhg (N m : Nat) (kX : St → Z3) (kO : Nat → St → Z3) (recF : Y2 → Y2 → Y2 → Y2 → Int → Int → Int → Y4 → Int → Z3) (hrec : vee N m (vdz kX kO) = recF) (p2 q3 t4 out5 : Y2) (m6 x7 y8 : Int) (below9 : Y4) (i10 k11 : Int) : vfv N N (vabw N m kX kO) p2 q3 t4 out5 m6 x7 y8 below9 i10 k11 = vaqf N recF (vdv kX) p2 q3 t4 out5 m6 x7 y8 below9 i10 k11 :=
  have h : vqw (vabx N m kX kO) = (vabf recF) := (funext fun p2 => (funext fun q3 => (funext fun t4 => (funext fun out5 => (funext fun m6 => (funext fun x7 => (funext fun y8 => (funext fun below9 => (funext fun i10 => (vauv N m kX kO p2 q3 t4 out5 m6 x7 y8 below9 i10).trans (by rw [hrec]))))))))))
  ((vad (fun st => by kernel_rfl) (fun st => by kernel_rfl)).trans (vaaz N (vabx N m kX kO) (fun j st => (vabw N m kX kO) (.exit j) st) N p2 q3 t4 out5 m6 x7 y8 below9 i10 k11)).trans (congrArg (fun k => vqv N k N p2 q3 t4 out5 m6 x7 y8 below9 i10 k11) h)
theorem vawd (N m : Nat) (kX : St → Z3) (kO : Nat → St → Z3) (p2 q3 t4 out5 : Y2) (m6 x7 y8 : Int) (below9 : Y4) (i10 : Int) : vee N (m + 1) (vdz kX kO) p2 q3 t4 out5 m6 x7 y8 below9 i10 = vaqd (vfv N N (vabw N m kX kO)) (vdv kX) p2 q3 t4 out5 m6 x7 y8 below9 i10 := by kernel_rfl
theorem vaai (N : Nat) (kX : St → Z3) (kO : Nat → St → Z3) : ∀ (n : Nat) (p2 q3 t4 out5 : Y2) (m6 x7 y8 : Int) (below9 : Y4) (i10 : Int), vee N n (vdz kX kO) p2 q3 t4 out5 m6 x7 y8 below9 i10 = vfm N (vdv kX) n p2 q3 t4 out5 m6 x7 y8 below9 i10
  | 0, _, _, _, _, _, _, _, _, _ => rfl
  | m + 1, p2, q3, t4, out5, m6, x7, y8, below9, i10 => by
    have hrec : vee N m (vdz kX kO) = (vfm N (vdv kX) m) := (funext fun p2 => (funext fun q3 => (funext fun t4 => (funext fun out5 => (funext fun m6 => (funext fun x7 => (funext fun y8 => (funext fun below9 => (funext fun i10 => vaai N kX kO m p2 q3 t4 out5 m6 x7 y8 below9 i10)))))))))
    refine (vawd N m kX kO p2 q3 t4 out5 m6 x7 y8 below9 i10).trans ?_
    rw [(funext fun p2 => (funext fun q3 => (funext fun t4 => (funext fun out5 => (funext fun m6 => (funext fun x7 => (funext fun y8 => (funext fun below9 => (funext fun i10 => (funext fun k11 => vbhg N m kX kO (vfm N (vdv kX) m) hrec p2 q3 t4 out5 m6 x7 y8 below9 i10 k11))))))))))]
    rfl
noncomputable abbrev vaba (N m : Nat) (kX : St → Z3) (kO : Nat → St → Z3) : Ex → St → Z3 := (blockK 4 (seqK ((A_zz12).shape 35) (gated ((A_zz12).shape 500017).isSome N (run (A_zz12) N (codeAt Try.f121 [1, 1, 1, 0, 1, 0, 0, 1, 0, 0, 1, 0, 0, 1, 0, 0, 1, 1]))) (blockK 3 (seqK ((A_zz12).shape 17) (gated ((A_zz12).shape 500008).isSome N (run (A_zz12) N (codeAt Try.f121 [1, 1, 1, 0, 1, 0, 0, 1, 0, 0, 1, 0, 0, 1, 1]))) (iterK ((A_zz12).shape 14) (run (A_zz12) N (codeAt Try.f121 [1, 1, 1, 0, 1, 0, 0, 1, 0, 0, 1, 0, 0])) m (vjx kX kO))))))
noncomputable abbrev vabq (N m : Nat) (kX : St → Z3) (kO : Nat → St → Z3) : St → Z3 := fun st' => run (A_zz12) N (codeAt Try.f121 [1, 1, 1, 0, 1, 0, 0, 1, 0, 0, 1, 0, 0, 1, 0, 0, 1, 1]) st' (blockK 3 (seqK ((A_zz12).shape 17) (gated ((A_zz12).shape 500008).isSome N (run (A_zz12) N (codeAt Try.f121 [1, 1, 1, 0, 1, 0, 0, 1, 0, 0, 1, 0, 0, 1, 1]))) (iterK ((A_zz12).shape 14) (run (A_zz12) N (codeAt Try.f121 [1, 1, 1, 0, 1, 0, 0, 1, 0, 0, 1, 0, 0])) m (vjx kX kO))))
theorem vaub (N m : Nat) (kX : St → Z3) (kO : Nat → St → Z3) (p2 q3 t4 out5 : Y2) (m6 x7 y8 : Int) (below9 : Y4) : vdv (vabq N m kX kO) p2 q3 t4 out5 m6 x7 y8 below9 = vabj (vhz N m (vjx kX kO)) p2 q3 t4 out5 m6 x7 y8 below9 := by kernel_rfl
theorem vbhj (N m : Nat) (kX : St → Z3) (kO : Nat → St → Z3) (recF : Y2 → Y2 → Y2 → Y2 → Int → Int → Int → Z3) (hrec : vhz N m (vjx kX kO) = recF) (p2 q3 t4 out5 : Y2) (m6 x7 y8 : Int) (below9 : Y4) (i10 : Int) : vee N N (vaba N m kX kO) p2 q3 t4 out5 m6 x7 y8 below9 i10 = varn N recF (vkc kX) p2 q3 t4 out5 m6 x7 y8 below9 i10 :=
  have h : vdv (vabq N m kX kO) = (vabj recF) := (funext fun p2 => (funext fun q3 => (funext fun t4 => (funext fun out5 => (funext fun m6 => (funext fun x7 => (funext fun y8 => (funext fun below9 => (vaub N m kX kO p2 q3 t4 out5 m6 x7 y8 below9).trans (by rw [hrec])))))))))
  ((vad (fun st => by kernel_rfl) (fun st => by kernel_rfl)).trans (vaai N (vabq N m kX kO) (fun j st => (vaba N m kX kO) (.exit j) st) N p2 q3 t4 out5 m6 x7 y8 below9 i10)).trans (congrArg (fun k => vfm N k N p2 q3 t4 out5 m6 x7 y8 below9 i10) h)
theorem vbar (N m : Nat) (kX : St → Z3) (kO : Nat → St → Z3) (p2 q3 t4 out5 : Y2) (m6 x7 y8 : Int) : vhz N (m + 1) (vjx kX kO) p2 q3 t4 out5 m6 x7 y8 = vaza (vee N N (vaba N m kX kO)) (vkc kX) p2 q3 t4 out5 m6 x7 y8 := by kernel_rfl
theorem vagh (N : Nat) (kX : St → Z3) (kO : Nat → St → Z3) : ∀ (n : Nat) (p2 q3 t4 out5 : Y2) (m6 x7 y8 : Int), vhz N n (vjx kX kO) p2 q3 t4 out5 m6 x7 y8 = vqk N (vkc kX) n p2 q3 t4 out5 m6 x7 y8
  | 0, _, _, _, _, _, _, _ => rfl
  | m + 1, p2, q3, t4, out5, m6, x7, y8 => by
    have hrec : vhz N m (vjx kX kO) = (vqk N (vkc kX) m) := (funext fun p2 => (funext fun q3 => (funext fun t4 => (funext fun out5 => (funext fun m6 => (funext fun x7 => (funext fun y8 => vagh N kX kO m p2 q3 t4 out5 m6 x7 y8)))))))
    refine (vbar N m kX kO p2 q3 t4 out5 m6 x7 y8).trans ?_
    rw [(funext fun p2 => (funext fun q3 => (funext fun t4 => (funext fun out5 => (funext fun m6 => (funext fun x7 => (funext fun y8 => (funext fun below9 => (funext fun i10 => vbhj N m kX kO (vqk N (vkc kX) m) hrec p2 q3 t4 out5 m6 x7 y8 below9 i10)))))))))]
    rfl
noncomputable abbrev vaku (N m : Nat) (kX : St → Z3) (kO : Nat → St → Z3) : Ex → St → Z3 := (blockK 2 (blockK 1 (seqK ((A_zz12).shape 11) (gated ((A_zz12).shape 500005).isSome N (run (A_zz12) N (codeAt Try.f121 [1, 1, 1, 0, 1, 0, 0, 1, 1]))) (iterK ((A_zz12).shape 8) (run (A_zz12) N (codeAt Try.f121 [1, 1, 1, 0, 1, 0, 0])) m (vje kX kO)))))
noncomputable abbrev vahx (N m : Nat) (kX : St → Z3) (kO : Nat → St → Z3) : St → Z3 := fun st' => run (A_zz12) N (codeAt Try.f121 [1, 1, 1, 0, 1, 0, 0, 1, 1]) st' (iterK ((A_zz12).shape 8) (run (A_zz12) N (codeAt Try.f121 [1, 1, 1, 0, 1, 0, 0])) m (vje kX kO))
theorem vawx (N m : Nat) (kX : St → Z3) (kO : Nat → St → Z3) (p2 q3 t4 out5 : Y2) (m6 x7 : Int) : vkc (vahx N m kX kO) p2 q3 t4 out5 m6 x7 = vamq (vfj N m (vje kX kO)) p2 q3 t4 out5 m6 x7 := by kernel_rfl
theorem vbjq (N m : Nat) (kX : St → Z3) (kO : Nat → St → Z3) (recF : Y2 → Y2 → Y2 → Y2 → Int → Int → Z3) (hrec : vfj N m (vje kX kO) = recF) (p2 q3 t4 out5 : Y2) (m6 x7 y8 : Int) : vhz N N (vaku N m kX kO) p2 q3 t4 out5 m6 x7 y8 = vazu N recF (viy kX) p2 q3 t4 out5 m6 x7 y8 :=
  have h : vkc (vahx N m kX kO) = (vamq recF) := (funext fun p2 => (funext fun q3 => (funext fun t4 => (funext fun out5 => (funext fun m6 => (funext fun x7 => (vawx N m kX kO p2 q3 t4 out5 m6 x7).trans (by rw [hrec])))))))
  ((vad (fun st => by kernel_rfl) (fun st => by kernel_rfl)).trans (vagh N (vahx N m kX kO) (fun j st => (vaku N m kX kO) (.exit j) st) N p2 q3 t4 out5 m6 x7 y8)).trans (congrArg (fun k => vqk N k N p2 q3 t4 out5 m6 x7 y8) h)
theorem vbdo (N m : Nat) (kX : St → Z3) (kO : Nat → St → Z3) (p2 q3 t4 out5 : Y2) (m6 x7 : Int) : vfj N (m + 1) (vje kX kO) p2 q3 t4 out5 m6 x7 = vaze (vhz N N (vaku N m kX kO)) (viy kX) p2 q3 t4 out5 m6 x7 := by kernel_rfl
theorem vafi (N : Nat) (kX : St → Z3) (kO : Nat → St → Z3) : ∀ (n : Nat) (p2 q3 t4 out5 : Y2) (m6 x7 : Int), vfj N n (vje kX kO) p2 q3 t4 out5 m6 x7 = vqb N (viy kX) n p2 q3 t4 out5 m6 x7
  | 0, _, _, _, _, _, _ => rfl
  | m + 1, p2, q3, t4, out5, m6, x7 => by
    have hrec : vfj N m (vje kX kO) = (vqb N (viy kX) m) := (funext fun p2 => (funext fun q3 => (funext fun t4 => (funext fun out5 => (funext fun m6 => (funext fun x7 => vafi N kX kO m p2 q3 t4 out5 m6 x7))))))
    refine (vbdo N m kX kO p2 q3 t4 out5 m6 x7).trans ?_
    rw [(funext fun p2 => (funext fun q3 => (funext fun t4 => (funext fun out5 => (funext fun m6 => (funext fun x7 => (funext fun y8 => vbjq N m kX kO (vqb N (viy kX) m) hrec p2 q3 t4 out5 m6 x7 y8)))))))]
    rfl
noncomputable abbrev vaiv (N : Nat) : Ex → St → Z3 := (blockK 0 (seqK ((A_zz12).shape 37) (gated ((A_zz12).shape 500018).isSome N (run (A_zz12) N (codeAt Try.f121 [1, 1, 1, 1]))) vsq))
noncomputable abbrev vagx (N : Nat) : St → Z3 := fun st' => run (A_zz12) N (codeAt Try.f121 [1, 1, 1, 1]) st' vsq
theorem vaxa (N : Nat) (t4 out5 : Y2) : viy (vagx N) t4 out5 = vamu t4 out5 := by kernel_rfl
theorem vbky (N : Nat) (p2 q3 t4 out5 : Y2) (m6 x7 : Int) : vfj N N (vaiv N) p2 q3 t4 out5 m6 x7 = vazl N p2 q3 t4 out5 m6 x7 :=
  have h : viy (vagx N) = (vamu) := (funext fun t4 => (funext fun out5 => vaxa N t4 out5))
  ((vad (fun st => by kernel_rfl) (fun st => by kernel_rfl)).trans (vafi N (vagx N) (fun j st => (vaiv N) (.exit j) st) N p2 q3 t4 out5 m6 x7)).trans (congrArg (fun k => vqb N k N p2 q3 t4 out5 m6 x7) h)
theorem run0_zz12 (N : Nat) (x : (S_zz12).a.den) : runF (A_zz12) N Try.f121 S_zz12 x = (vbfk (vfj N N (vaiv N)) x.1 x.2.1) := by kernel_rfl
theorem run_zz12 (N : Nat) (x : (S_zz12).a.den) : runF (A_zz12) N Try.f121 S_zz12 x = zz12 N x.1 x.2.1 := by
  refine (run0_zz12 N x).trans ?_
  rw [(funext fun p2 => (funext fun q3 => (funext fun t4 => (funext fun out5 => (funext fun m6 => (funext fun x7 => vbky N p2 q3 t4 out5 m6 x7))))))]
  rfl
theorem fn_zz12 : FnOk Try.prog 121 := ⟨_, Try.func121, by kernel_rfl, by kernel_rfl⟩
theorem good_zz12 : Gx.Good Try.prog 121 S_zz12 := vaa Try.func121 (of_decide_eq_true (by kernel_rfl)) fun x r h => ⟨A_zz12, big, vac tabOk, vab (show SigsOk Try.prog [] from trivial), (run_zz12 big x).trans h⟩
def vbqi (k_0 : Int) : Z3 :=
  cond (decide (k_0 = (0 : Int)))
  ((zz9 big (1 : Int) []).bind fun rq1 =>
  some (rq1.1, (())))
  (cond (decide (k_0 = (1 : Int)))
  ((zz9 big (2 : Int) [((0 : Int), ((1 : Int), ()))]).bind fun rq2 =>
  some (rq2.1, (())))
  (cond (decide (k_0 = (2 : Int)))
  ((zz9 big (4 : Int) [((0 : Int), ((1 : Int), ())), ((1 : Int), ((2 : Int), ())), ((2 : Int), ((3 : Int), ()))]).bind fun rq3 =>
  some (rq3.1, (())))
  (cond (decide (k_0 = (3 : Int)))
  ((zz9 big (4 : Int) [((0 : Int), ((1 : Int), ())), ((0 : Int), ((2 : Int), ())), ((1 : Int), ((3 : Int), ())), ((2 : Int), ((3 : Int), ()))]).bind fun rq4 =>
  some (rq4.1, (())))
  (cond (decide (k_0 = (4 : Int)))
  ((zz9 big (5 : Int) [((0 : Int), ((1 : Int), ())), ((0 : Int), ((2 : Int), ())), ((0 : Int), ((3 : Int), ())), ((1 : Int), ((4 : Int), ())), ((2 : Int), ((4 : Int), ())), ((3 : Int), ((4 : Int), ()))]).bind fun rq5 =>
  some (rq5.1, (())))
  (cond (decide (k_0 = (5 : Int)))
  ((zz9 big (5 : Int) [((0 : Int), ((1 : Int), ())), ((1 : Int), ((2 : Int), ())), ((0 : Int), ((3 : Int), ())), ((2 : Int), ((4 : Int), ())), ((3 : Int), ((4 : Int), ()))]).bind fun rq6 =>
  some (rq6.1, (())))
  (cond (decide (k_0 = (6 : Int)))
  ((zz9 big (8 : Int) [((0 : Int), ((1 : Int), ())), ((0 : Int), ((2 : Int), ())), ((0 : Int), ((3 : Int), ())), ((1 : Int), ((4 : Int), ())), ((1 : Int), ((5 : Int), ())), ((2 : Int), ((4 : Int), ())), ((2 : Int), ((6 : Int), ())), ((3 : Int), ((5 : Int), ())), ((3 : Int), ((6 : Int), ())), ((4 : Int), ((7 : Int), ())), ((5 : Int), ((7 : Int), ())), ((6 : Int), ((7 : Int), ()))]).bind fun rq7 =>
  some (rq7.1, (())))
  (cond (decide (k_0 = (7 : Int)))
  ((zz9 big (6 : Int) [((0 : Int), ((1 : Int), ())), ((0 : Int), ((2 : Int), ())), ((1 : Int), ((3 : Int), ())), ((2 : Int), ((3 : Int), ())), ((2 : Int), ((4 : Int), ())), ((3 : Int), ((5 : Int), ())), ((4 : Int), ((5 : Int), ()))]).bind fun rq8 =>
  some (rq8.1, (())))
  (cond (decide (k_0 = (8 : Int)))
  ((zz9 big (6 : Int) [((0 : Int), ((1 : Int), ())), ((0 : Int), ((2 : Int), ())), ((1 : Int), ((3 : Int), ())), ((2 : Int), ((4 : Int), ())), ((3 : Int), ((5 : Int), ())), ((4 : Int), ((5 : Int), ()))]).bind fun rq9 =>
  some (rq9.1, (())))
  (cond (decide (k_0 = (9 : Int)))
  ((zz9 big (7 : Int) [((0 : Int), ((1 : Int), ())), ((0 : Int), ((2 : Int), ())), ((0 : Int), ((3 : Int), ())), ((1 : Int), ((4 : Int), ())), ((2 : Int), ((4 : Int), ())), ((3 : Int), ((5 : Int), ())), ((2 : Int), ((5 : Int), ())), ((4 : Int), ((6 : Int), ())), ((5 : Int), ((6 : Int), ()))]).bind fun rq10 =>
  some (rq10.1, (())))
  (cond (decide (k_0 = (10 : Int)))
  ((zz9 big (3 : Int) [((0 : Int), ((1 : Int), ())), ((1 : Int), ((2 : Int), ()))]).bind fun rq11 =>
  (zz9 big (3 : Int) [((0 : Int), ((1 : Int), ())), ((1 : Int), ((2 : Int), ()))]).bind fun rq12 =>
  (zz12 big rq11.1 rq12.1).bind fun rq13 =>
  some (rq13.1, (())))
  ((zz9 big (3 : Int) [((0 : Int), ((1 : Int), ())), ((1 : Int), ((2 : Int), ()))]).bind fun rq14 =>
  some (rq14.1, (())))))))))))))
def zz13 (k_0 : Int) : Z3 := vbqi k_0
def S_zz13 : Sig := { a := (.pair I .unit), md := [0], mf := [], m := .unit, r := (.pair (.sl (.sl I)) .unit), rf := (.p (.o (.o .i)) .i), f := fun x => zz13 x.1 }
def A_zz13 : Cfg := mkCfg tab [(98, S_zz9), (121, S_zz12)] []
theorem run_zz13 (N : Nat) (x : (S_zz13).a.den) : runF (A_zz13) N Try.f94 S_zz13 x = zz13 x.1 := by kernel_rfl
theorem fn_zz13 : FnOk Try.prog 94 := ⟨_, Try.func94, by kernel_rfl, by kernel_rfl⟩
theorem good_zz13 : Gx.Good Try.prog 94 S_zz13 := vaa Try.func94 (of_decide_eq_true (by kernel_rfl)) fun x r h => ⟨A_zz13, big, vac tabOk, vab (show SigsOk Try.prog [(98, S_zz9), (121, S_zz12)] from ⟨⟨fn_zz9, good_zz9⟩, ⟨fn_zz12, good_zz12⟩, trivial⟩), (run_zz13 big x).trans h⟩
def vpq (rec : Y4 → Int → Int → Z0) (k : Z0) (l0 : Y4) (n1 i5 : Int) : Z0 :=
  cond (decide (i5 < (l0.length : Int)))
  ((atI l0 i5).bind fun xq1 =>
  cond (decide (xq1 = n1))
  (some (true, (())))
  (rec l0 n1 (IntKind.i64.wrap (i5 + (1 : Int)))))
  (k)
def vfh : Z0 :=
  some (false, (()))
def vaqy (L2 : Y4 → Int → Int → Z0) (l_0 : Y4) (n_1 : Int) : Z0 :=
  L2 l_0 n_1 (0 : Int)
def vms (N : Nat) (k : Z0) : Nat → Y4 → Int → Int → Z0
  | 0, _, _, _ => none
  | m + 1, l0, n1, i5 => vpq (vms N k m) k l0 n1 i5
def vajj (N : Nat) (l0 : Y4) (n1 i5 : Int) : Z0 := vms N (vfh) N l0 n1 i5
def zz14 (N : Nat) (l_0 : Y4) (n_1 : Int) : Z0 := vaqy (vajj N) l_0 n_1
def S_zz14 : Sig := { a := (.pair (.sl I) (.pair I .unit)), md := [0, 0], mf := [], m := .unit, r := .bool, rf := .i, f := fun x => zz14 big x.1 x.2.1 }
def A_zz14 : Cfg := mkCfg tab [] [(4, [.as (.sl I) .i, .as I .i, .drop, .drop, .drop, .as I .i]), (13, [])]
noncomputable def vlm (N n : Nat) (K : Ex → St → Z0) (l0 : Y4) (n1 i5 : Int) : Z0 := iter ((A_zz14).shape 4) (run (A_zz14) N (codeAt Try.f69 [1, 0, 1, 0, 0])) n ([.val (.sl I) .i l0, .val I .i n1, .u, .u, .u, .val I .i i5] ++ List.replicate 12 .u) K
noncomputable abbrev vasr : Ex → St → Z0 := finish (A_zz14) S_zz14 Try.f69.results.toList
noncomputable abbrev vuc (kX : St → Z0) : Z0 := kX ([] ++ List.replicate 18 .u)
noncomputable abbrev vxy (kX : St → Z0) (kO : Nat → St → Z0) : Ex → St → Z0 := exK vasr 0 ((A_zz14).shape 13) kX kO
theorem vbch (N m : Nat) (kX : St → Z0) (kO : Nat → St → Z0) (l0 : Y4) (n1 i5 : Int) : vlm N (m + 1) (vxy kX kO) l0 n1 i5 = vpq (vlm N m (vxy kX kO)) (vuc kX) l0 n1 i5 := by kernel_rfl
theorem vaer (N : Nat) (kX : St → Z0) (kO : Nat → St → Z0) : ∀ (n : Nat) (l0 : Y4) (n1 i5 : Int), vlm N n (vxy kX kO) l0 n1 i5 = vms N (vuc kX) n l0 n1 i5
  | 0, _, _, _ => rfl
  | m + 1, l0, n1, i5 => by
    have hrec : vlm N m (vxy kX kO) = (vms N (vuc kX) m) := (funext fun l0 => (funext fun n1 => (funext fun i5 => vaer N kX kO m l0 n1 i5)))
    refine (vbch N m kX kO l0 n1 i5).trans ?_
    rw [hrec]
    rfl
noncomputable abbrev vagv (N : Nat) : Ex → St → Z0 := (blockK 0 (seqK ((A_zz14).shape 13) (gated ((A_zz14).shape 500006).isSome N (run (A_zz14) N (codeAt Try.f69 [1, 1]))) vasr))
noncomputable abbrev vajt (N : Nat) : St → Z0 := fun st' => run (A_zz14) N (codeAt Try.f69 [1, 1]) st' vasr
theorem vaxq (N : Nat) : vuc (vajt N) = vfh := by kernel_rfl
theorem vbll (N : Nat) (l0 : Y4) (n1 i5 : Int) : vlm N N (vagv N) l0 n1 i5 = vajj N l0 n1 i5 :=
  have h : vuc (vajt N) = (vfh) := vaxq N
  ((vad (fun st => by kernel_rfl) (fun st => by kernel_rfl)).trans (vaer N (vajt N) (fun j st => (vagv N) (.exit j) st) N l0 n1 i5)).trans (congrArg (fun k => vms N k N l0 n1 i5) h)
theorem run0_zz14 (N : Nat) (x : (S_zz14).a.den) : runF (A_zz14) N Try.f69 S_zz14 x = (vaqy (vlm N N (vagv N)) x.1 x.2.1) := by kernel_rfl
theorem run_zz14 (N : Nat) (x : (S_zz14).a.den) : runF (A_zz14) N Try.f69 S_zz14 x = zz14 N x.1 x.2.1 := by
  refine (run0_zz14 N x).trans ?_
  rw [(funext fun l0 => (funext fun n1 => (funext fun i5 => vbll N l0 n1 i5)))]
  rfl
theorem fn_zz14 : FnOk Try.prog 69 := ⟨_, Try.func69, by kernel_rfl, by kernel_rfl⟩
theorem good_zz14 : Gx.Good Try.prog 69 S_zz14 := vaa Try.func69 (of_decide_eq_true (by kernel_rfl)) fun x r h => ⟨A_zz14, big, vac tabOk, vab (show SigsOk Try.prog [] from trivial), (run_zz14 big x).trans h⟩
def vbei (p_0 : Y2) (x_1 y_2 : Int) : Z0 :=
  (atI p_0.1 y_2).bind fun xq1 =>
  (zz14 big xq1 x_1).bind fun rq2 =>
  some (rq2.1, (()))
def zz15 (p_0 : Y2) (x_1 y_2 : Int) : Z0 := vbei p_0 x_1 y_2
def S_zz15 : Sig := { a := (.pair (.pair (.sl (.sl I)) .unit) (.pair I (.pair I .unit))), md := [0, 0, 0], mf := [], m := .unit, r := .bool, rf := .i, f := fun x => zz15 x.1 x.2.1 x.2.2.1 }
def A_zz15 : Cfg := mkCfg tab [(69, S_zz14)] []
theorem run_zz15 (N : Nat) (x : (S_zz15).a.den) : runF (A_zz15) N Try.f78 S_zz15 x = zz15 x.1 x.2.1 x.2.2.1 := by kernel_rfl
theorem fn_zz15 : FnOk Try.prog 78 := ⟨_, Try.func78, by kernel_rfl, by kernel_rfl⟩
theorem good_zz15 : Gx.Good Try.prog 78 S_zz15 := vaa Try.func78 (of_decide_eq_true (by kernel_rfl)) fun x r h => ⟨A_zz15, big, vac tabOk, vab (show SigsOk Try.prog [(69, S_zz14)] from ⟨⟨fn_zz14, good_zz14⟩, trivial⟩), (run_zz15 big x).trans h⟩
def vbpv (p_0 : Y2) (x_1 y_2 : Int) : Z0 :=
  cond (decide (x_1 ≠ y_2))
  ((zz15 p_0 x_1 y_2).bind fun rq1 =>
  some (rq1.1, (())))
  (some (false, (())))
def zz16 (p_0 : Y2) (x_1 y_2 : Int) : Z0 := vbpv p_0 x_1 y_2
def S_zz16 : Sig := { a := (.pair (.pair (.sl (.sl I)) .unit) (.pair I (.pair I .unit))), md := [0, 0, 0], mf := [], m := .unit, r := .bool, rf := .i, f := fun x => zz16 x.1 x.2.1 x.2.2.1 }
def A_zz16 : Cfg := mkCfg tab [(78, S_zz15)] []
theorem run_zz16 (N : Nat) (x : (S_zz16).a.den) : runF (A_zz16) N Try.f128 S_zz16 x = zz16 x.1 x.2.1 x.2.2.1 := by kernel_rfl
theorem fn_zz16 : FnOk Try.prog 128 := ⟨_, Try.func128, by kernel_rfl, by kernel_rfl⟩
theorem good_zz16 : Gx.Good Try.prog 128 S_zz16 := vaa Try.func128 (of_decide_eq_true (by kernel_rfl)) fun x r h => ⟨A_zz16, big, vac tabOk, vab (show SigsOk Try.prog [(78, S_zz15)] from ⟨⟨fn_zz15, good_zz15⟩, trivial⟩), (run_zz16 big x).trans h⟩
def vayt (rec : Int → Int → Y2 → Int → Z0) (k : Z0) (x1 y2 : Int) (p3 : Y2) (z7 : Int) : Z0 :=
  cond (decide (z7 < (p3.1.length : Int)))
  ((zz16 p3 x1 z7).bind fun rq2 =>
  cond rq2.1
  ((zz16 p3 z7 y2).bind fun rq3 =>
  cond rq3.1
  (some (false, (())))
  (rec x1 y2 p3 (IntKind.i64.wrap (z7 + (1 : Int)))))
  (rec x1 y2 p3 (IntKind.i64.wrap (z7 + (1 : Int)))))
  (k)
def vahf : Z0 :=
  some (true, (()))
def vbek (L4 : Int → Int → Y2 → Int → Z0) (p_0 : Y2) (x_1 y_2 : Int) : Z0 :=
  (zz16 p_0 x_1 y_2).bind fun rq1 =>
  cond (!rq1.1)
  (some (false, (())))
  (L4 x_1 y_2 p_0 (0 : Int))
def vug (N : Nat) (k : Z0) : Nat → Int → Int → Y2 → Int → Z0
  | 0, _, _, _, _ => none
  | m + 1, x1, y2, p3, z7 => vayt (vug N k m) k x1 y2 p3 z7
def vazj (N : Nat) (x1 y2 : Int) (p3 : Y2) (z7 : Int) : Z0 := vug N (vahf) N x1 y2 p3 z7
def zz17 (N : Nat) (p_0 : Y2) (x_1 y_2 : Int) : Z0 := vbek (vazj N) p_0 x_1 y_2
def S_zz17 : Sig := { a := (.pair (.pair (.sl (.sl I)) .unit) (.pair I (.pair I .unit))), md := [0, 0, 0], mf := [], m := .unit, r := .bool, rf := .i, f := fun x => zz17 big x.1 x.2.1 x.2.2.1 }
def A_zz17 : Cfg := mkCfg tab [(128, S_zz16)] [(8, [.drop, .as I .i, .as I .i, .as y1 (.o .i), .drop, .drop, .drop, .as I .i]), (17, [])]
noncomputable def vni (N n : Nat) (K : Ex → St → Z0) (x1 y2 : Int) (p3 : Y2) (z7 : Int) : Z0 := iter ((A_zz17).shape 8) (run (A_zz17) N (codeAt Try.f122 [1, 1, 0, 1, 0, 0])) n ([.u, .val I .i x1, .val I .i y2, .val y1 (.o .i) p3, .u, .u, .u, .val I .i z7] ++ List.replicate 22 .u) K
noncomputable abbrev vatf : Ex → St → Z0 := finish (A_zz17) S_zz17 Try.f122.results.toList
noncomputable abbrev vtc (kX : St → Z0) : Z0 := kX ([] ++ List.replicate 30 .u)
noncomputable abbrev vyt (kX : St → Z0) (kO : Nat → St → Z0) : Ex → St → Z0 := exK vatf 0 ((A_zz17).shape 17) kX kO
theorem vbdp (N m : Nat) (kX : St → Z0) (kO : Nat → St → Z0) (x1 y2 : Int) (p3 : Y2) (z7 : Int) : vni N (m + 1) (vyt kX kO) x1 y2 p3 z7 = vayt (vni N m (vyt kX kO)) (vtc kX) x1 y2 p3 z7 := by kernel_rfl
theorem vagd (N : Nat) (kX : St → Z0) (kO : Nat → St → Z0) : ∀ (n : Nat) (x1 y2 : Int) (p3 : Y2) (z7 : Int), vni N n (vyt kX kO) x1 y2 p3 z7 = vug N (vtc kX) n x1 y2 p3 z7
  | 0, _, _, _, _ => rfl
  | m + 1, x1, y2, p3, z7 => by
    have hrec : vni N m (vyt kX kO) = (vug N (vtc kX) m) := (funext fun x1 => (funext fun y2 => (funext fun p3 => (funext fun z7 => vagd N kX kO m x1 y2 p3 z7))))
    refine (vbdp N m kX kO x1 y2 p3 z7).trans ?_
    rw [hrec]
    rfl
noncomputable abbrev vakr (N : Nat) : Ex → St → Z0 := (blockK 0 (seqK ((A_zz17).shape 17) (gated ((A_zz17).shape 500008).isSome N (run (A_zz17) N (codeAt Try.f122 [1, 1, 1]))) vatf))
noncomputable abbrev vakd (N : Nat) : St → Z0 := fun st' => run (A_zz17) N (codeAt Try.f122 [1, 1, 1]) st' vatf
theorem vaxn (N : Nat) : vtc (vakd N) = vahf := by kernel_rfl
theorem vblc (N : Nat) (x1 y2 : Int) (p3 : Y2) (z7 : Int) : vni N N (vakr N) x1 y2 p3 z7 = vazj N x1 y2 p3 z7 :=
  have h : vtc (vakd N) = (vahf) := vaxn N
  ((vad (fun st => by kernel_rfl) (fun st => by kernel_rfl)).trans (vagd N (vakd N) (fun j st => (vakr N) (.exit j) st) N x1 y2 p3 z7)).trans (congrArg (fun k => vug N k N x1 y2 p3 z7) h)
theorem run0_zz17 (N : Nat) (x : (S_zz17).a.den) : runF (A_zz17) N Try.f122 S_zz17 x = (vbek (vni N N (vakr N)) x.1 x.2.1 x.2.2.1) := by kernel_rfl
theorem run_zz17 (N : Nat) (x : (S_zz17).a.den) : runF (A_zz17) N Try.f122 S_zz17 x = zz17 N x.1 x.2.1 x.2.2.1 := by
  refine (run0_zz17 N x).trans ?_
  rw [(funext fun x1 => (funext fun y2 => (funext fun p3 => (funext fun z7 => vblc N x1 y2 p3 z7))))]
  rfl
theorem fn_zz17 : FnOk Try.prog 122 := ⟨_, Try.func122, by kernel_rfl, by kernel_rfl⟩
theorem good_zz17 : Gx.Good Try.prog 122 S_zz17 := vaa Try.func122 (of_decide_eq_true (by kernel_rfl)) fun x r h => ⟨A_zz17, big, vac tabOk, vab (show SigsOk Try.prog [(128, S_zz16)] from ⟨⟨fn_zz16, good_zz16⟩, trivial⟩), (run_zz17 big x).trans h⟩
def vazz (rec : Y2 → Z12 → Int → Int → Z14) (k : Y2 → Z12 → Int → Z14) (p1 : Y2) (out3 : Z12) (x4 y5 : Int) : Z14 :=
  cond (decide (y5 < (p1.1.length : Int)))
  ((zz17 big p1 x4 y5).bind fun rq1 =>
  cond rq1.1
  ((appI out3 [(x4, (y5, ()))]).bind fun xq2 =>
  rec p1 xq2 x4 (IntKind.i64.wrap (y5 + (1 : Int))))
  (rec p1 out3 x4 (IntKind.i64.wrap (y5 + (1 : Int)))))
  (k p1 out3 x4)
def vakk (rec : Y2 → Z12 → Int → Z14) (p1 : Y2) (out3 : Z12) (x4 : Int) : Z14 :=
  rec p1 out3 (IntKind.i64.wrap (x4 + (1 : Int)))
def vayy (L6 : Y2 → Z12 → Int → Int → Z14) (k : Z12 → Z14) (p1 : Y2) (out3 : Z12) (x4 : Int) : Z14 :=
  cond (decide (x4 < (p1.1.length : Int)))
  (L6 p1 out3 x4 (0 : Int))
  (k out3)
def vaic (out3 : Z12) : Z14 :=
  some (out3, (()))
def vbfn (L3 : Y2 → Z12 → Int → Z14) (p_0 : Y2) : Z14 :=
  L3 p_0 [] (0 : Int)
def vun (N : Nat) (k : Y2 → Z12 → Int → Z14) : Nat → Y2 → Z12 → Int → Int → Z14
  | 0, _, _, _, _ => none
  | m + 1, p1, out3, x4, y5 => vazz (vun N k m) k p1 out3 x4 y5
def vayz (N : Nat) (rec : Y2 → Z12 → Int → Z14) (k : Z12 → Z14) (p1 : Y2) (out3 : Z12) (x4 y5 : Int) : Z14 := vun N (vakk rec) N p1 out3 x4 y5
def vpe (N : Nat) (k : Z12 → Z14) : Nat → Y2 → Z12 → Int → Z14
  | 0, _, _, _ => none
  | m + 1, p1, out3, x4 => vayy (vayz N (vpe N k m) k) k p1 out3 x4
def vazq (N : Nat) (p1 : Y2) (out3 : Z12) (x4 : Int) : Z14 := vpe N (vaic) N p1 out3 x4
def zz18 (N : Nat) (p_0 : Y2) : Z14 := vbfn (vazq N) p_0
def S_zz18 : Sig := { a := (.pair (.pair (.sl (.sl I)) .unit) .unit), md := [0], mf := [], m := .unit, r := (.sl (.pair I (.pair I .unit))), rf := (.o .i), f := fun x => zz18 big x.1 }
def A_zz18 : Cfg := mkCfg tab [(122, S_zz17)] [(6, [.drop, .as y1 (.o .i), .drop, .as (.sl (.pair I (.pair I .unit))) (.o .i), .as I .i]), (12, [.drop, .as y1 (.o .i), .drop, .as (.sl (.pair I (.pair I .unit))) (.o .i), .as I .i, .as I .i]), (21, [.drop, .drop, .drop, .as (.sl (.pair I (.pair I .unit))) (.o .i)]), (9, [.drop, .as y1 (.o .i), .drop, .as (.sl (.pair I (.pair I .unit))) (.o .i), .as I .i])]
noncomputable def vfi (N n : Nat) (K : Ex → St → Z14) (p1 : Y2) (out3 : Z12) (x4 : Int) : Z14 := iter ((A_zz18).shape 6) (run (A_zz18) N (codeAt Try.f97 [1, 1, 0, 1, 0, 0])) n ([.u, .val y1 (.o .i) p1, .u, .val (.sl (.pair I (.pair I .unit))) (.o .i) out3, .val I .i x4] ++ List.replicate 27 .u) K
noncomputable def vnz (N n : Nat) (K : Ex → St → Z14) (p1 : Y2) (out3 : Z12) (x4 y5 : Int) : Z14 := iter ((A_zz18).shape 12) (run (A_zz18) N (codeAt Try.f97 [1, 1, 0, 1, 0, 0, 1, 0, 0, 1, 0, 0])) n ([.u, .val y1 (.o .i) p1, .u, .val (.sl (.pair I (.pair I .unit))) (.o .i) out3, .val I .i x4, .val I .i y5] ++ List.replicate 26 .u) K
noncomputable abbrev vafh : Ex → St → Z14 := finish (A_zz18) S_zz18 Try.f97.results.toList
noncomputable abbrev vfy (kX : St → Z14) : Z12 → Z14 := fun (out3 : Z12) => kX ([.u, .u, .u, .val (.sl (.pair I (.pair I .unit))) (.o .i) out3] ++ List.replicate 28 .u)
noncomputable abbrev vgo (kX : St → Z14) (kO : Nat → St → Z14) : Ex → St → Z14 := exK vafh 0 ((A_zz18).shape 21) kX kO
noncomputable abbrev vti (kX : St → Z14) : Y2 → Z12 → Int → Z14 := fun (p1 : Y2) (out3 : Z12) (x4 : Int) => kX ([.u, .val y1 (.o .i) p1, .u, .val (.sl (.pair I (.pair I .unit))) (.o .i) out3, .val I .i x4] ++ List.replicate 27 .u)
noncomputable abbrev vzk (kX : St → Z14) (kO : Nat → St → Z14) : Ex → St → Z14 := exK vafh 2 ((A_zz18).shape 9) kX kO
theorem vbbi (N m : Nat) (kX : St → Z14) (kO : Nat → St → Z14) (p1 : Y2) (out3 : Z12) (x4 y5 : Int) : vnz N (m + 1) (vzk kX kO) p1 out3 x4 y5 = vazz (vnz N m (vzk kX kO)) (vti kX) p1 out3 x4 y5 := by kernel_rfl
theorem vaeo (N : Nat) (kX : St → Z14) (kO : Nat → St → Z14) : ∀ (n : Nat) (p1 : Y2) (out3 : Z12) (x4 y5 : Int), vnz N n (vzk kX kO) p1 out3 x4 y5 = vun N (vti kX) n p1 out3 x4 y5
  | 0, _, _, _, _ => rfl
  | m + 1, p1, out3, x4, y5 => by
    have hrec : vnz N m (vzk kX kO) = (vun N (vti kX) m) := (funext fun p1 => (funext fun out3 => (funext fun x4 => (funext fun y5 => vaeo N kX kO m p1 out3 x4 y5))))
    refine (vbbi N m kX kO p1 out3 x4 y5).trans ?_
    rw [hrec]
    rfl
noncomputable abbrev vajy (N m : Nat) (kX : St → Z14) (kO : Nat → St → Z14) : Ex → St → Z14 := (blockK 2 (blockK 1 (seqK ((A_zz18).shape 9) (gated ((A_zz18).shape 500004).isSome N (run (A_zz18) N (codeAt Try.f97 [1, 1, 0, 1, 0, 0, 1, 1]))) (iterK ((A_zz18).shape 6) (run (A_zz18) N (codeAt Try.f97 [1, 1, 0, 1, 0, 0])) m (vgo kX kO)))))
noncomputable abbrev vajm (N m : Nat) (kX : St → Z14) (kO : Nat → St → Z14) : St → Z14 := fun st' => run (A_zz18) N (codeAt Try.f97 [1, 1, 0, 1, 0, 0, 1, 1]) st' (iterK ((A_zz18).shape 6) (run (A_zz18) N (codeAt Try.f97 [1, 1, 0, 1, 0, 0])) m (vgo kX kO))
theorem vaxw (N m : Nat) (kX : St → Z14) (kO : Nat → St → Z14) (p1 : Y2) (out3 : Z12) (x4 : Int) : vti (vajm N m kX kO) p1 out3 x4 = vakk (vfi N m (vgo kX kO)) p1 out3 x4 := by kernel_rfl
theorem vblo (N m : Nat) (kX : St → Z14) (kO : Nat → St → Z14) (recF : Y2 → Z12 → Int → Z14) (hrec : vfi N m (vgo kX kO) = recF) (p1 : Y2) (out3 : Z12) (x4 y5 : Int) : vnz N N (vajy N m kX kO) p1 out3 x4 y5 = vayz N recF (vfy kX) p1 out3 x4 y5 :=
  have h : vti (vajm N m kX kO) = (vakk recF) := (funext fun p1 => (funext fun out3 => (funext fun x4 => (vaxw N m kX kO p1 out3 x4).trans (by rw [hrec]))))
  ((vad (fun st => by kernel_rfl) (fun st => by kernel_rfl)).trans (vaeo N (vajm N m kX kO) (fun j st => (vajy N m kX kO) (.exit j) st) N p1 out3 x4 y5)).trans (congrArg (fun k => vun N k N p1 out3 x4 y5) h)
theorem vbam (N m : Nat) (kX : St → Z14) (kO : Nat → St → Z14) (p1 : Y2) (out3 : Z12) (x4 : Int) : vfi N (m + 1) (vgo kX kO) p1 out3 x4 = vayy (vnz N N (vajy N m kX kO)) (vfy kX) p1 out3 x4 := by kernel_rfl
theorem vaft (N : Nat) (kX : St → Z14) (kO : Nat → St → Z14) : ∀ (n : Nat) (p1 : Y2) (out3 : Z12) (x4 : Int), vfi N n (vgo kX kO) p1 out3 x4 = vpe N (vfy kX) n p1 out3 x4
  | 0, _, _, _ => rfl
  | m + 1, p1, out3, x4 => by
    have hrec : vfi N m (vgo kX kO) = (vpe N (vfy kX) m) := (funext fun p1 => (funext fun out3 => (funext fun x4 => vaft N kX kO m p1 out3 x4)))
    refine (vbam N m kX kO p1 out3 x4).trans ?_
    rw [(funext fun p1 => (funext fun out3 => (funext fun x4 => (funext fun y5 => vblo N m kX kO (vpe N (vfy kX) m) hrec p1 out3 x4 y5))))]
    rfl
noncomputable abbrev vagt (N : Nat) : Ex → St → Z14 := (blockK 0 (seqK ((A_zz18).shape 21) (gated ((A_zz18).shape 500010).isSome N (run (A_zz18) N (codeAt Try.f97 [1, 1, 1]))) vafh))
noncomputable abbrev vagw (N : Nat) : St → Z14 := fun st' => run (A_zz18) N (codeAt Try.f97 [1, 1, 1]) st' vafh
theorem vavw (N : Nat) (out3 : Z12) : vfy (vagw N) out3 = vaic out3 := by kernel_rfl
theorem vbjc (N : Nat) (p1 : Y2) (out3 : Z12) (x4 : Int) : vfi N N (vagt N) p1 out3 x4 = vazq N p1 out3 x4 :=
  have h : vfy (vagw N) = (vaic) := (funext fun out3 => vavw N out3)
  ((vad (fun st => by kernel_rfl) (fun st => by kernel_rfl)).trans (vaft N (vagw N) (fun j st => (vagt N) (.exit j) st) N p1 out3 x4)).trans (congrArg (fun k => vpe N k N p1 out3 x4) h)
theorem run0_zz18 (N : Nat) (x : (S_zz18).a.den) : runF (A_zz18) N Try.f97 S_zz18 x = (vbfn (vfi N N (vagt N)) x.1) := by kernel_rfl
theorem run_zz18 (N : Nat) (x : (S_zz18).a.den) : runF (A_zz18) N Try.f97 S_zz18 x = zz18 N x.1 := by
  refine (run0_zz18 N x).trans ?_
  rw [(funext fun p1 => (funext fun out3 => (funext fun x4 => vbjc N p1 out3 x4)))]
  rfl
theorem fn_zz18 : FnOk Try.prog 97 := ⟨_, Try.func97, by kernel_rfl, by kernel_rfl⟩
theorem good_zz18 : Gx.Good Try.prog 97 S_zz18 := vaa Try.func97 (of_decide_eq_true (by kernel_rfl)) fun x r h => ⟨A_zz18, big, vac tabOk, vab (show SigsOk Try.prog [(122, S_zz17)] from ⟨⟨fn_zz17, good_zz17⟩, trivial⟩), (run_zz18 big x).trans h⟩
def von (rec : Z13 → Y2 → Y2 → Int → Y4 → Z12 → Int → Z4) (k : Z13 → Y2 → Y2 → Int → Z12 → Z4) (c0 : Z13) (t2 p3 : Y2) (n4 : Int) (names5 : Y4) (pairs6 : Z12) (i7 : Int) : Z4 :=
  cond (decide (i7 < (pairs6.length : Int)))
  ((atI pairs6 i7).bind fun _ =>
  (pairs6[i7.toNat]?).bind fun xq9 =>
  (pairs6[i7.toNat]?).bind fun xq10 =>
  (atI names5 xq10.1).bind fun _ =>
  (names5[xq10.1.toNat]?).bind fun xq11 =>
  (atI pairs6 i7).bind fun _ =>
  (pairs6[i7.toNat]?).bind fun xq12 =>
  (pairs6[i7.toNat]?).bind fun xq13 =>
  (atI names5 xq13.2.1).bind fun _ =>
  (names5[xq13.2.1.toNat]?).bind fun xq14 =>
  (atI pairs6 i7).bind fun _ =>
  (pairs6[i7.toNat]?).bind fun xq15 =>
  rec c0 t2 p3 n4 names5 (pairs6.set i7.toNat (xq11, (xq14, ()))) (IntKind.i64.wrap (i7 + (1 : Int))))
  (k c0 t2 p3 n4 pairs6)
def vfc (c0 : Z13) (t2 p3 : Y2) (n4 : Int) (pairs6 : Z12) : Z4 :=
  (zz9 big n4 pairs6).bind fun rq16 =>
  some (rq16.1, (c0, ()))
def vaph (L9 : Z13 → Y2 → Y2 → Int → Y4 → Z12 → Int → Z4) (c_0 : Z13) : Z4 :=
  (zz3 c_0 (10 : Int)).bind fun rq1 =>
  cond rq1.1
  ((zz11 big rq1.2.1).bind fun rq2 =>
  some (rq2.1, (rq2.2.1, ())))
  ((zz2 rq1.2.1 (12 : Int)).bind fun rq3 =>
  (zz13 rq3.1).bind fun rq4 =>
  (zz5 big rq3.2.1 (rq4.1.1.length : Int)).bind fun rq5 =>
  (zz8 big rq5.1 (rq4.1.1.length : Int)).bind fun rq6 =>
  cond rq6.1
  ((zz3 rq5.2.1 (2 : Int)).bind fun rq7 =>
  cond rq7.1
  ((zz18 big rq4.1).bind fun rq8 =>
  L9 rq7.2.1 (([] : Y3), ()) rq4.1 (rq4.1.1.length : Int) rq5.1 rq8.1 (0 : Int))
  (some (rq4.1, (rq7.2.1, ()))))
  (some (rq4.1, (rq5.2.1, ()))))
def vmj (N : Nat) (k : Z13 → Y2 → Y2 → Int → Z12 → Z4) : Nat → Z13 → Y2 → Y2 → Int → Y4 → Z12 → Int → Z4
  | 0, _, _, _, _, _, _, _ => none
  | m + 1, c0, t2, p3, n4, names5, pairs6, i7 => von (vmj N k m) k c0 t2 p3 n4 names5 pairs6 i7
def vahj (N : Nat) (c0 : Z13) (t2 p3 : Y2) (n4 : Int) (names5 : Y4) (pairs6 : Z12) (i7 : Int) : Z4 := vmj N (vfc) N c0 t2 p3 n4 names5 pairs6 i7
def zz19 (N : Nat) (c_0 : Z13) : Z4 := vaph (vahj N) c_0
def S_zz19 : Sig := { a := (.pair (.ptr (.pair (.sl (.int .u8)) (.pair I (.pair (.int .u64) .unit)))) .unit), md := [1], mf := [(.o .i)], m := (.pair (.ptr (.pair (.sl (.int .u8)) (.pair I (.pair (.int .u64) .unit)))) .unit), r := (.pair (.sl (.sl I)) .unit), rf := .i, f := fun x => zz19 big x.1 }
def A_zz19 : Cfg := mkCfg tab [(50, S_zz3), (93, S_zz11), (39, S_zz2), (94, S_zz13), (95, S_zz5), (96, S_zz8), (97, S_zz18), (98, S_zz9)] [(18, [.as (.ptr (.pair (.sl (.int .u8)) (.pair I (.pair (.int .u64) .unit)))) (.o .i), .drop, .as y1 (.o (.p (.o (.o .i)) .i)), .as y1 (.o (.p (.o (.o .i)) .i)), .as I .i, .as (.sl I) (.o .i), .as (.sl (.pair I (.pair I .unit))) (.o .i), .as I .i]), (25, [.as (.ptr (.pair (.sl (.int .u8)) (.pair I (.pair (.int .u64) .unit)))) (.o .i), .drop, .as y1 (.o (.p (.o (.o .i)) .i)), .as y1 (.o (.p (.o (.o .i)) .i)), .as I .i, .drop, .as (.sl (.pair I (.pair I .unit))) (.o .i)])]
noncomputable def vpd (N n : Nat) (K : Ex → St → Z4) (c0 : Z13) (t2 p3 : Y2) (n4 : Int) (names5 : Y4) (pairs6 : Z12) (i7 : Int) : Z4 := iter ((A_zz19).shape 18) (run (A_zz19) N (codeAt Try.f48 [1, 1, 1, 1, 0, 1, 1, 0, 1, 0, 1, 0, 0])) n ([.val (.ptr (.pair (.sl (.int .u8)) (.pair I (.pair (.int .u64) .unit)))) (.o .i) c0, .u, .val y1 (.o (.p (.o (.o .i)) .i)) t2, .val y1 (.o (.p (.o (.o .i)) .i)) p3, .val I .i n4, .val (.sl I) (.o .i) names5, .val (.sl (.pair I (.pair I .unit))) (.o .i) pairs6, .val I .i i7] ++ List.replicate 52 .u) K
noncomputable abbrev vapq : Ex → St → Z4 := finish (A_zz19) S_zz19 Try.f48.results.toList
noncomputable abbrev vui (kX : St → Z4) : Z13 → Y2 → Y2 → Int → Z12 → Z4 := fun (c0 : Z13) (t2 p3 : Y2) (n4 : Int) (pairs6 : Z12) => kX ([.val (.ptr (.pair (.sl (.int .u8)) (.pair I (.pair (.int .u64) .unit)))) (.o .i) c0, .u, .val y1 (.o (.p (.o (.o .i)) .i)) t2, .val y1 (.o (.p (.o (.o .i)) .i)) p3, .val I .i n4, .u, .val (.sl (.pair I (.pair I .unit))) (.o .i) pairs6] ++ List.replicate 53 .u)
noncomputable abbrev vzy (kX : St → Z4) (kO : Nat → St → Z4) : Ex → St → Z4 := exK vapq 0 ((A_zz19).shape 25) kX kO
theorem vbcb (N m : Nat) (kX : St → Z4) (kO : Nat → St → Z4) (c0 : Z13) (t2 p3 : Y2) (n4 : Int) (names5 : Y4) (pairs6 : Z12) (i7 : Int) : vpd N (m + 1) (vzy kX kO) c0 t2 p3 n4 names5 pairs6 i7 = von (vpd N m (vzy kX kO)) (vui kX) c0 t2 p3 n4 names5 pairs6 i7 := by kernel_rfl
theorem vacy (N : Nat) (kX : St → Z4) (kO : Nat → St → Z4) : ∀ (n : Nat) (c0 : Z13) (t2 p3 : Y2) (n4 : Int) (names5 : Y4) (pairs6 : Z12) (i7 : Int), vpd N n (vzy kX kO) c0 t2 p3 n4 names5 pairs6 i7 = vmj N (vui kX) n c0 t2 p3 n4 names5 pairs6 i7
  | 0, _, _, _, _, _, _, _ => rfl
  | m + 1, c0, t2, p3, n4, names5, pairs6, i7 => by
    have hrec : vpd N m (vzy kX kO) = (vmj N (vui kX) m) := (funext fun c0 => (funext fun t2 => (funext fun p3 => (funext fun n4 => (funext fun names5 => (funext fun pairs6 => (funext fun i7 => vacy N kX kO m c0 t2 p3 n4 names5 pairs6 i7)))))))
    refine (vbcb N m kX kO c0 t2 p3 n4 names5 pairs6 i7).trans ?_
    rw [hrec]
    rfl
noncomputable abbrev valb (N : Nat) : Ex → St → Z4 := (blockK 0 (seqK ((A_zz19).shape 25) (gated ((A_zz19).shape 500012).isSome N (run (A_zz19) N (codeAt Try.f48 [1, 1, 1, 1, 0, 1, 1, 0, 1, 1]))) (seqK ((A_zz19).shape 27) (gated ((A_zz19).shape 500013).isSome N (run (A_zz19) N (codeAt Try.f48 [1, 1, 1, 1, 1]))) vapq)))
noncomputable abbrev vakp (N : Nat) : St → Z4 := fun st' => run (A_zz19) N (codeAt Try.f48 [1, 1, 1, 1, 0, 1, 1, 0, 1, 1]) st' (seqK ((A_zz19).shape 27) (gated ((A_zz19).shape 500013).isSome N (run (A_zz19) N (codeAt Try.f48 [1, 1, 1, 1, 1]))) vapq)
theorem vayr (N : Nat) (c0 : Z13) (t2 p3 : Y2) (n4 : Int) (pairs6 : Z12) : vui (vakp N) c0 t2 p3 n4 pairs6 = vfc c0 t2 p3 n4 pairs6 := by kernel_rfl
theorem vbma (N : Nat) (c0 : Z13) (t2 p3 : Y2) (n4 : Int) (names5 : Y4) (pairs6 : Z12) (i7 : Int) : vpd N N (valb N) c0 t2 p3 n4 names5 pairs6 i7 = vahj N c0 t2 p3 n4 names5 pairs6 i7 :=
  have h : vui (vakp N) = (vfc) := (funext fun c0 => (funext fun t2 => (funext fun p3 => (funext fun n4 => (funext fun pairs6 => vayr N c0 t2 p3 n4 pairs6)))))
  ((vad (fun st => by kernel_rfl) (fun st => by kernel_rfl)).trans (vacy N (vakp N) (fun j st => (valb N) (.exit j) st) N c0 t2 p3 n4 names5 pairs6 i7)).trans (congrArg (fun k => vmj N k N c0 t2 p3 n4 names5 pairs6 i7) h)
theorem run0_zz19 (N : Nat) (x : (S_zz19).a.den) : runF (A_zz19) N Try.f48 S_zz19 x = (vaph (vpd N N (valb N)) x.1) := by kernel_rfl
theorem run_zz19 (N : Nat) (x : (S_zz19).a.den) : runF (A_zz19) N Try.f48 S_zz19 x = zz19 N x.1 := by
  refine (run0_zz19 N x).trans ?_
  rw [(funext fun c0 => (funext fun t2 => (funext fun p3 => (funext fun n4 => (funext fun names5 => (funext fun pairs6 => (funext fun i7 => vbma N c0 t2 p3 n4 names5 pairs6 i7)))))))]
  rfl
theorem fn_zz19 : FnOk Try.prog 48 := ⟨_, Try.func48, by kernel_rfl, by kernel_rfl⟩
theorem good_zz19 : Gx.Good Try.prog 48 S_zz19 := vaa Try.func48 (of_decide_eq_true (by kernel_rfl)) fun x r h => ⟨A_zz19, big, vac tabOk, vab (show SigsOk Try.prog [(50, S_zz3), (93, S_zz11), (39, S_zz2), (94, S_zz13), (95, S_zz5), (96, S_zz8), (97, S_zz18), (98, S_zz9)] from ⟨⟨fn_zz3, good_zz3⟩, ⟨fn_zz11, good_zz11⟩, ⟨fn_zz2, good_zz2⟩, ⟨fn_zz13, good_zz13⟩, ⟨fn_zz5, good_zz5⟩, ⟨fn_zz8, good_zz8⟩, ⟨fn_zz18, good_zz18⟩, ⟨fn_zz9, good_zz9⟩, trivial⟩), (run_zz19 big x).trans h⟩
def vbhb (code_0 : Y4) : Z3 :=
  (zz19 big (code_0, ((0 : Int), ((0 : Int), ())))).bind fun rq1 =>
  some (rq1.1, (()))
def zz20 (code_0 : Y4) : Z3 := vbhb code_0
def S_zz20 : Sig := { a := (.pair (.sl (.int .u8)) .unit), md := [0], mf := [], m := .unit, r := (.pair (.sl (.sl I)) .unit), rf := .i, f := fun x => zz20 x.1 }
def A_zz20 : Cfg := mkCfg tab [(48, S_zz19)] []
theorem run_zz20 (N : Nat) (x : (S_zz20).a.den) : runF (A_zz20) N Try.f59 S_zz20 x = zz20 x.1 := by kernel_rfl
theorem fn_zz20 : FnOk Try.prog 59 := ⟨_, Try.func59, by kernel_rfl, by kernel_rfl⟩
theorem good_zz20 : Gx.Good Try.prog 59 S_zz20 := vaa Try.func59 (of_decide_eq_true (by kernel_rfl)) fun x r h => ⟨A_zz20, big, vac tabOk, vab (show SigsOk Try.prog [(48, S_zz19)] from ⟨⟨fn_zz19, good_zz19⟩, trivial⟩), (run_zz20 big x).trans h⟩
def vbgo (code_0 : Y4) : Z3 :=
  (zz20 code_0).bind fun rq1 =>
  some (rq1.1, (()))
def zz21 (code_0 : Y4) : Z3 := vbgo code_0
def S_zz21 : Sig := { a := (.pair (.sl (.int .u8)) .unit), md := [0], mf := [], m := .unit, r := (.pair (.sl (.sl I)) .unit), rf := .i, f := fun x => zz21 x.1 }
def A_zz21 : Cfg := mkCfg tab [(59, S_zz20)] []
theorem run_zz21 (N : Nat) (x : (S_zz21).a.den) : runF (A_zz21) N Try.f19 S_zz21 x = zz21 x.1 := by kernel_rfl
theorem fn_zz21 : FnOk Try.prog 19 := ⟨_, Try.func19, by kernel_rfl, by kernel_rfl⟩
theorem good_zz21 : Gx.Good Try.prog 19 S_zz21 := vaa Try.func19 (of_decide_eq_true (by kernel_rfl)) fun x r h => ⟨A_zz21, big, vac tabOk, vab (show SigsOk Try.prog [(59, S_zz20)] from ⟨⟨fn_zz20, good_zz20⟩, trivial⟩), (run_zz21 big x).trans h⟩
def voe (rec : Int → Y5 → Int → Int → Z11) (k : Y5 → Z11) (n0 : Int) (o3 : Y5) (t8 t9 : Int) : Z11 :=
  cond (decide (t9 < t8))
  ((mkI false n0).bind fun xq3 => (mkI false n0).bind fun xq4 => cond (decide (n0 ≤ n0))
  ((atI o3 t9).bind fun _ =>
  (o3[t9.toNat]?).bind fun xq5 =>
  rec n0 (o3.set t9.toNat xq4) t8 (IntKind.i64.wrap (t9 + (1 : Int))))
  none)
  (k o3)
def vii (o3 : Y5) : Z11 :=
  some (o3, (()))
def vasu (L3 : Int → Y5 → Int → Int → Z11) (n_0 : Int) : Z11 :=
  (mkI ([] : (List Bool)) n_0).bind fun xq1 => (mkI ([] : (List Bool)) n_0).bind fun xq2 => cond (decide (n_0 ≤ n_0))
  (L3 n_0 xq2 (xq2.length : Int) (0 : Int))
  none
def vpv (N : Nat) (k : Y5 → Z11) : Nat → Int → Y5 → Int → Int → Z11
  | 0, _, _, _, _ => none
  | m + 1, n0, o3, t8, t9 => voe (vpv N k m) k n0 o3 t8 t9
def vahi (N : Nat) (n0 : Int) (o3 : Y5) (t8 t9 : Int) : Z11 := vpv N (vii) N n0 o3 t8 t9
def zz22 (N : Nat) (n_0 : Int) : Z11 := vasu (vahi N) n_0
def S_zz22 : Sig := { a := (.pair I .unit), md := [0], mf := [], m := .unit, r := (.sl (.sl .bool)), rf := (.o (.o .i)), f := fun x => zz22 big x.1 }
def A_zz22 : Cfg := mkCfg tab [] [(6, [.as I .i, .drop, .drop, .as (.sl (.sl .bool)) (.o (.o .i)), .drop, .drop, .drop, .drop, .as I .i, .as I .i]), (15, [.drop, .drop, .drop, .as (.sl (.sl .bool)) (.o (.o .i))])]
noncomputable def vpu (N n : Nat) (K : Ex → St → Z11) (n0 : Int) (o3 : Y5) (t8 t9 : Int) : Z11 := iter ((A_zz22).shape 6) (run (A_zz22) N (codeAt Try.f109 [1, 1, 0, 1, 0, 0])) n ([.val I .i n0, .u, .u, .val (.sl (.sl .bool)) (.o (.o .i)) o3, .u, .u, .u, .u, .val I .i t8, .val I .i t9] ++ List.replicate 9 .u) K
noncomputable abbrev vapv : Ex → St → Z11 := finish (A_zz22) S_zz22 Try.f109.results.toList
noncomputable abbrev vtr (kX : St → Z11) : Y5 → Z11 := fun (o3 : Y5) => kX ([.u, .u, .u, .val (.sl (.sl .bool)) (.o (.o .i)) o3] ++ List.replicate 15 .u)
noncomputable abbrev vyy (kX : St → Z11) (kO : Nat → St → Z11) : Ex → St → Z11 := exK vapv 0 ((A_zz22).shape 15) kX kO
theorem vbct (N m : Nat) (kX : St → Z11) (kO : Nat → St → Z11) (n0 : Int) (o3 : Y5) (t8 t9 : Int) : vpu N (m + 1) (vyy kX kO) n0 o3 t8 t9 = voe (vpu N m (vyy kX kO)) (vtr kX) n0 o3 t8 t9 := by kernel_rfl
theorem vaep (N : Nat) (kX : St → Z11) (kO : Nat → St → Z11) : ∀ (n : Nat) (n0 : Int) (o3 : Y5) (t8 t9 : Int), vpu N n (vyy kX kO) n0 o3 t8 t9 = vpv N (vtr kX) n n0 o3 t8 t9
  | 0, _, _, _, _ => rfl
  | m + 1, n0, o3, t8, t9 => by
    have hrec : vpu N m (vyy kX kO) = (vpv N (vtr kX) m) := (funext fun n0 => (funext fun o3 => (funext fun t8 => (funext fun t9 => vaep N kX kO m n0 o3 t8 t9))))
    refine (vbct N m kX kO n0 o3 t8 t9).trans ?_
    rw [hrec]
    rfl
noncomputable abbrev vagn (N : Nat) : Ex → St → Z11 := (blockK 0 (seqK ((A_zz22).shape 15) (gated ((A_zz22).shape 500007).isSome N (run (A_zz22) N (codeAt Try.f109 [1, 1, 1]))) vapv))
noncomputable abbrev vahh (N : Nat) : St → Z11 := fun st' => run (A_zz22) N (codeAt Try.f109 [1, 1, 1]) st' vapv
theorem vawe (N : Nat) (o3 : Y5) : vtr (vahh N) o3 = vii o3 := by kernel_rfl
theorem vbla (N : Nat) (n0 : Int) (o3 : Y5) (t8 t9 : Int) : vpu N N (vagn N) n0 o3 t8 t9 = vahi N n0 o3 t8 t9 :=
  have h : vtr (vahh N) = (vii) := (funext fun o3 => vawe N o3)
  ((vad (fun st => by kernel_rfl) (fun st => by kernel_rfl)).trans (vaep N (vahh N) (fun j st => (vagn N) (.exit j) st) N n0 o3 t8 t9)).trans (congrArg (fun k => vpv N k N n0 o3 t8 t9) h)
theorem run0_zz22 (N : Nat) (x : (S_zz22).a.den) : runF (A_zz22) N Try.f109 S_zz22 x = (vasu (vpu N N (vagn N)) x.1) := by kernel_rfl
theorem run_zz22 (N : Nat) (x : (S_zz22).a.den) : runF (A_zz22) N Try.f109 S_zz22 x = zz22 N x.1 := by
  refine (run0_zz22 N x).trans ?_
  rw [(funext fun n0 => (funext fun o3 => (funext fun t8 => (funext fun t9 => vbla N n0 o3 t8 t9))))]
  rfl
theorem fn_zz22 : FnOk Try.prog 109 := ⟨_, Try.func109, by kernel_rfl, by kernel_rfl⟩
theorem good_zz22 : Gx.Good Try.prog 109 S_zz22 := vaa Try.func109 (of_decide_eq_true (by kernel_rfl)) fun x r h => ⟨A_zz22, big, vac tabOk, vab (show SigsOk Try.prog [] from trivial), (run_zz22 big x).trans h⟩
def vail (rec : Y4 → Int → Z0) (k : Z0) (list0 : Y4) (i3 : Int) : Z0 :=
  cond (decide (i3 < (list0.length : Int)))
  ((atI list0 (IntKind.i64.wrap (i3 - (1 : Int)))).bind fun xq1 =>
  (atI list0 i3).bind fun xq2 =>
  cond (decide (xq2 ≤ xq1))
  (some (false, (())))
  (rec list0 (IntKind.i64.wrap (i3 + (1 : Int)))))
  (k)
def vzr : Z0 :=
  some (true, (()))
def vatg (L2 : Y4 → Int → Z0) (list_0 : Y4) : Z0 :=
  L2 list_0 (1 : Int)
def vie (N : Nat) (k : Z0) : Nat → Y4 → Int → Z0
  | 0, _, _ => none
  | m + 1, list0, i3 => vail (vie N k m) k list0 i3
def vajd (N : Nat) (list0 : Y4) (i3 : Int) : Z0 := vie N (vzr) N list0 i3
def zz23 (N : Nat) (list_0 : Y4) : Z0 := vatg (vajd N) list_0
def S_zz23 : Sig := { a := (.pair (.sl I) .unit), md := [0], mf := [], m := .unit, r := .bool, rf := .i, f := fun x => zz23 big x.1 }
def A_zz23 : Cfg := mkCfg tab [] [(4, [.as (.sl I) .i, .drop, .drop, .as I .i]), (13, [])]
noncomputable def vnm (N n : Nat) (K : Ex → St → Z0) (list0 : Y4) (i3 : Int) : Z0 := iter ((A_zz23).shape 4) (run (A_zz23) N (codeAt Try.f110 [1, 0, 1, 0, 0])) n ([.val (.sl I) .i list0, .u, .u, .val I .i i3] ++ List.replicate 16 .u) K
noncomputable abbrev vate : Ex → St → Z0 := finish (A_zz23) S_zz23 Try.f110.results.toList
noncomputable abbrev vum (kX : St → Z0) : Z0 := kX ([] ++ List.replicate 20 .u)
noncomputable abbrev vyb (kX : St → Z0) (kO : Nat → St → Z0) : Ex → St → Z0 := exK vate 0 ((A_zz23).shape 13) kX kO
theorem vbcf (N m : Nat) (kX : St → Z0) (kO : Nat → St → Z0) (list0 : Y4) (i3 : Int) : vnm N (m + 1) (vyb kX kO) list0 i3 = vail (vnm N m (vyb kX kO)) (vum kX) list0 i3 := by kernel_rfl
theorem vafe (N : Nat) (kX : St → Z0) (kO : Nat → St → Z0) : ∀ (n : Nat) (list0 : Y4) (i3 : Int), vnm N n (vyb kX kO) list0 i3 = vie N (vum kX) n list0 i3
  | 0, _, _ => rfl
  | m + 1, list0, i3 => by
    have hrec : vnm N m (vyb kX kO) = (vie N (vum kX) m) := (funext fun list0 => (funext fun i3 => vafe N kX kO m list0 i3))
    refine (vbcf N m kX kO list0 i3).trans ?_
    rw [hrec]
    rfl
noncomputable abbrev vagj (N : Nat) : Ex → St → Z0 := (blockK 0 (seqK ((A_zz23).shape 13) (gated ((A_zz23).shape 500006).isSome N (run (A_zz23) N (codeAt Try.f110 [1, 1]))) vate))
noncomputable abbrev vanb (N : Nat) : St → Z0 := fun st' => run (A_zz23) N (codeAt Try.f110 [1, 1]) st' vate
theorem vavi (N : Nat) : vum (vanb N) = vzr := by kernel_rfl
theorem vbkj (N : Nat) (list0 : Y4) (i3 : Int) : vnm N N (vagj N) list0 i3 = vajd N list0 i3 :=
  have h : vum (vanb N) = (vzr) := vavi N
  ((vad (fun st => by kernel_rfl) (fun st => by kernel_rfl)).trans (vafe N (vanb N) (fun j st => (vagj N) (.exit j) st) N list0 i3)).trans (congrArg (fun k => vie N k N list0 i3) h)
theorem run0_zz23 (N : Nat) (x : (S_zz23).a.den) : runF (A_zz23) N Try.f110 S_zz23 x = (vatg (vnm N N (vagj N)) x.1) := by kernel_rfl
theorem run_zz23 (N : Nat) (x : (S_zz23).a.den) : runF (A_zz23) N Try.f110 S_zz23 x = zz23 N x.1 := by
  refine (run0_zz23 N x).trans ?_
  rw [(funext fun list0 => (funext fun i3 => vbkj N list0 i3))]
  rfl
theorem fn_zz23 : FnOk Try.prog 110 := ⟨_, Try.func110, by kernel_rfl, by kernel_rfl⟩
theorem good_zz23 : Gx.Good Try.prog 110 S_zz23 := vaa Try.func110 (of_decide_eq_true (by kernel_rfl)) fun x r h => ⟨A_zz23, big, vac tabOk, vab (show SigsOk Try.prog [] from trivial), (run_zz23 big x).trans h⟩
def vana (rec : Int → Y4 → Int → Int → Z0) (k : Z0) (n1 : Int) (t7 : Y4) (t8 t9 : Int) : Z0 :=
  cond (decide (t9 < t8))
  ((atI t7 t9).bind fun xq1 =>
  cond (decide (xq1 < (0 : Int)))
  (some (false, (())))
  (cond (decide (n1 ≤ xq1))
  (some (false, (())))
  (rec n1 t7 t8 (IntKind.i64.wrap (t9 + (1 : Int))))))
  (k)
def vyi : Z0 :=
  some (true, (()))
def varf (L2 : Int → Y4 → Int → Int → Z0) (list_0 : Y4) (n_1 : Int) : Z0 :=
  L2 n_1 list_0 (list_0.length : Int) (0 : Int)
def vjd (N : Nat) (k : Z0) : Nat → Int → Y4 → Int → Int → Z0
  | 0, _, _, _, _ => none
  | m + 1, n1, t7, t8, t9 => vana (vjd N k m) k n1 t7 t8 t9
def vahc (N : Nat) (n1 : Int) (t7 : Y4) (t8 t9 : Int) : Z0 := vjd N (vyi) N n1 t7 t8 t9
def zz24 (N : Nat) (list_0 : Y4) (n_1 : Int) : Z0 := varf (vahc N) list_0 n_1
def S_zz24 : Sig := { a := (.pair (.sl I) (.pair I .unit)), md := [0, 0], mf := [], m := .unit, r := .bool, rf := .i, f := fun x => zz24 big x.1 x.2.1 }
def A_zz24 : Cfg := mkCfg tab [] [(4, [.drop, .as I .i, .drop, .drop, .drop, .drop, .drop, .as (.sl I) .i, .as I .i, .as I .i]), (15, [])]
noncomputable def vor (N n : Nat) (K : Ex → St → Z0) (n1 : Int) (t7 : Y4) (t8 t9 : Int) : Z0 := iter ((A_zz24).shape 4) (run (A_zz24) N (codeAt Try.f101 [1, 0, 1, 0, 0])) n ([.u, .val I .i n1, .u, .u, .u, .u, .u, .val (.sl I) .i t7, .val I .i t8, .val I .i t9] ++ List.replicate 11 .u) K
noncomputable abbrev vava : Ex → St → Z0 := finish (A_zz24) S_zz24 Try.f101.results.toList
noncomputable abbrev vuj (kX : St → Z0) : Z0 := kX ([] ++ List.replicate 21 .u)
noncomputable abbrev vzm (kX : St → Z0) (kO : Nat → St → Z0) : Ex → St → Z0 := exK vava 0 ((A_zz24).shape 15) kX kO
theorem vbdr (N m : Nat) (kX : St → Z0) (kO : Nat → St → Z0) (n1 : Int) (t7 : Y4) (t8 t9 : Int) : vor N (m + 1) (vzm kX kO) n1 t7 t8 t9 = vana (vor N m (vzm kX kO)) (vuj kX) n1 t7 t8 t9 := by kernel_rfl
theorem vafb (N : Nat) (kX : St → Z0) (kO : Nat → St → Z0) : ∀ (n : Nat) (n1 : Int) (t7 : Y4) (t8 t9 : Int), vor N n (vzm kX kO) n1 t7 t8 t9 = vjd N (vuj kX) n n1 t7 t8 t9
  | 0, _, _, _, _ => rfl
  | m + 1, n1, t7, t8, t9 => by
    have hrec : vor N m (vzm kX kO) = (vjd N (vuj kX) m) := (funext fun n1 => (funext fun t7 => (funext fun t8 => (funext fun t9 => vafb N kX kO m n1 t7 t8 t9))))
    refine (vbdr N m kX kO n1 t7 t8 t9).trans ?_
    rw [hrec]
    rfl
noncomputable abbrev vaks (N : Nat) : Ex → St → Z0 := (blockK 0 (seqK ((A_zz24).shape 15) (gated ((A_zz24).shape 500007).isSome N (run (A_zz24) N (codeAt Try.f101 [1, 1]))) vava))
noncomputable abbrev vahl (N : Nat) : St → Z0 := fun st' => run (A_zz24) N (codeAt Try.f101 [1, 1]) st' vava
theorem vavz (N : Nat) : vuj (vahl N) = vyi := by kernel_rfl
theorem vbku (N : Nat) (n1 : Int) (t7 : Y4) (t8 t9 : Int) : vor N N (vaks N) n1 t7 t8 t9 = vahc N n1 t7 t8 t9 :=
  have h : vuj (vahl N) = (vyi) := vavz N
  ((vad (fun st => by kernel_rfl) (fun st => by kernel_rfl)).trans (vafb N (vahl N) (fun j st => (vaks N) (.exit j) st) N n1 t7 t8 t9)).trans (congrArg (fun k => vjd N k N n1 t7 t8 t9) h)
theorem run0_zz24 (N : Nat) (x : (S_zz24).a.den) : runF (A_zz24) N Try.f101 S_zz24 x = (varf (vor N N (vaks N)) x.1 x.2.1) := by kernel_rfl
theorem run_zz24 (N : Nat) (x : (S_zz24).a.den) : runF (A_zz24) N Try.f101 S_zz24 x = zz24 N x.1 x.2.1 := by
  refine (run0_zz24 N x).trans ?_
  rw [(funext fun n1 => (funext fun t7 => (funext fun t8 => (funext fun t9 => vbku N n1 t7 t8 t9))))]
  rfl
theorem fn_zz24 : FnOk Try.prog 101 := ⟨_, Try.func101, by kernel_rfl, by kernel_rfl⟩
theorem good_zz24 : Gx.Good Try.prog 101 S_zz24 := vaa Try.func101 (of_decide_eq_true (by kernel_rfl)) fun x r h => ⟨A_zz24, big, vac tabOk, vab (show SigsOk Try.prog [] from trivial), (run_zz24 big x).trans h⟩
def vfo (rec : Y5 → Int → Int → Int → Int → Int → Int → Int → Int → Z0) (k : Y5 → Int → Int → Int → Int → Int → Z0) (o0 : Y5) (x3 y4 t7 t8 t20 t21 t46 t47 : Int) : Z0 :=
  cond (decide (t47 < t46))
  ((atI o0 x3).bind fun xq7 =>
  (atI xq7 y4).bind fun xq8 =>
  cond xq8
  ((atI o0 y4).bind fun xq9 =>
  (atI xq9 t47).bind fun xq10 =>
  cond xq10
  ((atI o0 x3).bind fun xq11 =>
  (atI xq11 t47).bind fun xq12 =>
  cond (!xq12)
  (some (false, (())))
  (rec o0 x3 y4 t7 t8 t20 t21 t46 (IntKind.i64.wrap (t47 + (1 : Int)))))
  (rec o0 x3 y4 t7 t8 t20 t21 t46 (IntKind.i64.wrap (t47 + (1 : Int)))))
  (rec o0 x3 y4 t7 t8 t20 t21 t46 (IntKind.i64.wrap (t47 + (1 : Int)))))
  (k o0 x3 t7 t8 t20 t21)
def vea (rec : Y5 → Int → Int → Int → Int → Int → Z0) (o0 : Y5) (x3 t7 t8 t20 t21 : Int) : Z0 :=
  rec o0 x3 t7 t8 t20 (IntKind.i64.wrap (t21 + (1 : Int)))
def vpg (L12 : Y5 → Int → Int → Int → Int → Int → Int → Int → Int → Z0) (k : Y5 → Int → Int → Z0) (o0 : Y5) (x3 t7 t8 t20 t21 : Int) : Z0 :=
  cond (decide (t21 < t20))
  (cond (decide (x3 ≠ t21))
  ((atI o0 x3).bind fun xq3 =>
  (atI xq3 t21).bind fun xq4 =>
  cond xq4
  ((atI o0 t21).bind fun xq5 =>
  (atI xq5 x3).bind fun xq6 =>
  cond xq6
  (some (false, (())))
  (L12 o0 x3 t21 t7 t8 t20 t21 (o0.length : Int) (0 : Int)))
  (L12 o0 x3 t21 t7 t8 t20 t21 (o0.length : Int) (0 : Int)))
  (L12 o0 x3 t21 t7 t8 t20 t21 (o0.length : Int) (0 : Int)))
  (k o0 t7 t8)
def vce (rec : Y5 → Int → Int → Z0) (o0 : Y5) (t7 t8 : Int) : Z0 :=
  rec o0 t7 (IntKind.i64.wrap (t8 + (1 : Int)))
def vna (L7 : Y5 → Int → Int → Int → Int → Int → Z0) (k : Z0) (o0 : Y5) (t7 t8 : Int) : Z0 :=
  cond (decide (t8 < t7))
  ((atI o0 t8).bind fun xq1 =>
  (atI xq1 t8).bind fun xq2 =>
  cond (!xq2)
  (some (false, (())))
  (L7 o0 t8 t7 t8 (o0.length : Int) (0 : Int)))
  (k)
def vcn : Z0 :=
  some (true, (()))
def vaqo (L2 : Y5 → Int → Int → Z0) (o_0 : Y5) : Z0 :=
  L2 o_0 (o_0.length : Int) (0 : Int)
def vka (N : Nat) (k : Y5 → Int → Int → Int → Int → Int → Z0) : Nat → Y5 → Int → Int → Int → Int → Int → Int → Int → Int → Z0
  | 0, _, _, _, _, _, _, _, _, _ => none
  | m + 1, o0, x3, y4, t7, t8, t20, t21, t46, t47 => vfo (vka N k m) k o0 x3 y4 t7 t8 t20 t21 t46 t47
def vfb (N : Nat) (rec : Y5 → Int → Int → Int → Int → Int → Z0) (k : Y5 → Int → Int → Z0) (o0 : Y5) (x3 y4 t7 t8 t20 t21 t46 t47 : Int) : Z0 := vka N (vea rec) N o0 x3 y4 t7 t8 t20 t21 t46 t47
def vgq (N : Nat) (k : Y5 → Int → Int → Z0) : Nat → Y5 → Int → Int → Int → Int → Int → Z0
  | 0, _, _, _, _, _, _ => none
  | m + 1, o0, x3, t7, t8, t20, t21 => vpg (vfb N (vgq N k m) k) k o0 x3 t7 t8 t20 t21
def vst (N : Nat) (rec : Y5 → Int → Int → Z0) (k : Z0) (o0 : Y5) (x3 t7 t8 t20 t21 : Int) : Z0 := vgq N (vce rec) N o0 x3 t7 t8 t20 t21
def vfg (N : Nat) (k : Z0) : Nat → Y5 → Int → Int → Z0
  | 0, _, _, _ => none
  | m + 1, o0, t7, t8 => vna (vst N (vfg N k m) k) k o0 t7 t8
def vamp (N : Nat) (o0 : Y5) (t7 t8 : Int) : Z0 := vfg N (vcn) N o0 t7 t8
def zz25 (N : Nat) (o_0 : Y5) : Z0 := vaqo (vamp N) o_0
def S_zz25 : Sig := { a := (.pair (.sl (.sl .bool)) .unit), md := [0], mf := [], m := .unit, r := .bool, rf := .i, f := fun x => zz25 big x.1 }
def A_zz25 : Cfg := mkCfg tab [] [(4, [.as (.sl (.sl .bool)) .i, .drop, .drop, .drop, .drop, .drop, .drop, .as I .i, .as I .i]), (14, [.as (.sl (.sl .bool)) .i, .drop, .drop, .as I .i, .drop, .drop, .drop, .as I .i, .as I .i, .drop, .drop, .drop, .drop, .drop, .drop, .drop, .drop, .drop, .drop, .drop, .as I .i, .as I .i]), (39, []), (24, [.as (.sl (.sl .bool)) .i, .drop, .drop, .as I .i, .as I .i, .drop, .drop, .as I .i, .as I .i, .drop, .drop, .drop, .drop, .drop, .drop, .drop, .drop, .drop, .drop, .drop, .as I .i, .as I .i, .drop, .drop, .drop, .drop, .drop, .drop, .drop, .drop, .drop, .drop, .drop, .drop, .drop, .drop, .drop, .drop, .drop, .drop, .drop, .drop, .drop, .drop, .drop, .drop, .as I .i, .as I .i]), (37, [.as (.sl (.sl .bool)) .i, .drop, .drop, .drop, .drop, .drop, .drop, .as I .i, .as I .i]), (35, [.as (.sl (.sl .bool)) .i, .drop, .drop, .as I .i, .drop, .drop, .drop, .as I .i, .as I .i, .drop, .drop, .drop, .drop, .drop, .drop, .drop, .drop, .drop, .drop, .drop, .as I .i, .as I .i])]
noncomputable def vfz (N n : Nat) (K : Ex → St → Z0) (o0 : Y5) (t7 t8 : Int) : Z0 := iter ((A_zz25).shape 4) (run (A_zz25) N (codeAt Try.f111 [1, 0, 1, 0, 0])) n ([.val (.sl (.sl .bool)) .i o0, .u, .u, .u, .u, .u, .u, .val I .i t7, .val I .i t8] ++ List.replicate 70 .u) K
noncomputable def vfp (N n : Nat) (K : Ex → St → Z0) (o0 : Y5) (x3 t7 t8 t20 t21 : Int) : Z0 := iter ((A_zz25).shape 14) (run (A_zz25) N (codeAt Try.f111 [1, 0, 1, 0, 0, 1, 1, 0, 0, 1, 1, 1, 0, 0])) n ([.val (.sl (.sl .bool)) .i o0, .u, .u, .val I .i x3, .u, .u, .u, .val I .i t7, .val I .i t8, .u, .u, .u, .u, .u, .u, .u, .u, .u, .u, .u, .val I .i t20, .val I .i t21] ++ List.replicate 57 .u) K
noncomputable def vhp (N n : Nat) (K : Ex → St → Z0) (o0 : Y5) (x3 y4 t7 t8 t20 t21 t46 t47 : Int) : Z0 := iter ((A_zz25).shape 24) (run (A_zz25) N (codeAt Try.f111 [1, 0, 1, 0, 0, 1, 1, 0, 0, 1, 1, 1, 0, 0, 1, 1, 0, 0, 1, 1, 1, 0, 0])) n ([.val (.sl (.sl .bool)) .i o0, .u, .u, .val I .i x3, .val I .i y4, .u, .u, .val I .i t7, .val I .i t8, .u, .u, .u, .u, .u, .u, .u, .u, .u, .u, .u, .val I .i t20, .val I .i t21, .u, .u, .u, .u, .u, .u, .u, .u, .u, .u, .u, .u, .u, .u, .u, .u, .u, .u, .u, .u, .u, .u, .u, .u, .val I .i t46, .val I .i t47] ++ List.replicate 31 .u) K
noncomputable abbrev vxg : Ex → St → Z0 := finish (A_zz25) S_zz25 Try.f111.results.toList
noncomputable abbrev vix (kX : St → Z0) : Z0 := kX ([] ++ List.replicate 79 .u)
noncomputable abbrev vij (kX : St → Z0) (kO : Nat → St → Z0) : Ex → St → Z0 := exK vxg 0 ((A_zz25).shape 39) kX kO
noncomputable abbrev vjr (kX : St → Z0) : Y5 → Int → Int → Z0 := fun (o0 : Y5) (t7 t8 : Int) => kX ([.val (.sl (.sl .bool)) .i o0, .u, .u, .u, .u, .u, .u, .val I .i t7, .val I .i t8] ++ List.replicate 70 .u)
noncomputable abbrev vhf (kX : St → Z0) (kO : Nat → St → Z0) : Ex → St → Z0 := exK vxg 2 ((A_zz25).shape 37) kX kO
noncomputable abbrev vqq (kX : St → Z0) : Y5 → Int → Int → Int → Int → Int → Z0 := fun (o0 : Y5) (x3 t7 t8 t20 t21 : Int) => kX ([.val (.sl (.sl .bool)) .i o0, .u, .u, .val I .i x3, .u, .u, .u, .val I .i t7, .val I .i t8, .u, .u, .u, .u, .u, .u, .u, .u, .u, .u, .u, .val I .i t20, .val I .i t21] ++ List.replicate 57 .u)
noncomputable abbrev vwb (kX : St → Z0) (kO : Nat → St → Z0) : Ex → St → Z0 := exK vxg 4 ((A_zz25).shape 35) kX kO
theorem vaws (N m : Nat) (kX : St → Z0) (kO : Nat → St → Z0) (o0 : Y5) (x3 y4 t7 t8 t20 t21 t46 t47 : Int) : vhp N (m + 1) (vwb kX kO) o0 x3 y4 t7 t8 t20 t21 t46 t47 = vfo (vhp N m (vwb kX kO)) (vqq kX) o0 x3 y4 t7 t8 t20 t21 t46 t47 := by kernel_rfl
theorem vaaj (N : Nat) (kX : St → Z0) (kO : Nat → St → Z0) : ∀ (n : Nat) (o0 : Y5) (x3 y4 t7 t8 t20 t21 t46 t47 : Int), vhp N n (vwb kX kO) o0 x3 y4 t7 t8 t20 t21 t46 t47 = vka N (vqq kX) n o0 x3 y4 t7 t8 t20 t21 t46 t47
  | 0, _, _, _, _, _, _, _, _, _ => rfl
  | m + 1, o0, x3, y4, t7, t8, t20, t21, t46, t47 => by
    have hrec : vhp N m (vwb kX kO) = (vka N (vqq kX) m) := (funext fun o0 => (funext fun x3 => (funext fun y4 => (funext fun t7 => (funext fun t8 => (funext fun t20 => (funext fun t21 => (funext fun t46 => (funext fun t47 => vaaj N kX kO m o0 x3 y4 t7 t8 t20 t21 t46 t47)))))))))
    refine (vaws N m kX kO o0 x3 y4 t7 t8 t20 t21 t46 t47).trans ?_
    rw [hrec]
    rfl
noncomputable abbrev vabn (N m : Nat) (kX : St → Z0) (kO : Nat → St → Z0) : Ex → St → Z0 := (blockK 4 (blockK 3 (seqK ((A_zz25).shape 35) (gated ((A_zz25).shape 500017).isSome N (run (A_zz25) N (codeAt Try.f111 [1, 0, 1, 0, 0, 1, 1, 0, 0, 1, 1, 1, 0, 0, 1, 1, 1]))) (iterK ((A_zz25).shape 14) (run (A_zz25) N (codeAt Try.f111 [1, 0, 1, 0, 0, 1, 1, 0, 0, 1, 1, 1, 0, 0])) m (vhf kX kO)))))
noncomputable abbrev vaby (N m : Nat) (kX : St → Z0) (kO : Nat → St → Z0) : St → Z0 := fun st' => run (A_zz25) N (codeAt Try.f111 [1, 0, 1, 0, 0, 1, 1, 0, 0, 1, 1, 1, 0, 0, 1, 1, 1]) st' (iterK ((A_zz25).shape 14) (run (A_zz25) N (codeAt Try.f111 [1, 0, 1, 0, 0, 1, 1, 0, 0, 1, 1, 1, 0, 0])) m (vhf kX kO))
theorem vask (N m : Nat) (kX : St → Z0) (kO : Nat → St → Z0) (o0 : Y5) (x3 t7 t8 t20 t21 : Int) : vqq (vaby N m kX kO) o0 x3 t7 t8 t20 t21 = vea (vfp N m (vhf kX kO)) o0 x3 t7 t8 t20 t21 := by kernel_rfl
theorem vbgv (N m : Nat) (kX : St → Z0) (kO : Nat → St → Z0) (recF : Y5 → Int → Int → Int → Int → Int → Z0) (hrec : vfp N m (vhf kX kO) = recF) (o0 : Y5) (x3 y4 t7 t8 t20 t21 t46 t47 : Int) : vhp N N (vabn N m kX kO) o0 x3 y4 t7 t8 t20 t21 t46 t47 = vfb N recF (vjr kX) o0 x3 y4 t7 t8 t20 t21 t46 t47 :=
  have h : vqq (vaby N m kX kO) = (vea recF) := (funext fun o0 => (funext fun x3 => (funext fun t7 => (funext fun t8 => (funext fun t20 => (funext fun t21 => (vask N m kX kO o0 x3 t7 t8 t20 t21).trans (by rw [hrec])))))))
  ((vad (fun st => by kernel_rfl) (fun st => by kernel_rfl)).trans (vaaj N (vaby N m kX kO) (fun j st => (vabn N m kX kO) (.exit j) st) N o0 x3 y4 t7 t8 t20 t21 t46 t47)).trans (congrArg (fun k => vka N k N o0 x3 y4 t7 t8 t20 t21 t46 t47) h)
theorem vbcw (N m : Nat) (kX : St → Z0) (kO : Nat → St → Z0) (o0 : Y5) (x3 t7 t8 t20 t21 : Int) : vfp N (m + 1) (vhf kX kO) o0 x3 t7 t8 t20 t21 = vpg (vhp N N (vabn N m kX kO)) (vjr kX) o0 x3 t7 t8 t20 t21 := by kernel_rfl
theorem vagb (N : Nat) (kX : St → Z0) (kO : Nat → St → Z0) : ∀ (n : Nat) (o0 : Y5) (x3 t7 t8 t20 t21 : Int), vfp N n (vhf kX kO) o0 x3 t7 t8 t20 t21 = vgq N (vjr kX) n o0 x3 t7 t8 t20 t21
  | 0, _, _, _, _, _, _ => rfl
  | m + 1, o0, x3, t7, t8, t20, t21 => by
    have hrec : vfp N m (vhf kX kO) = (vgq N (vjr kX) m) := (funext fun o0 => (funext fun x3 => (funext fun t7 => (funext fun t8 => (funext fun t20 => (funext fun t21 => vagb N kX kO m o0 x3 t7 t8 t20 t21))))))
    refine (vbcw N m kX kO o0 x3 t7 t8 t20 t21).trans ?_
    rw [(funext fun o0 => (funext fun x3 => (funext fun y4 => (funext fun t7 => (funext fun t8 => (funext fun t20 => (funext fun t21 => (funext fun t46 => (funext fun t47 => vbgv N m kX kO (vgq N (vjr kX) m) hrec o0 x3 y4 t7 t8 t20 t21 t46 t47)))))))))]
    rfl
noncomputable abbrev vamm (N m : Nat) (kX : St → Z0) (kO : Nat → St → Z0) : Ex → St → Z0 := (blockK 2 (blockK 1 (seqK ((A_zz25).shape 37) (gated ((A_zz25).shape 500018).isSome N (run (A_zz25) N (codeAt Try.f111 [1, 0, 1, 0, 0, 1, 1, 1]))) (iterK ((A_zz25).shape 4) (run (A_zz25) N (codeAt Try.f111 [1, 0, 1, 0, 0])) m (vij kX kO)))))
noncomputable abbrev vami (N m : Nat) (kX : St → Z0) (kO : Nat → St → Z0) : St → Z0 := fun st' => run (A_zz25) N (codeAt Try.f111 [1, 0, 1, 0, 0, 1, 1, 1]) st' (iterK ((A_zz25).shape 4) (run (A_zz25) N (codeAt Try.f111 [1, 0, 1, 0, 0])) m (vij kX kO))
theorem vaxm (N m : Nat) (kX : St → Z0) (kO : Nat → St → Z0) (o0 : Y5) (t7 t8 : Int) : vjr (vami N m kX kO) o0 t7 t8 = vce (vfz N m (vij kX kO)) o0 t7 t8 := by kernel_rfl
theorem vbju (N m : Nat) (kX : St → Z0) (kO : Nat → St → Z0) (recF : Y5 → Int → Int → Z0) (hrec : vfz N m (vij kX kO) = recF) (o0 : Y5) (x3 t7 t8 t20 t21 : Int) : vfp N N (vamm N m kX kO) o0 x3 t7 t8 t20 t21 = vst N recF (vix kX) o0 x3 t7 t8 t20 t21 :=
  have h : vjr (vami N m kX kO) = (vce recF) := (funext fun o0 => (funext fun t7 => (funext fun t8 => (vaxm N m kX kO o0 t7 t8).trans (by rw [hrec]))))
  ((vad (fun st => by kernel_rfl) (fun st => by kernel_rfl)).trans (vagb N (vami N m kX kO) (fun j st => (vamm N m kX kO) (.exit j) st) N o0 x3 t7 t8 t20 t21)).trans (congrArg (fun k => vgq N k N o0 x3 t7 t8 t20 t21) h)
theorem vbdm (N m : Nat) (kX : St → Z0) (kO : Nat → St → Z0) (o0 : Y5) (t7 t8 : Int) : vfz N (m + 1) (vij kX kO) o0 t7 t8 = vna (vfp N N (vamm N m kX kO)) (vix kX) o0 t7 t8 := by kernel_rfl
theorem vadj (N : Nat) (kX : St → Z0) (kO : Nat → St → Z0) : ∀ (n : Nat) (o0 : Y5) (t7 t8 : Int), vfz N n (vij kX kO) o0 t7 t8 = vfg N (vix kX) n o0 t7 t8
  | 0, _, _, _ => rfl
  | m + 1, o0, t7, t8 => by
    have hrec : vfz N m (vij kX kO) = (vfg N (vix kX) m) := (funext fun o0 => (funext fun t7 => (funext fun t8 => vadj N kX kO m o0 t7 t8)))
    refine (vbdm N m kX kO o0 t7 t8).trans ?_
    rw [(funext fun o0 => (funext fun x3 => (funext fun t7 => (funext fun t8 => (funext fun t20 => (funext fun t21 => vbju N m kX kO (vfg N (vix kX) m) hrec o0 x3 t7 t8 t20 t21))))))]
    rfl
noncomputable abbrev vamd (N : Nat) : Ex → St → Z0 := (blockK 0 (seqK ((A_zz25).shape 39) (gated ((A_zz25).shape 500019).isSome N (run (A_zz25) N (codeAt Try.f111 [1, 1]))) vxg))
noncomputable abbrev vamv (N : Nat) : St → Z0 := fun st' => run (A_zz25) N (codeAt Try.f111 [1, 1]) st' vxg
theorem vayi (N : Nat) : vix (vamv N) = vcn := by kernel_rfl
theorem vblv (N : Nat) (o0 : Y5) (t7 t8 : Int) : vfz N N (vamd N) o0 t7 t8 = vamp N o0 t7 t8 :=
  have h : vix (vamv N) = (vcn) := vayi N
  ((vad (fun st => by kernel_rfl) (fun st => by kernel_rfl)).trans (vadj N (vamv N) (fun j st => (vamd N) (.exit j) st) N o0 t7 t8)).trans (congrArg (fun k => vfg N k N o0 t7 t8) h)
theorem run0_zz25 (N : Nat) (x : (S_zz25).a.den) : runF (A_zz25) N Try.f111 S_zz25 x = (vaqo (vfz N N (vamd N)) x.1) := by kernel_rfl
theorem run_zz25 (N : Nat) (x : (S_zz25).a.den) : runF (A_zz25) N Try.f111 S_zz25 x = zz25 N x.1 := by
  refine (run0_zz25 N x).trans ?_
  rw [(funext fun o0 => (funext fun t7 => (funext fun t8 => vblv N o0 t7 t8)))]
  rfl
theorem fn_zz25 : FnOk Try.prog 111 := ⟨_, Try.func111, by kernel_rfl, by kernel_rfl⟩
theorem good_zz25 : Gx.Good Try.prog 111 S_zz25 := vaa Try.func111 (of_decide_eq_true (by kernel_rfl)) fun x r h => ⟨A_zz25, big, vac tabOk, vab (show SigsOk Try.prog [] from trivial), (run_zz25 big x).trans h⟩
def vja (rec : Int → Y5 → Int → Y3 → Int → Int → Y4 → Int → Bool → Bool → Y4 → Int → Int → Z9) (k : Int → Y5 → Y3 → Int → Int → Y4 → Int → Bool → Bool → Z9) (n4 : Int) (o5 : Y5) (x6 : Int) (t18 : Y3) (t19 t20 : Int) (t29 : Y4) (t30 : Int) (t31 t32 : Bool) (t34 : Y4) (t35 t36 : Int) : Z9 :=
  cond (decide (t36 < t35))
  ((atI t34 t36).bind fun xq6 =>
  (atI o5 xq6).bind fun _ =>
  (o5[xq6.toNat]?).bind fun xq7 =>
  (o5[xq6.toNat]?).bind fun xq8 =>
  (atI xq8 x6).bind fun _ =>
  (o5[xq6.toNat]?).bind fun xq9 =>
  (xq9[x6.toNat]?).bind fun xq10 =>
  rec n4 (o5.set xq6.toNat (xq9.set x6.toNat true)) x6 t18 t19 t20 t29 t30 t31 t32 t34 t35 (IntKind.i64.wrap (t36 + (1 : Int))))
  (k n4 o5 t18 t19 t20 t29 t30 t31 t32)
def vdt (rec : Int → Y5 → Y3 → Int → Int → Z9) (n4 : Int) (o5 : Y5) (t18 : Y3) (t19 t20 : Int) (t29 : Y4) (t30 : Int) (t31 t32 : Bool) : Z9 :=
  rec n4 o5 t18 t19 (IntKind.i64.wrap (t20 + (1 : Int)))
def vpx (L11 : Int → Y5 → Int → Y3 → Int → Int → Y4 → Int → Bool → Bool → Y4 → Int → Int → Z9) (k : Y5 → Z9) (n4 : Int) (o5 : Y5) (t18 : Y3) (t19 t20 : Int) : Z9 :=
  cond (decide (t20 < t19))
  ((atI t18 t20).bind fun xq2 =>
  (zz23 big xq2).bind fun rq3 =>
  cond (!rq3.1)
  (some (([], false, ()), (())))
  ((zz24 big xq2 n4).bind fun rq4 =>
  cond (!rq4.1)
  (some (([], false, ()), (())))
  (L11 n4 o5 t20 t18 t19 t20 xq2 n4 rq4.1 (!rq4.1) xq2 (xq2.length : Int) (0 : Int))))
  (k o5)
def vcv (o5 : Y5) : Z9 :=
  (zz25 big o5).bind fun rq5 =>
  some ((o5, rq5.1, ()), (()))
def vagg (L6 : Int → Y5 → Y3 → Int → Int → Z9) (p_0 : Y2) : Z9 :=
  cond (decide ((10 : Int) < (p_0.1.length : Int)))
  (some (([], false, ()), (())))
  ((zz22 big (p_0.1.length : Int)).bind fun rq1 =>
  L6 (p_0.1.length : Int) rq1.1 p_0.1 (p_0.1.length : Int) (0 : Int))
def vht (N : Nat) (k : Int → Y5 → Y3 → Int → Int → Y4 → Int → Bool → Bool → Z9) : Nat → Int → Y5 → Int → Y3 → Int → Int → Y4 → Int → Bool → Bool → Y4 → Int → Int → Z9
  | 0, _, _, _, _, _, _, _, _, _, _, _, _, _ => none
  | m + 1, n4, o5, x6, t18, t19, t20, t29, t30, t31, t32, t34, t35, t36 => vja (vht N k m) k n4 o5 x6 t18 t19 t20 t29 t30 t31 t32 t34 t35 t36
def vqm (N : Nat) (rec : Int → Y5 → Y3 → Int → Int → Z9) (k : Y5 → Z9) (n4 : Int) (o5 : Y5) (x6 : Int) (t18 : Y3) (t19 t20 : Int) (t29 : Y4) (t30 : Int) (t31 t32 : Bool) (t34 : Y4) (t35 t36 : Int) : Z9 := vht N (vdt rec) N n4 o5 x6 t18 t19 t20 t29 t30 t31 t32 t34 t35 t36
def vfu (N : Nat) (k : Y5 → Z9) : Nat → Int → Y5 → Y3 → Int → Int → Z9
  | 0, _, _, _, _, _ => none
  | m + 1, n4, o5, t18, t19, t20 => vpx (vqm N (vfu N k m) k) k n4 o5 t18 t19 t20
def vamt (N : Nat) (n4 : Int) (o5 : Y5) (t18 : Y3) (t19 t20 : Int) : Z9 := vfu N (vcv) N n4 o5 t18 t19 t20
def zz26 (N : Nat) (p_0 : Y2) : Z9 := vagg (vamt N) p_0
def S_zz26 : Sig := { a := (.pair (.pair (.sl (.sl I)) .unit) .unit), md := [0], mf := [], m := .unit, r := (.tup (.pair (.sl (.sl .bool)) (.pair .bool .unit))), rf := (.p (.o (.o .i)) .i), f := fun x => zz26 big x.1 }
def A_zz26 : Cfg := mkCfg tab [(109, S_zz22), (110, S_zz23), (101, S_zz24), (111, S_zz25)] [(12, [.drop, .drop, .drop, .drop, .as I .i, .as (.sl (.sl .bool)) (.o (.o .i)), .drop, .drop, .drop, .drop, .drop, .drop, .drop, .drop, .drop, .drop, .drop, .drop, .as (.sl (.sl I)) .i, .as I .i, .as I .i]), (22, [.drop, .drop, .drop, .drop, .as I .i, .as (.sl (.sl .bool)) (.o (.o .i)), .as I .i, .drop, .drop, .drop, .drop, .drop, .drop, .drop, .drop, .drop, .drop, .drop, .as (.sl (.sl I)) .i, .as I .i, .as I .i, .drop, .drop, .drop, .drop, .drop, .drop, .drop, .drop, .as (.sl I) .i, .as I .i, .as .bool .i, .as .bool .i, .drop, .as (.sl I) .i, .as I .i, .as I .i]), (33, [.drop, .drop, .drop, .drop, .drop, .as (.sl (.sl .bool)) (.o (.o .i))]), (31, [.drop, .drop, .drop, .drop, .as I .i, .as (.sl (.sl .bool)) (.o (.o .i)), .drop, .drop, .drop, .drop, .drop, .drop, .drop, .drop, .drop, .drop, .drop, .drop, .as (.sl (.sl I)) .i, .as I .i, .as I .i, .drop, .drop, .drop, .drop, .drop, .drop, .drop, .drop, .as (.sl I) .i, .as I .i, .as .bool .i, .as .bool .i])]
noncomputable def vkn (N n : Nat) (K : Ex → St → Z9) (n4 : Int) (o5 : Y5) (t18 : Y3) (t19 t20 : Int) : Z9 := iter ((A_zz26).shape 12) (run (A_zz26) N (codeAt Try.f58 [1, 1, 1, 1, 0, 1, 0, 0])) n ([.u, .u, .u, .u, .val I .i n4, .val (.sl (.sl .bool)) (.o (.o .i)) o5, .u, .u, .u, .u, .u, .u, .u, .u, .u, .u, .u, .u, .val (.sl (.sl I)) .i t18, .val I .i t19, .val I .i t20] ++ List.replicate 30 .u) K
noncomputable def vgk (N n : Nat) (K : Ex → St → Z9) (n4 : Int) (o5 : Y5) (x6 : Int) (t18 : Y3) (t19 t20 : Int) (t29 : Y4) (t30 : Int) (t31 t32 : Bool) (t34 : Y4) (t35 t36 : Int) : Z9 := iter ((A_zz26).shape 22) (run (A_zz26) N (codeAt Try.f58 [1, 1, 1, 1, 0, 1, 0, 0, 1, 1, 0, 0, 1, 1, 1, 0, 0])) n ([.u, .u, .u, .u, .val I .i n4, .val (.sl (.sl .bool)) (.o (.o .i)) o5, .val I .i x6, .u, .u, .u, .u, .u, .u, .u, .u, .u, .u, .u, .val (.sl (.sl I)) .i t18, .val I .i t19, .val I .i t20, .u, .u, .u, .u, .u, .u, .u, .u, .val (.sl I) .i t29, .val I .i t30, .val .bool .i t31, .val .bool .i t32, .u, .val (.sl I) .i t34, .val I .i t35, .val I .i t36] ++ List.replicate 14 .u) K
noncomputable abbrev vadv : Ex → St → Z9 := finish (A_zz26) S_zz26 Try.f58.results.toList
noncomputable abbrev vgf (kX : St → Z9) : Y5 → Z9 := fun (o5 : Y5) => kX ([.u, .u, .u, .u, .u, .val (.sl (.sl .bool)) (.o (.o .i)) o5] ++ List.replicate 45 .u)
noncomputable abbrev vgv (kX : St → Z9) (kO : Nat → St → Z9) : Ex → St → Z9 := exK vadv 0 ((A_zz26).shape 33) kX kO
noncomputable abbrev vqn (kX : St → Z9) : Int → Y5 → Y3 → Int → Int → Y4 → Int → Bool → Bool → Z9 := fun (n4 : Int) (o5 : Y5) (t18 : Y3) (t19 t20 : Int) (t29 : Y4) (t30 : Int) (t31 t32 : Bool) => kX ([.u, .u, .u, .u, .val I .i n4, .val (.sl (.sl .bool)) (.o (.o .i)) o5, .u, .u, .u, .u, .u, .u, .u, .u, .u, .u, .u, .u, .val (.sl (.sl I)) .i t18, .val I .i t19, .val I .i t20, .u, .u, .u, .u, .u, .u, .u, .u, .val (.sl I) .i t29, .val I .i t30, .val .bool .i t31, .val .bool .i t32] ++ List.replicate 18 .u)
noncomputable abbrev vvt (kX : St → Z9) (kO : Nat → St → Z9) : Ex → St → Z9 := exK vadv 2 ((A_zz26).shape 31) kX kO
theorem vavk (N m : Nat) (kX : St → Z9) (kO : Nat → St → Z9) (n4 : Int) (o5 : Y5) (x6 : Int) (t18 : Y3) (t19 t20 : Int) (t29 : Y4) (t30 : Int) (t31 t32 : Bool) (t34 : Y4) (t35 t36 : Int) : vgk N (m + 1) (vvt kX kO) n4 o5 x6 t18 t19 t20 t29 t30 t31 t32 t34 t35 t36 = vja (vgk N m (vvt kX kO)) (vqn kX) n4 o5 x6 t18 t19 t20 t29 t30 t31 t32 t34 t35 t36 := by kernel_rfl
theorem vaal (N : Nat) (kX : St → Z9) (kO : Nat → St → Z9) : ∀ (n : Nat) (n4 : Int) (o5 : Y5) (x6 : Int) (t18 : Y3) (t19 t20 : Int) (t29 : Y4) (t30 : Int) (t31 t32 : Bool) (t34 : Y4) (t35 t36 : Int), vgk N n (vvt kX kO) n4 o5 x6 t18 t19 t20 t29 t30 t31 t32 t34 t35 t36 = vht N (vqn kX) n n4 o5 x6 t18 t19 t20 t29 t30 t31 t32 t34 t35 t36
  | 0, _, _, _, _, _, _, _, _, _, _, _, _, _ => rfl
  | m + 1, n4, o5, x6, t18, t19, t20, t29, t30, t31, t32, t34, t35, t36 => by
    have hrec : vgk N m (vvt kX kO) = (vht N (vqn kX) m) := (funext fun n4 => (funext fun o5 => (funext fun x6 => (funext fun t18 => (funext fun t19 => (funext fun t20 => (funext fun t29 => (funext fun t30 => (funext fun t31 => (funext fun t32 => (funext fun t34 => (funext fun t35 => (funext fun t36 => vaal N kX kO m n4 o5 x6 t18 t19 t20 t29 t30 t31 t32 t34 t35 t36)))))))))))))
    refine (vavk N m kX kO n4 o5 x6 t18 t19 t20 t29 t30 t31 t32 t34 t35 t36).trans ?_
    rw [hrec]
    rfl
noncomputable abbrev vabb (N m : Nat) (kX : St → Z9) (kO : Nat → St → Z9) : Ex → St → Z9 := (blockK 2 (blockK 1 (seqK ((A_zz26).shape 31) (gated ((A_zz26).shape 500015).isSome N (run (A_zz26) N (codeAt Try.f58 [1, 1, 1, 1, 0, 1, 0, 0, 1, 1, 1]))) (iterK ((A_zz26).shape 12) (run (A_zz26) N (codeAt Try.f58 [1, 1, 1, 1, 0, 1, 0, 0])) m (vgv kX kO)))))
noncomputable abbrev vabe (N m : Nat) (kX : St → Z9) (kO : Nat → St → Z9) : St → Z9 := fun st' => run (A_zz26) N (codeAt Try.f58 [1, 1, 1, 1, 0, 1, 0, 0, 1, 1, 1]) st' (iterK ((A_zz26).shape 12) (run (A_zz26) N (codeAt Try.f58 [1, 1, 1, 1, 0, 1, 0, 0])) m (vgv kX kO))
theorem vaqa (N m : Nat) (kX : St → Z9) (kO : Nat → St → Z9) (n4 : Int) (o5 : Y5) (t18 : Y3) (t19 t20 : Int) (t29 : Y4) (t30 : Int) (t31 t32 : Bool) : vqn (vabe N m kX kO) n4 o5 t18 t19 t20 t29 t30 t31 t32 = vdt (vkn N m (vgv kX kO)) n4 o5 t18 t19 t20 t29 t30 t31 t32 := by kernel_rfl
theorem vbgu (N m : Nat) (kX : St → Z9) (kO : Nat → St → Z9) (recF : Int → Y5 → Y3 → Int → Int → Z9) (hrec : vkn N m (vgv kX kO) = recF) (n4 : Int) (o5 : Y5) (x6 : Int) (t18 : Y3) (t19 t20 : Int) (t29 : Y4) (t30 : Int) (t31 t32 : Bool) (t34 : Y4) (t35 t36 : Int) : vgk N N (vabb N m kX kO) n4 o5 x6 t18 t19 t20 t29 t30 t31 t32 t34 t35 t36 = vqm N recF (vgf kX) n4 o5 x6 t18 t19 t20 t29 t30 t31 t32 t34 t35 t36 :=
  have h : vqn (vabe N m kX kO) = (vdt recF) := (funext fun n4 => (funext fun o5 => (funext fun t18 => (funext fun t19 => (funext fun t20 => (funext fun t29 => (funext fun t30 => (funext fun t31 => (funext fun t32 => (vaqa N m kX kO n4 o5 t18 t19 t20 t29 t30 t31 t32).trans (by rw [hrec]))))))))))
  ((vad (fun st => by kernel_rfl) (fun st => by kernel_rfl)).trans (vaal N (vabe N m kX kO) (fun j st => (vabb N m kX kO) (.exit j) st) N n4 o5 x6 t18 t19 t20 t29 t30 t31 t32 t34 t35 t36)).trans (congrArg (fun k => vht N k N n4 o5 x6 t18 t19 t20 t29 t30 t31 t32 t34 t35 t36) h)
theorem vbcl (N m : Nat) (kX : St → Z9) (kO : Nat → St → Z9) (n4 : Int) (o5 : Y5) (t18 : Y3) (t19 t20 : Int) : vkn N (m + 1) (vgv kX kO) n4 o5 t18 t19 t20 = vpx (vgk N N (vabb N m kX kO)) (vgf kX) n4 o5 t18 t19 t20 := by kernel_rfl
theorem vafj (N : Nat) (kX : St → Z9) (kO : Nat → St → Z9) : ∀ (n : Nat) (n4 : Int) (o5 : Y5) (t18 : Y3) (t19 t20 : Int), vkn N n (vgv kX kO) n4 o5 t18 t19 t20 = vfu N (vgf kX) n n4 o5 t18 t19 t20
  | 0, _, _, _, _, _ => rfl
  | m + 1, n4, o5, t18, t19, t20 => by
    have hrec : vkn N m (vgv kX kO) = (vfu N (vgf kX) m) := (funext fun n4 => (funext fun o5 => (funext fun t18 => (funext fun t19 => (funext fun t20 => vafj N kX kO m n4 o5 t18 t19 t20)))))
    refine (vbcl N m kX kO n4 o5 t18 t19 t20).trans ?_
    rw [(funext fun n4 => (funext fun o5 => (funext fun x6 => (funext fun t18 => (funext fun t19 => (funext fun t20 => (funext fun t29 => (funext fun t30 => (funext fun t31 => (funext fun t32 => (funext fun t34 => (funext fun t35 => (funext fun t36 => vbgu N m kX kO (vfu N (vgf kX) m) hrec n4 o5 x6 t18 t19 t20 t29 t30 t31 t32 t34 t35 t36)))))))))))))]
    rfl
noncomputable abbrev vaje (N : Nat) : Ex → St → Z9 := (blockK 0 (seqK ((A_zz26).shape 33) (gated ((A_zz26).shape 500016).isSome N (run (A_zz26) N (codeAt Try.f58 [1, 1, 1, 1, 1]))) vadv))
noncomputable abbrev vaml (N : Nat) : St → Z9 := fun st' => run (A_zz26) N (codeAt Try.f58 [1, 1, 1, 1, 1]) st' vadv
theorem vaww (N : Nat) (o5 : Y5) : vgf (vaml N) o5 = vcv o5 := by kernel_rfl
theorem vblh (N : Nat) (n4 : Int) (o5 : Y5) (t18 : Y3) (t19 t20 : Int) : vkn N N (vaje N) n4 o5 t18 t19 t20 = vamt N n4 o5 t18 t19 t20 :=
  have h : vgf (vaml N) = (vcv) := (funext fun o5 => vaww N o5)
  ((vad (fun st => by kernel_rfl) (fun st => by kernel_rfl)).trans (vafj N (vaml N) (fun j st => (vaje N) (.exit j) st) N n4 o5 t18 t19 t20)).trans (congrArg (fun k => vfu N k N n4 o5 t18 t19 t20) h)
theorem run0_zz26 (N : Nat) (x : (S_zz26).a.den) : runF (A_zz26) N Try.f58 S_zz26 x = (vagg (vkn N N (vaje N)) x.1) := by kernel_rfl
theorem run_zz26 (N : Nat) (x : (S_zz26).a.den) : runF (A_zz26) N Try.f58 S_zz26 x = zz26 N x.1 := by
  refine (run0_zz26 N x).trans ?_
  rw [(funext fun n4 => (funext fun o5 => (funext fun t18 => (funext fun t19 => (funext fun t20 => vblh N n4 o5 t18 t19 t20)))))]
  rfl
theorem fn_zz26 : FnOk Try.prog 58 := ⟨_, Try.func58, by kernel_rfl, by kernel_rfl⟩
theorem good_zz26 : Gx.Good Try.prog 58 S_zz26 := vaa Try.func58 (of_decide_eq_true (by kernel_rfl)) fun x r h => ⟨A_zz26, big, vac tabOk, vab (show SigsOk Try.prog [(109, S_zz22), (110, S_zz23), (101, S_zz24), (111, S_zz25)] from ⟨⟨fn_zz22, good_zz22⟩, ⟨fn_zz23, good_zz23⟩, ⟨fn_zz24, good_zz24⟩, ⟨fn_zz25, good_zz25⟩, trivial⟩), (run_zz26 big x).trans h⟩
def voa (rec : Y5 → Y4 → Int → Bool → Y4 → Int → Int → Y4 → Int → Int → Z6) (k : Y5 → Y4 → Int → Bool → Y4 → Int → Int → Z6) (o0 : Y5) (list1 : Y4) (x6 : Int) (top7 : Bool) (t10 : Y4) (t11 t12 : Int) (t16 : Y4) (t17 t18 : Int) : Z6 :=
  cond (decide (t18 < t17))
  ((atI t16 t18).bind fun xq2 =>
  cond top7
  ((atI o0 xq2).bind fun xq3 =>
  (atI xq3 x6).bind fun xq4 =>
  rec o0 list1 x6 xq4 t10 t11 t12 t16 t17 (IntKind.i64.wrap (t18 + (1 : Int))))
  (rec o0 list1 x6 false t10 t11 t12 t16 t17 (IntKind.i64.wrap (t18 + (1 : Int)))))
  (k o0 list1 x6 top7 t10 t11 t12)
def vgb (rec : Y5 → Y4 → Y4 → Int → Int → Z6) (o0 : Y5) (list1 : Y4) (x6 : Int) (top7 : Bool) (t10 : Y4) (t11 t12 : Int) : Z6 :=
  cond top7
  (some (x6, (())))
  (rec o0 list1 t10 t11 (IntKind.i64.wrap (t12 + (1 : Int))))
def vlx (L6 : Y5 → Y4 → Int → Bool → Y4 → Int → Int → Y4 → Int → Int → Z6) (k : Z6) (o0 : Y5) (list1 t10 : Y4) (t11 t12 : Int) : Z6 :=
  cond (decide (t12 < t11))
  ((atI t10 t12).bind fun xq1 =>
  L6 o0 list1 xq1 true t10 t11 t12 list1 (list1.length : Int) (0 : Int))
  (k)
def vdh : Z6 :=
  some ((-1 : Int), (()))
def vapx (L2 : Y5 → Y4 → Y4 → Int → Int → Z6) (o_0 : Y5) (list_1 : Y4) : Z6 :=
  L2 o_0 list_1 list_1 (list_1.length : Int) (0 : Int)
def vpn (N : Nat) (k : Y5 → Y4 → Int → Bool → Y4 → Int → Int → Z6) : Nat → Y5 → Y4 → Int → Bool → Y4 → Int → Int → Y4 → Int → Int → Z6
  | 0, _, _, _, _, _, _, _, _, _, _ => none
  | m + 1, o0, list1, x6, top7, t10, t11, t12, t16, t17, t18 => voa (vpn N k m) k o0 list1 x6 top7 t10 t11 t12 t16 t17 t18
def vta (N : Nat) (rec : Y5 → Y4 → Y4 → Int → Int → Z6) (k : Z6) (o0 : Y5) (list1 : Y4) (x6 : Int) (top7 : Bool) (t10 : Y4) (t11 t12 : Int) (t16 : Y4) (t17 t18 : Int) : Z6 := vpn N (vgb rec) N o0 list1 x6 top7 t10 t11 t12 t16 t17 t18
def vgr (N : Nat) (k : Z6) : Nat → Y5 → Y4 → Y4 → Int → Int → Z6
  | 0, _, _, _, _, _ => none
  | m + 1, o0, list1, t10, t11, t12 => vlx (vta N (vgr N k m) k) k o0 list1 t10 t11 t12
def vahu (N : Nat) (o0 : Y5) (list1 t10 : Y4) (t11 t12 : Int) : Z6 := vgr N (vdh) N o0 list1 t10 t11 t12
def zz27 (N : Nat) (o_0 : Y5) (list_1 : Y4) : Z6 := vapx (vahu N) o_0 list_1
def S_zz27 : Sig := { a := (.pair (.sl (.sl .bool)) (.pair (.sl I) .unit)), md := [0, 0], mf := [], m := .unit, r := I, rf := .i, f := fun x => zz27 big x.1 x.2.1 }
def A_zz27 : Cfg := mkCfg tab [] [(4, [.as (.sl (.sl .bool)) .i, .as (.sl I) .i, .drop, .drop, .drop, .drop, .drop, .drop, .drop, .drop, .as (.sl I) .i, .as I .i, .as I .i]), (12, [.as (.sl (.sl .bool)) .i, .as (.sl I) .i, .drop, .drop, .drop, .drop, .as I .i, .as .bool .i, .drop, .drop, .as (.sl I) .i, .as I .i, .as I .i, .drop, .drop, .drop, .as (.sl I) .i, .as I .i, .as I .i]), (27, []), (21, [.as (.sl (.sl .bool)) .i, .as (.sl I) .i, .drop, .drop, .drop, .drop, .as I .i, .as .bool .i, .drop, .drop, .as (.sl I) .i, .as I .i, .as I .i])]
noncomputable def vha (N n : Nat) (K : Ex → St → Z6) (o0 : Y5) (list1 t10 : Y4) (t11 t12 : Int) : Z6 := iter ((A_zz27).shape 4) (run (A_zz27) N (codeAt Try.f123 [1, 0, 1, 0, 0])) n ([.val (.sl (.sl .bool)) .i o0, .val (.sl I) .i list1, .u, .u, .u, .u, .u, .u, .u, .u, .val (.sl I) .i t10, .val I .i t11, .val I .i t12] ++ List.replicate 23 .u) K
noncomputable def vns (N n : Nat) (K : Ex → St → Z6) (o0 : Y5) (list1 : Y4) (x6 : Int) (top7 : Bool) (t10 : Y4) (t11 t12 : Int) (t16 : Y4) (t17 t18 : Int) : Z6 := iter ((A_zz27).shape 12) (run (A_zz27) N (codeAt Try.f123 [1, 0, 1, 0, 0, 1, 1, 0, 0, 1, 1, 0, 1, 0, 0])) n ([.val (.sl (.sl .bool)) .i o0, .val (.sl I) .i list1, .u, .u, .u, .u, .val I .i x6, .val .bool .i top7, .u, .u, .val (.sl I) .i t10, .val I .i t11, .val I .i t12, .u, .u, .u, .val (.sl I) .i t16, .val I .i t17, .val I .i t18] ++ List.replicate 17 .u) K
noncomputable abbrev vadf : Ex → St → Z6 := finish (A_zz27) S_zz27 Try.f123.results.toList
noncomputable abbrev vjp (kX : St → Z6) : Z6 := kX ([] ++ List.replicate 36 .u)
noncomputable abbrev vhn (kX : St → Z6) (kO : Nat → St → Z6) : Ex → St → Z6 := exK vadf 0 ((A_zz27).shape 27) kX kO
noncomputable abbrev vuf (kX : St → Z6) : Y5 → Y4 → Int → Bool → Y4 → Int → Int → Z6 := fun (o0 : Y5) (list1 : Y4) (x6 : Int) (top7 : Bool) (t10 : Y4) (t11 t12 : Int) => kX ([.val (.sl (.sl .bool)) .i o0, .val (.sl I) .i list1, .u, .u, .u, .u, .val I .i x6, .val .bool .i top7, .u, .u, .val (.sl I) .i t10, .val I .i t11, .val I .i t12] ++ List.replicate 23 .u)
noncomputable abbrev vzp (kX : St → Z6) (kO : Nat → St → Z6) : Ex → St → Z6 := exK vadf 2 ((A_zz27).shape 21) kX kO
theorem vbav (N m : Nat) (kX : St → Z6) (kO : Nat → St → Z6) (o0 : Y5) (list1 : Y4) (x6 : Int) (top7 : Bool) (t10 : Y4) (t11 t12 : Int) (t16 : Y4) (t17 t18 : Int) : vns N (m + 1) (vzp kX kO) o0 list1 x6 top7 t10 t11 t12 t16 t17 t18 = voa (vns N m (vzp kX kO)) (vuf kX) o0 list1 x6 top7 t10 t11 t12 t16 t17 t18 := by kernel_rfl
theorem vadm (N : Nat) (kX : St → Z6) (kO : Nat → St → Z6) : ∀ (n : Nat) (o0 : Y5) (list1 : Y4) (x6 : Int) (top7 : Bool) (t10 : Y4) (t11 t12 : Int) (t16 : Y4) (t17 t18 : Int), vns N n (vzp kX kO) o0 list1 x6 top7 t10 t11 t12 t16 t17 t18 = vpn N (vuf kX) n o0 list1 x6 top7 t10 t11 t12 t16 t17 t18
  | 0, _, _, _, _, _, _, _, _, _, _ => rfl
  | m + 1, o0, list1, x6, top7, t10, t11, t12, t16, t17, t18 => by
    have hrec : vns N m (vzp kX kO) = (vpn N (vuf kX) m) := (funext fun o0 => (funext fun list1 => (funext fun x6 => (funext fun top7 => (funext fun t10 => (funext fun t11 => (funext fun t12 => (funext fun t16 => (funext fun t17 => (funext fun t18 => vadm N kX kO m o0 list1 x6 top7 t10 t11 t12 t16 t17 t18))))))))))
    refine (vbav N m kX kO o0 list1 x6 top7 t10 t11 t12 t16 t17 t18).trans ?_
    rw [hrec]
    rfl
noncomputable abbrev valq (N m : Nat) (kX : St → Z6) (kO : Nat → St → Z6) : Ex → St → Z6 := (blockK 2 (seqK ((A_zz27).shape 21) (gated ((A_zz27).shape 500010).isSome N (run (A_zz27) N (codeAt Try.f123 [1, 0, 1, 0, 0, 1, 1, 0, 0, 1, 1, 1]))) (blockK 1 (seqK ((A_zz27).shape 25) (gated ((A_zz27).shape 500012).isSome N (run (A_zz27) N (codeAt Try.f123 [1, 0, 1, 0, 0, 1, 1, 1]))) (iterK ((A_zz27).shape 4) (run (A_zz27) N (codeAt Try.f123 [1, 0, 1, 0, 0])) m (vhn kX kO))))))
noncomputable abbrev vajk (N m : Nat) (kX : St → Z6) (kO : Nat → St → Z6) : St → Z6 := fun st' => run (A_zz27) N (codeAt Try.f123 [1, 0, 1, 0, 0, 1, 1, 0, 0, 1, 1, 1]) st' (blockK 1 (seqK ((A_zz27).shape 25) (gated ((A_zz27).shape 500012).isSome N (run (A_zz27) N (codeAt Try.f123 [1, 0, 1, 0, 0, 1, 1, 1]))) (iterK ((A_zz27).shape 4) (run (A_zz27) N (codeAt Try.f123 [1, 0, 1, 0, 0])) m (vhn kX kO))))
theorem vayh (N m : Nat) (kX : St → Z6) (kO : Nat → St → Z6) (o0 : Y5) (list1 : Y4) (x6 : Int) (top7 : Bool) (t10 : Y4) (t11 t12 : Int) : vuf (vajk N m kX kO) o0 list1 x6 top7 t10 t11 t12 = vgb (vha N m (vhn kX kO)) o0 list1 x6 top7 t10 t11 t12 := by kernel_rfl
theorem vblj (N m : Nat) (kX : St → Z6) (kO : Nat → St → Z6) (recF : Y5 → Y4 → Y4 → Int → Int → Z6) (hrec : vha N m (vhn kX kO) = recF) (o0 : Y5) (list1 : Y4) (x6 : Int) (top7 : Bool) (t10 : Y4) (t11 t12 : Int) (t16 : Y4) (t17 t18 : Int) : vns N N (valq N m kX kO) o0 list1 x6 top7 t10 t11 t12 t16 t17 t18 = vta N recF (vjp kX) o0 list1 x6 top7 t10 t11 t12 t16 t17 t18 :=
  have h : vuf (vajk N m kX kO) = (vgb recF) := (funext fun o0 => (funext fun list1 => (funext fun x6 => (funext fun top7 => (funext fun t10 => (funext fun t11 => (funext fun t12 => (vayh N m kX kO o0 list1 x6 top7 t10 t11 t12).trans (by rw [hrec]))))))))
  ((vad (fun st => by kernel_rfl) (fun st => by kernel_rfl)).trans (vadm N (vajk N m kX kO) (fun j st => (valq N m kX kO) (.exit j) st) N o0 list1 x6 top7 t10 t11 t12 t16 t17 t18)).trans (congrArg (fun k => vpn N k N o0 list1 x6 top7 t10 t11 t12 t16 t17 t18) h)
theorem vbai (N m : Nat) (kX : St → Z6) (kO : Nat → St → Z6) (o0 : Y5) (list1 t10 : Y4) (t11 t12 : Int) : vha N (m + 1) (vhn kX kO) o0 list1 t10 t11 t12 = vlx (vns N N (valq N m kX kO)) (vjp kX) o0 list1 t10 t11 t12 := by kernel_rfl
theorem vafx (N : Nat) (kX : St → Z6) (kO : Nat → St → Z6) : ∀ (n : Nat) (o0 : Y5) (list1 t10 : Y4) (t11 t12 : Int), vha N n (vhn kX kO) o0 list1 t10 t11 t12 = vgr N (vjp kX) n o0 list1 t10 t11 t12
  | 0, _, _, _, _, _ => rfl
  | m + 1, o0, list1, t10, t11, t12 => by
    have hrec : vha N m (vhn kX kO) = (vgr N (vjp kX) m) := (funext fun o0 => (funext fun list1 => (funext fun t10 => (funext fun t11 => (funext fun t12 => vafx N kX kO m o0 list1 t10 t11 t12)))))
    refine (vbai N m kX kO o0 list1 t10 t11 t12).trans ?_
    rw [(funext fun o0 => (funext fun list1 => (funext fun x6 => (funext fun top7 => (funext fun t10 => (funext fun t11 => (funext fun t12 => (funext fun t16 => (funext fun t17 => (funext fun t18 => vblj N m kX kO (vgr N (vjp kX) m) hrec o0 list1 x6 top7 t10 t11 t12 t16 t17 t18))))))))))]
    rfl
noncomputable abbrev vaiq (N : Nat) : Ex → St → Z6 := (blockK 0 (seqK ((A_zz27).shape 27) (gated ((A_zz27).shape 500013).isSome N (run (A_zz27) N (codeAt Try.f123 [1, 1]))) vadf))
noncomputable abbrev valj (N : Nat) : St → Z6 := fun st' => run (A_zz27) N (codeAt Try.f123 [1, 1]) st' vadf
theorem vayg (N : Nat) : vjp (valj N) = vdh := by kernel_rfl
theorem vbhz (N : Nat) (o0 : Y5) (list1 t10 : Y4) (t11 t12 : Int) : vha N N (vaiq N) o0 list1 t10 t11 t12 = vahu N o0 list1 t10 t11 t12 :=
  have h : vjp (valj N) = (vdh) := vayg N
  ((vad (fun st => by kernel_rfl) (fun st => by kernel_rfl)).trans (vafx N (valj N) (fun j st => (vaiq N) (.exit j) st) N o0 list1 t10 t11 t12)).trans (congrArg (fun k => vgr N k N o0 list1 t10 t11 t12) h)
theorem run0_zz27 (N : Nat) (x : (S_zz27).a.den) : runF (A_zz27) N Try.f123 S_zz27 x = (vapx (vha N N (vaiq N)) x.1 x.2.1) := by kernel_rfl
theorem run_zz27 (N : Nat) (x : (S_zz27).a.den) : runF (A_zz27) N Try.f123 S_zz27 x = zz27 N x.1 x.2.1 := by
  refine (run0_zz27 N x).trans ?_
  rw [(funext fun o0 => (funext fun list1 => (funext fun t10 => (funext fun t11 => (funext fun t12 => vbhz N o0 list1 t10 t11 t12)))))]
  rfl
theorem fn_zz27 : FnOk Try.prog 123 := ⟨_, Try.func123, by kernel_rfl, by kernel_rfl⟩
theorem good_zz27 : Gx.Good Try.prog 123 S_zz27 := vaa Try.func123 (of_decide_eq_true (by kernel_rfl)) fun x r h => ⟨A_zz27, big, vac tabOk, vab (show SigsOk Try.prog [] from trivial), (run_zz27 big x).trans h⟩
def vbeo (z_0 : Int) (p_1 : Y5) (p_2 p_3 : Int) : Z0 :=
  (atI p_1 z_0).bind fun xq1 =>
  (atI xq1 p_2).bind fun xq2 =>
  cond xq2
  ((atI p_1 z_0).bind fun xq3 =>
  (atI xq3 p_3).bind fun xq4 =>
  some (xq4, (())))
  (some (false, (())))
def zz28 (z_0 : Int) (p_1 : Y5) (p_2 p_3 : Int) : Z0 := vbeo z_0 p_1 p_2 p_3
def S_zz28 : Sig := { a := (.pair I (.pair (.ptr (.sl (.sl .bool))) (.pair (.ptr I) (.pair (.ptr I) .unit)))), md := [0, 0, 0, 0], mf := [], m := .unit, r := .bool, rf := .i, f := fun x => zz28 x.1 x.2.1 x.2.2.1 x.2.2.2.1 }
def A_zz28 : Cfg := mkCfg tab [] []
theorem run_zz28 (N : Nat) (x : (S_zz28).a.den) : runF (A_zz28) N Try.f124 S_zz28 x = zz28 x.1 x.2.1 x.2.2.1 x.2.2.2.1 := by kernel_rfl
theorem fn_zz28 : FnOk Try.prog 124 := ⟨_, Try.func124, by kernel_rfl, by kernel_rfl⟩
theorem good_zz28 : Gx.Good Try.prog 124 S_zz28 := vaa Try.func124 (of_decide_eq_true (by kernel_rfl)) fun x r h => ⟨A_zz28, big, vac tabOk, vab (show SigsOk Try.prog [] from trivial), (run_zz28 big x).trans h⟩
def vmg (rec : (Y5 × Z1) → Y4 → Int → Int → Z5) (k : Y4 → Z5) (so1 : (Y5 × Z1)) (list5 : Y4) (t9 t10 : Int) : Z5 :=
  cond (decide (t10 < t9))
  ((zz28 t10 so1.1 so1.2.1 so1.2.2.1).bind fun rq1 =>
  cond rq1.1
  ((appI list5 [t10]).bind fun xq2 =>
  rec so1 xq2 t9 (IntKind.i64.wrap (t10 + (1 : Int))))
  (rec so1 list5 t9 (IntKind.i64.wrap (t10 + (1 : Int)))))
  (k list5)
def vjl (list5 : Y4) : Z5 :=
  some (list5, (()))
def vatc (L3 : (Y5 × Z1) → Y4 → Int → Int → Z5) (o_0 : Y5) (so_1 : (Y5 × Z1)) : Z5 :=
  L3 so_1 [] (o_0.length : Int) (0 : Int)
def voo (N : Nat) (k : Y4 → Z5) : Nat → (Y5 × Z1) → Y4 → Int → Int → Z5
  | 0, _, _, _, _ => none
  | m + 1, so1, list5, t9, t10 => vmg (voo N k m) k so1 list5 t9 t10
def vahg (N : Nat) (so1 : (Y5 × Z1)) (list5 : Y4) (t9 t10 : Int) : Z5 := voo N (vjl) N so1 list5 t9 t10
def zz29 (N : Nat) (o_0 : Y5) (so_1 : (Y5 × Z1)) : Z5 := vatc (vahg N) o_0 so_1
def S_zz29 : Sig := { a := (.pair (.sl (.sl .bool)) (.pair (.clo 124 0 (.pair (.ptr (.sl (.sl .bool))) (.pair (.ptr I) (.pair (.ptr I) .unit)))) .unit)), md := [0, 0], mf := [], m := .unit, r := (.sl I), rf := (.o .i), f := fun x => zz29 big x.1 x.2.1 }
def A_zz29 : Cfg := mkCfg tab [(124, S_zz28)] [(6, [.drop, .as (.clo 124 0 (.pair (.ptr (.sl (.sl .bool))) (.pair (.ptr I) (.pair (.ptr I) .unit)))) .i, .drop, .drop, .drop, .as (.sl I) (.o .i), .drop, .drop, .drop, .as I .i, .as I .i]), (17, [.drop, .drop, .drop, .drop, .drop, .as (.sl I) (.o .i)])]
noncomputable def vqa (N n : Nat) (K : Ex → St → Z5) (so1 : (Y5 × Z1)) (list5 : Y4) (t9 t10 : Int) : Z5 := iter ((A_zz29).shape 6) (run (A_zz29) N (codeAt Try.f62 [1, 1, 0, 1, 0, 0])) n ([.u, .val (.clo 124 0 (.pair (.ptr (.sl (.sl .bool))) (.pair (.ptr I) (.pair (.ptr I) .unit)))) .i so1, .u, .u, .u, .val (.sl I) (.o .i) list5, .u, .u, .u, .val I .i t9, .val I .i t10] ++ List.replicate 11 .u) K
noncomputable abbrev vaqb : Ex → St → Z5 := finish (A_zz29) S_zz29 Try.f62.results.toList
noncomputable abbrev vsi (kX : St → Z5) : Y4 → Z5 := fun (list5 : Y4) => kX ([.u, .u, .u, .u, .u, .val (.sl I) (.o .i) list5] ++ List.replicate 16 .u)
noncomputable abbrev vze (kX : St → Z5) (kO : Nat → St → Z5) : Ex → St → Z5 := exK vaqb 0 ((A_zz29).shape 17) kX kO
theorem vbbt (N m : Nat) (kX : St → Z5) (kO : Nat → St → Z5) (so1 : (Y5 × Z1)) (list5 : Y4) (t9 t10 : Int) : vqa N (m + 1) (vze kX kO) so1 list5 t9 t10 = vmg (vqa N m (vze kX kO)) (vsi kX) so1 list5 t9 t10 := by kernel_rfl
theorem vaec (N : Nat) (kX : St → Z5) (kO : Nat → St → Z5) : ∀ (n : Nat) (so1 : (Y5 × Z1)) (list5 : Y4) (t9 t10 : Int), vqa N n (vze kX kO) so1 list5 t9 t10 = voo N (vsi kX) n so1 list5 t9 t10
  | 0, _, _, _, _ => rfl
  | m + 1, so1, list5, t9, t10 => by
    have hrec : vqa N m (vze kX kO) = (voo N (vsi kX) m) := (funext fun so1 => (funext fun list5 => (funext fun t9 => (funext fun t10 => vaec N kX kO m so1 list5 t9 t10))))
    refine (vbbt N m kX kO so1 list5 t9 t10).trans ?_
    rw [hrec]
    rfl
noncomputable abbrev vahy (N : Nat) : Ex → St → Z5 := (blockK 0 (seqK ((A_zz29).shape 17) (gated ((A_zz29).shape 500008).isSome N (run (A_zz29) N (codeAt Try.f62 [1, 1, 1]))) vaqb))
noncomputable abbrev vama (N : Nat) : St → Z5 := fun st' => run (A_zz29) N (codeAt Try.f62 [1, 1, 1]) st' vaqb
theorem vawn (N : Nat) (list5 : Y4) : vsi (vama N) list5 = vjl list5 := by kernel_rfl
theorem vbke (N : Nat) (so1 : (Y5 × Z1)) (list5 : Y4) (t9 t10 : Int) : vqa N N (vahy N) so1 list5 t9 t10 = vahg N so1 list5 t9 t10 :=
  have h : vsi (vama N) = (vjl) := (funext fun list5 => vawn N list5)
  ((vad (fun st => by kernel_rfl) (fun st => by kernel_rfl)).trans (vaec N (vama N) (fun j st => (vahy N) (.exit j) st) N so1 list5 t9 t10)).trans (congrArg (fun k => voo N k N so1 list5 t9 t10) h)
theorem run0_zz29 (N : Nat) (x : (S_zz29).a.den) : runF (A_zz29) N Try.f62 S_zz29 x = (vatc (vqa N N (vahy N)) x.1 x.2.1) := by kernel_rfl
theorem run_zz29 (N : Nat) (x : (S_zz29).a.den) : runF (A_zz29) N Try.f62 S_zz29 x = zz29 N x.1 x.2.1 := by
  refine (run0_zz29 N x).trans ?_
  rw [(funext fun so1 => (funext fun list5 => (funext fun t9 => (funext fun t10 => vbke N so1 list5 t9 t10))))]
  rfl
theorem fn_zz29 : FnOk Try.prog 62 := ⟨_, Try.func62, by kernel_rfl, by kernel_rfl⟩
theorem good_zz29 : Gx.Good Try.prog 62 S_zz29 := vaa Try.func62 (of_decide_eq_true (by kernel_rfl)) fun x r h => ⟨A_zz29, big, vac tabOk, vab (show SigsOk Try.prog [(124, S_zz28)] from ⟨⟨fn_zz28, good_zz28⟩, trivial⟩), (run_zz29 big x).trans h⟩
def vqd (rec : Y5 → Y3 → Int → Y4 → Int → Int → Int → Int → Z10) (k : Y5 → Y3 → Y4 → Int → Int → Z10) (o1 : Y5) (table4 : Y3) (x5 : Int) (row6 : Y4) (t11 t12 t17 t18 : Int) : Z10 :=
  cond (decide (t18 < t17))
  ((zz29 big o1 (o1, x5, t18, ())).bind fun rq1 =>
  (zz27 big o1 rq1.1).bind fun rq2 =>
  cond (decide (rq2.1 < (0 : Int)))
  (some (([], false, ()), (())))
  ((appI row6 [rq2.1]).bind fun xq3 =>
  rec o1 table4 x5 xq3 t11 t12 t17 (IntKind.i64.wrap (t18 + (1 : Int)))))
  (k o1 table4 row6 t11 t12)
def vgi (rec : Y5 → Y3 → Int → Int → Z10) (o1 : Y5) (table4 : Y3) (row6 : Y4) (t11 t12 : Int) : Z10 :=
  (appI table4 [row6]).bind fun xq4 =>
  rec o1 xq4 t11 (IntKind.i64.wrap (t12 + (1 : Int)))
def vlo (L7 : Y5 → Y3 → Int → Y4 → Int → Int → Int → Int → Z10) (k : Y3 → Z10) (o1 : Y5) (table4 : Y3) (t11 t12 : Int) : Z10 :=
  cond (decide (t12 < t11))
  (L7 o1 table4 t12 [] t11 t12 (o1.length : Int) (0 : Int))
  (k table4)
def vdj (table4 : Y3) : Z10 :=
  some ((table4, true, ()), (()))
def vauh (L3 : Y5 → Y3 → Int → Int → Z10) (o_0 : Y5) : Z10 :=
  L3 o_0 [] (o_0.length : Int) (0 : Int)
def vnd (N : Nat) (k : Y5 → Y3 → Y4 → Int → Int → Z10) : Nat → Y5 → Y3 → Int → Y4 → Int → Int → Int → Int → Z10
  | 0, _, _, _, _, _, _, _, _ => none
  | m + 1, o1, table4, x5, row6, t11, t12, t17, t18 => vqd (vnd N k m) k o1 table4 x5 row6 t11 t12 t17 t18
def vvf (N : Nat) (rec : Y5 → Y3 → Int → Int → Z10) (k : Y3 → Z10) (o1 : Y5) (table4 : Y3) (x5 : Int) (row6 : Y4) (t11 t12 t17 t18 : Int) : Z10 := vnd N (vgi rec) N o1 table4 x5 row6 t11 t12 t17 t18
def vhu (N : Nat) (k : Y3 → Z10) : Nat → Y5 → Y3 → Int → Int → Z10
  | 0, _, _, _, _ => none
  | m + 1, o1, table4, t11, t12 => vlo (vvf N (vhu N k m) k) k o1 table4 t11 t12
def vaha (N : Nat) (o1 : Y5) (table4 : Y3) (t11 t12 : Int) : Z10 := vhu N (vdj) N o1 table4 t11 t12
def zz30 (N : Nat) (o_0 : Y5) : Z10 := vauh (vaha N) o_0
def S_zz30 : Sig := { a := (.pair (.sl (.sl .bool)) .unit), md := [0], mf := [], m := .unit, r := (.tup (.pair (.sl (.sl I)) (.pair .bool .unit))), rf := (.p (.o (.o .i)) .i), f := fun x => zz30 big x.1 }
def A_zz30 : Cfg := mkCfg tab [(62, S_zz29), (123, S_zz27)] [(6, [.drop, .as (.ptr (.sl (.sl .bool))) .i, .drop, .drop, .as (.sl (.sl I)) (.o (.o .i)), .drop, .drop, .drop, .drop, .drop, .drop, .as I .i, .as I .i]), (14, [.drop, .as (.ptr (.sl (.sl .bool))) .i, .drop, .drop, .as (.sl (.sl I)) (.o (.o .i)), .as (.ptr I) .i, .as (.sl I) (.o .i), .drop, .drop, .drop, .drop, .as I .i, .as I .i, .drop, .drop, .drop, .drop, .as I .i, .as I .i]), (33, [.drop, .drop, .drop, .drop, .as (.sl (.sl I)) (.o (.o .i))]), (19, [.drop, .as (.ptr (.sl (.sl .bool))) .i, .drop, .drop, .as (.sl (.sl I)) (.o (.o .i)), .as (.ptr I) .i, .as (.sl I) (.o .i), .as (.ptr I) .i, .drop, .drop, .drop, .as I .i, .as I .i, .drop, .drop, .drop, .drop, .as I .i, .as I .i]), (29, [.drop, .as (.ptr (.sl (.sl .bool))) .i, .drop, .drop, .as (.sl (.sl I)) (.o (.o .i)), .drop, .as (.sl I) (.o .i), .drop, .drop, .drop, .drop, .as I .i, .as I .i])]
noncomputable def vhs (N n : Nat) (K : Ex → St → Z10) (o1 : Y5) (table4 : Y3) (t11 t12 : Int) : Z10 := iter ((A_zz30).shape 6) (run (A_zz30) N (codeAt Try.f99 [1, 1, 0, 1, 0, 0])) n ([.u, .val (.ptr (.sl (.sl .bool))) .i o1, .u, .u, .val (.sl (.sl I)) (.o (.o .i)) table4, .u, .u, .u, .u, .u, .u, .val I .i t11, .val I .i t12] ++ List.replicate 26 .u) K
noncomputable def vpk (N n : Nat) (K : Ex → St → Z10) (o1 : Y5) (table4 : Y3) (x5 : Int) (row6 : Y4) (t11 t12 t17 t18 : Int) : Z10 := iter ((A_zz30).shape 14) (run (A_zz30) N (codeAt Try.f99 [1, 1, 0, 1, 0, 0, 1, 1, 0, 0, 1, 1, 0, 1, 0, 0])) n ([.u, .val (.ptr (.sl (.sl .bool))) .i o1, .u, .u, .val (.sl (.sl I)) (.o (.o .i)) table4, .val (.ptr I) .i x5, .val (.sl I) (.o .i) row6, .u, .u, .u, .u, .val I .i t11, .val I .i t12, .u, .u, .u, .u, .val I .i t17, .val I .i t18] ++ List.replicate 20 .u) K
noncomputable abbrev vafo : Ex → St → Z10 := finish (A_zz30) S_zz30 Try.f99.results.toList
noncomputable abbrev vki (kX : St → Z10) : Y3 → Z10 := fun (table4 : Y3) => kX ([.u, .u, .u, .u, .val (.sl (.sl I)) (.o (.o .i)) table4] ++ List.replicate 34 .u)
noncomputable abbrev vhj (kX : St → Z10) (kO : Nat → St → Z10) : Ex → St → Z10 := exK vafo 0 ((A_zz30).shape 33) kX kO
noncomputable abbrev vve (kX : St → Z10) : Y5 → Y3 → Y4 → Int → Int → Z10 := fun (o1 : Y5) (table4 : Y3) (row6 : Y4) (t11 t12 : Int) => kX ([.u, .val (.ptr (.sl (.sl .bool))) .i o1, .u, .u, .val (.sl (.sl I)) (.o (.o .i)) table4, .u, .val (.sl I) (.o .i) row6, .u, .u, .u, .u, .val I .i t11, .val I .i t12] ++ List.replicate 26 .u)
noncomputable abbrev vym (kX : St → Z10) (kO : Nat → St → Z10) : Ex → St → Z10 := exK vafo 2 ((A_zz30).shape 29) kX kO
theorem vbak (N m : Nat) (kX : St → Z10) (kO : Nat → St → Z10) (o1 : Y5) (table4 : Y3) (x5 : Int) (row6 : Y4) (t11 t12 t17 t18 : Int) : vpk N (m + 1) (vym kX kO) o1 table4 x5 row6 t11 t12 t17 t18 = vqd (vpk N m (vym kX kO)) (vve kX) o1 table4 x5 row6 t11 t12 t17 t18 := by kernel_rfl
theorem vaez (N : Nat) (kX : St → Z10) (kO : Nat → St → Z10) : ∀ (n : Nat) (o1 : Y5) (table4 : Y3) (x5 : Int) (row6 : Y4) (t11 t12 t17 t18 : Int), vpk N n (vym kX kO) o1 table4 x5 row6 t11 t12 t17 t18 = vnd N (vve kX) n o1 table4 x5 row6 t11 t12 t17 t18
  | 0, _, _, _, _, _, _, _, _ => rfl
  | m + 1, o1, table4, x5, row6, t11, t12, t17, t18 => by
    have hrec : vpk N m (vym kX kO) = (vnd N (vve kX) m) := (funext fun o1 => (funext fun table4 => (funext fun x5 => (funext fun row6 => (funext fun t11 => (funext fun t12 => (funext fun t17 => (funext fun t18 => vaez N kX kO m o1 table4 x5 row6 t11 t12 t17 t18))))))))
    refine (vbak N m kX kO o1 table4 x5 row6 t11 t12 t17 t18).trans ?_
    rw [hrec]
    rfl
noncomputable abbrev vaii (N m : Nat) (kX : St → Z10) (kO : Nat → St → Z10) : Ex → St → Z10 := (blockK 2 (seqK ((A_zz30).shape 29) (gated ((A_zz30).shape 500014).isSome N (run (A_zz30) N (codeAt Try.f99 [1, 1, 0, 1, 0, 0, 1, 1, 0, 0, 1, 1, 1]))) (blockK 1 (seqK ((A_zz30).shape 31) (gated ((A_zz30).shape 500015).isSome N (run (A_zz30) N (codeAt Try.f99 [1, 1, 0, 1, 0, 0, 1, 1, 1]))) (iterK ((A_zz30).shape 6) (run (A_zz30) N (codeAt Try.f99 [1, 1, 0, 1, 0, 0])) m (vhj kX kO))))))
noncomputable abbrev vaho (N m : Nat) (kX : St → Z10) (kO : Nat → St → Z10) : St → Z10 := fun st' => run (A_zz30) N (codeAt Try.f99 [1, 1, 0, 1, 0, 0, 1, 1, 0, 0, 1, 1, 1]) st' (blockK 1 (seqK ((A_zz30).shape 31) (gated ((A_zz30).shape 500015).isSome N (run (A_zz30) N (codeAt Try.f99 [1, 1, 0, 1, 0, 0, 1, 1, 1]))) (iterK ((A_zz30).shape 6) (run (A_zz30) N (codeAt Try.f99 [1, 1, 0, 1, 0, 0])) m (vhj kX kO))))
theorem vayp (N m : Nat) (kX : St → Z10) (kO : Nat → St → Z10) (o1 : Y5) (table4 : Y3) (row6 : Y4) (t11 t12 : Int) : vve (vaho N m kX kO) o1 table4 row6 t11 t12 = vgi (vhs N m (vhj kX kO)) o1 table4 row6 t11 t12 := by kernel_rfl
theorem vbjn (N m : Nat) (kX : St → Z10) (kO : Nat → St → Z10) (recF : Y5 → Y3 → Int → Int → Z10) (hrec : vhs N m (vhj kX kO) = recF) (o1 : Y5) (table4 : Y3) (x5 : Int) (row6 : Y4) (t11 t12 t17 t18 : Int) : vpk N N (vaii N m kX kO) o1 table4 x5 row6 t11 t12 t17 t18 = vvf N recF (vki kX) o1 table4 x5 row6 t11 t12 t17 t18 :=
  have h : vve (vaho N m kX kO) = (vgi recF) := (funext fun o1 => (funext fun table4 => (funext fun row6 => (funext fun t11 => (funext fun t12 => (vayp N m kX kO o1 table4 row6 t11 t12).trans (by rw [hrec]))))))
  ((vad (fun st => by kernel_rfl) (fun st => by kernel_rfl)).trans (vaez N (vaho N m kX kO) (fun j st => (vaii N m kX kO) (.exit j) st) N o1 table4 x5 row6 t11 t12 t17 t18)).trans (congrArg (fun k => vnd N k N o1 table4 x5 row6 t11 t12 t17 t18) h)
theorem vbcs (N m : Nat) (kX : St → Z10) (kO : Nat → St → Z10) (o1 : Y5) (table4 : Y3) (t11 t12 : Int) : vhs N (m + 1) (vhj kX kO) o1 table4 t11 t12 = vlo (vpk N N (vaii N m kX kO)) (vki kX) o1 table4 t11 t12 := by kernel_rfl
theorem vacm (N : Nat) (kX : St → Z10) (kO : Nat → St → Z10) : ∀ (n : Nat) (o1 : Y5) (table4 : Y3) (t11 t12 : Int), vhs N n (vhj kX kO) o1 table4 t11 t12 = vhu N (vki kX) n o1 table4 t11 t12
  | 0, _, _, _, _ => rfl
  | m + 1, o1, table4, t11, t12 => by
    have hrec : vhs N m (vhj kX kO) = (vhu N (vki kX) m) := (funext fun o1 => (funext fun table4 => (funext fun t11 => (funext fun t12 => vacm N kX kO m o1 table4 t11 t12))))
    refine (vbcs N m kX kO o1 table4 t11 t12).trans ?_
    rw [(funext fun o1 => (funext fun table4 => (funext fun x5 => (funext fun row6 => (funext fun t11 => (funext fun t12 => (funext fun t17 => (funext fun t18 => vbjn N m kX kO (vhu N (vki kX) m) hrec o1 table4 x5 row6 t11 t12 t17 t18))))))))]
    rfl
noncomputable abbrev vaip (N : Nat) : Ex → St → Z10 := (blockK 0 (seqK ((A_zz30).shape 33) (gated ((A_zz30).shape 500016).isSome N (run (A_zz30) N (codeAt Try.f99 [1, 1, 1]))) vafo))
noncomputable abbrev vaja (N : Nat) : St → Z10 := fun st' => run (A_zz30) N (codeAt Try.f99 [1, 1, 1]) st' vafo
theorem vawc (N : Nat) (table4 : Y3) : vki (vaja N) table4 = vdj table4 := by kernel_rfl
theorem vbio (N : Nat) (o1 : Y5) (table4 : Y3) (t11 t12 : Int) : vhs N N (vaip N) o1 table4 t11 t12 = vaha N o1 table4 t11 t12 :=
  have h : vki (vaja N) = (vdj) := (funext fun table4 => vawc N table4)
  ((vad (fun st => by kernel_rfl) (fun st => by kernel_rfl)).trans (vacm N (vaja N) (fun j st => (vaip N) (.exit j) st) N o1 table4 t11 t12)).trans (congrArg (fun k => vhu N k N o1 table4 t11 t12) h)
theorem run0_zz30 (N : Nat) (x : (S_zz30).a.den) : runF (A_zz30) N Try.f99 S_zz30 x = (vauh (vhs N N (vaip N)) x.1) := by kernel_rfl
theorem run_zz30 (N : Nat) (x : (S_zz30).a.den) : runF (A_zz30) N Try.f99 S_zz30 x = zz30 N x.1 := by
  refine (run0_zz30 N x).trans ?_
  rw [(funext fun o1 => (funext fun table4 => (funext fun t11 => (funext fun t12 => vbio N o1 table4 t11 t12))))]
  rfl
theorem fn_zz30 : FnOk Try.prog 99 := ⟨_, Try.func99, by kernel_rfl, by kernel_rfl⟩
theorem good_zz30 : Gx.Good Try.prog 99 S_zz30 := vaa Try.func99 (of_decide_eq_true (by kernel_rfl)) fun x r h => ⟨A_zz30, big, vac tabOk, vab (show SigsOk Try.prog [(62, S_zz29), (123, S_zz27)] from ⟨⟨fn_zz29, good_zz29⟩, ⟨fn_zz27, good_zz27⟩, trivial⟩), (run_zz30 big x).trans h⟩
def vod (rec : Y5 → Y5 → Int → Int → Int → Int → Int → Z11) (k : Y5 → Y5 → Int → Int → Z11) (o0 d3 : Y5) (x4 t10 t11 t15 t16 : Int) : Z11 :=
  cond (decide (t16 < t15))
  ((atI d3 x4).bind fun _ =>
  (d3[x4.toNat]?).bind fun xq2 =>
  (atI o0 t16).bind fun xq3 =>
  (atI xq3 x4).bind fun xq4 =>
  (d3[x4.toNat]?).bind fun xq5 =>
  (atI xq5 t16).bind fun _ =>
  (d3[x4.toNat]?).bind fun xq6 =>
  (xq6[t16.toNat]?).bind fun xq7 =>
  rec o0 (d3.set x4.toNat (xq6.set t16.toNat xq4)) x4 t10 t11 t15 (IntKind.i64.wrap (t16 + (1 : Int))))
  (k o0 d3 t10 t11)
def vgj (rec : Y5 → Y5 → Int → Int → Z11) (o0 d3 : Y5) (t10 t11 : Int) : Z11 :=
  rec o0 d3 t10 (IntKind.i64.wrap (t11 + (1 : Int)))
def vmv (L6 : Y5 → Y5 → Int → Int → Int → Int → Int → Z11) (k : Y5 → Z11) (o0 d3 : Y5) (t10 t11 : Int) : Z11 :=
  cond (decide (t11 < t10))
  (L6 o0 d3 t11 t10 t11 (o0.length : Int) (0 : Int))
  (k d3)
def vdg (d3 : Y5) : Z11 :=
  some (d3, (()))
def vard (L3 : Y5 → Y5 → Int → Int → Z11) (o_0 : Y5) : Z11 :=
  (zz22 big (o_0.length : Int)).bind fun rq1 =>
  L3 o_0 rq1.1 (o_0.length : Int) (0 : Int)
def vpl (N : Nat) (k : Y5 → Y5 → Int → Int → Z11) : Nat → Y5 → Y5 → Int → Int → Int → Int → Int → Z11
  | 0, _, _, _, _, _, _, _ => none
  | m + 1, o0, d3, x4, t10, t11, t15, t16 => vod (vpl N k m) k o0 d3 x4 t10 t11 t15 t16
def vuq (N : Nat) (rec : Y5 → Y5 → Int → Int → Z11) (k : Y5 → Z11) (o0 d3 : Y5) (x4 t10 t11 t15 t16 : Int) : Z11 := vpl N (vgj rec) N o0 d3 x4 t10 t11 t15 t16
def vfe (N : Nat) (k : Y5 → Z11) : Nat → Y5 → Y5 → Int → Int → Z11
  | 0, _, _, _, _ => none
  | m + 1, o0, d3, t10, t11 => vmv (vuq N (vfe N k m) k) k o0 d3 t10 t11
def vajc (N : Nat) (o0 d3 : Y5) (t10 t11 : Int) : Z11 := vfe N (vdg) N o0 d3 t10 t11
def zz31 (N : Nat) (o_0 : Y5) : Z11 := vard (vajc N) o_0
def S_zz31 : Sig := { a := (.pair (.sl (.sl .bool)) .unit), md := [0], mf := [], m := .unit, r := (.sl (.sl .bool)), rf := (.o (.o .i)), f := fun x => zz31 big x.1 }
def A_zz31 : Cfg := mkCfg tab [(109, S_zz22)] [(6, [.as (.sl (.sl .bool)) .i, .drop, .drop, .as (.sl (.sl .bool)) (.o (.o .i)), .drop, .drop, .drop, .drop, .drop, .drop, .as I .i, .as I .i]), (12, [.as (.sl (.sl .bool)) .i, .drop, .drop, .as (.sl (.sl .bool)) (.o (.o .i)), .as I .i, .drop, .drop, .drop, .drop, .drop, .as I .i, .as I .i, .drop, .drop, .drop, .as I .i, .as I .i]), (23, [.drop, .drop, .drop, .as (.sl (.sl .bool)) (.o (.o .i))]), (21, [.as (.sl (.sl .bool)) .i, .drop, .drop, .as (.sl (.sl .bool)) (.o (.o .i)), .drop, .drop, .drop, .drop, .drop, .drop, .as I .i, .as I .i])]
noncomputable def vhw (N n : Nat) (K : Ex → St → Z11) (o0 d3 : Y5) (t10 t11 : Int) : Z11 := iter ((A_zz31).shape 6) (run (A_zz31) N (codeAt Try.f100 [1, 1, 0, 1, 0, 0])) n ([.val (.sl (.sl .bool)) .i o0, .u, .u, .val (.sl (.sl .bool)) (.o (.o .i)) d3, .u, .u, .u, .u, .u, .u, .val I .i t10, .val I .i t11] ++ List.replicate 23 .u) K
noncomputable def vnh (N n : Nat) (K : Ex → St → Z11) (o0 d3 : Y5) (x4 t10 t11 t15 t16 : Int) : Z11 := iter ((A_zz31).shape 12) (run (A_zz31) N (codeAt Try.f100 [1, 1, 0, 1, 0, 0, 1, 1, 0, 0, 1, 1, 0, 0])) n ([.val (.sl (.sl .bool)) .i o0, .u, .u, .val (.sl (.sl .bool)) (.o (.o .i)) d3, .val I .i x4, .u, .u, .u, .u, .u, .val I .i t10, .val I .i t11, .u, .u, .u, .val I .i t15, .val I .i t16] ++ List.replicate 18 .u) K
noncomputable abbrev vaex : Ex → St → Z11 := finish (A_zz31) S_zz31 Try.f100.results.toList
noncomputable abbrev viv (kX : St → Z11) : Y5 → Z11 := fun (d3 : Y5) => kX ([.u, .u, .u, .val (.sl (.sl .bool)) (.o (.o .i)) d3] ++ List.replicate 31 .u)
noncomputable abbrev vih (kX : St → Z11) (kO : Nat → St → Z11) : Ex → St → Z11 := exK vaex 0 ((A_zz31).shape 23) kX kO
noncomputable abbrev vtl (kX : St → Z11) : Y5 → Y5 → Int → Int → Z11 := fun (o0 d3 : Y5) (t10 t11 : Int) => kX ([.val (.sl (.sl .bool)) .i o0, .u, .u, .val (.sl (.sl .bool)) (.o (.o .i)) d3, .u, .u, .u, .u, .u, .u, .val I .i t10, .val I .i t11] ++ List.replicate 23 .u)
noncomputable abbrev vyl (kX : St → Z11) (kO : Nat → St → Z11) : Ex → St → Z11 := exK vaex 2 ((A_zz31).shape 21) kX kO
theorem vbck (N m : Nat) (kX : St → Z11) (kO : Nat → St → Z11) (o0 d3 : Y5) (x4 t10 t11 t15 t16 : Int) : vnh N (m + 1) (vyl kX kO) o0 d3 x4 t10 t11 t15 t16 = vod (vnh N m (vyl kX kO)) (vtl kX) o0 d3 x4 t10 t11 t15 t16 := by kernel_rfl
theorem vaco (N : Nat) (kX : St → Z11) (kO : Nat → St → Z11) : ∀ (n : Nat) (o0 d3 : Y5) (x4 t10 t11 t15 t16 : Int), vnh N n (vyl kX kO) o0 d3 x4 t10 t11 t15 t16 = vpl N (vtl kX) n o0 d3 x4 t10 t11 t15 t16
  | 0, _, _, _, _, _, _, _ => rfl
  | m + 1, o0, d3, x4, t10, t11, t15, t16 => by
    have hrec : vnh N m (vyl kX kO) = (vpl N (vtl kX) m) := (funext fun o0 => (funext fun d3 => (funext fun x4 => (funext fun t10 => (funext fun t11 => (funext fun t15 => (funext fun t16 => vaco N kX kO m o0 d3 x4 t10 t11 t15 t16)))))))
    refine (vbck N m kX kO o0 d3 x4 t10 t11 t15 t16).trans ?_
    rw [hrec]
    rfl
noncomputable abbrev vakg (N m : Nat) (kX : St → Z11) (kO : Nat → St → Z11) : Ex → St → Z11 := (blockK 2 (blockK 1 (seqK ((A_zz31).shape 21) (gated ((A_zz31).shape 500010).isSome N (run (A_zz31) N (codeAt Try.f100 [1, 1, 0, 1, 0, 0, 1, 1, 1]))) (iterK ((A_zz31).shape 6) (run (A_zz31) N (codeAt Try.f100 [1, 1, 0, 1, 0, 0])) m (vih kX kO)))))
noncomputable abbrev vajp (N m : Nat) (kX : St → Z11) (kO : Nat → St → Z11) : St → Z11 := fun st' => run (A_zz31) N (codeAt Try.f100 [1, 1, 0, 1, 0, 0, 1, 1, 1]) st' (iterK ((A_zz31).shape 6) (run (A_zz31) N (codeAt Try.f100 [1, 1, 0, 1, 0, 0])) m (vih kX kO))
theorem vawm (N m : Nat) (kX : St → Z11) (kO : Nat → St → Z11) (o0 d3 : Y5) (t10 t11 : Int) : vtl (vajp N m kX kO) o0 d3 t10 t11 = vgj (vhw N m (vih kX kO)) o0 d3 t10 t11 := by kernel_rfl
theorem vblp (N m : Nat) (kX : St → Z11) (kO : Nat → St → Z11) (recF : Y5 → Y5 → Int → Int → Z11) (hrec : vhw N m (vih kX kO) = recF) (o0 d3 : Y5) (x4 t10 t11 t15 t16 : Int) : vnh N N (vakg N m kX kO) o0 d3 x4 t10 t11 t15 t16 = vuq N recF (viv kX) o0 d3 x4 t10 t11 t15 t16 :=
  have h : vtl (vajp N m kX kO) = (vgj recF) := (funext fun o0 => (funext fun d3 => (funext fun t10 => (funext fun t11 => (vawm N m kX kO o0 d3 t10 t11).trans (by rw [hrec])))))
  ((vad (fun st => by kernel_rfl) (fun st => by kernel_rfl)).trans (vaco N (vajp N m kX kO) (fun j st => (vakg N m kX kO) (.exit j) st) N o0 d3 x4 t10 t11 t15 t16)).trans (congrArg (fun k => vpl N k N o0 d3 x4 t10 t11 t15 t16) h)
theorem vbbz (N m : Nat) (kX : St → Z11) (kO : Nat → St → Z11) (o0 d3 : Y5) (t10 t11 : Int) : vhw N (m + 1) (vih kX kO) o0 d3 t10 t11 = vmv (vnh N N (vakg N m kX kO)) (viv kX) o0 d3 t10 t11 := by kernel_rfl
theorem vack (N : Nat) (kX : St → Z11) (kO : Nat → St → Z11) : ∀ (n : Nat) (o0 d3 : Y5) (t10 t11 : Int), vhw N n (vih kX kO) o0 d3 t10 t11 = vfe N (viv kX) n o0 d3 t10 t11
  | 0, _, _, _, _ => rfl
  | m + 1, o0, d3, t10, t11 => by
    have hrec : vhw N m (vih kX kO) = (vfe N (viv kX) m) := (funext fun o0 => (funext fun d3 => (funext fun t10 => (funext fun t11 => vack N kX kO m o0 d3 t10 t11))))
    refine (vbbz N m kX kO o0 d3 t10 t11).trans ?_
    rw [(funext fun o0 => (funext fun d3 => (funext fun x4 => (funext fun t10 => (funext fun t11 => (funext fun t15 => (funext fun t16 => vblp N m kX kO (vfe N (viv kX) m) hrec o0 d3 x4 t10 t11 t15 t16)))))))]
    rfl
noncomputable abbrev vaiy (N : Nat) : Ex → St → Z11 := (blockK 0 (seqK ((A_zz31).shape 23) (gated ((A_zz31).shape 500011).isSome N (run (A_zz31) N (codeAt Try.f100 [1, 1, 1]))) vaex))
noncomputable abbrev vakf (N : Nat) : St → Z11 := fun st' => run (A_zz31) N (codeAt Try.f100 [1, 1, 1]) st' vaex
theorem vawf (N : Nat) (d3 : Y5) : viv (vakf N) d3 = vdg d3 := by kernel_rfl
theorem vbil (N : Nat) (o0 d3 : Y5) (t10 t11 : Int) : vhw N N (vaiy N) o0 d3 t10 t11 = vajc N o0 d3 t10 t11 :=
  have h : viv (vakf N) = (vdg) := (funext fun d3 => vawf N d3)
  ((vad (fun st => by kernel_rfl) (fun st => by kernel_rfl)).trans (vack N (vakf N) (fun j st => (vaiy N) (.exit j) st) N o0 d3 t10 t11)).trans (congrArg (fun k => vfe N k N o0 d3 t10 t11) h)
theorem run0_zz31 (N : Nat) (x : (S_zz31).a.den) : runF (A_zz31) N Try.f100 S_zz31 x = (vard (vhw N N (vaiy N)) x.1) := by kernel_rfl
theorem run_zz31 (N : Nat) (x : (S_zz31).a.den) : runF (A_zz31) N Try.f100 S_zz31 x = zz31 N x.1 := by
  refine (run0_zz31 N x).trans ?_
  rw [(funext fun o0 => (funext fun d3 => (funext fun t10 => (funext fun t11 => vbil N o0 d3 t10 t11))))]
  rfl
theorem fn_zz31 : FnOk Try.prog 100 := ⟨_, Try.func100, by kernel_rfl, by kernel_rfl⟩
theorem good_zz31 : Gx.Good Try.prog 100 S_zz31 := vaa Try.func100 (of_decide_eq_true (by kernel_rfl)) fun x r h => ⟨A_zz31, big, vac tabOk, vab (show SigsOk Try.prog [(109, S_zz22)] from ⟨⟨fn_zz22, good_zz22⟩, trivial⟩), (run_zz31 big x).trans h⟩
def vaff (p_0 : Y2) : Option ((Y1 × (Bool × Unit)) × Unit) :=
  (zz26 big p_0).bind fun rq1 =>
  cond (!((((), rq1.1.2).2).1))
  (some ((none, false, ()), (())))
  (cond (decide ((rq1.1.1.length : Int) = (0 : Int)))
  (some ((none, false, ()), (())))
  ((zz30 big rq1.1.1).bind fun rq2 =>
  (zz31 big rq1.1.1).bind fun rq3 =>
  (zz30 big rq3.1).bind fun rq4 =>
  cond ((((), rq2.1.2).2).1)
  (some ((some (rq1.1.1, (rq2.1.1, (rq4.1.1, ()))), (((), rq4.1.2).2).1, ()), (())))
  (some ((some (rq1.1.1, (rq2.1.1, (rq4.1.1, ()))), false, ()), (())))))
def zz32 (p_0 : Y2) : Option ((Y1 × (Bool × Unit)) × Unit) := vaff p_0
def S_zz32 : Sig := { a := (.pair (.pair (.sl (.sl I)) .unit) .unit), md := [0], mf := [], m := .unit, r := (.tup (.pair (.opt (.pair (.sl (.sl .bool)) (.pair (.sl (.sl I)) (.pair (.sl (.sl I)) .unit)))) (.pair .bool .unit))), rf := .i, f := fun x => zz32 x.1 }
def A_zz32 : Cfg := mkCfg tab [(58, S_zz26), (99, S_zz30), (100, S_zz31)] []
theorem run_zz32 (N : Nat) (x : (S_zz32).a.den) : runF (A_zz32) N Try.f51 S_zz32 x = zz32 x.1 := by kernel_rfl
theorem fn_zz32 : FnOk Try.prog 51 := ⟨_, Try.func51, by kernel_rfl, by kernel_rfl⟩
theorem good_zz32 : Gx.Good Try.prog 51 S_zz32 := vaa Try.func51 (of_decide_eq_true (by kernel_rfl)) fun x r h => ⟨A_zz32, big, vac tabOk, vab (show SigsOk Try.prog [(58, S_zz26), (99, S_zz30), (100, S_zz31)] from ⟨⟨fn_zz26, good_zz26⟩, ⟨fn_zz30, good_zz30⟩, ⟨fn_zz31, good_zz31⟩, trivial⟩), (run_zz32 big x).trans h⟩
def vox (rec : Y1 → Int → Int → Int → Z6) (k : Int → Z6) (l0 : Y1) (b3 t9 t10 : Int) : Z6 :=
  cond (decide (t10 < t9))
  ((l0).bind fun xq2 =>
  (atI xq2.2.1 b3).bind fun xq3 =>
  (atI xq3 t10).bind fun xq4 =>
  rec l0 xq4 t9 (IntKind.i64.wrap (t10 + (1 : Int))))
  (k b3)
def vgz (b3 : Int) : Z6 :=
  some (b3, (()))
def vasw (L3 : Y1 → Int → Int → Int → Z6) (l_0 : Y1) : Z6 :=
  (l_0).bind fun xq1 =>
  L3 l_0 (0 : Int) (xq1.1.length : Int) (0 : Int)
def vma (N : Nat) (k : Int → Z6) : Nat → Y1 → Int → Int → Int → Z6
  | 0, _, _, _, _ => none
  | m + 1, l0, b3, t9, t10 => vox (vma N k m) k l0 b3 t9 t10
def vajl (N : Nat) (l0 : Y1) (b3 t9 t10 : Int) : Z6 := vma N (vgz) N l0 b3 t9 t10
def zz33 (N : Nat) (l_0 : Y1) : Z6 := vasw (vajl N) l_0
def S_zz33 : Sig := { a := (.pair (.opt (.pair (.sl (.sl .bool)) (.pair (.sl (.sl I)) (.pair (.sl (.sl I)) .unit)))) .unit), md := [0], mf := [], m := .unit, r := I, rf := .i, f := fun x => zz33 big x.1 }
def A_zz33 : Cfg := mkCfg tab [] [(6, [.as (.opt (.pair (.sl (.sl .bool)) (.pair (.sl (.sl I)) (.pair (.sl (.sl I)) .unit)))) .i, .drop, .drop, .as I .i, .drop, .drop, .drop, .drop, .drop, .as I .i, .as I .i]), (15, [.drop, .drop, .drop, .as I .i])]
noncomputable def vnq (N n : Nat) (K : Ex → St → Z6) (l0 : Y1) (b3 t9 t10 : Int) : Z6 := iter ((A_zz33).shape 6) (run (A_zz33) N (codeAt Try.f114 [1, 1, 0, 1, 0, 0])) n ([.val (.opt (.pair (.sl (.sl .bool)) (.pair (.sl (.sl I)) (.pair (.sl (.sl I)) .unit)))) .i l0, .u, .u, .val I .i b3, .u, .u, .u, .u, .u, .val I .i t9, .val I .i t10] ++ List.replicate 14 .u) K
noncomputable abbrev vaqi : Ex → St → Z6 := finish (A_zz33) S_zz33 Try.f114.results.toList
noncomputable abbrev vss (kX : St → Z6) : Int → Z6 := fun (b3 : Int) => kX ([.u, .u, .u, .val I .i b3] ++ List.replicate 21 .u)
noncomputable abbrev vzw (kX : St → Z6) (kO : Nat → St → Z6) : Ex → St → Z6 := exK vaqi 0 ((A_zz33).shape 15) kX kO
theorem vbaa (N m : Nat) (kX : St → Z6) (kO : Nat → St → Z6) (l0 : Y1) (b3 t9 t10 : Int) : vnq N (m + 1) (vzw kX kO) l0 b3 t9 t10 = vox (vnq N m (vzw kX kO)) (vss kX) l0 b3 t9 t10 := by kernel_rfl
theorem vafz (N : Nat) (kX : St → Z6) (kO : Nat → St → Z6) : ∀ (n : Nat) (l0 : Y1) (b3 t9 t10 : Int), vnq N n (vzw kX kO) l0 b3 t9 t10 = vma N (vss kX) n l0 b3 t9 t10
  | 0, _, _, _, _ => rfl
  | m + 1, l0, b3, t9, t10 => by
    have hrec : vnq N m (vzw kX kO) = (vma N (vss kX) m) := (funext fun l0 => (funext fun b3 => (funext fun t9 => (funext fun t10 => vafz N kX kO m l0 b3 t9 t10))))
    refine (vbaa N m kX kO l0 b3 t9 t10).trans ?_
    rw [hrec]
    rfl
noncomputable abbrev vaiu (N : Nat) : Ex → St → Z6 := (blockK 0 (seqK ((A_zz33).shape 15) (gated ((A_zz33).shape 500007).isSome N (run (A_zz33) N (codeAt Try.f114 [1, 1, 1]))) vaqi))
noncomputable abbrev vajx (N : Nat) : St → Z6 := fun st' => run (A_zz33) N (codeAt Try.f114 [1, 1, 1]) st' vaqi
theorem vawr (N : Nat) (b3 : Int) : vss (vajx N) b3 = vgz b3 := by kernel_rfl
theorem vbiq (N : Nat) (l0 : Y1) (b3 t9 t10 : Int) : vnq N N (vaiu N) l0 b3 t9 t10 = vajl N l0 b3 t9 t10 :=
  have h : vss (vajx N) = (vgz) := (funext fun b3 => vawr N b3)
  ((vad (fun st => by kernel_rfl) (fun st => by kernel_rfl)).trans (vafz N (vajx N) (fun j st => (vaiu N) (.exit j) st) N l0 b3 t9 t10)).trans (congrArg (fun k => vma N k N l0 b3 t9 t10) h)
theorem run0_zz33 (N : Nat) (x : (S_zz33).a.den) : runF (A_zz33) N Try.f114 S_zz33 x = (vasw (vnq N N (vaiu N)) x.1) := by kernel_rfl
theorem run_zz33 (N : Nat) (x : (S_zz33).a.den) : runF (A_zz33) N Try.f114 S_zz33 x = zz33 N x.1 := by
  refine (run0_zz33 N x).trans ?_
  rw [(funext fun l0 => (funext fun b3 => (funext fun t9 => (funext fun t10 => vbiq N l0 b3 t9 t10))))]
  rfl
theorem fn_zz33 : FnOk Try.prog 114 := ⟨_, Try.func114, by kernel_rfl, by kernel_rfl⟩
theorem good_zz33 : Gx.Good Try.prog 114 S_zz33 := vaa Try.func114 (of_decide_eq_true (by kernel_rfl)) fun x r h => ⟨A_zz33, big, vac tabOk, vab (show SigsOk Try.prog [] from trivial), (run_zz33 big x).trans h⟩
def vpb (rec : Y1 → Int → Int → Int → Z6) (k : Int → Z6) (l0 : Y1) (t3 t9 t10 : Int) : Z6 :=
  cond (decide (t10 < t9))
  ((l0).bind fun xq2 =>
  (atI xq2.2.2.1 t3).bind fun xq3 =>
  (atI xq3 t10).bind fun xq4 =>
  rec l0 xq4 t9 (IntKind.i64.wrap (t10 + (1 : Int))))
  (k t3)
def vic (t3 : Int) : Z6 :=
  some (t3, (()))
def vari (L3 : Y1 → Int → Int → Int → Z6) (l_0 : Y1) : Z6 :=
  (l_0).bind fun xq1 =>
  L3 l_0 (0 : Int) (xq1.1.length : Int) (0 : Int)
def vqg (N : Nat) (k : Int → Z6) : Nat → Y1 → Int → Int → Int → Z6
  | 0, _, _, _, _ => none
  | m + 1, l0, t3, t9, t10 => vpb (vqg N k m) k l0 t3 t9 t10
def vajo (N : Nat) (l0 : Y1) (t3 t9 t10 : Int) : Z6 := vqg N (vic) N l0 t3 t9 t10
def zz34 (N : Nat) (l_0 : Y1) : Z6 := vari (vajo N) l_0
def S_zz34 : Sig := { a := (.pair (.opt (.pair (.sl (.sl .bool)) (.pair (.sl (.sl I)) (.pair (.sl (.sl I)) .unit)))) .unit), md := [0], mf := [], m := .unit, r := I, rf := .i, f := fun x => zz34 big x.1 }
def A_zz34 : Cfg := mkCfg tab [] [(6, [.as (.opt (.pair (.sl (.sl .bool)) (.pair (.sl (.sl I)) (.pair (.sl (.sl I)) .unit)))) .i, .drop, .drop, .as I .i, .drop, .drop, .drop, .drop, .drop, .as I .i, .as I .i]), (15, [.drop, .drop, .drop, .as I .i])]
noncomputable def vmc (N n : Nat) (K : Ex → St → Z6) (l0 : Y1) (t3 t9 t10 : Int) : Z6 := iter ((A_zz34).shape 6) (run (A_zz34) N (codeAt Try.f115 [1, 1, 0, 1, 0, 0])) n ([.val (.opt (.pair (.sl (.sl .bool)) (.pair (.sl (.sl I)) (.pair (.sl (.sl I)) .unit)))) .i l0, .u, .u, .val I .i t3, .u, .u, .u, .u, .u, .val I .i t9, .val I .i t10] ++ List.replicate 14 .u) K
noncomputable abbrev vats : Ex → St → Z6 := finish (A_zz34) S_zz34 Try.f115.results.toList
noncomputable abbrev vtt (kX : St → Z6) : Int → Z6 := fun (t3 : Int) => kX ([.u, .u, .u, .val I .i t3] ++ List.replicate 21 .u)
noncomputable abbrev vzn (kX : St → Z6) (kO : Nat → St → Z6) : Ex → St → Z6 := exK vats 0 ((A_zz34).shape 15) kX kO
theorem vbca (N m : Nat) (kX : St → Z6) (kO : Nat → St → Z6) (l0 : Y1) (t3 t9 t10 : Int) : vmc N (m + 1) (vzn kX kO) l0 t3 t9 t10 = vpb (vmc N m (vzn kX kO)) (vtt kX) l0 t3 t9 t10 := by kernel_rfl
theorem vadk (N : Nat) (kX : St → Z6) (kO : Nat → St → Z6) : ∀ (n : Nat) (l0 : Y1) (t3 t9 t10 : Int), vmc N n (vzn kX kO) l0 t3 t9 t10 = vqg N (vtt kX) n l0 t3 t9 t10
  | 0, _, _, _, _ => rfl
  | m + 1, l0, t3, t9, t10 => by
    have hrec : vmc N m (vzn kX kO) = (vqg N (vtt kX) m) := (funext fun l0 => (funext fun t3 => (funext fun t9 => (funext fun t10 => vadk N kX kO m l0 t3 t9 t10))))
    refine (vbca N m kX kO l0 t3 t9 t10).trans ?_
    rw [hrec]
    rfl
noncomputable abbrev vamc (N : Nat) : Ex → St → Z6 := (blockK 0 (seqK ((A_zz34).shape 15) (gated ((A_zz34).shape 500007).isSome N (run (A_zz34) N (codeAt Try.f115 [1, 1, 1]))) vats))
noncomputable abbrev vaig (N : Nat) : St → Z6 := fun st' => run (A_zz34) N (codeAt Try.f115 [1, 1, 1]) st' vats
theorem vaxs (N : Nat) (t3 : Int) : vtt (vaig N) t3 = vic t3 := by kernel_rfl
theorem vbhy (N : Nat) (l0 : Y1) (t3 t9 t10 : Int) : vmc N N (vamc N) l0 t3 t9 t10 = vajo N l0 t3 t9 t10 :=
  have h : vtt (vaig N) = (vic) := (funext fun t3 => vaxs N t3)
  ((vad (fun st => by kernel_rfl) (fun st => by kernel_rfl)).trans (vadk N (vaig N) (fun j st => (vamc N) (.exit j) st) N l0 t3 t9 t10)).trans (congrArg (fun k => vqg N k N l0 t3 t9 t10) h)
theorem run0_zz34 (N : Nat) (x : (S_zz34).a.den) : runF (A_zz34) N Try.f115 S_zz34 x = (vari (vmc N N (vamc N)) x.1) := by kernel_rfl
theorem run_zz34 (N : Nat) (x : (S_zz34).a.den) : runF (A_zz34) N Try.f115 S_zz34 x = zz34 N x.1 := by
  refine (run0_zz34 N x).trans ?_
  rw [(funext fun l0 => (funext fun t3 => (funext fun t9 => (funext fun t10 => vbhy N l0 t3 t9 t10))))]
  rfl
theorem fn_zz34 : FnOk Try.prog 115 := ⟨_, Try.func115, by kernel_rfl, by kernel_rfl⟩
theorem good_zz34 : Gx.Good Try.prog 115 S_zz34 := vaa Try.func115 (of_decide_eq_true (by kernel_rfl)) fun x r h => ⟨A_zz34, big, vac tabOk, vab (show SigsOk Try.prog [] from trivial), (run_zz34 big x).trans h⟩
def vbff (c_0 : Int) (p_1 : Y1) (p_2 p_3 p_4 : Int) : Z0 :=
  (p_1).bind fun xq1 =>
  (atI xq1.2.1 c_0).bind fun xq2 =>
  (atI xq2 p_2).bind fun xq3 =>
  cond (decide (xq3 = p_3))
  ((p_1).bind fun xq4 =>
  (atI xq4.2.2.1 c_0).bind fun xq5 =>
  (atI xq5 p_2).bind fun xq6 =>
  some (decide (xq6 = p_4), (())))
  (some (false, (())))
def zz35 (c_0 : Int) (p_1 : Y1) (p_2 p_3 p_4 : Int) : Z0 := vbff c_0 p_1 p_2 p_3 p_4
def S_zz35 : Sig := { a := (.pair I (.pair (.ptr (.opt (.pair (.sl (.sl .bool)) (.pair (.sl (.sl I)) (.pair (.sl (.sl I)) .unit))))) (.pair (.ptr I) (.pair (.ptr I) (.pair (.ptr I) .unit))))), md := [0, 0, 0, 0, 0], mf := [], m := .unit, r := .bool, rf := .i, f := fun x => zz35 x.1 x.2.1 x.2.2.1 x.2.2.2.1 x.2.2.2.2.1 }
def A_zz35 : Cfg := mkCfg tab [] []
theorem run_zz35 (N : Nat) (x : (S_zz35).a.den) : runF (A_zz35) N Try.f116 S_zz35 x = zz35 x.1 x.2.1 x.2.2.1 x.2.2.2.1 x.2.2.2.2.1 := by kernel_rfl
theorem fn_zz35 : FnOk Try.prog 116 := ⟨_, Try.func116, by kernel_rfl, by kernel_rfl⟩
theorem good_zz35 : Gx.Good Try.prog 116 S_zz35 := vaa Try.func116 (of_decide_eq_true (by kernel_rfl)) fun x r h => ⟨A_zz35, big, vac tabOk, vab (show SigsOk Try.prog [] from trivial), (run_zz35 big x).trans h⟩
def vml (rec : (Y1 × (Int × Z1)) → Y4 → Int → Int → Z5) (k : Y4 → Z5) (so1 : (Y1 × (Int × Z1))) (list5 : Y4) (t9 t10 : Int) : Z5 :=
  cond (decide (t10 < t9))
  ((zz35 t10 so1.1 so1.2.1 so1.2.2.1 so1.2.2.2.1).bind fun rq1 =>
  cond rq1.1
  ((appI list5 [t10]).bind fun xq2 =>
  rec so1 xq2 t9 (IntKind.i64.wrap (t10 + (1 : Int))))
  (rec so1 list5 t9 (IntKind.i64.wrap (t10 + (1 : Int)))))
  (k list5)
def vhd (list5 : Y4) : Z5 :=
  some (list5, (()))
def vapp (L3 : (Y1 × (Int × Z1)) → Y4 → Int → Int → Z5) (o_0 : Y5) (so_1 : (Y1 × (Int × Z1))) : Z5 :=
  L3 so_1 [] (o_0.length : Int) (0 : Int)
def vpm (N : Nat) (k : Y4 → Z5) : Nat → (Y1 × (Int × Z1)) → Y4 → Int → Int → Z5
  | 0, _, _, _, _ => none
  | m + 1, so1, list5, t9, t10 => vml (vpm N k m) k so1 list5 t9 t10
def valr (N : Nat) (so1 : (Y1 × (Int × Z1))) (list5 : Y4) (t9 t10 : Int) : Z5 := vpm N (vhd) N so1 list5 t9 t10
def zz36 (N : Nat) (o_0 : Y5) (so_1 : (Y1 × (Int × Z1))) : Z5 := vapp (valr N) o_0 so_1
def S_zz36 : Sig := { a := (.pair (.sl (.sl .bool)) (.pair (.clo 116 0 (.pair (.ptr (.opt (.pair (.sl (.sl .bool)) (.pair (.sl (.sl I)) (.pair (.sl (.sl I)) .unit))))) (.pair (.ptr I) (.pair (.ptr I) (.pair (.ptr I) .unit))))) .unit)), md := [0, 0], mf := [], m := .unit, r := (.sl I), rf := (.o .i), f := fun x => zz36 big x.1 x.2.1 }
def A_zz36 : Cfg := mkCfg tab [(116, S_zz35)] [(6, [.drop, .as (.clo 116 0 (.pair (.ptr (.opt (.pair (.sl (.sl .bool)) (.pair (.sl (.sl I)) (.pair (.sl (.sl I)) .unit))))) (.pair (.ptr I) (.pair (.ptr I) (.pair (.ptr I) .unit))))) .i, .drop, .drop, .drop, .as (.sl I) (.o .i), .drop, .drop, .drop, .as I .i, .as I .i]), (17, [.drop, .drop, .drop, .drop, .drop, .as (.sl I) (.o .i)])]
noncomputable def vom (N n : Nat) (K : Ex → St → Z5) (so1 : (Y1 × (Int × Z1))) (list5 : Y4) (t9 t10 : Int) : Z5 := iter ((A_zz36).shape 6) (run (A_zz36) N (codeAt Try.f62 [1, 1, 0, 1, 0, 0])) n ([.u, .val (.clo 116 0 (.pair (.ptr (.opt (.pair (.sl (.sl .bool)) (.pair (.sl (.sl I)) (.pair (.sl (.sl I)) .unit))))) (.pair (.ptr I) (.pair (.ptr I) (.pair (.ptr I) .unit))))) .i so1, .u, .u, .u, .val (.sl I) (.o .i) list5, .u, .u, .u, .val I .i t9, .val I .i t10] ++ List.replicate 11 .u) K
noncomputable abbrev vaqt : Ex → St → Z5 := finish (A_zz36) S_zz36 Try.f62.results.toList
noncomputable abbrev vtb (kX : St → Z5) : Y4 → Z5 := fun (list5 : Y4) => kX ([.u, .u, .u, .u, .u, .val (.sl I) (.o .i) list5] ++ List.replicate 16 .u)
noncomputable abbrev vys (kX : St → Z5) (kO : Nat → St → Z5) : Ex → St → Z5 := exK vaqt 0 ((A_zz36).shape 17) kX kO
theorem vbdu (N m : Nat) (kX : St → Z5) (kO : Nat → St → Z5) (so1 : (Y1 × (Int × Z1))) (list5 : Y4) (t9 t10 : Int) : vom N (m + 1) (vys kX kO) so1 list5 t9 t10 = vml (vom N m (vys kX kO)) (vtb kX) so1 list5 t9 t10 := by kernel_rfl
theorem vaen (N : Nat) (kX : St → Z5) (kO : Nat → St → Z5) : ∀ (n : Nat) (so1 : (Y1 × (Int × Z1))) (list5 : Y4) (t9 t10 : Int), vom N n (vys kX kO) so1 list5 t9 t10 = vpm N (vtb kX) n so1 list5 t9 t10
  | 0, _, _, _, _ => rfl
  | m + 1, so1, list5, t9, t10 => by
    have hrec : vom N m (vys kX kO) = (vpm N (vtb kX) m) := (funext fun so1 => (funext fun list5 => (funext fun t9 => (funext fun t10 => vaen N kX kO m so1 list5 t9 t10))))
    refine (vbdu N m kX kO so1 list5 t9 t10).trans ?_
    rw [hrec]
    rfl
noncomputable abbrev vakn (N : Nat) : Ex → St → Z5 := (blockK 0 (seqK ((A_zz36).shape 17) (gated ((A_zz36).shape 500008).isSome N (run (A_zz36) N (codeAt Try.f62 [1, 1, 1]))) vaqt))
noncomputable abbrev vamy (N : Nat) : St → Z5 := fun st' => run (A_zz36) N (codeAt Try.f62 [1, 1, 1]) st' vaqt
theorem vavn (N : Nat) (list5 : Y4) : vtb (vamy N) list5 = vhd list5 := by kernel_rfl
theorem vbic (N : Nat) (so1 : (Y1 × (Int × Z1))) (list5 : Y4) (t9 t10 : Int) : vom N N (vakn N) so1 list5 t9 t10 = valr N so1 list5 t9 t10 :=
  have h : vtb (vamy N) = (vhd) := (funext fun list5 => vavn N list5)
  ((vad (fun st => by kernel_rfl) (fun st => by kernel_rfl)).trans (vaen N (vamy N) (fun j st => (vakn N) (.exit j) st) N so1 list5 t9 t10)).trans (congrArg (fun k => vpm N k N so1 list5 t9 t10) h)
theorem run0_zz36 (N : Nat) (x : (S_zz36).a.den) : runF (A_zz36) N Try.f62 S_zz36 x = (vapp (vom N N (vakn N)) x.1 x.2.1) := by kernel_rfl
theorem run_zz36 (N : Nat) (x : (S_zz36).a.den) : runF (A_zz36) N Try.f62 S_zz36 x = zz36 N x.1 x.2.1 := by
  refine (run0_zz36 N x).trans ?_
  rw [(funext fun so1 => (funext fun list5 => (funext fun t9 => (funext fun t10 => vbic N so1 list5 t9 t10))))]
  rfl
theorem fn_zz36 : FnOk Try.prog 62 := ⟨_, Try.func62, by kernel_rfl, by kernel_rfl⟩
theorem good_zz36 : Gx.Good Try.prog 62 S_zz36 := vaa Try.func62 (of_decide_eq_true (by kernel_rfl)) fun x r h => ⟨A_zz36, big, vac tabOk, vab (show SigsOk Try.prog [(116, S_zz35)] from ⟨⟨fn_zz35, good_zz35⟩, trivial⟩), (run_zz36 big x).trans h⟩
def vbhm (l_0 : Y1) (x_1 y_2 z_3 : Int) : Z5 :=
  (l_0).bind fun xq1 =>
  (zz36 big xq1.1 (l_0, y_2, x_1, z_3, ())).bind fun rq2 =>
  some (rq2.1, (()))
def zz37 (l_0 : Y1) (x_1 y_2 z_3 : Int) : Z5 := vbhm l_0 x_1 y_2 z_3
def S_zz37 : Sig := { a := (.pair (.opt (.pair (.sl (.sl .bool)) (.pair (.sl (.sl I)) (.pair (.sl (.sl I)) .unit)))) (.pair I (.pair I (.pair I .unit)))), md := [0, 0, 0, 0], mf := [], m := .unit, r := (.sl I), rf := (.o .i), f := fun x => zz37 x.1 x.2.1 x.2.2.1 x.2.2.2.1 }
def A_zz37 : Cfg := mkCfg tab [(62, S_zz36)] [(3, [.drop, .drop, .drop, .drop, .as (.ptr (.opt (.pair (.sl (.sl .bool)) (.pair (.sl (.sl I)) (.pair (.sl (.sl I)) .unit))))) .i, .as (.ptr I) .i, .as (.ptr I) .i, .as (.ptr I) .i])]
theorem run_zz37 (N : Nat) (x : (S_zz37).a.den) : runF (A_zz37) N Try.f77 S_zz37 x = zz37 x.1 x.2.1 x.2.2.1 x.2.2.2.1 := by kernel_rfl
theorem fn_zz37 : FnOk Try.prog 77 := ⟨_, Try.func77, by kernel_rfl, by kernel_rfl⟩
theorem good_zz37 : Gx.Good Try.prog 77 S_zz37 := vaa Try.func77 (of_decide_eq_true (by kernel_rfl)) fun x r h => ⟨A_zz37, big, vac tabOk, vab (show SigsOk Try.prog [(62, S_zz36)] from ⟨⟨fn_zz36, good_zz36⟩, trivial⟩), (run_zz37 big x).trans h⟩
def vbed (l_0 : Y1) (x_1 : Int) : Z5 :=
  (zz33 big l_0).bind fun rq1 =>
  (zz34 big l_0).bind fun rq2 =>
  (zz37 l_0 rq1.1 x_1 rq2.1).bind fun rq3 =>
  some (rq3.1, (()))
def zz38 (l_0 : Y1) (x_1 : Int) : Z5 := vbed l_0 x_1
def S_zz38 : Sig := { a := (.pair (.opt (.pair (.sl (.sl .bool)) (.pair (.sl (.sl I)) (.pair (.sl (.sl I)) .unit)))) (.pair I .unit)), md := [0, 0], mf := [], m := .unit, r := (.sl I), rf := (.o .i), f := fun x => zz38 x.1 x.2.1 }
def A_zz38 : Cfg := mkCfg tab [(114, S_zz33), (115, S_zz34), (77, S_zz37)] []
theorem run_zz38 (N : Nat) (x : (S_zz38).a.den) : runF (A_zz38) N Try.f73 S_zz38 x = zz38 x.1 x.2.1 := by kernel_rfl
theorem fn_zz38 : FnOk Try.prog 73 := ⟨_, Try.func73, by kernel_rfl, by kernel_rfl⟩
theorem good_zz38 : Gx.Good Try.prog 73 S_zz38 := vaa Try.func73 (of_decide_eq_true (by kernel_rfl)) fun x r h => ⟨A_zz38, big, vac tabOk, vab (show SigsOk Try.prog [(114, S_zz33), (115, S_zz34), (77, S_zz37)] from ⟨⟨fn_zz33, good_zz33⟩, ⟨fn_zz34, good_zz34⟩, ⟨fn_zz37, good_zz37⟩, trivial⟩), (run_zz38 big x).trans h⟩
def vbgk (z_0 : Int) (p_1 : Y1) (p_2 p_3 : Int) : Z0 :=
  (p_1).bind fun xq1 =>
  (p_1).bind fun xq2 =>
  (atI xq2.2.1 z_0).bind fun xq3 =>
  (atI xq3 p_2).bind fun xq4 =>
  (atI xq1.2.2.1 xq4).bind fun xq5 =>
  (p_1).bind fun xq6 =>
  (atI xq6.2.1 z_0).bind fun xq7 =>
  (atI xq7 p_3).bind fun xq8 =>
  (atI xq5 xq8).bind fun xq9 =>
  cond (decide (xq9 ≠ z_0))
  (some (true, (())))
  ((p_1).bind fun xq10 =>
  (p_1).bind fun xq11 =>
  (atI xq11.2.2.1 z_0).bind fun xq12 =>
  (atI xq12 p_2).bind fun xq13 =>
  (atI xq10.2.1 xq13).bind fun xq14 =>
  (p_1).bind fun xq15 =>
  (atI xq15.2.2.1 z_0).bind fun xq16 =>
  (atI xq16 p_3).bind fun xq17 =>
  (atI xq14 xq17).bind fun xq18 =>
  some (decide (xq18 ≠ z_0), (())))
def zz39 (z_0 : Int) (p_1 : Y1) (p_2 p_3 : Int) : Z0 := vbgk z_0 p_1 p_2 p_3
def S_zz39 : Sig := { a := (.pair I (.pair (.ptr (.opt (.pair (.sl (.sl .bool)) (.pair (.sl (.sl I)) (.pair (.sl (.sl I)) .unit))))) (.pair (.ptr I) (.pair (.ptr I) .unit)))), md := [0, 0, 0, 0], mf := [], m := .unit, r := .bool, rf := .i, f := fun x => zz39 x.1 x.2.1 x.2.2.1 x.2.2.2.1 }
def A_zz39 : Cfg := mkCfg tab [] []
theorem run_zz39 (N : Nat) (x : (S_zz39).a.den) : runF (A_zz39) N Try.f112 S_zz39 x = zz39 x.1 x.2.1 x.2.2.1 x.2.2.2.1 := by kernel_rfl
theorem fn_zz39 : FnOk Try.prog 112 := ⟨_, Try.func112, by kernel_rfl, by kernel_rfl⟩
theorem good_zz39 : Gx.Good Try.prog 112 S_zz39 := vaa Try.func112 (of_decide_eq_true (by kernel_rfl)) fun x r h => ⟨A_zz39, big, vac tabOk, vab (show SigsOk Try.prog [] from trivial), (run_zz39 big x).trans h⟩
end Go.Proofs.Ytcdlbboeflehdaa
