import Derived.Test.YtlndlclemhfekaaVk14
set_option maxRecDepth 100000
set_option linter.unusedVariables false
namespace Go.Proofs.Ytlndlclemhfekaa
open Go Go.Gx Go.Proofs
noncomputable section

/-! zz59 -/
def zz59_b15 (rec : Y3 → Y3 → Z7 → Int → Int → Int → Z1) (k : Y3 → Y3 → Z7 → Int → Z1) (principal4 list7 : Y3) (seen8 : Z7) (i9 t55 t56 : Int) : Z1 :=
  cond (decide (t56 < t55))
  ((atI principal4 t56).bind fun _ =>
  (principal4[t56.toNat]?).bind fun xq8 =>
  (atI list7 i9).bind fun _ =>
  (list7[i9.toNat]?).bind fun xq9 =>
  (list7[i9.toNat]?).bind fun xq10 =>
  (principal4[t56.toNat]?).bind fun xq11 =>
  (zz58 big xq10 xq11).bind fun rq12 =>
  (zz56 big rq12.1).bind fun rq13 =>
  cond (!(Option.getD (mget .str .bool seen8 rq13.1) false))
  ((appI list7 [rq12.1]).bind fun xq14 =>
  cond (decide ((200 : Int) < (xq14.length : Int)))
  (some (([], false, ()), (())))
  (rec principal4 xq14 (mput .str .bool seen8 rq13.1 true) i9 t55 (IntKind.i64.wrap (t56 + (1 : Int)))))
  (cond (decide ((200 : Int) < (list7.length : Int)))
  (some (([], false, ()), (())))
  (rec principal4 list7 seen8 i9 t55 (IntKind.i64.wrap (t56 + (1 : Int))))))
  (k principal4 list7 seen8 i9)
def zz59_a15 (rec : Y3 → Y3 → Z7 → Int → Z1) (principal4 list7 : Y3) (seen8 : Z7) (i9 : Int) : Z1 :=
  rec principal4 list7 seen8 (IntKind.i64.wrap (i9 + (1 : Int)))
def zz59_b12 (L15 : Y3 → Y3 → Z7 → Int → Int → Int → Z1) (k : Y3 → Z1) (principal4 list7 : Y3) (seen8 : Z7) (i9 : Int) : Z1 :=
  cond (decide (i9 < (list7.length : Int)))
  (L15 principal4 list7 seen8 i9 (principal4.length : Int) (0 : Int))
  (k list7)
def zz59_a12 (list7 : Y3) : Z1 :=
  (impl_sortRows_k_compareCongruences list7 ()).bind fun rq7 =>
  some ((rq7.2.1, true, ()), (()))
def zz59_b6 (rec : Y7 → Y3 → Int → Int → Z1) (k : Y7 → Y3 → Int → Z1) (a1 : Y7) (principal4 : Y3) (x5 y6 : Int) : Z1 :=
  cond (decide (y6 < a1.1))
  ((zz55 big a1 [(x5, (y6, ()))]).bind fun rq5 =>
  (appI principal4 [rq5.1]).bind fun xq6 =>
  rec a1 xq6 x5 (IntKind.i64.wrap (y6 + (1 : Int))))
  (k a1 principal4 x5)
def zz59_a6 (rec : Y7 → Y3 → Int → Z1) (a1 : Y7) (principal4 : Y3) (x5 : Int) : Z1 :=
  rec a1 principal4 (IntKind.i64.wrap (x5 + (1 : Int)))
def zz59_b3 (L6 : Y7 → Y3 → Int → Int → Z1) (k : Y7 → Y3 → Z1) (a1 : Y7) (principal4 : Y3) (x5 : Int) : Z1 :=
  cond (decide (x5 < a1.1))
  (L6 a1 principal4 x5 (IntKind.i64.wrap (x5 + (1 : Int))))
  (k a1 principal4)
def zz59_a3 (L12 : Y3 → Y3 → Z7 → Int → Z1) (a1 : Y7) (principal4 : Y3) : Z1 :=
  (zz52 big a1.1).bind fun rq1 =>
  (atI [rq1.1] (0 : Int)).bind fun _ =>
  ([rq1.1][(0 : Int).toNat]?).bind fun xq2 =>
  ([rq1.1][(0 : Int).toNat]?).bind fun xq3 =>
  (zz56 big xq3).bind fun rq4 =>
  L12 principal4 [rq1.1] (mput .str .bool [] rq4.1 true) (0 : Int)
def zz59_s (L3 : Y7 → Y3 → Int → Z1) (a_0 : Y7) : Z1 :=
  L3 a_0 [] (0 : Int)
def zz59_l6 (N : Nat) (k : Y7 → Y3 → Int → Z1) : Nat → Y7 → Y3 → Int → Int → Z1
  | 0, _, _, _, _ => none
  | m + 1, a1, principal4, x5, y6 => zz59_b6 (zz59_l6 N k m) k a1 principal4 x5 y6
def zz59_F6 (N : Nat) (rec : Y7 → Y3 → Int → Z1) (k : Y7 → Y3 → Z1) (a1 : Y7) (principal4 : Y3) (x5 y6 : Int) : Z1 := zz59_l6 N (zz59_a6 rec) N a1 principal4 x5 y6
def zz59_l15 (N : Nat) (k : Y3 → Y3 → Z7 → Int → Z1) : Nat → Y3 → Y3 → Z7 → Int → Int → Int → Z1
  | 0, _, _, _, _, _, _ => none
  | m + 1, principal4, list7, seen8, i9, t55, t56 => zz59_b15 (zz59_l15 N k m) k principal4 list7 seen8 i9 t55 t56
def zz59_F15 (N : Nat) (rec : Y3 → Y3 → Z7 → Int → Z1) (k : Y3 → Z1) (principal4 list7 : Y3) (seen8 : Z7) (i9 t55 t56 : Int) : Z1 := zz59_l15 N (zz59_a15 rec) N principal4 list7 seen8 i9 t55 t56
def zz59_l3 (N : Nat) (k : Y7 → Y3 → Z1) : Nat → Y7 → Y3 → Int → Z1
  | 0, _, _, _ => none
  | m + 1, a1, principal4, x5 => zz59_b3 (zz59_F6 N (zz59_l3 N k m) k) k a1 principal4 x5
def zz59_l12 (N : Nat) (k : Y3 → Z1) : Nat → Y3 → Y3 → Z7 → Int → Z1
  | 0, _, _, _, _ => none
  | m + 1, principal4, list7, seen8, i9 => zz59_b12 (zz59_F15 N (zz59_l12 N k m) k) k principal4 list7 seen8 i9
def zz59_F12 (N : Nat) (principal4 list7 : Y3) (seen8 : Z7) (i9 : Int) : Z1 := zz59_l12 N (zz59_a12) N principal4 list7 seen8 i9
def zz59_F3 (N : Nat) (a1 : Y7) (principal4 : Y3) (x5 : Int) : Z1 := zz59_l3 N (zz59_a3 (zz59_F12 N)) N a1 principal4 x5
def zz59 (N : Nat) (a_0 : Y7) : Z1 := zz59_s (zz59_F3 N) a_0
def S_zz59 : Sig := { a := (.pair (.pair I (.pair (.sl (.pair I (.pair (.sl I) .unit))) .unit)) .unit), md := [0], mf := [], m := .unit, r := (.tup (.pair (.sl (.sl I)) (.pair .bool .unit))), rf := (.p (.o (.o .i)) .i), f := fun x => zz59 big x.1 }
def A_zz59 : Cfg := mkCfg tab [(138, S_zz52), (139, S_zz56), (137, S_zz55), (31, S_impl_sortRows_k_compareCongruences), (140, S_zz58)] [(6, [.drop, .as (.ptr (.pair I (.pair (.sl (.pair I (.pair (.sl I) .unit))) .unit))) (.o .i), .drop, .drop, .as (.sl (.sl I)) (.o (.o .i)), .as I .i]), (12, [.drop, .as (.ptr (.pair I (.pair (.sl (.pair I (.pair (.sl I) .unit))) .unit))) (.o .i), .drop, .drop, .as (.sl (.sl I)) (.o (.o .i)), .as I .i, .as I .i]), (19, [.drop, .as (.ptr (.pair I (.pair (.sl (.pair I (.pair (.sl I) .unit))) .unit))) (.o .i), .drop, .drop, .as (.sl (.sl I)) (.o (.o .i))]), (24, [.drop, .drop, .drop, .drop, .as (.sl (.sl I)) (.o (.o .i)), .drop, .drop, .as (.sl (.sl I)) (.o (.o .i)), .as (.map .str .bool) (.o .i), .as I .i]), (9, [.drop, .as (.ptr (.pair I (.pair (.sl (.pair I (.pair (.sl I) .unit))) .unit))) (.o .i), .drop, .drop, .as (.sl (.sl I)) (.o (.o .i)), .as I .i]), (30, [.drop, .drop, .drop, .drop, .as (.sl (.sl I)) (.o (.o .i)), .drop, .drop, .as (.sl (.sl I)) (.o (.o .i)), .as (.map .str .bool) (.o .i), .as I .i, .drop, .drop, .drop, .drop, .drop, .drop, .drop, .drop, .drop, .drop, .drop, .drop, .drop, .drop, .drop, .drop, .drop, .drop, .drop, .drop, .drop, .drop, .drop, .drop, .drop, .drop, .drop, .drop, .drop, .drop, .drop, .drop, .drop, .drop, .drop, .drop, .drop, .drop, .drop, .drop, .drop, .drop, .drop, .drop, .keep, .as I .i, .as I .i]), (51, [.drop, .drop, .drop, .drop, .drop, .drop, .drop, .as (.sl (.sl I)) (.o (.o .i))]), (27, [.drop, .drop, .drop, .drop, .as (.sl (.sl I)) (.o (.o .i)), .drop, .drop, .as (.sl (.sl I)) (.o (.o .i)), .as (.map .str .bool) (.o .i), .as I .i])]
noncomputable def zz59_R3 (N n : Nat) (K : Ex → St → Z1) (a1 : Y7) (principal4 : Y3) (x5 : Int) : Z1 := iter ((A_zz59).shape 6) (run (A_zz59) N (codeAt Try.f116 [1, 1, 0, 1, 0, 0])) n ([.u, .val (.ptr (.pair I (.pair (.sl (.pair I (.pair (.sl I) .unit))) .unit))) (.o .i) a1, .u, .u, .val (.sl (.sl I)) (.o (.o .i)) principal4, .val I .i x5] ++ List.replicate 79 .u) K
noncomputable def zz59_R6 (N n : Nat) (K : Ex → St → Z1) (a1 : Y7) (principal4 : Y3) (x5 y6 : Int) : Z1 := iter ((A_zz59).shape 12) (run (A_zz59) N (codeAt Try.f116 [1, 1, 0, 1, 0, 0, 1, 0, 0, 1, 0, 0])) n ([.u, .val (.ptr (.pair I (.pair (.sl (.pair I (.pair (.sl I) .unit))) .unit))) (.o .i) a1, .u, .u, .val (.sl (.sl I)) (.o (.o .i)) principal4, .val I .i x5, .val I .i y6] ++ List.replicate 78 .u) K
noncomputable def zz59_R12 (N n : Nat) (K : Ex → St → Z1) (principal4 list7 : Y3) (seen8 : Z7) (i9 : Int) : Z1 := iter ((A_zz59).shape 24) (run (A_zz59) N (codeAt Try.f116 [1, 1, 1, 1, 1, 0, 1, 0, 0])) n ([.u, .u, .u, .u, .val (.sl (.sl I)) (.o (.o .i)) principal4, .u, .u, .val (.sl (.sl I)) (.o (.o .i)) list7, .val (.map .str .bool) (.o .i) seen8, .val I .i i9] ++ List.replicate 75 .u) K
noncomputable def zz59_R15 (N n : Nat) (K : Ex → St → Z1) (principal4 list7 : Y3) (seen8 : Z7) (i9 t55 t56 : Int) : Z1 := iter ((A_zz59).shape 30) (run (A_zz59) N (codeAt Try.f116 [1, 1, 1, 1, 1, 0, 1, 0, 0, 1, 0, 0, 1, 0, 0])) n ([.u, .u, .u, .u, .val (.sl (.sl I)) (.o (.o .i)) principal4, .u, .u, .val (.sl (.sl I)) (.o (.o .i)) list7, .val (.map .str .bool) (.o .i) seen8, .val I .i i9, .u, .u, .u, .u, .u, .u, .u, .u, .u, .u, .u, .u, .u, .u, .u, .u, .u, .u, .u, .u, .u, .u, .u, .u, .u, .u, .u, .u, .u, .u, .u, .u, .u, .u, .u, .u, .u, .u, .u, .u, .u, .u, .u, .u, .ref 4 [] .val, .val I .i t55, .val I .i t56] ++ List.replicate 28 .u) K
noncomputable abbrev zz59_z : Ex → St → Z1 := finish (A_zz59) S_zz59 Try.f116.results.toList
noncomputable abbrev zz59_X3 (kX : St → Z1) : Y7 → Y3 → Z1 := fun (a1 : Y7) (principal4 : Y3) => kX ([.u, .val (.ptr (.pair I (.pair (.sl (.pair I (.pair (.sl I) .unit))) .unit))) (.o .i) a1, .u, .u, .val (.sl (.sl I)) (.o (.o .i)) principal4] ++ List.replicate 80 .u)
noncomputable abbrev zz59_E3 (kX : St → Z1) (kO : Nat → St → Z1) : Ex → St → Z1 := exK zz59_z 0 ((A_zz59).shape 19) kX kO
noncomputable abbrev zz59_X6 (kX : St → Z1) : Y7 → Y3 → Int → Z1 := fun (a1 : Y7) (principal4 : Y3) (x5 : Int) => kX ([.u, .val (.ptr (.pair I (.pair (.sl (.pair I (.pair (.sl I) .unit))) .unit))) (.o .i) a1, .u, .u, .val (.sl (.sl I)) (.o (.o .i)) principal4, .val I .i x5] ++ List.replicate 79 .u)
noncomputable abbrev zz59_E6 (kX : St → Z1) (kO : Nat → St → Z1) : Ex → St → Z1 := exK zz59_z 2 ((A_zz59).shape 9) kX kO
noncomputable abbrev zz59_X12 (kX : St → Z1) : Y3 → Z1 := fun (list7 : Y3) => kX ([.u, .u, .u, .u, .u, .u, .u, .val (.sl (.sl I)) (.o (.o .i)) list7] ++ List.replicate 77 .u)
noncomputable abbrev zz59_E12 (kX : St → Z1) (kO : Nat → St → Z1) : Ex → St → Z1 := exK zz59_z 4 ((A_zz59).shape 51) kX kO
noncomputable abbrev zz59_X15 (kX : St → Z1) : Y3 → Y3 → Z7 → Int → Z1 := fun (principal4 list7 : Y3) (seen8 : Z7) (i9 : Int) => kX ([.u, .u, .u, .u, .val (.sl (.sl I)) (.o (.o .i)) principal4, .u, .u, .val (.sl (.sl I)) (.o (.o .i)) list7, .val (.map .str .bool) (.o .i) seen8, .val I .i i9] ++ List.replicate 75 .u)
noncomputable abbrev zz59_E15 (kX : St → Z1) (kO : Nat → St → Z1) : Ex → St → Z1 := exK zz59_z 6 ((A_zz59).shape 27) kX kO
theorem zz59_step6 (N m : Nat) (kX : St → Z1) (kO : Nat → St → Z1) (a1 : Y7) (principal4 : Y3) (x5 y6 : Int) : zz59_R6 N (m + 1) (zz59_E6 kX kO) a1 principal4 x5 y6 = zz59_b6 (zz59_R6 N m (zz59_E6 kX kO)) (zz59_X6 kX) a1 principal4 x5 y6 := by kernel_rfl
theorem zz59_iter6 (N : Nat) (kX : St → Z1) (kO : Nat → St → Z1) : ∀ (n : Nat) (a1 : Y7) (principal4 : Y3) (x5 y6 : Int), zz59_R6 N n (zz59_E6 kX kO) a1 principal4 x5 y6 = zz59_l6 N (zz59_X6 kX) n a1 principal4 x5 y6
  | 0, _, _, _, _ => rfl
  | m + 1, a1, principal4, x5, y6 => by
    have hrec : zz59_R6 N m (zz59_E6 kX kO) = (zz59_l6 N (zz59_X6 kX) m) := (funext fun a1 => (funext fun principal4 => (funext fun x5 => (funext fun y6 => zz59_iter6 N kX kO m a1 principal4 x5 y6))))
    refine (zz59_step6 N m kX kO a1 principal4 x5 y6).trans ?_
    rw [hrec]
    rfl
noncomputable abbrev zz59_K6 (N m : Nat) (kX : St → Z1) (kO : Nat → St → Z1) : Ex → St → Z1 := (blockK 2 (blockK 1 (seqK ((A_zz59).shape 9) (run (A_zz59) N (codeAt Try.f116 [1, 1, 0, 1, 0, 0, 1, 1])) (iterK ((A_zz59).shape 6) (run (A_zz59) N (codeAt Try.f116 [1, 1, 0, 1, 0, 0])) m (zz59_E3 kX kO)))))
noncomputable abbrev zz59_k6 (N m : Nat) (kX : St → Z1) (kO : Nat → St → Z1) : St → Z1 := fun st' => run (A_zz59) N (codeAt Try.f116 [1, 1, 0, 1, 0, 0, 1, 1]) st' (iterK ((A_zz59).shape 6) (run (A_zz59) N (codeAt Try.f116 [1, 1, 0, 1, 0, 0])) m (zz59_E3 kX kO))
theorem zz59_after6 (N m : Nat) (kX : St → Z1) (kO : Nat → St → Z1) (a1 : Y7) (principal4 : Y3) (x5 : Int) : zz59_X6 (zz59_k6 N m kX kO) a1 principal4 x5 = zz59_a6 (zz59_R3 N m (zz59_E3 kX kO)) a1 principal4 x5 := by kernel_rfl
theorem zz59_in6 (N m : Nat) (kX : St → Z1) (kO : Nat → St → Z1) (recF : Y7 → Y3 → Int → Z1) (hrec : zz59_R3 N m (zz59_E3 kX kO) = recF) (a1 : Y7) (principal4 : Y3) (x5 y6 : Int) : zz59_R6 N N (zz59_K6 N m kX kO) a1 principal4 x5 y6 = zz59_F6 N recF (zz59_X3 kX) a1 principal4 x5 y6 :=
  have h : zz59_X6 (zz59_k6 N m kX kO) = (zz59_a6 recF) := (funext fun a1 => (funext fun principal4 => (funext fun x5 => (zz59_after6 N m kX kO a1 principal4 x5).trans (by rw [hrec]))))
  ((iter_ex (fun st => by kernel_rfl) (fun st => by kernel_rfl)).trans (zz59_iter6 N (zz59_k6 N m kX kO) (fun j st => (zz59_K6 N m kX kO) (.exit j) st) N a1 principal4 x5 y6)).trans (congrArg (fun k => zz59_l6 N k N a1 principal4 x5 y6) h)
theorem zz59_step3 (N m : Nat) (kX : St → Z1) (kO : Nat → St → Z1) (a1 : Y7) (principal4 : Y3) (x5 : Int) : zz59_R3 N (m + 1) (zz59_E3 kX kO) a1 principal4 x5 = zz59_b3 (zz59_R6 N N (zz59_K6 N m kX kO)) (zz59_X3 kX) a1 principal4 x5 := by kernel_rfl
theorem zz59_iter3 (N : Nat) (kX : St → Z1) (kO : Nat → St → Z1) : ∀ (n : Nat) (a1 : Y7) (principal4 : Y3) (x5 : Int), zz59_R3 N n (zz59_E3 kX kO) a1 principal4 x5 = zz59_l3 N (zz59_X3 kX) n a1 principal4 x5
  | 0, _, _, _ => rfl
  | m + 1, a1, principal4, x5 => by
    have hrec : zz59_R3 N m (zz59_E3 kX kO) = (zz59_l3 N (zz59_X3 kX) m) := (funext fun a1 => (funext fun principal4 => (funext fun x5 => zz59_iter3 N kX kO m a1 principal4 x5)))
    refine (zz59_step3 N m kX kO a1 principal4 x5).trans ?_
    rw [(funext fun a1 => (funext fun principal4 => (funext fun x5 => (funext fun y6 => zz59_in6 N m kX kO (zz59_l3 N (zz59_X3 kX) m) hrec a1 principal4 x5 y6))))]
    rfl
noncomputable abbrev zz59_K3 (N : Nat) : Ex → St → Z1 := (blockK 0 (seqK ((A_zz59).shape 19) (run (A_zz59) N (codeAt Try.f116 [1, 1, 1])) zz59_z))
theorem zz59_step15 (N m : Nat) (kX : St → Z1) (kO : Nat → St → Z1) (principal4 list7 : Y3) (seen8 : Z7) (i9 t55 t56 : Int) : zz59_R15 N (m + 1) (zz59_E15 kX kO) principal4 list7 seen8 i9 t55 t56 = zz59_b15 (zz59_R15 N m (zz59_E15 kX kO)) (zz59_X15 kX) principal4 list7 seen8 i9 t55 t56 := by kernel_rfl
theorem zz59_iter15 (N : Nat) (kX : St → Z1) (kO : Nat → St → Z1) : ∀ (n : Nat) (principal4 list7 : Y3) (seen8 : Z7) (i9 t55 t56 : Int), zz59_R15 N n (zz59_E15 kX kO) principal4 list7 seen8 i9 t55 t56 = zz59_l15 N (zz59_X15 kX) n principal4 list7 seen8 i9 t55 t56
  | 0, _, _, _, _, _, _ => rfl
  | m + 1, principal4, list7, seen8, i9, t55, t56 => by
    have hrec : zz59_R15 N m (zz59_E15 kX kO) = (zz59_l15 N (zz59_X15 kX) m) := (funext fun principal4 => (funext fun list7 => (funext fun seen8 => (funext fun i9 => (funext fun t55 => (funext fun t56 => zz59_iter15 N kX kO m principal4 list7 seen8 i9 t55 t56))))))
    refine (zz59_step15 N m kX kO principal4 list7 seen8 i9 t55 t56).trans ?_
    rw [hrec]
    rfl
noncomputable abbrev zz59_K15 (N m : Nat) (kX : St → Z1) (kO : Nat → St → Z1) : Ex → St → Z1 := (blockK 6 (blockK 5 (seqK ((A_zz59).shape 27) (run (A_zz59) N (codeAt Try.f116 [1, 1, 1, 1, 1, 0, 1, 0, 0, 1, 1])) (iterK ((A_zz59).shape 24) (run (A_zz59) N (codeAt Try.f116 [1, 1, 1, 1, 1, 0, 1, 0, 0])) m (zz59_E12 kX kO)))))
noncomputable abbrev zz59_k15 (N m : Nat) (kX : St → Z1) (kO : Nat → St → Z1) : St → Z1 := fun st' => run (A_zz59) N (codeAt Try.f116 [1, 1, 1, 1, 1, 0, 1, 0, 0, 1, 1]) st' (iterK ((A_zz59).shape 24) (run (A_zz59) N (codeAt Try.f116 [1, 1, 1, 1, 1, 0, 1, 0, 0])) m (zz59_E12 kX kO))
theorem zz59_after15 (N m : Nat) (kX : St → Z1) (kO : Nat → St → Z1) (principal4 list7 : Y3) (seen8 : Z7) (i9 : Int) : zz59_X15 (zz59_k15 N m kX kO) principal4 list7 seen8 i9 = zz59_a15 (zz59_R12 N m (zz59_E12 kX kO)) principal4 list7 seen8 i9 := by kernel_rfl
theorem zz59_in15 (N m : Nat) (kX : St → Z1) (kO : Nat → St → Z1) (recF : Y3 → Y3 → Z7 → Int → Z1) (hrec : zz59_R12 N m (zz59_E12 kX kO) = recF) (principal4 list7 : Y3) (seen8 : Z7) (i9 t55 t56 : Int) : zz59_R15 N N (zz59_K15 N m kX kO) principal4 list7 seen8 i9 t55 t56 = zz59_F15 N recF (zz59_X12 kX) principal4 list7 seen8 i9 t55 t56 :=
  have h : zz59_X15 (zz59_k15 N m kX kO) = (zz59_a15 recF) := (funext fun principal4 => (funext fun list7 => (funext fun seen8 => (funext fun i9 => (zz59_after15 N m kX kO principal4 list7 seen8 i9).trans (by rw [hrec])))))
  ((iter_ex (fun st => by kernel_rfl) (fun st => by kernel_rfl)).trans (zz59_iter15 N (zz59_k15 N m kX kO) (fun j st => (zz59_K15 N m kX kO) (.exit j) st) N principal4 list7 seen8 i9 t55 t56)).trans (congrArg (fun k => zz59_l15 N k N principal4 list7 seen8 i9 t55 t56) h)
theorem zz59_step12 (N m : Nat) (kX : St → Z1) (kO : Nat → St → Z1) (principal4 list7 : Y3) (seen8 : Z7) (i9 : Int) : zz59_R12 N (m + 1) (zz59_E12 kX kO) principal4 list7 seen8 i9 = zz59_b12 (zz59_R15 N N (zz59_K15 N m kX kO)) (zz59_X12 kX) principal4 list7 seen8 i9 := by kernel_rfl
theorem zz59_iter12 (N : Nat) (kX : St → Z1) (kO : Nat → St → Z1) : ∀ (n : Nat) (principal4 list7 : Y3) (seen8 : Z7) (i9 : Int), zz59_R12 N n (zz59_E12 kX kO) principal4 list7 seen8 i9 = zz59_l12 N (zz59_X12 kX) n principal4 list7 seen8 i9
  | 0, _, _, _, _ => rfl
  | m + 1, principal4, list7, seen8, i9 => by
    have hrec : zz59_R12 N m (zz59_E12 kX kO) = (zz59_l12 N (zz59_X12 kX) m) := (funext fun principal4 => (funext fun list7 => (funext fun seen8 => (funext fun i9 => zz59_iter12 N kX kO m principal4 list7 seen8 i9))))
    refine (zz59_step12 N m kX kO principal4 list7 seen8 i9).trans ?_
    rw [(funext fun principal4 => (funext fun list7 => (funext fun seen8 => (funext fun i9 => (funext fun t55 => (funext fun t56 => zz59_in15 N m kX kO (zz59_l12 N (zz59_X12 kX) m) hrec principal4 list7 seen8 i9 t55 t56))))))]
    rfl
noncomputable abbrev zz59_K12 (N : Nat) : Ex → St → Z1 := (blockK 4 (seqK ((A_zz59).shape 51) (run (A_zz59) N (codeAt Try.f116 [1, 1, 1, 1, 1, 1])) zz59_z))
noncomputable abbrev zz59_k12 (N : Nat) : St → Z1 := fun st' => run (A_zz59) N (codeAt Try.f116 [1, 1, 1, 1, 1, 1]) st' zz59_z
theorem zz59_after12 (N : Nat) (list7 : Y3) : zz59_X12 (zz59_k12 N) list7 = zz59_a12 list7 := by kernel_rfl
theorem zz59_in12 (N : Nat) (principal4 list7 : Y3) (seen8 : Z7) (i9 : Int) : zz59_R12 N N (zz59_K12 N) principal4 list7 seen8 i9 = zz59_F12 N principal4 list7 seen8 i9 :=
  have h : zz59_X12 (zz59_k12 N) = (zz59_a12) := (funext fun list7 => zz59_after12 N list7)
  ((iter_ex (fun st => by kernel_rfl) (fun st => by kernel_rfl)).trans (zz59_iter12 N (zz59_k12 N) (fun j st => (zz59_K12 N) (.exit j) st) N principal4 list7 seen8 i9)).trans (congrArg (fun k => zz59_l12 N k N principal4 list7 seen8 i9) h)
noncomputable abbrev zz59_k3 (N : Nat) : St → Z1 := fun st' => run (A_zz59) N (codeAt Try.f116 [1, 1, 1]) st' zz59_z
theorem zz59_after3 (N : Nat) (a1 : Y7) (principal4 : Y3) : zz59_X3 (zz59_k3 N) a1 principal4 = zz59_a3 (zz59_R12 N N (zz59_K12 N)) a1 principal4 := by kernel_rfl
theorem zz59_in3 (N : Nat) (a1 : Y7) (principal4 : Y3) (x5 : Int) : zz59_R3 N N (zz59_K3 N) a1 principal4 x5 = zz59_F3 N a1 principal4 x5 :=
  have h : zz59_X3 (zz59_k3 N) = (zz59_a3 (zz59_F12 N)) := (funext fun a1 => (funext fun principal4 => (zz59_after3 N a1 principal4).trans (by rw [(funext fun principal4 => (funext fun list7 => (funext fun seen8 => (funext fun i9 => zz59_in12 N principal4 list7 seen8 i9))))])))
  ((iter_ex (fun st => by kernel_rfl) (fun st => by kernel_rfl)).trans (zz59_iter3 N (zz59_k3 N) (fun j st => (zz59_K3 N) (.exit j) st) N a1 principal4 x5)).trans (congrArg (fun k => zz59_l3 N k N a1 principal4 x5) h)
theorem run0_zz59 (N : Nat) (x : (S_zz59).a.den) : runF (A_zz59) N Try.f116 S_zz59 x = (zz59_s (zz59_R3 N N (zz59_K3 N)) x.1) := by kernel_rfl
theorem run_zz59 (N : Nat) (x : (S_zz59).a.den) : runF (A_zz59) N Try.f116 S_zz59 x = zz59 N x.1 := by
  refine (run0_zz59 N x).trans ?_
  rw [(funext fun a1 => (funext fun principal4 => (funext fun x5 => zz59_in3 N a1 principal4 x5)))]
  rfl
theorem fn_zz59 : FnOk Try.prog 116 := ⟨_, Try.func116, by kernel_rfl, by kernel_rfl⟩
theorem good_zz59 : Gx.Good Try.prog 116 S_zz59 := good_of_run Try.func116 (of_decide_eq_true (by kernel_rfl)) fun x r h => ⟨A_zz59, big, mkCfg_ok tabOk, mkCfg_sigs (show SigsOk Try.prog [(138, S_zz52), (139, S_zz56), (137, S_zz55), (31, S_impl_sortRows_k_compareCongruences), (140, S_zz58)] from ⟨⟨fn_zz52, good_zz52⟩, ⟨fn_zz56, good_zz56⟩, ⟨fn_zz55, good_zz55⟩, ⟨fn_impl_sortRows_k_compareCongruences, good_impl_sortRows_k_compareCongruences⟩, ⟨fn_zz58, good_zz58⟩, trivial⟩), (run_zz59 big x).trans h⟩

/-! zz60 -/
def zz60_s (a_0 : Y7) : Z1 :=
  (zz51 big a_0).bind fun rq1 =>
  cond (!rq1.1)
  (some (([], false, ()), (())))
  ((zz59 big a_0).bind fun rq2 =>
  some ((rq2.1.1, (((), rq2.1.2).2).1, ()), (())))
def zz60 (a_0 : Y7) : Z1 := zz60_s a_0
def S_zz60 : Sig := { a := (.pair (.pair I (.pair (.sl (.pair I (.pair (.sl I) .unit))) .unit)) .unit), md := [0], mf := [], m := .unit, r := (.tup (.pair (.sl (.sl I)) (.pair .bool .unit))), rf := (.p (.o (.o .i)) .i), f := fun x => zz60 x.1 }
def A_zz60 : Cfg := mkCfg tab [(115, S_zz51), (116, S_zz59)] []
theorem run_zz60 (N : Nat) (x : (S_zz60).a.den) : runF (A_zz60) N Try.f87 S_zz60 x = zz60 x.1 := by kernel_rfl
theorem fn_zz60 : FnOk Try.prog 87 := ⟨_, Try.func87, by kernel_rfl, by kernel_rfl⟩
theorem good_zz60 : Gx.Good Try.prog 87 S_zz60 := good_of_run Try.func87 (of_decide_eq_true (by kernel_rfl)) fun x r h => ⟨A_zz60, big, mkCfg_ok tabOk, mkCfg_sigs (show SigsOk Try.prog [(115, S_zz51), (116, S_zz59)] from ⟨⟨fn_zz51, good_zz51⟩, ⟨fn_zz59, good_zz59⟩, trivial⟩), (run_zz60 big x).trans h⟩

/-! zz61 -/
def zz61_s (a_0 : Y7) : Z1 :=
  (zz60 a_0).bind fun rq1 =>
  cond (!((((), rq1.1.2).2).1))
  (some (([], false, ()), (())))
  (some ((rq1.1.1, true, ()), (())))
def zz61 (a_0 : Y7) : Z1 := zz61_s a_0
def S_zz61 : Sig := { a := (.pair (.pair I (.pair (.sl (.pair I (.pair (.sl I) .unit))) .unit)) .unit), md := [0], mf := [], m := .unit, r := (.tup (.pair (.sl (.sl I)) (.pair .bool .unit))), rf := (.p (.o (.o .i)) .i), f := fun x => zz61 x.1 }
def A_zz61 : Cfg := mkCfg tab [(87, S_zz60)] []
theorem run_zz61 (N : Nat) (x : (S_zz61).a.den) : runF (A_zz61) N Try.f54 S_zz61 x = zz61 x.1 := by kernel_rfl
theorem fn_zz61 : FnOk Try.prog 54 := ⟨_, Try.func54, by kernel_rfl, by kernel_rfl⟩
theorem good_zz61 : Gx.Good Try.prog 54 S_zz61 := good_of_run Try.func54 (of_decide_eq_true (by kernel_rfl)) fun x r h => ⟨A_zz61, big, mkCfg_ok tabOk, mkCfg_sigs (show SigsOk Try.prog [(87, S_zz60)] from ⟨⟨fn_zz60, good_zz60⟩, trivial⟩), (run_zz61 big x).trans h⟩

/-! zz62 -/
def zz62_s (p_0 : Y2) : Z1 :=
  (zz46 p_0).bind fun rq1 =>
  cond (!rq1.1.2.1)
  (some (([], false, ()), (())))
  ((zz48 rq1.1.1).bind fun rq2 =>
  (zz61 rq2.1).bind fun rq3 =>
  some ((rq3.1.1, (((), rq3.1.2).2).1, ()), (())))
def zz62 (p_0 : Y2) : Z1 := zz62_s p_0
def S_zz62 : Sig := { a := (.pair (.pair (.sl (.sl I)) .unit) .unit), md := [0], mf := [], m := .unit, r := (.tup (.pair (.sl (.sl I)) (.pair .bool .unit))), rf := (.p (.o (.o .i)) .i), f := fun x => zz62 x.1 }
def A_zz62 : Cfg := mkCfg tab [(51, S_zz46), (53, S_zz48), (54, S_zz61)] []
theorem run_zz62 (N : Nat) (x : (S_zz62).a.den) : runF (A_zz62) N Try.f21 S_zz62 x = zz62 x.1 := by kernel_rfl
theorem fn_zz62 : FnOk Try.prog 21 := ⟨_, Try.func21, by kernel_rfl, by kernel_rfl⟩
theorem good_zz62 : Gx.Good Try.prog 21 S_zz62 := good_of_run Try.func21 (of_decide_eq_true (by kernel_rfl)) fun x r h => ⟨A_zz62, big, mkCfg_ok tabOk, mkCfg_sigs (show SigsOk Try.prog [(51, S_zz46), (53, S_zz48), (54, S_zz61)] from ⟨⟨fn_zz46, good_zz46⟩, ⟨fn_zz48, good_zz48⟩, ⟨fn_zz61, good_zz61⟩, trivial⟩), (run_zz62 big x).trans h⟩

/-! zz63 -/
def zz63_b4 (rec : Y4 → Y4 → Int → Z0) (k : Z0) (a0 b1 : Y4) (i5 : Int) : Z0 :=
  cond (decide (i5 < (a0.length : Int)))
  ((atI a0 i5).bind fun xq1 =>
  (atI b1 i5).bind fun xq2 =>
  cond (decide (xq1 ≠ xq2))
  (some (false, (())))
  (rec a0 b1 (IntKind.i64.wrap (i5 + (1 : Int)))))
  (k)
def zz63_a4 : Z0 :=
  some (true, (()))
def zz63_s (L4 : Y4 → Y4 → Int → Z0) (a_0 b_1 : Y4) : Z0 :=
  cond (decide ((a_0.length : Int) ≠ (b_1.length : Int)))
  (some (false, (())))
  (L4 a_0 b_1 (0 : Int))
def zz63_l4 (N : Nat) (k : Z0) : Nat → Y4 → Y4 → Int → Z0
  | 0, _, _, _ => none
  | m + 1, a0, b1, i5 => zz63_b4 (zz63_l4 N k m) k a0 b1 i5
def zz63_F4 (N : Nat) (a0 b1 : Y4) (i5 : Int) : Z0 := zz63_l4 N (zz63_a4) N a0 b1 i5
def zz63 (N : Nat) (a_0 b_1 : Y4) : Z0 := zz63_s (zz63_F4 N) a_0 b_1
def S_zz63 : Sig := { a := (.pair (.sl I) (.pair (.sl I) .unit)), md := [0, 0], mf := [], m := .unit, r := .bool, rf := .i, f := fun x => zz63 big x.1 x.2.1 }
def A_zz63 : Cfg := mkCfg tab [] [(8, [.as (.sl I) .i, .as (.sl I) .i, .drop, .drop, .drop, .as I .i]), (17, [])]
noncomputable def zz63_R4 (N n : Nat) (K : Ex → St → Z0) (a0 b1 : Y4) (i5 : Int) : Z0 := iter ((A_zz63).shape 8) (run (A_zz63) N (codeAt Try.f33 [1, 1, 0, 1, 0, 0])) n ([.val (.sl I) .i a0, .val (.sl I) .i b1, .u, .u, .u, .val I .i i5] ++ List.replicate 20 .u) K
noncomputable abbrev zz63_z : Ex → St → Z0 := finish (A_zz63) S_zz63 Try.f33.results.toList
noncomputable abbrev zz63_X4 (kX : St → Z0) : Z0 := kX ([] ++ List.replicate 26 .u)
noncomputable abbrev zz63_E4 (kX : St → Z0) (kO : Nat → St → Z0) : Ex → St → Z0 := exK zz63_z 0 ((A_zz63).shape 17) kX kO
theorem zz63_step4 (N m : Nat) (kX : St → Z0) (kO : Nat → St → Z0) (a0 b1 : Y4) (i5 : Int) : zz63_R4 N (m + 1) (zz63_E4 kX kO) a0 b1 i5 = zz63_b4 (zz63_R4 N m (zz63_E4 kX kO)) (zz63_X4 kX) a0 b1 i5 := by kernel_rfl
theorem zz63_iter4 (N : Nat) (kX : St → Z0) (kO : Nat → St → Z0) : ∀ (n : Nat) (a0 b1 : Y4) (i5 : Int), zz63_R4 N n (zz63_E4 kX kO) a0 b1 i5 = zz63_l4 N (zz63_X4 kX) n a0 b1 i5
  | 0, _, _, _ => rfl
  | m + 1, a0, b1, i5 => by
    have hrec : zz63_R4 N m (zz63_E4 kX kO) = (zz63_l4 N (zz63_X4 kX) m) := (funext fun a0 => (funext fun b1 => (funext fun i5 => zz63_iter4 N kX kO m a0 b1 i5)))
    refine (zz63_step4 N m kX kO a0 b1 i5).trans ?_
    rw [hrec]
    rfl
noncomputable abbrev zz63_K4 (N : Nat) : Ex → St → Z0 := (blockK 0 (seqK ((A_zz63).shape 17) (run (A_zz63) N (codeAt Try.f33 [1, 1, 1])) zz63_z))
noncomputable abbrev zz63_k4 (N : Nat) : St → Z0 := fun st' => run (A_zz63) N (codeAt Try.f33 [1, 1, 1]) st' zz63_z
theorem zz63_after4 (N : Nat) : zz63_X4 (zz63_k4 N) = zz63_a4 := by kernel_rfl
theorem zz63_in4 (N : Nat) (a0 b1 : Y4) (i5 : Int) : zz63_R4 N N (zz63_K4 N) a0 b1 i5 = zz63_F4 N a0 b1 i5 :=
  have h : zz63_X4 (zz63_k4 N) = (zz63_a4) := zz63_after4 N
  ((iter_ex (fun st => by kernel_rfl) (fun st => by kernel_rfl)).trans (zz63_iter4 N (zz63_k4 N) (fun j st => (zz63_K4 N) (.exit j) st) N a0 b1 i5)).trans (congrArg (fun k => zz63_l4 N k N a0 b1 i5) h)
theorem run0_zz63 (N : Nat) (x : (S_zz63).a.den) : runF (A_zz63) N Try.f33 S_zz63 x = (zz63_s (zz63_R4 N N (zz63_K4 N)) x.1 x.2.1) := by kernel_rfl
theorem run_zz63 (N : Nat) (x : (S_zz63).a.den) : runF (A_zz63) N Try.f33 S_zz63 x = zz63 N x.1 x.2.1 := by
  refine (run0_zz63 N x).trans ?_
  rw [(funext fun a0 => (funext fun b1 => (funext fun i5 => zz63_in4 N a0 b1 i5)))]
  rfl
theorem fn_zz63 : FnOk Try.prog 33 := ⟨_, Try.func33, by kernel_rfl, by kernel_rfl⟩
theorem good_zz63 : Gx.Good Try.prog 33 S_zz63 := good_of_run Try.func33 (of_decide_eq_true (by kernel_rfl)) fun x r h => ⟨A_zz63, big, mkCfg_ok tabOk, mkCfg_sigs (show SigsOk Try.prog [] from trivial), (run_zz63 big x).trans h⟩

/-! zz64 -/
def zz64_b4 (rec : Y3 → Y3 → Int → Z0) (k : Z0) (a0 b1 : Y3) (i5 : Int) : Z0 :=
  cond (decide (i5 < (a0.length : Int)))
  ((atI a0 i5).bind fun xq1 =>
  (atI b1 i5).bind fun xq2 =>
  (zz63 big xq1 xq2).bind fun rq3 =>
  cond (!rq3.1)
  (some (false, (())))
  (rec a0 b1 (IntKind.i64.wrap (i5 + (1 : Int)))))
  (k)
def zz64_a4 : Z0 :=
  some (true, (()))
def zz64_s (L4 : Y3 → Y3 → Int → Z0) (a_0 b_1 : Y3) : Z0 :=
  cond (decide ((a_0.length : Int) ≠ (b_1.length : Int)))
  (some (false, (())))
  (L4 a_0 b_1 (0 : Int))
def zz64_l4 (N : Nat) (k : Z0) : Nat → Y3 → Y3 → Int → Z0
  | 0, _, _, _ => none
  | m + 1, a0, b1, i5 => zz64_b4 (zz64_l4 N k m) k a0 b1 i5
def zz64_F4 (N : Nat) (a0 b1 : Y3) (i5 : Int) : Z0 := zz64_l4 N (zz64_a4) N a0 b1 i5
def zz64 (N : Nat) (a_0 b_1 : Y3) : Z0 := zz64_s (zz64_F4 N) a_0 b_1
def S_zz64 : Sig := { a := (.pair (.sl (.sl I)) (.pair (.sl (.sl I)) .unit)), md := [0, 0], mf := [], m := .unit, r := .bool, rf := .i, f := fun x => zz64 big x.1 x.2.1 }
def A_zz64 : Cfg := mkCfg tab [(33, S_zz63)] [(8, [.as (.sl (.sl I)) .i, .as (.sl (.sl I)) .i, .drop, .drop, .drop, .as I .i]), (17, [])]
noncomputable def zz64_R4 (N n : Nat) (K : Ex → St → Z0) (a0 b1 : Y3) (i5 : Int) : Z0 := iter ((A_zz64).shape 8) (run (A_zz64) N (codeAt Try.f11 [1, 1, 0, 1, 0, 0])) n ([.val (.sl (.sl I)) .i a0, .val (.sl (.sl I)) .i b1, .u, .u, .u, .val I .i i5] ++ List.replicate 21 .u) K
noncomputable abbrev zz64_z : Ex → St → Z0 := finish (A_zz64) S_zz64 Try.f11.results.toList
noncomputable abbrev zz64_X4 (kX : St → Z0) : Z0 := kX ([] ++ List.replicate 27 .u)
noncomputable abbrev zz64_E4 (kX : St → Z0) (kO : Nat → St → Z0) : Ex → St → Z0 := exK zz64_z 0 ((A_zz64).shape 17) kX kO
theorem zz64_step4 (N m : Nat) (kX : St → Z0) (kO : Nat → St → Z0) (a0 b1 : Y3) (i5 : Int) : zz64_R4 N (m + 1) (zz64_E4 kX kO) a0 b1 i5 = zz64_b4 (zz64_R4 N m (zz64_E4 kX kO)) (zz64_X4 kX) a0 b1 i5 := by kernel_rfl
theorem zz64_iter4 (N : Nat) (kX : St → Z0) (kO : Nat → St → Z0) : ∀ (n : Nat) (a0 b1 : Y3) (i5 : Int), zz64_R4 N n (zz64_E4 kX kO) a0 b1 i5 = zz64_l4 N (zz64_X4 kX) n a0 b1 i5
  | 0, _, _, _ => rfl
  | m + 1, a0, b1, i5 => by
    have hrec : zz64_R4 N m (zz64_E4 kX kO) = (zz64_l4 N (zz64_X4 kX) m) := (funext fun a0 => (funext fun b1 => (funext fun i5 => zz64_iter4 N kX kO m a0 b1 i5)))
    refine (zz64_step4 N m kX kO a0 b1 i5).trans ?_
    rw [hrec]
    rfl
noncomputable abbrev zz64_K4 (N : Nat) : Ex → St → Z0 := (blockK 0 (seqK ((A_zz64).shape 17) (run (A_zz64) N (codeAt Try.f11 [1, 1, 1])) zz64_z))
noncomputable abbrev zz64_k4 (N : Nat) : St → Z0 := fun st' => run (A_zz64) N (codeAt Try.f11 [1, 1, 1]) st' zz64_z
theorem zz64_after4 (N : Nat) : zz64_X4 (zz64_k4 N) = zz64_a4 := by kernel_rfl
theorem zz64_in4 (N : Nat) (a0 b1 : Y3) (i5 : Int) : zz64_R4 N N (zz64_K4 N) a0 b1 i5 = zz64_F4 N a0 b1 i5 :=
  have h : zz64_X4 (zz64_k4 N) = (zz64_a4) := zz64_after4 N
  ((iter_ex (fun st => by kernel_rfl) (fun st => by kernel_rfl)).trans (zz64_iter4 N (zz64_k4 N) (fun j st => (zz64_K4 N) (.exit j) st) N a0 b1 i5)).trans (congrArg (fun k => zz64_l4 N k N a0 b1 i5) h)
theorem run0_zz64 (N : Nat) (x : (S_zz64).a.den) : runF (A_zz64) N Try.f11 S_zz64 x = (zz64_s (zz64_R4 N N (zz64_K4 N)) x.1 x.2.1) := by kernel_rfl
theorem run_zz64 (N : Nat) (x : (S_zz64).a.den) : runF (A_zz64) N Try.f11 S_zz64 x = zz64 N x.1 x.2.1 := by
  refine (run0_zz64 N x).trans ?_
  rw [(funext fun a0 => (funext fun b1 => (funext fun i5 => zz64_in4 N a0 b1 i5)))]
  rfl
theorem fn_zz64 : FnOk Try.prog 11 := ⟨_, Try.func11, by kernel_rfl, by kernel_rfl⟩
theorem good_zz64 : Gx.Good Try.prog 11 S_zz64 := good_of_run Try.func11 (of_decide_eq_true (by kernel_rfl)) fun x r h => ⟨A_zz64, big, mkCfg_ok tabOk, mkCfg_sigs (show SigsOk Try.prog [(33, S_zz63)] from ⟨⟨fn_zz63, good_zz63⟩, trivial⟩), (run_zz64 big x).trans h⟩

/-! zz65 -/
def zz65_s (a_0 b_1 : Y2) : Z0 :=
  (zz64 big a_0.1 b_1.1).bind fun rq1 =>
  cond (!rq1.1)
  (some (false, (())))
  (some (true, (())))
def zz65 (a_0 b_1 : Y2) : Z0 := zz65_s a_0 b_1
def S_zz65 : Sig := { a := (.pair (.pair (.sl (.sl I)) .unit) (.pair (.pair (.sl (.sl I)) .unit) .unit)), md := [0, 0], mf := [], m := .unit, r := .bool, rf := .i, f := fun x => zz65 x.1 x.2.1 }
def A_zz65 : Cfg := mkCfg tab [(11, S_zz64)] []
theorem run_zz65 (N : Nat) (x : (S_zz65).a.den) : runF (A_zz65) N Try.f12 S_zz65 x = zz65 x.1 x.2.1 := by kernel_rfl
theorem fn_zz65 : FnOk Try.prog 12 := ⟨_, Try.func12, by kernel_rfl, by kernel_rfl⟩
theorem good_zz65 : Gx.Good Try.prog 12 S_zz65 := good_of_run Try.func12 (of_decide_eq_true (by kernel_rfl)) fun x r h => ⟨A_zz65, big, mkCfg_ok tabOk, mkCfg_sigs (show SigsOk Try.prog [(11, S_zz64)] from ⟨⟨fn_zz64, good_zz64⟩, trivial⟩), (run_zz65 big x).trans h⟩

/-! zz66 -/
def zz66_b2 (rec : Y4 → Int → Int → Option Y6) (k : Y4 → Int → Option Y6) (a0 : Y4) (k1 i5 : Int) : Option Y6 :=
  cond (decide (i5 < (a0.length : Int)))
  ((atI a0 i5).bind fun _ =>
  (a0[i5.toNat]?).bind fun xq1 =>
  rec (a0.set i5.toNat k1) (IntKind.i64.wrap (k1 + (1 : Int))) (IntKind.i64.wrap (i5 + (1 : Int))))
  (k a0 k1)
def zz66_a2 (a0 : Y4) (k1 : Int) : Option Y6 :=
  some (k1, (a0, ()))
def zz66_s (L2 : Y4 → Int → Int → Option Y6) (a_0 : Y4) (k_1 : Int) : Option Y6 :=
  L2 a_0 k_1 (0 : Int)
def zz66_l2 (N : Nat) (k : Y4 → Int → Option Y6) : Nat → Y4 → Int → Int → Option Y6
  | 0, _, _, _ => none
  | m + 1, a0, k1, i5 => zz66_b2 (zz66_l2 N k m) k a0 k1 i5
def zz66_F2 (N : Nat) (a0 : Y4) (k1 i5 : Int) : Option Y6 := zz66_l2 N (zz66_a2) N a0 k1 i5
def zz66 (N : Nat) (a_0 : Y4) (k_1 : Int) : Option Y6 := zz66_s (zz66_F2 N) a_0 k_1
def S_zz66 : Sig := { a := (.pair (.sl I) (.pair I .unit)), md := [1, 0], mf := [(.o .i)], m := (.pair (.sl I) .unit), r := I, rf := .i, f := fun x => zz66 big x.1 x.2.1 }
def A_zz66 : Cfg := mkCfg tab [] [(4, [.as (.sl I) (.o .i), .as I .i, .drop, .drop, .drop, .as I .i]), (13, [.as (.sl I) (.o .i), .as I .i])]
noncomputable def zz66_R2 (N n : Nat) (K : Ex → St → Option Y6) (a0 : Y4) (k1 i5 : Int) : Option Y6 := iter ((A_zz66).shape 4) (run (A_zz66) N (codeAt Try.f34 [1, 0, 1, 0, 0])) n ([.val (.sl I) (.o .i) a0, .val I .i k1, .u, .u, .u, .val I .i i5] ++ List.replicate 13 .u) K
noncomputable abbrev zz66_z : Ex → St → Option Y6 := finish (A_zz66) S_zz66 Try.f34.results.toList
noncomputable abbrev zz66_X2 (kX : St → Option Y6) : Y4 → Int → Option Y6 := fun (a0 : Y4) (k1 : Int) => kX ([.val (.sl I) (.o .i) a0, .val I .i k1] ++ List.replicate 17 .u)
noncomputable abbrev zz66_E2 (kX : St → Option Y6) (kO : Nat → St → Option Y6) : Ex → St → Option Y6 := exK zz66_z 0 ((A_zz66).shape 13) kX kO
theorem zz66_step2 (N m : Nat) (kX : St → Option Y6) (kO : Nat → St → Option Y6) (a0 : Y4) (k1 i5 : Int) : zz66_R2 N (m + 1) (zz66_E2 kX kO) a0 k1 i5 = zz66_b2 (zz66_R2 N m (zz66_E2 kX kO)) (zz66_X2 kX) a0 k1 i5 := by kernel_rfl
theorem zz66_iter2 (N : Nat) (kX : St → Option Y6) (kO : Nat → St → Option Y6) : ∀ (n : Nat) (a0 : Y4) (k1 i5 : Int), zz66_R2 N n (zz66_E2 kX kO) a0 k1 i5 = zz66_l2 N (zz66_X2 kX) n a0 k1 i5
  | 0, _, _, _ => rfl
  | m + 1, a0, k1, i5 => by
    have hrec : zz66_R2 N m (zz66_E2 kX kO) = (zz66_l2 N (zz66_X2 kX) m) := (funext fun a0 => (funext fun k1 => (funext fun i5 => zz66_iter2 N kX kO m a0 k1 i5)))
    refine (zz66_step2 N m kX kO a0 k1 i5).trans ?_
    rw [hrec]
    rfl
noncomputable abbrev zz66_K2 (N : Nat) : Ex → St → Option Y6 := (blockK 0 (seqK ((A_zz66).shape 13) (run (A_zz66) N (codeAt Try.f34 [1, 1])) zz66_z))
noncomputable abbrev zz66_k2 (N : Nat) : St → Option Y6 := fun st' => run (A_zz66) N (codeAt Try.f34 [1, 1]) st' zz66_z
theorem zz66_after2 (N : Nat) (a0 : Y4) (k1 : Int) : zz66_X2 (zz66_k2 N) a0 k1 = zz66_a2 a0 k1 := by kernel_rfl
theorem zz66_in2 (N : Nat) (a0 : Y4) (k1 i5 : Int) : zz66_R2 N N (zz66_K2 N) a0 k1 i5 = zz66_F2 N a0 k1 i5 :=
  have h : zz66_X2 (zz66_k2 N) = (zz66_a2) := (funext fun a0 => (funext fun k1 => zz66_after2 N a0 k1))
  ((iter_ex (fun st => by kernel_rfl) (fun st => by kernel_rfl)).trans (zz66_iter2 N (zz66_k2 N) (fun j st => (zz66_K2 N) (.exit j) st) N a0 k1 i5)).trans (congrArg (fun k => zz66_l2 N k N a0 k1 i5) h)
theorem run0_zz66 (N : Nat) (x : (S_zz66).a.den) : runF (A_zz66) N Try.f34 S_zz66 x = (zz66_s (zz66_R2 N N (zz66_K2 N)) x.1 x.2.1) := by kernel_rfl
theorem run_zz66 (N : Nat) (x : (S_zz66).a.den) : runF (A_zz66) N Try.f34 S_zz66 x = zz66 N x.1 x.2.1 := by
  refine (run0_zz66 N x).trans ?_
  rw [(funext fun a0 => (funext fun k1 => (funext fun i5 => zz66_in2 N a0 k1 i5)))]
  rfl
theorem fn_zz66 : FnOk Try.prog 34 := ⟨_, Try.func34, by kernel_rfl, by kernel_rfl⟩
theorem good_zz66 : Gx.Good Try.prog 34 S_zz66 := good_of_run Try.func34 (of_decide_eq_true (by kernel_rfl)) fun x r h => ⟨A_zz66, big, mkCfg_ok tabOk, mkCfg_sigs (show SigsOk Try.prog [] from trivial), (run_zz66 big x).trans h⟩

/-! zz67 -/
def zz67_b2 (rec : Y3 → Int → Int → Option (Int × Y2)) (k : Y3 → Int → Option (Int × Y2)) (a0 : Y3) (k1 i5 : Int) : Option (Int × Y2) :=
  cond (decide (i5 < (a0.length : Int)))
  ((atI a0 i5).bind fun _ =>
  (a0[i5.toNat]?).bind fun xq1 =>
  (a0[i5.toNat]?).bind fun xq2 =>
  (zz66 big xq2 k1).bind fun rq3 =>
  (a0[i5.toNat]?).bind fun xq4 =>
  (a0[i5.toNat]?).bind fun xq5 =>
  rec (a0.set i5.toNat rq3.2.1) rq3.1 (IntKind.i64.wrap (i5 + (1 : Int))))
  (k a0 k1)
def zz67_a2 (a0 : Y3) (k1 : Int) : Option (Int × Y2) :=
  some (k1, (a0, ()))
def zz67_s (L2 : Y3 → Int → Int → Option (Int × Y2)) (a_0 : Y3) (k_1 : Int) : Option (Int × Y2) :=
  L2 a_0 k_1 (0 : Int)
def zz67_l2 (N : Nat) (k : Y3 → Int → Option (Int × Y2)) : Nat → Y3 → Int → Int → Option (Int × Y2)
  | 0, _, _, _ => none
  | m + 1, a0, k1, i5 => zz67_b2 (zz67_l2 N k m) k a0 k1 i5
def zz67_F2 (N : Nat) (a0 : Y3) (k1 i5 : Int) : Option (Int × Y2) := zz67_l2 N (zz67_a2) N a0 k1 i5
def zz67 (N : Nat) (a_0 : Y3) (k_1 : Int) : Option (Int × Y2) := zz67_s (zz67_F2 N) a_0 k_1
def S_zz67 : Sig := { a := (.pair (.sl (.sl I)) (.pair I .unit)), md := [1, 0], mf := [(.o (.o .i))], m := (.pair (.sl (.sl I)) .unit), r := I, rf := .i, f := fun x => zz67 big x.1 x.2.1 }
def A_zz67 : Cfg := mkCfg tab [(34, S_zz66)] [(4, [.as (.sl (.sl I)) (.o (.o .i)), .as I .i, .drop, .drop, .drop, .as I .i]), (11, [.as (.sl (.sl I)) (.o (.o .i)), .as I .i])]
noncomputable def zz67_R2 (N n : Nat) (K : Ex → St → Option (Int × Y2)) (a0 : Y3) (k1 i5 : Int) : Option (Int × Y2) := iter ((A_zz67).shape 4) (run (A_zz67) N (codeAt Try.f14 [1, 0, 1, 0, 0])) n ([.val (.sl (.sl I)) (.o (.o .i)) a0, .val I .i k1, .u, .u, .u, .val I .i i5] ++ List.replicate 13 .u) K
noncomputable abbrev zz67_z : Ex → St → Option (Int × Y2) := finish (A_zz67) S_zz67 Try.f14.results.toList
noncomputable abbrev zz67_X2 (kX : St → Option (Int × Y2)) : Y3 → Int → Option (Int × Y2) := fun (a0 : Y3) (k1 : Int) => kX ([.val (.sl (.sl I)) (.o (.o .i)) a0, .val I .i k1] ++ List.replicate 17 .u)
noncomputable abbrev zz67_E2 (kX : St → Option (Int × Y2)) (kO : Nat → St → Option (Int × Y2)) : Ex → St → Option (Int × Y2) := exK zz67_z 0 ((A_zz67).shape 11) kX kO
theorem zz67_step2 (N m : Nat) (kX : St → Option (Int × Y2)) (kO : Nat → St → Option (Int × Y2)) (a0 : Y3) (k1 i5 : Int) : zz67_R2 N (m + 1) (zz67_E2 kX kO) a0 k1 i5 = zz67_b2 (zz67_R2 N m (zz67_E2 kX kO)) (zz67_X2 kX) a0 k1 i5 := by kernel_rfl
theorem zz67_iter2 (N : Nat) (kX : St → Option (Int × Y2)) (kO : Nat → St → Option (Int × Y2)) : ∀ (n : Nat) (a0 : Y3) (k1 i5 : Int), zz67_R2 N n (zz67_E2 kX kO) a0 k1 i5 = zz67_l2 N (zz67_X2 kX) n a0 k1 i5
  | 0, _, _, _ => rfl
  | m + 1, a0, k1, i5 => by
    have hrec : zz67_R2 N m (zz67_E2 kX kO) = (zz67_l2 N (zz67_X2 kX) m) := (funext fun a0 => (funext fun k1 => (funext fun i5 => zz67_iter2 N kX kO m a0 k1 i5)))
    refine (zz67_step2 N m kX kO a0 k1 i5).trans ?_
    rw [hrec]
    rfl
noncomputable abbrev zz67_K2 (N : Nat) : Ex → St → Option (Int × Y2) := (blockK 0 (seqK ((A_zz67).shape 11) (run (A_zz67) N (codeAt Try.f14 [1, 1])) zz67_z))
noncomputable abbrev zz67_k2 (N : Nat) : St → Option (Int × Y2) := fun st' => run (A_zz67) N (codeAt Try.f14 [1, 1]) st' zz67_z
theorem zz67_after2 (N : Nat) (a0 : Y3) (k1 : Int) : zz67_X2 (zz67_k2 N) a0 k1 = zz67_a2 a0 k1 := by kernel_rfl
theorem zz67_in2 (N : Nat) (a0 : Y3) (k1 i5 : Int) : zz67_R2 N N (zz67_K2 N) a0 k1 i5 = zz67_F2 N a0 k1 i5 :=
  have h : zz67_X2 (zz67_k2 N) = (zz67_a2) := (funext fun a0 => (funext fun k1 => zz67_after2 N a0 k1))
  ((iter_ex (fun st => by kernel_rfl) (fun st => by kernel_rfl)).trans (zz67_iter2 N (zz67_k2 N) (fun j st => (zz67_K2 N) (.exit j) st) N a0 k1 i5)).trans (congrArg (fun k => zz67_l2 N k N a0 k1 i5) h)
theorem run0_zz67 (N : Nat) (x : (S_zz67).a.den) : runF (A_zz67) N Try.f14 S_zz67 x = (zz67_s (zz67_R2 N N (zz67_K2 N)) x.1 x.2.1) := by kernel_rfl
theorem run_zz67 (N : Nat) (x : (S_zz67).a.den) : runF (A_zz67) N Try.f14 S_zz67 x = zz67 N x.1 x.2.1 := by
  refine (run0_zz67 N x).trans ?_
  rw [(funext fun a0 => (funext fun k1 => (funext fun i5 => zz67_in2 N a0 k1 i5)))]
  rfl
theorem fn_zz67 : FnOk Try.prog 14 := ⟨_, Try.func14, by kernel_rfl, by kernel_rfl⟩
theorem good_zz67 : Gx.Good Try.prog 14 S_zz67 := good_of_run Try.func14 (of_decide_eq_true (by kernel_rfl)) fun x r h => ⟨A_zz67, big, mkCfg_ok tabOk, mkCfg_sigs (show SigsOk Try.prog [(34, S_zz66)] from ⟨⟨fn_zz66, good_zz66⟩, trivial⟩), (run_zz67 big x).trans h⟩

/-! zz68 -/
def zz68 (a_0 : Y2) (k_1 : Int) : Option (Int × (Y2 × Unit)) := (zz67 big a_0.1 k_1).bind fun r => some (r.1, ((r.2.1, ()), ()))
def S_zz68 : Sig := { a := (.pair (.pair (.sl (.sl I)) .unit) (.pair I .unit)), md := [1, 0], mf := [(.p (.o (.o .i)) .i)], m := (.pair (.pair (.sl (.sl I)) .unit) .unit), r := I, rf := .i, f := fun x => zz68 x.1 x.2.1 }
theorem fn_zz68 : FnOk Try.prog 13 := ⟨_, Try.func13, by kernel_rfl, by kernel_rfl⟩
theorem good_zz68 : Gx.Good Try.prog 13 S_zz68   := good_bx1 (A := mkCfg tab [] []) (T := 28) (TS := 22) (mkCfg_ok tabOk) Try.func13 (by kernel_rfl) (by kernel_rfl) fn_zz67 (by kernel_rfl) (by kernel_rfl) good_zz67

/-! zz69 -/
def zz69_b2 (rec : Y4 → Int → Int → Z3) (k : Int → Z3) (a0 : Y4) (k1 i5 : Int) : Z3 :=
  cond (decide (i5 < (a0.length : Int)))
  ((atI a0 i5).bind fun xq1 =>
  cond (decide (xq1 ≠ k1))
  (some ((-1 : Int), (())))
  (rec a0 (IntKind.i64.wrap (k1 + (1 : Int))) (IntKind.i64.wrap (i5 + (1 : Int)))))
  (k k1)
def zz69_a2 (k1 : Int) : Z3 :=
  some (k1, (()))
def zz69_s (L2 : Y4 → Int → Int → Z3) (a_0 : Y4) (k_1 : Int) : Z3 :=
  L2 a_0 k_1 (0 : Int)
def zz69_l2 (N : Nat) (k : Int → Z3) : Nat → Y4 → Int → Int → Z3
  | 0, _, _, _ => none
  | m + 1, a0, k1, i5 => zz69_b2 (zz69_l2 N k m) k a0 k1 i5
def zz69_F2 (N : Nat) (a0 : Y4) (k1 i5 : Int) : Z3 := zz69_l2 N (zz69_a2) N a0 k1 i5
def zz69 (N : Nat) (a_0 : Y4) (k_1 : Int) : Z3 := zz69_s (zz69_F2 N) a_0 k_1
def S_zz69 : Sig := { a := (.pair (.sl I) (.pair I .unit)), md := [0, 0], mf := [], m := .unit, r := I, rf := .i, f := fun x => zz69 big x.1 x.2.1 }
def A_zz69 : Cfg := mkCfg tab [] [(4, [.as (.sl I) .i, .as I .i, .drop, .drop, .drop, .as I .i]), (15, [.drop, .as I .i])]
noncomputable def zz69_R2 (N n : Nat) (K : Ex → St → Z3) (a0 : Y4) (k1 i5 : Int) : Z3 := iter ((A_zz69).shape 4) (run (A_zz69) N (codeAt Try.f35 [1, 0, 1, 0, 0])) n ([.val (.sl I) .i a0, .val I .i k1, .u, .u, .u, .val I .i i5] ++ List.replicate 15 .u) K
noncomputable abbrev zz69_z : Ex → St → Z3 := finish (A_zz69) S_zz69 Try.f35.results.toList
noncomputable abbrev zz69_X2 (kX : St → Z3) : Int → Z3 := fun (k1 : Int) => kX ([.u, .val I .i k1] ++ List.replicate 19 .u)
noncomputable abbrev zz69_E2 (kX : St → Z3) (kO : Nat → St → Z3) : Ex → St → Z3 := exK zz69_z 0 ((A_zz69).shape 15) kX kO
theorem zz69_step2 (N m : Nat) (kX : St → Z3) (kO : Nat → St → Z3) (a0 : Y4) (k1 i5 : Int) : zz69_R2 N (m + 1) (zz69_E2 kX kO) a0 k1 i5 = zz69_b2 (zz69_R2 N m (zz69_E2 kX kO)) (zz69_X2 kX) a0 k1 i5 := by kernel_rfl
theorem zz69_iter2 (N : Nat) (kX : St → Z3) (kO : Nat → St → Z3) : ∀ (n : Nat) (a0 : Y4) (k1 i5 : Int), zz69_R2 N n (zz69_E2 kX kO) a0 k1 i5 = zz69_l2 N (zz69_X2 kX) n a0 k1 i5
  | 0, _, _, _ => rfl
  | m + 1, a0, k1, i5 => by
    have hrec : zz69_R2 N m (zz69_E2 kX kO) = (zz69_l2 N (zz69_X2 kX) m) := (funext fun a0 => (funext fun k1 => (funext fun i5 => zz69_iter2 N kX kO m a0 k1 i5)))
    refine (zz69_step2 N m kX kO a0 k1 i5).trans ?_
    rw [hrec]
    rfl
noncomputable abbrev zz69_K2 (N : Nat) : Ex → St → Z3 := (blockK 0 (seqK ((A_zz69).shape 15) (run (A_zz69) N (codeAt Try.f35 [1, 1])) zz69_z))
noncomputable abbrev zz69_k2 (N : Nat) : St → Z3 := fun st' => run (A_zz69) N (codeAt Try.f35 [1, 1]) st' zz69_z
theorem zz69_after2 (N : Nat) (k1 : Int) : zz69_X2 (zz69_k2 N) k1 = zz69_a2 k1 := by kernel_rfl
theorem zz69_in2 (N : Nat) (a0 : Y4) (k1 i5 : Int) : zz69_R2 N N (zz69_K2 N) a0 k1 i5 = zz69_F2 N a0 k1 i5 :=
  have h : zz69_X2 (zz69_k2 N) = (zz69_a2) := (funext fun k1 => zz69_after2 N k1)
  ((iter_ex (fun st => by kernel_rfl) (fun st => by kernel_rfl)).trans (zz69_iter2 N (zz69_k2 N) (fun j st => (zz69_K2 N) (.exit j) st) N a0 k1 i5)).trans (congrArg (fun k => zz69_l2 N k N a0 k1 i5) h)
theorem run0_zz69 (N : Nat) (x : (S_zz69).a.den) : runF (A_zz69) N Try.f35 S_zz69 x = (zz69_s (zz69_R2 N N (zz69_K2 N)) x.1 x.2.1) := by kernel_rfl
theorem run_zz69 (N : Nat) (x : (S_zz69).a.den) : runF (A_zz69) N Try.f35 S_zz69 x = zz69 N x.1 x.2.1 := by
  refine (run0_zz69 N x).trans ?_
  rw [(funext fun a0 => (funext fun k1 => (funext fun i5 => zz69_in2 N a0 k1 i5)))]
  rfl
theorem fn_zz69 : FnOk Try.prog 35 := ⟨_, Try.func35, by kernel_rfl, by kernel_rfl⟩
theorem good_zz69 : Gx.Good Try.prog 35 S_zz69 := good_of_run Try.func35 (of_decide_eq_true (by kernel_rfl)) fun x r h => ⟨A_zz69, big, mkCfg_ok tabOk, mkCfg_sigs (show SigsOk Try.prog [] from trivial), (run_zz69 big x).trans h⟩

/-! zz70 -/
def zz70_b2 (rec : Y3 → Int → Int → Z3) (k : Int → Z3) (a0 : Y3) (k1 i5 : Int) : Z3 :=
  cond (decide (i5 < (a0.length : Int)))
  ((atI a0 i5).bind fun xq1 =>
  (zz69 big xq1 k1).bind fun rq2 =>
  cond (decide (rq2.1 < (0 : Int)))
  (some ((-1 : Int), (())))
  (rec a0 rq2.1 (IntKind.i64.wrap (i5 + (1 : Int)))))
  (k k1)
def zz70_a2 (k1 : Int) : Z3 :=
  some (k1, (()))
def zz70_s (L2 : Y3 → Int → Int → Z3) (a_0 : Y3) (k_1 : Int) : Z3 :=
  L2 a_0 k_1 (0 : Int)
def zz70_l2 (N : Nat) (k : Int → Z3) : Nat → Y3 → Int → Int → Z3
  | 0, _, _, _ => none
  | m + 1, a0, k1, i5 => zz70_b2 (zz70_l2 N k m) k a0 k1 i5
def zz70_F2 (N : Nat) (a0 : Y3) (k1 i5 : Int) : Z3 := zz70_l2 N (zz70_a2) N a0 k1 i5
def zz70 (N : Nat) (a_0 : Y3) (k_1 : Int) : Z3 := zz70_s (zz70_F2 N) a_0 k_1
def S_zz70 : Sig := { a := (.pair (.sl (.sl I)) (.pair I .unit)), md := [0, 0], mf := [], m := .unit, r := I, rf := .i, f := fun x => zz70 big x.1 x.2.1 }
def A_zz70 : Cfg := mkCfg tab [(35, S_zz69)] [(4, [.as (.sl (.sl I)) .i, .as I .i, .drop, .drop, .drop, .as I .i]), (15, [.drop, .as I .i])]
noncomputable def zz70_R2 (N n : Nat) (K : Ex → St → Z3) (a0 : Y3) (k1 i5 : Int) : Z3 := iter ((A_zz70).shape 4) (run (A_zz70) N (codeAt Try.f15 [1, 0, 1, 0, 0])) n ([.val (.sl (.sl I)) .i a0, .val I .i k1, .u, .u, .u, .val I .i i5] ++ List.replicate 15 .u) K
noncomputable abbrev zz70_z : Ex → St → Z3 := finish (A_zz70) S_zz70 Try.f15.results.toList
noncomputable abbrev zz70_X2 (kX : St → Z3) : Int → Z3 := fun (k1 : Int) => kX ([.u, .val I .i k1] ++ List.replicate 19 .u)
noncomputable abbrev zz70_E2 (kX : St → Z3) (kO : Nat → St → Z3) : Ex → St → Z3 := exK zz70_z 0 ((A_zz70).shape 15) kX kO
theorem zz70_step2 (N m : Nat) (kX : St → Z3) (kO : Nat → St → Z3) (a0 : Y3) (k1 i5 : Int) : zz70_R2 N (m + 1) (zz70_E2 kX kO) a0 k1 i5 = zz70_b2 (zz70_R2 N m (zz70_E2 kX kO)) (zz70_X2 kX) a0 k1 i5 := by kernel_rfl
theorem zz70_iter2 (N : Nat) (kX : St → Z3) (kO : Nat → St → Z3) : ∀ (n : Nat) (a0 : Y3) (k1 i5 : Int), zz70_R2 N n (zz70_E2 kX kO) a0 k1 i5 = zz70_l2 N (zz70_X2 kX) n a0 k1 i5
  | 0, _, _, _ => rfl
  | m + 1, a0, k1, i5 => by
    have hrec : zz70_R2 N m (zz70_E2 kX kO) = (zz70_l2 N (zz70_X2 kX) m) := (funext fun a0 => (funext fun k1 => (funext fun i5 => zz70_iter2 N kX kO m a0 k1 i5)))
    refine (zz70_step2 N m kX kO a0 k1 i5).trans ?_
    rw [hrec]
    rfl
noncomputable abbrev zz70_K2 (N : Nat) : Ex → St → Z3 := (blockK 0 (seqK ((A_zz70).shape 15) (run (A_zz70) N (codeAt Try.f15 [1, 1])) zz70_z))
noncomputable abbrev zz70_k2 (N : Nat) : St → Z3 := fun st' => run (A_zz70) N (codeAt Try.f15 [1, 1]) st' zz70_z
theorem zz70_after2 (N : Nat) (k1 : Int) : zz70_X2 (zz70_k2 N) k1 = zz70_a2 k1 := by kernel_rfl
theorem zz70_in2 (N : Nat) (a0 : Y3) (k1 i5 : Int) : zz70_R2 N N (zz70_K2 N) a0 k1 i5 = zz70_F2 N a0 k1 i5 :=
  have h : zz70_X2 (zz70_k2 N) = (zz70_a2) := (funext fun k1 => zz70_after2 N k1)
  ((iter_ex (fun st => by kernel_rfl) (fun st => by kernel_rfl)).trans (zz70_iter2 N (zz70_k2 N) (fun j st => (zz70_K2 N) (.exit j) st) N a0 k1 i5)).trans (congrArg (fun k => zz70_l2 N k N a0 k1 i5) h)
theorem run0_zz70 (N : Nat) (x : (S_zz70).a.den) : runF (A_zz70) N Try.f15 S_zz70 x = (zz70_s (zz70_R2 N N (zz70_K2 N)) x.1 x.2.1) := by kernel_rfl
theorem run_zz70 (N : Nat) (x : (S_zz70).a.den) : runF (A_zz70) N Try.f15 S_zz70 x = zz70 N x.1 x.2.1 := by
  refine (run0_zz70 N x).trans ?_
  rw [(funext fun a0 => (funext fun k1 => (funext fun i5 => zz70_in2 N a0 k1 i5)))]
  rfl
theorem fn_zz70 : FnOk Try.prog 15 := ⟨_, Try.func15, by kernel_rfl, by kernel_rfl⟩
theorem good_zz70 : Gx.Good Try.prog 15 S_zz70 := good_of_run Try.func15 (of_decide_eq_true (by kernel_rfl)) fun x r h => ⟨A_zz70, big, mkCfg_ok tabOk, mkCfg_sigs (show SigsOk Try.prog [(35, S_zz69)] from ⟨⟨fn_zz69, good_zz69⟩, trivial⟩), (run_zz70 big x).trans h⟩

/-! laws_FnExactLatticeCongruences -/
def laws_FnExactLatticeCongruences_s (aP_0 : Y2) : Z0 :=
  (zz2 aP_0 (1048576 : Int)).bind fun rq1 =>
  cond (decide (rq1.1 < (0 : Int)))
  (some (true, (())))
  ((zz5 aP_0).bind fun rq2 =>
  (zz34 rq2.1).bind fun rq3 =>
  (zz5 aP_0).bind fun rq4 =>
  (zz62 rq4.1).bind fun rq5 =>
  (zz64 big rq5.1.1 rq3.1.1).bind fun rq6 =>
  cond (!rq6.1)
  (some (false, (())))
  (cond (((((), rq5.1.2).2).1) != rq3.1.2.1)
  (some (false, (())))
  ((zz5 aP_0).bind fun rq7 =>
  (zz65 rq4.1 rq7.1).bind fun rq8 =>
  cond (!rq8.1)
  (some (false, (())))
  ((zz68 rq4.1 (1 : Int)).bind fun rq9 =>
  cond (decide (rq9.1 < (0 : Int)))
  (some (false, (())))
  ((zz64 big rq5.1.1 rq3.1.1).bind fun rq10 =>
  cond (!rq10.1)
  (some (false, (())))
  (cond (((((), rq5.1.2).2).1) != rq3.1.2.1)
  (some (false, (())))
  ((zz67 big rq5.1.1 (1 : Int)).bind fun rq11 =>
  (zz70 big rq11.2.1 (1 : Int)).bind fun rq12 =>
  cond (decide (rq12.1 < (0 : Int)))
  (some (false, (())))
  (cond (decide (rq12.1 ≠ rq11.1))
  (some (false, (())))
  ((zz5 aP_0).bind fun rq13 =>
  (zz62 rq13.1).bind fun rq14 =>
  (zz64 big rq14.1.1 rq3.1.1).bind fun rq15 =>
  cond (!rq15.1)
  (some (false, (())))
  (cond (((((), rq14.1.2).2).1) != rq3.1.2.1)
  (some (false, (())))
  ((zz70 big rq11.2.1 (1 : Int)).bind fun rq16 =>
  cond (decide (rq16.1 < (0 : Int)))
  (some (false, (())))
  (cond (decide (rq16.1 ≠ rq11.1))
  (some (false, (())))
  (some (true, (())))))))))))))))
def laws_FnExactLatticeCongruences (aP_0 : Y2) : Z0 := laws_FnExactLatticeCongruences_s aP_0
def S_laws_FnExactLatticeCongruences : Sig := { a := (.pair (.pair (.sl (.sl I)) .unit) .unit), md := [0], mf := [], m := .unit, r := .bool, rf := .i, f := fun x => laws_FnExactLatticeCongruences x.1 }
def A_laws_FnExactLatticeCongruences : Cfg := mkCfg tab [(7, S_zz2), (9, S_zz5), (20, S_zz34), (21, S_zz62), (11, S_zz64), (12, S_zz65), (13, S_zz68), (14, S_zz67), (15, S_zz70)] []
theorem run_laws_FnExactLatticeCongruences (N : Nat) (x : (S_laws_FnExactLatticeCongruences).a.den) : runF (A_laws_FnExactLatticeCongruences) N Try.f6 S_laws_FnExactLatticeCongruences x = laws_FnExactLatticeCongruences x.1 := by kernel_rfl
theorem fn_laws_FnExactLatticeCongruences : FnOk Try.prog 6 := ⟨_, Try.func6, by kernel_rfl, by kernel_rfl⟩
theorem good_laws_FnExactLatticeCongruences : Gx.Good Try.prog 6 S_laws_FnExactLatticeCongruences := good_of_run Try.func6 (of_decide_eq_true (by kernel_rfl)) fun x r h => ⟨A_laws_FnExactLatticeCongruences, big, mkCfg_ok tabOk, mkCfg_sigs (show SigsOk Try.prog [(7, S_zz2), (9, S_zz5), (20, S_zz34), (21, S_zz62), (11, S_zz64), (12, S_zz65), (13, S_zz68), (14, S_zz67), (15, S_zz70)] from ⟨⟨fn_zz2, good_zz2⟩, ⟨fn_zz5, good_zz5⟩, ⟨fn_zz34, good_zz34⟩, ⟨fn_zz62, good_zz62⟩, ⟨fn_zz64, good_zz64⟩, ⟨fn_zz65, good_zz65⟩, ⟨fn_zz68, good_zz68⟩, ⟨fn_zz67, good_zz67⟩, ⟨fn_zz70, good_zz70⟩, trivial⟩), (run_laws_FnExactLatticeCongruences big x).trans h⟩

/-! zz71 -/
def zz71_s (p_0 : Y2) : Option ((Bool × (Bool × Unit)) × Unit) :=
  (zz15 p_0).bind fun rq1 =>
  cond (!rq1.1)
  (some ((false, false, ()), (())))
  ((zz16 big p_0).bind fun rq2 =>
  (zz33 rq2.1).bind fun rq3 =>
  some ((decide ((rq3.1.length : Int) = (2 : Int)), true, ()), (())))
def zz71 (p_0 : Y2) : Option ((Bool × (Bool × Unit)) × Unit) := zz71_s p_0
def S_zz71 : Sig := { a := (.pair (.pair (.sl (.sl I)) .unit) .unit), md := [0], mf := [], m := .unit, r := (.tup (.pair .bool (.pair .bool .unit))), rf := .i, f := fun x => zz71 x.1 }
def A_zz71 : Cfg := mkCfg tab [(48, S_zz15), (50, S_zz16), (49, S_zz33)] []
theorem run_zz71 (N : Nat) (x : (S_zz71).a.den) : runF (A_zz71) N Try.f18 S_zz71 x = zz71 x.1 := by kernel_rfl
theorem fn_zz71 : FnOk Try.prog 18 := ⟨_, Try.func18, by kernel_rfl, by kernel_rfl⟩
theorem good_zz71 : Gx.Good Try.prog 18 S_zz71 := good_of_run Try.func18 (of_decide_eq_true (by kernel_rfl)) fun x r h => ⟨A_zz71, big, mkCfg_ok tabOk, mkCfg_sigs (show SigsOk Try.prog [(48, S_zz15), (50, S_zz16), (49, S_zz33)] from ⟨⟨fn_zz15, good_zz15⟩, ⟨fn_zz16, good_zz16⟩, ⟨fn_zz33, good_zz33⟩, trivial⟩), (run_zz71 big x).trans h⟩

/-! zz72 -/
def zz72_s (a_0 : Y7) : Option ((Bool × (Bool × Unit)) × Unit) :=
  (zz60 a_0).bind fun rq1 =>
  some ((decide ((rq1.1.1.length : Int) = (2 : Int)), (((), rq1.1.2).2).1, ()), (()))
def zz72 (a_0 : Y7) : Option ((Bool × (Bool × Unit)) × Unit) := zz72_s a_0
def S_zz72 : Sig := { a := (.pair (.pair I (.pair (.sl (.pair I (.pair (.sl I) .unit))) .unit)) .unit), md := [0], mf := [], m := .unit, r := (.tup (.pair .bool (.pair .bool .unit))), rf := .i, f := fun x => zz72 x.1 }
def A_zz72 : Cfg := mkCfg tab [(87, S_zz60)] []
theorem run_zz72 (N : Nat) (x : (S_zz72).a.den) : runF (A_zz72) N Try.f52 S_zz72 x = zz72 x.1 := by kernel_rfl
theorem fn_zz72 : FnOk Try.prog 52 := ⟨_, Try.func52, by kernel_rfl, by kernel_rfl⟩
theorem good_zz72 : Gx.Good Try.prog 52 S_zz72 := good_of_run Try.func52 (of_decide_eq_true (by kernel_rfl)) fun x r h => ⟨A_zz72, big, mkCfg_ok tabOk, mkCfg_sigs (show SigsOk Try.prog [(87, S_zz60)] from ⟨⟨fn_zz60, good_zz60⟩, trivial⟩), (run_zz72 big x).trans h⟩

/-! zz73 -/
def zz73_s (p_0 : Y2) : Option ((Bool × (Bool × Unit)) × Unit) :=
  (zz46 p_0).bind fun rq1 =>
  cond (!rq1.1.2.1)
  (some ((false, false, ()), (())))
  ((zz48 rq1.1.1).bind fun rq2 =>
  (zz72 rq2.1).bind fun rq3 =>
  some ((rq3.1.1, rq3.1.2.1, ()), (())))
def zz73 (p_0 : Y2) : Option ((Bool × (Bool × Unit)) × Unit) := zz73_s p_0
def S_zz73 : Sig := { a := (.pair (.pair (.sl (.sl I)) .unit) .unit), md := [0], mf := [], m := .unit, r := (.tup (.pair .bool (.pair .bool .unit))), rf := .i, f := fun x => zz73 x.1 }
def A_zz73 : Cfg := mkCfg tab [(51, S_zz46), (53, S_zz48), (52, S_zz72)] []
theorem run_zz73 (N : Nat) (x : (S_zz73).a.den) : runF (A_zz73) N Try.f19 S_zz73 x = zz73 x.1 := by kernel_rfl
theorem fn_zz73 : FnOk Try.prog 19 := ⟨_, Try.func19, by kernel_rfl, by kernel_rfl⟩
theorem good_zz73 : Gx.Good Try.prog 19 S_zz73 := good_of_run Try.func19 (of_decide_eq_true (by kernel_rfl)) fun x r h => ⟨A_zz73, big, mkCfg_ok tabOk, mkCfg_sigs (show SigsOk Try.prog [(51, S_zz46), (53, S_zz48), (52, S_zz72)] from ⟨⟨fn_zz46, good_zz46⟩, ⟨fn_zz48, good_zz48⟩, ⟨fn_zz72, good_zz72⟩, trivial⟩), (run_zz73 big x).trans h⟩

/-! laws_FnExactIsSimpleLattice -/
def laws_FnExactIsSimpleLattice_s (aP_0 : Y2) : Z0 :=
  (zz2 aP_0 (1048576 : Int)).bind fun rq1 =>
  cond (decide (rq1.1 < (0 : Int)))
  (some (true, (())))
  ((zz5 aP_0).bind fun rq2 =>
  (zz71 rq2.1).bind fun rq3 =>
  (zz5 aP_0).bind fun rq4 =>
  (zz73 rq4.1).bind fun rq5 =>
  cond (rq5.1.1 != rq3.1.1)
  (some (false, (())))
  (cond (rq5.1.2.1 != rq3.1.2.1)
  (some (false, (())))
  ((zz5 aP_0).bind fun rq6 =>
  (zz65 rq4.1 rq6.1).bind fun rq7 =>
  cond (!rq7.1)
  (some (false, (())))
  (some (true, (()))))))
def laws_FnExactIsSimpleLattice (aP_0 : Y2) : Z0 := laws_FnExactIsSimpleLattice_s aP_0
def S_laws_FnExactIsSimpleLattice : Sig := { a := (.pair (.pair (.sl (.sl I)) .unit) .unit), md := [0], mf := [], m := .unit, r := .bool, rf := .i, f := fun x => laws_FnExactIsSimpleLattice x.1 }
def A_laws_FnExactIsSimpleLattice : Cfg := mkCfg tab [(7, S_zz2), (9, S_zz5), (18, S_zz71), (19, S_zz73), (12, S_zz65)] []
theorem run_laws_FnExactIsSimpleLattice (N : Nat) (x : (S_laws_FnExactIsSimpleLattice).a.den) : runF (A_laws_FnExactIsSimpleLattice) N Try.f5 S_laws_FnExactIsSimpleLattice x = laws_FnExactIsSimpleLattice x.1 := by kernel_rfl
theorem fn_laws_FnExactIsSimpleLattice : FnOk Try.prog 5 := ⟨_, Try.func5, by kernel_rfl, by kernel_rfl⟩
theorem good_laws_FnExactIsSimpleLattice : Gx.Good Try.prog 5 S_laws_FnExactIsSimpleLattice := good_of_run Try.func5 (of_decide_eq_true (by kernel_rfl)) fun x r h => ⟨A_laws_FnExactIsSimpleLattice, big, mkCfg_ok tabOk, mkCfg_sigs (show SigsOk Try.prog [(7, S_zz2), (9, S_zz5), (18, S_zz71), (19, S_zz73), (12, S_zz65)] from ⟨⟨fn_zz2, good_zz2⟩, ⟨fn_zz5, good_zz5⟩, ⟨fn_zz71, good_zz71⟩, ⟨fn_zz73, good_zz73⟩, ⟨fn_zz65, good_zz65⟩, trivial⟩), (run_laws_FnExactIsSimpleLattice big x).trans h⟩
end
end Go.Proofs.Ytlndlclemhfekaa
