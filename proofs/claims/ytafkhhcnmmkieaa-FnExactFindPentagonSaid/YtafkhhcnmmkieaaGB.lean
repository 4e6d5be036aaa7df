import Derived.Test.YtafkhhcnmmkieaaGBp2
set_option maxRecDepth 100000
set_option linter.unusedVariables false
namespace Go.Proofs.Ytafkhhcnmmkieaa
open Go Go.Gx Go.Proofs

/-! zz86 -/
def zz86_b12 (rec : Unit → Y1 → Y4 → Int → Int → Int → Int → Int → Int → Int → Int → Option ((Y4 × (Bool × Unit)) × Unit)) (k : Unit → Y1 → Y4 → Int → Int → Int → Int → Int → Option ((Y4 × (Bool × Unit)) × Unit)) (good1 : Unit) (l6 : Y1) (best8 : Y4) (a9 : Int) (b10 : Int) (t26 : Int) (t27 : Int) (t34 : Int) (t35 : Int) (t42 : Int) (t43 : Int) : Option ((Y4 × (Bool × Unit)) × Unit) :=
  cond (decide (t43 < t42))
  ((l6).bind fun xq5 =>
  (atI xq5.2.1 a9).bind fun xq6 =>
  (atI xq6 t43).bind fun xq7 =>
  (l6).bind fun xq8 =>
  (atI xq8.2.2.1 a9).bind fun xq9 =>
  (atI xq9 t43).bind fun xq10 =>
  (zz83 big [xq7, a9, b10, t43, xq10]).bind fun rq11 =>
  cond (!rq11.1)
  (rec good1 l6 best8 a9 b10 t26 t27 t34 t35 t42 (IntKind.i64.wrap (t43 + (1 : Int))))
  ((atI [xq7, a9, b10, t43, xq10] (0 : Int)).bind fun _ =>
  ([xq7, a9, b10, t43, xq10][(0 : Int).toNat]?).bind fun xq12 =>
  (atI [xq7, a9, b10, t43, xq10] (4 : Int)).bind fun _ =>
  ([xq7, a9, b10, t43, xq10][(4 : Int).toNat]?).bind fun xq13 =>
  (zz85 l6 xq12 a9 b10 t43 xq13).bind fun rq14 =>
  cond (!rq14.1)
  (rec good1 l6 best8 a9 b10 t26 t27 t34 t35 t42 (IntKind.i64.wrap (t43 + (1 : Int))))
  (cond (decide ((best8.length : Int) = (0 : Int)))
  (rec good1 l6 [xq7, a9, b10, t43, xq10] a9 b10 t26 t27 t34 t35 t42 (IntKind.i64.wrap (t43 + (1 : Int))))
  ((zz84 big [xq7, a9, b10, t43, xq10] best8).bind fun rq15 =>
  cond (decide (rq15.1 < (0 : Int)))
  (rec good1 l6 [xq7, a9, b10, t43, xq10] a9 b10 t26 t27 t34 t35 t42 (IntKind.i64.wrap (t43 + (1 : Int))))
  (rec good1 l6 best8 a9 b10 t26 t27 t34 t35 t42 (IntKind.i64.wrap (t43 + (1 : Int))))))))
  (k good1 l6 best8 a9 t26 t27 t34 t35)
def zz86_a12 (rec : Unit → Y1 → Y4 → Int → Int → Int → Int → Int → Option ((Y4 × (Bool × Unit)) × Unit)) (good1 : Unit) (l6 : Y1) (best8 : Y4) (a9 : Int) (t26 : Int) (t27 : Int) (t34 : Int) (t35 : Int) : Option ((Y4 × (Bool × Unit)) × Unit) :=
  rec good1 l6 best8 a9 t26 t27 t34 (IntKind.i64.wrap (t35 + (1 : Int)))
def zz86_b9 (L12 : Unit → Y1 → Y4 → Int → Int → Int → Int → Int → Int → Int → Int → Option ((Y4 × (Bool × Unit)) × Unit)) (k : Unit → Y1 → Y4 → Int → Int → Option ((Y4 × (Bool × Unit)) × Unit)) (good1 : Unit) (l6 : Y1) (best8 : Y4) (a9 : Int) (t26 : Int) (t27 : Int) (t34 : Int) (t35 : Int) : Option ((Y4 × (Bool × Unit)) × Unit) :=
  cond (decide (t35 < t34))
  ((l6).bind fun xq4 =>
  L12 good1 l6 best8 a9 t35 t26 t27 t34 t35 (xq4.1.length : Int) (0 : Int))
  (k good1 l6 best8 t26 t27)
def zz86_a9 (rec : Unit → Y1 → Y4 → Int → Int → Option ((Y4 × (Bool × Unit)) × Unit)) (good1 : Unit) (l6 : Y1) (best8 : Y4) (t26 : Int) (t27 : Int) : Option ((Y4 × (Bool × Unit)) × Unit) :=
  rec good1 l6 best8 t26 (IntKind.i64.wrap (t27 + (1 : Int)))
def zz86_b6 (L9 : Unit → Y1 → Y4 → Int → Int → Int → Int → Int → Option ((Y4 × (Bool × Unit)) × Unit)) (k : Y4 → Option ((Y4 × (Bool × Unit)) × Unit)) (good1 : Unit) (l6 : Y1) (best8 : Y4) (t26 : Int) (t27 : Int) : Option ((Y4 × (Bool × Unit)) × Unit) :=
  cond (decide (t27 < t26))
  ((l6).bind fun xq3 =>
  L9 good1 l6 best8 t27 t26 t27 (xq3.1.length : Int) (0 : Int))
  (k best8)
def zz86_a6 (best8 : Y4) : Option ((Y4 × (Bool × Unit)) × Unit) :=
  some ((best8, decide ((0 : Int) < (best8.length : Int)), ()), (()))
def zz86_s (L6 : Unit → Y1 → Y4 → Int → Int → Option ((Y4 × (Bool × Unit)) × Unit)) (p_0 : Y2) (good_1 : Unit) : Option ((Y4 × (Bool × Unit)) × Unit) :=
  (zz32 p_0).bind fun rq1 =>
  cond (!rq1.1.2.1)
  (some (([], false, ()), (())))
  ((rq1.1.1).bind fun xq2 =>
  L6 good_1 rq1.1.1 [] (xq2.1.length : Int) (0 : Int))
def zz86_l12 (N : Nat) (k : Unit → Y1 → Y4 → Int → Int → Int → Int → Int → Option ((Y4 × (Bool × Unit)) × Unit)) : Nat → Unit → Y1 → Y4 → Int → Int → Int → Int → Int → Int → Int → Int → Option ((Y4 × (Bool × Unit)) × Unit)
  | 0, _, _, _, _, _, _, _, _, _, _, _ => none
  | m + 1, good1, l6, best8, a9, b10, t26, t27, t34, t35, t42, t43 => zz86_b12 (zz86_l12 N k m) k good1 l6 best8 a9 b10 t26 t27 t34 t35 t42 t43
def zz86_F12 (N : Nat) (rec : Unit → Y1 → Y4 → Int → Int → Int → Int → Int → Option ((Y4 × (Bool × Unit)) × Unit)) (k : Unit → Y1 → Y4 → Int → Int → Option ((Y4 × (Bool × Unit)) × Unit)) (good1 : Unit) (l6 : Y1) (best8 : Y4) (a9 : Int) (b10 : Int) (t26 : Int) (t27 : Int) (t34 : Int) (t35 : Int) (t42 : Int) (t43 : Int) : Option ((Y4 × (Bool × Unit)) × Unit) := zz86_l12 N (zz86_a12 rec) N good1 l6 best8 a9 b10 t26 t27 t34 t35 t42 t43
def zz86_l9 (N : Nat) (k : Unit → Y1 → Y4 → Int → Int → Option ((Y4 × (Bool × Unit)) × Unit)) : Nat → Unit → Y1 → Y4 → Int → Int → Int → Int → Int → Option ((Y4 × (Bool × Unit)) × Unit)
  | 0, _, _, _, _, _, _, _, _ => none
  | m + 1, good1, l6, best8, a9, t26, t27, t34, t35 => zz86_b9 (zz86_F12 N (zz86_l9 N k m) k) k good1 l6 best8 a9 t26 t27 t34 t35
def zz86_F9 (N : Nat) (rec : Unit → Y1 → Y4 → Int → Int → Option ((Y4 × (Bool × Unit)) × Unit)) (k : Y4 → Option ((Y4 × (Bool × Unit)) × Unit)) (good1 : Unit) (l6 : Y1) (best8 : Y4) (a9 : Int) (t26 : Int) (t27 : Int) (t34 : Int) (t35 : Int) : Option ((Y4 × (Bool × Unit)) × Unit) := zz86_l9 N (zz86_a9 rec) N good1 l6 best8 a9 t26 t27 t34 t35
def zz86_l6 (N : Nat) (k : Y4 → Option ((Y4 × (Bool × Unit)) × Unit)) : Nat → Unit → Y1 → Y4 → Int → Int → Option ((Y4 × (Bool × Unit)) × Unit)
  | 0, _, _, _, _, _ => none
  | m + 1, good1, l6, best8, t26, t27 => zz86_b6 (zz86_F9 N (zz86_l6 N k m) k) k good1 l6 best8 t26 t27
def zz86_F6 (N : Nat) (good1 : Unit) (l6 : Y1) (best8 : Y4) (t26 : Int) (t27 : Int) : Option ((Y4 × (Bool × Unit)) × Unit) := zz86_l6 N (zz86_a6) N good1 l6 best8 t26 t27
def zz86 (N : Nat) (p_0 : Y2) (good_1 : Unit) : Option ((Y4 × (Bool × Unit)) × Unit) := zz86_s (zz86_F6 N) p_0 good_1
def S_zz86 : Sig := { a := (.pair (.pair (.sl (.sl I)) .unit) (.pair (.clo 81 0 .unit) .unit)), md := [0, 0], mf := [], m := .unit, r := (.tup (.pair (.sl I) (.pair .bool .unit))), rf := (.p (.o .i) .i), f := fun x => zz86 big x.1 x.2.1 }
def A_zz86 : Cfg := mkCfg tab [(68, S_zz32), (126, S_zz83), (81, S_zz85), (127, S_zz84)] [(12, [.drop, .as (.clo 81 0 .unit) .i, .drop, .drop, .drop, .drop, .as (.opt (.pair (.sl (.sl .bool)) (.pair (.sl (.sl I)) (.pair (.sl (.sl I)) .unit)))) .i, .drop, .as (.sl I) (.o .i), .drop, .drop, .drop, .drop, .drop, .drop, .drop, .drop, .drop, .drop, .drop, .drop, .drop, .drop, .drop, .drop, .drop, .as I .i, .as I .i]), (18, [.drop, .as (.clo 81 0 .unit) .i, .drop, .drop, .drop, .drop, .as (.opt (.pair (.sl (.sl .bool)) (.pair (.sl (.sl I)) (.pair (.sl (.sl I)) .unit)))) .i, .drop, .as (.sl I) (.o .i), .as I .i, .drop, .drop, .drop, .drop, .drop, .drop, .drop, .drop, .drop, .drop, .drop, .drop, .drop, .drop, .drop, .drop, .as I .i, .as I .i, .drop, .drop, .drop, .drop, .drop, .drop, .as I .i, .as I .i]), (43, [.drop, .drop, .drop, .drop, .drop, .drop, .drop, .drop, .as (.sl I) (.o .i)]), (24, [.drop, .as (.clo 81 0 .unit) .i, .drop, .drop, .drop, .drop, .as (.opt (.pair (.sl (.sl .bool)) (.pair (.sl (.sl I)) (.pair (.sl (.sl I)) .unit)))) .i, .drop, .as (.sl I) (.o .i), .as I .i, .as I .i, .drop, .drop, .drop, .drop, .drop, .drop, .drop, .drop, .drop, .drop, .drop, .drop, .drop, .drop, .drop, .as I .i, .as I .i, .drop, .drop, .drop, .drop, .drop, .drop, .as I .i, .as I .i, .drop, .drop, .drop, .drop, .drop, .drop, .as I .i, .as I .i]), (41, [.drop, .as (.clo 81 0 .unit) .i, .drop, .drop, .drop, .drop, .as (.opt (.pair (.sl (.sl .bool)) (.pair (.sl (.sl I)) (.pair (.sl (.sl I)) .unit)))) .i, .drop, .as (.sl I) (.o .i), .drop, .drop, .drop, .drop, .drop, .drop, .drop, .drop, .drop, .drop, .drop, .drop, .drop, .drop, .drop, .drop, .drop, .as I .i, .as I .i]), (39, [.drop, .as (.clo 81 0 .unit) .i, .drop, .drop, .drop, .drop, .as (.opt (.pair (.sl (.sl .bool)) (.pair (.sl (.sl I)) (.pair (.sl (.sl I)) .unit)))) .i, .drop, .as (.sl I) (.o .i), .as I .i, .drop, .drop, .drop, .drop, .drop, .drop, .drop, .drop, .drop, .drop, .drop, .drop, .drop, .drop, .drop, .drop, .as I .i, .as I .i, .drop, .drop, .drop, .drop, .drop, .drop, .as I .i, .as I .i])]
noncomputable def zz86_R6 (N n : Nat) (K : Ex → St → Option ((Y4 × (Bool × Unit)) × Unit)) (good1 : Unit) (l6 : Y1) (best8 : Y4) (t26 : Int) (t27 : Int) : Option ((Y4 × (Bool × Unit)) × Unit) := iter ((A_zz86).shape 12) (run (A_zz86) N (codeAt Try.f80 [1, 1, 1, 1, 0, 1, 0, 0])) n ([.u, .val (.clo 81 0 .unit) .i good1, .u, .u, .u, .u, .val (.opt (.pair (.sl (.sl .bool)) (.pair (.sl (.sl I)) (.pair (.sl (.sl I)) .unit)))) .i l6, .u, .val (.sl I) (.o .i) best8, .u, .u, .u, .u, .u, .u, .u, .u, .u, .u, .u, .u, .u, .u, .u, .u, .u, .val I .i t26, .val I .i t27] ++ List.replicate 77 .u) K
noncomputable def zz86_R9 (N n : Nat) (K : Ex → St → Option ((Y4 × (Bool × Unit)) × Unit)) (good1 : Unit) (l6 : Y1) (best8 : Y4) (a9 : Int) (t26 : Int) (t27 : Int) (t34 : Int) (t35 : Int) : Option ((Y4 × (Bool × Unit)) × Unit) := iter ((A_zz86).shape 18) (run (A_zz86) N (codeAt Try.f80 [1, 1, 1, 1, 0, 1, 0, 0, 1, 1, 0, 0, 1, 1, 0, 0])) n ([.u, .val (.clo 81 0 .unit) .i good1, .u, .u, .u, .u, .val (.opt (.pair (.sl (.sl .bool)) (.pair (.sl (.sl I)) (.pair (.sl (.sl I)) .unit)))) .i l6, .u, .val (.sl I) (.o .i) best8, .val I .i a9, .u, .u, .u, .u, .u, .u, .u, .u, .u, .u, .u, .u, .u, .u, .u, .u, .val I .i t26, .val I .i t27, .u, .u, .u, .u, .u, .u, .val I .i t34, .val I .i t35] ++ List.replicate 69 .u) K
noncomputable def zz86_R12 (N n : Nat) (K : Ex → St → Option ((Y4 × (Bool × Unit)) × Unit)) (good1 : Unit) (l6 : Y1) (best8 : Y4) (a9 : Int) (b10 : Int) (t26 : Int) (t27 : Int) (t34 : Int) (t35 : Int) (t42 : Int) (t43 : Int) : Option ((Y4 × (Bool × Unit)) × Unit) := iter ((A_zz86).shape 24) (run (A_zz86) N (codeAt Try.f80 [1, 1, 1, 1, 0, 1, 0, 0, 1, 1, 0, 0, 1, 1, 0, 0, 1, 1, 0, 0, 1, 1, 0, 0])) n ([.u, .val (.clo 81 0 .unit) .i good1, .u, .u, .u, .u, .val (.opt (.pair (.sl (.sl .bool)) (.pair (.sl (.sl I)) (.pair (.sl (.sl I)) .unit)))) .i l6, .u, .val (.sl I) (.o .i) best8, .val I .i a9, .val I .i b10, .u, .u, .u, .u, .u, .u, .u, .u, .u, .u, .u, .u, .u, .u, .u, .val I .i t26, .val I .i t27, .u, .u, .u, .u, .u, .u, .val I .i t34, .val I .i t35, .u, .u, .u, .u, .u, .u, .val I .i t42, .val I .i t43] ++ List.replicate 61 .u) K
noncomputable abbrev zz86_z : Ex → St → Option ((Y4 × (Bool × Unit)) × Unit) := finish (A_zz86) S_zz86 Try.f80.results.toList
noncomputable abbrev zz86_X6 (kX : St → Option ((Y4 × (Bool × Unit)) × Unit)) : Y4 → Option ((Y4 × (Bool × Unit)) × Unit) := fun (best8 : Y4) => kX ([.u, .u, .u, .u, .u, .u, .u, .u, .val (.sl I) (.o .i) best8] ++ List.replicate 96 .u)
noncomputable abbrev zz86_E6 (kX : St → Option ((Y4 × (Bool × Unit)) × Unit)) (kO : Nat → St → Option ((Y4 × (Bool × Unit)) × Unit)) : Ex → St → Option ((Y4 × (Bool × Unit)) × Unit) := exK zz86_z 0 ((A_zz86).shape 43) kX kO
noncomputable abbrev zz86_X9 (kX : St → Option ((Y4 × (Bool × Unit)) × Unit)) : Unit → Y1 → Y4 → Int → Int → Option ((Y4 × (Bool × Unit)) × Unit) := fun (good1 : Unit) (l6 : Y1) (best8 : Y4) (t26 : Int) (t27 : Int) => kX ([.u, .val (.clo 81 0 .unit) .i good1, .u, .u, .u, .u, .val (.opt (.pair (.sl (.sl .bool)) (.pair (.sl (.sl I)) (.pair (.sl (.sl I)) .unit)))) .i l6, .u, .val (.sl I) (.o .i) best8, .u, .u, .u, .u, .u, .u, .u, .u, .u, .u, .u, .u, .u, .u, .u, .u, .u, .val I .i t26, .val I .i t27] ++ List.replicate 77 .u)
noncomputable abbrev zz86_E9 (kX : St → Option ((Y4 × (Bool × Unit)) × Unit)) (kO : Nat → St → Option ((Y4 × (Bool × Unit)) × Unit)) : Ex → St → Option ((Y4 × (Bool × Unit)) × Unit) := exK zz86_z 2 ((A_zz86).shape 41) kX kO
noncomputable abbrev zz86_X12 (kX : St → Option ((Y4 × (Bool × Unit)) × Unit)) : Unit → Y1 → Y4 → Int → Int → Int → Int → Int → Option ((Y4 × (Bool × Unit)) × Unit) := fun (good1 : Unit) (l6 : Y1) (best8 : Y4) (a9 : Int) (t26 : Int) (t27 : Int) (t34 : Int) (t35 : Int) => kX ([.u, .val (.clo 81 0 .unit) .i good1, .u, .u, .u, .u, .val (.opt (.pair (.sl (.sl .bool)) (.pair (.sl (.sl I)) (.pair (.sl (.sl I)) .unit)))) .i l6, .u, .val (.sl I) (.o .i) best8, .val I .i a9, .u, .u, .u, .u, .u, .u, .u, .u, .u, .u, .u, .u, .u, .u, .u, .u, .val I .i t26, .val I .i t27, .u, .u, .u, .u, .u, .u, .val I .i t34, .val I .i t35] ++ List.replicate 69 .u)
noncomputable abbrev zz86_E12 (kX : St → Option ((Y4 × (Bool × Unit)) × Unit)) (kO : Nat → St → Option ((Y4 × (Bool × Unit)) × Unit)) : Ex → St → Option ((Y4 × (Bool × Unit)) × Unit) := exK zz86_z 4 ((A_zz86).shape 39) kX kO
theorem zz86_step12 (N : Nat) (m : Nat) (kX : St → Option ((Y4 × (Bool × Unit)) × Unit)) (kO : Nat → St → Option ((Y4 × (Bool × Unit)) × Unit)) (good1 : Unit) (l6 : Y1) (best8 : Y4) (a9 : Int) (b10 : Int) (t26 : Int) (t27 : Int) (t34 : Int) (t35 : Int) (t42 : Int) (t43 : Int) : zz86_R12 N (m + 1) (zz86_E12 kX kO) good1 l6 best8 a9 b10 t26 t27 t34 t35 t42 t43 = zz86_b12 (zz86_R12 N m (zz86_E12 kX kO)) (zz86_X12 kX) good1 l6 best8 a9 b10 t26 t27 t34 t35 t42 t43 := by kernel_rfl
theorem zz86_iter12 (N : Nat) (kX : St → Option ((Y4 × (Bool × Unit)) × Unit)) (kO : Nat → St → Option ((Y4 × (Bool × Unit)) × Unit)) : ∀ (n : Nat) (good1 : Unit) (l6 : Y1) (best8 : Y4) (a9 : Int) (b10 : Int) (t26 : Int) (t27 : Int) (t34 : Int) (t35 : Int) (t42 : Int) (t43 : Int), zz86_R12 N n (zz86_E12 kX kO) good1 l6 best8 a9 b10 t26 t27 t34 t35 t42 t43 = zz86_l12 N (zz86_X12 kX) n good1 l6 best8 a9 b10 t26 t27 t34 t35 t42 t43
  | 0, _, _, _, _, _, _, _, _, _, _, _ => rfl
  | m + 1, good1, l6, best8, a9, b10, t26, t27, t34, t35, t42, t43 => by
    have hrec : zz86_R12 N m (zz86_E12 kX kO) = (zz86_l12 N (zz86_X12 kX) m) := (funext fun good1 => (funext fun l6 => (funext fun best8 => (funext fun a9 => (funext fun b10 => (funext fun t26 => (funext fun t27 => (funext fun t34 => (funext fun t35 => (funext fun t42 => (funext fun t43 => zz86_iter12 N kX kO m good1 l6 best8 a9 b10 t26 t27 t34 t35 t42 t43)))))))))))
    refine (zz86_step12 N m kX kO good1 l6 best8 a9 b10 t26 t27 t34 t35 t42 t43).trans ?_
    rw [hrec]
    rfl
noncomputable abbrev zz86_K12 (N : Nat) (m : Nat) (kX : St → Option ((Y4 × (Bool × Unit)) × Unit)) (kO : Nat → St → Option ((Y4 × (Bool × Unit)) × Unit)) : Ex → St → Option ((Y4 × (Bool × Unit)) × Unit) := (blockK 4 (blockK 3 (seqK ((A_zz86).shape 39) (run (A_zz86) N (codeAt Try.f80 [1, 1, 1, 1, 0, 1, 0, 0, 1, 1, 0, 0, 1, 1, 0, 0, 1, 1, 1])) (iterK ((A_zz86).shape 18) (run (A_zz86) N (codeAt Try.f80 [1, 1, 1, 1, 0, 1, 0, 0, 1, 1, 0, 0, 1, 1, 0, 0])) m (zz86_E9 kX kO)))))
noncomputable abbrev zz86_k12 (N : Nat) (m : Nat) (kX : St → Option ((Y4 × (Bool × Unit)) × Unit)) (kO : Nat → St → Option ((Y4 × (Bool × Unit)) × Unit)) : St → Option ((Y4 × (Bool × Unit)) × Unit) := fun st' => run (A_zz86) N (codeAt Try.f80 [1, 1, 1, 1, 0, 1, 0, 0, 1, 1, 0, 0, 1, 1, 0, 0, 1, 1, 1]) st' (iterK ((A_zz86).shape 18) (run (A_zz86) N (codeAt Try.f80 [1, 1, 1, 1, 0, 1, 0, 0, 1, 1, 0, 0, 1, 1, 0, 0])) m (zz86_E9 kX kO))
theorem zz86_after12 (N : Nat) (m : Nat) (kX : St → Option ((Y4 × (Bool × Unit)) × Unit)) (kO : Nat → St → Option ((Y4 × (Bool × Unit)) × Unit)) (good1 : Unit) (l6 : Y1) (best8 : Y4) (a9 : Int) (t26 : Int) (t27 : Int) (t34 : Int) (t35 : Int) : zz86_X12 (zz86_k12 N m kX kO) good1 l6 best8 a9 t26 t27 t34 t35 = zz86_a12 (zz86_R9 N m (zz86_E9 kX kO)) good1 l6 best8 a9 t26 t27 t34 t35 := by kernel_rfl
theorem zz86_in12 (N : Nat) (m : Nat) (kX : St → Option ((Y4 × (Bool × Unit)) × Unit)) (kO : Nat → St → Option ((Y4 × (Bool × Unit)) × Unit)) (recF : Unit → Y1 → Y4 → Int → Int → Int → Int → Int → Option ((Y4 × (Bool × Unit)) × Unit)) (hrec : zz86_R9 N m (zz86_E9 kX kO) = recF) (good1 : Unit) (l6 : Y1) (best8 : Y4) (a9 : Int) (b10 : Int) (t26 : Int) (t27 : Int) (t34 : Int) (t35 : Int) (t42 : Int) (t43 : Int) : zz86_R12 N N (zz86_K12 N m kX kO) good1 l6 best8 a9 b10 t26 t27 t34 t35 t42 t43 = zz86_F12 N recF (zz86_X9 kX) good1 l6 best8 a9 b10 t26 t27 t34 t35 t42 t43 :=
  have h : zz86_X12 (zz86_k12 N m kX kO) = (zz86_a12 recF) := (funext fun good1 => (funext fun l6 => (funext fun best8 => (funext fun a9 => (funext fun t26 => (funext fun t27 => (funext fun t34 => (funext fun t35 => (zz86_after12 N m kX kO good1 l6 best8 a9 t26 t27 t34 t35).trans (by rw [hrec])))))))))
  ((iter_ex (fun st => by kernel_rfl) (fun st => by kernel_rfl)).trans (zz86_iter12 N (zz86_k12 N m kX kO) (fun j st => (zz86_K12 N m kX kO) (.exit j) st) N good1 l6 best8 a9 b10 t26 t27 t34 t35 t42 t43)).trans (congrArg (fun k => zz86_l12 N k N good1 l6 best8 a9 b10 t26 t27 t34 t35 t42 t43) h)
theorem zz86_step9 (N : Nat) (m : Nat) (kX : St → Option ((Y4 × (Bool × Unit)) × Unit)) (kO : Nat → St → Option ((Y4 × (Bool × Unit)) × Unit)) (good1 : Unit) (l6 : Y1) (best8 : Y4) (a9 : Int) (t26 : Int) (t27 : Int) (t34 : Int) (t35 : Int) : zz86_R9 N (m + 1) (zz86_E9 kX kO) good1 l6 best8 a9 t26 t27 t34 t35 = zz86_b9 (zz86_R12 N N (zz86_K12 N m kX kO)) (zz86_X9 kX) good1 l6 best8 a9 t26 t27 t34 t35 := by kernel_rfl
theorem zz86_iter9 (N : Nat) (kX : St → Option ((Y4 × (Bool × Unit)) × Unit)) (kO : Nat → St → Option ((Y4 × (Bool × Unit)) × Unit)) : ∀ (n : Nat) (good1 : Unit) (l6 : Y1) (best8 : Y4) (a9 : Int) (t26 : Int) (t27 : Int) (t34 : Int) (t35 : Int), zz86_R9 N n (zz86_E9 kX kO) good1 l6 best8 a9 t26 t27 t34 t35 = zz86_l9 N (zz86_X9 kX) n good1 l6 best8 a9 t26 t27 t34 t35
  | 0, _, _, _, _, _, _, _, _ => rfl
  | m + 1, good1, l6, best8, a9, t26, t27, t34, t35 => by
    have hrec : zz86_R9 N m (zz86_E9 kX kO) = (zz86_l9 N (zz86_X9 kX) m) := (funext fun good1 => (funext fun l6 => (funext fun best8 => (funext fun a9 => (funext fun t26 => (funext fun t27 => (funext fun t34 => (funext fun t35 => zz86_iter9 N kX kO m good1 l6 best8 a9 t26 t27 t34 t35))))))))
    refine (zz86_step9 N m kX kO good1 l6 best8 a9 t26 t27 t34 t35).trans ?_
    rw [(funext fun good1 => (funext fun l6 => (funext fun best8 => (funext fun a9 => (funext fun b10 => (funext fun t26 => (funext fun t27 => (funext fun t34 => (funext fun t35 => (funext fun t42 => (funext fun t43 => zz86_in12 N m kX kO (zz86_l9 N (zz86_X9 kX) m) hrec good1 l6 best8 a9 b10 t26 t27 t34 t35 t42 t43)))))))))))]
    rfl
noncomputable abbrev zz86_K9 (N : Nat) (m : Nat) (kX : St → Option ((Y4 × (Bool × Unit)) × Unit)) (kO : Nat → St → Option ((Y4 × (Bool × Unit)) × Unit)) : Ex → St → Option ((Y4 × (Bool × Unit)) × Unit) := (blockK 2 (blockK 1 (seqK ((A_zz86).shape 41) (run (A_zz86) N (codeAt Try.f80 [1, 1, 1, 1, 0, 1, 0, 0, 1, 1, 1])) (iterK ((A_zz86).shape 12) (run (A_zz86) N (codeAt Try.f80 [1, 1, 1, 1, 0, 1, 0, 0])) m (zz86_E6 kX kO)))))
noncomputable abbrev zz86_k9 (N : Nat) (m : Nat) (kX : St → Option ((Y4 × (Bool × Unit)) × Unit)) (kO : Nat → St → Option ((Y4 × (Bool × Unit)) × Unit)) : St → Option ((Y4 × (Bool × Unit)) × Unit) := fun st' => run (A_zz86) N (codeAt Try.f80 [1, 1, 1, 1, 0, 1, 0, 0, 1, 1, 1]) st' (iterK ((A_zz86).shape 12) (run (A_zz86) N (codeAt Try.f80 [1, 1, 1, 1, 0, 1, 0, 0])) m (zz86_E6 kX kO))
theorem zz86_after9 (N : Nat) (m : Nat) (kX : St → Option ((Y4 × (Bool × Unit)) × Unit)) (kO : Nat → St → Option ((Y4 × (Bool × Unit)) × Unit)) (good1 : Unit) (l6 : Y1) (best8 : Y4) (t26 : Int) (t27 : Int) : zz86_X9 (zz86_k9 N m kX kO) good1 l6 best8 t26 t27 = zz86_a9 (zz86_R6 N m (zz86_E6 kX kO)) good1 l6 best8 t26 t27 := by kernel_rfl
theorem zz86_in9 (N : Nat) (m : Nat) (kX : St → Option ((Y4 × (Bool × Unit)) × Unit)) (kO : Nat → St → Option ((Y4 × (Bool × Unit)) × Unit)) (recF : Unit → Y1 → Y4 → Int → Int → Option ((Y4 × (Bool × Unit)) × Unit)) (hrec : zz86_R6 N m (zz86_E6 kX kO) = recF) (good1 : Unit) (l6 : Y1) (best8 : Y4) (a9 : Int) (t26 : Int) (t27 : Int) (t34 : Int) (t35 : Int) : zz86_R9 N N (zz86_K9 N m kX kO) good1 l6 best8 a9 t26 t27 t34 t35 = zz86_F9 N recF (zz86_X6 kX) good1 l6 best8 a9 t26 t27 t34 t35 :=
  have h : zz86_X9 (zz86_k9 N m kX kO) = (zz86_a9 recF) := (funext fun good1 => (funext fun l6 => (funext fun best8 => (funext fun t26 => (funext fun t27 => (zz86_after9 N m kX kO good1 l6 best8 t26 t27).trans (by rw [hrec]))))))
  ((iter_ex (fun st => by kernel_rfl) (fun st => by kernel_rfl)).trans (zz86_iter9 N (zz86_k9 N m kX kO) (fun j st => (zz86_K9 N m kX kO) (.exit j) st) N good1 l6 best8 a9 t26 t27 t34 t35)).trans (congrArg (fun k => zz86_l9 N k N good1 l6 best8 a9 t26 t27 t34 t35) h)
theorem zz86_step6 (N : Nat) (m : Nat) (kX : St → Option ((Y4 × (Bool × Unit)) × Unit)) (kO : Nat → St → Option ((Y4 × (Bool × Unit)) × Unit)) (good1 : Unit) (l6 : Y1) (best8 : Y4) (t26 : Int) (t27 : Int) : zz86_R6 N (m + 1) (zz86_E6 kX kO) good1 l6 best8 t26 t27 = zz86_b6 (zz86_R9 N N (zz86_K9 N m kX kO)) (zz86_X6 kX) good1 l6 best8 t26 t27 := by kernel_rfl
theorem zz86_iter6 (N : Nat) (kX : St → Option ((Y4 × (Bool × Unit)) × Unit)) (kO : Nat → St → Option ((Y4 × (Bool × Unit)) × Unit)) : ∀ (n : Nat) (good1 : Unit) (l6 : Y1) (best8 : Y4) (t26 : Int) (t27 : Int), zz86_R6 N n (zz86_E6 kX kO) good1 l6 best8 t26 t27 = zz86_l6 N (zz86_X6 kX) n good1 l6 best8 t26 t27
  | 0, _, _, _, _, _ => rfl
  | m + 1, good1, l6, best8, t26, t27 => by
    have hrec : zz86_R6 N m (zz86_E6 kX kO) = (zz86_l6 N (zz86_X6 kX) m) := (funext fun good1 => (funext fun l6 => (funext fun best8 => (funext fun t26 => (funext fun t27 => zz86_iter6 N kX kO m good1 l6 best8 t26 t27)))))
    refine (zz86_step6 N m kX kO good1 l6 best8 t26 t27).trans ?_
    rw [(funext fun good1 => (funext fun l6 => (funext fun best8 => (funext fun a9 => (funext fun t26 => (funext fun t27 => (funext fun t34 => (funext fun t35 => zz86_in9 N m kX kO (zz86_l6 N (zz86_X6 kX) m) hrec good1 l6 best8 a9 t26 t27 t34 t35))))))))]
    rfl
noncomputable abbrev zz86_K6 (N : Nat) : Ex → St → Option ((Y4 × (Bool × Unit)) × Unit) := (blockK 0 (seqK ((A_zz86).shape 43) (run (A_zz86) N (codeAt Try.f80 [1, 1, 1, 1, 1])) zz86_z))
noncomputable abbrev zz86_k6 (N : Nat) : St → Option ((Y4 × (Bool × Unit)) × Unit) := fun st' => run (A_zz86) N (codeAt Try.f80 [1, 1, 1, 1, 1]) st' zz86_z
theorem zz86_after6 (N : Nat) (best8 : Y4) : zz86_X6 (zz86_k6 N) best8 = zz86_a6 best8 := by kernel_rfl
theorem zz86_in6 (N : Nat) (good1 : Unit) (l6 : Y1) (best8 : Y4) (t26 : Int) (t27 : Int) : zz86_R6 N N (zz86_K6 N) good1 l6 best8 t26 t27 = zz86_F6 N good1 l6 best8 t26 t27 :=
  have h : zz86_X6 (zz86_k6 N) = (zz86_a6) := (funext fun best8 => zz86_after6 N best8)
  ((iter_ex (fun st => by kernel_rfl) (fun st => by kernel_rfl)).trans (zz86_iter6 N (zz86_k6 N) (fun j st => (zz86_K6 N) (.exit j) st) N good1 l6 best8 t26 t27)).trans (congrArg (fun k => zz86_l6 N k N good1 l6 best8 t26 t27) h)
theorem run0_zz86 (N : Nat) (x : (S_zz86).a.den) : runF (A_zz86) N Try.f80 S_zz86 x = (zz86_s (zz86_R6 N N (zz86_K6 N)) x.1 x.2.1) := by kernel_rfl
theorem run_zz86 (N : Nat) (x : (S_zz86).a.den) : runF (A_zz86) N Try.f80 S_zz86 x = zz86 N x.1 x.2.1 := by
  refine (run0_zz86 N x).trans ?_
  rw [(funext fun good1 => (funext fun l6 => (funext fun best8 => (funext fun t26 => (funext fun t27 => zz86_in6 N good1 l6 best8 t26 t27)))))]
  rfl
theorem fn_zz86 : FnOk Try.prog 80 := ⟨_, Try.func80, by kernel_rfl, by kernel_rfl⟩
theorem good_zz86 : Gx.Good Try.prog 80 S_zz86 := good_of_run Try.func80 (of_decide_eq_true (by kernel_rfl)) fun x r h => ⟨A_zz86, big, mkCfg_ok tabOk, mkCfg_sigs (show SigsOk Try.prog [(68, S_zz32), (126, S_zz83), (81, S_zz85), (127, S_zz84)] from ⟨⟨fn_zz32, good_zz32⟩, ⟨fn_zz83, good_zz83⟩, ⟨fn_zz85, good_zz85⟩, ⟨fn_zz84, good_zz84⟩, trivial⟩), (run_zz86 big x).trans h⟩

/-! zz87 -/
def zz87_s (p_0 : Y2) : Option ((Y4 × (Bool × Unit)) × Unit) :=
  (zz86 big p_0 ()).bind fun rq1 =>
  some ((rq1.1.1, (((), rq1.1.2).2).1, ()), (()))
def zz87 (p_0 : Y2) : Option ((Y4 × (Bool × Unit)) × Unit) := zz87_s p_0
def S_zz87 : Sig := { a := (.pair (.pair (.sl (.sl I)) .unit) .unit), md := [0], mf := [], m := .unit, r := (.tup (.pair (.sl I) (.pair .bool .unit))), rf := (.p (.o .i) .i), f := fun x => zz87 x.1 }
def A_zz87 : Cfg := mkCfg tab [(80, S_zz86)] []
theorem run_zz87 (N : Nat) (x : (S_zz87).a.den) : runF (A_zz87) N Try.f35 S_zz87 x = zz87 x.1 := by kernel_rfl
theorem fn_zz87 : FnOk Try.prog 35 := ⟨_, Try.func35, by kernel_rfl, by kernel_rfl⟩
theorem good_zz87 : Gx.Good Try.prog 35 S_zz87 := good_of_run Try.func35 (of_decide_eq_true (by kernel_rfl)) fun x r h => ⟨A_zz87, big, mkCfg_ok tabOk, mkCfg_sigs (show SigsOk Try.prog [(80, S_zz86)] from ⟨⟨fn_zz86, good_zz86⟩, trivial⟩), (run_zz87 big x).trans h⟩

/-! laws_FnExactFindDiamond -/
def laws_FnExactFindDiamond_s (aP_0 : Y2) : Option (Bool × Unit) :=
  (zz2 aP_0 (1048576 : Int)).bind fun rq1 =>
  cond (decide (rq1.1 < (0 : Int)))
  (some (true, (())))
  ((zz5 aP_0).bind fun rq2 =>
  (zz81 big rq2.1).bind fun rq3 =>
  (zz5 aP_0).bind fun rq4 =>
  (zz87 rq4.1).bind fun rq5 =>
  (zz47 big rq5.1.1 rq3.1.1).bind fun rq6 =>
  cond (!rq6.1)
  (some (false, (())))
  (cond (((((), rq5.1.2).2).1) != ((((), rq3.1.2).2).1))
  (some (false, (())))
  ((zz5 aP_0).bind fun rq7 =>
  (zz49 rq4.1 rq7.1).bind fun rq8 =>
  cond (!rq8.1)
  (some (false, (())))
  ((zz52 rq4.1 (1 : Int)).bind fun rq9 =>
  cond (decide (rq9.1 < (0 : Int)))
  (some (false, (())))
  ((zz47 big rq5.1.1 rq3.1.1).bind fun rq10 =>
  cond (!rq10.1)
  (some (false, (())))
  (cond (((((), rq5.1.2).2).1) != ((((), rq3.1.2).2).1))
  (some (false, (())))
  ((zz50 big rq5.1.1 (1 : Int)).bind fun rq11 =>
  (zz53 big rq11.2.1 (1 : Int)).bind fun rq12 =>
  cond (decide (rq12.1 < (0 : Int)))
  (some (false, (())))
  (cond (decide (rq12.1 ≠ rq11.1))
  (some (false, (())))
  ((zz5 aP_0).bind fun rq13 =>
  (zz87 rq13.1).bind fun rq14 =>
  (zz47 big rq14.1.1 rq3.1.1).bind fun rq15 =>
  cond (!rq15.1)
  (some (false, (())))
  (cond (((((), rq14.1.2).2).1) != ((((), rq3.1.2).2).1))
  (some (false, (())))
  ((zz53 big rq11.2.1 (1 : Int)).bind fun rq16 =>
  cond (decide (rq16.1 < (0 : Int)))
  (some (false, (())))
  (cond (decide (rq16.1 ≠ rq11.1))
  (some (false, (())))
  (some (true, (())))))))))))))))
def laws_FnExactFindDiamond (aP_0 : Y2) : Option (Bool × Unit) := laws_FnExactFindDiamond_s aP_0
def S_laws_FnExactFindDiamond : Sig := { a := (.pair (.pair (.sl (.sl I)) .unit) .unit), md := [0], mf := [], m := .unit, r := .bool, rf := .i, f := fun x => laws_FnExactFindDiamond x.1 }
def A_laws_FnExactFindDiamond : Cfg := mkCfg tab [(15, S_zz2), (17, S_zz5), (34, S_zz81), (35, S_zz87), (19, S_zz47), (20, S_zz49), (21, S_zz52), (22, S_zz50), (23, S_zz53)] []
theorem run_laws_FnExactFindDiamond (N : Nat) (x : (S_laws_FnExactFindDiamond).a.den) : runF (A_laws_FnExactFindDiamond) N Try.f6 S_laws_FnExactFindDiamond x = laws_FnExactFindDiamond x.1 := by kernel_rfl
theorem fn_laws_FnExactFindDiamond : FnOk Try.prog 6 := ⟨_, Try.func6, by kernel_rfl, by kernel_rfl⟩
theorem good_laws_FnExactFindDiamond : Gx.Good Try.prog 6 S_laws_FnExactFindDiamond := good_of_run Try.func6 (of_decide_eq_true (by kernel_rfl)) fun x r h => ⟨A_laws_FnExactFindDiamond, big, mkCfg_ok tabOk, mkCfg_sigs (show SigsOk Try.prog [(15, S_zz2), (17, S_zz5), (34, S_zz81), (35, S_zz87), (19, S_zz47), (20, S_zz49), (21, S_zz52), (22, S_zz50), (23, S_zz53)] from ⟨⟨fn_zz2, good_zz2⟩, ⟨fn_zz5, good_zz5⟩, ⟨fn_zz81, good_zz81⟩, ⟨fn_zz87, good_zz87⟩, ⟨fn_zz47, good_zz47⟩, ⟨fn_zz49, good_zz49⟩, ⟨fn_zz52, good_zz52⟩, ⟨fn_zz50, good_zz50⟩, ⟨fn_zz53, good_zz53⟩, trivial⟩), (run_laws_FnExactFindDiamond big x).trans h⟩

/-! zz88 -/
def zz88_b12 (rec : Y2 → Int → Y4 → Int → Int → Int → Option ((Y4 × (Bool × Unit)) × Unit)) (k : Y2 → Int → Y4 → Int → Int → Option ((Y4 × (Bool × Unit)) × Unit)) (p1 : Y2) (n4 : Int) (best5 : Y4) (a6 : Int) (b7 : Int) (c8 : Int) : Option ((Y4 × (Bool × Unit)) × Unit) :=
  cond (decide (c8 < n4))
  ((zz17 p1 a6 c8).bind fun rq2 =>
  (zz18 p1 a6 c8).bind fun rq3 =>
  (zz55 p1 a6 b7).bind fun rq4 =>
  cond (!rq4.1)
  (rec p1 n4 best5 a6 b7 (IntKind.i64.wrap (c8 + (1 : Int))))
  ((zz17 p1 b7 c8).bind fun rq5 =>
  cond (decide (rq5.1 ≠ rq2.1))
  (rec p1 n4 best5 a6 b7 (IntKind.i64.wrap (c8 + (1 : Int))))
  ((zz18 p1 b7 c8).bind fun rq6 =>
  cond (decide (rq6.1 ≠ rq3.1))
  (rec p1 n4 best5 a6 b7 (IntKind.i64.wrap (c8 + (1 : Int))))
  ((zz79 big [rq2.1, a6, b7, c8, rq3.1]).bind fun rq7 =>
  cond rq7.1
  (cond (decide ((best5.length : Int) = (0 : Int)))
  (rec p1 n4 [rq2.1, a6, b7, c8, rq3.1] a6 b7 (IntKind.i64.wrap (c8 + (1 : Int))))
  ((zz80 big [rq2.1, a6, b7, c8, rq3.1] best5).bind fun rq8 =>
  cond rq8.1
  (rec p1 n4 [rq2.1, a6, b7, c8, rq3.1] a6 b7 (IntKind.i64.wrap (c8 + (1 : Int))))
  (rec p1 n4 best5 a6 b7 (IntKind.i64.wrap (c8 + (1 : Int))))))
  (rec p1 n4 best5 a6 b7 (IntKind.i64.wrap (c8 + (1 : Int))))))))
  (k p1 n4 best5 a6 b7)
def zz88_a12 (rec : Y2 → Int → Y4 → Int → Int → Option ((Y4 × (Bool × Unit)) × Unit)) (p1 : Y2) (n4 : Int) (best5 : Y4) (a6 : Int) (b7 : Int) : Option ((Y4 × (Bool × Unit)) × Unit) :=
  rec p1 n4 best5 a6 (IntKind.i64.wrap (b7 + (1 : Int)))
def zz88_b9 (L12 : Y2 → Int → Y4 → Int → Int → Int → Option ((Y4 × (Bool × Unit)) × Unit)) (k : Y2 → Int → Y4 → Int → Option ((Y4 × (Bool × Unit)) × Unit)) (p1 : Y2) (n4 : Int) (best5 : Y4) (a6 : Int) (b7 : Int) : Option ((Y4 × (Bool × Unit)) × Unit) :=
  cond (decide (b7 < n4))
  (L12 p1 n4 best5 a6 b7 (0 : Int))
  (k p1 n4 best5 a6)
def zz88_a9 (rec : Y2 → Int → Y4 → Int → Option ((Y4 × (Bool × Unit)) × Unit)) (p1 : Y2) (n4 : Int) (best5 : Y4) (a6 : Int) : Option ((Y4 × (Bool × Unit)) × Unit) :=
  rec p1 n4 best5 (IntKind.i64.wrap (a6 + (1 : Int)))
def zz88_b6 (L9 : Y2 → Int → Y4 → Int → Int → Option ((Y4 × (Bool × Unit)) × Unit)) (k : Y4 → Option ((Y4 × (Bool × Unit)) × Unit)) (p1 : Y2) (n4 : Int) (best5 : Y4) (a6 : Int) : Option ((Y4 × (Bool × Unit)) × Unit) :=
  cond (decide (a6 < n4))
  (L9 p1 n4 best5 a6 (0 : Int))
  (k best5)
def zz88_a6 (best5 : Y4) : Option ((Y4 × (Bool × Unit)) × Unit) :=
  some ((best5, decide ((0 : Int) < (best5.length : Int)), ()), (()))
def zz88_s (L6 : Y2 → Int → Y4 → Int → Option ((Y4 × (Bool × Unit)) × Unit)) (p_0 : Y2) : Option ((Y4 × (Bool × Unit)) × Unit) :=
  (zz14 big p_0).bind fun rq1 =>
  cond (!rq1.1)
  (some (([], false, ()), (())))
  (L6 p_0 (p_0.1.length : Int) [] (0 : Int))
def zz88_l12 (N : Nat) (k : Y2 → Int → Y4 → Int → Int → Option ((Y4 × (Bool × Unit)) × Unit)) : Nat → Y2 → Int → Y4 → Int → Int → Int → Option ((Y4 × (Bool × Unit)) × Unit)
  | 0, _, _, _, _, _, _ => none
  | m + 1, p1, n4, best5, a6, b7, c8 => zz88_b12 (zz88_l12 N k m) k p1 n4 best5 a6 b7 c8
def zz88_F12 (N : Nat) (rec : Y2 → Int → Y4 → Int → Int → Option ((Y4 × (Bool × Unit)) × Unit)) (k : Y2 → Int → Y4 → Int → Option ((Y4 × (Bool × Unit)) × Unit)) (p1 : Y2) (n4 : Int) (best5 : Y4) (a6 : Int) (b7 : Int) (c8 : Int) : Option ((Y4 × (Bool × Unit)) × Unit) := zz88_l12 N (zz88_a12 rec) N p1 n4 best5 a6 b7 c8
def zz88_l9 (N : Nat) (k : Y2 → Int → Y4 → Int → Option ((Y4 × (Bool × Unit)) × Unit)) : Nat → Y2 → Int → Y4 → Int → Int → Option ((Y4 × (Bool × Unit)) × Unit)
  | 0, _, _, _, _, _ => none
  | m + 1, p1, n4, best5, a6, b7 => zz88_b9 (zz88_F12 N (zz88_l9 N k m) k) k p1 n4 best5 a6 b7
def zz88_F9 (N : Nat) (rec : Y2 → Int → Y4 → Int → Option ((Y4 × (Bool × Unit)) × Unit)) (k : Y4 → Option ((Y4 × (Bool × Unit)) × Unit)) (p1 : Y2) (n4 : Int) (best5 : Y4) (a6 : Int) (b7 : Int) : Option ((Y4 × (Bool × Unit)) × Unit) := zz88_l9 N (zz88_a9 rec) N p1 n4 best5 a6 b7
def zz88_l6 (N : Nat) (k : Y4 → Option ((Y4 × (Bool × Unit)) × Unit)) : Nat → Y2 → Int → Y4 → Int → Option ((Y4 × (Bool × Unit)) × Unit)
  | 0, _, _, _, _ => none
  | m + 1, p1, n4, best5, a6 => zz88_b6 (zz88_F9 N (zz88_l6 N k m) k) k p1 n4 best5 a6
def zz88_F6 (N : Nat) (p1 : Y2) (n4 : Int) (best5 : Y4) (a6 : Int) : Option ((Y4 × (Bool × Unit)) × Unit) := zz88_l6 N (zz88_a6) N p1 n4 best5 a6
def zz88 (N : Nat) (p_0 : Y2) : Option ((Y4 × (Bool × Unit)) × Unit) := zz88_s (zz88_F6 N) p_0
def S_zz88 : Sig := { a := (.pair (.pair (.sl (.sl I)) .unit) .unit), md := [0], mf := [], m := .unit, r := (.tup (.pair (.sl I) (.pair .bool .unit))), rf := (.p (.o .i) .i), f := fun x => zz88 big x.1 }
def A_zz88 : Cfg := mkCfg tab [(57, S_zz14), (76, S_zz17), (77, S_zz18), (82, S_zz55), (78, S_zz79), (79, S_zz80)] [(12, [.drop, .as (.ptr (.pair (.sl (.sl I)) .unit)) (.o .i), .drop, .drop, .as I .i, .as (.sl I) (.o .i), .as I .i]), (18, [.drop, .as (.ptr (.pair (.sl (.sl I)) .unit)) (.o .i), .drop, .drop, .as I .i, .as (.sl I) (.o .i), .as I .i, .as I .i]), (39, [.drop, .drop, .drop, .drop, .drop, .as (.sl I) (.o .i)]), (24, [.drop, .as (.ptr (.pair (.sl (.sl I)) .unit)) (.o .i), .drop, .drop, .as I .i, .as (.sl I) (.o .i), .as I .i, .as I .i, .as I .i]), (15, [.drop, .as (.ptr (.pair (.sl (.sl I)) .unit)) (.o .i), .drop, .drop, .as I .i, .as (.sl I) (.o .i), .as I .i]), (21, [.drop, .as (.ptr (.pair (.sl (.sl I)) .unit)) (.o .i), .drop, .drop, .as I .i, .as (.sl I) (.o .i), .as I .i, .as I .i])]
noncomputable def zz88_R6 (N n : Nat) (K : Ex → St → Option ((Y4 × (Bool × Unit)) × Unit)) (p1 : Y2) (n4 : Int) (best5 : Y4) (a6 : Int) : Option ((Y4 × (Bool × Unit)) × Unit) := iter ((A_zz88).shape 12) (run (A_zz88) N (codeAt Try.f36 [1, 1, 1, 1, 0, 1, 0, 0])) n ([.u, .val (.ptr (.pair (.sl (.sl I)) .unit)) (.o .i) p1, .u, .u, .val I .i n4, .val (.sl I) (.o .i) best5, .val I .i a6] ++ List.replicate 80 .u) K
noncomputable def zz88_R9 (N n : Nat) (K : Ex → St → Option ((Y4 × (Bool × Unit)) × Unit)) (p1 : Y2) (n4 : Int) (best5 : Y4) (a6 : Int) (b7 : Int) : Option ((Y4 × (Bool × Unit)) × Unit) := iter ((A_zz88).shape 18) (run (A_zz88) N (codeAt Try.f36 [1, 1, 1, 1, 0, 1, 0, 0, 1, 0, 0, 1, 0, 0])) n ([.u, .val (.ptr (.pair (.sl (.sl I)) .unit)) (.o .i) p1, .u, .u, .val I .i n4, .val (.sl I) (.o .i) best5, .val I .i a6, .val I .i b7] ++ List.replicate 79 .u) K
noncomputable def zz88_R12 (N n : Nat) (K : Ex → St → Option ((Y4 × (Bool × Unit)) × Unit)) (p1 : Y2) (n4 : Int) (best5 : Y4) (a6 : Int) (b7 : Int) (c8 : Int) : Option ((Y4 × (Bool × Unit)) × Unit) := iter ((A_zz88).shape 24) (run (A_zz88) N (codeAt Try.f36 [1, 1, 1, 1, 0, 1, 0, 0, 1, 0, 0, 1, 0, 0, 1, 0, 0, 1, 0, 0])) n ([.u, .val (.ptr (.pair (.sl (.sl I)) .unit)) (.o .i) p1, .u, .u, .val I .i n4, .val (.sl I) (.o .i) best5, .val I .i a6, .val I .i b7, .val I .i c8] ++ List.replicate 78 .u) K
noncomputable abbrev zz88_z : Ex → St → Option ((Y4 × (Bool × Unit)) × Unit) := finish (A_zz88) S_zz88 Try.f36.results.toList
noncomputable abbrev zz88_X6 (kX : St → Option ((Y4 × (Bool × Unit)) × Unit)) : Y4 → Option ((Y4 × (Bool × Unit)) × Unit) := fun (best5 : Y4) => kX ([.u, .u, .u, .u, .u, .val (.sl I) (.o .i) best5] ++ List.replicate 81 .u)
noncomputable abbrev zz88_E6 (kX : St → Option ((Y4 × (Bool × Unit)) × Unit)) (kO : Nat → St → Option ((Y4 × (Bool × Unit)) × Unit)) : Ex → St → Option ((Y4 × (Bool × Unit)) × Unit) := exK zz88_z 0 ((A_zz88).shape 39) kX kO
noncomputable abbrev zz88_X9 (kX : St → Option ((Y4 × (Bool × Unit)) × Unit)) : Y2 → Int → Y4 → Int → Option ((Y4 × (Bool × Unit)) × Unit) := fun (p1 : Y2) (n4 : Int) (best5 : Y4) (a6 : Int) => kX ([.u, .val (.ptr (.pair (.sl (.sl I)) .unit)) (.o .i) p1, .u, .u, .val I .i n4, .val (.sl I) (.o .i) best5, .val I .i a6] ++ List.replicate 80 .u)
noncomputable abbrev zz88_E9 (kX : St → Option ((Y4 × (Bool × Unit)) × Unit)) (kO : Nat → St → Option ((Y4 × (Bool × Unit)) × Unit)) : Ex → St → Option ((Y4 × (Bool × Unit)) × Unit) := exK zz88_z 2 ((A_zz88).shape 15) kX kO
noncomputable abbrev zz88_X12 (kX : St → Option ((Y4 × (Bool × Unit)) × Unit)) : Y2 → Int → Y4 → Int → Int → Option ((Y4 × (Bool × Unit)) × Unit) := fun (p1 : Y2) (n4 : Int) (best5 : Y4) (a6 : Int) (b7 : Int) => kX ([.u, .val (.ptr (.pair (.sl (.sl I)) .unit)) (.o .i) p1, .u, .u, .val I .i n4, .val (.sl I) (.o .i) best5, .val I .i a6, .val I .i b7] ++ List.replicate 79 .u)
noncomputable abbrev zz88_E12 (kX : St → Option ((Y4 × (Bool × Unit)) × Unit)) (kO : Nat → St → Option ((Y4 × (Bool × Unit)) × Unit)) : Ex → St → Option ((Y4 × (Bool × Unit)) × Unit) := exK zz88_z 4 ((A_zz88).shape 21) kX kO
theorem zz88_step12 (N : Nat) (m : Nat) (kX : St → Option ((Y4 × (Bool × Unit)) × Unit)) (kO : Nat → St → Option ((Y4 × (Bool × Unit)) × Unit)) (p1 : Y2) (n4 : Int) (best5 : Y4) (a6 : Int) (b7 : Int) (c8 : Int) : zz88_R12 N (m + 1) (zz88_E12 kX kO) p1 n4 best5 a6 b7 c8 = zz88_b12 (zz88_R12 N m (zz88_E12 kX kO)) (zz88_X12 kX) p1 n4 best5 a6 b7 c8 := by kernel_rfl
theorem zz88_iter12 (N : Nat) (kX : St → Option ((Y4 × (Bool × Unit)) × Unit)) (kO : Nat → St → Option ((Y4 × (Bool × Unit)) × Unit)) : ∀ (n : Nat) (p1 : Y2) (n4 : Int) (best5 : Y4) (a6 : Int) (b7 : Int) (c8 : Int), zz88_R12 N n (zz88_E12 kX kO) p1 n4 best5 a6 b7 c8 = zz88_l12 N (zz88_X12 kX) n p1 n4 best5 a6 b7 c8
  | 0, _, _, _, _, _, _ => rfl
  | m + 1, p1, n4, best5, a6, b7, c8 => by
    have hrec : zz88_R12 N m (zz88_E12 kX kO) = (zz88_l12 N (zz88_X12 kX) m) := (funext fun p1 => (funext fun n4 => (funext fun best5 => (funext fun a6 => (funext fun b7 => (funext fun c8 => zz88_iter12 N kX kO m p1 n4 best5 a6 b7 c8))))))
    refine (zz88_step12 N m kX kO p1 n4 best5 a6 b7 c8).trans ?_
    rw [hrec]
    rfl
noncomputable abbrev zz88_K12 (N : Nat) (m : Nat) (kX : St → Option ((Y4 × (Bool × Unit)) × Unit)) (kO : Nat → St → Option ((Y4 × (Bool × Unit)) × Unit)) : Ex → St → Option ((Y4 × (Bool × Unit)) × Unit) := (blockK 4 (blockK 3 (seqK ((A_zz88).shape 21) (run (A_zz88) N (codeAt Try.f36 [1, 1, 1, 1, 0, 1, 0, 0, 1, 0, 0, 1, 0, 0, 1, 1])) (iterK ((A_zz88).shape 18) (run (A_zz88) N (codeAt Try.f36 [1, 1, 1, 1, 0, 1, 0, 0, 1, 0, 0, 1, 0, 0])) m (zz88_E9 kX kO)))))
noncomputable abbrev zz88_k12 (N : Nat) (m : Nat) (kX : St → Option ((Y4 × (Bool × Unit)) × Unit)) (kO : Nat → St → Option ((Y4 × (Bool × Unit)) × Unit)) : St → Option ((Y4 × (Bool × Unit)) × Unit) := fun st' => run (A_zz88) N (codeAt Try.f36 [1, 1, 1, 1, 0, 1, 0, 0, 1, 0, 0, 1, 0, 0, 1, 1]) st' (iterK ((A_zz88).shape 18) (run (A_zz88) N (codeAt Try.f36 [1, 1, 1, 1, 0, 1, 0, 0, 1, 0, 0, 1, 0, 0])) m (zz88_E9 kX kO))
theorem zz88_after12 (N : Nat) (m : Nat) (kX : St → Option ((Y4 × (Bool × Unit)) × Unit)) (kO : Nat → St → Option ((Y4 × (Bool × Unit)) × Unit)) (p1 : Y2) (n4 : Int) (best5 : Y4) (a6 : Int) (b7 : Int) : zz88_X12 (zz88_k12 N m kX kO) p1 n4 best5 a6 b7 = zz88_a12 (zz88_R9 N m (zz88_E9 kX kO)) p1 n4 best5 a6 b7 := by kernel_rfl
theorem zz88_in12 (N : Nat) (m : Nat) (kX : St → Option ((Y4 × (Bool × Unit)) × Unit)) (kO : Nat → St → Option ((Y4 × (Bool × Unit)) × Unit)) (recF : Y2 → Int → Y4 → Int → Int → Option ((Y4 × (Bool × Unit)) × Unit)) (hrec : zz88_R9 N m (zz88_E9 kX kO) = recF) (p1 : Y2) (n4 : Int) (best5 : Y4) (a6 : Int) (b7 : Int) (c8 : Int) : zz88_R12 N N (zz88_K12 N m kX kO) p1 n4 best5 a6 b7 c8 = zz88_F12 N recF (zz88_X9 kX) p1 n4 best5 a6 b7 c8 :=
  have h : zz88_X12 (zz88_k12 N m kX kO) = (zz88_a12 recF) := (funext fun p1 => (funext fun n4 => (funext fun best5 => (funext fun a6 => (funext fun b7 => (zz88_after12 N m kX kO p1 n4 best5 a6 b7).trans (by rw [hrec]))))))
  ((iter_ex (fun st => by kernel_rfl) (fun st => by kernel_rfl)).trans (zz88_iter12 N (zz88_k12 N m kX kO) (fun j st => (zz88_K12 N m kX kO) (.exit j) st) N p1 n4 best5 a6 b7 c8)).trans (congrArg (fun k => zz88_l12 N k N p1 n4 best5 a6 b7 c8) h)
theorem zz88_step9 (N : Nat) (m : Nat) (kX : St → Option ((Y4 × (Bool × Unit)) × Unit)) (kO : Nat → St → Option ((Y4 × (Bool × Unit)) × Unit)) (p1 : Y2) (n4 : Int) (best5 : Y4) (a6 : Int) (b7 : Int) : zz88_R9 N (m + 1) (zz88_E9 kX kO) p1 n4 best5 a6 b7 = zz88_b9 (zz88_R12 N N (zz88_K12 N m kX kO)) (zz88_X9 kX) p1 n4 best5 a6 b7 := by kernel_rfl
theorem zz88_iter9 (N : Nat) (kX : St → Option ((Y4 × (Bool × Unit)) × Unit)) (kO : Nat → St → Option ((Y4 × (Bool × Unit)) × Unit)) : ∀ (n : Nat) (p1 : Y2) (n4 : Int) (best5 : Y4) (a6 : Int) (b7 : Int), zz88_R9 N n (zz88_E9 kX kO) p1 n4 best5 a6 b7 = zz88_l9 N (zz88_X9 kX) n p1 n4 best5 a6 b7
  | 0, _, _, _, _, _ => rfl
  | m + 1, p1, n4, best5, a6, b7 => by
    have hrec : zz88_R9 N m (zz88_E9 kX kO) = (zz88_l9 N (zz88_X9 kX) m) := (funext fun p1 => (funext fun n4 => (funext fun best5 => (funext fun a6 => (funext fun b7 => zz88_iter9 N kX kO m p1 n4 best5 a6 b7)))))
    refine (zz88_step9 N m kX kO p1 n4 best5 a6 b7).trans ?_
    rw [(funext fun p1 => (funext fun n4 => (funext fun best5 => (funext fun a6 => (funext fun b7 => (funext fun c8 => zz88_in12 N m kX kO (zz88_l9 N (zz88_X9 kX) m) hrec p1 n4 best5 a6 b7 c8))))))]
    rfl
noncomputable abbrev zz88_K9 (N : Nat) (m : Nat) (kX : St → Option ((Y4 × (Bool × Unit)) × Unit)) (kO : Nat → St → Option ((Y4 × (Bool × Unit)) × Unit)) : Ex → St → Option ((Y4 × (Bool × Unit)) × Unit) := (blockK 2 (blockK 1 (seqK ((A_zz88).shape 15) (run (A_zz88) N (codeAt Try.f36 [1, 1, 1, 1, 0, 1, 0, 0, 1, 1])) (iterK ((A_zz88).shape 12) (run (A_zz88) N (codeAt Try.f36 [1, 1, 1, 1, 0, 1, 0, 0])) m (zz88_E6 kX kO)))))
noncomputable abbrev zz88_k9 (N : Nat) (m : Nat) (kX : St → Option ((Y4 × (Bool × Unit)) × Unit)) (kO : Nat → St → Option ((Y4 × (Bool × Unit)) × Unit)) : St → Option ((Y4 × (Bool × Unit)) × Unit) := fun st' => run (A_zz88) N (codeAt Try.f36 [1, 1, 1, 1, 0, 1, 0, 0, 1, 1]) st' (iterK ((A_zz88).shape 12) (run (A_zz88) N (codeAt Try.f36 [1, 1, 1, 1, 0, 1, 0, 0])) m (zz88_E6 kX kO))
theorem zz88_after9 (N : Nat) (m : Nat) (kX : St → Option ((Y4 × (Bool × Unit)) × Unit)) (kO : Nat → St → Option ((Y4 × (Bool × Unit)) × Unit)) (p1 : Y2) (n4 : Int) (best5 : Y4) (a6 : Int) : zz88_X9 (zz88_k9 N m kX kO) p1 n4 best5 a6 = zz88_a9 (zz88_R6 N m (zz88_E6 kX kO)) p1 n4 best5 a6 := by kernel_rfl
theorem zz88_in9 (N : Nat) (m : Nat) (kX : St → Option ((Y4 × (Bool × Unit)) × Unit)) (kO : Nat → St → Option ((Y4 × (Bool × Unit)) × Unit)) (recF : Y2 → Int → Y4 → Int → Option ((Y4 × (Bool × Unit)) × Unit)) (hrec : zz88_R6 N m (zz88_E6 kX kO) = recF) (p1 : Y2) (n4 : Int) (best5 : Y4) (a6 : Int) (b7 : Int) : zz88_R9 N N (zz88_K9 N m kX kO) p1 n4 best5 a6 b7 = zz88_F9 N recF (zz88_X6 kX) p1 n4 best5 a6 b7 :=
  have h : zz88_X9 (zz88_k9 N m kX kO) = (zz88_a9 recF) := (funext fun p1 => (funext fun n4 => (funext fun best5 => (funext fun a6 => (zz88_after9 N m kX kO p1 n4 best5 a6).trans (by rw [hrec])))))
  ((iter_ex (fun st => by kernel_rfl) (fun st => by kernel_rfl)).trans (zz88_iter9 N (zz88_k9 N m kX kO) (fun j st => (zz88_K9 N m kX kO) (.exit j) st) N p1 n4 best5 a6 b7)).trans (congrArg (fun k => zz88_l9 N k N p1 n4 best5 a6 b7) h)
theorem zz88_step6 (N : Nat) (m : Nat) (kX : St → Option ((Y4 × (Bool × Unit)) × Unit)) (kO : Nat → St → Option ((Y4 × (Bool × Unit)) × Unit)) (p1 : Y2) (n4 : Int) (best5 : Y4) (a6 : Int) : zz88_R6 N (m + 1) (zz88_E6 kX kO) p1 n4 best5 a6 = zz88_b6 (zz88_R9 N N (zz88_K9 N m kX kO)) (zz88_X6 kX) p1 n4 best5 a6 := by kernel_rfl
theorem zz88_iter6 (N : Nat) (kX : St → Option ((Y4 × (Bool × Unit)) × Unit)) (kO : Nat → St → Option ((Y4 × (Bool × Unit)) × Unit)) : ∀ (n : Nat) (p1 : Y2) (n4 : Int) (best5 : Y4) (a6 : Int), zz88_R6 N n (zz88_E6 kX kO) p1 n4 best5 a6 = zz88_l6 N (zz88_X6 kX) n p1 n4 best5 a6
  | 0, _, _, _, _ => rfl
  | m + 1, p1, n4, best5, a6 => by
    have hrec : zz88_R6 N m (zz88_E6 kX kO) = (zz88_l6 N (zz88_X6 kX) m) := (funext fun p1 => (funext fun n4 => (funext fun best5 => (funext fun a6 => zz88_iter6 N kX kO m p1 n4 best5 a6))))
    refine (zz88_step6 N m kX kO p1 n4 best5 a6).trans ?_
    rw [(funext fun p1 => (funext fun n4 => (funext fun best5 => (funext fun a6 => (funext fun b7 => zz88_in9 N m kX kO (zz88_l6 N (zz88_X6 kX) m) hrec p1 n4 best5 a6 b7)))))]
    rfl
noncomputable abbrev zz88_K6 (N : Nat) : Ex → St → Option ((Y4 × (Bool × Unit)) × Unit) := (blockK 0 (seqK ((A_zz88).shape 39) (run (A_zz88) N (codeAt Try.f36 [1, 1, 1, 1, 1])) zz88_z))
noncomputable abbrev zz88_k6 (N : Nat) : St → Option ((Y4 × (Bool × Unit)) × Unit) := fun st' => run (A_zz88) N (codeAt Try.f36 [1, 1, 1, 1, 1]) st' zz88_z
theorem zz88_after6 (N : Nat) (best5 : Y4) : zz88_X6 (zz88_k6 N) best5 = zz88_a6 best5 := by kernel_rfl
theorem zz88_in6 (N : Nat) (p1 : Y2) (n4 : Int) (best5 : Y4) (a6 : Int) : zz88_R6 N N (zz88_K6 N) p1 n4 best5 a6 = zz88_F6 N p1 n4 best5 a6 :=
  have h : zz88_X6 (zz88_k6 N) = (zz88_a6) := (funext fun best5 => zz88_after6 N best5)
  ((iter_ex (fun st => by kernel_rfl) (fun st => by kernel_rfl)).trans (zz88_iter6 N (zz88_k6 N) (fun j st => (zz88_K6 N) (.exit j) st) N p1 n4 best5 a6)).trans (congrArg (fun k => zz88_l6 N k N p1 n4 best5 a6) h)
theorem run0_zz88 (N : Nat) (x : (S_zz88).a.den) : runF (A_zz88) N Try.f36 S_zz88 x = (zz88_s (zz88_R6 N N (zz88_K6 N)) x.1) := by kernel_rfl
theorem run_zz88 (N : Nat) (x : (S_zz88).a.den) : runF (A_zz88) N Try.f36 S_zz88 x = zz88 N x.1 := by
  refine (run0_zz88 N x).trans ?_
  rw [(funext fun p1 => (funext fun n4 => (funext fun best5 => (funext fun a6 => zz88_in6 N p1 n4 best5 a6))))]
  rfl
theorem fn_zz88 : FnOk Try.prog 36 := ⟨_, Try.func36, by kernel_rfl, by kernel_rfl⟩
theorem good_zz88 : Gx.Good Try.prog 36 S_zz88 := good_of_run Try.func36 (of_decide_eq_true (by kernel_rfl)) fun x r h => ⟨A_zz88, big, mkCfg_ok tabOk, mkCfg_sigs (show SigsOk Try.prog [(57, S_zz14), (76, S_zz17), (77, S_zz18), (82, S_zz55), (78, S_zz79), (79, S_zz80)] from ⟨⟨fn_zz14, good_zz14⟩, ⟨fn_zz17, good_zz17⟩, ⟨fn_zz18, good_zz18⟩, ⟨fn_zz55, good_zz55⟩, ⟨fn_zz79, good_zz79⟩, ⟨fn_zz80, good_zz80⟩, trivial⟩), (run_zz88 big x).trans h⟩

/-! zz89 -/
def zz89_s (l_0 : Y1) (o_1 : Int) (a_2 : Int) (b_3 : Int) (c_4 : Int) (i_5 : Int) : Option (Bool × Unit) :=
  (l_0).bind fun xq1 =>
  (zz60 xq1.1 a_2 b_3).bind fun rq2 =>
  cond rq2.1
  ((l_0).bind fun xq3 =>
  (atI xq3.2.1 b_3).bind fun xq4 =>
  (atI xq4 c_4).bind fun xq5 =>
  cond (decide (xq5 = o_1))
  ((l_0).bind fun xq6 =>
  (atI xq6.2.2.1 b_3).bind fun xq7 =>
  (atI xq7 c_4).bind fun xq8 =>
  some (decide (xq8 = i_5), (())))
  (some (false, (()))))
  (some (false, (())))
def zz89 (l_0 : Y1) (o_1 : Int) (a_2 : Int) (b_3 : Int) (c_4 : Int) (i_5 : Int) : Option (Bool × Unit) := zz89_s l_0 o_1 a_2 b_3 c_4 i_5
def S_zz89 : Sig := { a := (.pair (.opt (.pair (.sl (.sl .bool)) (.pair (.sl (.sl I)) (.pair (.sl (.sl I)) .unit)))) (.pair I (.pair I (.pair I (.pair I (.pair I .unit)))))), md := [0, 0, 0, 0, 0, 0], mf := [], m := .unit, r := .bool, rf := .i, f := fun x => zz89 x.1 x.2.1 x.2.2.1 x.2.2.2.1 x.2.2.2.2.1 x.2.2.2.2.2.1 }
def A_zz89 : Cfg := mkCfg tab [(84, S_zz60)] []
theorem run_zz89 (N : Nat) (x : (S_zz89).a.den) : runF (A_zz89) N Try.f83 S_zz89 x = zz89 x.1 x.2.1 x.2.2.1 x.2.2.2.1 x.2.2.2.2.1 x.2.2.2.2.2.1 := by kernel_rfl
theorem fn_zz89 : FnOk Try.prog 83 := ⟨_, Try.func83, by kernel_rfl, by kernel_rfl⟩
theorem good_zz89 : Gx.Good Try.prog 83 S_zz89 := good_of_run Try.func83 (of_decide_eq_true (by kernel_rfl)) fun x r h => ⟨A_zz89, big, mkCfg_ok tabOk, mkCfg_sigs (show SigsOk Try.prog [(84, S_zz60)] from ⟨⟨fn_zz60, good_zz60⟩, trivial⟩), (run_zz89 big x).trans h⟩

/-! zz90 -/
def zz90_b12 (rec : Unit → Y1 → Y4 → Int → Int → Int → Int → Int → Int → Int → Int → Option ((Y4 × (Bool × Unit)) × Unit)) (k : Unit → Y1 → Y4 → Int → Int → Int → Int → Int → Option ((Y4 × (Bool × Unit)) × Unit)) (good1 : Unit) (l6 : Y1) (best8 : Y4) (a9 : Int) (b10 : Int) (t26 : Int) (t27 : Int) (t34 : Int) (t35 : Int) (t42 : Int) (t43 : Int) : Option ((Y4 × (Bool × Unit)) × Unit) :=
  cond (decide (t43 < t42))
  ((l6).bind fun xq5 =>
  (atI xq5.2.1 a9).bind fun xq6 =>
  (atI xq6 t43).bind fun xq7 =>
  (l6).bind fun xq8 =>
  (atI xq8.2.2.1 a9).bind fun xq9 =>
  (atI xq9 t43).bind fun xq10 =>
  (zz83 big [xq7, a9, b10, t43, xq10]).bind fun rq11 =>
  cond (!rq11.1)
  (rec good1 l6 best8 a9 b10 t26 t27 t34 t35 t42 (IntKind.i64.wrap (t43 + (1 : Int))))
  ((atI [xq7, a9, b10, t43, xq10] (0 : Int)).bind fun _ =>
  ([xq7, a9, b10, t43, xq10][(0 : Int).toNat]?).bind fun xq12 =>
  (atI [xq7, a9, b10, t43, xq10] (4 : Int)).bind fun _ =>
  ([xq7, a9, b10, t43, xq10][(4 : Int).toNat]?).bind fun xq13 =>
  (zz89 l6 xq12 a9 b10 t43 xq13).bind fun rq14 =>
  cond (!rq14.1)
  (rec good1 l6 best8 a9 b10 t26 t27 t34 t35 t42 (IntKind.i64.wrap (t43 + (1 : Int))))
  (cond (decide ((best8.length : Int) = (0 : Int)))
  (rec good1 l6 [xq7, a9, b10, t43, xq10] a9 b10 t26 t27 t34 t35 t42 (IntKind.i64.wrap (t43 + (1 : Int))))
  ((zz84 big [xq7, a9, b10, t43, xq10] best8).bind fun rq15 =>
  cond (decide (rq15.1 < (0 : Int)))
  (rec good1 l6 [xq7, a9, b10, t43, xq10] a9 b10 t26 t27 t34 t35 t42 (IntKind.i64.wrap (t43 + (1 : Int))))
  (rec good1 l6 best8 a9 b10 t26 t27 t34 t35 t42 (IntKind.i64.wrap (t43 + (1 : Int))))))))
  (k good1 l6 best8 a9 t26 t27 t34 t35)
def zz90_a12 (rec : Unit → Y1 → Y4 → Int → Int → Int → Int → Int → Option ((Y4 × (Bool × Unit)) × Unit)) (good1 : Unit) (l6 : Y1) (best8 : Y4) (a9 : Int) (t26 : Int) (t27 : Int) (t34 : Int) (t35 : Int) : Option ((Y4 × (Bool × Unit)) × Unit) :=
  rec good1 l6 best8 a9 t26 t27 t34 (IntKind.i64.wrap (t35 + (1 : Int)))
def zz90_b9 (L12 : Unit → Y1 → Y4 → Int → Int → Int → Int → Int → Int → Int → Int → Option ((Y4 × (Bool × Unit)) × Unit)) (k : Unit → Y1 → Y4 → Int → Int → Option ((Y4 × (Bool × Unit)) × Unit)) (good1 : Unit) (l6 : Y1) (best8 : Y4) (a9 : Int) (t26 : Int) (t27 : Int) (t34 : Int) (t35 : Int) : Option ((Y4 × (Bool × Unit)) × Unit) :=
  cond (decide (t35 < t34))
  ((l6).bind fun xq4 =>
  L12 good1 l6 best8 a9 t35 t26 t27 t34 t35 (xq4.1.length : Int) (0 : Int))
  (k good1 l6 best8 t26 t27)
def zz90_a9 (rec : Unit → Y1 → Y4 → Int → Int → Option ((Y4 × (Bool × Unit)) × Unit)) (good1 : Unit) (l6 : Y1) (best8 : Y4) (t26 : Int) (t27 : Int) : Option ((Y4 × (Bool × Unit)) × Unit) :=
  rec good1 l6 best8 t26 (IntKind.i64.wrap (t27 + (1 : Int)))
def zz90_b6 (L9 : Unit → Y1 → Y4 → Int → Int → Int → Int → Int → Option ((Y4 × (Bool × Unit)) × Unit)) (k : Y4 → Option ((Y4 × (Bool × Unit)) × Unit)) (good1 : Unit) (l6 : Y1) (best8 : Y4) (t26 : Int) (t27 : Int) : Option ((Y4 × (Bool × Unit)) × Unit) :=
  cond (decide (t27 < t26))
  ((l6).bind fun xq3 =>
  L9 good1 l6 best8 t27 t26 t27 (xq3.1.length : Int) (0 : Int))
  (k best8)
def zz90_a6 (best8 : Y4) : Option ((Y4 × (Bool × Unit)) × Unit) :=
  some ((best8, decide ((0 : Int) < (best8.length : Int)), ()), (()))
def zz90_s (L6 : Unit → Y1 → Y4 → Int → Int → Option ((Y4 × (Bool × Unit)) × Unit)) (p_0 : Y2) (good_1 : Unit) : Option ((Y4 × (Bool × Unit)) × Unit) :=
  (zz32 p_0).bind fun rq1 =>
  cond (!rq1.1.2.1)
  (some (([], false, ()), (())))
  ((rq1.1.1).bind fun xq2 =>
  L6 good_1 rq1.1.1 [] (xq2.1.length : Int) (0 : Int))
def zz90_l12 (N : Nat) (k : Unit → Y1 → Y4 → Int → Int → Int → Int → Int → Option ((Y4 × (Bool × Unit)) × Unit)) : Nat → Unit → Y1 → Y4 → Int → Int → Int → Int → Int → Int → Int → Int → Option ((Y4 × (Bool × Unit)) × Unit)
  | 0, _, _, _, _, _, _, _, _, _, _, _ => none
  | m + 1, good1, l6, best8, a9, b10, t26, t27, t34, t35, t42, t43 => zz90_b12 (zz90_l12 N k m) k good1 l6 best8 a9 b10 t26 t27 t34 t35 t42 t43
def zz90_F12 (N : Nat) (rec : Unit → Y1 → Y4 → Int → Int → Int → Int → Int → Option ((Y4 × (Bool × Unit)) × Unit)) (k : Unit → Y1 → Y4 → Int → Int → Option ((Y4 × (Bool × Unit)) × Unit)) (good1 : Unit) (l6 : Y1) (best8 : Y4) (a9 : Int) (b10 : Int) (t26 : Int) (t27 : Int) (t34 : Int) (t35 : Int) (t42 : Int) (t43 : Int) : Option ((Y4 × (Bool × Unit)) × Unit) := zz90_l12 N (zz90_a12 rec) N good1 l6 best8 a9 b10 t26 t27 t34 t35 t42 t43
def zz90_l9 (N : Nat) (k : Unit → Y1 → Y4 → Int → Int → Option ((Y4 × (Bool × Unit)) × Unit)) : Nat → Unit → Y1 → Y4 → Int → Int → Int → Int → Int → Option ((Y4 × (Bool × Unit)) × Unit)
  | 0, _, _, _, _, _, _, _, _ => none
  | m + 1, good1, l6, best8, a9, t26, t27, t34, t35 => zz90_b9 (zz90_F12 N (zz90_l9 N k m) k) k good1 l6 best8 a9 t26 t27 t34 t35
def zz90_F9 (N : Nat) (rec : Unit → Y1 → Y4 → Int → Int → Option ((Y4 × (Bool × Unit)) × Unit)) (k : Y4 → Option ((Y4 × (Bool × Unit)) × Unit)) (good1 : Unit) (l6 : Y1) (best8 : Y4) (a9 : Int) (t26 : Int) (t27 : Int) (t34 : Int) (t35 : Int) : Option ((Y4 × (Bool × Unit)) × Unit) := zz90_l9 N (zz90_a9 rec) N good1 l6 best8 a9 t26 t27 t34 t35
def zz90_l6 (N : Nat) (k : Y4 → Option ((Y4 × (Bool × Unit)) × Unit)) : Nat → Unit → Y1 → Y4 → Int → Int → Option ((Y4 × (Bool × Unit)) × Unit)
  | 0, _, _, _, _, _ => none
  | m + 1, good1, l6, best8, t26, t27 => zz90_b6 (zz90_F9 N (zz90_l6 N k m) k) k good1 l6 best8 t26 t27
def zz90_F6 (N : Nat) (good1 : Unit) (l6 : Y1) (best8 : Y4) (t26 : Int) (t27 : Int) : Option ((Y4 × (Bool × Unit)) × Unit) := zz90_l6 N (zz90_a6) N good1 l6 best8 t26 t27
def zz90 (N : Nat) (p_0 : Y2) (good_1 : Unit) : Option ((Y4 × (Bool × Unit)) × Unit) := zz90_s (zz90_F6 N) p_0 good_1
def S_zz90 : Sig := { a := (.pair (.pair (.sl (.sl I)) .unit) (.pair (.clo 83 0 .unit) .unit)), md := [0, 0], mf := [], m := .unit, r := (.tup (.pair (.sl I) (.pair .bool .unit))), rf := (.p (.o .i) .i), f := fun x => zz90 big x.1 x.2.1 }
def A_zz90 : Cfg := mkCfg tab [(68, S_zz32), (126, S_zz83), (83, S_zz89), (127, S_zz84)] [(12, [.drop, .as (.clo 83 0 .unit) .i, .drop, .drop, .drop, .drop, .as (.opt (.pair (.sl (.sl .bool)) (.pair (.sl (.sl I)) (.pair (.sl (.sl I)) .unit)))) .i, .drop, .as (.sl I) (.o .i), .drop, .drop, .drop, .drop, .drop, .drop, .drop, .drop, .drop, .drop, .drop, .drop, .drop, .drop, .drop, .drop, .drop, .as I .i, .as I .i]), (18, [.drop, .as (.clo 83 0 .unit) .i, .drop, .drop, .drop, .drop, .as (.opt (.pair (.sl (.sl .bool)) (.pair (.sl (.sl I)) (.pair (.sl (.sl I)) .unit)))) .i, .drop, .as (.sl I) (.o .i), .as I .i, .drop, .drop, .drop, .drop, .drop, .drop, .drop, .drop, .drop, .drop, .drop, .drop, .drop, .drop, .drop, .drop, .as I .i, .as I .i, .drop, .drop, .drop, .drop, .drop, .drop, .as I .i, .as I .i]), (43, [.drop, .drop, .drop, .drop, .drop, .drop, .drop, .drop, .as (.sl I) (.o .i)]), (24, [.drop, .as (.clo 83 0 .unit) .i, .drop, .drop, .drop, .drop, .as (.opt (.pair (.sl (.sl .bool)) (.pair (.sl (.sl I)) (.pair (.sl (.sl I)) .unit)))) .i, .drop, .as (.sl I) (.o .i), .as I .i, .as I .i, .drop, .drop, .drop, .drop, .drop, .drop, .drop, .drop, .drop, .drop, .drop, .drop, .drop, .drop, .drop, .as I .i, .as I .i, .drop, .drop, .drop, .drop, .drop, .drop, .as I .i, .as I .i, .drop, .drop, .drop, .drop, .drop, .drop, .as I .i, .as I .i]), (41, [.drop, .as (.clo 83 0 .unit) .i, .drop, .drop, .drop, .drop, .as (.opt (.pair (.sl (.sl .bool)) (.pair (.sl (.sl I)) (.pair (.sl (.sl I)) .unit)))) .i, .drop, .as (.sl I) (.o .i), .drop, .drop, .drop, .drop, .drop, .drop, .drop, .drop, .drop, .drop, .drop, .drop, .drop, .drop, .drop, .drop, .drop, .as I .i, .as I .i]), (39, [.drop, .as (.clo 83 0 .unit) .i, .drop, .drop, .drop, .drop, .as (.opt (.pair (.sl (.sl .bool)) (.pair (.sl (.sl I)) (.pair (.sl (.sl I)) .unit)))) .i, .drop, .as (.sl I) (.o .i), .as I .i, .drop, .drop, .drop, .drop, .drop, .drop, .drop, .drop, .drop, .drop, .drop, .drop, .drop, .drop, .drop, .drop, .as I .i, .as I .i, .drop, .drop, .drop, .drop, .drop, .drop, .as I .i, .as I .i])]
noncomputable def zz90_R6 (N n : Nat) (K : Ex → St → Option ((Y4 × (Bool × Unit)) × Unit)) (good1 : Unit) (l6 : Y1) (best8 : Y4) (t26 : Int) (t27 : Int) : Option ((Y4 × (Bool × Unit)) × Unit) := iter ((A_zz90).shape 12) (run (A_zz90) N (codeAt Try.f80 [1, 1, 1, 1, 0, 1, 0, 0])) n ([.u, .val (.clo 83 0 .unit) .i good1, .u, .u, .u, .u, .val (.opt (.pair (.sl (.sl .bool)) (.pair (.sl (.sl I)) (.pair (.sl (.sl I)) .unit)))) .i l6, .u, .val (.sl I) (.o .i) best8, .u, .u, .u, .u, .u, .u, .u, .u, .u, .u, .u, .u, .u, .u, .u, .u, .u, .val I .i t26, .val I .i t27] ++ List.replicate 77 .u) K
noncomputable def zz90_R9 (N n : Nat) (K : Ex → St → Option ((Y4 × (Bool × Unit)) × Unit)) (good1 : Unit) (l6 : Y1) (best8 : Y4) (a9 : Int) (t26 : Int) (t27 : Int) (t34 : Int) (t35 : Int) : Option ((Y4 × (Bool × Unit)) × Unit) := iter ((A_zz90).shape 18) (run (A_zz90) N (codeAt Try.f80 [1, 1, 1, 1, 0, 1, 0, 0, 1, 1, 0, 0, 1, 1, 0, 0])) n ([.u, .val (.clo 83 0 .unit) .i good1, .u, .u, .u, .u, .val (.opt (.pair (.sl (.sl .bool)) (.pair (.sl (.sl I)) (.pair (.sl (.sl I)) .unit)))) .i l6, .u, .val (.sl I) (.o .i) best8, .val I .i a9, .u, .u, .u, .u, .u, .u, .u, .u, .u, .u, .u, .u, .u, .u, .u, .u, .val I .i t26, .val I .i t27, .u, .u, .u, .u, .u, .u, .val I .i t34, .val I .i t35] ++ List.replicate 69 .u) K
noncomputable def zz90_R12 (N n : Nat) (K : Ex → St → Option ((Y4 × (Bool × Unit)) × Unit)) (good1 : Unit) (l6 : Y1) (best8 : Y4) (a9 : Int) (b10 : Int) (t26 : Int) (t27 : Int) (t34 : Int) (t35 : Int) (t42 : Int) (t43 : Int) : Option ((Y4 × (Bool × Unit)) × Unit) := iter ((A_zz90).shape 24) (run (A_zz90) N (codeAt Try.f80 [1, 1, 1, 1, 0, 1, 0, 0, 1, 1, 0, 0, 1, 1, 0, 0, 1, 1, 0, 0, 1, 1, 0, 0])) n ([.u, .val (.clo 83 0 .unit) .i good1, .u, .u, .u, .u, .val (.opt (.pair (.sl (.sl .bool)) (.pair (.sl (.sl I)) (.pair (.sl (.sl I)) .unit)))) .i l6, .u, .val (.sl I) (.o .i) best8, .val I .i a9, .val I .i b10, .u, .u, .u, .u, .u, .u, .u, .u, .u, .u, .u, .u, .u, .u, .u, .val I .i t26, .val I .i t27, .u, .u, .u, .u, .u, .u, .val I .i t34, .val I .i t35, .u, .u, .u, .u, .u, .u, .val I .i t42, .val I .i t43] ++ List.replicate 61 .u) K
noncomputable abbrev zz90_z : Ex → St → Option ((Y4 × (Bool × Unit)) × Unit) := finish (A_zz90) S_zz90 Try.f80.results.toList
noncomputable abbrev zz90_X6 (kX : St → Option ((Y4 × (Bool × Unit)) × Unit)) : Y4 → Option ((Y4 × (Bool × Unit)) × Unit) := fun (best8 : Y4) => kX ([.u, .u, .u, .u, .u, .u, .u, .u, .val (.sl I) (.o .i) best8] ++ List.replicate 96 .u)
noncomputable abbrev zz90_E6 (kX : St → Option ((Y4 × (Bool × Unit)) × Unit)) (kO : Nat → St → Option ((Y4 × (Bool × Unit)) × Unit)) : Ex → St → Option ((Y4 × (Bool × Unit)) × Unit) := exK zz90_z 0 ((A_zz90).shape 43) kX kO
noncomputable abbrev zz90_X9 (kX : St → Option ((Y4 × (Bool × Unit)) × Unit)) : Unit → Y1 → Y4 → Int → Int → Option ((Y4 × (Bool × Unit)) × Unit) := fun (good1 : Unit) (l6 : Y1) (best8 : Y4) (t26 : Int) (t27 : Int) => kX ([.u, .val (.clo 83 0 .unit) .i good1, .u, .u, .u, .u, .val (.opt (.pair (.sl (.sl .bool)) (.pair (.sl (.sl I)) (.pair (.sl (.sl I)) .unit)))) .i l6, .u, .val (.sl I) (.o .i) best8, .u, .u, .u, .u, .u, .u, .u, .u, .u, .u, .u, .u, .u, .u, .u, .u, .u, .val I .i t26, .val I .i t27] ++ List.replicate 77 .u)
noncomputable abbrev zz90_E9 (kX : St → Option ((Y4 × (Bool × Unit)) × Unit)) (kO : Nat → St → Option ((Y4 × (Bool × Unit)) × Unit)) : Ex → St → Option ((Y4 × (Bool × Unit)) × Unit) := exK zz90_z 2 ((A_zz90).shape 41) kX kO
noncomputable abbrev zz90_X12 (kX : St → Option ((Y4 × (Bool × Unit)) × Unit)) : Unit → Y1 → Y4 → Int → Int → Int → Int → Int → Option ((Y4 × (Bool × Unit)) × Unit) := fun (good1 : Unit) (l6 : Y1) (best8 : Y4) (a9 : Int) (t26 : Int) (t27 : Int) (t34 : Int) (t35 : Int) => kX ([.u, .val (.clo 83 0 .unit) .i good1, .u, .u, .u, .u, .val (.opt (.pair (.sl (.sl .bool)) (.pair (.sl (.sl I)) (.pair (.sl (.sl I)) .unit)))) .i l6, .u, .val (.sl I) (.o .i) best8, .val I .i a9, .u, .u, .u, .u, .u, .u, .u, .u, .u, .u, .u, .u, .u, .u, .u, .u, .val I .i t26, .val I .i t27, .u, .u, .u, .u, .u, .u, .val I .i t34, .val I .i t35] ++ List.replicate 69 .u)
noncomputable abbrev zz90_E12 (kX : St → Option ((Y4 × (Bool × Unit)) × Unit)) (kO : Nat → St → Option ((Y4 × (Bool × Unit)) × Unit)) : Ex → St → Option ((Y4 × (Bool × Unit)) × Unit) := exK zz90_z 4 ((A_zz90).shape 39) kX kO
theorem zz90_step12 (N : Nat) (m : Nat) (kX : St → Option ((Y4 × (Bool × Unit)) × Unit)) (kO : Nat → St → Option ((Y4 × (Bool × Unit)) × Unit)) (good1 : Unit) (l6 : Y1) (best8 : Y4) (a9 : Int) (b10 : Int) (t26 : Int) (t27 : Int) (t34 : Int) (t35 : Int) (t42 : Int) (t43 : Int) : zz90_R12 N (m + 1) (zz90_E12 kX kO) good1 l6 best8 a9 b10 t26 t27 t34 t35 t42 t43 = zz90_b12 (zz90_R12 N m (zz90_E12 kX kO)) (zz90_X12 kX) good1 l6 best8 a9 b10 t26 t27 t34 t35 t42 t43 := by kernel_rfl
theorem zz90_iter12 (N : Nat) (kX : St → Option ((Y4 × (Bool × Unit)) × Unit)) (kO : Nat → St → Option ((Y4 × (Bool × Unit)) × Unit)) : ∀ (n : Nat) (good1 : Unit) (l6 : Y1) (best8 : Y4) (a9 : Int) (b10 : Int) (t26 : Int) (t27 : Int) (t34 : Int) (t35 : Int) (t42 : Int) (t43 : Int), zz90_R12 N n (zz90_E12 kX kO) good1 l6 best8 a9 b10 t26 t27 t34 t35 t42 t43 = zz90_l12 N (zz90_X12 kX) n good1 l6 best8 a9 b10 t26 t27 t34 t35 t42 t43
  | 0, _, _, _, _, _, _, _, _, _, _, _ => rfl
  | m + 1, good1, l6, best8, a9, b10, t26, t27, t34, t35, t42, t43 => by
    have hrec : zz90_R12 N m (zz90_E12 kX kO) = (zz90_l12 N (zz90_X12 kX) m) := (funext fun good1 => (funext fun l6 => (funext fun best8 => (funext fun a9 => (funext fun b10 => (funext fun t26 => (funext fun t27 => (funext fun t34 => (funext fun t35 => (funext fun t42 => (funext fun t43 => zz90_iter12 N kX kO m good1 l6 best8 a9 b10 t26 t27 t34 t35 t42 t43)))))))))))
    refine (zz90_step12 N m kX kO good1 l6 best8 a9 b10 t26 t27 t34 t35 t42 t43).trans ?_
    rw [hrec]
    rfl
noncomputable abbrev zz90_K12 (N : Nat) (m : Nat) (kX : St → Option ((Y4 × (Bool × Unit)) × Unit)) (kO : Nat → St → Option ((Y4 × (Bool × Unit)) × Unit)) : Ex → St → Option ((Y4 × (Bool × Unit)) × Unit) := (blockK 4 (blockK 3 (seqK ((A_zz90).shape 39) (run (A_zz90) N (codeAt Try.f80 [1, 1, 1, 1, 0, 1, 0, 0, 1, 1, 0, 0, 1, 1, 0, 0, 1, 1, 1])) (iterK ((A_zz90).shape 18) (run (A_zz90) N (codeAt Try.f80 [1, 1, 1, 1, 0, 1, 0, 0, 1, 1, 0, 0, 1, 1, 0, 0])) m (zz90_E9 kX kO)))))
noncomputable abbrev zz90_k12 (N : Nat) (m : Nat) (kX : St → Option ((Y4 × (Bool × Unit)) × Unit)) (kO : Nat → St → Option ((Y4 × (Bool × Unit)) × Unit)) : St → Option ((Y4 × (Bool × Unit)) × Unit) := fun st' => run (A_zz90) N (codeAt Try.f80 [1, 1, 1, 1, 0, 1, 0, 0, 1, 1, 0, 0, 1, 1, 0, 0, 1, 1, 1]) st' (iterK ((A_zz90).shape 18) (run (A_zz90) N (codeAt Try.f80 [1, 1, 1, 1, 0, 1, 0, 0, 1, 1, 0, 0, 1, 1, 0, 0])) m (zz90_E9 kX kO))
theorem zz90_after12 (N : Nat) (m : Nat) (kX : St → Option ((Y4 × (Bool × Unit)) × Unit)) (kO : Nat → St → Option ((Y4 × (Bool × Unit)) × Unit)) (good1 : Unit) (l6 : Y1) (best8 : Y4) (a9 : Int) (t26 : Int) (t27 : Int) (t34 : Int) (t35 : Int) : zz90_X12 (zz90_k12 N m kX kO) good1 l6 best8 a9 t26 t27 t34 t35 = zz90_a12 (zz90_R9 N m (zz90_E9 kX kO)) good1 l6 best8 a9 t26 t27 t34 t35 := by kernel_rfl
theorem zz90_in12 (N : Nat) (m : Nat) (kX : St → Option ((Y4 × (Bool × Unit)) × Unit)) (kO : Nat → St → Option ((Y4 × (Bool × Unit)) × Unit)) (recF : Unit → Y1 → Y4 → Int → Int → Int → Int → Int → Option ((Y4 × (Bool × Unit)) × Unit)) (hrec : zz90_R9 N m (zz90_E9 kX kO) = recF) (good1 : Unit) (l6 : Y1) (best8 : Y4) (a9 : Int) (b10 : Int) (t26 : Int) (t27 : Int) (t34 : Int) (t35 : Int) (t42 : Int) (t43 : Int) : zz90_R12 N N (zz90_K12 N m kX kO) good1 l6 best8 a9 b10 t26 t27 t34 t35 t42 t43 = zz90_F12 N recF (zz90_X9 kX) good1 l6 best8 a9 b10 t26 t27 t34 t35 t42 t43 :=
  have h : zz90_X12 (zz90_k12 N m kX kO) = (zz90_a12 recF) := (funext fun good1 => (funext fun l6 => (funext fun best8 => (funext fun a9 => (funext fun t26 => (funext fun t27 => (funext fun t34 => (funext fun t35 => (zz90_after12 N m kX kO good1 l6 best8 a9 t26 t27 t34 t35).trans (by rw [hrec])))))))))
  ((iter_ex (fun st => by kernel_rfl) (fun st => by kernel_rfl)).trans (zz90_iter12 N (zz90_k12 N m kX kO) (fun j st => (zz90_K12 N m kX kO) (.exit j) st) N good1 l6 best8 a9 b10 t26 t27 t34 t35 t42 t43)).trans (congrArg (fun k => zz90_l12 N k N good1 l6 best8 a9 b10 t26 t27 t34 t35 t42 t43) h)
theorem zz90_step9 (N : Nat) (m : Nat) (kX : St → Option ((Y4 × (Bool × Unit)) × Unit)) (kO : Nat → St → Option ((Y4 × (Bool × Unit)) × Unit)) (good1 : Unit) (l6 : Y1) (best8 : Y4) (a9 : Int) (t26 : Int) (t27 : Int) (t34 : Int) (t35 : Int) : zz90_R9 N (m + 1) (zz90_E9 kX kO) good1 l6 best8 a9 t26 t27 t34 t35 = zz90_b9 (zz90_R12 N N (zz90_K12 N m kX kO)) (zz90_X9 kX) good1 l6 best8 a9 t26 t27 t34 t35 := by kernel_rfl
theorem zz90_iter9 (N : Nat) (kX : St → Option ((Y4 × (Bool × Unit)) × Unit)) (kO : Nat → St → Option ((Y4 × (Bool × Unit)) × Unit)) : ∀ (n : Nat) (good1 : Unit) (l6 : Y1) (best8 : Y4) (a9 : Int) (t26 : Int) (t27 : Int) (t34 : Int) (t35 : Int), zz90_R9 N n (zz90_E9 kX kO) good1 l6 best8 a9 t26 t27 t34 t35 = zz90_l9 N (zz90_X9 kX) n good1 l6 best8 a9 t26 t27 t34 t35
  | 0, _, _, _, _, _, _, _, _ => rfl
  | m + 1, good1, l6, best8, a9, t26, t27, t34, t35 => by
    have hrec : zz90_R9 N m (zz90_E9 kX kO) = (zz90_l9 N (zz90_X9 kX) m) := (funext fun good1 => (funext fun l6 => (funext fun best8 => (funext fun a9 => (funext fun t26 => (funext fun t27 => (funext fun t34 => (funext fun t35 => zz90_iter9 N kX kO m good1 l6 best8 a9 t26 t27 t34 t35))))))))
    refine (zz90_step9 N m kX kO good1 l6 best8 a9 t26 t27 t34 t35).trans ?_
    rw [(funext fun good1 => (funext fun l6 => (funext fun best8 => (funext fun a9 => (funext fun b10 => (funext fun t26 => (funext fun t27 => (funext fun t34 => (funext fun t35 => (funext fun t42 => (funext fun t43 => zz90_in12 N m kX kO (zz90_l9 N (zz90_X9 kX) m) hrec good1 l6 best8 a9 b10 t26 t27 t34 t35 t42 t43)))))))))))]
    rfl
noncomputable abbrev zz90_K9 (N : Nat) (m : Nat) (kX : St → Option ((Y4 × (Bool × Unit)) × Unit)) (kO : Nat → St → Option ((Y4 × (Bool × Unit)) × Unit)) : Ex → St → Option ((Y4 × (Bool × Unit)) × Unit) := (blockK 2 (blockK 1 (seqK ((A_zz90).shape 41) (run (A_zz90) N (codeAt Try.f80 [1, 1, 1, 1, 0, 1, 0, 0, 1, 1, 1])) (iterK ((A_zz90).shape 12) (run (A_zz90) N (codeAt Try.f80 [1, 1, 1, 1, 0, 1, 0, 0])) m (zz90_E6 kX kO)))))
noncomputable abbrev zz90_k9 (N : Nat) (m : Nat) (kX : St → Option ((Y4 × (Bool × Unit)) × Unit)) (kO : Nat → St → Option ((Y4 × (Bool × Unit)) × Unit)) : St → Option ((Y4 × (Bool × Unit)) × Unit) := fun st' => run (A_zz90) N (codeAt Try.f80 [1, 1, 1, 1, 0, 1, 0, 0, 1, 1, 1]) st' (iterK ((A_zz90).shape 12) (run (A_zz90) N (codeAt Try.f80 [1, 1, 1, 1, 0, 1, 0, 0])) m (zz90_E6 kX kO))
theorem zz90_after9 (N : Nat) (m : Nat) (kX : St → Option ((Y4 × (Bool × Unit)) × Unit)) (kO : Nat → St → Option ((Y4 × (Bool × Unit)) × Unit)) (good1 : Unit) (l6 : Y1) (best8 : Y4) (t26 : Int) (t27 : Int) : zz90_X9 (zz90_k9 N m kX kO) good1 l6 best8 t26 t27 = zz90_a9 (zz90_R6 N m (zz90_E6 kX kO)) good1 l6 best8 t26 t27 := by kernel_rfl
theorem zz90_in9 (N : Nat) (m : Nat) (kX : St → Option ((Y4 × (Bool × Unit)) × Unit)) (kO : Nat → St → Option ((Y4 × (Bool × Unit)) × Unit)) (recF : Unit → Y1 → Y4 → Int → Int → Option ((Y4 × (Bool × Unit)) × Unit)) (hrec : zz90_R6 N m (zz90_E6 kX kO) = recF) (good1 : Unit) (l6 : Y1) (best8 : Y4) (a9 : Int) (t26 : Int) (t27 : Int) (t34 : Int) (t35 : Int) : zz90_R9 N N (zz90_K9 N m kX kO) good1 l6 best8 a9 t26 t27 t34 t35 = zz90_F9 N recF (zz90_X6 kX) good1 l6 best8 a9 t26 t27 t34 t35 :=
  have h : zz90_X9 (zz90_k9 N m kX kO) = (zz90_a9 recF) := (funext fun good1 => (funext fun l6 => (funext fun best8 => (funext fun t26 => (funext fun t27 => (zz90_after9 N m kX kO good1 l6 best8 t26 t27).trans (by rw [hrec]))))))
  ((iter_ex (fun st => by kernel_rfl) (fun st => by kernel_rfl)).trans (zz90_iter9 N (zz90_k9 N m kX kO) (fun j st => (zz90_K9 N m kX kO) (.exit j) st) N good1 l6 best8 a9 t26 t27 t34 t35)).trans (congrArg (fun k => zz90_l9 N k N good1 l6 best8 a9 t26 t27 t34 t35) h)
theorem zz90_step6 (N : Nat) (m : Nat) (kX : St → Option ((Y4 × (Bool × Unit)) × Unit)) (kO : Nat → St → Option ((Y4 × (Bool × Unit)) × Unit)) (good1 : Unit) (l6 : Y1) (best8 : Y4) (t26 : Int) (t27 : Int) : zz90_R6 N (m + 1) (zz90_E6 kX kO) good1 l6 best8 t26 t27 = zz90_b6 (zz90_R9 N N (zz90_K9 N m kX kO)) (zz90_X6 kX) good1 l6 best8 t26 t27 := by kernel_rfl
theorem zz90_iter6 (N : Nat) (kX : St → Option ((Y4 × (Bool × Unit)) × Unit)) (kO : Nat → St → Option ((Y4 × (Bool × Unit)) × Unit)) : ∀ (n : Nat) (good1 : Unit) (l6 : Y1) (best8 : Y4) (t26 : Int) (t27 : Int), zz90_R6 N n (zz90_E6 kX kO) good1 l6 best8 t26 t27 = zz90_l6 N (zz90_X6 kX) n good1 l6 best8 t26 t27
  | 0, _, _, _, _, _ => rfl
  | m + 1, good1, l6, best8, t26, t27 => by
    have hrec : zz90_R6 N m (zz90_E6 kX kO) = (zz90_l6 N (zz90_X6 kX) m) := (funext fun good1 => (funext fun l6 => (funext fun best8 => (funext fun t26 => (funext fun t27 => zz90_iter6 N kX kO m good1 l6 best8 t26 t27)))))
    refine (zz90_step6 N m kX kO good1 l6 best8 t26 t27).trans ?_
    rw [(funext fun good1 => (funext fun l6 => (funext fun best8 => (funext fun a9 => (funext fun t26 => (funext fun t27 => (funext fun t34 => (funext fun t35 => zz90_in9 N m kX kO (zz90_l6 N (zz90_X6 kX) m) hrec good1 l6 best8 a9 t26 t27 t34 t35))))))))]
    rfl
noncomputable abbrev zz90_K6 (N : Nat) : Ex → St → Option ((Y4 × (Bool × Unit)) × Unit) := (blockK 0 (seqK ((A_zz90).shape 43) (run (A_zz90) N (codeAt Try.f80 [1, 1, 1, 1, 1])) zz90_z))
noncomputable abbrev zz90_k6 (N : Nat) : St → Option ((Y4 × (Bool × Unit)) × Unit) := fun st' => run (A_zz90) N (codeAt Try.f80 [1, 1, 1, 1, 1]) st' zz90_z
theorem zz90_after6 (N : Nat) (best8 : Y4) : zz90_X6 (zz90_k6 N) best8 = zz90_a6 best8 := by kernel_rfl
theorem zz90_in6 (N : Nat) (good1 : Unit) (l6 : Y1) (best8 : Y4) (t26 : Int) (t27 : Int) : zz90_R6 N N (zz90_K6 N) good1 l6 best8 t26 t27 = zz90_F6 N good1 l6 best8 t26 t27 :=
  have h : zz90_X6 (zz90_k6 N) = (zz90_a6) := (funext fun best8 => zz90_after6 N best8)
  ((iter_ex (fun st => by kernel_rfl) (fun st => by kernel_rfl)).trans (zz90_iter6 N (zz90_k6 N) (fun j st => (zz90_K6 N) (.exit j) st) N good1 l6 best8 t26 t27)).trans (congrArg (fun k => zz90_l6 N k N good1 l6 best8 t26 t27) h)
theorem run0_zz90 (N : Nat) (x : (S_zz90).a.den) : runF (A_zz90) N Try.f80 S_zz90 x = (zz90_s (zz90_R6 N N (zz90_K6 N)) x.1 x.2.1) := by kernel_rfl
theorem run_zz90 (N : Nat) (x : (S_zz90).a.den) : runF (A_zz90) N Try.f80 S_zz90 x = zz90 N x.1 x.2.1 := by
  refine (run0_zz90 N x).trans ?_
  rw [(funext fun good1 => (funext fun l6 => (funext fun best8 => (funext fun t26 => (funext fun t27 => zz90_in6 N good1 l6 best8 t26 t27)))))]
  rfl
theorem fn_zz90 : FnOk Try.prog 80 := ⟨_, Try.func80, by kernel_rfl, by kernel_rfl⟩
theorem good_zz90 : Gx.Good Try.prog 80 S_zz90 := good_of_run Try.func80 (of_decide_eq_true (by kernel_rfl)) fun x r h => ⟨A_zz90, big, mkCfg_ok tabOk, mkCfg_sigs (show SigsOk Try.prog [(68, S_zz32), (126, S_zz83), (83, S_zz89), (127, S_zz84)] from ⟨⟨fn_zz32, good_zz32⟩, ⟨fn_zz83, good_zz83⟩, ⟨fn_zz89, good_zz89⟩, ⟨fn_zz84, good_zz84⟩, trivial⟩), (run_zz90 big x).trans h⟩

/-! zz91 -/
def zz91_s (p_0 : Y2) : Option ((Y4 × (Bool × Unit)) × Unit) :=
  (zz90 big p_0 ()).bind fun rq1 =>
  some ((rq1.1.1, (((), rq1.1.2).2).1, ()), (()))
def zz91 (p_0 : Y2) : Option ((Y4 × (Bool × Unit)) × Unit) := zz91_s p_0
def S_zz91 : Sig := { a := (.pair (.pair (.sl (.sl I)) .unit) .unit), md := [0], mf := [], m := .unit, r := (.tup (.pair (.sl I) (.pair .bool .unit))), rf := (.p (.o .i) .i), f := fun x => zz91 x.1 }
def A_zz91 : Cfg := mkCfg tab [(80, S_zz90)] []
theorem run_zz91 (N : Nat) (x : (S_zz91).a.den) : runF (A_zz91) N Try.f37 S_zz91 x = zz91 x.1 := by kernel_rfl
theorem fn_zz91 : FnOk Try.prog 37 := ⟨_, Try.func37, by kernel_rfl, by kernel_rfl⟩
theorem good_zz91 : Gx.Good Try.prog 37 S_zz91 := good_of_run Try.func37 (of_decide_eq_true (by kernel_rfl)) fun x r h => ⟨A_zz91, big, mkCfg_ok tabOk, mkCfg_sigs (show SigsOk Try.prog [(80, S_zz90)] from ⟨⟨fn_zz90, good_zz90⟩, trivial⟩), (run_zz91 big x).trans h⟩

/-! laws_FnExactFindPentagon -/
def laws_FnExactFindPentagon_s (aP_0 : Y2) : Option (Bool × Unit) :=
  (zz2 aP_0 (1048576 : Int)).bind fun rq1 =>
  cond (decide (rq1.1 < (0 : Int)))
  (some (true, (())))
  ((zz5 aP_0).bind fun rq2 =>
  (zz88 big rq2.1).bind fun rq3 =>
  (zz5 aP_0).bind fun rq4 =>
  (zz91 rq4.1).bind fun rq5 =>
  (zz47 big rq5.1.1 rq3.1.1).bind fun rq6 =>
  cond (!rq6.1)
  (some (false, (())))
  (cond (((((), rq5.1.2).2).1) != ((((), rq3.1.2).2).1))
  (some (false, (())))
  ((zz5 aP_0).bind fun rq7 =>
  (zz49 rq4.1 rq7.1).bind fun rq8 =>
  cond (!rq8.1)
  (some (false, (())))
  ((zz52 rq4.1 (1 : Int)).bind fun rq9 =>
  cond (decide (rq9.1 < (0 : Int)))
  (some (false, (())))
  ((zz47 big rq5.1.1 rq3.1.1).bind fun rq10 =>
  cond (!rq10.1)
  (some (false, (())))
  (cond (((((), rq5.1.2).2).1) != ((((), rq3.1.2).2).1))
  (some (false, (())))
  ((zz50 big rq5.1.1 (1 : Int)).bind fun rq11 =>
  (zz53 big rq11.2.1 (1 : Int)).bind fun rq12 =>
  cond (decide (rq12.1 < (0 : Int)))
  (some (false, (())))
  (cond (decide (rq12.1 ≠ rq11.1))
  (some (false, (())))
  ((zz5 aP_0).bind fun rq13 =>
  (zz91 rq13.1).bind fun rq14 =>
  (zz47 big rq14.1.1 rq3.1.1).bind fun rq15 =>
  cond (!rq15.1)
  (some (false, (())))
  (cond (((((), rq14.1.2).2).1) != ((((), rq3.1.2).2).1))
  (some (false, (())))
  ((zz53 big rq11.2.1 (1 : Int)).bind fun rq16 =>
  cond (decide (rq16.1 < (0 : Int)))
  (some (false, (())))
  (cond (decide (rq16.1 ≠ rq11.1))
  (some (false, (())))
  (some (true, (())))))))))))))))
def laws_FnExactFindPentagon (aP_0 : Y2) : Option (Bool × Unit) := laws_FnExactFindPentagon_s aP_0
def S_laws_FnExactFindPentagon : Sig := { a := (.pair (.pair (.sl (.sl I)) .unit) .unit), md := [0], mf := [], m := .unit, r := .bool, rf := .i, f := fun x => laws_FnExactFindPentagon x.1 }
def A_laws_FnExactFindPentagon : Cfg := mkCfg tab [(15, S_zz2), (17, S_zz5), (36, S_zz88), (37, S_zz91), (19, S_zz47), (20, S_zz49), (21, S_zz52), (22, S_zz50), (23, S_zz53)] []
theorem run_laws_FnExactFindPentagon (N : Nat) (x : (S_laws_FnExactFindPentagon).a.den) : runF (A_laws_FnExactFindPentagon) N Try.f7 S_laws_FnExactFindPentagon x = laws_FnExactFindPentagon x.1 := by kernel_rfl
theorem fn_laws_FnExactFindPentagon : FnOk Try.prog 7 := ⟨_, Try.func7, by kernel_rfl, by kernel_rfl⟩
theorem good_laws_FnExactFindPentagon : Gx.Good Try.prog 7 S_laws_FnExactFindPentagon := good_of_run Try.func7 (of_decide_eq_true (by kernel_rfl)) fun x r h => ⟨A_laws_FnExactFindPentagon, big, mkCfg_ok tabOk, mkCfg_sigs (show SigsOk Try.prog [(15, S_zz2), (17, S_zz5), (36, S_zz88), (37, S_zz91), (19, S_zz47), (20, S_zz49), (21, S_zz52), (22, S_zz50), (23, S_zz53)] from ⟨⟨fn_zz2, good_zz2⟩, ⟨fn_zz5, good_zz5⟩, ⟨fn_zz88, good_zz88⟩, ⟨fn_zz91, good_zz91⟩, ⟨fn_zz47, good_zz47⟩, ⟨fn_zz49, good_zz49⟩, ⟨fn_zz52, good_zz52⟩, ⟨fn_zz50, good_zz50⟩, ⟨fn_zz53, good_zz53⟩, trivial⟩), (run_laws_FnExactFindPentagon big x).trans h⟩
end Go.Proofs.Ytafkhhcnmmkieaa
