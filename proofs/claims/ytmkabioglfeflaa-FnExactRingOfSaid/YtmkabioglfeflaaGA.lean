import Derived.Test.YtmkabioglfeflaaGAp2
set_option maxRecDepth 100000
set_option linter.unusedVariables false
namespace Go.Proofs.Ytmkabioglfeflaa
open Go Go.Gx Go.Proofs

/-! zz83 -/
def zz83_b8 (rec : Y1 → Int → Int → Int → Int → Int → Int → Int → Int → Option ((Option Y4) × Unit)) (k : Y1 → Int → Int → Int → Int → Int → Option ((Option Y4) × Unit)) (l0 : Y1) (x3 : Int) (y4 : Int) (t10 : Int) (t11 : Int) (t18 : Int) (t19 : Int) (t26 : Int) (t27 : Int) : Option ((Option Y4) × Unit) :=
  cond (decide (t27 < t26))
  ((l0).bind fun xq4 =>
  (atI xq4.2.1 x3).bind fun xq5 =>
  (l0).bind fun xq6 =>
  (atI xq6.2.2.1 y4).bind fun xq7 =>
  (atI xq7 t27).bind fun xq8 =>
  (atI xq5 xq8).bind fun xq9 =>
  (l0).bind fun xq10 =>
  (l0).bind fun xq11 =>
  (atI xq11.2.1 x3).bind fun xq12 =>
  (atI xq12 y4).bind fun xq13 =>
  (atI xq10.2.2.1 xq13).bind fun xq14 =>
  (l0).bind fun xq15 =>
  (atI xq15.2.1 x3).bind fun xq16 =>
  (atI xq16 t27).bind fun xq17 =>
  (atI xq14 xq17).bind fun xq18 =>
  cond (decide (xq9 ≠ xq18))
  (some ((some [x3, y4, t27]), (())))
  (rec l0 x3 y4 t10 t11 t18 t19 t26 (IntKind.i64.wrap (t27 + (1 : Int)))))
  (k l0 x3 t10 t11 t18 t19)
def zz83_a8 (rec : Y1 → Int → Int → Int → Int → Int → Option ((Option Y4) × Unit)) (l0 : Y1) (x3 : Int) (t10 : Int) (t11 : Int) (t18 : Int) (t19 : Int) : Option ((Option Y4) × Unit) :=
  rec l0 x3 t10 t11 t18 (IntKind.i64.wrap (t19 + (1 : Int)))
def zz83_b5 (L8 : Y1 → Int → Int → Int → Int → Int → Int → Int → Int → Option ((Option Y4) × Unit)) (k : Y1 → Int → Int → Option ((Option Y4) × Unit)) (l0 : Y1) (x3 : Int) (t10 : Int) (t11 : Int) (t18 : Int) (t19 : Int) : Option ((Option Y4) × Unit) :=
  cond (decide (t19 < t18))
  ((l0).bind fun xq3 =>
  L8 l0 x3 t19 t10 t11 t18 t19 (xq3.1.length : Int) (0 : Int))
  (k l0 t10 t11)
def zz83_a5 (rec : Y1 → Int → Int → Option ((Option Y4) × Unit)) (l0 : Y1) (t10 : Int) (t11 : Int) : Option ((Option Y4) × Unit) :=
  rec l0 t10 (IntKind.i64.wrap (t11 + (1 : Int)))
def zz83_b2 (L5 : Y1 → Int → Int → Int → Int → Int → Option ((Option Y4) × Unit)) (k : Option ((Option Y4) × Unit)) (l0 : Y1) (t10 : Int) (t11 : Int) : Option ((Option Y4) × Unit) :=
  cond (decide (t11 < t10))
  ((l0).bind fun xq2 =>
  L5 l0 t11 t10 t11 (xq2.1.length : Int) (0 : Int))
  (k)
def zz83_a2 : Option ((Option Y4) × Unit) :=
  some (none, (()))
def zz83_s (L2 : Y1 → Int → Int → Option ((Option Y4) × Unit)) (l_0 : Y1) : Option ((Option Y4) × Unit) :=
  (l_0).bind fun xq1 =>
  L2 l_0 (xq1.1.length : Int) (0 : Int)
def zz83_l8 (N : Nat) (k : Y1 → Int → Int → Int → Int → Int → Option ((Option Y4) × Unit)) : Nat → Y1 → Int → Int → Int → Int → Int → Int → Int → Int → Option ((Option Y4) × Unit)
  | 0, _, _, _, _, _, _, _, _, _ => none
  | m + 1, l0, x3, y4, t10, t11, t18, t19, t26, t27 => zz83_b8 (zz83_l8 N k m) k l0 x3 y4 t10 t11 t18 t19 t26 t27
def zz83_F8 (N : Nat) (rec : Y1 → Int → Int → Int → Int → Int → Option ((Option Y4) × Unit)) (k : Y1 → Int → Int → Option ((Option Y4) × Unit)) (l0 : Y1) (x3 : Int) (y4 : Int) (t10 : Int) (t11 : Int) (t18 : Int) (t19 : Int) (t26 : Int) (t27 : Int) : Option ((Option Y4) × Unit) := zz83_l8 N (zz83_a8 rec) N l0 x3 y4 t10 t11 t18 t19 t26 t27
def zz83_l5 (N : Nat) (k : Y1 → Int → Int → Option ((Option Y4) × Unit)) : Nat → Y1 → Int → Int → Int → Int → Int → Option ((Option Y4) × Unit)
  | 0, _, _, _, _, _, _ => none
  | m + 1, l0, x3, t10, t11, t18, t19 => zz83_b5 (zz83_F8 N (zz83_l5 N k m) k) k l0 x3 t10 t11 t18 t19
def zz83_F5 (N : Nat) (rec : Y1 → Int → Int → Option ((Option Y4) × Unit)) (k : Option ((Option Y4) × Unit)) (l0 : Y1) (x3 : Int) (t10 : Int) (t11 : Int) (t18 : Int) (t19 : Int) : Option ((Option Y4) × Unit) := zz83_l5 N (zz83_a5 rec) N l0 x3 t10 t11 t18 t19
def zz83_l2 (N : Nat) (k : Option ((Option Y4) × Unit)) : Nat → Y1 → Int → Int → Option ((Option Y4) × Unit)
  | 0, _, _, _ => none
  | m + 1, l0, t10, t11 => zz83_b2 (zz83_F5 N (zz83_l2 N k m) k) k l0 t10 t11
def zz83_F2 (N : Nat) (l0 : Y1) (t10 : Int) (t11 : Int) : Option ((Option Y4) × Unit) := zz83_l2 N (zz83_a2) N l0 t10 t11
def zz83 (N : Nat) (l_0 : Y1) : Option ((Option Y4) × Unit) := zz83_s (zz83_F2 N) l_0
def S_zz83 : Sig := { a := (.pair (.opt (.pair (.sl (.sl .bool)) (.pair (.sl (.sl I)) (.pair (.sl (.sl I)) .unit)))) .unit), md := [0], mf := [], m := .unit, r := (.ns I), rf := .i, f := fun x => zz83 big x.1 }
def A_zz83 : Cfg := mkCfg tab [] [(4, [.as (.opt (.pair (.sl (.sl .bool)) (.pair (.sl (.sl I)) (.pair (.sl (.sl I)) .unit)))) .i, .drop, .drop, .drop, .drop, .drop, .drop, .drop, .drop, .drop, .as I .i, .as I .i]), (10, [.as (.opt (.pair (.sl (.sl .bool)) (.pair (.sl (.sl I)) (.pair (.sl (.sl I)) .unit)))) .i, .drop, .drop, .as I .i, .drop, .drop, .drop, .drop, .drop, .drop, .as I .i, .as I .i, .drop, .drop, .drop, .drop, .drop, .drop, .as I .i, .as I .i]), (31, []), (16, [.as (.opt (.pair (.sl (.sl .bool)) (.pair (.sl (.sl I)) (.pair (.sl (.sl I)) .unit)))) .i, .drop, .drop, .as I .i, .as I .i, .drop, .drop, .drop, .drop, .drop, .as I .i, .as I .i, .drop, .drop, .drop, .drop, .drop, .drop, .as I .i, .as I .i, .drop, .drop, .drop, .drop, .drop, .drop, .as I .i, .as I .i]), (29, [.as (.opt (.pair (.sl (.sl .bool)) (.pair (.sl (.sl I)) (.pair (.sl (.sl I)) .unit)))) .i, .drop, .drop, .drop, .drop, .drop, .drop, .drop, .drop, .drop, .as I .i, .as I .i]), (27, [.as (.opt (.pair (.sl (.sl .bool)) (.pair (.sl (.sl I)) (.pair (.sl (.sl I)) .unit)))) .i, .drop, .drop, .as I .i, .drop, .drop, .drop, .drop, .drop, .drop, .as I .i, .as I .i, .drop, .drop, .drop, .drop, .drop, .drop, .as I .i, .as I .i])]
noncomputable def zz83_R2 (N n : Nat) (K : Ex → St → Option ((Option Y4) × Unit)) (l0 : Y1) (t10 : Int) (t11 : Int) : Option ((Option Y4) × Unit) := iter ((A_zz83).shape 4) (run (A_zz83) N (codeAt Try.f125 [1, 0, 1, 0, 0])) n ([.val (.opt (.pair (.sl (.sl .bool)) (.pair (.sl (.sl I)) (.pair (.sl (.sl I)) .unit)))) .i l0, .u, .u, .u, .u, .u, .u, .u, .u, .u, .val I .i t10, .val I .i t11] ++ List.replicate 73 .u) K
noncomputable def zz83_R5 (N n : Nat) (K : Ex → St → Option ((Option Y4) × Unit)) (l0 : Y1) (x3 : Int) (t10 : Int) (t11 : Int) (t18 : Int) (t19 : Int) : Option ((Option Y4) × Unit) := iter ((A_zz83).shape 10) (run (A_zz83) N (codeAt Try.f125 [1, 0, 1, 0, 0, 1, 1, 0, 0, 1, 1, 0, 0])) n ([.val (.opt (.pair (.sl (.sl .bool)) (.pair (.sl (.sl I)) (.pair (.sl (.sl I)) .unit)))) .i l0, .u, .u, .val I .i x3, .u, .u, .u, .u, .u, .u, .val I .i t10, .val I .i t11, .u, .u, .u, .u, .u, .u, .val I .i t18, .val I .i t19] ++ List.replicate 65 .u) K
noncomputable def zz83_R8 (N n : Nat) (K : Ex → St → Option ((Option Y4) × Unit)) (l0 : Y1) (x3 : Int) (y4 : Int) (t10 : Int) (t11 : Int) (t18 : Int) (t19 : Int) (t26 : Int) (t27 : Int) : Option ((Option Y4) × Unit) := iter ((A_zz83).shape 16) (run (A_zz83) N (codeAt Try.f125 [1, 0, 1, 0, 0, 1, 1, 0, 0, 1, 1, 0, 0, 1, 1, 0, 0, 1, 1, 0, 0])) n ([.val (.opt (.pair (.sl (.sl .bool)) (.pair (.sl (.sl I)) (.pair (.sl (.sl I)) .unit)))) .i l0, .u, .u, .val I .i x3, .val I .i y4, .u, .u, .u, .u, .u, .val I .i t10, .val I .i t11, .u, .u, .u, .u, .u, .u, .val I .i t18, .val I .i t19, .u, .u, .u, .u, .u, .u, .val I .i t26, .val I .i t27] ++ List.replicate 57 .u) K
noncomputable abbrev zz83_z : Ex → St → Option ((Option Y4) × Unit) := finish (A_zz83) S_zz83 Try.f125.results.toList
noncomputable abbrev zz83_X2 (kX : St → Option ((Option Y4) × Unit)) : Option ((Option Y4) × Unit) := kX ([] ++ List.replicate 85 .u)
noncomputable abbrev zz83_E2 (kX : St → Option ((Option Y4) × Unit)) (kO : Nat → St → Option ((Option Y4) × Unit)) : Ex → St → Option ((Option Y4) × Unit) := exK zz83_z 0 ((A_zz83).shape 31) kX kO
noncomputable abbrev zz83_X5 (kX : St → Option ((Option Y4) × Unit)) : Y1 → Int → Int → Option ((Option Y4) × Unit) := fun (l0 : Y1) (t10 : Int) (t11 : Int) => kX ([.val (.opt (.pair (.sl (.sl .bool)) (.pair (.sl (.sl I)) (.pair (.sl (.sl I)) .unit)))) .i l0, .u, .u, .u, .u, .u, .u, .u, .u, .u, .val I .i t10, .val I .i t11] ++ List.replicate 73 .u)
noncomputable abbrev zz83_E5 (kX : St → Option ((Option Y4) × Unit)) (kO : Nat → St → Option ((Option Y4) × Unit)) : Ex → St → Option ((Option Y4) × Unit) := exK zz83_z 2 ((A_zz83).shape 29) kX kO
noncomputable abbrev zz83_X8 (kX : St → Option ((Option Y4) × Unit)) : Y1 → Int → Int → Int → Int → Int → Option ((Option Y4) × Unit) := fun (l0 : Y1) (x3 : Int) (t10 : Int) (t11 : Int) (t18 : Int) (t19 : Int) => kX ([.val (.opt (.pair (.sl (.sl .bool)) (.pair (.sl (.sl I)) (.pair (.sl (.sl I)) .unit)))) .i l0, .u, .u, .val I .i x3, .u, .u, .u, .u, .u, .u, .val I .i t10, .val I .i t11, .u, .u, .u, .u, .u, .u, .val I .i t18, .val I .i t19] ++ List.replicate 65 .u)
noncomputable abbrev zz83_E8 (kX : St → Option ((Option Y4) × Unit)) (kO : Nat → St → Option ((Option Y4) × Unit)) : Ex → St → Option ((Option Y4) × Unit) := exK zz83_z 4 ((A_zz83).shape 27) kX kO
theorem zz83_step8 (N : Nat) (m : Nat) (kX : St → Option ((Option Y4) × Unit)) (kO : Nat → St → Option ((Option Y4) × Unit)) (l0 : Y1) (x3 : Int) (y4 : Int) (t10 : Int) (t11 : Int) (t18 : Int) (t19 : Int) (t26 : Int) (t27 : Int) : zz83_R8 N (m + 1) (zz83_E8 kX kO) l0 x3 y4 t10 t11 t18 t19 t26 t27 = zz83_b8 (zz83_R8 N m (zz83_E8 kX kO)) (zz83_X8 kX) l0 x3 y4 t10 t11 t18 t19 t26 t27 := by kernel_rfl
theorem zz83_iter8 (N : Nat) (kX : St → Option ((Option Y4) × Unit)) (kO : Nat → St → Option ((Option Y4) × Unit)) : ∀ (n : Nat) (l0 : Y1) (x3 : Int) (y4 : Int) (t10 : Int) (t11 : Int) (t18 : Int) (t19 : Int) (t26 : Int) (t27 : Int), zz83_R8 N n (zz83_E8 kX kO) l0 x3 y4 t10 t11 t18 t19 t26 t27 = zz83_l8 N (zz83_X8 kX) n l0 x3 y4 t10 t11 t18 t19 t26 t27
  | 0, _, _, _, _, _, _, _, _, _ => rfl
  | m + 1, l0, x3, y4, t10, t11, t18, t19, t26, t27 => by
    have hrec : zz83_R8 N m (zz83_E8 kX kO) = (zz83_l8 N (zz83_X8 kX) m) := (funext fun l0 => (funext fun x3 => (funext fun y4 => (funext fun t10 => (funext fun t11 => (funext fun t18 => (funext fun t19 => (funext fun t26 => (funext fun t27 => zz83_iter8 N kX kO m l0 x3 y4 t10 t11 t18 t19 t26 t27)))))))))
    refine (zz83_step8 N m kX kO l0 x3 y4 t10 t11 t18 t19 t26 t27).trans ?_
    rw [hrec]
    rfl
noncomputable abbrev zz83_K8 (N : Nat) (m : Nat) (kX : St → Option ((Option Y4) × Unit)) (kO : Nat → St → Option ((Option Y4) × Unit)) : Ex → St → Option ((Option Y4) × Unit) := (blockK 4 (blockK 3 (seqK ((A_zz83).shape 27) (run (A_zz83) N (codeAt Try.f125 [1, 0, 1, 0, 0, 1, 1, 0, 0, 1, 1, 0, 0, 1, 1, 1])) (iterK ((A_zz83).shape 10) (run (A_zz83) N (codeAt Try.f125 [1, 0, 1, 0, 0, 1, 1, 0, 0, 1, 1, 0, 0])) m (zz83_E5 kX kO)))))
noncomputable abbrev zz83_k8 (N : Nat) (m : Nat) (kX : St → Option ((Option Y4) × Unit)) (kO : Nat → St → Option ((Option Y4) × Unit)) : St → Option ((Option Y4) × Unit) := fun st' => run (A_zz83) N (codeAt Try.f125 [1, 0, 1, 0, 0, 1, 1, 0, 0, 1, 1, 0, 0, 1, 1, 1]) st' (iterK ((A_zz83).shape 10) (run (A_zz83) N (codeAt Try.f125 [1, 0, 1, 0, 0, 1, 1, 0, 0, 1, 1, 0, 0])) m (zz83_E5 kX kO))
theorem zz83_after8 (N : Nat) (m : Nat) (kX : St → Option ((Option Y4) × Unit)) (kO : Nat → St → Option ((Option Y4) × Unit)) (l0 : Y1) (x3 : Int) (t10 : Int) (t11 : Int) (t18 : Int) (t19 : Int) : zz83_X8 (zz83_k8 N m kX kO) l0 x3 t10 t11 t18 t19 = zz83_a8 (zz83_R5 N m (zz83_E5 kX kO)) l0 x3 t10 t11 t18 t19 := by kernel_rfl
theorem zz83_in8 (N : Nat) (m : Nat) (kX : St → Option ((Option Y4) × Unit)) (kO : Nat → St → Option ((Option Y4) × Unit)) (recF : Y1 → Int → Int → Int → Int → Int → Option ((Option Y4) × Unit)) (hrec : zz83_R5 N m (zz83_E5 kX kO) = recF) (l0 : Y1) (x3 : Int) (y4 : Int) (t10 : Int) (t11 : Int) (t18 : Int) (t19 : Int) (t26 : Int) (t27 : Int) : zz83_R8 N N (zz83_K8 N m kX kO) l0 x3 y4 t10 t11 t18 t19 t26 t27 = zz83_F8 N recF (zz83_X5 kX) l0 x3 y4 t10 t11 t18 t19 t26 t27 :=
  have h : zz83_X8 (zz83_k8 N m kX kO) = (zz83_a8 recF) := (funext fun l0 => (funext fun x3 => (funext fun t10 => (funext fun t11 => (funext fun t18 => (funext fun t19 => (zz83_after8 N m kX kO l0 x3 t10 t11 t18 t19).trans (by rw [hrec])))))))
  ((iter_ex (fun st => by kernel_rfl) (fun st => by kernel_rfl)).trans (zz83_iter8 N (zz83_k8 N m kX kO) (fun j st => (zz83_K8 N m kX kO) (.exit j) st) N l0 x3 y4 t10 t11 t18 t19 t26 t27)).trans (congrArg (fun k => zz83_l8 N k N l0 x3 y4 t10 t11 t18 t19 t26 t27) h)
theorem zz83_step5 (N : Nat) (m : Nat) (kX : St → Option ((Option Y4) × Unit)) (kO : Nat → St → Option ((Option Y4) × Unit)) (l0 : Y1) (x3 : Int) (t10 : Int) (t11 : Int) (t18 : Int) (t19 : Int) : zz83_R5 N (m + 1) (zz83_E5 kX kO) l0 x3 t10 t11 t18 t19 = zz83_b5 (zz83_R8 N N (zz83_K8 N m kX kO)) (zz83_X5 kX) l0 x3 t10 t11 t18 t19 := by kernel_rfl
theorem zz83_iter5 (N : Nat) (kX : St → Option ((Option Y4) × Unit)) (kO : Nat → St → Option ((Option Y4) × Unit)) : ∀ (n : Nat) (l0 : Y1) (x3 : Int) (t10 : Int) (t11 : Int) (t18 : Int) (t19 : Int), zz83_R5 N n (zz83_E5 kX kO) l0 x3 t10 t11 t18 t19 = zz83_l5 N (zz83_X5 kX) n l0 x3 t10 t11 t18 t19
  | 0, _, _, _, _, _, _ => rfl
  | m + 1, l0, x3, t10, t11, t18, t19 => by
    have hrec : zz83_R5 N m (zz83_E5 kX kO) = (zz83_l5 N (zz83_X5 kX) m) := (funext fun l0 => (funext fun x3 => (funext fun t10 => (funext fun t11 => (funext fun t18 => (funext fun t19 => zz83_iter5 N kX kO m l0 x3 t10 t11 t18 t19))))))
    refine (zz83_step5 N m kX kO l0 x3 t10 t11 t18 t19).trans ?_
    rw [(funext fun l0 => (funext fun x3 => (funext fun y4 => (funext fun t10 => (funext fun t11 => (funext fun t18 => (funext fun t19 => (funext fun t26 => (funext fun t27 => zz83_in8 N m kX kO (zz83_l5 N (zz83_X5 kX) m) hrec l0 x3 y4 t10 t11 t18 t19 t26 t27)))))))))]
    rfl
noncomputable abbrev zz83_K5 (N : Nat) (m : Nat) (kX : St → Option ((Option Y4) × Unit)) (kO : Nat → St → Option ((Option Y4) × Unit)) : Ex → St → Option ((Option Y4) × Unit) := (blockK 2 (blockK 1 (seqK ((A_zz83).shape 29) (run (A_zz83) N (codeAt Try.f125 [1, 0, 1, 0, 0, 1, 1, 1])) (iterK ((A_zz83).shape 4) (run (A_zz83) N (codeAt Try.f125 [1, 0, 1, 0, 0])) m (zz83_E2 kX kO)))))
noncomputable abbrev zz83_k5 (N : Nat) (m : Nat) (kX : St → Option ((Option Y4) × Unit)) (kO : Nat → St → Option ((Option Y4) × Unit)) : St → Option ((Option Y4) × Unit) := fun st' => run (A_zz83) N (codeAt Try.f125 [1, 0, 1, 0, 0, 1, 1, 1]) st' (iterK ((A_zz83).shape 4) (run (A_zz83) N (codeAt Try.f125 [1, 0, 1, 0, 0])) m (zz83_E2 kX kO))
theorem zz83_after5 (N : Nat) (m : Nat) (kX : St → Option ((Option Y4) × Unit)) (kO : Nat → St → Option ((Option Y4) × Unit)) (l0 : Y1) (t10 : Int) (t11 : Int) : zz83_X5 (zz83_k5 N m kX kO) l0 t10 t11 = zz83_a5 (zz83_R2 N m (zz83_E2 kX kO)) l0 t10 t11 := by kernel_rfl
theorem zz83_in5 (N : Nat) (m : Nat) (kX : St → Option ((Option Y4) × Unit)) (kO : Nat → St → Option ((Option Y4) × Unit)) (recF : Y1 → Int → Int → Option ((Option Y4) × Unit)) (hrec : zz83_R2 N m (zz83_E2 kX kO) = recF) (l0 : Y1) (x3 : Int) (t10 : Int) (t11 : Int) (t18 : Int) (t19 : Int) : zz83_R5 N N (zz83_K5 N m kX kO) l0 x3 t10 t11 t18 t19 = zz83_F5 N recF (zz83_X2 kX) l0 x3 t10 t11 t18 t19 :=
  have h : zz83_X5 (zz83_k5 N m kX kO) = (zz83_a5 recF) := (funext fun l0 => (funext fun t10 => (funext fun t11 => (zz83_after5 N m kX kO l0 t10 t11).trans (by rw [hrec]))))
  ((iter_ex (fun st => by kernel_rfl) (fun st => by kernel_rfl)).trans (zz83_iter5 N (zz83_k5 N m kX kO) (fun j st => (zz83_K5 N m kX kO) (.exit j) st) N l0 x3 t10 t11 t18 t19)).trans (congrArg (fun k => zz83_l5 N k N l0 x3 t10 t11 t18 t19) h)
theorem zz83_step2 (N : Nat) (m : Nat) (kX : St → Option ((Option Y4) × Unit)) (kO : Nat → St → Option ((Option Y4) × Unit)) (l0 : Y1) (t10 : Int) (t11 : Int) : zz83_R2 N (m + 1) (zz83_E2 kX kO) l0 t10 t11 = zz83_b2 (zz83_R5 N N (zz83_K5 N m kX kO)) (zz83_X2 kX) l0 t10 t11 := by kernel_rfl
theorem zz83_iter2 (N : Nat) (kX : St → Option ((Option Y4) × Unit)) (kO : Nat → St → Option ((Option Y4) × Unit)) : ∀ (n : Nat) (l0 : Y1) (t10 : Int) (t11 : Int), zz83_R2 N n (zz83_E2 kX kO) l0 t10 t11 = zz83_l2 N (zz83_X2 kX) n l0 t10 t11
  | 0, _, _, _ => rfl
  | m + 1, l0, t10, t11 => by
    have hrec : zz83_R2 N m (zz83_E2 kX kO) = (zz83_l2 N (zz83_X2 kX) m) := (funext fun l0 => (funext fun t10 => (funext fun t11 => zz83_iter2 N kX kO m l0 t10 t11)))
    refine (zz83_step2 N m kX kO l0 t10 t11).trans ?_
    rw [(funext fun l0 => (funext fun x3 => (funext fun t10 => (funext fun t11 => (funext fun t18 => (funext fun t19 => zz83_in5 N m kX kO (zz83_l2 N (zz83_X2 kX) m) hrec l0 x3 t10 t11 t18 t19))))))]
    rfl
noncomputable abbrev zz83_K2 (N : Nat) : Ex → St → Option ((Option Y4) × Unit) := (blockK 0 (seqK ((A_zz83).shape 31) (run (A_zz83) N (codeAt Try.f125 [1, 1])) zz83_z))
noncomputable abbrev zz83_k2 (N : Nat) : St → Option ((Option Y4) × Unit) := fun st' => run (A_zz83) N (codeAt Try.f125 [1, 1]) st' zz83_z
theorem zz83_after2 (N : Nat) : zz83_X2 (zz83_k2 N) = zz83_a2 := by kernel_rfl
theorem zz83_in2 (N : Nat) (l0 : Y1) (t10 : Int) (t11 : Int) : zz83_R2 N N (zz83_K2 N) l0 t10 t11 = zz83_F2 N l0 t10 t11 :=
  have h : zz83_X2 (zz83_k2 N) = (zz83_a2) := zz83_after2 N
  ((iter_ex (fun st => by kernel_rfl) (fun st => by kernel_rfl)).trans (zz83_iter2 N (zz83_k2 N) (fun j st => (zz83_K2 N) (.exit j) st) N l0 t10 t11)).trans (congrArg (fun k => zz83_l2 N k N l0 t10 t11) h)
theorem run0_zz83 (N : Nat) (x : (S_zz83).a.den) : runF (A_zz83) N Try.f125 S_zz83 x = (zz83_s (zz83_R2 N N (zz83_K2 N)) x.1) := by kernel_rfl
theorem run_zz83 (N : Nat) (x : (S_zz83).a.den) : runF (A_zz83) N Try.f125 S_zz83 x = zz83 N x.1 := by
  refine (run0_zz83 N x).trans ?_
  rw [(funext fun l0 => (funext fun t10 => (funext fun t11 => zz83_in2 N l0 t10 t11)))]
  rfl
theorem fn_zz83 : FnOk Try.prog 125 := ⟨_, Try.func125, by kernel_rfl, by kernel_rfl⟩
theorem good_zz83 : Gx.Good Try.prog 125 S_zz83 := good_of_run Try.func125 (of_decide_eq_true (by kernel_rfl)) fun x r h => ⟨A_zz83, big, mkCfg_ok tabOk, mkCfg_sigs (show SigsOk Try.prog [] from trivial), (run_zz83 big x).trans h⟩

/-! zz84 -/
def zz84_s (p_0 : Y2) : Option ((Y1 × (Bool × Unit)) × Unit) :=
  (zz43 p_0).bind fun rq1 =>
  cond rq1.1.2.1
  ((zz83 big rq1.1.1).bind fun rq2 =>
  some ((rq1.1.1, rq2.1.isNone, ()), (())))
  (some ((rq1.1.1, false, ()), (())))
def zz84 (p_0 : Y2) : Option ((Y1 × (Bool × Unit)) × Unit) := zz84_s p_0
def S_zz84 : Sig := { a := (.pair (.pair (.sl (.sl I)) .unit) .unit), md := [0], mf := [], m := .unit, r := (.tup (.pair (.opt (.pair (.sl (.sl .bool)) (.pair (.sl (.sl I)) (.pair (.sl (.sl I)) .unit)))) (.pair .bool .unit))), rf := .i, f := fun x => zz84 x.1 }
def A_zz84 : Cfg := mkCfg tab [(91, S_zz43), (125, S_zz83)] []
theorem run_zz84 (N : Nat) (x : (S_zz84).a.den) : runF (A_zz84) N Try.f84 S_zz84 x = zz84 x.1 := by kernel_rfl
theorem fn_zz84 : FnOk Try.prog 84 := ⟨_, Try.func84, by kernel_rfl, by kernel_rfl⟩
theorem good_zz84 : Gx.Good Try.prog 84 S_zz84 := good_of_run Try.func84 (of_decide_eq_true (by kernel_rfl)) fun x r h => ⟨A_zz84, big, mkCfg_ok tabOk, mkCfg_sigs (show SigsOk Try.prog [(91, S_zz43), (125, S_zz83)] from ⟨⟨fn_zz43, good_zz43⟩, ⟨fn_zz83, good_zz83⟩, trivial⟩), (run_zz84 big x).trans h⟩

/-! zz85 -/
def zz85_b3 (rec : Y1 → Int → Int → Int → Option (Int × Unit)) (k : Int → Option (Int × Unit)) (l0 : Y1) (b3 : Int) (t9 : Int) (t10 : Int) : Option (Int × Unit) :=
  cond (decide (t10 < t9))
  ((l0).bind fun xq2 =>
  (atI xq2.2.1 b3).bind fun xq3 =>
  (atI xq3 t10).bind fun xq4 =>
  rec l0 xq4 t9 (IntKind.i64.wrap (t10 + (1 : Int))))
  (k b3)
def zz85_a3 (b3 : Int) : Option (Int × Unit) :=
  some (b3, (()))
def zz85_s (L3 : Y1 → Int → Int → Int → Option (Int × Unit)) (l_0 : Y1) : Option (Int × Unit) :=
  (l_0).bind fun xq1 =>
  L3 l_0 (0 : Int) (xq1.1.length : Int) (0 : Int)
def zz85_l3 (N : Nat) (k : Int → Option (Int × Unit)) : Nat → Y1 → Int → Int → Int → Option (Int × Unit)
  | 0, _, _, _, _ => none
  | m + 1, l0, b3, t9, t10 => zz85_b3 (zz85_l3 N k m) k l0 b3 t9 t10
def zz85_F3 (N : Nat) (l0 : Y1) (b3 : Int) (t9 : Int) (t10 : Int) : Option (Int × Unit) := zz85_l3 N (zz85_a3) N l0 b3 t9 t10
def zz85 (N : Nat) (l_0 : Y1) : Option (Int × Unit) := zz85_s (zz85_F3 N) l_0
def S_zz85 : Sig := { a := (.pair (.opt (.pair (.sl (.sl .bool)) (.pair (.sl (.sl I)) (.pair (.sl (.sl I)) .unit)))) .unit), md := [0], mf := [], m := .unit, r := I, rf := .i, f := fun x => zz85 big x.1 }
def A_zz85 : Cfg := mkCfg tab [] [(6, [.as (.opt (.pair (.sl (.sl .bool)) (.pair (.sl (.sl I)) (.pair (.sl (.sl I)) .unit)))) .i, .drop, .drop, .as I .i, .drop, .drop, .drop, .drop, .drop, .as I .i, .as I .i]), (15, [.drop, .drop, .drop, .as I .i])]
noncomputable def zz85_R3 (N n : Nat) (K : Ex → St → Option (Int × Unit)) (l0 : Y1) (b3 : Int) (t9 : Int) (t10 : Int) : Option (Int × Unit) := iter ((A_zz85).shape 6) (run (A_zz85) N (codeAt Try.f146 [1, 1, 0, 1, 0, 0])) n ([.val (.opt (.pair (.sl (.sl .bool)) (.pair (.sl (.sl I)) (.pair (.sl (.sl I)) .unit)))) .i l0, .u, .u, .val I .i b3, .u, .u, .u, .u, .u, .val I .i t9, .val I .i t10] ++ List.replicate 14 .u) K
noncomputable abbrev zz85_z : Ex → St → Option (Int × Unit) := finish (A_zz85) S_zz85 Try.f146.results.toList
noncomputable abbrev zz85_X3 (kX : St → Option (Int × Unit)) : Int → Option (Int × Unit) := fun (b3 : Int) => kX ([.u, .u, .u, .val I .i b3] ++ List.replicate 21 .u)
noncomputable abbrev zz85_E3 (kX : St → Option (Int × Unit)) (kO : Nat → St → Option (Int × Unit)) : Ex → St → Option (Int × Unit) := exK zz85_z 0 ((A_zz85).shape 15) kX kO
theorem zz85_step3 (N : Nat) (m : Nat) (kX : St → Option (Int × Unit)) (kO : Nat → St → Option (Int × Unit)) (l0 : Y1) (b3 : Int) (t9 : Int) (t10 : Int) : zz85_R3 N (m + 1) (zz85_E3 kX kO) l0 b3 t9 t10 = zz85_b3 (zz85_R3 N m (zz85_E3 kX kO)) (zz85_X3 kX) l0 b3 t9 t10 := by kernel_rfl
theorem zz85_iter3 (N : Nat) (kX : St → Option (Int × Unit)) (kO : Nat → St → Option (Int × Unit)) : ∀ (n : Nat) (l0 : Y1) (b3 : Int) (t9 : Int) (t10 : Int), zz85_R3 N n (zz85_E3 kX kO) l0 b3 t9 t10 = zz85_l3 N (zz85_X3 kX) n l0 b3 t9 t10
  | 0, _, _, _, _ => rfl
  | m + 1, l0, b3, t9, t10 => by
    have hrec : zz85_R3 N m (zz85_E3 kX kO) = (zz85_l3 N (zz85_X3 kX) m) := (funext fun l0 => (funext fun b3 => (funext fun t9 => (funext fun t10 => zz85_iter3 N kX kO m l0 b3 t9 t10))))
    refine (zz85_step3 N m kX kO l0 b3 t9 t10).trans ?_
    rw [hrec]
    rfl
noncomputable abbrev zz85_K3 (N : Nat) : Ex → St → Option (Int × Unit) := (blockK 0 (seqK ((A_zz85).shape 15) (run (A_zz85) N (codeAt Try.f146 [1, 1, 1])) zz85_z))
noncomputable abbrev zz85_k3 (N : Nat) : St → Option (Int × Unit) := fun st' => run (A_zz85) N (codeAt Try.f146 [1, 1, 1]) st' zz85_z
theorem zz85_after3 (N : Nat) (b3 : Int) : zz85_X3 (zz85_k3 N) b3 = zz85_a3 b3 := by kernel_rfl
theorem zz85_in3 (N : Nat) (l0 : Y1) (b3 : Int) (t9 : Int) (t10 : Int) : zz85_R3 N N (zz85_K3 N) l0 b3 t9 t10 = zz85_F3 N l0 b3 t9 t10 :=
  have h : zz85_X3 (zz85_k3 N) = (zz85_a3) := (funext fun b3 => zz85_after3 N b3)
  ((iter_ex (fun st => by kernel_rfl) (fun st => by kernel_rfl)).trans (zz85_iter3 N (zz85_k3 N) (fun j st => (zz85_K3 N) (.exit j) st) N l0 b3 t9 t10)).trans (congrArg (fun k => zz85_l3 N k N l0 b3 t9 t10) h)
theorem run0_zz85 (N : Nat) (x : (S_zz85).a.den) : runF (A_zz85) N Try.f146 S_zz85 x = (zz85_s (zz85_R3 N N (zz85_K3 N)) x.1) := by kernel_rfl
theorem run_zz85 (N : Nat) (x : (S_zz85).a.den) : runF (A_zz85) N Try.f146 S_zz85 x = zz85 N x.1 := by
  refine (run0_zz85 N x).trans ?_
  rw [(funext fun l0 => (funext fun b3 => (funext fun t9 => (funext fun t10 => zz85_in3 N l0 b3 t9 t10))))]
  rfl
theorem fn_zz85 : FnOk Try.prog 146 := ⟨_, Try.func146, by kernel_rfl, by kernel_rfl⟩
theorem good_zz85 : Gx.Good Try.prog 146 S_zz85 := good_of_run Try.func146 (of_decide_eq_true (by kernel_rfl)) fun x r h => ⟨A_zz85, big, mkCfg_ok tabOk, mkCfg_sigs (show SigsOk Try.prog [] from trivial), (run_zz85 big x).trans h⟩

/-! zz86 -/
def zz86_b3 (rec : Y1 → Int → Int → Int → Option (Int × Unit)) (k : Int → Option (Int × Unit)) (l0 : Y1) (t3 : Int) (t9 : Int) (t10 : Int) : Option (Int × Unit) :=
  cond (decide (t10 < t9))
  ((l0).bind fun xq2 =>
  (atI xq2.2.2.1 t3).bind fun xq3 =>
  (atI xq3 t10).bind fun xq4 =>
  rec l0 xq4 t9 (IntKind.i64.wrap (t10 + (1 : Int))))
  (k t3)
def zz86_a3 (t3 : Int) : Option (Int × Unit) :=
  some (t3, (()))
def zz86_s (L3 : Y1 → Int → Int → Int → Option (Int × Unit)) (l_0 : Y1) : Option (Int × Unit) :=
  (l_0).bind fun xq1 =>
  L3 l_0 (0 : Int) (xq1.1.length : Int) (0 : Int)
def zz86_l3 (N : Nat) (k : Int → Option (Int × Unit)) : Nat → Y1 → Int → Int → Int → Option (Int × Unit)
  | 0, _, _, _, _ => none
  | m + 1, l0, t3, t9, t10 => zz86_b3 (zz86_l3 N k m) k l0 t3 t9 t10
def zz86_F3 (N : Nat) (l0 : Y1) (t3 : Int) (t9 : Int) (t10 : Int) : Option (Int × Unit) := zz86_l3 N (zz86_a3) N l0 t3 t9 t10
def zz86 (N : Nat) (l_0 : Y1) : Option (Int × Unit) := zz86_s (zz86_F3 N) l_0
def S_zz86 : Sig := { a := (.pair (.opt (.pair (.sl (.sl .bool)) (.pair (.sl (.sl I)) (.pair (.sl (.sl I)) .unit)))) .unit), md := [0], mf := [], m := .unit, r := I, rf := .i, f := fun x => zz86 big x.1 }
def A_zz86 : Cfg := mkCfg tab [] [(6, [.as (.opt (.pair (.sl (.sl .bool)) (.pair (.sl (.sl I)) (.pair (.sl (.sl I)) .unit)))) .i, .drop, .drop, .as I .i, .drop, .drop, .drop, .drop, .drop, .as I .i, .as I .i]), (15, [.drop, .drop, .drop, .as I .i])]
noncomputable def zz86_R3 (N n : Nat) (K : Ex → St → Option (Int × Unit)) (l0 : Y1) (t3 : Int) (t9 : Int) (t10 : Int) : Option (Int × Unit) := iter ((A_zz86).shape 6) (run (A_zz86) N (codeAt Try.f147 [1, 1, 0, 1, 0, 0])) n ([.val (.opt (.pair (.sl (.sl .bool)) (.pair (.sl (.sl I)) (.pair (.sl (.sl I)) .unit)))) .i l0, .u, .u, .val I .i t3, .u, .u, .u, .u, .u, .val I .i t9, .val I .i t10] ++ List.replicate 14 .u) K
noncomputable abbrev zz86_z : Ex → St → Option (Int × Unit) := finish (A_zz86) S_zz86 Try.f147.results.toList
noncomputable abbrev zz86_X3 (kX : St → Option (Int × Unit)) : Int → Option (Int × Unit) := fun (t3 : Int) => kX ([.u, .u, .u, .val I .i t3] ++ List.replicate 21 .u)
noncomputable abbrev zz86_E3 (kX : St → Option (Int × Unit)) (kO : Nat → St → Option (Int × Unit)) : Ex → St → Option (Int × Unit) := exK zz86_z 0 ((A_zz86).shape 15) kX kO
theorem zz86_step3 (N : Nat) (m : Nat) (kX : St → Option (Int × Unit)) (kO : Nat → St → Option (Int × Unit)) (l0 : Y1) (t3 : Int) (t9 : Int) (t10 : Int) : zz86_R3 N (m + 1) (zz86_E3 kX kO) l0 t3 t9 t10 = zz86_b3 (zz86_R3 N m (zz86_E3 kX kO)) (zz86_X3 kX) l0 t3 t9 t10 := by kernel_rfl
theorem zz86_iter3 (N : Nat) (kX : St → Option (Int × Unit)) (kO : Nat → St → Option (Int × Unit)) : ∀ (n : Nat) (l0 : Y1) (t3 : Int) (t9 : Int) (t10 : Int), zz86_R3 N n (zz86_E3 kX kO) l0 t3 t9 t10 = zz86_l3 N (zz86_X3 kX) n l0 t3 t9 t10
  | 0, _, _, _, _ => rfl
  | m + 1, l0, t3, t9, t10 => by
    have hrec : zz86_R3 N m (zz86_E3 kX kO) = (zz86_l3 N (zz86_X3 kX) m) := (funext fun l0 => (funext fun t3 => (funext fun t9 => (funext fun t10 => zz86_iter3 N kX kO m l0 t3 t9 t10))))
    refine (zz86_step3 N m kX kO l0 t3 t9 t10).trans ?_
    rw [hrec]
    rfl
noncomputable abbrev zz86_K3 (N : Nat) : Ex → St → Option (Int × Unit) := (blockK 0 (seqK ((A_zz86).shape 15) (run (A_zz86) N (codeAt Try.f147 [1, 1, 1])) zz86_z))
noncomputable abbrev zz86_k3 (N : Nat) : St → Option (Int × Unit) := fun st' => run (A_zz86) N (codeAt Try.f147 [1, 1, 1]) st' zz86_z
theorem zz86_after3 (N : Nat) (t3 : Int) : zz86_X3 (zz86_k3 N) t3 = zz86_a3 t3 := by kernel_rfl
theorem zz86_in3 (N : Nat) (l0 : Y1) (t3 : Int) (t9 : Int) (t10 : Int) : zz86_R3 N N (zz86_K3 N) l0 t3 t9 t10 = zz86_F3 N l0 t3 t9 t10 :=
  have h : zz86_X3 (zz86_k3 N) = (zz86_a3) := (funext fun t3 => zz86_after3 N t3)
  ((iter_ex (fun st => by kernel_rfl) (fun st => by kernel_rfl)).trans (zz86_iter3 N (zz86_k3 N) (fun j st => (zz86_K3 N) (.exit j) st) N l0 t3 t9 t10)).trans (congrArg (fun k => zz86_l3 N k N l0 t3 t9 t10) h)
theorem run0_zz86 (N : Nat) (x : (S_zz86).a.den) : runF (A_zz86) N Try.f147 S_zz86 x = (zz86_s (zz86_R3 N N (zz86_K3 N)) x.1) := by kernel_rfl
theorem run_zz86 (N : Nat) (x : (S_zz86).a.den) : runF (A_zz86) N Try.f147 S_zz86 x = zz86 N x.1 := by
  refine (run0_zz86 N x).trans ?_
  rw [(funext fun l0 => (funext fun t3 => (funext fun t9 => (funext fun t10 => zz86_in3 N l0 t3 t9 t10))))]
  rfl
theorem fn_zz86 : FnOk Try.prog 147 := ⟨_, Try.func147, by kernel_rfl, by kernel_rfl⟩
theorem good_zz86 : Gx.Good Try.prog 147 S_zz86 := good_of_run Try.func147 (of_decide_eq_true (by kernel_rfl)) fun x r h => ⟨A_zz86, big, mkCfg_ok tabOk, mkCfg_sigs (show SigsOk Try.prog [] from trivial), (run_zz86 big x).trans h⟩

/-! zz87 -/
def zz87_s (c_0 : Int) (p_1 : Y1) (p_2 : Int) (p_3 : Int) (p_4 : Int) : Option (Bool × Unit) :=
  (p_1).bind fun xq1 =>
  (atI xq1.2.1 c_0).bind fun xq2 =>
  (atI xq2 p_2).bind fun xq3 =>
  cond (decide (xq3 = p_3))
  ((p_1).bind fun xq4 =>
  (atI xq4.2.2.1 c_0).bind fun xq5 =>
  (atI xq5 p_2).bind fun xq6 =>
  some (decide (xq6 = p_4), (())))
  (some (false, (())))
def zz87 (c_0 : Int) (p_1 : Y1) (p_2 : Int) (p_3 : Int) (p_4 : Int) : Option (Bool × Unit) := zz87_s c_0 p_1 p_2 p_3 p_4
def S_zz87 : Sig := { a := (.pair I (.pair (.ptr (.opt (.pair (.sl (.sl .bool)) (.pair (.sl (.sl I)) (.pair (.sl (.sl I)) .unit))))) (.pair (.ptr I) (.pair (.ptr I) (.pair (.ptr I) .unit))))), md := [0, 0, 0, 0, 0], mf := [], m := .unit, r := .bool, rf := .i, f := fun x => zz87 x.1 x.2.1 x.2.2.1 x.2.2.2.1 x.2.2.2.2.1 }
def A_zz87 : Cfg := mkCfg tab [] []
theorem run_zz87 (N : Nat) (x : (S_zz87).a.den) : runF (A_zz87) N Try.f153 S_zz87 x = zz87 x.1 x.2.1 x.2.2.1 x.2.2.2.1 x.2.2.2.2.1 := by kernel_rfl
theorem fn_zz87 : FnOk Try.prog 153 := ⟨_, Try.func153, by kernel_rfl, by kernel_rfl⟩
theorem good_zz87 : Gx.Good Try.prog 153 S_zz87 := good_of_run Try.func153 (of_decide_eq_true (by kernel_rfl)) fun x r h => ⟨A_zz87, big, mkCfg_ok tabOk, mkCfg_sigs (show SigsOk Try.prog [] from trivial), (run_zz87 big x).trans h⟩

/-! zz88 -/
def zz88_b3 (rec : (Y1 × (Int × (Int × (Int × Unit)))) → Y4 → Int → Int → Option (Y4 × Unit)) (k : Y4 → Option (Y4 × Unit)) (so1 : (Y1 × (Int × (Int × (Int × Unit))))) (list5 : Y4) (t9 : Int) (t10 : Int) : Option (Y4 × Unit) :=
  cond (decide (t10 < t9))
  ((zz87 t10 so1.1 so1.2.1 so1.2.2.1 so1.2.2.2.1).bind fun rq1 =>
  cond rq1.1
  ((appI list5 [t10]).bind fun xq2 =>
  rec so1 xq2 t9 (IntKind.i64.wrap (t10 + (1 : Int))))
  (rec so1 list5 t9 (IntKind.i64.wrap (t10 + (1 : Int)))))
  (k list5)
def zz88_a3 (list5 : Y4) : Option (Y4 × Unit) :=
  some (list5, (()))
def zz88_s (L3 : (Y1 × (Int × (Int × (Int × Unit)))) → Y4 → Int → Int → Option (Y4 × Unit)) (o_0 : Y5) (so_1 : (Y1 × (Int × (Int × (Int × Unit))))) : Option (Y4 × Unit) :=
  L3 so_1 [] (o_0.length : Int) (0 : Int)
def zz88_l3 (N : Nat) (k : Y4 → Option (Y4 × Unit)) : Nat → (Y1 × (Int × (Int × (Int × Unit)))) → Y4 → Int → Int → Option (Y4 × Unit)
  | 0, _, _, _, _ => none
  | m + 1, so1, list5, t9, t10 => zz88_b3 (zz88_l3 N k m) k so1 list5 t9 t10
def zz88_F3 (N : Nat) (so1 : (Y1 × (Int × (Int × (Int × Unit))))) (list5 : Y4) (t9 : Int) (t10 : Int) : Option (Y4 × Unit) := zz88_l3 N (zz88_a3) N so1 list5 t9 t10
def zz88 (N : Nat) (o_0 : Y5) (so_1 : (Y1 × (Int × (Int × (Int × Unit))))) : Option (Y4 × Unit) := zz88_s (zz88_F3 N) o_0 so_1
def S_zz88 : Sig := { a := (.pair (.sl (.sl .bool)) (.pair (.clo 153 0 (.pair (.ptr (.opt (.pair (.sl (.sl .bool)) (.pair (.sl (.sl I)) (.pair (.sl (.sl I)) .unit))))) (.pair (.ptr I) (.pair (.ptr I) (.pair (.ptr I) .unit))))) .unit)), md := [0, 0], mf := [], m := .unit, r := (.sl I), rf := (.o .i), f := fun x => zz88 big x.1 x.2.1 }
def A_zz88 : Cfg := mkCfg tab [(153, S_zz87)] [(6, [.drop, .as (.clo 153 0 (.pair (.ptr (.opt (.pair (.sl (.sl .bool)) (.pair (.sl (.sl I)) (.pair (.sl (.sl I)) .unit))))) (.pair (.ptr I) (.pair (.ptr I) (.pair (.ptr I) .unit))))) .i, .drop, .drop, .drop, .as (.sl I) (.o .i), .drop, .drop, .drop, .as I .i, .as I .i]), (17, [.drop, .drop, .drop, .drop, .drop, .as (.sl I) (.o .i)])]
noncomputable def zz88_R3 (N n : Nat) (K : Ex → St → Option (Y4 × Unit)) (so1 : (Y1 × (Int × (Int × (Int × Unit))))) (list5 : Y4) (t9 : Int) (t10 : Int) : Option (Y4 × Unit) := iter ((A_zz88).shape 6) (run (A_zz88) N (codeAt Try.f104 [1, 1, 0, 1, 0, 0])) n ([.u, .val (.clo 153 0 (.pair (.ptr (.opt (.pair (.sl (.sl .bool)) (.pair (.sl (.sl I)) (.pair (.sl (.sl I)) .unit))))) (.pair (.ptr I) (.pair (.ptr I) (.pair (.ptr I) .unit))))) .i so1, .u, .u, .u, .val (.sl I) (.o .i) list5, .u, .u, .u, .val I .i t9, .val I .i t10] ++ List.replicate 11 .u) K
noncomputable abbrev zz88_z : Ex → St → Option (Y4 × Unit) := finish (A_zz88) S_zz88 Try.f104.results.toList
noncomputable abbrev zz88_X3 (kX : St → Option (Y4 × Unit)) : Y4 → Option (Y4 × Unit) := fun (list5 : Y4) => kX ([.u, .u, .u, .u, .u, .val (.sl I) (.o .i) list5] ++ List.replicate 16 .u)
noncomputable abbrev zz88_E3 (kX : St → Option (Y4 × Unit)) (kO : Nat → St → Option (Y4 × Unit)) : Ex → St → Option (Y4 × Unit) := exK zz88_z 0 ((A_zz88).shape 17) kX kO
theorem zz88_step3 (N : Nat) (m : Nat) (kX : St → Option (Y4 × Unit)) (kO : Nat → St → Option (Y4 × Unit)) (so1 : (Y1 × (Int × (Int × (Int × Unit))))) (list5 : Y4) (t9 : Int) (t10 : Int) : zz88_R3 N (m + 1) (zz88_E3 kX kO) so1 list5 t9 t10 = zz88_b3 (zz88_R3 N m (zz88_E3 kX kO)) (zz88_X3 kX) so1 list5 t9 t10 := by kernel_rfl
theorem zz88_iter3 (N : Nat) (kX : St → Option (Y4 × Unit)) (kO : Nat → St → Option (Y4 × Unit)) : ∀ (n : Nat) (so1 : (Y1 × (Int × (Int × (Int × Unit))))) (list5 : Y4) (t9 : Int) (t10 : Int), zz88_R3 N n (zz88_E3 kX kO) so1 list5 t9 t10 = zz88_l3 N (zz88_X3 kX) n so1 list5 t9 t10
  | 0, _, _, _, _ => rfl
  | m + 1, so1, list5, t9, t10 => by
    have hrec : zz88_R3 N m (zz88_E3 kX kO) = (zz88_l3 N (zz88_X3 kX) m) := (funext fun so1 => (funext fun list5 => (funext fun t9 => (funext fun t10 => zz88_iter3 N kX kO m so1 list5 t9 t10))))
    refine (zz88_step3 N m kX kO so1 list5 t9 t10).trans ?_
    rw [hrec]
    rfl
noncomputable abbrev zz88_K3 (N : Nat) : Ex → St → Option (Y4 × Unit) := (blockK 0 (seqK ((A_zz88).shape 17) (run (A_zz88) N (codeAt Try.f104 [1, 1, 1])) zz88_z))
noncomputable abbrev zz88_k3 (N : Nat) : St → Option (Y4 × Unit) := fun st' => run (A_zz88) N (codeAt Try.f104 [1, 1, 1]) st' zz88_z
theorem zz88_after3 (N : Nat) (list5 : Y4) : zz88_X3 (zz88_k3 N) list5 = zz88_a3 list5 := by kernel_rfl
theorem zz88_in3 (N : Nat) (so1 : (Y1 × (Int × (Int × (Int × Unit))))) (list5 : Y4) (t9 : Int) (t10 : Int) : zz88_R3 N N (zz88_K3 N) so1 list5 t9 t10 = zz88_F3 N so1 list5 t9 t10 :=
  have h : zz88_X3 (zz88_k3 N) = (zz88_a3) := (funext fun list5 => zz88_after3 N list5)
  ((iter_ex (fun st => by kernel_rfl) (fun st => by kernel_rfl)).trans (zz88_iter3 N (zz88_k3 N) (fun j st => (zz88_K3 N) (.exit j) st) N so1 list5 t9 t10)).trans (congrArg (fun k => zz88_l3 N k N so1 list5 t9 t10) h)
theorem run0_zz88 (N : Nat) (x : (S_zz88).a.den) : runF (A_zz88) N Try.f104 S_zz88 x = (zz88_s (zz88_R3 N N (zz88_K3 N)) x.1 x.2.1) := by kernel_rfl
theorem run_zz88 (N : Nat) (x : (S_zz88).a.den) : runF (A_zz88) N Try.f104 S_zz88 x = zz88 N x.1 x.2.1 := by
  refine (run0_zz88 N x).trans ?_
  rw [(funext fun so1 => (funext fun list5 => (funext fun t9 => (funext fun t10 => zz88_in3 N so1 list5 t9 t10))))]
  rfl
theorem fn_zz88 : FnOk Try.prog 104 := ⟨_, Try.func104, by kernel_rfl, by kernel_rfl⟩
theorem good_zz88 : Gx.Good Try.prog 104 S_zz88 := good_of_run Try.func104 (of_decide_eq_true (by kernel_rfl)) fun x r h => ⟨A_zz88, big, mkCfg_ok tabOk, mkCfg_sigs (show SigsOk Try.prog [(153, S_zz87)] from ⟨⟨fn_zz87, good_zz87⟩, trivial⟩), (run_zz88 big x).trans h⟩

/-! zz89 -/
def zz89_s (l_0 : Y1) (x_1 : Int) (y_2 : Int) (z_3 : Int) : Option (Y4 × Unit) :=
  (l_0).bind fun xq1 =>
  (zz88 big xq1.1 (l_0, y_2, x_1, z_3, ())).bind fun rq2 =>
  some (rq2.1, (()))
def zz89 (l_0 : Y1) (x_1 : Int) (y_2 : Int) (z_3 : Int) : Option (Y4 × Unit) := zz89_s l_0 x_1 y_2 z_3
def S_zz89 : Sig := { a := (.pair (.opt (.pair (.sl (.sl .bool)) (.pair (.sl (.sl I)) (.pair (.sl (.sl I)) .unit)))) (.pair I (.pair I (.pair I .unit)))), md := [0, 0, 0, 0], mf := [], m := .unit, r := (.sl I), rf := (.o .i), f := fun x => zz89 x.1 x.2.1 x.2.2.1 x.2.2.2.1 }
def A_zz89 : Cfg := mkCfg tab [(104, S_zz88)] [(3, [.drop, .drop, .drop, .drop, .as (.ptr (.opt (.pair (.sl (.sl .bool)) (.pair (.sl (.sl I)) (.pair (.sl (.sl I)) .unit))))) .i, .as (.ptr I) .i, .as (.ptr I) .i, .as (.ptr I) .i])]
theorem run_zz89 (N : Nat) (x : (S_zz89).a.den) : runF (A_zz89) N Try.f145 S_zz89 x = zz89 x.1 x.2.1 x.2.2.1 x.2.2.2.1 := by kernel_rfl
theorem fn_zz89 : FnOk Try.prog 145 := ⟨_, Try.func145, by kernel_rfl, by kernel_rfl⟩
theorem good_zz89 : Gx.Good Try.prog 145 S_zz89 := good_of_run Try.func145 (of_decide_eq_true (by kernel_rfl)) fun x r h => ⟨A_zz89, big, mkCfg_ok tabOk, mkCfg_sigs (show SigsOk Try.prog [(104, S_zz88)] from ⟨⟨fn_zz88, good_zz88⟩, trivial⟩), (run_zz89 big x).trans h⟩

/-! zz90 -/
def zz90_s (l_0 : Y1) (x_1 : Int) : Option (Y4 × Unit) :=
  (zz85 big l_0).bind fun rq1 =>
  (zz86 big l_0).bind fun rq2 =>
  (zz89 l_0 rq1.1 x_1 rq2.1).bind fun rq3 =>
  some (rq3.1, (()))
def zz90 (l_0 : Y1) (x_1 : Int) : Option (Y4 × Unit) := zz90_s l_0 x_1
def S_zz90 : Sig := { a := (.pair (.opt (.pair (.sl (.sl .bool)) (.pair (.sl (.sl I)) (.pair (.sl (.sl I)) .unit)))) (.pair I .unit)), md := [0, 0], mf := [], m := .unit, r := (.sl I), rf := (.o .i), f := fun x => zz90 x.1 x.2.1 }
def A_zz90 : Cfg := mkCfg tab [(146, S_zz85), (147, S_zz86), (145, S_zz89)] []
theorem run_zz90 (N : Nat) (x : (S_zz90).a.den) : runF (A_zz90) N Try.f128 S_zz90 x = zz90 x.1 x.2.1 := by kernel_rfl
theorem fn_zz90 : FnOk Try.prog 128 := ⟨_, Try.func128, by kernel_rfl, by kernel_rfl⟩
theorem good_zz90 : Gx.Good Try.prog 128 S_zz90 := good_of_run Try.func128 (of_decide_eq_true (by kernel_rfl)) fun x r h => ⟨A_zz90, big, mkCfg_ok tabOk, mkCfg_sigs (show SigsOk Try.prog [(146, S_zz85), (147, S_zz86), (145, S_zz89)] from ⟨⟨fn_zz85, good_zz85⟩, ⟨fn_zz86, good_zz86⟩, ⟨fn_zz89, good_zz89⟩, trivial⟩), (run_zz90 big x).trans h⟩

/-! zz91 -/
def zz91_s (x_0 : Int) (p_1 : Y1) : Option (Bool × Unit) :=
  (zz90 p_1 x_0).bind fun rq1 =>
  some (decide ((rq1.1.length : Int) = (0 : Int)), (()))
def zz91 (x_0 : Int) (p_1 : Y1) : Option (Bool × Unit) := zz91_s x_0 p_1
def S_zz91 : Sig := { a := (.pair I (.pair (.ptr (.opt (.pair (.sl (.sl .bool)) (.pair (.sl (.sl I)) (.pair (.sl (.sl I)) .unit))))) .unit)), md := [0, 0], mf := [], m := .unit, r := .bool, rf := .i, f := fun x => zz91 x.1 x.2.1 }
def A_zz91 : Cfg := mkCfg tab [(128, S_zz90)] []
theorem run_zz91 (N : Nat) (x : (S_zz91).a.den) : runF (A_zz91) N Try.f127 S_zz91 x = zz91 x.1 x.2.1 := by kernel_rfl
theorem fn_zz91 : FnOk Try.prog 127 := ⟨_, Try.func127, by kernel_rfl, by kernel_rfl⟩
theorem good_zz91 : Gx.Good Try.prog 127 S_zz91 := good_of_run Try.func127 (of_decide_eq_true (by kernel_rfl)) fun x r h => ⟨A_zz91, big, mkCfg_ok tabOk, mkCfg_sigs (show SigsOk Try.prog [(128, S_zz90)] from ⟨⟨fn_zz90, good_zz90⟩, trivial⟩), (run_zz91 big x).trans h⟩

/-! zz92 -/
def zz92_b3 (rec : (Y1 × Unit) → Y4 → Int → Int → Option (Y4 × Unit)) (k : Y4 → Option (Y4 × Unit)) (so1 : (Y1 × Unit)) (list5 : Y4) (t9 : Int) (t10 : Int) : Option (Y4 × Unit) :=
  cond (decide (t10 < t9))
  ((zz91 t10 so1.1).bind fun rq1 =>
  cond rq1.1
  ((appI list5 [t10]).bind fun xq2 =>
  rec so1 xq2 t9 (IntKind.i64.wrap (t10 + (1 : Int))))
  (rec so1 list5 t9 (IntKind.i64.wrap (t10 + (1 : Int)))))
  (k list5)
def zz92_a3 (list5 : Y4) : Option (Y4 × Unit) :=
  some (list5, (()))
def zz92_s (L3 : (Y1 × Unit) → Y4 → Int → Int → Option (Y4 × Unit)) (o_0 : Y5) (so_1 : (Y1 × Unit)) : Option (Y4 × Unit) :=
  L3 so_1 [] (o_0.length : Int) (0 : Int)
def zz92_l3 (N : Nat) (k : Y4 → Option (Y4 × Unit)) : Nat → (Y1 × Unit) → Y4 → Int → Int → Option (Y4 × Unit)
  | 0, _, _, _, _ => none
  | m + 1, so1, list5, t9, t10 => zz92_b3 (zz92_l3 N k m) k so1 list5 t9 t10
def zz92_F3 (N : Nat) (so1 : (Y1 × Unit)) (list5 : Y4) (t9 : Int) (t10 : Int) : Option (Y4 × Unit) := zz92_l3 N (zz92_a3) N so1 list5 t9 t10
def zz92 (N : Nat) (o_0 : Y5) (so_1 : (Y1 × Unit)) : Option (Y4 × Unit) := zz92_s (zz92_F3 N) o_0 so_1
def S_zz92 : Sig := { a := (.pair (.sl (.sl .bool)) (.pair (.clo 127 0 (.pair (.ptr (.opt (.pair (.sl (.sl .bool)) (.pair (.sl (.sl I)) (.pair (.sl (.sl I)) .unit))))) .unit)) .unit)), md := [0, 0], mf := [], m := .unit, r := (.sl I), rf := (.o .i), f := fun x => zz92 big x.1 x.2.1 }
def A_zz92 : Cfg := mkCfg tab [(127, S_zz91)] [(6, [.drop, .as (.clo 127 0 (.pair (.ptr (.opt (.pair (.sl (.sl .bool)) (.pair (.sl (.sl I)) (.pair (.sl (.sl I)) .unit))))) .unit)) .i, .drop, .drop, .drop, .as (.sl I) (.o .i), .drop, .drop, .drop, .as I .i, .as I .i]), (17, [.drop, .drop, .drop, .drop, .drop, .as (.sl I) (.o .i)])]
noncomputable def zz92_R3 (N n : Nat) (K : Ex → St → Option (Y4 × Unit)) (so1 : (Y1 × Unit)) (list5 : Y4) (t9 : Int) (t10 : Int) : Option (Y4 × Unit) := iter ((A_zz92).shape 6) (run (A_zz92) N (codeAt Try.f104 [1, 1, 0, 1, 0, 0])) n ([.u, .val (.clo 127 0 (.pair (.ptr (.opt (.pair (.sl (.sl .bool)) (.pair (.sl (.sl I)) (.pair (.sl (.sl I)) .unit))))) .unit)) .i so1, .u, .u, .u, .val (.sl I) (.o .i) list5, .u, .u, .u, .val I .i t9, .val I .i t10] ++ List.replicate 11 .u) K
noncomputable abbrev zz92_z : Ex → St → Option (Y4 × Unit) := finish (A_zz92) S_zz92 Try.f104.results.toList
noncomputable abbrev zz92_X3 (kX : St → Option (Y4 × Unit)) : Y4 → Option (Y4 × Unit) := fun (list5 : Y4) => kX ([.u, .u, .u, .u, .u, .val (.sl I) (.o .i) list5] ++ List.replicate 16 .u)
noncomputable abbrev zz92_E3 (kX : St → Option (Y4 × Unit)) (kO : Nat → St → Option (Y4 × Unit)) : Ex → St → Option (Y4 × Unit) := exK zz92_z 0 ((A_zz92).shape 17) kX kO
theorem zz92_step3 (N : Nat) (m : Nat) (kX : St → Option (Y4 × Unit)) (kO : Nat → St → Option (Y4 × Unit)) (so1 : (Y1 × Unit)) (list5 : Y4) (t9 : Int) (t10 : Int) : zz92_R3 N (m + 1) (zz92_E3 kX kO) so1 list5 t9 t10 = zz92_b3 (zz92_R3 N m (zz92_E3 kX kO)) (zz92_X3 kX) so1 list5 t9 t10 := by kernel_rfl
theorem zz92_iter3 (N : Nat) (kX : St → Option (Y4 × Unit)) (kO : Nat → St → Option (Y4 × Unit)) : ∀ (n : Nat) (so1 : (Y1 × Unit)) (list5 : Y4) (t9 : Int) (t10 : Int), zz92_R3 N n (zz92_E3 kX kO) so1 list5 t9 t10 = zz92_l3 N (zz92_X3 kX) n so1 list5 t9 t10
  | 0, _, _, _, _ => rfl
  | m + 1, so1, list5, t9, t10 => by
    have hrec : zz92_R3 N m (zz92_E3 kX kO) = (zz92_l3 N (zz92_X3 kX) m) := (funext fun so1 => (funext fun list5 => (funext fun t9 => (funext fun t10 => zz92_iter3 N kX kO m so1 list5 t9 t10))))
    refine (zz92_step3 N m kX kO so1 list5 t9 t10).trans ?_
    rw [hrec]
    rfl
noncomputable abbrev zz92_K3 (N : Nat) : Ex → St → Option (Y4 × Unit) := (blockK 0 (seqK ((A_zz92).shape 17) (run (A_zz92) N (codeAt Try.f104 [1, 1, 1])) zz92_z))
noncomputable abbrev zz92_k3 (N : Nat) : St → Option (Y4 × Unit) := fun st' => run (A_zz92) N (codeAt Try.f104 [1, 1, 1]) st' zz92_z
theorem zz92_after3 (N : Nat) (list5 : Y4) : zz92_X3 (zz92_k3 N) list5 = zz92_a3 list5 := by kernel_rfl
theorem zz92_in3 (N : Nat) (so1 : (Y1 × Unit)) (list5 : Y4) (t9 : Int) (t10 : Int) : zz92_R3 N N (zz92_K3 N) so1 list5 t9 t10 = zz92_F3 N so1 list5 t9 t10 :=
  have h : zz92_X3 (zz92_k3 N) = (zz92_a3) := (funext fun list5 => zz92_after3 N list5)
  ((iter_ex (fun st => by kernel_rfl) (fun st => by kernel_rfl)).trans (zz92_iter3 N (zz92_k3 N) (fun j st => (zz92_K3 N) (.exit j) st) N so1 list5 t9 t10)).trans (congrArg (fun k => zz92_l3 N k N so1 list5 t9 t10) h)
theorem run0_zz92 (N : Nat) (x : (S_zz92).a.den) : runF (A_zz92) N Try.f104 S_zz92 x = (zz92_s (zz92_R3 N N (zz92_K3 N)) x.1 x.2.1) := by kernel_rfl
theorem run_zz92 (N : Nat) (x : (S_zz92).a.den) : runF (A_zz92) N Try.f104 S_zz92 x = zz92 N x.1 x.2.1 := by
  refine (run0_zz92 N x).trans ?_
  rw [(funext fun so1 => (funext fun list5 => (funext fun t9 => (funext fun t10 => zz92_in3 N so1 list5 t9 t10))))]
  rfl
theorem fn_zz92 : FnOk Try.prog 104 := ⟨_, Try.func104, by kernel_rfl, by kernel_rfl⟩
theorem good_zz92 : Gx.Good Try.prog 104 S_zz92 := good_of_run Try.func104 (of_decide_eq_true (by kernel_rfl)) fun x r h => ⟨A_zz92, big, mkCfg_ok tabOk, mkCfg_sigs (show SigsOk Try.prog [(127, S_zz91)] from ⟨⟨fn_zz91, good_zz91⟩, trivial⟩), (run_zz92 big x).trans h⟩

/-! zz93 -/
def zz93_s (o_0 : Y5) (so_1 : (Y1 × Unit)) : Option (Bool × Unit) :=
  (zz92 big o_0 so_1).bind fun rq1 =>
  some (decide ((rq1.1.length : Int) = (0 : Int)), (()))
def zz93 (o_0 : Y5) (so_1 : (Y1 × Unit)) : Option (Bool × Unit) := zz93_s o_0 so_1
def S_zz93 : Sig := { a := (.pair (.sl (.sl .bool)) (.pair (.clo 127 0 (.pair (.ptr (.opt (.pair (.sl (.sl .bool)) (.pair (.sl (.sl I)) (.pair (.sl (.sl I)) .unit))))) .unit)) .unit)), md := [0, 0], mf := [], m := .unit, r := .bool, rf := .i, f := fun x => zz93 x.1 x.2.1 }
def A_zz93 : Cfg := mkCfg tab [(104, S_zz92)] []
theorem run_zz93 (N : Nat) (x : (S_zz93).a.den) : runF (A_zz93) N Try.f126 S_zz93 x = zz93 x.1 x.2.1 := by kernel_rfl
theorem fn_zz93 : FnOk Try.prog 126 := ⟨_, Try.func126, by kernel_rfl, by kernel_rfl⟩
theorem good_zz93 : Gx.Good Try.prog 126 S_zz93 := good_of_run Try.func126 (of_decide_eq_true (by kernel_rfl)) fun x r h => ⟨A_zz93, big, mkCfg_ok tabOk, mkCfg_sigs (show SigsOk Try.prog [(104, S_zz92)] from ⟨⟨fn_zz92, good_zz92⟩, trivial⟩), (run_zz93 big x).trans h⟩

/-! zz94 -/
def zz94_s (l_0 : Y1) : Option (Bool × Unit) :=
  (l_0).bind fun xq1 =>
  (zz93 xq1.1 (l_0, ())).bind fun rq2 =>
  some (rq2.1, (()))
def zz94 (l_0 : Y1) : Option (Bool × Unit) := zz94_s l_0
def S_zz94 : Sig := { a := (.pair (.opt (.pair (.sl (.sl .bool)) (.pair (.sl (.sl I)) (.pair (.sl (.sl I)) .unit)))) .unit), md := [0], mf := [], m := .unit, r := .bool, rf := .i, f := fun x => zz94 x.1 }
def A_zz94 : Cfg := mkCfg tab [(126, S_zz93)] [(3, [.drop, .as (.ptr (.opt (.pair (.sl (.sl .bool)) (.pair (.sl (.sl I)) (.pair (.sl (.sl I)) .unit))))) .i])]
theorem run_zz94 (N : Nat) (x : (S_zz94).a.den) : runF (A_zz94) N Try.f85 S_zz94 x = zz94 x.1 := by kernel_rfl
theorem fn_zz94 : FnOk Try.prog 85 := ⟨_, Try.func85, by kernel_rfl, by kernel_rfl⟩
theorem good_zz94 : Gx.Good Try.prog 85 S_zz94 := good_of_run Try.func85 (of_decide_eq_true (by kernel_rfl)) fun x r h => ⟨A_zz94, big, mkCfg_ok tabOk, mkCfg_sigs (show SigsOk Try.prog [(126, S_zz93)] from ⟨⟨fn_zz93, good_zz93⟩, trivial⟩), (run_zz94 big x).trans h⟩

/-! zz95 -/
def zz95_s (p_0 : Y2) : Option ((Y1 × (Bool × Unit)) × Unit) :=
  (zz84 p_0).bind fun rq1 =>
  cond rq1.1.2.1
  ((zz94 rq1.1.1).bind fun rq2 =>
  some ((rq1.1.1, rq2.1, ()), (())))
  (some ((rq1.1.1, false, ()), (())))
def zz95 (p_0 : Y2) : Option ((Y1 × (Bool × Unit)) × Unit) := zz95_s p_0
def S_zz95 : Sig := { a := (.pair (.pair (.sl (.sl I)) .unit) .unit), md := [0], mf := [], m := .unit, r := (.tup (.pair (.opt (.pair (.sl (.sl .bool)) (.pair (.sl (.sl I)) (.pair (.sl (.sl I)) .unit)))) (.pair .bool .unit))), rf := .i, f := fun x => zz95 x.1 }
def A_zz95 : Cfg := mkCfg tab [(84, S_zz84), (85, S_zz94)] []
theorem run_zz95 (N : Nat) (x : (S_zz95).a.den) : runF (A_zz95) N Try.f40 S_zz95 x = zz95 x.1 := by kernel_rfl
theorem fn_zz95 : FnOk Try.prog 40 := ⟨_, Try.func40, by kernel_rfl, by kernel_rfl⟩
theorem good_zz95 : Gx.Good Try.prog 40 S_zz95 := good_of_run Try.func40 (of_decide_eq_true (by kernel_rfl)) fun x r h => ⟨A_zz95, big, mkCfg_ok tabOk, mkCfg_sigs (show SigsOk Try.prog [(84, S_zz84), (85, S_zz94)] from ⟨⟨fn_zz84, good_zz84⟩, ⟨fn_zz94, good_zz94⟩, trivial⟩), (run_zz95 big x).trans h⟩

/-! zz96 -/
def zz96_b3 (rec : Y1 → Y4 → Int → Int → Option (Y4 × Unit)) (k : Y4 → Option (Y4 × Unit)) (l0 : Y1) (list3 : Y4) (t10 : Int) (t11 : Int) : Option (Y4 × Unit) :=
  cond (decide (t11 < t10))
  ((zz90 l0 t11).bind fun rq2 =>
  (atI rq2.1 (0 : Int)).bind fun _ =>
  (rq2.1[(0 : Int).toNat]?).bind fun xq3 =>
  (appI list3 [xq3]).bind fun xq4 =>
  rec l0 xq4 t10 (IntKind.i64.wrap (t11 + (1 : Int))))
  (k list3)
def zz96_a3 (list3 : Y4) : Option (Y4 × Unit) :=
  some (list3, (()))
def zz96_s (L3 : Y1 → Y4 → Int → Int → Option (Y4 × Unit)) (l_0 : Y1) : Option (Y4 × Unit) :=
  (l_0).bind fun xq1 =>
  L3 l_0 [] (xq1.1.length : Int) (0 : Int)
def zz96_l3 (N : Nat) (k : Y4 → Option (Y4 × Unit)) : Nat → Y1 → Y4 → Int → Int → Option (Y4 × Unit)
  | 0, _, _, _, _ => none
  | m + 1, l0, list3, t10, t11 => zz96_b3 (zz96_l3 N k m) k l0 list3 t10 t11
def zz96_F3 (N : Nat) (l0 : Y1) (list3 : Y4) (t10 : Int) (t11 : Int) : Option (Y4 × Unit) := zz96_l3 N (zz96_a3) N l0 list3 t10 t11
def zz96 (N : Nat) (l_0 : Y1) : Option (Y4 × Unit) := zz96_s (zz96_F3 N) l_0
def S_zz96 : Sig := { a := (.pair (.opt (.pair (.sl (.sl .bool)) (.pair (.sl (.sl I)) (.pair (.sl (.sl I)) .unit)))) .unit), md := [0], mf := [], m := .unit, r := (.sl I), rf := (.o .i), f := fun x => zz96 big x.1 }
def A_zz96 : Cfg := mkCfg tab [(128, S_zz90)] [(6, [.as (.opt (.pair (.sl (.sl .bool)) (.pair (.sl (.sl I)) (.pair (.sl (.sl I)) .unit)))) .i, .drop, .drop, .as (.sl I) (.o .i), .drop, .drop, .drop, .drop, .drop, .drop, .as I .i, .as I .i]), (15, [.drop, .drop, .drop, .as (.sl I) (.o .i)])]
noncomputable def zz96_R3 (N n : Nat) (K : Ex → St → Option (Y4 × Unit)) (l0 : Y1) (list3 : Y4) (t10 : Int) (t11 : Int) : Option (Y4 × Unit) := iter ((A_zz96).shape 6) (run (A_zz96) N (codeAt Try.f129 [1, 1, 0, 1, 0, 0])) n ([.val (.opt (.pair (.sl (.sl .bool)) (.pair (.sl (.sl I)) (.pair (.sl (.sl I)) .unit)))) .i l0, .u, .u, .val (.sl I) (.o .i) list3, .u, .u, .u, .u, .u, .u, .val I .i t10, .val I .i t11] ++ List.replicate 12 .u) K
noncomputable abbrev zz96_z : Ex → St → Option (Y4 × Unit) := finish (A_zz96) S_zz96 Try.f129.results.toList
noncomputable abbrev zz96_X3 (kX : St → Option (Y4 × Unit)) : Y4 → Option (Y4 × Unit) := fun (list3 : Y4) => kX ([.u, .u, .u, .val (.sl I) (.o .i) list3] ++ List.replicate 20 .u)
noncomputable abbrev zz96_E3 (kX : St → Option (Y4 × Unit)) (kO : Nat → St → Option (Y4 × Unit)) : Ex → St → Option (Y4 × Unit) := exK zz96_z 0 ((A_zz96).shape 15) kX kO
theorem zz96_step3 (N : Nat) (m : Nat) (kX : St → Option (Y4 × Unit)) (kO : Nat → St → Option (Y4 × Unit)) (l0 : Y1) (list3 : Y4) (t10 : Int) (t11 : Int) : zz96_R3 N (m + 1) (zz96_E3 kX kO) l0 list3 t10 t11 = zz96_b3 (zz96_R3 N m (zz96_E3 kX kO)) (zz96_X3 kX) l0 list3 t10 t11 := by kernel_rfl
theorem zz96_iter3 (N : Nat) (kX : St → Option (Y4 × Unit)) (kO : Nat → St → Option (Y4 × Unit)) : ∀ (n : Nat) (l0 : Y1) (list3 : Y4) (t10 : Int) (t11 : Int), zz96_R3 N n (zz96_E3 kX kO) l0 list3 t10 t11 = zz96_l3 N (zz96_X3 kX) n l0 list3 t10 t11
  | 0, _, _, _, _ => rfl
  | m + 1, l0, list3, t10, t11 => by
    have hrec : zz96_R3 N m (zz96_E3 kX kO) = (zz96_l3 N (zz96_X3 kX) m) := (funext fun l0 => (funext fun list3 => (funext fun t10 => (funext fun t11 => zz96_iter3 N kX kO m l0 list3 t10 t11))))
    refine (zz96_step3 N m kX kO l0 list3 t10 t11).trans ?_
    rw [hrec]
    rfl
noncomputable abbrev zz96_K3 (N : Nat) : Ex → St → Option (Y4 × Unit) := (blockK 0 (seqK ((A_zz96).shape 15) (run (A_zz96) N (codeAt Try.f129 [1, 1, 1])) zz96_z))
noncomputable abbrev zz96_k3 (N : Nat) : St → Option (Y4 × Unit) := fun st' => run (A_zz96) N (codeAt Try.f129 [1, 1, 1]) st' zz96_z
theorem zz96_after3 (N : Nat) (list3 : Y4) : zz96_X3 (zz96_k3 N) list3 = zz96_a3 list3 := by kernel_rfl
theorem zz96_in3 (N : Nat) (l0 : Y1) (list3 : Y4) (t10 : Int) (t11 : Int) : zz96_R3 N N (zz96_K3 N) l0 list3 t10 t11 = zz96_F3 N l0 list3 t10 t11 :=
  have h : zz96_X3 (zz96_k3 N) = (zz96_a3) := (funext fun list3 => zz96_after3 N list3)
  ((iter_ex (fun st => by kernel_rfl) (fun st => by kernel_rfl)).trans (zz96_iter3 N (zz96_k3 N) (fun j st => (zz96_K3 N) (.exit j) st) N l0 list3 t10 t11)).trans (congrArg (fun k => zz96_l3 N k N l0 list3 t10 t11) h)
theorem run0_zz96 (N : Nat) (x : (S_zz96).a.den) : runF (A_zz96) N Try.f129 S_zz96 x = (zz96_s (zz96_R3 N N (zz96_K3 N)) x.1) := by kernel_rfl
theorem run_zz96 (N : Nat) (x : (S_zz96).a.den) : runF (A_zz96) N Try.f129 S_zz96 x = zz96 N x.1 := by
  refine (run0_zz96 N x).trans ?_
  rw [(funext fun l0 => (funext fun list3 => (funext fun t10 => (funext fun t11 => zz96_in3 N l0 list3 t10 t11))))]
  rfl
theorem fn_zz96 : FnOk Try.prog 129 := ⟨_, Try.func129, by kernel_rfl, by kernel_rfl⟩
theorem good_zz96 : Gx.Good Try.prog 129 S_zz96 := good_of_run Try.func129 (of_decide_eq_true (by kernel_rfl)) fun x r h => ⟨A_zz96, big, mkCfg_ok tabOk, mkCfg_sigs (show SigsOk Try.prog [(128, S_zz90)] from ⟨⟨fn_zz90, good_zz90⟩, trivial⟩), (run_zz96 big x).trans h⟩

/-! zz97 -/
def zz97_b8 (rec : Y1 → Y4 → Y3 → Int → Y4 → Int → Int → Int → Int → Option Y2) (k : Y1 → Y4 → Y3 → Y4 → Int → Int → Option Y2) (l0 : Y1) (not3 : Y4) (table4 : Y3) (x5 : Int) (row6 : Y4) (t15 : Int) (t16 : Int) (t24 : Int) (t25 : Int) : Option Y2 :=
  cond (decide (t25 < t24))
  ((l0).bind fun xq4 =>
  (l0).bind fun xq5 =>
  (atI xq5.2.1 x5).bind fun xq6 =>
  (atI not3 t25).bind fun _ =>
  (not3[t25.toNat]?).bind fun xq7 =>
  (atI xq6 xq7).bind fun xq8 =>
  (atI xq4.2.2.1 xq8).bind fun xq9 =>
  (l0).bind fun xq10 =>
  (atI not3 x5).bind fun _ =>
  (not3[x5.toNat]?).bind fun xq11 =>
  (atI xq10.2.1 xq11).bind fun xq12 =>
  (atI xq12 t25).bind fun xq13 =>
  (atI xq9 xq13).bind fun xq14 =>
  (appI row6 [xq14]).bind fun xq15 =>
  rec l0 not3 table4 x5 xq15 t15 t16 t24 (IntKind.i64.wrap (t25 + (1 : Int))))
  (k l0 not3 table4 row6 t15 t16)
def zz97_a8 (rec : Y1 → Y4 → Y3 → Int → Int → Option Y2) (l0 : Y1) (not3 : Y4) (table4 : Y3) (row6 : Y4) (t15 : Int) (t16 : Int) : Option Y2 :=
  (appI table4 [row6]).bind fun xq16 =>
  rec l0 not3 xq16 t15 (IntKind.i64.wrap (t16 + (1 : Int)))
def zz97_b4 (L8 : Y1 → Y4 → Y3 → Int → Y4 → Int → Int → Int → Int → Option Y2) (k : Y3 → Option Y2) (l0 : Y1) (not3 : Y4) (table4 : Y3) (t15 : Int) (t16 : Int) : Option Y2 :=
  cond (decide (t16 < t15))
  ((l0).bind fun xq3 =>
  L8 l0 not3 table4 t16 [] t15 t16 (xq3.1.length : Int) (0 : Int))
  (k table4)
def zz97_a4 (table4 : Y3) : Option Y2 :=
  some (table4, (()))
def zz97_s (L4 : Y1 → Y4 → Y3 → Int → Int → Option Y2) (l_0 : Y1) : Option Y2 :=
  (zz96 big l_0).bind fun rq1 =>
  (l_0).bind fun xq2 =>
  L4 l_0 rq1.1 [] (xq2.1.length : Int) (0 : Int)
def zz97_l8 (N : Nat) (k : Y1 → Y4 → Y3 → Y4 → Int → Int → Option Y2) : Nat → Y1 → Y4 → Y3 → Int → Y4 → Int → Int → Int → Int → Option Y2
  | 0, _, _, _, _, _, _, _, _, _ => none
  | m + 1, l0, not3, table4, x5, row6, t15, t16, t24, t25 => zz97_b8 (zz97_l8 N k m) k l0 not3 table4 x5 row6 t15 t16 t24 t25
def zz97_F8 (N : Nat) (rec : Y1 → Y4 → Y3 → Int → Int → Option Y2) (k : Y3 → Option Y2) (l0 : Y1) (not3 : Y4) (table4 : Y3) (x5 : Int) (row6 : Y4) (t15 : Int) (t16 : Int) (t24 : Int) (t25 : Int) : Option Y2 := zz97_l8 N (zz97_a8 rec) N l0 not3 table4 x5 row6 t15 t16 t24 t25
def zz97_l4 (N : Nat) (k : Y3 → Option Y2) : Nat → Y1 → Y4 → Y3 → Int → Int → Option Y2
  | 0, _, _, _, _, _ => none
  | m + 1, l0, not3, table4, t15, t16 => zz97_b4 (zz97_F8 N (zz97_l4 N k m) k) k l0 not3 table4 t15 t16
def zz97_F4 (N : Nat) (l0 : Y1) (not3 : Y4) (table4 : Y3) (t15 : Int) (t16 : Int) : Option Y2 := zz97_l4 N (zz97_a4) N l0 not3 table4 t15 t16
def zz97 (N : Nat) (l_0 : Y1) : Option Y2 := zz97_s (zz97_F4 N) l_0
def S_zz97 : Sig := { a := (.pair (.opt (.pair (.sl (.sl .bool)) (.pair (.sl (.sl I)) (.pair (.sl (.sl I)) .unit)))) .unit), md := [0], mf := [], m := .unit, r := (.sl (.sl I)), rf := (.o (.o .i)), f := fun x => zz97 big x.1 }
def A_zz97 : Cfg := mkCfg tab [(129, S_zz96)] [(8, [.as (.opt (.pair (.sl (.sl .bool)) (.pair (.sl (.sl I)) (.pair (.sl (.sl I)) .unit)))) .i, .drop, .drop, .as (.sl I) (.o .i), .as (.sl (.sl I)) (.o (.o .i)), .drop, .drop, .drop, .drop, .drop, .drop, .drop, .drop, .drop, .drop, .as I .i, .as I .i]), (16, [.as (.opt (.pair (.sl (.sl .bool)) (.pair (.sl (.sl I)) (.pair (.sl (.sl I)) .unit)))) .i, .drop, .drop, .as (.sl I) (.o .i), .as (.sl (.sl I)) (.o (.o .i)), .as I .i, .as (.sl I) (.o .i), .drop, .drop, .drop, .drop, .drop, .drop, .drop, .drop, .as I .i, .as I .i, .drop, .drop, .drop, .drop, .drop, .drop, .drop, .as I .i, .as I .i]), (29, [.drop, .drop, .drop, .drop, .as (.sl (.sl I)) (.o (.o .i))]), (25, [.as (.opt (.pair (.sl (.sl .bool)) (.pair (.sl (.sl I)) (.pair (.sl (.sl I)) .unit)))) .i, .drop, .drop, .as (.sl I) (.o .i), .as (.sl (.sl I)) (.o (.o .i)), .drop, .as (.sl I) (.o .i), .drop, .drop, .drop, .drop, .drop, .drop, .drop, .drop, .as I .i, .as I .i])]
noncomputable def zz97_R4 (N n : Nat) (K : Ex → St → Option Y2) (l0 : Y1) (not3 : Y4) (table4 : Y3) (t15 : Int) (t16 : Int) : Option Y2 := iter ((A_zz97).shape 8) (run (A_zz97) N (codeAt Try.f87 [1, 1, 1, 0, 1, 0, 0])) n ([.val (.opt (.pair (.sl (.sl .bool)) (.pair (.sl (.sl I)) (.pair (.sl (.sl I)) .unit)))) .i l0, .u, .u, .val (.sl I) (.o .i) not3, .val (.sl (.sl I)) (.o (.o .i)) table4, .u, .u, .u, .u, .u, .u, .u, .u, .u, .u, .val I .i t15, .val I .i t16] ++ List.replicate 55 .u) K
noncomputable def zz97_R8 (N n : Nat) (K : Ex → St → Option Y2) (l0 : Y1) (not3 : Y4) (table4 : Y3) (x5 : Int) (row6 : Y4) (t15 : Int) (t16 : Int) (t24 : Int) (t25 : Int) : Option Y2 := iter ((A_zz97).shape 16) (run (A_zz97) N (codeAt Try.f87 [1, 1, 1, 0, 1, 0, 0, 1, 1, 0, 0, 1, 1, 0, 1, 0, 0])) n ([.val (.opt (.pair (.sl (.sl .bool)) (.pair (.sl (.sl I)) (.pair (.sl (.sl I)) .unit)))) .i l0, .u, .u, .val (.sl I) (.o .i) not3, .val (.sl (.sl I)) (.o (.o .i)) table4, .val I .i x5, .val (.sl I) (.o .i) row6, .u, .u, .u, .u, .u, .u, .u, .u, .val I .i t15, .val I .i t16, .u, .u, .u, .u, .u, .u, .u, .val I .i t24, .val I .i t25] ++ List.replicate 46 .u) K
noncomputable abbrev zz97_z : Ex → St → Option Y2 := finish (A_zz97) S_zz97 Try.f87.results.toList
noncomputable abbrev zz97_X4 (kX : St → Option Y2) : Y3 → Option Y2 := fun (table4 : Y3) => kX ([.u, .u, .u, .u, .val (.sl (.sl I)) (.o (.o .i)) table4] ++ List.replicate 67 .u)
noncomputable abbrev zz97_E4 (kX : St → Option Y2) (kO : Nat → St → Option Y2) : Ex → St → Option Y2 := exK zz97_z 0 ((A_zz97).shape 29) kX kO
noncomputable abbrev zz97_X8 (kX : St → Option Y2) : Y1 → Y4 → Y3 → Y4 → Int → Int → Option Y2 := fun (l0 : Y1) (not3 : Y4) (table4 : Y3) (row6 : Y4) (t15 : Int) (t16 : Int) => kX ([.val (.opt (.pair (.sl (.sl .bool)) (.pair (.sl (.sl I)) (.pair (.sl (.sl I)) .unit)))) .i l0, .u, .u, .val (.sl I) (.o .i) not3, .val (.sl (.sl I)) (.o (.o .i)) table4, .u, .val (.sl I) (.o .i) row6, .u, .u, .u, .u, .u, .u, .u, .u, .val I .i t15, .val I .i t16] ++ List.replicate 55 .u)
noncomputable abbrev zz97_E8 (kX : St → Option Y2) (kO : Nat → St → Option Y2) : Ex → St → Option Y2 := exK zz97_z 2 ((A_zz97).shape 25) kX kO
theorem zz97_step8 (N : Nat) (m : Nat) (kX : St → Option Y2) (kO : Nat → St → Option Y2) (l0 : Y1) (not3 : Y4) (table4 : Y3) (x5 : Int) (row6 : Y4) (t15 : Int) (t16 : Int) (t24 : Int) (t25 : Int) : zz97_R8 N (m + 1) (zz97_E8 kX kO) l0 not3 table4 x5 row6 t15 t16 t24 t25 = zz97_b8 (zz97_R8 N m (zz97_E8 kX kO)) (zz97_X8 kX) l0 not3 table4 x5 row6 t15 t16 t24 t25 := by kernel_rfl
theorem zz97_iter8 (N : Nat) (kX : St → Option Y2) (kO : Nat → St → Option Y2) : ∀ (n : Nat) (l0 : Y1) (not3 : Y4) (table4 : Y3) (x5 : Int) (row6 : Y4) (t15 : Int) (t16 : Int) (t24 : Int) (t25 : Int), zz97_R8 N n (zz97_E8 kX kO) l0 not3 table4 x5 row6 t15 t16 t24 t25 = zz97_l8 N (zz97_X8 kX) n l0 not3 table4 x5 row6 t15 t16 t24 t25
  | 0, _, _, _, _, _, _, _, _, _ => rfl
  | m + 1, l0, not3, table4, x5, row6, t15, t16, t24, t25 => by
    have hrec : zz97_R8 N m (zz97_E8 kX kO) = (zz97_l8 N (zz97_X8 kX) m) := (funext fun l0 => (funext fun not3 => (funext fun table4 => (funext fun x5 => (funext fun row6 => (funext fun t15 => (funext fun t16 => (funext fun t24 => (funext fun t25 => zz97_iter8 N kX kO m l0 not3 table4 x5 row6 t15 t16 t24 t25)))))))))
    refine (zz97_step8 N m kX kO l0 not3 table4 x5 row6 t15 t16 t24 t25).trans ?_
    rw [hrec]
    rfl
noncomputable abbrev zz97_K8 (N : Nat) (m : Nat) (kX : St → Option Y2) (kO : Nat → St → Option Y2) : Ex → St → Option Y2 := (blockK 2 (seqK ((A_zz97).shape 25) (run (A_zz97) N (codeAt Try.f87 [1, 1, 1, 0, 1, 0, 0, 1, 1, 0, 0, 1, 1, 1])) (blockK 1 (seqK ((A_zz97).shape 27) (run (A_zz97) N (codeAt Try.f87 [1, 1, 1, 0, 1, 0, 0, 1, 1, 1])) (iterK ((A_zz97).shape 8) (run (A_zz97) N (codeAt Try.f87 [1, 1, 1, 0, 1, 0, 0])) m (zz97_E4 kX kO))))))
noncomputable abbrev zz97_k8 (N : Nat) (m : Nat) (kX : St → Option Y2) (kO : Nat → St → Option Y2) : St → Option Y2 := fun st' => run (A_zz97) N (codeAt Try.f87 [1, 1, 1, 0, 1, 0, 0, 1, 1, 0, 0, 1, 1, 1]) st' (blockK 1 (seqK ((A_zz97).shape 27) (run (A_zz97) N (codeAt Try.f87 [1, 1, 1, 0, 1, 0, 0, 1, 1, 1])) (iterK ((A_zz97).shape 8) (run (A_zz97) N (codeAt Try.f87 [1, 1, 1, 0, 1, 0, 0])) m (zz97_E4 kX kO))))
theorem zz97_after8 (N : Nat) (m : Nat) (kX : St → Option Y2) (kO : Nat → St → Option Y2) (l0 : Y1) (not3 : Y4) (table4 : Y3) (row6 : Y4) (t15 : Int) (t16 : Int) : zz97_X8 (zz97_k8 N m kX kO) l0 not3 table4 row6 t15 t16 = zz97_a8 (zz97_R4 N m (zz97_E4 kX kO)) l0 not3 table4 row6 t15 t16 := by kernel_rfl
theorem zz97_in8 (N : Nat) (m : Nat) (kX : St → Option Y2) (kO : Nat → St → Option Y2) (recF : Y1 → Y4 → Y3 → Int → Int → Option Y2) (hrec : zz97_R4 N m (zz97_E4 kX kO) = recF) (l0 : Y1) (not3 : Y4) (table4 : Y3) (x5 : Int) (row6 : Y4) (t15 : Int) (t16 : Int) (t24 : Int) (t25 : Int) : zz97_R8 N N (zz97_K8 N m kX kO) l0 not3 table4 x5 row6 t15 t16 t24 t25 = zz97_F8 N recF (zz97_X4 kX) l0 not3 table4 x5 row6 t15 t16 t24 t25 :=
  have h : zz97_X8 (zz97_k8 N m kX kO) = (zz97_a8 recF) := (funext fun l0 => (funext fun not3 => (funext fun table4 => (funext fun row6 => (funext fun t15 => (funext fun t16 => (zz97_after8 N m kX kO l0 not3 table4 row6 t15 t16).trans (by rw [hrec])))))))
  ((iter_ex (fun st => by kernel_rfl) (fun st => by kernel_rfl)).trans (zz97_iter8 N (zz97_k8 N m kX kO) (fun j st => (zz97_K8 N m kX kO) (.exit j) st) N l0 not3 table4 x5 row6 t15 t16 t24 t25)).trans (congrArg (fun k => zz97_l8 N k N l0 not3 table4 x5 row6 t15 t16 t24 t25) h)
theorem zz97_step4 (N : Nat) (m : Nat) (kX : St → Option Y2) (kO : Nat → St → Option Y2) (l0 : Y1) (not3 : Y4) (table4 : Y3) (t15 : Int) (t16 : Int) : zz97_R4 N (m + 1) (zz97_E4 kX kO) l0 not3 table4 t15 t16 = zz97_b4 (zz97_R8 N N (zz97_K8 N m kX kO)) (zz97_X4 kX) l0 not3 table4 t15 t16 := by kernel_rfl
theorem zz97_iter4 (N : Nat) (kX : St → Option Y2) (kO : Nat → St → Option Y2) : ∀ (n : Nat) (l0 : Y1) (not3 : Y4) (table4 : Y3) (t15 : Int) (t16 : Int), zz97_R4 N n (zz97_E4 kX kO) l0 not3 table4 t15 t16 = zz97_l4 N (zz97_X4 kX) n l0 not3 table4 t15 t16
  | 0, _, _, _, _, _ => rfl
  | m + 1, l0, not3, table4, t15, t16 => by
    have hrec : zz97_R4 N m (zz97_E4 kX kO) = (zz97_l4 N (zz97_X4 kX) m) := (funext fun l0 => (funext fun not3 => (funext fun table4 => (funext fun t15 => (funext fun t16 => zz97_iter4 N kX kO m l0 not3 table4 t15 t16)))))
    refine (zz97_step4 N m kX kO l0 not3 table4 t15 t16).trans ?_
    rw [(funext fun l0 => (funext fun not3 => (funext fun table4 => (funext fun x5 => (funext fun row6 => (funext fun t15 => (funext fun t16 => (funext fun t24 => (funext fun t25 => zz97_in8 N m kX kO (zz97_l4 N (zz97_X4 kX) m) hrec l0 not3 table4 x5 row6 t15 t16 t24 t25)))))))))]
    rfl
noncomputable abbrev zz97_K4 (N : Nat) : Ex → St → Option Y2 := (blockK 0 (seqK ((A_zz97).shape 29) (run (A_zz97) N (codeAt Try.f87 [1, 1, 1, 1])) zz97_z))
noncomputable abbrev zz97_k4 (N : Nat) : St → Option Y2 := fun st' => run (A_zz97) N (codeAt Try.f87 [1, 1, 1, 1]) st' zz97_z
theorem zz97_after4 (N : Nat) (table4 : Y3) : zz97_X4 (zz97_k4 N) table4 = zz97_a4 table4 := by kernel_rfl
theorem zz97_in4 (N : Nat) (l0 : Y1) (not3 : Y4) (table4 : Y3) (t15 : Int) (t16 : Int) : zz97_R4 N N (zz97_K4 N) l0 not3 table4 t15 t16 = zz97_F4 N l0 not3 table4 t15 t16 :=
  have h : zz97_X4 (zz97_k4 N) = (zz97_a4) := (funext fun table4 => zz97_after4 N table4)
  ((iter_ex (fun st => by kernel_rfl) (fun st => by kernel_rfl)).trans (zz97_iter4 N (zz97_k4 N) (fun j st => (zz97_K4 N) (.exit j) st) N l0 not3 table4 t15 t16)).trans (congrArg (fun k => zz97_l4 N k N l0 not3 table4 t15 t16) h)
theorem run0_zz97 (N : Nat) (x : (S_zz97).a.den) : runF (A_zz97) N Try.f87 S_zz97 x = (zz97_s (zz97_R4 N N (zz97_K4 N)) x.1) := by kernel_rfl
theorem run_zz97 (N : Nat) (x : (S_zz97).a.den) : runF (A_zz97) N Try.f87 S_zz97 x = zz97 N x.1 := by
  refine (run0_zz97 N x).trans ?_
  rw [(funext fun l0 => (funext fun not3 => (funext fun table4 => (funext fun t15 => (funext fun t16 => zz97_in4 N l0 not3 table4 t15 t16)))))]
  rfl
theorem fn_zz97 : FnOk Try.prog 87 := ⟨_, Try.func87, by kernel_rfl, by kernel_rfl⟩
theorem good_zz97 : Gx.Good Try.prog 87 S_zz97 := good_of_run Try.func87 (of_decide_eq_true (by kernel_rfl)) fun x r h => ⟨A_zz97, big, mkCfg_ok tabOk, mkCfg_sigs (show SigsOk Try.prog [(129, S_zz96)] from ⟨⟨fn_zz96, good_zz96⟩, trivial⟩), (run_zz97 big x).trans h⟩

/-! zz98 -/
def zz98_s (l_0 : Y1) : Option (Y7 × Unit) :=
  (l_0).bind fun xq1 =>
  (zz97 big l_0).bind fun rq2 =>
  (zz45 big rq2.1).bind fun rq3 =>
  (l_0).bind fun xq4 =>
  (zz45 big xq4.2.1).bind fun rq5 =>
  some (((xq1.1.length : Int), ([rq3.1, rq5.1], ())), (()))
def zz98 (l_0 : Y1) : Option (Y7 × Unit) := zz98_s l_0
def S_zz98 : Sig := { a := (.pair (.opt (.pair (.sl (.sl .bool)) (.pair (.sl (.sl I)) (.pair (.sl (.sl I)) .unit)))) .unit), md := [0], mf := [], m := .unit, r := (.pair I (.pair (.sl (.pair I (.pair (.sl I) .unit))) .unit)), rf := (.p .i (.p (.o (.p .i (.p (.o .i) .i))) .i)), f := fun x => zz98 x.1 }
def A_zz98 : Cfg := mkCfg tab [(87, S_zz97), (86, S_zz45)] []
theorem run_zz98 (N : Nat) (x : (S_zz98).a.den) : runF (A_zz98) N Try.f41 S_zz98 x = zz98 x.1 := by kernel_rfl
theorem fn_zz98 : FnOk Try.prog 41 := ⟨_, Try.func41, by kernel_rfl, by kernel_rfl⟩
theorem good_zz98 : Gx.Good Try.prog 41 S_zz98 := good_of_run Try.func41 (of_decide_eq_true (by kernel_rfl)) fun x r h => ⟨A_zz98, big, mkCfg_ok tabOk, mkCfg_sigs (show SigsOk Try.prog [(87, S_zz97), (86, S_zz45)] from ⟨⟨fn_zz97, good_zz97⟩, ⟨fn_zz45, good_zz45⟩, trivial⟩), (run_zz98 big x).trans h⟩

/-! zz99 -/
def zz99_s (p_0 : Y2) : Option ((Y7 × (Bool × Unit)) × Unit) :=
  (zz95 p_0).bind fun rq1 =>
  cond (!rq1.1.2.1)
  (some ((((0 : Int), (([] : (List Y6)), ())), false, ()), (())))
  ((zz98 rq1.1.1).bind fun rq2 =>
  some ((rq2.1, true, ()), (())))
def zz99 (p_0 : Y2) : Option ((Y7 × (Bool × Unit)) × Unit) := zz99_s p_0
def S_zz99 : Sig := { a := (.pair (.pair (.sl (.sl I)) .unit) .unit), md := [0], mf := [], m := .unit, r := (.tup (.pair (.pair I (.pair (.sl (.pair I (.pair (.sl I) .unit))) .unit)) (.pair .bool .unit))), rf := (.p (.p .i (.p (.o (.p .i (.p (.o .i) .i))) .i)) .i), f := fun x => zz99 x.1 }
def A_zz99 : Cfg := mkCfg tab [(40, S_zz95), (41, S_zz98)] []
theorem run_zz99 (N : Nat) (x : (S_zz99).a.den) : runF (A_zz99) N Try.f12 S_zz99 x = zz99 x.1 := by kernel_rfl
theorem fn_zz99 : FnOk Try.prog 12 := ⟨_, Try.func12, by kernel_rfl, by kernel_rfl⟩
theorem good_zz99 : Gx.Good Try.prog 12 S_zz99 := good_of_run Try.func12 (of_decide_eq_true (by kernel_rfl)) fun x r h => ⟨A_zz99, big, mkCfg_ok tabOk, mkCfg_sigs (show SigsOk Try.prog [(40, S_zz95), (41, S_zz98)] from ⟨⟨fn_zz95, good_zz95⟩, ⟨fn_zz98, good_zz98⟩, trivial⟩), (run_zz99 big x).trans h⟩

/-! zz100 -/
def zz100_s (a_0 : Y6) (b_1 : Y6) : Option (Bool × Unit) :=
  cond (decide (a_0.1 ≠ b_1.1))
  (some (false, (())))
  ((zz63 big a_0.2.1 b_1.2.1).bind fun rq1 =>
  cond (!rq1.1)
  (some (false, (())))
  (some (true, (()))))
def zz100 (a_0 : Y6) (b_1 : Y6) : Option (Bool × Unit) := zz100_s a_0 b_1
def S_zz100 : Sig := { a := (.pair (.pair I (.pair (.sl I) .unit)) (.pair (.pair I (.pair (.sl I) .unit)) .unit)), md := [0, 0], mf := [], m := .unit, r := .bool, rf := .i, f := fun x => zz100 x.1 x.2.1 }
def A_zz100 : Cfg := mkCfg tab [(23, S_zz63)] []
theorem run_zz100 (N : Nat) (x : (S_zz100).a.den) : runF (A_zz100) N Try.f88 S_zz100 x = zz100 x.1 x.2.1 := by kernel_rfl
theorem fn_zz100 : FnOk Try.prog 88 := ⟨_, Try.func88, by kernel_rfl, by kernel_rfl⟩
theorem good_zz100 : Gx.Good Try.prog 88 S_zz100 := good_of_run Try.func88 (of_decide_eq_true (by kernel_rfl)) fun x r h => ⟨A_zz100, big, mkCfg_ok tabOk, mkCfg_sigs (show SigsOk Try.prog [(23, S_zz63)] from ⟨⟨fn_zz63, good_zz63⟩, trivial⟩), (run_zz100 big x).trans h⟩

/-! zz101 -/
def zz101_b4 (rec : (List Y6) → (List Y6) → Int → Option (Bool × Unit)) (k : Option (Bool × Unit)) (a0 : (List Y6)) (b1 : (List Y6)) (i5 : Int) : Option (Bool × Unit) :=
  cond (decide (i5 < (a0.length : Int)))
  ((atI a0 i5).bind fun xq1 =>
  (atI b1 i5).bind fun xq2 =>
  (zz100 xq1 xq2).bind fun rq3 =>
  cond (!rq3.1)
  (some (false, (())))
  (rec a0 b1 (IntKind.i64.wrap (i5 + (1 : Int)))))
  (k)
def zz101_a4 : Option (Bool × Unit) :=
  some (true, (()))
def zz101_s (L4 : (List Y6) → (List Y6) → Int → Option (Bool × Unit)) (a_0 : (List Y6)) (b_1 : (List Y6)) : Option (Bool × Unit) :=
  cond (decide ((a_0.length : Int) ≠ (b_1.length : Int)))
  (some (false, (())))
  (L4 a_0 b_1 (0 : Int))
def zz101_l4 (N : Nat) (k : Option (Bool × Unit)) : Nat → (List Y6) → (List Y6) → Int → Option (Bool × Unit)
  | 0, _, _, _ => none
  | m + 1, a0, b1, i5 => zz101_b4 (zz101_l4 N k m) k a0 b1 i5
def zz101_F4 (N : Nat) (a0 : (List Y6)) (b1 : (List Y6)) (i5 : Int) : Option (Bool × Unit) := zz101_l4 N (zz101_a4) N a0 b1 i5
def zz101 (N : Nat) (a_0 : (List Y6)) (b_1 : (List Y6)) : Option (Bool × Unit) := zz101_s (zz101_F4 N) a_0 b_1
def S_zz101 : Sig := { a := (.pair (.sl (.pair I (.pair (.sl I) .unit))) (.pair (.sl (.pair I (.pair (.sl I) .unit))) .unit)), md := [0, 0], mf := [], m := .unit, r := .bool, rf := .i, f := fun x => zz101 big x.1 x.2.1 }
def A_zz101 : Cfg := mkCfg tab [(88, S_zz100)] [(8, [.as (.sl (.pair I (.pair (.sl I) .unit))) .i, .as (.sl (.pair I (.pair (.sl I) .unit))) .i, .drop, .drop, .drop, .as I .i]), (17, [])]
noncomputable def zz101_R4 (N n : Nat) (K : Ex → St → Option (Bool × Unit)) (a0 : (List Y6)) (b1 : (List Y6)) (i5 : Int) : Option (Bool × Unit) := iter ((A_zz101).shape 8) (run (A_zz101) N (codeAt Try.f42 [1, 1, 0, 1, 0, 0])) n ([.val (.sl (.pair I (.pair (.sl I) .unit))) .i a0, .val (.sl (.pair I (.pair (.sl I) .unit))) .i b1, .u, .u, .u, .val I .i i5] ++ List.replicate 21 .u) K
noncomputable abbrev zz101_z : Ex → St → Option (Bool × Unit) := finish (A_zz101) S_zz101 Try.f42.results.toList
noncomputable abbrev zz101_X4 (kX : St → Option (Bool × Unit)) : Option (Bool × Unit) := kX ([] ++ List.replicate 27 .u)
noncomputable abbrev zz101_E4 (kX : St → Option (Bool × Unit)) (kO : Nat → St → Option (Bool × Unit)) : Ex → St → Option (Bool × Unit) := exK zz101_z 0 ((A_zz101).shape 17) kX kO
theorem zz101_step4 (N : Nat) (m : Nat) (kX : St → Option (Bool × Unit)) (kO : Nat → St → Option (Bool × Unit)) (a0 : (List Y6)) (b1 : (List Y6)) (i5 : Int) : zz101_R4 N (m + 1) (zz101_E4 kX kO) a0 b1 i5 = zz101_b4 (zz101_R4 N m (zz101_E4 kX kO)) (zz101_X4 kX) a0 b1 i5 := by kernel_rfl
theorem zz101_iter4 (N : Nat) (kX : St → Option (Bool × Unit)) (kO : Nat → St → Option (Bool × Unit)) : ∀ (n : Nat) (a0 : (List Y6)) (b1 : (List Y6)) (i5 : Int), zz101_R4 N n (zz101_E4 kX kO) a0 b1 i5 = zz101_l4 N (zz101_X4 kX) n a0 b1 i5
  | 0, _, _, _ => rfl
  | m + 1, a0, b1, i5 => by
    have hrec : zz101_R4 N m (zz101_E4 kX kO) = (zz101_l4 N (zz101_X4 kX) m) := (funext fun a0 => (funext fun b1 => (funext fun i5 => zz101_iter4 N kX kO m a0 b1 i5)))
    refine (zz101_step4 N m kX kO a0 b1 i5).trans ?_
    rw [hrec]
    rfl
noncomputable abbrev zz101_K4 (N : Nat) : Ex → St → Option (Bool × Unit) := (blockK 0 (seqK ((A_zz101).shape 17) (run (A_zz101) N (codeAt Try.f42 [1, 1, 1])) zz101_z))
noncomputable abbrev zz101_k4 (N : Nat) : St → Option (Bool × Unit) := fun st' => run (A_zz101) N (codeAt Try.f42 [1, 1, 1]) st' zz101_z
theorem zz101_after4 (N : Nat) : zz101_X4 (zz101_k4 N) = zz101_a4 := by kernel_rfl
theorem zz101_in4 (N : Nat) (a0 : (List Y6)) (b1 : (List Y6)) (i5 : Int) : zz101_R4 N N (zz101_K4 N) a0 b1 i5 = zz101_F4 N a0 b1 i5 :=
  have h : zz101_X4 (zz101_k4 N) = (zz101_a4) := zz101_after4 N
  ((iter_ex (fun st => by kernel_rfl) (fun st => by kernel_rfl)).trans (zz101_iter4 N (zz101_k4 N) (fun j st => (zz101_K4 N) (.exit j) st) N a0 b1 i5)).trans (congrArg (fun k => zz101_l4 N k N a0 b1 i5) h)
theorem run0_zz101 (N : Nat) (x : (S_zz101).a.den) : runF (A_zz101) N Try.f42 S_zz101 x = (zz101_s (zz101_R4 N N (zz101_K4 N)) x.1 x.2.1) := by kernel_rfl
theorem run_zz101 (N : Nat) (x : (S_zz101).a.den) : runF (A_zz101) N Try.f42 S_zz101 x = zz101 N x.1 x.2.1 := by
  refine (run0_zz101 N x).trans ?_
  rw [(funext fun a0 => (funext fun b1 => (funext fun i5 => zz101_in4 N a0 b1 i5)))]
  rfl
theorem fn_zz101 : FnOk Try.prog 42 := ⟨_, Try.func42, by kernel_rfl, by kernel_rfl⟩
theorem good_zz101 : Gx.Good Try.prog 42 S_zz101 := good_of_run Try.func42 (of_decide_eq_true (by kernel_rfl)) fun x r h => ⟨A_zz101, big, mkCfg_ok tabOk, mkCfg_sigs (show SigsOk Try.prog [(88, S_zz100)] from ⟨⟨fn_zz100, good_zz100⟩, trivial⟩), (run_zz101 big x).trans h⟩

/-! zz102 -/
def zz102_s (a_0 : Y7) (b_1 : Y7) : Option (Bool × Unit) :=
  cond (decide (a_0.1 ≠ b_1.1))
  (some (false, (())))
  ((zz101 big a_0.2.1 b_1.2.1).bind fun rq1 =>
  cond (!rq1.1)
  (some (false, (())))
  (some (true, (()))))
def zz102 (a_0 : Y7) (b_1 : Y7) : Option (Bool × Unit) := zz102_s a_0 b_1
def S_zz102 : Sig := { a := (.pair (.pair I (.pair (.sl (.pair I (.pair (.sl I) .unit))) .unit)) (.pair (.pair I (.pair (.sl (.pair I (.pair (.sl I) .unit))) .unit)) .unit)), md := [0, 0], mf := [], m := .unit, r := .bool, rf := .i, f := fun x => zz102 x.1 x.2.1 }
def A_zz102 : Cfg := mkCfg tab [(42, S_zz101)] []
theorem run_zz102 (N : Nat) (x : (S_zz102).a.den) : runF (A_zz102) N Try.f13 S_zz102 x = zz102 x.1 x.2.1 := by kernel_rfl
theorem fn_zz102 : FnOk Try.prog 13 := ⟨_, Try.func13, by kernel_rfl, by kernel_rfl⟩
theorem good_zz102 : Gx.Good Try.prog 13 S_zz102 := good_of_run Try.func13 (of_decide_eq_true (by kernel_rfl)) fun x r h => ⟨A_zz102, big, mkCfg_ok tabOk, mkCfg_sigs (show SigsOk Try.prog [(42, S_zz101)] from ⟨⟨fn_zz101, good_zz101⟩, trivial⟩), (run_zz102 big x).trans h⟩

/-! zz103 -/
def zz103_b2 (rec : (List Y6) → Int → Int → Option Y7) (k : (List Y6) → Int → Option Y7) (a0 : (List Y6)) (k1 : Int) (i5 : Int) : Option Y7 :=
  cond (decide (i5 < (a0.length : Int)))
  ((atI a0 i5).bind fun _ =>
  (a0[i5.toNat]?).bind fun xq1 =>
  (a0[i5.toNat]?).bind fun xq2 =>
  (atI (a0.set i5.toNat (k1, xq2.2)) i5).bind fun _ =>
  ((a0.set i5.toNat (k1, xq2.2))[i5.toNat]?).bind fun xq3 =>
  ((a0.set i5.toNat (k1, xq2.2))[i5.toNat]?).bind fun xq4 =>
  ((a0.set i5.toNat (k1, xq2.2))[i5.toNat]?).bind fun xq5 =>
  (zz66 big xq5.2.1 (IntKind.i64.wrap (k1 + (1 : Int)))).bind fun rq6 =>
  ((a0.set i5.toNat (k1, xq2.2))[i5.toNat]?).bind fun xq7 =>
  ((a0.set i5.toNat (k1, xq2.2))[i5.toNat]?).bind fun xq8 =>
  rec ((a0.set i5.toNat (k1, xq2.2)).set i5.toNat (xq8.1, (rq6.2.1, xq8.2.2))) rq6.1 (IntKind.i64.wrap (i5 + (1 : Int))))
  (k a0 k1)
def zz103_a2 (a0 : (List Y6)) (k1 : Int) : Option Y7 :=
  some (k1, (a0, ()))
def zz103_s (L2 : (List Y6) → Int → Int → Option Y7) (a_0 : (List Y6)) (k_1 : Int) : Option Y7 :=
  L2 a_0 k_1 (0 : Int)
def zz103_l2 (N : Nat) (k : (List Y6) → Int → Option Y7) : Nat → (List Y6) → Int → Int → Option Y7
  | 0, _, _, _ => none
  | m + 1, a0, k1, i5 => zz103_b2 (zz103_l2 N k m) k a0 k1 i5
def zz103_F2 (N : Nat) (a0 : (List Y6)) (k1 : Int) (i5 : Int) : Option Y7 := zz103_l2 N (zz103_a2) N a0 k1 i5
def zz103 (N : Nat) (a_0 : (List Y6)) (k_1 : Int) : Option Y7 := zz103_s (zz103_F2 N) a_0 k_1
def S_zz103 : Sig := { a := (.pair (.sl (.pair I (.pair (.sl I) .unit))) (.pair I .unit)), md := [1, 0], mf := [(.o (.p .i (.p (.o .i) .i)))], m := (.pair (.sl (.pair I (.pair (.sl I) .unit))) .unit), r := I, rf := .i, f := fun x => zz103 big x.1 x.2.1 }
def A_zz103 : Cfg := mkCfg tab [(24, S_zz66)] [(4, [.as (.sl (.pair I (.pair (.sl I) .unit))) (.o (.p .i (.p (.o .i) .i))), .as I .i, .drop, .drop, .drop, .as I .i]), (15, [.as (.sl (.pair I (.pair (.sl I) .unit))) (.o (.p .i (.p (.o .i) .i))), .as I .i])]
noncomputable def zz103_R2 (N n : Nat) (K : Ex → St → Option Y7) (a0 : (List Y6)) (k1 : Int) (i5 : Int) : Option Y7 := iter ((A_zz103).shape 4) (run (A_zz103) N (codeAt Try.f45 [1, 0, 1, 0, 0])) n ([.val (.sl (.pair I (.pair (.sl I) .unit))) (.o (.p .i (.p (.o .i) .i))) a0, .val I .i k1, .u, .u, .u, .val I .i i5] ++ List.replicate 21 .u) K
noncomputable abbrev zz103_z : Ex → St → Option Y7 := finish (A_zz103) S_zz103 Try.f45.results.toList
noncomputable abbrev zz103_X2 (kX : St → Option Y7) : (List Y6) → Int → Option Y7 := fun (a0 : (List Y6)) (k1 : Int) => kX ([.val (.sl (.pair I (.pair (.sl I) .unit))) (.o (.p .i (.p (.o .i) .i))) a0, .val I .i k1] ++ List.replicate 25 .u)
noncomputable abbrev zz103_E2 (kX : St → Option Y7) (kO : Nat → St → Option Y7) : Ex → St → Option Y7 := exK zz103_z 0 ((A_zz103).shape 15) kX kO
theorem zz103_step2 (N : Nat) (m : Nat) (kX : St → Option Y7) (kO : Nat → St → Option Y7) (a0 : (List Y6)) (k1 : Int) (i5 : Int) : zz103_R2 N (m + 1) (zz103_E2 kX kO) a0 k1 i5 = zz103_b2 (zz103_R2 N m (zz103_E2 kX kO)) (zz103_X2 kX) a0 k1 i5 := by kernel_rfl
theorem zz103_iter2 (N : Nat) (kX : St → Option Y7) (kO : Nat → St → Option Y7) : ∀ (n : Nat) (a0 : (List Y6)) (k1 : Int) (i5 : Int), zz103_R2 N n (zz103_E2 kX kO) a0 k1 i5 = zz103_l2 N (zz103_X2 kX) n a0 k1 i5
  | 0, _, _, _ => rfl
  | m + 1, a0, k1, i5 => by
    have hrec : zz103_R2 N m (zz103_E2 kX kO) = (zz103_l2 N (zz103_X2 kX) m) := (funext fun a0 => (funext fun k1 => (funext fun i5 => zz103_iter2 N kX kO m a0 k1 i5)))
    refine (zz103_step2 N m kX kO a0 k1 i5).trans ?_
    rw [hrec]
    rfl
noncomputable abbrev zz103_K2 (N : Nat) : Ex → St → Option Y7 := (blockK 0 (seqK ((A_zz103).shape 15) (run (A_zz103) N (codeAt Try.f45 [1, 1])) zz103_z))
noncomputable abbrev zz103_k2 (N : Nat) : St → Option Y7 := fun st' => run (A_zz103) N (codeAt Try.f45 [1, 1]) st' zz103_z
theorem zz103_after2 (N : Nat) (a0 : (List Y6)) (k1 : Int) : zz103_X2 (zz103_k2 N) a0 k1 = zz103_a2 a0 k1 := by kernel_rfl
theorem zz103_in2 (N : Nat) (a0 : (List Y6)) (k1 : Int) (i5 : Int) : zz103_R2 N N (zz103_K2 N) a0 k1 i5 = zz103_F2 N a0 k1 i5 :=
  have h : zz103_X2 (zz103_k2 N) = (zz103_a2) := (funext fun a0 => (funext fun k1 => zz103_after2 N a0 k1))
  ((iter_ex (fun st => by kernel_rfl) (fun st => by kernel_rfl)).trans (zz103_iter2 N (zz103_k2 N) (fun j st => (zz103_K2 N) (.exit j) st) N a0 k1 i5)).trans (congrArg (fun k => zz103_l2 N k N a0 k1 i5) h)
theorem run0_zz103 (N : Nat) (x : (S_zz103).a.den) : runF (A_zz103) N Try.f45 S_zz103 x = (zz103_s (zz103_R2 N N (zz103_K2 N)) x.1 x.2.1) := by kernel_rfl
theorem run_zz103 (N : Nat) (x : (S_zz103).a.den) : runF (A_zz103) N Try.f45 S_zz103 x = zz103 N x.1 x.2.1 := by
  refine (run0_zz103 N x).trans ?_
  rw [(funext fun a0 => (funext fun k1 => (funext fun i5 => zz103_in2 N a0 k1 i5)))]
  rfl
theorem fn_zz103 : FnOk Try.prog 45 := ⟨_, Try.func45, by kernel_rfl, by kernel_rfl⟩
theorem good_zz103 : Gx.Good Try.prog 45 S_zz103 := good_of_run Try.func45 (of_decide_eq_true (by kernel_rfl)) fun x r h => ⟨A_zz103, big, mkCfg_ok tabOk, mkCfg_sigs (show SigsOk Try.prog [(24, S_zz66)] from ⟨⟨fn_zz66, good_zz66⟩, trivial⟩), (run_zz103 big x).trans h⟩

/-! zz104 -/
def zz104 (a_0 : Y7) (k_1 : Int) : Option (Int × (Y7 × Unit)) := (zz103 big a_0.2.1 k_1).bind fun r => some (r.1, ((a_0.1, r.2.1, ()), ()))
def S_zz104 : Sig := { a := (.pair (.pair I (.pair (.sl (.pair I (.pair (.sl I) .unit))) .unit)) (.pair I .unit)), md := [1, 0], mf := [(.p .i (.p (.o (.p .i (.p (.o .i) .i))) .i))], m := (.pair (.pair I (.pair (.sl (.pair I (.pair (.sl I) .unit))) .unit)) .unit), r := I, rf := .i, f := fun x => zz104 x.1 x.2.1 }
theorem fn_zz104 : FnOk Try.prog 16 := ⟨_, Try.func16, by kernel_rfl, by kernel_rfl⟩
theorem good_zz104 : Gx.Good Try.prog 16 S_zz104   := good_bx2 (A := mkCfg tab [] []) (T := 28) (TS := 26) (mkCfg_ok tabOk) Try.func16 (by kernel_rfl) (by kernel_rfl) fn_zz103 (by kernel_rfl) (by kernel_rfl) good_zz103

/-! zz105 -/
def zz105_b2 (rec : (List Y6) → Int → Int → Option (Int × Unit)) (k : Int → Option (Int × Unit)) (a0 : (List Y6)) (k1 : Int) (i5 : Int) : Option (Int × Unit) :=
  cond (decide (i5 < (a0.length : Int)))
  ((atI a0 i5).bind fun xq1 =>
  cond (decide (xq1.1 ≠ k1))
  (some ((-1 : Int), (())))
  ((atI a0 i5).bind fun xq2 =>
  (zz69 big xq2.2.1 (IntKind.i64.wrap (k1 + (1 : Int)))).bind fun rq3 =>
  cond (decide (rq3.1 < (0 : Int)))
  (some ((-1 : Int), (())))
  (rec a0 rq3.1 (IntKind.i64.wrap (i5 + (1 : Int))))))
  (k k1)
def zz105_a2 (k1 : Int) : Option (Int × Unit) :=
  some (k1, (()))
def zz105_s (L2 : (List Y6) → Int → Int → Option (Int × Unit)) (a_0 : (List Y6)) (k_1 : Int) : Option (Int × Unit) :=
  L2 a_0 k_1 (0 : Int)
def zz105_l2 (N : Nat) (k : Int → Option (Int × Unit)) : Nat → (List Y6) → Int → Int → Option (Int × Unit)
  | 0, _, _, _ => none
  | m + 1, a0, k1, i5 => zz105_b2 (zz105_l2 N k m) k a0 k1 i5
def zz105_F2 (N : Nat) (a0 : (List Y6)) (k1 : Int) (i5 : Int) : Option (Int × Unit) := zz105_l2 N (zz105_a2) N a0 k1 i5
def zz105 (N : Nat) (a_0 : (List Y6)) (k_1 : Int) : Option (Int × Unit) := zz105_s (zz105_F2 N) a_0 k_1
def S_zz105 : Sig := { a := (.pair (.sl (.pair I (.pair (.sl I) .unit))) (.pair I .unit)), md := [0, 0], mf := [], m := .unit, r := I, rf := .i, f := fun x => zz105 big x.1 x.2.1 }
def A_zz105 : Cfg := mkCfg tab [(25, S_zz69)] [(4, [.as (.sl (.pair I (.pair (.sl I) .unit))) .i, .as I .i, .drop, .drop, .drop, .as I .i]), (21, [.drop, .as I .i])]
noncomputable def zz105_R2 (N n : Nat) (K : Ex → St → Option (Int × Unit)) (a0 : (List Y6)) (k1 : Int) (i5 : Int) : Option (Int × Unit) := iter ((A_zz105).shape 4) (run (A_zz105) N (codeAt Try.f46 [1, 0, 1, 0, 0])) n ([.val (.sl (.pair I (.pair (.sl I) .unit))) .i a0, .val I .i k1, .u, .u, .u, .val I .i i5] ++ List.replicate 25 .u) K
noncomputable abbrev zz105_z : Ex → St → Option (Int × Unit) := finish (A_zz105) S_zz105 Try.f46.results.toList
noncomputable abbrev zz105_X2 (kX : St → Option (Int × Unit)) : Int → Option (Int × Unit) := fun (k1 : Int) => kX ([.u, .val I .i k1] ++ List.replicate 29 .u)
noncomputable abbrev zz105_E2 (kX : St → Option (Int × Unit)) (kO : Nat → St → Option (Int × Unit)) : Ex → St → Option (Int × Unit) := exK zz105_z 0 ((A_zz105).shape 21) kX kO
theorem zz105_step2 (N : Nat) (m : Nat) (kX : St → Option (Int × Unit)) (kO : Nat → St → Option (Int × Unit)) (a0 : (List Y6)) (k1 : Int) (i5 : Int) : zz105_R2 N (m + 1) (zz105_E2 kX kO) a0 k1 i5 = zz105_b2 (zz105_R2 N m (zz105_E2 kX kO)) (zz105_X2 kX) a0 k1 i5 := by kernel_rfl
theorem zz105_iter2 (N : Nat) (kX : St → Option (Int × Unit)) (kO : Nat → St → Option (Int × Unit)) : ∀ (n : Nat) (a0 : (List Y6)) (k1 : Int) (i5 : Int), zz105_R2 N n (zz105_E2 kX kO) a0 k1 i5 = zz105_l2 N (zz105_X2 kX) n a0 k1 i5
  | 0, _, _, _ => rfl
  | m + 1, a0, k1, i5 => by
    have hrec : zz105_R2 N m (zz105_E2 kX kO) = (zz105_l2 N (zz105_X2 kX) m) := (funext fun a0 => (funext fun k1 => (funext fun i5 => zz105_iter2 N kX kO m a0 k1 i5)))
    refine (zz105_step2 N m kX kO a0 k1 i5).trans ?_
    rw [hrec]
    rfl
noncomputable abbrev zz105_K2 (N : Nat) : Ex → St → Option (Int × Unit) := (blockK 0 (seqK ((A_zz105).shape 21) (run (A_zz105) N (codeAt Try.f46 [1, 1])) zz105_z))
noncomputable abbrev zz105_k2 (N : Nat) : St → Option (Int × Unit) := fun st' => run (A_zz105) N (codeAt Try.f46 [1, 1]) st' zz105_z
theorem zz105_after2 (N : Nat) (k1 : Int) : zz105_X2 (zz105_k2 N) k1 = zz105_a2 k1 := by kernel_rfl
theorem zz105_in2 (N : Nat) (a0 : (List Y6)) (k1 : Int) (i5 : Int) : zz105_R2 N N (zz105_K2 N) a0 k1 i5 = zz105_F2 N a0 k1 i5 :=
  have h : zz105_X2 (zz105_k2 N) = (zz105_a2) := (funext fun k1 => zz105_after2 N k1)
  ((iter_ex (fun st => by kernel_rfl) (fun st => by kernel_rfl)).trans (zz105_iter2 N (zz105_k2 N) (fun j st => (zz105_K2 N) (.exit j) st) N a0 k1 i5)).trans (congrArg (fun k => zz105_l2 N k N a0 k1 i5) h)
theorem run0_zz105 (N : Nat) (x : (S_zz105).a.den) : runF (A_zz105) N Try.f46 S_zz105 x = (zz105_s (zz105_R2 N N (zz105_K2 N)) x.1 x.2.1) := by kernel_rfl
theorem run_zz105 (N : Nat) (x : (S_zz105).a.den) : runF (A_zz105) N Try.f46 S_zz105 x = zz105 N x.1 x.2.1 := by
  refine (run0_zz105 N x).trans ?_
  rw [(funext fun a0 => (funext fun k1 => (funext fun i5 => zz105_in2 N a0 k1 i5)))]
  rfl
theorem fn_zz105 : FnOk Try.prog 46 := ⟨_, Try.func46, by kernel_rfl, by kernel_rfl⟩
theorem good_zz105 : Gx.Good Try.prog 46 S_zz105 := good_of_run Try.func46 (of_decide_eq_true (by kernel_rfl)) fun x r h => ⟨A_zz105, big, mkCfg_ok tabOk, mkCfg_sigs (show SigsOk Try.prog [(25, S_zz69)] from ⟨⟨fn_zz69, good_zz69⟩, trivial⟩), (run_zz105 big x).trans h⟩

/-! zz106 -/
def zz106_s (a_0 : Y7) (k_1 : Int) : Option (Int × Unit) :=
  (zz105 big a_0.2.1 k_1).bind fun rq1 =>
  cond (decide (rq1.1 < (0 : Int)))
  (some ((-1 : Int), (())))
  (some (rq1.1, (())))
def zz106 (a_0 : Y7) (k_1 : Int) : Option (Int × Unit) := zz106_s a_0 k_1
def S_zz106 : Sig := { a := (.pair (.pair I (.pair (.sl (.pair I (.pair (.sl I) .unit))) .unit)) (.pair I .unit)), md := [0, 0], mf := [], m := .unit, r := I, rf := .i, f := fun x => zz106 x.1 x.2.1 }
def A_zz106 : Cfg := mkCfg tab [(46, S_zz105)] []
theorem run_zz106 (N : Nat) (x : (S_zz106).a.den) : runF (A_zz106) N Try.f17 S_zz106 x = zz106 x.1 x.2.1 := by kernel_rfl
theorem fn_zz106 : FnOk Try.prog 17 := ⟨_, Try.func17, by kernel_rfl, by kernel_rfl⟩
theorem good_zz106 : Gx.Good Try.prog 17 S_zz106 := good_of_run Try.func17 (of_decide_eq_true (by kernel_rfl)) fun x r h => ⟨A_zz106, big, mkCfg_ok tabOk, mkCfg_sigs (show SigsOk Try.prog [(46, S_zz105)] from ⟨⟨fn_zz105, good_zz105⟩, trivial⟩), (run_zz106 big x).trans h⟩

/-! laws_FnExactRingOf -/
def laws_FnExactRingOf_s (aP_0 : Y2) : Option (Bool × Unit) :=
  (zz2 aP_0 (1048576 : Int)).bind fun rq1 =>
  cond (decide (rq1.1 < (0 : Int)))
  (some (true, (())))
  ((zz5 aP_0).bind fun rq2 =>
  (zz82 rq2.1).bind fun rq3 =>
  (zz5 aP_0).bind fun rq4 =>
  (zz99 rq4.1).bind fun rq5 =>
  (zz102 rq5.1.1 rq3.1.1).bind fun rq6 =>
  cond (!rq6.1)
  (some (false, (())))
  (cond (((((), rq5.1.2).2).1) != ((((), rq3.1.2).2).1))
  (some (false, (())))
  ((zz5 aP_0).bind fun rq7 =>
  (zz65 rq4.1 rq7.1).bind fun rq8 =>
  cond (!rq8.1)
  (some (false, (())))
  ((zz68 rq4.1 (1 : Int)).bind fun rq9 =>
  cond (decide (rq9.1 < (0 : Int)))
  (some (false, (())))
  ((zz102 rq5.1.1 rq3.1.1).bind fun rq10 =>
  cond (!rq10.1)
  (some (false, (())))
  (cond (((((), rq5.1.2).2).1) != ((((), rq3.1.2).2).1))
  (some (false, (())))
  ((zz104 rq5.1.1 (1 : Int)).bind fun rq11 =>
  (zz106 rq11.2.1 (1 : Int)).bind fun rq12 =>
  cond (decide (rq12.1 < (0 : Int)))
  (some (false, (())))
  (cond (decide (rq12.1 ≠ rq11.1))
  (some (false, (())))
  ((zz5 aP_0).bind fun rq13 =>
  (zz99 rq13.1).bind fun rq14 =>
  (zz102 rq14.1.1 rq3.1.1).bind fun rq15 =>
  cond (!rq15.1)
  (some (false, (())))
  (cond (((((), rq14.1.2).2).1) != ((((), rq3.1.2).2).1))
  (some (false, (())))
  ((zz106 rq11.2.1 (1 : Int)).bind fun rq16 =>
  cond (decide (rq16.1 < (0 : Int)))
  (some (false, (())))
  (cond (decide (rq16.1 ≠ rq11.1))
  (some (false, (())))
  (some (true, (())))))))))))))))
def laws_FnExactRingOf (aP_0 : Y2) : Option (Bool × Unit) := laws_FnExactRingOf_s aP_0
def S_laws_FnExactRingOf : Sig := { a := (.pair (.pair (.sl (.sl I)) .unit) .unit), md := [0], mf := [], m := .unit, r := .bool, rf := .i, f := fun x => laws_FnExactRingOf x.1 }
def A_laws_FnExactRingOf : Cfg := mkCfg tab [(9, S_zz2), (11, S_zz5), (10, S_zz82), (12, S_zz99), (13, S_zz102), (14, S_zz65), (15, S_zz68), (16, S_zz104), (17, S_zz106)] []
theorem run_laws_FnExactRingOf (N : Nat) (x : (S_laws_FnExactRingOf).a.den) : runF (A_laws_FnExactRingOf) N Try.f3 S_laws_FnExactRingOf x = laws_FnExactRingOf x.1 := by kernel_rfl
theorem fn_laws_FnExactRingOf : FnOk Try.prog 3 := ⟨_, Try.func3, by kernel_rfl, by kernel_rfl⟩
theorem good_laws_FnExactRingOf : Gx.Good Try.prog 3 S_laws_FnExactRingOf := good_of_run Try.func3 (of_decide_eq_true (by kernel_rfl)) fun x r h => ⟨A_laws_FnExactRingOf, big, mkCfg_ok tabOk, mkCfg_sigs (show SigsOk Try.prog [(9, S_zz2), (11, S_zz5), (10, S_zz82), (12, S_zz99), (13, S_zz102), (14, S_zz65), (15, S_zz68), (16, S_zz104), (17, S_zz106)] from ⟨⟨fn_zz2, good_zz2⟩, ⟨fn_zz5, good_zz5⟩, ⟨fn_zz82, good_zz82⟩, ⟨fn_zz99, good_zz99⟩, ⟨fn_zz102, good_zz102⟩, ⟨fn_zz65, good_zz65⟩, ⟨fn_zz68, good_zz68⟩, ⟨fn_zz104, good_zz104⟩, ⟨fn_zz106, good_zz106⟩, trivial⟩), (run_laws_FnExactRingOf big x).trans h⟩
end Go.Proofs.Ytmkabioglfeflaa
