import Derived.Test.YtafkhhcnmmkieaaGAp1
set_option maxRecDepth 100000
set_option linter.unusedVariables false
namespace Go.Proofs.Ytafkhhcnmmkieaa
open Go Go.Gx Go.Proofs

/-! zz37 -/
def zz37_b8 (rec : Y1 → Int → Int → Int → Int → Int → Int → Int → Int → Option ((Option Y4) × Unit)) (k : Y1 → Int → Int → Int → Int → Int → Option ((Option Y4) × Unit)) (l0 : Y1) (x3 : Int) (y4 : Int) (t10 : Int) (t11 : Int) (t18 : Int) (t19 : Int) (t26 : Int) (t27 : Int) : Option ((Option Y4) × Unit) :=
  cond (decide (t27 < t26))
  ((l0).bind fun xq4 =>
  (atI xq4.2.1 x3).bind fun xq5 =>
  (l0).bind fun xq6 =>
  (atI xq6.2.2.1 y4).bind fun xq7 =>
  (atI xq7 t27).bind fun xq8 =>
  (atI xq5 xq8).bind fun xq9 =>
  (l0).bind fun xq10 =>
  (l0).bind fun xq11 =>
  (atI xq11.2.1 x3).bind fun xq12 =>
  (atI xq12 y4).bind fun xq13 =>
  (atI xq10.2.2.1 xq13).bind fun xq14 =>
  (l0).bind fun xq15 =>
  (atI xq15.2.1 x3).bind fun xq16 =>
  (atI xq16 t27).bind fun xq17 =>
  (atI xq14 xq17).bind fun xq18 =>
  cond (decide (xq9 ≠ xq18))
  (some ((some [x3, y4, t27]), (())))
  (rec l0 x3 y4 t10 t11 t18 t19 t26 (IntKind.i64.wrap (t27 + (1 : Int)))))
  (k l0 x3 t10 t11 t18 t19)
def zz37_a8 (rec : Y1 → Int → Int → Int → Int → Int → Option ((Option Y4) × Unit)) (l0 : Y1) (x3 : Int) (t10 : Int) (t11 : Int) (t18 : Int) (t19 : Int) : Option ((Option Y4) × Unit) :=
  rec l0 x3 t10 t11 t18 (IntKind.i64.wrap (t19 + (1 : Int)))
def zz37_b5 (L8 : Y1 → Int → Int → Int → Int → Int → Int → Int → Int → Option ((Option Y4) × Unit)) (k : Y1 → Int → Int → Option ((Option Y4) × Unit)) (l0 : Y1) (x3 : Int) (t10 : Int) (t11 : Int) (t18 : Int) (t19 : Int) : Option ((Option Y4) × Unit) :=
  cond (decide (t19 < t18))
  ((l0).bind fun xq3 =>
  L8 l0 x3 t19 t10 t11 t18 t19 (xq3.1.length : Int) (0 : Int))
  (k l0 t10 t11)
def zz37_a5 (rec : Y1 → Int → Int → Option ((Option Y4) × Unit)) (l0 : Y1) (t10 : Int) (t11 : Int) : Option ((Option Y4) × Unit) :=
  rec l0 t10 (IntKind.i64.wrap (t11 + (1 : Int)))
def zz37_b2 (L5 : Y1 → Int → Int → Int → Int → Int → Option ((Option Y4) × Unit)) (k : Option ((Option Y4) × Unit)) (l0 : Y1) (t10 : Int) (t11 : Int) : Option ((Option Y4) × Unit) :=
  cond (decide (t11 < t10))
  ((l0).bind fun xq2 =>
  L5 l0 t11 t10 t11 (xq2.1.length : Int) (0 : Int))
  (k)
def zz37_a2 : Option ((Option Y4) × Unit) :=
  some (none, (()))
def zz37_s (L2 : Y1 → Int → Int → Option ((Option Y4) × Unit)) (l_0 : Y1) : Option ((Option Y4) × Unit) :=
  (l_0).bind fun xq1 =>
  L2 l_0 (xq1.1.length : Int) (0 : Int)
def zz37_l8 (N : Nat) (k : Y1 → Int → Int → Int → Int → Int → Option ((Option Y4) × Unit)) : Nat → Y1 → Int → Int → Int → Int → Int → Int → Int → Int → Option ((Option Y4) × Unit)
  | 0, _, _, _, _, _, _, _, _, _ => none
  | m + 1, l0, x3, y4, t10, t11, t18, t19, t26, t27 => zz37_b8 (zz37_l8 N k m) k l0 x3 y4 t10 t11 t18 t19 t26 t27
def zz37_F8 (N : Nat) (rec : Y1 → Int → Int → Int → Int → Int → Option ((Option Y4) × Unit)) (k : Y1 → Int → Int → Option ((Option Y4) × Unit)) (l0 : Y1) (x3 : Int) (y4 : Int) (t10 : Int) (t11 : Int) (t18 : Int) (t19 : Int) (t26 : Int) (t27 : Int) : Option ((Option Y4) × Unit) := zz37_l8 N (zz37_a8 rec) N l0 x3 y4 t10 t11 t18 t19 t26 t27
def zz37_l5 (N : Nat) (k : Y1 → Int → Int → Option ((Option Y4) × Unit)) : Nat → Y1 → Int → Int → Int → Int → Int → Option ((Option Y4) × Unit)
  | 0, _, _, _, _, _, _ => none
  | m + 1, l0, x3, t10, t11, t18, t19 => zz37_b5 (zz37_F8 N (zz37_l5 N k m) k) k l0 x3 t10 t11 t18 t19
def zz37_F5 (N : Nat) (rec : Y1 → Int → Int → Option ((Option Y4) × Unit)) (k : Option ((Option Y4) × Unit)) (l0 : Y1) (x3 : Int) (t10 : Int) (t11 : Int) (t18 : Int) (t19 : Int) : Option ((Option Y4) × Unit) := zz37_l5 N (zz37_a5 rec) N l0 x3 t10 t11 t18 t19
def zz37_l2 (N : Nat) (k : Option ((Option Y4) × Unit)) : Nat → Y1 → Int → Int → Option ((Option Y4) × Unit)
  | 0, _, _, _ => none
  | m + 1, l0, t10, t11 => zz37_b2 (zz37_F5 N (zz37_l2 N k m) k) k l0 t10 t11
def zz37_F2 (N : Nat) (l0 : Y1) (t10 : Int) (t11 : Int) : Option ((Option Y4) × Unit) := zz37_l2 N (zz37_a2) N l0 t10 t11
def zz37 (N : Nat) (l_0 : Y1) : Option ((Option Y4) × Unit) := zz37_s (zz37_F2 N) l_0
def S_zz37 : Sig := { a := (.pair (.opt (.pair (.sl (.sl .bool)) (.pair (.sl (.sl I)) (.pair (.sl (.sl I)) .unit)))) .unit), md := [0], mf := [], m := .unit, r := (.ns I), rf := .i, f := fun x => zz37 big x.1 }
def A_zz37 : Cfg := mkCfg tab [] [(4, [.as (.opt (.pair (.sl (.sl .bool)) (.pair (.sl (.sl I)) (.pair (.sl (.sl I)) .unit)))) .i, .drop, .drop, .drop, .drop, .drop, .drop, .drop, .drop, .drop, .as I .i, .as I .i]), (10, [.as (.opt (.pair (.sl (.sl .bool)) (.pair (.sl (.sl I)) (.pair (.sl (.sl I)) .unit)))) .i, .drop, .drop, .as I .i, .drop, .drop, .drop, .drop, .drop, .drop, .as I .i, .as I .i, .drop, .drop, .drop, .drop, .drop, .drop, .as I .i, .as I .i]), (31, []), (16, [.as (.opt (.pair (.sl (.sl .bool)) (.pair (.sl (.sl I)) (.pair (.sl (.sl I)) .unit)))) .i, .drop, .drop, .as I .i, .as I .i, .drop, .drop, .drop, .drop, .drop, .as I .i, .as I .i, .drop, .drop, .drop, .drop, .drop, .drop, .as I .i, .as I .i, .drop, .drop, .drop, .drop, .drop, .drop, .as I .i, .as I .i]), (29, [.as (.opt (.pair (.sl (.sl .bool)) (.pair (.sl (.sl I)) (.pair (.sl (.sl I)) .unit)))) .i, .drop, .drop, .drop, .drop, .drop, .drop, .drop, .drop, .drop, .as I .i, .as I .i]), (27, [.as (.opt (.pair (.sl (.sl .bool)) (.pair (.sl (.sl I)) (.pair (.sl (.sl I)) .unit)))) .i, .drop, .drop, .as I .i, .drop, .drop, .drop, .drop, .drop, .drop, .as I .i, .as I .i, .drop, .drop, .drop, .drop, .drop, .drop, .as I .i, .as I .i])]
noncomputable def zz37_R2 (N n : Nat) (K : Ex → St → Option ((Option Y4) × Unit)) (l0 : Y1) (t10 : Int) (t11 : Int) : Option ((Option Y4) × Unit) := iter ((A_zz37).shape 4) (run (A_zz37) N (codeAt Try.f148 [1, 0, 1, 0, 0])) n ([.val (.opt (.pair (.sl (.sl .bool)) (.pair (.sl (.sl I)) (.pair (.sl (.sl I)) .unit)))) .i l0, .u, .u, .u, .u, .u, .u, .u, .u, .u, .val I .i t10, .val I .i t11] ++ List.replicate 73 .u) K
noncomputable def zz37_R5 (N n : Nat) (K : Ex → St → Option ((Option Y4) × Unit)) (l0 : Y1) (x3 : Int) (t10 : Int) (t11 : Int) (t18 : Int) (t19 : Int) : Option ((Option Y4) × Unit) := iter ((A_zz37).shape 10) (run (A_zz37) N (codeAt Try.f148 [1, 0, 1, 0, 0, 1, 1, 0, 0, 1, 1, 0, 0])) n ([.val (.opt (.pair (.sl (.sl .bool)) (.pair (.sl (.sl I)) (.pair (.sl (.sl I)) .unit)))) .i l0, .u, .u, .val I .i x3, .u, .u, .u, .u, .u, .u, .val I .i t10, .val I .i t11, .u, .u, .u, .u, .u, .u, .val I .i t18, .val I .i t19] ++ List.replicate 65 .u) K
noncomputable def zz37_R8 (N n : Nat) (K : Ex → St → Option ((Option Y4) × Unit)) (l0 : Y1) (x3 : Int) (y4 : Int) (t10 : Int) (t11 : Int) (t18 : Int) (t19 : Int) (t26 : Int) (t27 : Int) : Option ((Option Y4) × Unit) := iter ((A_zz37).shape 16) (run (A_zz37) N (codeAt Try.f148 [1, 0, 1, 0, 0, 1, 1, 0, 0, 1, 1, 0, 0, 1, 1, 0, 0, 1, 1, 0, 0])) n ([.val (.opt (.pair (.sl (.sl .bool)) (.pair (.sl (.sl I)) (.pair (.sl (.sl I)) .unit)))) .i l0, .u, .u, .val I .i x3, .val I .i y4, .u, .u, .u, .u, .u, .val I .i t10, .val I .i t11, .u, .u, .u, .u, .u, .u, .val I .i t18, .val I .i t19, .u, .u, .u, .u, .u, .u, .val I .i t26, .val I .i t27] ++ List.replicate 57 .u) K
noncomputable abbrev zz37_z : Ex → St → Option ((Option Y4) × Unit) := finish (A_zz37) S_zz37 Try.f148.results.toList
noncomputable abbrev zz37_X2 (kX : St → Option ((Option Y4) × Unit)) : Option ((Option Y4) × Unit) := kX ([] ++ List.replicate 85 .u)
noncomputable abbrev zz37_E2 (kX : St → Option ((Option Y4) × Unit)) (kO : Nat → St → Option ((Option Y4) × Unit)) : Ex → St → Option ((Option Y4) × Unit) := exK zz37_z 0 ((A_zz37).shape 31) kX kO
noncomputable abbrev zz37_X5 (kX : St → Option ((Option Y4) × Unit)) : Y1 → Int → Int → Option ((Option Y4) × Unit) := fun (l0 : Y1) (t10 : Int) (t11 : Int) => kX ([.val (.opt (.pair (.sl (.sl .bool)) (.pair (.sl (.sl I)) (.pair (.sl (.sl I)) .unit)))) .i l0, .u, .u, .u, .u, .u, .u, .u, .u, .u, .val I .i t10, .val I .i t11] ++ List.replicate 73 .u)
noncomputable abbrev zz37_E5 (kX : St → Option ((Option Y4) × Unit)) (kO : Nat → St → Option ((Option Y4) × Unit)) : Ex → St → Option ((Option Y4) × Unit) := exK zz37_z 2 ((A_zz37).shape 29) kX kO
noncomputable abbrev zz37_X8 (kX : St → Option ((Option Y4) × Unit)) : Y1 → Int → Int → Int → Int → Int → Option ((Option Y4) × Unit) := fun (l0 : Y1) (x3 : Int) (t10 : Int) (t11 : Int) (t18 : Int) (t19 : Int) => kX ([.val (.opt (.pair (.sl (.sl .bool)) (.pair (.sl (.sl I)) (.pair (.sl (.sl I)) .unit)))) .i l0, .u, .u, .val I .i x3, .u, .u, .u, .u, .u, .u, .val I .i t10, .val I .i t11, .u, .u, .u, .u, .u, .u, .val I .i t18, .val I .i t19] ++ List.replicate 65 .u)
noncomputable abbrev zz37_E8 (kX : St → Option ((Option Y4) × Unit)) (kO : Nat → St → Option ((Option Y4) × Unit)) : Ex → St → Option ((Option Y4) × Unit) := exK zz37_z 4 ((A_zz37).shape 27) kX kO
theorem zz37_step8 (N : Nat) (m : Nat) (kX : St → Option ((Option Y4) × Unit)) (kO : Nat → St → Option ((Option Y4) × Unit)) (l0 : Y1) (x3 : Int) (y4 : Int) (t10 : Int) (t11 : Int) (t18 : Int) (t19 : Int) (t26 : Int) (t27 : Int) : zz37_R8 N (m + 1) (zz37_E8 kX kO) l0 x3 y4 t10 t11 t18 t19 t26 t27 = zz37_b8 (zz37_R8 N m (zz37_E8 kX kO)) (zz37_X8 kX) l0 x3 y4 t10 t11 t18 t19 t26 t27 := by kernel_rfl
theorem zz37_iter8 (N : Nat) (kX : St → Option ((Option Y4) × Unit)) (kO : Nat → St → Option ((Option Y4) × Unit)) : ∀ (n : Nat) (l0 : Y1) (x3 : Int) (y4 : Int) (t10 : Int) (t11 : Int) (t18 : Int) (t19 : Int) (t26 : Int) (t27 : Int), zz37_R8 N n (zz37_E8 kX kO) l0 x3 y4 t10 t11 t18 t19 t26 t27 = zz37_l8 N (zz37_X8 kX) n l0 x3 y4 t10 t11 t18 t19 t26 t27
  | 0, _, _, _, _, _, _, _, _, _ => rfl
  | m + 1, l0, x3, y4, t10, t11, t18, t19, t26, t27 => by
    have hrec : zz37_R8 N m (zz37_E8 kX kO) = (zz37_l8 N (zz37_X8 kX) m) := (funext fun l0 => (funext fun x3 => (funext fun y4 => (funext fun t10 => (funext fun t11 => (funext fun t18 => (funext fun t19 => (funext fun t26 => (funext fun t27 => zz37_iter8 N kX kO m l0 x3 y4 t10 t11 t18 t19 t26 t27)))))))))
    refine (zz37_step8 N m kX kO l0 x3 y4 t10 t11 t18 t19 t26 t27).trans ?_
    rw [hrec]
    rfl
noncomputable abbrev zz37_K8 (N : Nat) (m : Nat) (kX : St → Option ((Option Y4) × Unit)) (kO : Nat → St → Option ((Option Y4) × Unit)) : Ex → St → Option ((Option Y4) × Unit) := (blockK 4 (blockK 3 (seqK ((A_zz37).shape 27) (run (A_zz37) N (codeAt Try.f148 [1, 0, 1, 0, 0, 1, 1, 0, 0, 1, 1, 0, 0, 1, 1, 1])) (iterK ((A_zz37).shape 10) (run (A_zz37) N (codeAt Try.f148 [1, 0, 1, 0, 0, 1, 1, 0, 0, 1, 1, 0, 0])) m (zz37_E5 kX kO)))))
noncomputable abbrev zz37_k8 (N : Nat) (m : Nat) (kX : St → Option ((Option Y4) × Unit)) (kO : Nat → St → Option ((Option Y4) × Unit)) : St → Option ((Option Y4) × Unit) := fun st' => run (A_zz37) N (codeAt Try.f148 [1, 0, 1, 0, 0, 1, 1, 0, 0, 1, 1, 0, 0, 1, 1, 1]) st' (iterK ((A_zz37).shape 10) (run (A_zz37) N (codeAt Try.f148 [1, 0, 1, 0, 0, 1, 1, 0, 0, 1, 1, 0, 0])) m (zz37_E5 kX kO))
theorem zz37_after8 (N : Nat) (m : Nat) (kX : St → Option ((Option Y4) × Unit)) (kO : Nat → St → Option ((Option Y4) × Unit)) (l0 : Y1) (x3 : Int) (t10 : Int) (t11 : Int) (t18 : Int) (t19 : Int) : zz37_X8 (zz37_k8 N m kX kO) l0 x3 t10 t11 t18 t19 = zz37_a8 (zz37_R5 N m (zz37_E5 kX kO)) l0 x3 t10 t11 t18 t19 := by kernel_rfl
theorem zz37_in8 (N : Nat) (m : Nat) (kX : St → Option ((Option Y4) × Unit)) (kO : Nat → St → Option ((Option Y4) × Unit)) (recF : Y1 → Int → Int → Int → Int → Int → Option ((Option Y4) × Unit)) (hrec : zz37_R5 N m (zz37_E5 kX kO) = recF) (l0 : Y1) (x3 : Int) (y4 : Int) (t10 : Int) (t11 : Int) (t18 : Int) (t19 : Int) (t26 : Int) (t27 : Int) : zz37_R8 N N (zz37_K8 N m kX kO) l0 x3 y4 t10 t11 t18 t19 t26 t27 = zz37_F8 N recF (zz37_X5 kX) l0 x3 y4 t10 t11 t18 t19 t26 t27 :=
  have h : zz37_X8 (zz37_k8 N m kX kO) = (zz37_a8 recF) := (funext fun l0 => (funext fun x3 => (funext fun t10 => (funext fun t11 => (funext fun t18 => (funext fun t19 => (zz37_after8 N m kX kO l0 x3 t10 t11 t18 t19).trans (by rw [hrec])))))))
  ((iter_ex (fun st => by kernel_rfl) (fun st => by kernel_rfl)).trans (zz37_iter8 N (zz37_k8 N m kX kO) (fun j st => (zz37_K8 N m kX kO) (.exit j) st) N l0 x3 y4 t10 t11 t18 t19 t26 t27)).trans (congrArg (fun k => zz37_l8 N k N l0 x3 y4 t10 t11 t18 t19 t26 t27) h)
theorem zz37_step5 (N : Nat) (m : Nat) (kX : St → Option ((Option Y4) × Unit)) (kO : Nat → St → Option ((Option Y4) × Unit)) (l0 : Y1) (x3 : Int) (t10 : Int) (t11 : Int) (t18 : Int) (t19 : Int) : zz37_R5 N (m + 1) (zz37_E5 kX kO) l0 x3 t10 t11 t18 t19 = zz37_b5 (zz37_R8 N N (zz37_K8 N m kX kO)) (zz37_X5 kX) l0 x3 t10 t11 t18 t19 := by kernel_rfl
theorem zz37_iter5 (N : Nat) (kX : St → Option ((Option Y4) × Unit)) (kO : Nat → St → Option ((Option Y4) × Unit)) : ∀ (n : Nat) (l0 : Y1) (x3 : Int) (t10 : Int) (t11 : Int) (t18 : Int) (t19 : Int), zz37_R5 N n (zz37_E5 kX kO) l0 x3 t10 t11 t18 t19 = zz37_l5 N (zz37_X5 kX) n l0 x3 t10 t11 t18 t19
  | 0, _, _, _, _, _, _ => rfl
  | m + 1, l0, x3, t10, t11, t18, t19 => by
    have hrec : zz37_R5 N m (zz37_E5 kX kO) = (zz37_l5 N (zz37_X5 kX) m) := (funext fun l0 => (funext fun x3 => (funext fun t10 => (funext fun t11 => (funext fun t18 => (funext fun t19 => zz37_iter5 N kX kO m l0 x3 t10 t11 t18 t19))))))
    refine (zz37_step5 N m kX kO l0 x3 t10 t11 t18 t19).trans ?_
    rw [(funext fun l0 => (funext fun x3 => (funext fun y4 => (funext fun t10 => (funext fun t11 => (funext fun t18 => (funext fun t19 => (funext fun t26 => (funext fun t27 => zz37_in8 N m kX kO (zz37_l5 N (zz37_X5 kX) m) hrec l0 x3 y4 t10 t11 t18 t19 t26 t27)))))))))]
    rfl
noncomputable abbrev zz37_K5 (N : Nat) (m : Nat) (kX : St → Option ((Option Y4) × Unit)) (kO : Nat → St → Option ((Option Y4) × Unit)) : Ex → St → Option ((Option Y4) × Unit) := (blockK 2 (blockK 1 (seqK ((A_zz37).shape 29) (run (A_zz37) N (codeAt Try.f148 [1, 0, 1, 0, 0, 1, 1, 1])) (iterK ((A_zz37).shape 4) (run (A_zz37) N (codeAt Try.f148 [1, 0, 1, 0, 0])) m (zz37_E2 kX kO)))))
noncomputable abbrev zz37_k5 (N : Nat) (m : Nat) (kX : St → Option ((Option Y4) × Unit)) (kO : Nat → St → Option ((Option Y4) × Unit)) : St → Option ((Option Y4) × Unit) := fun st' => run (A_zz37) N (codeAt Try.f148 [1, 0, 1, 0, 0, 1, 1, 1]) st' (iterK ((A_zz37).shape 4) (run (A_zz37) N (codeAt Try.f148 [1, 0, 1, 0, 0])) m (zz37_E2 kX kO))
theorem zz37_after5 (N : Nat) (m : Nat) (kX : St → Option ((Option Y4) × Unit)) (kO : Nat → St → Option ((Option Y4) × Unit)) (l0 : Y1) (t10 : Int) (t11 : Int) : zz37_X5 (zz37_k5 N m kX kO) l0 t10 t11 = zz37_a5 (zz37_R2 N m (zz37_E2 kX kO)) l0 t10 t11 := by kernel_rfl
theorem zz37_in5 (N : Nat) (m : Nat) (kX : St → Option ((Option Y4) × Unit)) (kO : Nat → St → Option ((Option Y4) × Unit)) (recF : Y1 → Int → Int → Option ((Option Y4) × Unit)) (hrec : zz37_R2 N m (zz37_E2 kX kO) = recF) (l0 : Y1) (x3 : Int) (t10 : Int) (t11 : Int) (t18 : Int) (t19 : Int) : zz37_R5 N N (zz37_K5 N m kX kO) l0 x3 t10 t11 t18 t19 = zz37_F5 N recF (zz37_X2 kX) l0 x3 t10 t11 t18 t19 :=
  have h : zz37_X5 (zz37_k5 N m kX kO) = (zz37_a5 recF) := (funext fun l0 => (funext fun t10 => (funext fun t11 => (zz37_after5 N m kX kO l0 t10 t11).trans (by rw [hrec]))))
  ((iter_ex (fun st => by kernel_rfl) (fun st => by kernel_rfl)).trans (zz37_iter5 N (zz37_k5 N m kX kO) (fun j st => (zz37_K5 N m kX kO) (.exit j) st) N l0 x3 t10 t11 t18 t19)).trans (congrArg (fun k => zz37_l5 N k N l0 x3 t10 t11 t18 t19) h)
theorem zz37_step2 (N : Nat) (m : Nat) (kX : St → Option ((Option Y4) × Unit)) (kO : Nat → St → Option ((Option Y4) × Unit)) (l0 : Y1) (t10 : Int) (t11 : Int) : zz37_R2 N (m + 1) (zz37_E2 kX kO) l0 t10 t11 = zz37_b2 (zz37_R5 N N (zz37_K5 N m kX kO)) (zz37_X2 kX) l0 t10 t11 := by kernel_rfl
theorem zz37_iter2 (N : Nat) (kX : St → Option ((Option Y4) × Unit)) (kO : Nat → St → Option ((Option Y4) × Unit)) : ∀ (n : Nat) (l0 : Y1) (t10 : Int) (t11 : Int), zz37_R2 N n (zz37_E2 kX kO) l0 t10 t11 = zz37_l2 N (zz37_X2 kX) n l0 t10 t11
  | 0, _, _, _ => rfl
  | m + 1, l0, t10, t11 => by
    have hrec : zz37_R2 N m (zz37_E2 kX kO) = (zz37_l2 N (zz37_X2 kX) m) := (funext fun l0 => (funext fun t10 => (funext fun t11 => zz37_iter2 N kX kO m l0 t10 t11)))
    refine (zz37_step2 N m kX kO l0 t10 t11).trans ?_
    rw [(funext fun l0 => (funext fun x3 => (funext fun t10 => (funext fun t11 => (funext fun t18 => (funext fun t19 => zz37_in5 N m kX kO (zz37_l2 N (zz37_X2 kX) m) hrec l0 x3 t10 t11 t18 t19))))))]
    rfl
noncomputable abbrev zz37_K2 (N : Nat) : Ex → St → Option ((Option Y4) × Unit) := (blockK 0 (seqK ((A_zz37).shape 31) (run (A_zz37) N (codeAt Try.f148 [1, 1])) zz37_z))
noncomputable abbrev zz37_k2 (N : Nat) : St → Option ((Option Y4) × Unit) := fun st' => run (A_zz37) N (codeAt Try.f148 [1, 1]) st' zz37_z
theorem zz37_after2 (N : Nat) : zz37_X2 (zz37_k2 N) = zz37_a2 := by kernel_rfl
theorem zz37_in2 (N : Nat) (l0 : Y1) (t10 : Int) (t11 : Int) : zz37_R2 N N (zz37_K2 N) l0 t10 t11 = zz37_F2 N l0 t10 t11 :=
  have h : zz37_X2 (zz37_k2 N) = (zz37_a2) := zz37_after2 N
  ((iter_ex (fun st => by kernel_rfl) (fun st => by kernel_rfl)).trans (zz37_iter2 N (zz37_k2 N) (fun j st => (zz37_K2 N) (.exit j) st) N l0 t10 t11)).trans (congrArg (fun k => zz37_l2 N k N l0 t10 t11) h)
theorem run0_zz37 (N : Nat) (x : (S_zz37).a.den) : runF (A_zz37) N Try.f148 S_zz37 x = (zz37_s (zz37_R2 N N (zz37_K2 N)) x.1) := by kernel_rfl
theorem run_zz37 (N : Nat) (x : (S_zz37).a.den) : runF (A_zz37) N Try.f148 S_zz37 x = zz37 N x.1 := by
  refine (run0_zz37 N x).trans ?_
  rw [(funext fun l0 => (funext fun t10 => (funext fun t11 => zz37_in2 N l0 t10 t11)))]
  rfl
theorem fn_zz37 : FnOk Try.prog 148 := ⟨_, Try.func148, by kernel_rfl, by kernel_rfl⟩
theorem good_zz37 : Gx.Good Try.prog 148 S_zz37 := good_of_run Try.func148 (of_decide_eq_true (by kernel_rfl)) fun x r h => ⟨A_zz37, big, mkCfg_ok tabOk, mkCfg_sigs (show SigsOk Try.prog [] from trivial), (run_zz37 big x).trans h⟩

/-! zz38 -/
def zz38_s (p_0 : Y2) : Option ((Y1 × (Bool × Unit)) × Unit) :=
  (zz36 p_0).bind fun rq1 =>
  cond rq1.1.2.1
  ((zz37 big rq1.1.1).bind fun rq2 =>
  some ((rq1.1.1, rq2.1.isNone, ()), (())))
  (some ((rq1.1.1, false, ()), (())))
def zz38 (p_0 : Y2) : Option ((Y1 × (Bool × Unit)) × Unit) := zz38_s p_0
def S_zz38 : Sig := { a := (.pair (.pair (.sl (.sl I)) .unit) .unit), md := [0], mf := [], m := .unit, r := (.tup (.pair (.opt (.pair (.sl (.sl .bool)) (.pair (.sl (.sl I)) (.pair (.sl (.sl I)) .unit)))) (.pair .bool .unit))), rf := .i, f := fun x => zz38 x.1 }
def A_zz38 : Cfg := mkCfg tab [(68, S_zz36), (148, S_zz37)] []
theorem run_zz38 (N : Nat) (x : (S_zz38).a.den) : runF (A_zz38) N Try.f130 S_zz38 x = zz38 x.1 := by kernel_rfl
theorem fn_zz38 : FnOk Try.prog 130 := ⟨_, Try.func130, by kernel_rfl, by kernel_rfl⟩
theorem good_zz38 : Gx.Good Try.prog 130 S_zz38 := good_of_run Try.func130 (of_decide_eq_true (by kernel_rfl)) fun x r h => ⟨A_zz38, big, mkCfg_ok tabOk, mkCfg_sigs (show SigsOk Try.prog [(68, S_zz36), (148, S_zz37)] from ⟨⟨fn_zz36, good_zz36⟩, ⟨fn_zz37, good_zz37⟩, trivial⟩), (run_zz38 big x).trans h⟩

/-! zz39 -/
def zz39_b3 (rec : Y1 → Int → Int → Int → Option (Int × Unit)) (k : Int → Option (Int × Unit)) (l0 : Y1) (b3 : Int) (t9 : Int) (t10 : Int) : Option (Int × Unit) :=
  cond (decide (t10 < t9))
  ((l0).bind fun xq2 =>
  (atI xq2.2.1 b3).bind fun xq3 =>
  (atI xq3 t10).bind fun xq4 =>
  rec l0 xq4 t9 (IntKind.i64.wrap (t10 + (1 : Int))))
  (k b3)
def zz39_a3 (b3 : Int) : Option (Int × Unit) :=
  some (b3, (()))
def zz39_s (L3 : Y1 → Int → Int → Int → Option (Int × Unit)) (l_0 : Y1) : Option (Int × Unit) :=
  (l_0).bind fun xq1 =>
  L3 l_0 (0 : Int) (xq1.1.length : Int) (0 : Int)
def zz39_l3 (N : Nat) (k : Int → Option (Int × Unit)) : Nat → Y1 → Int → Int → Int → Option (Int × Unit)
  | 0, _, _, _, _ => none
  | m + 1, l0, b3, t9, t10 => zz39_b3 (zz39_l3 N k m) k l0 b3 t9 t10
def zz39_F3 (N : Nat) (l0 : Y1) (b3 : Int) (t9 : Int) (t10 : Int) : Option (Int × Unit) := zz39_l3 N (zz39_a3) N l0 b3 t9 t10
def zz39 (N : Nat) (l_0 : Y1) : Option (Int × Unit) := zz39_s (zz39_F3 N) l_0
def S_zz39 : Sig := { a := (.pair (.opt (.pair (.sl (.sl .bool)) (.pair (.sl (.sl I)) (.pair (.sl (.sl I)) .unit)))) .unit), md := [0], mf := [], m := .unit, r := I, rf := .i, f := fun x => zz39 big x.1 }
def A_zz39 : Cfg := mkCfg tab [] [(6, [.as (.opt (.pair (.sl (.sl .bool)) (.pair (.sl (.sl I)) (.pair (.sl (.sl I)) .unit)))) .i, .drop, .drop, .as I .i, .drop, .drop, .drop, .drop, .drop, .as I .i, .as I .i]), (15, [.drop, .drop, .drop, .as I .i])]
noncomputable def zz39_R3 (N n : Nat) (K : Ex → St → Option (Int × Unit)) (l0 : Y1) (b3 : Int) (t9 : Int) (t10 : Int) : Option (Int × Unit) := iter ((A_zz39).shape 6) (run (A_zz39) N (codeAt Try.f70 [1, 1, 0, 1, 0, 0])) n ([.val (.opt (.pair (.sl (.sl .bool)) (.pair (.sl (.sl I)) (.pair (.sl (.sl I)) .unit)))) .i l0, .u, .u, .val I .i b3, .u, .u, .u, .u, .u, .val I .i t9, .val I .i t10] ++ List.replicate 14 .u) K
noncomputable abbrev zz39_z : Ex → St → Option (Int × Unit) := finish (A_zz39) S_zz39 Try.f70.results.toList
noncomputable abbrev zz39_X3 (kX : St → Option (Int × Unit)) : Int → Option (Int × Unit) := fun (b3 : Int) => kX ([.u, .u, .u, .val I .i b3] ++ List.replicate 21 .u)
noncomputable abbrev zz39_E3 (kX : St → Option (Int × Unit)) (kO : Nat → St → Option (Int × Unit)) : Ex → St → Option (Int × Unit) := exK zz39_z 0 ((A_zz39).shape 15) kX kO
theorem zz39_step3 (N : Nat) (m : Nat) (kX : St → Option (Int × Unit)) (kO : Nat → St → Option (Int × Unit)) (l0 : Y1) (b3 : Int) (t9 : Int) (t10 : Int) : zz39_R3 N (m + 1) (zz39_E3 kX kO) l0 b3 t9 t10 = zz39_b3 (zz39_R3 N m (zz39_E3 kX kO)) (zz39_X3 kX) l0 b3 t9 t10 := by kernel_rfl
theorem zz39_iter3 (N : Nat) (kX : St → Option (Int × Unit)) (kO : Nat → St → Option (Int × Unit)) : ∀ (n : Nat) (l0 : Y1) (b3 : Int) (t9 : Int) (t10 : Int), zz39_R3 N n (zz39_E3 kX kO) l0 b3 t9 t10 = zz39_l3 N (zz39_X3 kX) n l0 b3 t9 t10
  | 0, _, _, _, _ => rfl
  | m + 1, l0, b3, t9, t10 => by
    have hrec : zz39_R3 N m (zz39_E3 kX kO) = (zz39_l3 N (zz39_X3 kX) m) := (funext fun l0 => (funext fun b3 => (funext fun t9 => (funext fun t10 => zz39_iter3 N kX kO m l0 b3 t9 t10))))
    refine (zz39_step3 N m kX kO l0 b3 t9 t10).trans ?_
    rw [hrec]
    rfl
noncomputable abbrev zz39_K3 (N : Nat) : Ex → St → Option (Int × Unit) := (blockK 0 (seqK ((A_zz39).shape 15) (run (A_zz39) N (codeAt Try.f70 [1, 1, 1])) zz39_z))
noncomputable abbrev zz39_k3 (N : Nat) : St → Option (Int × Unit) := fun st' => run (A_zz39) N (codeAt Try.f70 [1, 1, 1]) st' zz39_z
theorem zz39_after3 (N : Nat) (b3 : Int) : zz39_X3 (zz39_k3 N) b3 = zz39_a3 b3 := by kernel_rfl
theorem zz39_in3 (N : Nat) (l0 : Y1) (b3 : Int) (t9 : Int) (t10 : Int) : zz39_R3 N N (zz39_K3 N) l0 b3 t9 t10 = zz39_F3 N l0 b3 t9 t10 :=
  have h : zz39_X3 (zz39_k3 N) = (zz39_a3) := (funext fun b3 => zz39_after3 N b3)
  ((iter_ex (fun st => by kernel_rfl) (fun st => by kernel_rfl)).trans (zz39_iter3 N (zz39_k3 N) (fun j st => (zz39_K3 N) (.exit j) st) N l0 b3 t9 t10)).trans (congrArg (fun k => zz39_l3 N k N l0 b3 t9 t10) h)
theorem run0_zz39 (N : Nat) (x : (S_zz39).a.den) : runF (A_zz39) N Try.f70 S_zz39 x = (zz39_s (zz39_R3 N N (zz39_K3 N)) x.1) := by kernel_rfl
theorem run_zz39 (N : Nat) (x : (S_zz39).a.den) : runF (A_zz39) N Try.f70 S_zz39 x = zz39 N x.1 := by
  refine (run0_zz39 N x).trans ?_
  rw [(funext fun l0 => (funext fun b3 => (funext fun t9 => (funext fun t10 => zz39_in3 N l0 b3 t9 t10))))]
  rfl
theorem fn_zz39 : FnOk Try.prog 70 := ⟨_, Try.func70, by kernel_rfl, by kernel_rfl⟩
theorem good_zz39 : Gx.Good Try.prog 70 S_zz39 := good_of_run Try.func70 (of_decide_eq_true (by kernel_rfl)) fun x r h => ⟨A_zz39, big, mkCfg_ok tabOk, mkCfg_sigs (show SigsOk Try.prog [] from trivial), (run_zz39 big x).trans h⟩

/-! zz40 -/
def zz40_b3 (rec : Y1 → Int → Int → Int → Option (Int × Unit)) (k : Int → Option (Int × Unit)) (l0 : Y1) (t3 : Int) (t9 : Int) (t10 : Int) : Option (Int × Unit) :=
  cond (decide (t10 < t9))
  ((l0).bind fun xq2 =>
  (atI xq2.2.2.1 t3).bind fun xq3 =>
  (atI xq3 t10).bind fun xq4 =>
  rec l0 xq4 t9 (IntKind.i64.wrap (t10 + (1 : Int))))
  (k t3)
def zz40_a3 (t3 : Int) : Option (Int × Unit) :=
  some (t3, (()))
def zz40_s (L3 : Y1 → Int → Int → Int → Option (Int × Unit)) (l_0 : Y1) : Option (Int × Unit) :=
  (l_0).bind fun xq1 =>
  L3 l_0 (0 : Int) (xq1.1.length : Int) (0 : Int)
def zz40_l3 (N : Nat) (k : Int → Option (Int × Unit)) : Nat → Y1 → Int → Int → Int → Option (Int × Unit)
  | 0, _, _, _, _ => none
  | m + 1, l0, t3, t9, t10 => zz40_b3 (zz40_l3 N k m) k l0 t3 t9 t10
def zz40_F3 (N : Nat) (l0 : Y1) (t3 : Int) (t9 : Int) (t10 : Int) : Option (Int × Unit) := zz40_l3 N (zz40_a3) N l0 t3 t9 t10
def zz40 (N : Nat) (l_0 : Y1) : Option (Int × Unit) := zz40_s (zz40_F3 N) l_0
def S_zz40 : Sig := { a := (.pair (.opt (.pair (.sl (.sl .bool)) (.pair (.sl (.sl I)) (.pair (.sl (.sl I)) .unit)))) .unit), md := [0], mf := [], m := .unit, r := I, rf := .i, f := fun x => zz40 big x.1 }
def A_zz40 : Cfg := mkCfg tab [] [(6, [.as (.opt (.pair (.sl (.sl .bool)) (.pair (.sl (.sl I)) (.pair (.sl (.sl I)) .unit)))) .i, .drop, .drop, .as I .i, .drop, .drop, .drop, .drop, .drop, .as I .i, .as I .i]), (15, [.drop, .drop, .drop, .as I .i])]
noncomputable def zz40_R3 (N n : Nat) (K : Ex → St → Option (Int × Unit)) (l0 : Y1) (t3 : Int) (t9 : Int) (t10 : Int) : Option (Int × Unit) := iter ((A_zz40).shape 6) (run (A_zz40) N (codeAt Try.f122 [1, 1, 0, 1, 0, 0])) n ([.val (.opt (.pair (.sl (.sl .bool)) (.pair (.sl (.sl I)) (.pair (.sl (.sl I)) .unit)))) .i l0, .u, .u, .val I .i t3, .u, .u, .u, .u, .u, .val I .i t9, .val I .i t10] ++ List.replicate 14 .u) K
noncomputable abbrev zz40_z : Ex → St → Option (Int × Unit) := finish (A_zz40) S_zz40 Try.f122.results.toList
noncomputable abbrev zz40_X3 (kX : St → Option (Int × Unit)) : Int → Option (Int × Unit) := fun (t3 : Int) => kX ([.u, .u, .u, .val I .i t3] ++ List.replicate 21 .u)
noncomputable abbrev zz40_E3 (kX : St → Option (Int × Unit)) (kO : Nat → St → Option (Int × Unit)) : Ex → St → Option (Int × Unit) := exK zz40_z 0 ((A_zz40).shape 15) kX kO
theorem zz40_step3 (N : Nat) (m : Nat) (kX : St → Option (Int × Unit)) (kO : Nat → St → Option (Int × Unit)) (l0 : Y1) (t3 : Int) (t9 : Int) (t10 : Int) : zz40_R3 N (m + 1) (zz40_E3 kX kO) l0 t3 t9 t10 = zz40_b3 (zz40_R3 N m (zz40_E3 kX kO)) (zz40_X3 kX) l0 t3 t9 t10 := by kernel_rfl
theorem zz40_iter3 (N : Nat) (kX : St → Option (Int × Unit)) (kO : Nat → St → Option (Int × Unit)) : ∀ (n : Nat) (l0 : Y1) (t3 : Int) (t9 : Int) (t10 : Int), zz40_R3 N n (zz40_E3 kX kO) l0 t3 t9 t10 = zz40_l3 N (zz40_X3 kX) n l0 t3 t9 t10
  | 0, _, _, _, _ => rfl
  | m + 1, l0, t3, t9, t10 => by
    have hrec : zz40_R3 N m (zz40_E3 kX kO) = (zz40_l3 N (zz40_X3 kX) m) := (funext fun l0 => (funext fun t3 => (funext fun t9 => (funext fun t10 => zz40_iter3 N kX kO m l0 t3 t9 t10))))
    refine (zz40_step3 N m kX kO l0 t3 t9 t10).trans ?_
    rw [hrec]
    rfl
noncomputable abbrev zz40_K3 (N : Nat) : Ex → St → Option (Int × Unit) := (blockK 0 (seqK ((A_zz40).shape 15) (run (A_zz40) N (codeAt Try.f122 [1, 1, 1])) zz40_z))
noncomputable abbrev zz40_k3 (N : Nat) : St → Option (Int × Unit) := fun st' => run (A_zz40) N (codeAt Try.f122 [1, 1, 1]) st' zz40_z
theorem zz40_after3 (N : Nat) (t3 : Int) : zz40_X3 (zz40_k3 N) t3 = zz40_a3 t3 := by kernel_rfl
theorem zz40_in3 (N : Nat) (l0 : Y1) (t3 : Int) (t9 : Int) (t10 : Int) : zz40_R3 N N (zz40_K3 N) l0 t3 t9 t10 = zz40_F3 N l0 t3 t9 t10 :=
  have h : zz40_X3 (zz40_k3 N) = (zz40_a3) := (funext fun t3 => zz40_after3 N t3)
  ((iter_ex (fun st => by kernel_rfl) (fun st => by kernel_rfl)).trans (zz40_iter3 N (zz40_k3 N) (fun j st => (zz40_K3 N) (.exit j) st) N l0 t3 t9 t10)).trans (congrArg (fun k => zz40_l3 N k N l0 t3 t9 t10) h)
theorem run0_zz40 (N : Nat) (x : (S_zz40).a.den) : runF (A_zz40) N Try.f122 S_zz40 x = (zz40_s (zz40_R3 N N (zz40_K3 N)) x.1) := by kernel_rfl
theorem run_zz40 (N : Nat) (x : (S_zz40).a.den) : runF (A_zz40) N Try.f122 S_zz40 x = zz40 N x.1 := by
  refine (run0_zz40 N x).trans ?_
  rw [(funext fun l0 => (funext fun t3 => (funext fun t9 => (funext fun t10 => zz40_in3 N l0 t3 t9 t10))))]
  rfl
theorem fn_zz40 : FnOk Try.prog 122 := ⟨_, Try.func122, by kernel_rfl, by kernel_rfl⟩
theorem good_zz40 : Gx.Good Try.prog 122 S_zz40 := good_of_run Try.func122 (of_decide_eq_true (by kernel_rfl)) fun x r h => ⟨A_zz40, big, mkCfg_ok tabOk, mkCfg_sigs (show SigsOk Try.prog [] from trivial), (run_zz40 big x).trans h⟩

/-! zz41 -/
def zz41_s (c_0 : Int) (p_1 : Y1) (p_2 : Int) (p_3 : Int) (p_4 : Int) : Option (Bool × Unit) :=
  (p_1).bind fun xq1 =>
  (atI xq1.2.1 c_0).bind fun xq2 =>
  (atI xq2 p_2).bind fun xq3 =>
  cond (decide (xq3 = p_3))
  ((p_1).bind fun xq4 =>
  (atI xq4.2.2.1 c_0).bind fun xq5 =>
  (atI xq5 p_2).bind fun xq6 =>
  some (decide (xq6 = p_4), (())))
  (some (false, (())))
def zz41 (c_0 : Int) (p_1 : Y1) (p_2 : Int) (p_3 : Int) (p_4 : Int) : Option (Bool × Unit) := zz41_s c_0 p_1 p_2 p_3 p_4
def S_zz41 : Sig := { a := (.pair I (.pair (.ptr (.opt (.pair (.sl (.sl .bool)) (.pair (.sl (.sl I)) (.pair (.sl (.sl I)) .unit))))) (.pair (.ptr I) (.pair (.ptr I) (.pair (.ptr I) .unit))))), md := [0, 0, 0, 0, 0], mf := [], m := .unit, r := .bool, rf := .i, f := fun x => zz41 x.1 x.2.1 x.2.2.1 x.2.2.2.1 x.2.2.2.2.1 }
def A_zz41 : Cfg := mkCfg tab [] []
theorem run_zz41 (N : Nat) (x : (S_zz41).a.den) : runF (A_zz41) N Try.f150 S_zz41 x = zz41 x.1 x.2.1 x.2.2.1 x.2.2.2.1 x.2.2.2.2.1 := by kernel_rfl
theorem fn_zz41 : FnOk Try.prog 150 := ⟨_, Try.func150, by kernel_rfl, by kernel_rfl⟩
theorem good_zz41 : Gx.Good Try.prog 150 S_zz41 := good_of_run Try.func150 (of_decide_eq_true (by kernel_rfl)) fun x r h => ⟨A_zz41, big, mkCfg_ok tabOk, mkCfg_sigs (show SigsOk Try.prog [] from trivial), (run_zz41 big x).trans h⟩

/-! zz42 -/
def zz42_b3 (rec : (Y1 × (Int × (Int × (Int × Unit)))) → Y4 → Int → Int → Option (Y4 × Unit)) (k : Y4 → Option (Y4 × Unit)) (so1 : (Y1 × (Int × (Int × (Int × Unit))))) (list5 : Y4) (t9 : Int) (t10 : Int) : Option (Y4 × Unit) :=
  cond (decide (t10 < t9))
  ((zz41 t10 so1.1 so1.2.1 so1.2.2.1 so1.2.2.2.1).bind fun rq1 =>
  cond rq1.1
  ((appI list5 [t10]).bind fun xq2 =>
  rec so1 xq2 t9 (IntKind.i64.wrap (t10 + (1 : Int))))
  (rec so1 list5 t9 (IntKind.i64.wrap (t10 + (1 : Int)))))
  (k list5)
def zz42_a3 (list5 : Y4) : Option (Y4 × Unit) :=
  some (list5, (()))
def zz42_s (L3 : (Y1 × (Int × (Int × (Int × Unit)))) → Y4 → Int → Int → Option (Y4 × Unit)) (o_0 : Y5) (so_1 : (Y1 × (Int × (Int × (Int × Unit))))) : Option (Y4 × Unit) :=
  L3 so_1 [] (o_0.length : Int) (0 : Int)
def zz42_l3 (N : Nat) (k : Y4 → Option (Y4 × Unit)) : Nat → (Y1 × (Int × (Int × (Int × Unit)))) → Y4 → Int → Int → Option (Y4 × Unit)
  | 0, _, _, _, _ => none
  | m + 1, so1, list5, t9, t10 => zz42_b3 (zz42_l3 N k m) k so1 list5 t9 t10
def zz42_F3 (N : Nat) (so1 : (Y1 × (Int × (Int × (Int × Unit))))) (list5 : Y4) (t9 : Int) (t10 : Int) : Option (Y4 × Unit) := zz42_l3 N (zz42_a3) N so1 list5 t9 t10
def zz42 (N : Nat) (o_0 : Y5) (so_1 : (Y1 × (Int × (Int × (Int × Unit))))) : Option (Y4 × Unit) := zz42_s (zz42_F3 N) o_0 so_1
def S_zz42 : Sig := { a := (.pair (.sl (.sl .bool)) (.pair (.clo 150 0 (.pair (.ptr (.opt (.pair (.sl (.sl .bool)) (.pair (.sl (.sl I)) (.pair (.sl (.sl I)) .unit))))) (.pair (.ptr I) (.pair (.ptr I) (.pair (.ptr I) .unit))))) .unit)), md := [0, 0], mf := [], m := .unit, r := (.sl I), rf := (.o .i), f := fun x => zz42 big x.1 x.2.1 }
def A_zz42 : Cfg := mkCfg tab [(150, S_zz41)] [(6, [.drop, .as (.clo 150 0 (.pair (.ptr (.opt (.pair (.sl (.sl .bool)) (.pair (.sl (.sl I)) (.pair (.sl (.sl I)) .unit))))) (.pair (.ptr I) (.pair (.ptr I) (.pair (.ptr I) .unit))))) .i, .drop, .drop, .drop, .as (.sl I) (.o .i), .drop, .drop, .drop, .as I .i, .as I .i]), (17, [.drop, .drop, .drop, .drop, .drop, .as (.sl I) (.o .i)])]
noncomputable def zz42_R3 (N n : Nat) (K : Ex → St → Option (Y4 × Unit)) (so1 : (Y1 × (Int × (Int × (Int × Unit))))) (list5 : Y4) (t9 : Int) (t10 : Int) : Option (Y4 × Unit) := iter ((A_zz42).shape 6) (run (A_zz42) N (codeAt Try.f65 [1, 1, 0, 1, 0, 0])) n ([.u, .val (.clo 150 0 (.pair (.ptr (.opt (.pair (.sl (.sl .bool)) (.pair (.sl (.sl I)) (.pair (.sl (.sl I)) .unit))))) (.pair (.ptr I) (.pair (.ptr I) (.pair (.ptr I) .unit))))) .i so1, .u, .u, .u, .val (.sl I) (.o .i) list5, .u, .u, .u, .val I .i t9, .val I .i t10] ++ List.replicate 11 .u) K
noncomputable abbrev zz42_z : Ex → St → Option (Y4 × Unit) := finish (A_zz42) S_zz42 Try.f65.results.toList
noncomputable abbrev zz42_X3 (kX : St → Option (Y4 × Unit)) : Y4 → Option (Y4 × Unit) := fun (list5 : Y4) => kX ([.u, .u, .u, .u, .u, .val (.sl I) (.o .i) list5] ++ List.replicate 16 .u)
noncomputable abbrev zz42_E3 (kX : St → Option (Y4 × Unit)) (kO : Nat → St → Option (Y4 × Unit)) : Ex → St → Option (Y4 × Unit) := exK zz42_z 0 ((A_zz42).shape 17) kX kO
theorem zz42_step3 (N : Nat) (m : Nat) (kX : St → Option (Y4 × Unit)) (kO : Nat → St → Option (Y4 × Unit)) (so1 : (Y1 × (Int × (Int × (Int × Unit))))) (list5 : Y4) (t9 : Int) (t10 : Int) : zz42_R3 N (m + 1) (zz42_E3 kX kO) so1 list5 t9 t10 = zz42_b3 (zz42_R3 N m (zz42_E3 kX kO)) (zz42_X3 kX) so1 list5 t9 t10 := by kernel_rfl
theorem zz42_iter3 (N : Nat) (kX : St → Option (Y4 × Unit)) (kO : Nat → St → Option (Y4 × Unit)) : ∀ (n : Nat) (so1 : (Y1 × (Int × (Int × (Int × Unit))))) (list5 : Y4) (t9 : Int) (t10 : Int), zz42_R3 N n (zz42_E3 kX kO) so1 list5 t9 t10 = zz42_l3 N (zz42_X3 kX) n so1 list5 t9 t10
  | 0, _, _, _, _ => rfl
  | m + 1, so1, list5, t9, t10 => by
    have hrec : zz42_R3 N m (zz42_E3 kX kO) = (zz42_l3 N (zz42_X3 kX) m) := (funext fun so1 => (funext fun list5 => (funext fun t9 => (funext fun t10 => zz42_iter3 N kX kO m so1 list5 t9 t10))))
    refine (zz42_step3 N m kX kO so1 list5 t9 t10).trans ?_
    rw [hrec]
    rfl
noncomputable abbrev zz42_K3 (N : Nat) : Ex → St → Option (Y4 × Unit) := (blockK 0 (seqK ((A_zz42).shape 17) (run (A_zz42) N (codeAt Try.f65 [1, 1, 1])) zz42_z))
noncomputable abbrev zz42_k3 (N : Nat) : St → Option (Y4 × Unit) := fun st' => run (A_zz42) N (codeAt Try.f65 [1, 1, 1]) st' zz42_z
theorem zz42_after3 (N : Nat) (list5 : Y4) : zz42_X3 (zz42_k3 N) list5 = zz42_a3 list5 := by kernel_rfl
theorem zz42_in3 (N : Nat) (so1 : (Y1 × (Int × (Int × (Int × Unit))))) (list5 : Y4) (t9 : Int) (t10 : Int) : zz42_R3 N N (zz42_K3 N) so1 list5 t9 t10 = zz42_F3 N so1 list5 t9 t10 :=
  have h : zz42_X3 (zz42_k3 N) = (zz42_a3) := (funext fun list5 => zz42_after3 N list5)
  ((iter_ex (fun st => by kernel_rfl) (fun st => by kernel_rfl)).trans (zz42_iter3 N (zz42_k3 N) (fun j st => (zz42_K3 N) (.exit j) st) N so1 list5 t9 t10)).trans (congrArg (fun k => zz42_l3 N k N so1 list5 t9 t10) h)
theorem run0_zz42 (N : Nat) (x : (S_zz42).a.den) : runF (A_zz42) N Try.f65 S_zz42 x = (zz42_s (zz42_R3 N N (zz42_K3 N)) x.1 x.2.1) := by kernel_rfl
theorem run_zz42 (N : Nat) (x : (S_zz42).a.den) : runF (A_zz42) N Try.f65 S_zz42 x = zz42 N x.1 x.2.1 := by
  refine (run0_zz42 N x).trans ?_
  rw [(funext fun so1 => (funext fun list5 => (funext fun t9 => (funext fun t10 => zz42_in3 N so1 list5 t9 t10))))]
  rfl
theorem fn_zz42 : FnOk Try.prog 65 := ⟨_, Try.func65, by kernel_rfl, by kernel_rfl⟩
theorem good_zz42 : Gx.Good Try.prog 65 S_zz42 := good_of_run Try.func65 (of_decide_eq_true (by kernel_rfl)) fun x r h => ⟨A_zz42, big, mkCfg_ok tabOk, mkCfg_sigs (show SigsOk Try.prog [(150, S_zz41)] from ⟨⟨fn_zz41, good_zz41⟩, trivial⟩), (run_zz42 big x).trans h⟩

/-! zz43 -/
def zz43_s (l_0 : Y1) (x_1 : Int) (y_2 : Int) (z_3 : Int) : Option (Y4 × Unit) :=
  (l_0).bind fun xq1 =>
  (zz42 big xq1.1 (l_0, y_2, x_1, z_3, ())).bind fun rq2 =>
  some (rq2.1, (()))
def zz43 (l_0 : Y1) (x_1 : Int) (y_2 : Int) (z_3 : Int) : Option (Y4 × Unit) := zz43_s l_0 x_1 y_2 z_3
def S_zz43 : Sig := { a := (.pair (.opt (.pair (.sl (.sl .bool)) (.pair (.sl (.sl I)) (.pair (.sl (.sl I)) .unit)))) (.pair I (.pair I (.pair I .unit)))), md := [0, 0, 0, 0], mf := [], m := .unit, r := (.sl I), rf := (.o .i), f := fun x => zz43 x.1 x.2.1 x.2.2.1 x.2.2.2.1 }
def A_zz43 : Cfg := mkCfg tab [(65, S_zz42)] [(3, [.drop, .drop, .drop, .drop, .as (.ptr (.opt (.pair (.sl (.sl .bool)) (.pair (.sl (.sl I)) (.pair (.sl (.sl I)) .unit))))) .i, .as (.ptr I) .i, .as (.ptr I) .i, .as (.ptr I) .i])]
theorem run_zz43 (N : Nat) (x : (S_zz43).a.den) : runF (A_zz43) N Try.f139 S_zz43 x = zz43 x.1 x.2.1 x.2.2.1 x.2.2.2.1 := by kernel_rfl
theorem fn_zz43 : FnOk Try.prog 139 := ⟨_, Try.func139, by kernel_rfl, by kernel_rfl⟩
theorem good_zz43 : Gx.Good Try.prog 139 S_zz43 := good_of_run Try.func139 (of_decide_eq_true (by kernel_rfl)) fun x r h => ⟨A_zz43, big, mkCfg_ok tabOk, mkCfg_sigs (show SigsOk Try.prog [(65, S_zz42)] from ⟨⟨fn_zz42, good_zz42⟩, trivial⟩), (run_zz43 big x).trans h⟩

/-! zz44 -/
def zz44_s (l_0 : Y1) (x_1 : Int) : Option (Y4 × Unit) :=
  (zz39 big l_0).bind fun rq1 =>
  (zz40 big l_0).bind fun rq2 =>
  (zz43 l_0 rq1.1 x_1 rq2.1).bind fun rq3 =>
  some (rq3.1, (()))
def zz44 (l_0 : Y1) (x_1 : Int) : Option (Y4 × Unit) := zz44_s l_0 x_1
def S_zz44 : Sig := { a := (.pair (.opt (.pair (.sl (.sl .bool)) (.pair (.sl (.sl I)) (.pair (.sl (.sl I)) .unit)))) (.pair I .unit)), md := [0, 0], mf := [], m := .unit, r := (.sl I), rf := (.o .i), f := fun x => zz44 x.1 x.2.1 }
def A_zz44 : Cfg := mkCfg tab [(70, S_zz39), (122, S_zz40), (139, S_zz43)] []
theorem run_zz44 (N : Nat) (x : (S_zz44).a.den) : runF (A_zz44) N Try.f114 S_zz44 x = zz44 x.1 x.2.1 := by kernel_rfl
theorem fn_zz44 : FnOk Try.prog 114 := ⟨_, Try.func114, by kernel_rfl, by kernel_rfl⟩
theorem good_zz44 : Gx.Good Try.prog 114 S_zz44 := good_of_run Try.func114 (of_decide_eq_true (by kernel_rfl)) fun x r h => ⟨A_zz44, big, mkCfg_ok tabOk, mkCfg_sigs (show SigsOk Try.prog [(70, S_zz39), (122, S_zz40), (139, S_zz43)] from ⟨⟨fn_zz39, good_zz39⟩, ⟨fn_zz40, good_zz40⟩, ⟨fn_zz43, good_zz43⟩, trivial⟩), (run_zz44 big x).trans h⟩

/-! zz45 -/
def zz45_s (x_0 : Int) (p_1 : Y1) : Option (Bool × Unit) :=
  (zz44 p_1 x_0).bind fun rq1 =>
  some (decide ((rq1.1.length : Int) = (0 : Int)), (()))
def zz45 (x_0 : Int) (p_1 : Y1) : Option (Bool × Unit) := zz45_s x_0 p_1
def S_zz45 : Sig := { a := (.pair I (.pair (.ptr (.opt (.pair (.sl (.sl .bool)) (.pair (.sl (.sl I)) (.pair (.sl (.sl I)) .unit))))) .unit)), md := [0, 0], mf := [], m := .unit, r := .bool, rf := .i, f := fun x => zz45 x.1 x.2.1 }
def A_zz45 : Cfg := mkCfg tab [(114, S_zz44)] []
theorem run_zz45 (N : Nat) (x : (S_zz45).a.den) : runF (A_zz45) N Try.f149 S_zz45 x = zz45 x.1 x.2.1 := by kernel_rfl
theorem fn_zz45 : FnOk Try.prog 149 := ⟨_, Try.func149, by kernel_rfl, by kernel_rfl⟩
theorem good_zz45 : Gx.Good Try.prog 149 S_zz45 := good_of_run Try.func149 (of_decide_eq_true (by kernel_rfl)) fun x r h => ⟨A_zz45, big, mkCfg_ok tabOk, mkCfg_sigs (show SigsOk Try.prog [(114, S_zz44)] from ⟨⟨fn_zz44, good_zz44⟩, trivial⟩), (run_zz45 big x).trans h⟩

/-! zz46 -/
def zz46_b3 (rec : (Y1 × Unit) → Y4 → Int → Int → Option (Y4 × Unit)) (k : Y4 → Option (Y4 × Unit)) (so1 : (Y1 × Unit)) (list5 : Y4) (t9 : Int) (t10 : Int) : Option (Y4 × Unit) :=
  cond (decide (t10 < t9))
  ((zz45 t10 so1.1).bind fun rq1 =>
  cond rq1.1
  ((appI list5 [t10]).bind fun xq2 =>
  rec so1 xq2 t9 (IntKind.i64.wrap (t10 + (1 : Int))))
  (rec so1 list5 t9 (IntKind.i64.wrap (t10 + (1 : Int)))))
  (k list5)
def zz46_a3 (list5 : Y4) : Option (Y4 × Unit) :=
  some (list5, (()))
def zz46_s (L3 : (Y1 × Unit) → Y4 → Int → Int → Option (Y4 × Unit)) (o_0 : Y5) (so_1 : (Y1 × Unit)) : Option (Y4 × Unit) :=
  L3 so_1 [] (o_0.length : Int) (0 : Int)
def zz46_l3 (N : Nat) (k : Y4 → Option (Y4 × Unit)) : Nat → (Y1 × Unit) → Y4 → Int → Int → Option (Y4 × Unit)
  | 0, _, _, _, _ => none
  | m + 1, so1, list5, t9, t10 => zz46_b3 (zz46_l3 N k m) k so1 list5 t9 t10
def zz46_F3 (N : Nat) (so1 : (Y1 × Unit)) (list5 : Y4) (t9 : Int) (t10 : Int) : Option (Y4 × Unit) := zz46_l3 N (zz46_a3) N so1 list5 t9 t10
def zz46 (N : Nat) (o_0 : Y5) (so_1 : (Y1 × Unit)) : Option (Y4 × Unit) := zz46_s (zz46_F3 N) o_0 so_1
def S_zz46 : Sig := { a := (.pair (.sl (.sl .bool)) (.pair (.clo 149 0 (.pair (.ptr (.opt (.pair (.sl (.sl .bool)) (.pair (.sl (.sl I)) (.pair (.sl (.sl I)) .unit))))) .unit)) .unit)), md := [0, 0], mf := [], m := .unit, r := (.sl I), rf := (.o .i), f := fun x => zz46 big x.1 x.2.1 }
def A_zz46 : Cfg := mkCfg tab [(149, S_zz45)] [(6, [.drop, .as (.clo 149 0 (.pair (.ptr (.opt (.pair (.sl (.sl .bool)) (.pair (.sl (.sl I)) (.pair (.sl (.sl I)) .unit))))) .unit)) .i, .drop, .drop, .drop, .as (.sl I) (.o .i), .drop, .drop, .drop, .as I .i, .as I .i]), (17, [.drop, .drop, .drop, .drop, .drop, .as (.sl I) (.o .i)])]
noncomputable def zz46_R3 (N n : Nat) (K : Ex → St → Option (Y4 × Unit)) (so1 : (Y1 × Unit)) (list5 : Y4) (t9 : Int) (t10 : Int) : Option (Y4 × Unit) := iter ((A_zz46).shape 6) (run (A_zz46) N (codeAt Try.f65 [1, 1, 0, 1, 0, 0])) n ([.u, .val (.clo 149 0 (.pair (.ptr (.opt (.pair (.sl (.sl .bool)) (.pair (.sl (.sl I)) (.pair (.sl (.sl I)) .unit))))) .unit)) .i so1, .u, .u, .u, .val (.sl I) (.o .i) list5, .u, .u, .u, .val I .i t9, .val I .i t10] ++ List.replicate 11 .u) K
noncomputable abbrev zz46_z : Ex → St → Option (Y4 × Unit) := finish (A_zz46) S_zz46 Try.f65.results.toList
noncomputable abbrev zz46_X3 (kX : St → Option (Y4 × Unit)) : Y4 → Option (Y4 × Unit) := fun (list5 : Y4) => kX ([.u, .u, .u, .u, .u, .val (.sl I) (.o .i) list5] ++ List.replicate 16 .u)
noncomputable abbrev zz46_E3 (kX : St → Option (Y4 × Unit)) (kO : Nat → St → Option (Y4 × Unit)) : Ex → St → Option (Y4 × Unit) := exK zz46_z 0 ((A_zz46).shape 17) kX kO
theorem zz46_step3 (N : Nat) (m : Nat) (kX : St → Option (Y4 × Unit)) (kO : Nat → St → Option (Y4 × Unit)) (so1 : (Y1 × Unit)) (list5 : Y4) (t9 : Int) (t10 : Int) : zz46_R3 N (m + 1) (zz46_E3 kX kO) so1 list5 t9 t10 = zz46_b3 (zz46_R3 N m (zz46_E3 kX kO)) (zz46_X3 kX) so1 list5 t9 t10 := by kernel_rfl
theorem zz46_iter3 (N : Nat) (kX : St → Option (Y4 × Unit)) (kO : Nat → St → Option (Y4 × Unit)) : ∀ (n : Nat) (so1 : (Y1 × Unit)) (list5 : Y4) (t9 : Int) (t10 : Int), zz46_R3 N n (zz46_E3 kX kO) so1 list5 t9 t10 = zz46_l3 N (zz46_X3 kX) n so1 list5 t9 t10
  | 0, _, _, _, _ => rfl
  | m + 1, so1, list5, t9, t10 => by
    have hrec : zz46_R3 N m (zz46_E3 kX kO) = (zz46_l3 N (zz46_X3 kX) m) := (funext fun so1 => (funext fun list5 => (funext fun t9 => (funext fun t10 => zz46_iter3 N kX kO m so1 list5 t9 t10))))
    refine (zz46_step3 N m kX kO so1 list5 t9 t10).trans ?_
    rw [hrec]
    rfl
noncomputable abbrev zz46_K3 (N : Nat) : Ex → St → Option (Y4 × Unit) := (blockK 0 (seqK ((A_zz46).shape 17) (run (A_zz46) N (codeAt Try.f65 [1, 1, 1])) zz46_z))
noncomputable abbrev zz46_k3 (N : Nat) : St → Option (Y4 × Unit) := fun st' => run (A_zz46) N (codeAt Try.f65 [1, 1, 1]) st' zz46_z
theorem zz46_after3 (N : Nat) (list5 : Y4) : zz46_X3 (zz46_k3 N) list5 = zz46_a3 list5 := by kernel_rfl
theorem zz46_in3 (N : Nat) (so1 : (Y1 × Unit)) (list5 : Y4) (t9 : Int) (t10 : Int) : zz46_R3 N N (zz46_K3 N) so1 list5 t9 t10 = zz46_F3 N so1 list5 t9 t10 :=
  have h : zz46_X3 (zz46_k3 N) = (zz46_a3) := (funext fun list5 => zz46_after3 N list5)
  ((iter_ex (fun st => by kernel_rfl) (fun st => by kernel_rfl)).trans (zz46_iter3 N (zz46_k3 N) (fun j st => (zz46_K3 N) (.exit j) st) N so1 list5 t9 t10)).trans (congrArg (fun k => zz46_l3 N k N so1 list5 t9 t10) h)
theorem run0_zz46 (N : Nat) (x : (S_zz46).a.den) : runF (A_zz46) N Try.f65 S_zz46 x = (zz46_s (zz46_R3 N N (zz46_K3 N)) x.1 x.2.1) := by kernel_rfl
theorem run_zz46 (N : Nat) (x : (S_zz46).a.den) : runF (A_zz46) N Try.f65 S_zz46 x = zz46 N x.1 x.2.1 := by
  refine (run0_zz46 N x).trans ?_
  rw [(funext fun so1 => (funext fun list5 => (funext fun t9 => (funext fun t10 => zz46_in3 N so1 list5 t9 t10))))]
  rfl
theorem fn_zz46 : FnOk Try.prog 65 := ⟨_, Try.func65, by kernel_rfl, by kernel_rfl⟩
theorem good_zz46 : Gx.Good Try.prog 65 S_zz46 := good_of_run Try.func65 (of_decide_eq_true (by kernel_rfl)) fun x r h => ⟨A_zz46, big, mkCfg_ok tabOk, mkCfg_sigs (show SigsOk Try.prog [(149, S_zz45)] from ⟨⟨fn_zz45, good_zz45⟩, trivial⟩), (run_zz46 big x).trans h⟩

/-! zz47 -/
def zz47_s (o_0 : Y5) (so_1 : (Y1 × Unit)) : Option (Bool × Unit) :=
  (zz46 big o_0 so_1).bind fun rq1 =>
  some (decide ((rq1.1.length : Int) = (0 : Int)), (()))
def zz47 (o_0 : Y5) (so_1 : (Y1 × Unit)) : Option (Bool × Unit) := zz47_s o_0 so_1
def S_zz47 : Sig := { a := (.pair (.sl (.sl .bool)) (.pair (.clo 149 0 (.pair (.ptr (.opt (.pair (.sl (.sl .bool)) (.pair (.sl (.sl I)) (.pair (.sl (.sl I)) .unit))))) .unit)) .unit)), md := [0, 0], mf := [], m := .unit, r := .bool, rf := .i, f := fun x => zz47 x.1 x.2.1 }
def A_zz47 : Cfg := mkCfg tab [(65, S_zz46)] []
theorem run_zz47 (N : Nat) (x : (S_zz47).a.den) : runF (A_zz47) N Try.f115 S_zz47 x = zz47 x.1 x.2.1 := by kernel_rfl
theorem fn_zz47 : FnOk Try.prog 115 := ⟨_, Try.func115, by kernel_rfl, by kernel_rfl⟩
theorem good_zz47 : Gx.Good Try.prog 115 S_zz47 := good_of_run Try.func115 (of_decide_eq_true (by kernel_rfl)) fun x r h => ⟨A_zz47, big, mkCfg_ok tabOk, mkCfg_sigs (show SigsOk Try.prog [(65, S_zz46)] from ⟨⟨fn_zz46, good_zz46⟩, trivial⟩), (run_zz47 big x).trans h⟩

/-! zz48 -/
def zz48_s (l_0 : Y1) : Option (Bool × Unit) :=
  (l_0).bind fun xq1 =>
  (zz47 xq1.1 (l_0, ())).bind fun rq2 =>
  some (rq2.1, (()))
def zz48 (l_0 : Y1) : Option (Bool × Unit) := zz48_s l_0
def S_zz48 : Sig := { a := (.pair (.opt (.pair (.sl (.sl .bool)) (.pair (.sl (.sl I)) (.pair (.sl (.sl I)) .unit)))) .unit), md := [0], mf := [], m := .unit, r := .bool, rf := .i, f := fun x => zz48 x.1 }
def A_zz48 : Cfg := mkCfg tab [(115, S_zz47)] [(3, [.drop, .as (.ptr (.opt (.pair (.sl (.sl .bool)) (.pair (.sl (.sl I)) (.pair (.sl (.sl I)) .unit))))) .i])]
theorem run_zz48 (N : Nat) (x : (S_zz48).a.den) : runF (A_zz48) N Try.f131 S_zz48 x = zz48 x.1 := by kernel_rfl
theorem fn_zz48 : FnOk Try.prog 131 := ⟨_, Try.func131, by kernel_rfl, by kernel_rfl⟩
theorem good_zz48 : Gx.Good Try.prog 131 S_zz48 := good_of_run Try.func131 (of_decide_eq_true (by kernel_rfl)) fun x r h => ⟨A_zz48, big, mkCfg_ok tabOk, mkCfg_sigs (show SigsOk Try.prog [(115, S_zz47)] from ⟨⟨fn_zz47, good_zz47⟩, trivial⟩), (run_zz48 big x).trans h⟩

/-! zz49 -/
def zz49_s (p_0 : Y2) : Option ((Y1 × (Bool × Unit)) × Unit) :=
  (zz38 p_0).bind fun rq1 =>
  cond rq1.1.2.1
  ((zz48 rq1.1.1).bind fun rq2 =>
  some ((rq1.1.1, rq2.1, ()), (())))
  (some ((rq1.1.1, false, ()), (())))
def zz49 (p_0 : Y2) : Option ((Y1 × (Bool × Unit)) × Unit) := zz49_s p_0
def S_zz49 : Sig := { a := (.pair (.pair (.sl (.sl I)) .unit) .unit), md := [0], mf := [], m := .unit, r := (.tup (.pair (.opt (.pair (.sl (.sl .bool)) (.pair (.sl (.sl I)) (.pair (.sl (.sl I)) .unit)))) (.pair .bool .unit))), rf := .i, f := fun x => zz49 x.1 }
def A_zz49 : Cfg := mkCfg tab [(130, S_zz38), (131, S_zz48)] []
theorem run_zz49 (N : Nat) (x : (S_zz49).a.den) : runF (A_zz49) N Try.f87 S_zz49 x = zz49 x.1 := by kernel_rfl
theorem fn_zz49 : FnOk Try.prog 87 := ⟨_, Try.func87, by kernel_rfl, by kernel_rfl⟩
theorem good_zz49 : Gx.Good Try.prog 87 S_zz49 := good_of_run Try.func87 (of_decide_eq_true (by kernel_rfl)) fun x r h => ⟨A_zz49, big, mkCfg_ok tabOk, mkCfg_sigs (show SigsOk Try.prog [(130, S_zz38), (131, S_zz48)] from ⟨⟨fn_zz38, good_zz38⟩, ⟨fn_zz48, good_zz48⟩, trivial⟩), (run_zz49 big x).trans h⟩

/-! zz50 -/
def zz50_b3 (rec : Y1 → Y4 → Int → Int → Option (Y4 × Unit)) (k : Y4 → Option (Y4 × Unit)) (l0 : Y1) (list3 : Y4) (t10 : Int) (t11 : Int) : Option (Y4 × Unit) :=
  cond (decide (t11 < t10))
  ((zz44 l0 t11).bind fun rq2 =>
  (atI rq2.1 (0 : Int)).bind fun _ =>
  (rq2.1[(0 : Int).toNat]?).bind fun xq3 =>
  (appI list3 [xq3]).bind fun xq4 =>
  rec l0 xq4 t10 (IntKind.i64.wrap (t11 + (1 : Int))))
  (k list3)
def zz50_a3 (list3 : Y4) : Option (Y4 × Unit) :=
  some (list3, (()))
def zz50_s (L3 : Y1 → Y4 → Int → Int → Option (Y4 × Unit)) (l_0 : Y1) : Option (Y4 × Unit) :=
  (l_0).bind fun xq1 =>
  L3 l_0 [] (xq1.1.length : Int) (0 : Int)
def zz50_l3 (N : Nat) (k : Y4 → Option (Y4 × Unit)) : Nat → Y1 → Y4 → Int → Int → Option (Y4 × Unit)
  | 0, _, _, _, _ => none
  | m + 1, l0, list3, t10, t11 => zz50_b3 (zz50_l3 N k m) k l0 list3 t10 t11
def zz50_F3 (N : Nat) (l0 : Y1) (list3 : Y4) (t10 : Int) (t11 : Int) : Option (Y4 × Unit) := zz50_l3 N (zz50_a3) N l0 list3 t10 t11
def zz50 (N : Nat) (l_0 : Y1) : Option (Y4 × Unit) := zz50_s (zz50_F3 N) l_0
def S_zz50 : Sig := { a := (.pair (.opt (.pair (.sl (.sl .bool)) (.pair (.sl (.sl I)) (.pair (.sl (.sl I)) .unit)))) .unit), md := [0], mf := [], m := .unit, r := (.sl I), rf := (.o .i), f := fun x => zz50 big x.1 }
def A_zz50 : Cfg := mkCfg tab [(114, S_zz44)] [(6, [.as (.opt (.pair (.sl (.sl .bool)) (.pair (.sl (.sl I)) (.pair (.sl (.sl I)) .unit)))) .i, .drop, .drop, .as (.sl I) (.o .i), .drop, .drop, .drop, .drop, .drop, .drop, .as I .i, .as I .i]), (15, [.drop, .drop, .drop, .as (.sl I) (.o .i)])]
noncomputable def zz50_R3 (N n : Nat) (K : Ex → St → Option (Y4 × Unit)) (l0 : Y1) (list3 : Y4) (t10 : Int) (t11 : Int) : Option (Y4 × Unit) := iter ((A_zz50).shape 6) (run (A_zz50) N (codeAt Try.f88 [1, 1, 0, 1, 0, 0])) n ([.val (.opt (.pair (.sl (.sl .bool)) (.pair (.sl (.sl I)) (.pair (.sl (.sl I)) .unit)))) .i l0, .u, .u, .val (.sl I) (.o .i) list3, .u, .u, .u, .u, .u, .u, .val I .i t10, .val I .i t11] ++ List.replicate 12 .u) K
noncomputable abbrev zz50_z : Ex → St → Option (Y4 × Unit) := finish (A_zz50) S_zz50 Try.f88.results.toList
noncomputable abbrev zz50_X3 (kX : St → Option (Y4 × Unit)) : Y4 → Option (Y4 × Unit) := fun (list3 : Y4) => kX ([.u, .u, .u, .val (.sl I) (.o .i) list3] ++ List.replicate 20 .u)
noncomputable abbrev zz50_E3 (kX : St → Option (Y4 × Unit)) (kO : Nat → St → Option (Y4 × Unit)) : Ex → St → Option (Y4 × Unit) := exK zz50_z 0 ((A_zz50).shape 15) kX kO
theorem zz50_step3 (N : Nat) (m : Nat) (kX : St → Option (Y4 × Unit)) (kO : Nat → St → Option (Y4 × Unit)) (l0 : Y1) (list3 : Y4) (t10 : Int) (t11 : Int) : zz50_R3 N (m + 1) (zz50_E3 kX kO) l0 list3 t10 t11 = zz50_b3 (zz50_R3 N m (zz50_E3 kX kO)) (zz50_X3 kX) l0 list3 t10 t11 := by kernel_rfl
theorem zz50_iter3 (N : Nat) (kX : St → Option (Y4 × Unit)) (kO : Nat → St → Option (Y4 × Unit)) : ∀ (n : Nat) (l0 : Y1) (list3 : Y4) (t10 : Int) (t11 : Int), zz50_R3 N n (zz50_E3 kX kO) l0 list3 t10 t11 = zz50_l3 N (zz50_X3 kX) n l0 list3 t10 t11
  | 0, _, _, _, _ => rfl
  | m + 1, l0, list3, t10, t11 => by
    have hrec : zz50_R3 N m (zz50_E3 kX kO) = (zz50_l3 N (zz50_X3 kX) m) := (funext fun l0 => (funext fun list3 => (funext fun t10 => (funext fun t11 => zz50_iter3 N kX kO m l0 list3 t10 t11))))
    refine (zz50_step3 N m kX kO l0 list3 t10 t11).trans ?_
    rw [hrec]
    rfl
noncomputable abbrev zz50_K3 (N : Nat) : Ex → St → Option (Y4 × Unit) := (blockK 0 (seqK ((A_zz50).shape 15) (run (A_zz50) N (codeAt Try.f88 [1, 1, 1])) zz50_z))
noncomputable abbrev zz50_k3 (N : Nat) : St → Option (Y4 × Unit) := fun st' => run (A_zz50) N (codeAt Try.f88 [1, 1, 1]) st' zz50_z
theorem zz50_after3 (N : Nat) (list3 : Y4) : zz50_X3 (zz50_k3 N) list3 = zz50_a3 list3 := by kernel_rfl
theorem zz50_in3 (N : Nat) (l0 : Y1) (list3 : Y4) (t10 : Int) (t11 : Int) : zz50_R3 N N (zz50_K3 N) l0 list3 t10 t11 = zz50_F3 N l0 list3 t10 t11 :=
  have h : zz50_X3 (zz50_k3 N) = (zz50_a3) := (funext fun list3 => zz50_after3 N list3)
  ((iter_ex (fun st => by kernel_rfl) (fun st => by kernel_rfl)).trans (zz50_iter3 N (zz50_k3 N) (fun j st => (zz50_K3 N) (.exit j) st) N l0 list3 t10 t11)).trans (congrArg (fun k => zz50_l3 N k N l0 list3 t10 t11) h)
theorem run0_zz50 (N : Nat) (x : (S_zz50).a.den) : runF (A_zz50) N Try.f88 S_zz50 x = (zz50_s (zz50_R3 N N (zz50_K3 N)) x.1) := by kernel_rfl
theorem run_zz50 (N : Nat) (x : (S_zz50).a.den) : runF (A_zz50) N Try.f88 S_zz50 x = zz50 N x.1 := by
  refine (run0_zz50 N x).trans ?_
  rw [(funext fun l0 => (funext fun list3 => (funext fun t10 => (funext fun t11 => zz50_in3 N l0 list3 t10 t11))))]
  rfl
theorem fn_zz50 : FnOk Try.prog 88 := ⟨_, Try.func88, by kernel_rfl, by kernel_rfl⟩
theorem good_zz50 : Gx.Good Try.prog 88 S_zz50 := good_of_run Try.func88 (of_decide_eq_true (by kernel_rfl)) fun x r h => ⟨A_zz50, big, mkCfg_ok tabOk, mkCfg_sigs (show SigsOk Try.prog [(114, S_zz44)] from ⟨⟨fn_zz44, good_zz44⟩, trivial⟩), (run_zz50 big x).trans h⟩

/-! zz51 -/
def zz51_s (p_0 : Y2) : Option ((Y4 × (Bool × Unit)) × Unit) :=
  (zz49 p_0).bind fun rq1 =>
  cond (!rq1.1.2.1)
  (some (([], false, ()), (())))
  ((zz50 big rq1.1.1).bind fun rq2 =>
  some ((rq2.1, true, ()), (())))
def zz51 (p_0 : Y2) : Option ((Y4 × (Bool × Unit)) × Unit) := zz51_s p_0
def S_zz51 : Sig := { a := (.pair (.pair (.sl (.sl I)) .unit) .unit), md := [0], mf := [], m := .unit, r := (.tup (.pair (.sl I) (.pair .bool .unit))), rf := (.p (.o .i) .i), f := fun x => zz51 x.1 }
def A_zz51 : Cfg := mkCfg tab [(87, S_zz49), (88, S_zz50)] []
theorem run_zz51 (N : Nat) (x : (S_zz51).a.den) : runF (A_zz51) N Try.f39 S_zz51 x = zz51 x.1 := by kernel_rfl
theorem fn_zz51 : FnOk Try.prog 39 := ⟨_, Try.func39, by kernel_rfl, by kernel_rfl⟩
theorem good_zz51 : Gx.Good Try.prog 39 S_zz51 := good_of_run Try.func39 (of_decide_eq_true (by kernel_rfl)) fun x r h => ⟨A_zz51, big, mkCfg_ok tabOk, mkCfg_sigs (show SigsOk Try.prog [(87, S_zz49), (88, S_zz50)] from ⟨⟨fn_zz49, good_zz49⟩, ⟨fn_zz50, good_zz50⟩, trivial⟩), (run_zz51 big x).trans h⟩

/-! zz52 -/
def zz52_b4 (rec : Y4 → Y4 → Int → Option (Bool × Unit)) (k : Option (Bool × Unit)) (a0 : Y4) (b1 : Y4) (i5 : Int) : Option (Bool × Unit) :=
  cond (decide (i5 < (a0.length : Int)))
  ((atI a0 i5).bind fun xq1 =>
  (atI b1 i5).bind fun xq2 =>
  cond (decide (xq1 ≠ xq2))
  (some (false, (())))
  (rec a0 b1 (IntKind.i64.wrap (i5 + (1 : Int)))))
  (k)
def zz52_a4 : Option (Bool × Unit) :=
  some (true, (()))
def zz52_s (L4 : Y4 → Y4 → Int → Option (Bool × Unit)) (a_0 : Y4) (b_1 : Y4) : Option (Bool × Unit) :=
  cond (decide ((a_0.length : Int) ≠ (b_1.length : Int)))
  (some (false, (())))
  (L4 a_0 b_1 (0 : Int))
def zz52_l4 (N : Nat) (k : Option (Bool × Unit)) : Nat → Y4 → Y4 → Int → Option (Bool × Unit)
  | 0, _, _, _ => none
  | m + 1, a0, b1, i5 => zz52_b4 (zz52_l4 N k m) k a0 b1 i5
def zz52_F4 (N : Nat) (a0 : Y4) (b1 : Y4) (i5 : Int) : Option (Bool × Unit) := zz52_l4 N (zz52_a4) N a0 b1 i5
def zz52 (N : Nat) (a_0 : Y4) (b_1 : Y4) : Option (Bool × Unit) := zz52_s (zz52_F4 N) a_0 b_1
def S_zz52 : Sig := { a := (.pair (.sl I) (.pair (.sl I) .unit)), md := [0, 0], mf := [], m := .unit, r := .bool, rf := .i, f := fun x => zz52 big x.1 x.2.1 }
def A_zz52 : Cfg := mkCfg tab [] [(8, [.as (.sl I) .i, .as (.sl I) .i, .drop, .drop, .drop, .as I .i]), (17, [])]
noncomputable def zz52_R4 (N n : Nat) (K : Ex → St → Option (Bool × Unit)) (a0 : Y4) (b1 : Y4) (i5 : Int) : Option (Bool × Unit) := iter ((A_zz52).shape 8) (run (A_zz52) N (codeAt Try.f19 [1, 1, 0, 1, 0, 0])) n ([.val (.sl I) .i a0, .val (.sl I) .i b1, .u, .u, .u, .val I .i i5] ++ List.replicate 20 .u) K
noncomputable abbrev zz52_z : Ex → St → Option (Bool × Unit) := finish (A_zz52) S_zz52 Try.f19.results.toList
noncomputable abbrev zz52_X4 (kX : St → Option (Bool × Unit)) : Option (Bool × Unit) := kX ([] ++ List.replicate 26 .u)
noncomputable abbrev zz52_E4 (kX : St → Option (Bool × Unit)) (kO : Nat → St → Option (Bool × Unit)) : Ex → St → Option (Bool × Unit) := exK zz52_z 0 ((A_zz52).shape 17) kX kO
theorem zz52_step4 (N : Nat) (m : Nat) (kX : St → Option (Bool × Unit)) (kO : Nat → St → Option (Bool × Unit)) (a0 : Y4) (b1 : Y4) (i5 : Int) : zz52_R4 N (m + 1) (zz52_E4 kX kO) a0 b1 i5 = zz52_b4 (zz52_R4 N m (zz52_E4 kX kO)) (zz52_X4 kX) a0 b1 i5 := by kernel_rfl
theorem zz52_iter4 (N : Nat) (kX : St → Option (Bool × Unit)) (kO : Nat → St → Option (Bool × Unit)) : ∀ (n : Nat) (a0 : Y4) (b1 : Y4) (i5 : Int), zz52_R4 N n (zz52_E4 kX kO) a0 b1 i5 = zz52_l4 N (zz52_X4 kX) n a0 b1 i5
  | 0, _, _, _ => rfl
  | m + 1, a0, b1, i5 => by
    have hrec : zz52_R4 N m (zz52_E4 kX kO) = (zz52_l4 N (zz52_X4 kX) m) := (funext fun a0 => (funext fun b1 => (funext fun i5 => zz52_iter4 N kX kO m a0 b1 i5)))
    refine (zz52_step4 N m kX kO a0 b1 i5).trans ?_
    rw [hrec]
    rfl
noncomputable abbrev zz52_K4 (N : Nat) : Ex → St → Option (Bool × Unit) := (blockK 0 (seqK ((A_zz52).shape 17) (run (A_zz52) N (codeAt Try.f19 [1, 1, 1])) zz52_z))
noncomputable abbrev zz52_k4 (N : Nat) : St → Option (Bool × Unit) := fun st' => run (A_zz52) N (codeAt Try.f19 [1, 1, 1]) st' zz52_z
theorem zz52_after4 (N : Nat) : zz52_X4 (zz52_k4 N) = zz52_a4 := by kernel_rfl
theorem zz52_in4 (N : Nat) (a0 : Y4) (b1 : Y4) (i5 : Int) : zz52_R4 N N (zz52_K4 N) a0 b1 i5 = zz52_F4 N a0 b1 i5 :=
  have h : zz52_X4 (zz52_k4 N) = (zz52_a4) := zz52_after4 N
  ((iter_ex (fun st => by kernel_rfl) (fun st => by kernel_rfl)).trans (zz52_iter4 N (zz52_k4 N) (fun j st => (zz52_K4 N) (.exit j) st) N a0 b1 i5)).trans (congrArg (fun k => zz52_l4 N k N a0 b1 i5) h)
theorem run0_zz52 (N : Nat) (x : (S_zz52).a.den) : runF (A_zz52) N Try.f19 S_zz52 x = (zz52_s (zz52_R4 N N (zz52_K4 N)) x.1 x.2.1) := by kernel_rfl
theorem run_zz52 (N : Nat) (x : (S_zz52).a.den) : runF (A_zz52) N Try.f19 S_zz52 x = zz52 N x.1 x.2.1 := by
  refine (run0_zz52 N x).trans ?_
  rw [(funext fun a0 => (funext fun b1 => (funext fun i5 => zz52_in4 N a0 b1 i5)))]
  rfl
theorem fn_zz52 : FnOk Try.prog 19 := ⟨_, Try.func19, by kernel_rfl, by kernel_rfl⟩
theorem good_zz52 : Gx.Good Try.prog 19 S_zz52 := good_of_run Try.func19 (of_decide_eq_true (by kernel_rfl)) fun x r h => ⟨A_zz52, big, mkCfg_ok tabOk, mkCfg_sigs (show SigsOk Try.prog [] from trivial), (run_zz52 big x).trans h⟩

/-! zz53 -/
def zz53_b4 (rec : Y3 → Y3 → Int → Option (Bool × Unit)) (k : Option (Bool × Unit)) (a0 : Y3) (b1 : Y3) (i5 : Int) : Option (Bool × Unit) :=
  cond (decide (i5 < (a0.length : Int)))
  ((atI a0 i5).bind fun xq1 =>
  (atI b1 i5).bind fun xq2 =>
  (zz52 big xq1 xq2).bind fun rq3 =>
  cond (!rq3.1)
  (some (false, (())))
  (rec a0 b1 (IntKind.i64.wrap (i5 + (1 : Int)))))
  (k)
def zz53_a4 : Option (Bool × Unit) :=
  some (true, (()))
def zz53_s (L4 : Y3 → Y3 → Int → Option (Bool × Unit)) (a_0 : Y3) (b_1 : Y3) : Option (Bool × Unit) :=
  cond (decide ((a_0.length : Int) ≠ (b_1.length : Int)))
  (some (false, (())))
  (L4 a_0 b_1 (0 : Int))
def zz53_l4 (N : Nat) (k : Option (Bool × Unit)) : Nat → Y3 → Y3 → Int → Option (Bool × Unit)
  | 0, _, _, _ => none
  | m + 1, a0, b1, i5 => zz53_b4 (zz53_l4 N k m) k a0 b1 i5
def zz53_F4 (N : Nat) (a0 : Y3) (b1 : Y3) (i5 : Int) : Option (Bool × Unit) := zz53_l4 N (zz53_a4) N a0 b1 i5
def zz53 (N : Nat) (a_0 : Y3) (b_1 : Y3) : Option (Bool × Unit) := zz53_s (zz53_F4 N) a_0 b_1
def S_zz53 : Sig := { a := (.pair (.sl (.sl I)) (.pair (.sl (.sl I)) .unit)), md := [0, 0], mf := [], m := .unit, r := .bool, rf := .i, f := fun x => zz53 big x.1 x.2.1 }
def A_zz53 : Cfg := mkCfg tab [(19, S_zz52)] [(8, [.as (.sl (.sl I)) .i, .as (.sl (.sl I)) .i, .drop, .drop, .drop, .as I .i]), (17, [])]
noncomputable def zz53_R4 (N n : Nat) (K : Ex → St → Option (Bool × Unit)) (a0 : Y3) (b1 : Y3) (i5 : Int) : Option (Bool × Unit) := iter ((A_zz53).shape 8) (run (A_zz53) N (codeAt Try.f26 [1, 1, 0, 1, 0, 0])) n ([.val (.sl (.sl I)) .i a0, .val (.sl (.sl I)) .i b1, .u, .u, .u, .val I .i i5] ++ List.replicate 21 .u) K
noncomputable abbrev zz53_z : Ex → St → Option (Bool × Unit) := finish (A_zz53) S_zz53 Try.f26.results.toList
noncomputable abbrev zz53_X4 (kX : St → Option (Bool × Unit)) : Option (Bool × Unit) := kX ([] ++ List.replicate 27 .u)
noncomputable abbrev zz53_E4 (kX : St → Option (Bool × Unit)) (kO : Nat → St → Option (Bool × Unit)) : Ex → St → Option (Bool × Unit) := exK zz53_z 0 ((A_zz53).shape 17) kX kO
theorem zz53_step4 (N : Nat) (m : Nat) (kX : St → Option (Bool × Unit)) (kO : Nat → St → Option (Bool × Unit)) (a0 : Y3) (b1 : Y3) (i5 : Int) : zz53_R4 N (m + 1) (zz53_E4 kX kO) a0 b1 i5 = zz53_b4 (zz53_R4 N m (zz53_E4 kX kO)) (zz53_X4 kX) a0 b1 i5 := by kernel_rfl
theorem zz53_iter4 (N : Nat) (kX : St → Option (Bool × Unit)) (kO : Nat → St → Option (Bool × Unit)) : ∀ (n : Nat) (a0 : Y3) (b1 : Y3) (i5 : Int), zz53_R4 N n (zz53_E4 kX kO) a0 b1 i5 = zz53_l4 N (zz53_X4 kX) n a0 b1 i5
  | 0, _, _, _ => rfl
  | m + 1, a0, b1, i5 => by
    have hrec : zz53_R4 N m (zz53_E4 kX kO) = (zz53_l4 N (zz53_X4 kX) m) := (funext fun a0 => (funext fun b1 => (funext fun i5 => zz53_iter4 N kX kO m a0 b1 i5)))
    refine (zz53_step4 N m kX kO a0 b1 i5).trans ?_
    rw [hrec]
    rfl
noncomputable abbrev zz53_K4 (N : Nat) : Ex → St → Option (Bool × Unit) := (blockK 0 (seqK ((A_zz53).shape 17) (run (A_zz53) N (codeAt Try.f26 [1, 1, 1])) zz53_z))
noncomputable abbrev zz53_k4 (N : Nat) : St → Option (Bool × Unit) := fun st' => run (A_zz53) N (codeAt Try.f26 [1, 1, 1]) st' zz53_z
theorem zz53_after4 (N : Nat) : zz53_X4 (zz53_k4 N) = zz53_a4 := by kernel_rfl
theorem zz53_in4 (N : Nat) (a0 : Y3) (b1 : Y3) (i5 : Int) : zz53_R4 N N (zz53_K4 N) a0 b1 i5 = zz53_F4 N a0 b1 i5 :=
  have h : zz53_X4 (zz53_k4 N) = (zz53_a4) := zz53_after4 N
  ((iter_ex (fun st => by kernel_rfl) (fun st => by kernel_rfl)).trans (zz53_iter4 N (zz53_k4 N) (fun j st => (zz53_K4 N) (.exit j) st) N a0 b1 i5)).trans (congrArg (fun k => zz53_l4 N k N a0 b1 i5) h)
theorem run0_zz53 (N : Nat) (x : (S_zz53).a.den) : runF (A_zz53) N Try.f26 S_zz53 x = (zz53_s (zz53_R4 N N (zz53_K4 N)) x.1 x.2.1) := by kernel_rfl
theorem run_zz53 (N : Nat) (x : (S_zz53).a.den) : runF (A_zz53) N Try.f26 S_zz53 x = zz53 N x.1 x.2.1 := by
  refine (run0_zz53 N x).trans ?_
  rw [(funext fun a0 => (funext fun b1 => (funext fun i5 => zz53_in4 N a0 b1 i5)))]
  rfl
theorem fn_zz53 : FnOk Try.prog 26 := ⟨_, Try.func26, by kernel_rfl, by kernel_rfl⟩
theorem good_zz53 : Gx.Good Try.prog 26 S_zz53 := good_of_run Try.func26 (of_decide_eq_true (by kernel_rfl)) fun x r h => ⟨A_zz53, big, mkCfg_ok tabOk, mkCfg_sigs (show SigsOk Try.prog [(19, S_zz52)] from ⟨⟨fn_zz52, good_zz52⟩, trivial⟩), (run_zz53 big x).trans h⟩

/-! zz54 -/
def zz54_s (a_0 : Y2) (b_1 : Y2) : Option (Bool × Unit) :=
  (zz53 big a_0.1 b_1.1).bind fun rq1 =>
  cond (!rq1.1)
  (some (false, (())))
  (some (true, (())))
def zz54 (a_0 : Y2) (b_1 : Y2) : Option (Bool × Unit) := zz54_s a_0 b_1
def S_zz54 : Sig := { a := (.pair (.pair (.sl (.sl I)) .unit) (.pair (.pair (.sl (.sl I)) .unit) .unit)), md := [0, 0], mf := [], m := .unit, r := .bool, rf := .i, f := fun x => zz54 x.1 x.2.1 }
def A_zz54 : Cfg := mkCfg tab [(26, S_zz53)] []
theorem run_zz54 (N : Nat) (x : (S_zz54).a.den) : runF (A_zz54) N Try.f20 S_zz54 x = zz54 x.1 x.2.1 := by kernel_rfl
theorem fn_zz54 : FnOk Try.prog 20 := ⟨_, Try.func20, by kernel_rfl, by kernel_rfl⟩
theorem good_zz54 : Gx.Good Try.prog 20 S_zz54 := good_of_run Try.func20 (of_decide_eq_true (by kernel_rfl)) fun x r h => ⟨A_zz54, big, mkCfg_ok tabOk, mkCfg_sigs (show SigsOk Try.prog [(26, S_zz53)] from ⟨⟨fn_zz53, good_zz53⟩, trivial⟩), (run_zz54 big x).trans h⟩

/-! zz55 -/
def zz55_b2 (rec : Y4 → Int → Int → Option Y6) (k : Y4 → Int → Option Y6) (a0 : Y4) (k1 : Int) (i5 : Int) : Option Y6 :=
  cond (decide (i5 < (a0.length : Int)))
  ((atI a0 i5).bind fun _ =>
  (a0[i5.toNat]?).bind fun xq1 =>
  rec (a0.set i5.toNat k1) (IntKind.i64.wrap (k1 + (1 : Int))) (IntKind.i64.wrap (i5 + (1 : Int))))
  (k a0 k1)
def zz55_a2 (a0 : Y4) (k1 : Int) : Option Y6 :=
  some (k1, (a0, ()))
def zz55_s (L2 : Y4 → Int → Int → Option Y6) (a_0 : Y4) (k_1 : Int) : Option Y6 :=
  L2 a_0 k_1 (0 : Int)
def zz55_l2 (N : Nat) (k : Y4 → Int → Option Y6) : Nat → Y4 → Int → Int → Option Y6
  | 0, _, _, _ => none
  | m + 1, a0, k1, i5 => zz55_b2 (zz55_l2 N k m) k a0 k1 i5
def zz55_F2 (N : Nat) (a0 : Y4) (k1 : Int) (i5 : Int) : Option Y6 := zz55_l2 N (zz55_a2) N a0 k1 i5
def zz55 (N : Nat) (a_0 : Y4) (k_1 : Int) : Option Y6 := zz55_s (zz55_F2 N) a_0 k_1
def S_zz55 : Sig := { a := (.pair (.sl I) (.pair I .unit)), md := [1, 0], mf := [(.o .i)], m := (.pair (.sl I) .unit), r := I, rf := .i, f := fun x => zz55 big x.1 x.2.1 }
def A_zz55 : Cfg := mkCfg tab [] [(4, [.as (.sl I) (.o .i), .as I .i, .drop, .drop, .drop, .as I .i]), (13, [.as (.sl I) (.o .i), .as I .i])]
noncomputable def zz55_R2 (N n : Nat) (K : Ex → St → Option Y6) (a0 : Y4) (k1 : Int) (i5 : Int) : Option Y6 := iter ((A_zz55).shape 4) (run (A_zz55) N (codeAt Try.f22 [1, 0, 1, 0, 0])) n ([.val (.sl I) (.o .i) a0, .val I .i k1, .u, .u, .u, .val I .i i5] ++ List.replicate 13 .u) K
noncomputable abbrev zz55_z : Ex → St → Option Y6 := finish (A_zz55) S_zz55 Try.f22.results.toList
noncomputable abbrev zz55_X2 (kX : St → Option Y6) : Y4 → Int → Option Y6 := fun (a0 : Y4) (k1 : Int) => kX ([.val (.sl I) (.o .i) a0, .val I .i k1] ++ List.replicate 17 .u)
noncomputable abbrev zz55_E2 (kX : St → Option Y6) (kO : Nat → St → Option Y6) : Ex → St → Option Y6 := exK zz55_z 0 ((A_zz55).shape 13) kX kO
theorem zz55_step2 (N : Nat) (m : Nat) (kX : St → Option Y6) (kO : Nat → St → Option Y6) (a0 : Y4) (k1 : Int) (i5 : Int) : zz55_R2 N (m + 1) (zz55_E2 kX kO) a0 k1 i5 = zz55_b2 (zz55_R2 N m (zz55_E2 kX kO)) (zz55_X2 kX) a0 k1 i5 := by kernel_rfl
theorem zz55_iter2 (N : Nat) (kX : St → Option Y6) (kO : Nat → St → Option Y6) : ∀ (n : Nat) (a0 : Y4) (k1 : Int) (i5 : Int), zz55_R2 N n (zz55_E2 kX kO) a0 k1 i5 = zz55_l2 N (zz55_X2 kX) n a0 k1 i5
  | 0, _, _, _ => rfl
  | m + 1, a0, k1, i5 => by
    have hrec : zz55_R2 N m (zz55_E2 kX kO) = (zz55_l2 N (zz55_X2 kX) m) := (funext fun a0 => (funext fun k1 => (funext fun i5 => zz55_iter2 N kX kO m a0 k1 i5)))
    refine (zz55_step2 N m kX kO a0 k1 i5).trans ?_
    rw [hrec]
    rfl
noncomputable abbrev zz55_K2 (N : Nat) : Ex → St → Option Y6 := (blockK 0 (seqK ((A_zz55).shape 13) (run (A_zz55) N (codeAt Try.f22 [1, 1])) zz55_z))
noncomputable abbrev zz55_k2 (N : Nat) : St → Option Y6 := fun st' => run (A_zz55) N (codeAt Try.f22 [1, 1]) st' zz55_z
theorem zz55_after2 (N : Nat) (a0 : Y4) (k1 : Int) : zz55_X2 (zz55_k2 N) a0 k1 = zz55_a2 a0 k1 := by kernel_rfl
theorem zz55_in2 (N : Nat) (a0 : Y4) (k1 : Int) (i5 : Int) : zz55_R2 N N (zz55_K2 N) a0 k1 i5 = zz55_F2 N a0 k1 i5 :=
  have h : zz55_X2 (zz55_k2 N) = (zz55_a2) := (funext fun a0 => (funext fun k1 => zz55_after2 N a0 k1))
  ((iter_ex (fun st => by kernel_rfl) (fun st => by kernel_rfl)).trans (zz55_iter2 N (zz55_k2 N) (fun j st => (zz55_K2 N) (.exit j) st) N a0 k1 i5)).trans (congrArg (fun k => zz55_l2 N k N a0 k1 i5) h)
theorem run0_zz55 (N : Nat) (x : (S_zz55).a.den) : runF (A_zz55) N Try.f22 S_zz55 x = (zz55_s (zz55_R2 N N (zz55_K2 N)) x.1 x.2.1) := by kernel_rfl
theorem run_zz55 (N : Nat) (x : (S_zz55).a.den) : runF (A_zz55) N Try.f22 S_zz55 x = zz55 N x.1 x.2.1 := by
  refine (run0_zz55 N x).trans ?_
  rw [(funext fun a0 => (funext fun k1 => (funext fun i5 => zz55_in2 N a0 k1 i5)))]
  rfl
theorem fn_zz55 : FnOk Try.prog 22 := ⟨_, Try.func22, by kernel_rfl, by kernel_rfl⟩
theorem good_zz55 : Gx.Good Try.prog 22 S_zz55 := good_of_run Try.func22 (of_decide_eq_true (by kernel_rfl)) fun x r h => ⟨A_zz55, big, mkCfg_ok tabOk, mkCfg_sigs (show SigsOk Try.prog [] from trivial), (run_zz55 big x).trans h⟩

/-! zz56 -/
def zz56_b2 (rec : Y3 → Int → Int → Option (Int × Y2)) (k : Y3 → Int → Option (Int × Y2)) (a0 : Y3) (k1 : Int) (i5 : Int) : Option (Int × Y2) :=
  cond (decide (i5 < (a0.length : Int)))
  ((atI a0 i5).bind fun _ =>
  (a0[i5.toNat]?).bind fun xq1 =>
  (a0[i5.toNat]?).bind fun xq2 =>
  (zz55 big xq2 k1).bind fun rq3 =>
  (a0[i5.toNat]?).bind fun xq4 =>
  (a0[i5.toNat]?).bind fun xq5 =>
  rec (a0.set i5.toNat rq3.2.1) rq3.1 (IntKind.i64.wrap (i5 + (1 : Int))))
  (k a0 k1)
def zz56_a2 (a0 : Y3) (k1 : Int) : Option (Int × Y2) :=
  some (k1, (a0, ()))
def zz56_s (L2 : Y3 → Int → Int → Option (Int × Y2)) (a_0 : Y3) (k_1 : Int) : Option (Int × Y2) :=
  L2 a_0 k_1 (0 : Int)
def zz56_l2 (N : Nat) (k : Y3 → Int → Option (Int × Y2)) : Nat → Y3 → Int → Int → Option (Int × Y2)
  | 0, _, _, _ => none
  | m + 1, a0, k1, i5 => zz56_b2 (zz56_l2 N k m) k a0 k1 i5
def zz56_F2 (N : Nat) (a0 : Y3) (k1 : Int) (i5 : Int) : Option (Int × Y2) := zz56_l2 N (zz56_a2) N a0 k1 i5
def zz56 (N : Nat) (a_0 : Y3) (k_1 : Int) : Option (Int × Y2) := zz56_s (zz56_F2 N) a_0 k_1
def S_zz56 : Sig := { a := (.pair (.sl (.sl I)) (.pair I .unit)), md := [1, 0], mf := [(.o (.o .i))], m := (.pair (.sl (.sl I)) .unit), r := I, rf := .i, f := fun x => zz56 big x.1 x.2.1 }
def A_zz56 : Cfg := mkCfg tab [(22, S_zz55)] [(4, [.as (.sl (.sl I)) (.o (.o .i)), .as I .i, .drop, .drop, .drop, .as I .i]), (11, [.as (.sl (.sl I)) (.o (.o .i)), .as I .i])]
noncomputable def zz56_R2 (N n : Nat) (K : Ex → St → Option (Int × Y2)) (a0 : Y3) (k1 : Int) (i5 : Int) : Option (Int × Y2) := iter ((A_zz56).shape 4) (run (A_zz56) N (codeAt Try.f27 [1, 0, 1, 0, 0])) n ([.val (.sl (.sl I)) (.o (.o .i)) a0, .val I .i k1, .u, .u, .u, .val I .i i5] ++ List.replicate 13 .u) K
noncomputable abbrev zz56_z : Ex → St → Option (Int × Y2) := finish (A_zz56) S_zz56 Try.f27.results.toList
noncomputable abbrev zz56_X2 (kX : St → Option (Int × Y2)) : Y3 → Int → Option (Int × Y2) := fun (a0 : Y3) (k1 : Int) => kX ([.val (.sl (.sl I)) (.o (.o .i)) a0, .val I .i k1] ++ List.replicate 17 .u)
noncomputable abbrev zz56_E2 (kX : St → Option (Int × Y2)) (kO : Nat → St → Option (Int × Y2)) : Ex → St → Option (Int × Y2) := exK zz56_z 0 ((A_zz56).shape 11) kX kO
theorem zz56_step2 (N : Nat) (m : Nat) (kX : St → Option (Int × Y2)) (kO : Nat → St → Option (Int × Y2)) (a0 : Y3) (k1 : Int) (i5 : Int) : zz56_R2 N (m + 1) (zz56_E2 kX kO) a0 k1 i5 = zz56_b2 (zz56_R2 N m (zz56_E2 kX kO)) (zz56_X2 kX) a0 k1 i5 := by kernel_rfl
theorem zz56_iter2 (N : Nat) (kX : St → Option (Int × Y2)) (kO : Nat → St → Option (Int × Y2)) : ∀ (n : Nat) (a0 : Y3) (k1 : Int) (i5 : Int), zz56_R2 N n (zz56_E2 kX kO) a0 k1 i5 = zz56_l2 N (zz56_X2 kX) n a0 k1 i5
  | 0, _, _, _ => rfl
  | m + 1, a0, k1, i5 => by
    have hrec : zz56_R2 N m (zz56_E2 kX kO) = (zz56_l2 N (zz56_X2 kX) m) := (funext fun a0 => (funext fun k1 => (funext fun i5 => zz56_iter2 N kX kO m a0 k1 i5)))
    refine (zz56_step2 N m kX kO a0 k1 i5).trans ?_
    rw [hrec]
    rfl
noncomputable abbrev zz56_K2 (N : Nat) : Ex → St → Option (Int × Y2) := (blockK 0 (seqK ((A_zz56).shape 11) (run (A_zz56) N (codeAt Try.f27 [1, 1])) zz56_z))
noncomputable abbrev zz56_k2 (N : Nat) : St → Option (Int × Y2) := fun st' => run (A_zz56) N (codeAt Try.f27 [1, 1]) st' zz56_z
theorem zz56_after2 (N : Nat) (a0 : Y3) (k1 : Int) : zz56_X2 (zz56_k2 N) a0 k1 = zz56_a2 a0 k1 := by kernel_rfl
theorem zz56_in2 (N : Nat) (a0 : Y3) (k1 : Int) (i5 : Int) : zz56_R2 N N (zz56_K2 N) a0 k1 i5 = zz56_F2 N a0 k1 i5 :=
  have h : zz56_X2 (zz56_k2 N) = (zz56_a2) := (funext fun a0 => (funext fun k1 => zz56_after2 N a0 k1))
  ((iter_ex (fun st => by kernel_rfl) (fun st => by kernel_rfl)).trans (zz56_iter2 N (zz56_k2 N) (fun j st => (zz56_K2 N) (.exit j) st) N a0 k1 i5)).trans (congrArg (fun k => zz56_l2 N k N a0 k1 i5) h)
theorem run0_zz56 (N : Nat) (x : (S_zz56).a.den) : runF (A_zz56) N Try.f27 S_zz56 x = (zz56_s (zz56_R2 N N (zz56_K2 N)) x.1 x.2.1) := by kernel_rfl
theorem run_zz56 (N : Nat) (x : (S_zz56).a.den) : runF (A_zz56) N Try.f27 S_zz56 x = zz56 N x.1 x.2.1 := by
  refine (run0_zz56 N x).trans ?_
  rw [(funext fun a0 => (funext fun k1 => (funext fun i5 => zz56_in2 N a0 k1 i5)))]
  rfl
theorem fn_zz56 : FnOk Try.prog 27 := ⟨_, Try.func27, by kernel_rfl, by kernel_rfl⟩
theorem good_zz56 : Gx.Good Try.prog 27 S_zz56 := good_of_run Try.func27 (of_decide_eq_true (by kernel_rfl)) fun x r h => ⟨A_zz56, big, mkCfg_ok tabOk, mkCfg_sigs (show SigsOk Try.prog [(22, S_zz55)] from ⟨⟨fn_zz55, good_zz55⟩, trivial⟩), (run_zz56 big x).trans h⟩

/-! zz57 -/
def zz57 (a_0 : Y2) (k_1 : Int) : Option (Int × (Y2 × Unit)) := (zz56 big a_0.1 k_1).bind fun r => some (r.1, ((r.2.1, ()), ()))
def S_zz57 : Sig := { a := (.pair (.pair (.sl (.sl I)) .unit) (.pair I .unit)), md := [1, 0], mf := [(.p (.o (.o .i)) .i)], m := (.pair (.pair (.sl (.sl I)) .unit) .unit), r := I, rf := .i, f := fun x => zz57 x.1 x.2.1 }
theorem fn_zz57 : FnOk Try.prog 21 := ⟨_, Try.func21, by kernel_rfl, by kernel_rfl⟩
theorem good_zz57 : Gx.Good Try.prog 21 S_zz57   := good_bx1 (A := mkCfg tab [] []) (T := 29) (TS := 22) (mkCfg_ok tabOk) Try.func21 (by kernel_rfl) (by kernel_rfl) fn_zz56 (by kernel_rfl) (by kernel_rfl) good_zz56

/-! zz58 -/
def zz58_b2 (rec : Y4 → Int → Int → Option (Int × Unit)) (k : Int → Option (Int × Unit)) (a0 : Y4) (k1 : Int) (i5 : Int) : Option (Int × Unit) :=
  cond (decide (i5 < (a0.length : Int)))
  ((atI a0 i5).bind fun xq1 =>
  cond (decide (xq1 ≠ k1))
  (some ((-1 : Int), (())))
  (rec a0 (IntKind.i64.wrap (k1 + (1 : Int))) (IntKind.i64.wrap (i5 + (1 : Int)))))
  (k k1)
def zz58_a2 (k1 : Int) : Option (Int × Unit) :=
  some (k1, (()))
def zz58_s (L2 : Y4 → Int → Int → Option (Int × Unit)) (a_0 : Y4) (k_1 : Int) : Option (Int × Unit) :=
  L2 a_0 k_1 (0 : Int)
def zz58_l2 (N : Nat) (k : Int → Option (Int × Unit)) : Nat → Y4 → Int → Int → Option (Int × Unit)
  | 0, _, _, _ => none
  | m + 1, a0, k1, i5 => zz58_b2 (zz58_l2 N k m) k a0 k1 i5
def zz58_F2 (N : Nat) (a0 : Y4) (k1 : Int) (i5 : Int) : Option (Int × Unit) := zz58_l2 N (zz58_a2) N a0 k1 i5
def zz58 (N : Nat) (a_0 : Y4) (k_1 : Int) : Option (Int × Unit) := zz58_s (zz58_F2 N) a_0 k_1
def S_zz58 : Sig := { a := (.pair (.sl I) (.pair I .unit)), md := [0, 0], mf := [], m := .unit, r := I, rf := .i, f := fun x => zz58 big x.1 x.2.1 }
def A_zz58 : Cfg := mkCfg tab [] [(4, [.as (.sl I) .i, .as I .i, .drop, .drop, .drop, .as I .i]), (15, [.drop, .as I .i])]
noncomputable def zz58_R2 (N n : Nat) (K : Ex → St → Option (Int × Unit)) (a0 : Y4) (k1 : Int) (i5 : Int) : Option (Int × Unit) := iter ((A_zz58).shape 4) (run (A_zz58) N (codeAt Try.f23 [1, 0, 1, 0, 0])) n ([.val (.sl I) .i a0, .val I .i k1, .u, .u, .u, .val I .i i5] ++ List.replicate 15 .u) K
noncomputable abbrev zz58_z : Ex → St → Option (Int × Unit) := finish (A_zz58) S_zz58 Try.f23.results.toList
noncomputable abbrev zz58_X2 (kX : St → Option (Int × Unit)) : Int → Option (Int × Unit) := fun (k1 : Int) => kX ([.u, .val I .i k1] ++ List.replicate 19 .u)
noncomputable abbrev zz58_E2 (kX : St → Option (Int × Unit)) (kO : Nat → St → Option (Int × Unit)) : Ex → St → Option (Int × Unit) := exK zz58_z 0 ((A_zz58).shape 15) kX kO
theorem zz58_step2 (N : Nat) (m : Nat) (kX : St → Option (Int × Unit)) (kO : Nat → St → Option (Int × Unit)) (a0 : Y4) (k1 : Int) (i5 : Int) : zz58_R2 N (m + 1) (zz58_E2 kX kO) a0 k1 i5 = zz58_b2 (zz58_R2 N m (zz58_E2 kX kO)) (zz58_X2 kX) a0 k1 i5 := by kernel_rfl
theorem zz58_iter2 (N : Nat) (kX : St → Option (Int × Unit)) (kO : Nat → St → Option (Int × Unit)) : ∀ (n : Nat) (a0 : Y4) (k1 : Int) (i5 : Int), zz58_R2 N n (zz58_E2 kX kO) a0 k1 i5 = zz58_l2 N (zz58_X2 kX) n a0 k1 i5
  | 0, _, _, _ => rfl
  | m + 1, a0, k1, i5 => by
    have hrec : zz58_R2 N m (zz58_E2 kX kO) = (zz58_l2 N (zz58_X2 kX) m) := (funext fun a0 => (funext fun k1 => (funext fun i5 => zz58_iter2 N kX kO m a0 k1 i5)))
    refine (zz58_step2 N m kX kO a0 k1 i5).trans ?_
    rw [hrec]
    rfl
noncomputable abbrev zz58_K2 (N : Nat) : Ex → St → Option (Int × Unit) := (blockK 0 (seqK ((A_zz58).shape 15) (run (A_zz58) N (codeAt Try.f23 [1, 1])) zz58_z))
noncomputable abbrev zz58_k2 (N : Nat) : St → Option (Int × Unit) := fun st' => run (A_zz58) N (codeAt Try.f23 [1, 1]) st' zz58_z
theorem zz58_after2 (N : Nat) (k1 : Int) : zz58_X2 (zz58_k2 N) k1 = zz58_a2 k1 := by kernel_rfl
theorem zz58_in2 (N : Nat) (a0 : Y4) (k1 : Int) (i5 : Int) : zz58_R2 N N (zz58_K2 N) a0 k1 i5 = zz58_F2 N a0 k1 i5 :=
  have h : zz58_X2 (zz58_k2 N) = (zz58_a2) := (funext fun k1 => zz58_after2 N k1)
  ((iter_ex (fun st => by kernel_rfl) (fun st => by kernel_rfl)).trans (zz58_iter2 N (zz58_k2 N) (fun j st => (zz58_K2 N) (.exit j) st) N a0 k1 i5)).trans (congrArg (fun k => zz58_l2 N k N a0 k1 i5) h)
theorem run0_zz58 (N : Nat) (x : (S_zz58).a.den) : runF (A_zz58) N Try.f23 S_zz58 x = (zz58_s (zz58_R2 N N (zz58_K2 N)) x.1 x.2.1) := by kernel_rfl
theorem run_zz58 (N : Nat) (x : (S_zz58).a.den) : runF (A_zz58) N Try.f23 S_zz58 x = zz58 N x.1 x.2.1 := by
  refine (run0_zz58 N x).trans ?_
  rw [(funext fun a0 => (funext fun k1 => (funext fun i5 => zz58_in2 N a0 k1 i5)))]
  rfl
theorem fn_zz58 : FnOk Try.prog 23 := ⟨_, Try.func23, by kernel_rfl, by kernel_rfl⟩
theorem good_zz58 : Gx.Good Try.prog 23 S_zz58 := good_of_run Try.func23 (of_decide_eq_true (by kernel_rfl)) fun x r h => ⟨A_zz58, big, mkCfg_ok tabOk, mkCfg_sigs (show SigsOk Try.prog [] from trivial), (run_zz58 big x).trans h⟩

/-! laws_FnExactComplementList -/
def laws_FnExactComplementList_s (aP_0 : Y2) : Option (Bool × Unit) :=
  (zz2 aP_0 (1048576 : Int)).bind fun rq1 =>
  cond (decide (rq1.1 < (0 : Int)))
  (some (true, (())))
  ((zz5 aP_0).bind fun rq2 =>
  (zz25 rq2.1).bind fun rq3 =>
  (zz5 aP_0).bind fun rq4 =>
  (zz51 rq4.1).bind fun rq5 =>
  (zz52 big rq5.1.1 rq3.1.1).bind fun rq6 =>
  cond (!rq6.1)
  (some (false, (())))
  (cond (((((), rq5.1.2).2).1) != ((((), rq3.1.2).2).1))
  (some (false, (())))
  ((zz5 aP_0).bind fun rq7 =>
  (zz54 rq4.1 rq7.1).bind fun rq8 =>
  cond (!rq8.1)
  (some (false, (())))
  ((zz57 rq4.1 (1 : Int)).bind fun rq9 =>
  cond (decide (rq9.1 < (0 : Int)))
  (some (false, (())))
  ((zz52 big rq5.1.1 rq3.1.1).bind fun rq10 =>
  cond (!rq10.1)
  (some (false, (())))
  (cond (((((), rq5.1.2).2).1) != ((((), rq3.1.2).2).1))
  (some (false, (())))
  ((zz55 big rq5.1.1 (1 : Int)).bind fun rq11 =>
  (zz58 big rq11.2.1 (1 : Int)).bind fun rq12 =>
  cond (decide (rq12.1 < (0 : Int)))
  (some (false, (())))
  (cond (decide (rq12.1 ≠ rq11.1))
  (some (false, (())))
  ((zz5 aP_0).bind fun rq13 =>
  (zz51 rq13.1).bind fun rq14 =>
  (zz52 big rq14.1.1 rq3.1.1).bind fun rq15 =>
  cond (!rq15.1)
  (some (false, (())))
  (cond (((((), rq14.1.2).2).1) != ((((), rq3.1.2).2).1))
  (some (false, (())))
  ((zz58 big rq11.2.1 (1 : Int)).bind fun rq16 =>
  cond (decide (rq16.1 < (0 : Int)))
  (some (false, (())))
  (cond (decide (rq16.1 ≠ rq11.1))
  (some (false, (())))
  (some (true, (())))))))))))))))
def laws_FnExactComplementList (aP_0 : Y2) : Option (Bool × Unit) := laws_FnExactComplementList_s aP_0
def S_laws_FnExactComplementList : Sig := { a := (.pair (.pair (.sl (.sl I)) .unit) .unit), md := [0], mf := [], m := .unit, r := .bool, rf := .i, f := fun x => laws_FnExactComplementList x.1 }
def A_laws_FnExactComplementList : Cfg := mkCfg tab [(15, S_zz2), (17, S_zz5), (38, S_zz25), (39, S_zz51), (19, S_zz52), (20, S_zz54), (21, S_zz57), (22, S_zz55), (23, S_zz58)] []
theorem run_laws_FnExactComplementList (N : Nat) (x : (S_laws_FnExactComplementList).a.den) : runF (A_laws_FnExactComplementList) N Try.f8 S_laws_FnExactComplementList x = laws_FnExactComplementList x.1 := by kernel_rfl
theorem fn_laws_FnExactComplementList : FnOk Try.prog 8 := ⟨_, Try.func8, by kernel_rfl, by kernel_rfl⟩
theorem good_laws_FnExactComplementList : Gx.Good Try.prog 8 S_laws_FnExactComplementList := good_of_run Try.func8 (of_decide_eq_true (by kernel_rfl)) fun x r h => ⟨A_laws_FnExactComplementList, big, mkCfg_ok tabOk, mkCfg_sigs (show SigsOk Try.prog [(15, S_zz2), (17, S_zz5), (38, S_zz25), (39, S_zz51), (19, S_zz52), (20, S_zz54), (21, S_zz57), (22, S_zz55), (23, S_zz58)] from ⟨⟨fn_zz2, good_zz2⟩, ⟨fn_zz5, good_zz5⟩, ⟨fn_zz25, good_zz25⟩, ⟨fn_zz51, good_zz51⟩, ⟨fn_zz52, good_zz52⟩, ⟨fn_zz54, good_zz54⟩, ⟨fn_zz57, good_zz57⟩, ⟨fn_zz55, good_zz55⟩, ⟨fn_zz58, good_zz58⟩, trivial⟩), (run_laws_FnExactComplementList big x).trans h⟩

/-! zz59 -/
def zz59_s (p_0 : Y2) (x_1 : Int) (y_2 : Int) : Option (Bool × Unit) :=
  cond (decide (x_1 ≠ y_2))
  ((zz11 p_0 x_1 y_2).bind fun rq1 =>
  some (rq1.1, (())))
  (some (false, (())))
def zz59 (p_0 : Y2) (x_1 : Int) (y_2 : Int) : Option (Bool × Unit) := zz59_s p_0 x_1 y_2
def S_zz59 : Sig := { a := (.pair (.pair (.sl (.sl I)) .unit) (.pair I (.pair I .unit))), md := [0, 0, 0], mf := [], m := .unit, r := .bool, rf := .i, f := fun x => zz59 x.1 x.2.1 x.2.2.1 }
def A_zz59 : Cfg := mkCfg tab [(96, S_zz11)] []
theorem run_zz59 (N : Nat) (x : (S_zz59).a.den) : runF (A_zz59) N Try.f82 S_zz59 x = zz59 x.1 x.2.1 x.2.2.1 := by kernel_rfl
theorem fn_zz59 : FnOk Try.prog 82 := ⟨_, Try.func82, by kernel_rfl, by kernel_rfl⟩
theorem good_zz59 : Gx.Good Try.prog 82 S_zz59 := good_of_run Try.func82 (of_decide_eq_true (by kernel_rfl)) fun x r h => ⟨A_zz59, big, mkCfg_ok tabOk, mkCfg_sigs (show SigsOk Try.prog [(96, S_zz11)] from ⟨⟨fn_zz11, good_zz11⟩, trivial⟩), (run_zz59 big x).trans h⟩

/-! zz60 -/
def zz60_b4 (rec : Int → Int → Y2 → Int → Option (Bool × Unit)) (k : Option (Bool × Unit)) (x1 : Int) (y2 : Int) (p3 : Y2) (z7 : Int) : Option (Bool × Unit) :=
  cond (decide (z7 < (p3.1.length : Int)))
  ((zz59 p3 x1 z7).bind fun rq2 =>
  cond rq2.1
  ((zz59 p3 z7 y2).bind fun rq3 =>
  cond rq3.1
  (some (false, (())))
  (rec x1 y2 p3 (IntKind.i64.wrap (z7 + (1 : Int)))))
  (rec x1 y2 p3 (IntKind.i64.wrap (z7 + (1 : Int)))))
  (k)
def zz60_a4 : Option (Bool × Unit) :=
  some (true, (()))
def zz60_s (L4 : Int → Int → Y2 → Int → Option (Bool × Unit)) (p_0 : Y2) (x_1 : Int) (y_2 : Int) : Option (Bool × Unit) :=
  (zz59 p_0 x_1 y_2).bind fun rq1 =>
  cond (!rq1.1)
  (some (false, (())))
  (L4 x_1 y_2 p_0 (0 : Int))
def zz60_l4 (N : Nat) (k : Option (Bool × Unit)) : Nat → Int → Int → Y2 → Int → Option (Bool × Unit)
  | 0, _, _, _, _ => none
  | m + 1, x1, y2, p3, z7 => zz60_b4 (zz60_l4 N k m) k x1 y2 p3 z7
def zz60_F4 (N : Nat) (x1 : Int) (y2 : Int) (p3 : Y2) (z7 : Int) : Option (Bool × Unit) := zz60_l4 N (zz60_a4) N x1 y2 p3 z7
def zz60 (N : Nat) (p_0 : Y2) (x_1 : Int) (y_2 : Int) : Option (Bool × Unit) := zz60_s (zz60_F4 N) p_0 x_1 y_2
def S_zz60 : Sig := { a := (.pair (.pair (.sl (.sl I)) .unit) (.pair I (.pair I .unit))), md := [0, 0, 0], mf := [], m := .unit, r := .bool, rf := .i, f := fun x => zz60 big x.1 x.2.1 x.2.2.1 }
def A_zz60 : Cfg := mkCfg tab [(82, S_zz59)] [(8, [.drop, .as I .i, .as I .i, .as (.ptr (.pair (.sl (.sl I)) .unit)) (.o .i), .drop, .drop, .drop, .as I .i]), (17, [])]
noncomputable def zz60_R4 (N n : Nat) (K : Ex → St → Option (Bool × Unit)) (x1 : Int) (y2 : Int) (p3 : Y2) (z7 : Int) : Option (Bool × Unit) := iter ((A_zz60).shape 8) (run (A_zz60) N (codeAt Try.f118 [1, 1, 0, 1, 0, 0])) n ([.u, .val I .i x1, .val I .i y2, .val (.ptr (.pair (.sl (.sl I)) .unit)) (.o .i) p3, .u, .u, .u, .val I .i z7] ++ List.replicate 22 .u) K
noncomputable abbrev zz60_z : Ex → St → Option (Bool × Unit) := finish (A_zz60) S_zz60 Try.f118.results.toList
noncomputable abbrev zz60_X4 (kX : St → Option (Bool × Unit)) : Option (Bool × Unit) := kX ([] ++ List.replicate 30 .u)
noncomputable abbrev zz60_E4 (kX : St → Option (Bool × Unit)) (kO : Nat → St → Option (Bool × Unit)) : Ex → St → Option (Bool × Unit) := exK zz60_z 0 ((A_zz60).shape 17) kX kO
theorem zz60_step4 (N : Nat) (m : Nat) (kX : St → Option (Bool × Unit)) (kO : Nat → St → Option (Bool × Unit)) (x1 : Int) (y2 : Int) (p3 : Y2) (z7 : Int) : zz60_R4 N (m + 1) (zz60_E4 kX kO) x1 y2 p3 z7 = zz60_b4 (zz60_R4 N m (zz60_E4 kX kO)) (zz60_X4 kX) x1 y2 p3 z7 := by kernel_rfl
theorem zz60_iter4 (N : Nat) (kX : St → Option (Bool × Unit)) (kO : Nat → St → Option (Bool × Unit)) : ∀ (n : Nat) (x1 : Int) (y2 : Int) (p3 : Y2) (z7 : Int), zz60_R4 N n (zz60_E4 kX kO) x1 y2 p3 z7 = zz60_l4 N (zz60_X4 kX) n x1 y2 p3 z7
  | 0, _, _, _, _ => rfl
  | m + 1, x1, y2, p3, z7 => by
    have hrec : zz60_R4 N m (zz60_E4 kX kO) = (zz60_l4 N (zz60_X4 kX) m) := (funext fun x1 => (funext fun y2 => (funext fun p3 => (funext fun z7 => zz60_iter4 N kX kO m x1 y2 p3 z7))))
    refine (zz60_step4 N m kX kO x1 y2 p3 z7).trans ?_
    rw [hrec]
    rfl
noncomputable abbrev zz60_K4 (N : Nat) : Ex → St → Option (Bool × Unit) := (blockK 0 (seqK ((A_zz60).shape 17) (run (A_zz60) N (codeAt Try.f118 [1, 1, 1])) zz60_z))
noncomputable abbrev zz60_k4 (N : Nat) : St → Option (Bool × Unit) := fun st' => run (A_zz60) N (codeAt Try.f118 [1, 1, 1]) st' zz60_z
theorem zz60_after4 (N : Nat) : zz60_X4 (zz60_k4 N) = zz60_a4 := by kernel_rfl
theorem zz60_in4 (N : Nat) (x1 : Int) (y2 : Int) (p3 : Y2) (z7 : Int) : zz60_R4 N N (zz60_K4 N) x1 y2 p3 z7 = zz60_F4 N x1 y2 p3 z7 :=
  have h : zz60_X4 (zz60_k4 N) = (zz60_a4) := zz60_after4 N
  ((iter_ex (fun st => by kernel_rfl) (fun st => by kernel_rfl)).trans (zz60_iter4 N (zz60_k4 N) (fun j st => (zz60_K4 N) (.exit j) st) N x1 y2 p3 z7)).trans (congrArg (fun k => zz60_l4 N k N x1 y2 p3 z7) h)
theorem run0_zz60 (N : Nat) (x : (S_zz60).a.den) : runF (A_zz60) N Try.f118 S_zz60 x = (zz60_s (zz60_R4 N N (zz60_K4 N)) x.1 x.2.1 x.2.2.1) := by kernel_rfl
theorem run_zz60 (N : Nat) (x : (S_zz60).a.den) : runF (A_zz60) N Try.f118 S_zz60 x = zz60 N x.1 x.2.1 x.2.2.1 := by
  refine (run0_zz60 N x).trans ?_
  rw [(funext fun x1 => (funext fun y2 => (funext fun p3 => (funext fun z7 => zz60_in4 N x1 y2 p3 z7))))]
  rfl
theorem fn_zz60 : FnOk Try.prog 118 := ⟨_, Try.func118, by kernel_rfl, by kernel_rfl⟩
theorem good_zz60 : Gx.Good Try.prog 118 S_zz60 := good_of_run Try.func118 (of_decide_eq_true (by kernel_rfl)) fun x r h => ⟨A_zz60, big, mkCfg_ok tabOk, mkCfg_sigs (show SigsOk Try.prog [(82, S_zz59)] from ⟨⟨fn_zz59, good_zz59⟩, trivial⟩), (run_zz60 big x).trans h⟩

/-! zz61 -/
def zz61_b4 (rec : Y2 → Y4 → Int → Int → Option (Y4 × Unit)) (k : Y4 → Option (Y4 × Unit)) (p1 : Y2) (out3 : Y4) (bottom4 : Int) (x5 : Int) : Option (Y4 × Unit) :=
  cond (decide (x5 < (p1.1.length : Int)))
  ((zz60 big p1 bottom4 x5).bind fun rq2 =>
  cond rq2.1
  ((appI out3 [x5]).bind fun xq3 =>
  rec p1 xq3 bottom4 (IntKind.i64.wrap (x5 + (1 : Int))))
  (rec p1 out3 bottom4 (IntKind.i64.wrap (x5 + (1 : Int)))))
  (k out3)
def zz61_a4 (out3 : Y4) : Option (Y4 × Unit) :=
  some (out3, (()))
def zz61_s (L4 : Y2 → Y4 → Int → Int → Option (Y4 × Unit)) (p_0 : Y2) : Option (Y4 × Unit) :=
  (zz19 p_0).bind fun rq1 =>
  L4 p_0 [] rq1.1 (0 : Int)
def zz61_l4 (N : Nat) (k : Y4 → Option (Y4 × Unit)) : Nat → Y2 → Y4 → Int → Int → Option (Y4 × Unit)
  | 0, _, _, _, _ => none
  | m + 1, p1, out3, bottom4, x5 => zz61_b4 (zz61_l4 N k m) k p1 out3 bottom4 x5
def zz61_F4 (N : Nat) (p1 : Y2) (out3 : Y4) (bottom4 : Int) (x5 : Int) : Option (Y4 × Unit) := zz61_l4 N (zz61_a4) N p1 out3 bottom4 x5
def zz61 (N : Nat) (p_0 : Y2) : Option (Y4 × Unit) := zz61_s (zz61_F4 N) p_0
def S_zz61 : Sig := { a := (.pair (.pair (.sl (.sl I)) .unit) .unit), md := [0], mf := [], m := .unit, r := (.sl I), rf := (.o .i), f := fun x => zz61 big x.1 }
def A_zz61 : Cfg := mkCfg tab [(59, S_zz19), (118, S_zz60)] [(8, [.drop, .as (.ptr (.pair (.sl (.sl I)) .unit)) (.o .i), .drop, .as (.sl I) (.o .i), .as I .i, .as I .i]), (17, [.drop, .drop, .drop, .as (.sl I) (.o .i)])]
noncomputable def zz61_R4 (N n : Nat) (K : Ex → St → Option (Y4 × Unit)) (p1 : Y2) (out3 : Y4) (bottom4 : Int) (x5 : Int) : Option (Y4 × Unit) := iter ((A_zz61).shape 8) (run (A_zz61) N (codeAt Try.f95 [1, 1, 1, 0, 1, 0, 0])) n ([.u, .val (.ptr (.pair (.sl (.sl I)) .unit)) (.o .i) p1, .u, .val (.sl I) (.o .i) out3, .val I .i bottom4, .val I .i x5] ++ List.replicate 19 .u) K
noncomputable abbrev zz61_z : Ex → St → Option (Y4 × Unit) := finish (A_zz61) S_zz61 Try.f95.results.toList
noncomputable abbrev zz61_X4 (kX : St → Option (Y4 × Unit)) : Y4 → Option (Y4 × Unit) := fun (out3 : Y4) => kX ([.u, .u, .u, .val (.sl I) (.o .i) out3] ++ List.replicate 21 .u)
noncomputable abbrev zz61_E4 (kX : St → Option (Y4 × Unit)) (kO : Nat → St → Option (Y4 × Unit)) : Ex → St → Option (Y4 × Unit) := exK zz61_z 0 ((A_zz61).shape 17) kX kO
theorem zz61_step4 (N : Nat) (m : Nat) (kX : St → Option (Y4 × Unit)) (kO : Nat → St → Option (Y4 × Unit)) (p1 : Y2) (out3 : Y4) (bottom4 : Int) (x5 : Int) : zz61_R4 N (m + 1) (zz61_E4 kX kO) p1 out3 bottom4 x5 = zz61_b4 (zz61_R4 N m (zz61_E4 kX kO)) (zz61_X4 kX) p1 out3 bottom4 x5 := by kernel_rfl
theorem zz61_iter4 (N : Nat) (kX : St → Option (Y4 × Unit)) (kO : Nat → St → Option (Y4 × Unit)) : ∀ (n : Nat) (p1 : Y2) (out3 : Y4) (bottom4 : Int) (x5 : Int), zz61_R4 N n (zz61_E4 kX kO) p1 out3 bottom4 x5 = zz61_l4 N (zz61_X4 kX) n p1 out3 bottom4 x5
  | 0, _, _, _, _ => rfl
  | m + 1, p1, out3, bottom4, x5 => by
    have hrec : zz61_R4 N m (zz61_E4 kX kO) = (zz61_l4 N (zz61_X4 kX) m) := (funext fun p1 => (funext fun out3 => (funext fun bottom4 => (funext fun x5 => zz61_iter4 N kX kO m p1 out3 bottom4 x5))))
    refine (zz61_step4 N m kX kO p1 out3 bottom4 x5).trans ?_
    rw [hrec]
    rfl
noncomputable abbrev zz61_K4 (N : Nat) : Ex → St → Option (Y4 × Unit) := (blockK 0 (seqK ((A_zz61).shape 17) (run (A_zz61) N (codeAt Try.f95 [1, 1, 1, 1])) zz61_z))
noncomputable abbrev zz61_k4 (N : Nat) : St → Option (Y4 × Unit) := fun st' => run (A_zz61) N (codeAt Try.f95 [1, 1, 1, 1]) st' zz61_z
theorem zz61_after4 (N : Nat) (out3 : Y4) : zz61_X4 (zz61_k4 N) out3 = zz61_a4 out3 := by kernel_rfl
theorem zz61_in4 (N : Nat) (p1 : Y2) (out3 : Y4) (bottom4 : Int) (x5 : Int) : zz61_R4 N N (zz61_K4 N) p1 out3 bottom4 x5 = zz61_F4 N p1 out3 bottom4 x5 :=
  have h : zz61_X4 (zz61_k4 N) = (zz61_a4) := (funext fun out3 => zz61_after4 N out3)
  ((iter_ex (fun st => by kernel_rfl) (fun st => by kernel_rfl)).trans (zz61_iter4 N (zz61_k4 N) (fun j st => (zz61_K4 N) (.exit j) st) N p1 out3 bottom4 x5)).trans (congrArg (fun k => zz61_l4 N k N p1 out3 bottom4 x5) h)
theorem run0_zz61 (N : Nat) (x : (S_zz61).a.den) : runF (A_zz61) N Try.f95 S_zz61 x = (zz61_s (zz61_R4 N N (zz61_K4 N)) x.1) := by kernel_rfl
theorem run_zz61 (N : Nat) (x : (S_zz61).a.den) : runF (A_zz61) N Try.f95 S_zz61 x = zz61 N x.1 := by
  refine (run0_zz61 N x).trans ?_
  rw [(funext fun p1 => (funext fun out3 => (funext fun bottom4 => (funext fun x5 => zz61_in4 N p1 out3 bottom4 x5))))]
  rfl
theorem fn_zz61 : FnOk Try.prog 95 := ⟨_, Try.func95, by kernel_rfl, by kernel_rfl⟩
theorem good_zz61 : Gx.Good Try.prog 95 S_zz61 := good_of_run Try.func95 (of_decide_eq_true (by kernel_rfl)) fun x r h => ⟨A_zz61, big, mkCfg_ok tabOk, mkCfg_sigs (show SigsOk Try.prog [(59, S_zz19), (118, S_zz60)] from ⟨⟨fn_zz19, good_zz19⟩, ⟨fn_zz60, good_zz60⟩, trivial⟩), (run_zz61 big x).trans h⟩

/-! zz62 -/
def zz62_b2 (rec : Int → Int → Int → Option (Int × Unit)) (k : Int → Option (Int × Unit)) (n0 : Int) (k1 : Int) (out5 : Int) : Option (Int × Unit) :=
  cond (decide ((0 : Int) < k1))
  (rec n0 (IntKind.i64.wrap (k1 - (1 : Int))) (IntKind.i64.wrap (out5 * n0)))
  (k out5)
def zz62_a2 (out5 : Int) : Option (Int × Unit) :=
  some (out5, (()))
def zz62_s (L2 : Int → Int → Int → Option (Int × Unit)) (n_0 : Int) (k_1 : Int) : Option (Int × Unit) :=
  L2 n_0 k_1 (1 : Int)
def zz62_l2 (N : Nat) (k : Int → Option (Int × Unit)) : Nat → Int → Int → Int → Option (Int × Unit)
  | 0, _, _, _ => none
  | m + 1, n0, k1, out5 => zz62_b2 (zz62_l2 N k m) k n0 k1 out5
def zz62_F2 (N : Nat) (n0 : Int) (k1 : Int) (out5 : Int) : Option (Int × Unit) := zz62_l2 N (zz62_a2) N n0 k1 out5
def zz62 (N : Nat) (n_0 : Int) (k_1 : Int) : Option (Int × Unit) := zz62_s (zz62_F2 N) n_0 k_1
def S_zz62 : Sig := { a := (.pair I (.pair I .unit)), md := [0, 0], mf := [], m := .unit, r := I, rf := .i, f := fun x => zz62 big x.1 x.2.1 }
def A_zz62 : Cfg := mkCfg tab [] [(4, [.as I .i, .as I .i, .drop, .drop, .drop, .as I .i]), (11, [.drop, .drop, .drop, .drop, .drop, .as I .i])]
noncomputable def zz62_R2 (N n : Nat) (K : Ex → St → Option (Int × Unit)) (n0 : Int) (k1 : Int) (out5 : Int) : Option (Int × Unit) := iter ((A_zz62).shape 4) (run (A_zz62) N (codeAt Try.f97 [1, 1, 0, 0, 0])) n ([.val I .i n0, .val I .i k1, .u, .u, .u, .val I .i out5] ++ List.replicate 8 .u) K
noncomputable abbrev zz62_z : Ex → St → Option (Int × Unit) := finish (A_zz62) S_zz62 Try.f97.results.toList
noncomputable abbrev zz62_X2 (kX : St → Option (Int × Unit)) : Int → Option (Int × Unit) := fun (out5 : Int) => kX ([.u, .u, .u, .u, .u, .val I .i out5] ++ List.replicate 8 .u)
noncomputable abbrev zz62_E2 (kX : St → Option (Int × Unit)) (kO : Nat → St → Option (Int × Unit)) : Ex → St → Option (Int × Unit) := exK zz62_z 0 ((A_zz62).shape 11) kX kO
theorem zz62_step2 (N : Nat) (m : Nat) (kX : St → Option (Int × Unit)) (kO : Nat → St → Option (Int × Unit)) (n0 : Int) (k1 : Int) (out5 : Int) : zz62_R2 N (m + 1) (zz62_E2 kX kO) n0 k1 out5 = zz62_b2 (zz62_R2 N m (zz62_E2 kX kO)) (zz62_X2 kX) n0 k1 out5 := by kernel_rfl
theorem zz62_iter2 (N : Nat) (kX : St → Option (Int × Unit)) (kO : Nat → St → Option (Int × Unit)) : ∀ (n : Nat) (n0 : Int) (k1 : Int) (out5 : Int), zz62_R2 N n (zz62_E2 kX kO) n0 k1 out5 = zz62_l2 N (zz62_X2 kX) n n0 k1 out5
  | 0, _, _, _ => rfl
  | m + 1, n0, k1, out5 => by
    have hrec : zz62_R2 N m (zz62_E2 kX kO) = (zz62_l2 N (zz62_X2 kX) m) := (funext fun n0 => (funext fun k1 => (funext fun out5 => zz62_iter2 N kX kO m n0 k1 out5)))
    refine (zz62_step2 N m kX kO n0 k1 out5).trans ?_
    rw [hrec]
    rfl
noncomputable abbrev zz62_K2 (N : Nat) : Ex → St → Option (Int × Unit) := (blockK 0 (seqK ((A_zz62).shape 11) (run (A_zz62) N (codeAt Try.f97 [1, 1, 1])) zz62_z))
noncomputable abbrev zz62_k2 (N : Nat) : St → Option (Int × Unit) := fun st' => run (A_zz62) N (codeAt Try.f97 [1, 1, 1]) st' zz62_z
theorem zz62_after2 (N : Nat) (out5 : Int) : zz62_X2 (zz62_k2 N) out5 = zz62_a2 out5 := by kernel_rfl
theorem zz62_in2 (N : Nat) (n0 : Int) (k1 : Int) (out5 : Int) : zz62_R2 N N (zz62_K2 N) n0 k1 out5 = zz62_F2 N n0 k1 out5 :=
  have h : zz62_X2 (zz62_k2 N) = (zz62_a2) := (funext fun out5 => zz62_after2 N out5)
  ((iter_ex (fun st => by kernel_rfl) (fun st => by kernel_rfl)).trans (zz62_iter2 N (zz62_k2 N) (fun j st => (zz62_K2 N) (.exit j) st) N n0 k1 out5)).trans (congrArg (fun k => zz62_l2 N k N n0 k1 out5) h)
theorem run0_zz62 (N : Nat) (x : (S_zz62).a.den) : runF (A_zz62) N Try.f97 S_zz62 x = (zz62_s (zz62_R2 N N (zz62_K2 N)) x.1 x.2.1) := by kernel_rfl
theorem run_zz62 (N : Nat) (x : (S_zz62).a.den) : runF (A_zz62) N Try.f97 S_zz62 x = zz62 N x.1 x.2.1 := by
  refine (run0_zz62 N x).trans ?_
  rw [(funext fun n0 => (funext fun k1 => (funext fun out5 => zz62_in2 N n0 k1 out5)))]
  rfl
theorem fn_zz62 : FnOk Try.prog 97 := ⟨_, Try.func97, by kernel_rfl, by kernel_rfl⟩
theorem good_zz62 : Gx.Good Try.prog 97 S_zz62 := good_of_run Try.func97 (of_decide_eq_true (by kernel_rfl)) fun x r h => ⟨A_zz62, big, mkCfg_ok tabOk, mkCfg_sigs (show SigsOk Try.prog [] from trivial), (run_zz62 big x).trans h⟩

/-! zz63 -/
def zz63_b10 (rec : Y2 → Y4 → Y4 → Int → Int → Int → Option ((Y4 × (Bool × Unit)) × Unit)) (k : Y2 → Y4 → Y4 → Int → Int → Option ((Y4 × (Bool × Unit)) × Unit)) (p1 : Y2) (out4 : Y4) (atoms5 : Y4) (x6 : Int) (code7 : Int) (i8 : Int) : Option ((Y4 × (Bool × Unit)) × Unit) :=
  cond (decide (i8 < (atoms5.length : Int)))
  ((atI atoms5 i8).bind fun _ =>
  (atoms5[i8.toNat]?).bind fun xq3 =>
  (zz11 p1 xq3 x6).bind fun rq4 =>
  cond rq4.1
  ((zz62 big (2 : Int) i8).bind fun rq5 =>
  rec p1 out4 atoms5 x6 (IntKind.i64.wrap (code7 + rq5.1)) (IntKind.i64.wrap (i8 + (1 : Int))))
  (rec p1 out4 atoms5 x6 code7 (IntKind.i64.wrap (i8 + (1 : Int)))))
  (k p1 out4 atoms5 x6 code7)
def zz63_a10 (rec : Y2 → Y4 → Y4 → Int → Option ((Y4 × (Bool × Unit)) × Unit)) (p1 : Y2) (out4 : Y4) (atoms5 : Y4) (x6 : Int) (code7 : Int) : Option ((Y4 × (Bool × Unit)) × Unit) :=
  (appI out4 [code7]).bind fun xq6 =>
  rec p1 xq6 atoms5 (IntKind.i64.wrap (x6 + (1 : Int)))
def zz63_b6 (L10 : Y2 → Y4 → Y4 → Int → Int → Int → Option ((Y4 × (Bool × Unit)) × Unit)) (k : Y4 → Option ((Y4 × (Bool × Unit)) × Unit)) (p1 : Y2) (out4 : Y4) (atoms5 : Y4) (x6 : Int) : Option ((Y4 × (Bool × Unit)) × Unit) :=
  cond (decide (x6 < (p1.1.length : Int)))
  (L10 p1 out4 atoms5 x6 (0 : Int) (0 : Int))
  (k out4)
def zz63_a6 (out4 : Y4) : Option ((Y4 × (Bool × Unit)) × Unit) :=
  some ((out4, true, ()), (()))
def zz63_s (L6 : Y2 → Y4 → Y4 → Int → Option ((Y4 × (Bool × Unit)) × Unit)) (p_0 : Y2) : Option ((Y4 × (Bool × Unit)) × Unit) :=
  (zz23 p_0).bind fun rq1 =>
  cond (!rq1.1)
  (some (([], false, ()), (())))
  ((zz61 big p_0).bind fun rq2 =>
  L6 p_0 [] rq2.1 (0 : Int))
def zz63_l10 (N : Nat) (k : Y2 → Y4 → Y4 → Int → Int → Option ((Y4 × (Bool × Unit)) × Unit)) : Nat → Y2 → Y4 → Y4 → Int → Int → Int → Option ((Y4 × (Bool × Unit)) × Unit)
  | 0, _, _, _, _, _, _ => none
  | m + 1, p1, out4, atoms5, x6, code7, i8 => zz63_b10 (zz63_l10 N k m) k p1 out4 atoms5 x6 code7 i8
def zz63_F10 (N : Nat) (rec : Y2 → Y4 → Y4 → Int → Option ((Y4 × (Bool × Unit)) × Unit)) (k : Y4 → Option ((Y4 × (Bool × Unit)) × Unit)) (p1 : Y2) (out4 : Y4) (atoms5 : Y4) (x6 : Int) (code7 : Int) (i8 : Int) : Option ((Y4 × (Bool × Unit)) × Unit) := zz63_l10 N (zz63_a10 rec) N p1 out4 atoms5 x6 code7 i8
def zz63_l6 (N : Nat) (k : Y4 → Option ((Y4 × (Bool × Unit)) × Unit)) : Nat → Y2 → Y4 → Y4 → Int → Option ((Y4 × (Bool × Unit)) × Unit)
  | 0, _, _, _, _ => none
  | m + 1, p1, out4, atoms5, x6 => zz63_b6 (zz63_F10 N (zz63_l6 N k m) k) k p1 out4 atoms5 x6
def zz63_F6 (N : Nat) (p1 : Y2) (out4 : Y4) (atoms5 : Y4) (x6 : Int) : Option ((Y4 × (Bool × Unit)) × Unit) := zz63_l6 N (zz63_a6) N p1 out4 atoms5 x6
def zz63 (N : Nat) (p_0 : Y2) : Option ((Y4 × (Bool × Unit)) × Unit) := zz63_s (zz63_F6 N) p_0
def S_zz63 : Sig := { a := (.pair (.pair (.sl (.sl I)) .unit) .unit), md := [0], mf := [], m := .unit, r := (.tup (.pair (.sl I) (.pair .bool .unit))), rf := (.p (.o .i) .i), f := fun x => zz63 big x.1 }
def A_zz63 : Cfg := mkCfg tab [(85, S_zz23), (95, S_zz61), (96, S_zz11), (97, S_zz62)] [(12, [.drop, .as (.ptr (.pair (.sl (.sl I)) .unit)) (.o .i), .drop, .drop, .as (.sl I) (.o .i), .as (.sl I) (.o .i), .as I .i]), (20, [.drop, .as (.ptr (.pair (.sl (.sl I)) .unit)) (.o .i), .drop, .drop, .as (.sl I) (.o .i), .as (.sl I) (.o .i), .as I .i, .as I .i, .as I .i]), (31, [.drop, .drop, .drop, .drop, .as (.sl I) (.o .i)]), (29, [.drop, .as (.ptr (.pair (.sl (.sl I)) .unit)) (.o .i), .drop, .drop, .as (.sl I) (.o .i), .as (.sl I) (.o .i), .as I .i, .as I .i])]
noncomputable def zz63_R6 (N n : Nat) (K : Ex → St → Option ((Y4 × (Bool × Unit)) × Unit)) (p1 : Y2) (out4 : Y4) (atoms5 : Y4) (x6 : Int) : Option ((Y4 × (Bool × Unit)) × Unit) := iter ((A_zz63).shape 12) (run (A_zz63) N (codeAt Try.f45 [1, 1, 1, 1, 0, 1, 0, 0])) n ([.u, .val (.ptr (.pair (.sl (.sl I)) .unit)) (.o .i) p1, .u, .u, .val (.sl I) (.o .i) out4, .val (.sl I) (.o .i) atoms5, .val I .i x6] ++ List.replicate 38 .u) K
noncomputable def zz63_R10 (N n : Nat) (K : Ex → St → Option ((Y4 × (Bool × Unit)) × Unit)) (p1 : Y2) (out4 : Y4) (atoms5 : Y4) (x6 : Int) (code7 : Int) (i8 : Int) : Option ((Y4 × (Bool × Unit)) × Unit) := iter ((A_zz63).shape 20) (run (A_zz63) N (codeAt Try.f45 [1, 1, 1, 1, 0, 1, 0, 0, 1, 0, 0, 1, 0, 1, 0, 0])) n ([.u, .val (.ptr (.pair (.sl (.sl I)) .unit)) (.o .i) p1, .u, .u, .val (.sl I) (.o .i) out4, .val (.sl I) (.o .i) atoms5, .val I .i x6, .val I .i code7, .val I .i i8] ++ List.replicate 36 .u) K
noncomputable abbrev zz63_z : Ex → St → Option ((Y4 × (Bool × Unit)) × Unit) := finish (A_zz63) S_zz63 Try.f45.results.toList
noncomputable abbrev zz63_X6 (kX : St → Option ((Y4 × (Bool × Unit)) × Unit)) : Y4 → Option ((Y4 × (Bool × Unit)) × Unit) := fun (out4 : Y4) => kX ([.u, .u, .u, .u, .val (.sl I) (.o .i) out4] ++ List.replicate 40 .u)
noncomputable abbrev zz63_E6 (kX : St → Option ((Y4 × (Bool × Unit)) × Unit)) (kO : Nat → St → Option ((Y4 × (Bool × Unit)) × Unit)) : Ex → St → Option ((Y4 × (Bool × Unit)) × Unit) := exK zz63_z 0 ((A_zz63).shape 31) kX kO
noncomputable abbrev zz63_X10 (kX : St → Option ((Y4 × (Bool × Unit)) × Unit)) : Y2 → Y4 → Y4 → Int → Int → Option ((Y4 × (Bool × Unit)) × Unit) := fun (p1 : Y2) (out4 : Y4) (atoms5 : Y4) (x6 : Int) (code7 : Int) => kX ([.u, .val (.ptr (.pair (.sl (.sl I)) .unit)) (.o .i) p1, .u, .u, .val (.sl I) (.o .i) out4, .val (.sl I) (.o .i) atoms5, .val I .i x6, .val I .i code7] ++ List.replicate 37 .u)
noncomputable abbrev zz63_E10 (kX : St → Option ((Y4 × (Bool × Unit)) × Unit)) (kO : Nat → St → Option ((Y4 × (Bool × Unit)) × Unit)) : Ex → St → Option ((Y4 × (Bool × Unit)) × Unit) := exK zz63_z 2 ((A_zz63).shape 29) kX kO
theorem zz63_step10 (N : Nat) (m : Nat) (kX : St → Option ((Y4 × (Bool × Unit)) × Unit)) (kO : Nat → St → Option ((Y4 × (Bool × Unit)) × Unit)) (p1 : Y2) (out4 : Y4) (atoms5 : Y4) (x6 : Int) (code7 : Int) (i8 : Int) : zz63_R10 N (m + 1) (zz63_E10 kX kO) p1 out4 atoms5 x6 code7 i8 = zz63_b10 (zz63_R10 N m (zz63_E10 kX kO)) (zz63_X10 kX) p1 out4 atoms5 x6 code7 i8 := by kernel_rfl
theorem zz63_iter10 (N : Nat) (kX : St → Option ((Y4 × (Bool × Unit)) × Unit)) (kO : Nat → St → Option ((Y4 × (Bool × Unit)) × Unit)) : ∀ (n : Nat) (p1 : Y2) (out4 : Y4) (atoms5 : Y4) (x6 : Int) (code7 : Int) (i8 : Int), zz63_R10 N n (zz63_E10 kX kO) p1 out4 atoms5 x6 code7 i8 = zz63_l10 N (zz63_X10 kX) n p1 out4 atoms5 x6 code7 i8
  | 0, _, _, _, _, _, _ => rfl
  | m + 1, p1, out4, atoms5, x6, code7, i8 => by
    have hrec : zz63_R10 N m (zz63_E10 kX kO) = (zz63_l10 N (zz63_X10 kX) m) := (funext fun p1 => (funext fun out4 => (funext fun atoms5 => (funext fun x6 => (funext fun code7 => (funext fun i8 => zz63_iter10 N kX kO m p1 out4 atoms5 x6 code7 i8))))))
    refine (zz63_step10 N m kX kO p1 out4 atoms5 x6 code7 i8).trans ?_
    rw [hrec]
    rfl
noncomputable abbrev zz63_K10 (N : Nat) (m : Nat) (kX : St → Option ((Y4 × (Bool × Unit)) × Unit)) (kO : Nat → St → Option ((Y4 × (Bool × Unit)) × Unit)) : Ex → St → Option ((Y4 × (Bool × Unit)) × Unit) := (blockK 2 (seqK ((A_zz63).shape 29) (run (A_zz63) N (codeAt Try.f45 [1, 1, 1, 1, 0, 1, 0, 0, 1, 0, 0, 1, 1])) (blockK 1 (seqK ((A_zz63).shape 15) (run (A_zz63) N (codeAt Try.f45 [1, 1, 1, 1, 0, 1, 0, 0, 1, 1])) (iterK ((A_zz63).shape 12) (run (A_zz63) N (codeAt Try.f45 [1, 1, 1, 1, 0, 1, 0, 0])) m (zz63_E6 kX kO))))))
noncomputable abbrev zz63_k10 (N : Nat) (m : Nat) (kX : St → Option ((Y4 × (Bool × Unit)) × Unit)) (kO : Nat → St → Option ((Y4 × (Bool × Unit)) × Unit)) : St → Option ((Y4 × (Bool × Unit)) × Unit) := fun st' => run (A_zz63) N (codeAt Try.f45 [1, 1, 1, 1, 0, 1, 0, 0, 1, 0, 0, 1, 1]) st' (blockK 1 (seqK ((A_zz63).shape 15) (run (A_zz63) N (codeAt Try.f45 [1, 1, 1, 1, 0, 1, 0, 0, 1, 1])) (iterK ((A_zz63).shape 12) (run (A_zz63) N (codeAt Try.f45 [1, 1, 1, 1, 0, 1, 0, 0])) m (zz63_E6 kX kO))))
theorem zz63_after10 (N : Nat) (m : Nat) (kX : St → Option ((Y4 × (Bool × Unit)) × Unit)) (kO : Nat → St → Option ((Y4 × (Bool × Unit)) × Unit)) (p1 : Y2) (out4 : Y4) (atoms5 : Y4) (x6 : Int) (code7 : Int) : zz63_X10 (zz63_k10 N m kX kO) p1 out4 atoms5 x6 code7 = zz63_a10 (zz63_R6 N m (zz63_E6 kX kO)) p1 out4 atoms5 x6 code7 := by kernel_rfl
theorem zz63_in10 (N : Nat) (m : Nat) (kX : St → Option ((Y4 × (Bool × Unit)) × Unit)) (kO : Nat → St → Option ((Y4 × (Bool × Unit)) × Unit)) (recF : Y2 → Y4 → Y4 → Int → Option ((Y4 × (Bool × Unit)) × Unit)) (hrec : zz63_R6 N m (zz63_E6 kX kO) = recF) (p1 : Y2) (out4 : Y4) (atoms5 : Y4) (x6 : Int) (code7 : Int) (i8 : Int) : zz63_R10 N N (zz63_K10 N m kX kO) p1 out4 atoms5 x6 code7 i8 = zz63_F10 N recF (zz63_X6 kX) p1 out4 atoms5 x6 code7 i8 :=
  have h : zz63_X10 (zz63_k10 N m kX kO) = (zz63_a10 recF) := (funext fun p1 => (funext fun out4 => (funext fun atoms5 => (funext fun x6 => (funext fun code7 => (zz63_after10 N m kX kO p1 out4 atoms5 x6 code7).trans (by rw [hrec]))))))
  ((iter_ex (fun st => by kernel_rfl) (fun st => by kernel_rfl)).trans (zz63_iter10 N (zz63_k10 N m kX kO) (fun j st => (zz63_K10 N m kX kO) (.exit j) st) N p1 out4 atoms5 x6 code7 i8)).trans (congrArg (fun k => zz63_l10 N k N p1 out4 atoms5 x6 code7 i8) h)
theorem zz63_step6 (N : Nat) (m : Nat) (kX : St → Option ((Y4 × (Bool × Unit)) × Unit)) (kO : Nat → St → Option ((Y4 × (Bool × Unit)) × Unit)) (p1 : Y2) (out4 : Y4) (atoms5 : Y4) (x6 : Int) : zz63_R6 N (m + 1) (zz63_E6 kX kO) p1 out4 atoms5 x6 = zz63_b6 (zz63_R10 N N (zz63_K10 N m kX kO)) (zz63_X6 kX) p1 out4 atoms5 x6 := by kernel_rfl
theorem zz63_iter6 (N : Nat) (kX : St → Option ((Y4 × (Bool × Unit)) × Unit)) (kO : Nat → St → Option ((Y4 × (Bool × Unit)) × Unit)) : ∀ (n : Nat) (p1 : Y2) (out4 : Y4) (atoms5 : Y4) (x6 : Int), zz63_R6 N n (zz63_E6 kX kO) p1 out4 atoms5 x6 = zz63_l6 N (zz63_X6 kX) n p1 out4 atoms5 x6
  | 0, _, _, _, _ => rfl
  | m + 1, p1, out4, atoms5, x6 => by
    have hrec : zz63_R6 N m (zz63_E6 kX kO) = (zz63_l6 N (zz63_X6 kX) m) := (funext fun p1 => (funext fun out4 => (funext fun atoms5 => (funext fun x6 => zz63_iter6 N kX kO m p1 out4 atoms5 x6))))
    refine (zz63_step6 N m kX kO p1 out4 atoms5 x6).trans ?_
    rw [(funext fun p1 => (funext fun out4 => (funext fun atoms5 => (funext fun x6 => (funext fun code7 => (funext fun i8 => zz63_in10 N m kX kO (zz63_l6 N (zz63_X6 kX) m) hrec p1 out4 atoms5 x6 code7 i8))))))]
    rfl
noncomputable abbrev zz63_K6 (N : Nat) : Ex → St → Option ((Y4 × (Bool × Unit)) × Unit) := (blockK 0 (seqK ((A_zz63).shape 31) (run (A_zz63) N (codeAt Try.f45 [1, 1, 1, 1, 1])) zz63_z))
noncomputable abbrev zz63_k6 (N : Nat) : St → Option ((Y4 × (Bool × Unit)) × Unit) := fun st' => run (A_zz63) N (codeAt Try.f45 [1, 1, 1, 1, 1]) st' zz63_z
theorem zz63_after6 (N : Nat) (out4 : Y4) : zz63_X6 (zz63_k6 N) out4 = zz63_a6 out4 := by kernel_rfl
theorem zz63_in6 (N : Nat) (p1 : Y2) (out4 : Y4) (atoms5 : Y4) (x6 : Int) : zz63_R6 N N (zz63_K6 N) p1 out4 atoms5 x6 = zz63_F6 N p1 out4 atoms5 x6 :=
  have h : zz63_X6 (zz63_k6 N) = (zz63_a6) := (funext fun out4 => zz63_after6 N out4)
  ((iter_ex (fun st => by kernel_rfl) (fun st => by kernel_rfl)).trans (zz63_iter6 N (zz63_k6 N) (fun j st => (zz63_K6 N) (.exit j) st) N p1 out4 atoms5 x6)).trans (congrArg (fun k => zz63_l6 N k N p1 out4 atoms5 x6) h)
theorem run0_zz63 (N : Nat) (x : (S_zz63).a.den) : runF (A_zz63) N Try.f45 S_zz63 x = (zz63_s (zz63_R6 N N (zz63_K6 N)) x.1) := by kernel_rfl
theorem run_zz63 (N : Nat) (x : (S_zz63).a.den) : runF (A_zz63) N Try.f45 S_zz63 x = zz63 N x.1 := by
  refine (run0_zz63 N x).trans ?_
  rw [(funext fun p1 => (funext fun out4 => (funext fun atoms5 => (funext fun x6 => zz63_in6 N p1 out4 atoms5 x6))))]
  rfl
theorem fn_zz63 : FnOk Try.prog 45 := ⟨_, Try.func45, by kernel_rfl, by kernel_rfl⟩
theorem good_zz63 : Gx.Good Try.prog 45 S_zz63 := good_of_run Try.func45 (of_decide_eq_true (by kernel_rfl)) fun x r h => ⟨A_zz63, big, mkCfg_ok tabOk, mkCfg_sigs (show SigsOk Try.prog [(85, S_zz23), (95, S_zz61), (96, S_zz11), (97, S_zz62)] from ⟨⟨fn_zz23, good_zz23⟩, ⟨fn_zz61, good_zz61⟩, ⟨fn_zz11, good_zz11⟩, ⟨fn_zz62, good_zz62⟩, trivial⟩), (run_zz63 big x).trans h⟩

/-! zz64 -/
def zz64_s (o_0 : Y5) (x_1 : Int) (y_2 : Int) : Option (Bool × Unit) :=
  cond (decide (x_1 ≠ y_2))
  ((atI o_0 x_1).bind fun xq1 =>
  (atI xq1 y_2).bind fun xq2 =>
  some (xq2, (())))
  (some (false, (())))
def zz64 (o_0 : Y5) (x_1 : Int) (y_2 : Int) : Option (Bool × Unit) := zz64_s o_0 x_1 y_2
def S_zz64 : Sig := { a := (.pair (.sl (.sl .bool)) (.pair I (.pair I .unit))), md := [0, 0, 0], mf := [], m := .unit, r := .bool, rf := .i, f := fun x => zz64 x.1 x.2.1 x.2.2.1 }
def A_zz64 : Cfg := mkCfg tab [] []
theorem run_zz64 (N : Nat) (x : (S_zz64).a.den) : runF (A_zz64) N Try.f84 S_zz64 x = zz64 x.1 x.2.1 x.2.2.1 := by kernel_rfl
theorem fn_zz64 : FnOk Try.prog 84 := ⟨_, Try.func84, by kernel_rfl, by kernel_rfl⟩
theorem good_zz64 : Gx.Good Try.prog 84 S_zz64 := good_of_run Try.func84 (of_decide_eq_true (by kernel_rfl)) fun x r h => ⟨A_zz64, big, mkCfg_ok tabOk, mkCfg_sigs (show SigsOk Try.prog [] from trivial), (run_zz64 big x).trans h⟩

/-! zz65 -/
def zz65_b4 (rec : Y5 → Int → Int → Int → Int → Option (Bool × Unit)) (k : Option (Bool × Unit)) (o0 : Y5) (x1 : Int) (y2 : Int) (t14 : Int) (t15 : Int) : Option (Bool × Unit) :=
  cond (decide (t15 < t14))
  ((zz64 o0 x1 t15).bind fun rq2 =>
  cond rq2.1
  ((zz64 o0 t15 y2).bind fun rq3 =>
  cond rq3.1
  (some (false, (())))
  (rec o0 x1 y2 t14 (IntKind.i64.wrap (t15 + (1 : Int)))))
  (rec o0 x1 y2 t14 (IntKind.i64.wrap (t15 + (1 : Int)))))
  (k)
def zz65_a4 : Option (Bool × Unit) :=
  some (true, (()))
def zz65_s (L4 : Y5 → Int → Int → Int → Int → Option (Bool × Unit)) (o_0 : Y5) (x_1 : Int) (y_2 : Int) : Option (Bool × Unit) :=
  (zz64 o_0 x_1 y_2).bind fun rq1 =>
  cond (!rq1.1)
  (some (false, (())))
  (L4 o_0 x_1 y_2 (o_0.length : Int) (0 : Int))
def zz65_l4 (N : Nat) (k : Option (Bool × Unit)) : Nat → Y5 → Int → Int → Int → Int → Option (Bool × Unit)
  | 0, _, _, _, _, _ => none
  | m + 1, o0, x1, y2, t14, t15 => zz65_b4 (zz65_l4 N k m) k o0 x1 y2 t14 t15
def zz65_F4 (N : Nat) (o0 : Y5) (x1 : Int) (y2 : Int) (t14 : Int) (t15 : Int) : Option (Bool × Unit) := zz65_l4 N (zz65_a4) N o0 x1 y2 t14 t15
def zz65 (N : Nat) (o_0 : Y5) (x_1 : Int) (y_2 : Int) : Option (Bool × Unit) := zz65_s (zz65_F4 N) o_0 x_1 y_2
def S_zz65 : Sig := { a := (.pair (.sl (.sl .bool)) (.pair I (.pair I .unit))), md := [0, 0, 0], mf := [], m := .unit, r := .bool, rf := .i, f := fun x => zz65 big x.1 x.2.1 x.2.2.1 }
def A_zz65 : Cfg := mkCfg tab [(84, S_zz64)] [(8, [.as (.sl (.sl .bool)) .i, .as I .i, .as I .i, .drop, .drop, .drop, .drop, .drop, .drop, .drop, .drop, .drop, .drop, .drop, .as I .i, .as I .i]), (19, [])]
noncomputable def zz65_R4 (N n : Nat) (K : Ex → St → Option (Bool × Unit)) (o0 : Y5) (x1 : Int) (y2 : Int) (t14 : Int) (t15 : Int) : Option (Bool × Unit) := iter ((A_zz65).shape 8) (run (A_zz65) N (codeAt Try.f124 [1, 1, 0, 1, 0, 0])) n ([.val (.sl (.sl .bool)) .i o0, .val I .i x1, .val I .i y2, .u, .u, .u, .u, .u, .u, .u, .u, .u, .u, .u, .val I .i t14, .val I .i t15] ++ List.replicate 13 .u) K
noncomputable abbrev zz65_z : Ex → St → Option (Bool × Unit) := finish (A_zz65) S_zz65 Try.f124.results.toList
noncomputable abbrev zz65_X4 (kX : St → Option (Bool × Unit)) : Option (Bool × Unit) := kX ([] ++ List.replicate 29 .u)
noncomputable abbrev zz65_E4 (kX : St → Option (Bool × Unit)) (kO : Nat → St → Option (Bool × Unit)) : Ex → St → Option (Bool × Unit) := exK zz65_z 0 ((A_zz65).shape 19) kX kO
theorem zz65_step4 (N : Nat) (m : Nat) (kX : St → Option (Bool × Unit)) (kO : Nat → St → Option (Bool × Unit)) (o0 : Y5) (x1 : Int) (y2 : Int) (t14 : Int) (t15 : Int) : zz65_R4 N (m + 1) (zz65_E4 kX kO) o0 x1 y2 t14 t15 = zz65_b4 (zz65_R4 N m (zz65_E4 kX kO)) (zz65_X4 kX) o0 x1 y2 t14 t15 := by kernel_rfl
theorem zz65_iter4 (N : Nat) (kX : St → Option (Bool × Unit)) (kO : Nat → St → Option (Bool × Unit)) : ∀ (n : Nat) (o0 : Y5) (x1 : Int) (y2 : Int) (t14 : Int) (t15 : Int), zz65_R4 N n (zz65_E4 kX kO) o0 x1 y2 t14 t15 = zz65_l4 N (zz65_X4 kX) n o0 x1 y2 t14 t15
  | 0, _, _, _, _, _ => rfl
  | m + 1, o0, x1, y2, t14, t15 => by
    have hrec : zz65_R4 N m (zz65_E4 kX kO) = (zz65_l4 N (zz65_X4 kX) m) := (funext fun o0 => (funext fun x1 => (funext fun y2 => (funext fun t14 => (funext fun t15 => zz65_iter4 N kX kO m o0 x1 y2 t14 t15)))))
    refine (zz65_step4 N m kX kO o0 x1 y2 t14 t15).trans ?_
    rw [hrec]
    rfl
noncomputable abbrev zz65_K4 (N : Nat) : Ex → St → Option (Bool × Unit) := (blockK 0 (seqK ((A_zz65).shape 19) (run (A_zz65) N (codeAt Try.f124 [1, 1, 1])) zz65_z))
noncomputable abbrev zz65_k4 (N : Nat) : St → Option (Bool × Unit) := fun st' => run (A_zz65) N (codeAt Try.f124 [1, 1, 1]) st' zz65_z
theorem zz65_after4 (N : Nat) : zz65_X4 (zz65_k4 N) = zz65_a4 := by kernel_rfl
theorem zz65_in4 (N : Nat) (o0 : Y5) (x1 : Int) (y2 : Int) (t14 : Int) (t15 : Int) : zz65_R4 N N (zz65_K4 N) o0 x1 y2 t14 t15 = zz65_F4 N o0 x1 y2 t14 t15 :=
  have h : zz65_X4 (zz65_k4 N) = (zz65_a4) := zz65_after4 N
  ((iter_ex (fun st => by kernel_rfl) (fun st => by kernel_rfl)).trans (zz65_iter4 N (zz65_k4 N) (fun j st => (zz65_K4 N) (.exit j) st) N o0 x1 y2 t14 t15)).trans (congrArg (fun k => zz65_l4 N k N o0 x1 y2 t14 t15) h)
theorem run0_zz65 (N : Nat) (x : (S_zz65).a.den) : runF (A_zz65) N Try.f124 S_zz65 x = (zz65_s (zz65_R4 N N (zz65_K4 N)) x.1 x.2.1 x.2.2.1) := by kernel_rfl
theorem run_zz65 (N : Nat) (x : (S_zz65).a.den) : runF (A_zz65) N Try.f124 S_zz65 x = zz65 N x.1 x.2.1 x.2.2.1 := by
  refine (run0_zz65 N x).trans ?_
  rw [(funext fun o0 => (funext fun x1 => (funext fun y2 => (funext fun t14 => (funext fun t15 => zz65_in4 N o0 x1 y2 t14 t15)))))]
  rfl
theorem fn_zz65 : FnOk Try.prog 124 := ⟨_, Try.func124, by kernel_rfl, by kernel_rfl⟩
theorem good_zz65 : Gx.Good Try.prog 124 S_zz65 := good_of_run Try.func124 (of_decide_eq_true (by kernel_rfl)) fun x r h => ⟨A_zz65, big, mkCfg_ok tabOk, mkCfg_sigs (show SigsOk Try.prog [(84, S_zz64)] from ⟨⟨fn_zz64, good_zz64⟩, trivial⟩), (run_zz65 big x).trans h⟩

/-! zz66 -/
def zz66_s (y_0 : Int) (p_1 : Y5) (p_2 : Int) : Option (Bool × Unit) :=
  (zz65 big p_1 p_2 y_0).bind fun rq1 =>
  some (rq1.1, (()))
def zz66 (y_0 : Int) (p_1 : Y5) (p_2 : Int) : Option (Bool × Unit) := zz66_s y_0 p_1 p_2
def S_zz66 : Sig := { a := (.pair I (.pair (.ptr (.sl (.sl .bool))) (.pair (.ptr I) .unit))), md := [0, 0, 0], mf := [], m := .unit, r := .bool, rf := .i, f := fun x => zz66 x.1 x.2.1 x.2.2.1 }
def A_zz66 : Cfg := mkCfg tab [(124, S_zz65)] []
theorem run_zz66 (N : Nat) (x : (S_zz66).a.den) : runF (A_zz66) N Try.f145 S_zz66 x = zz66 x.1 x.2.1 x.2.2.1 := by kernel_rfl
theorem fn_zz66 : FnOk Try.prog 145 := ⟨_, Try.func145, by kernel_rfl, by kernel_rfl⟩
theorem good_zz66 : Gx.Good Try.prog 145 S_zz66 := good_of_run Try.func145 (of_decide_eq_true (by kernel_rfl)) fun x r h => ⟨A_zz66, big, mkCfg_ok tabOk, mkCfg_sigs (show SigsOk Try.prog [(124, S_zz65)] from ⟨⟨fn_zz65, good_zz65⟩, trivial⟩), (run_zz66 big x).trans h⟩

/-! zz67 -/
def zz67_b3 (rec : (Y5 × (Int × Unit)) → Y4 → Int → Int → Option (Y4 × Unit)) (k : Y4 → Option (Y4 × Unit)) (so1 : (Y5 × (Int × Unit))) (list5 : Y4) (t9 : Int) (t10 : Int) : Option (Y4 × Unit) :=
  cond (decide (t10 < t9))
  ((zz66 t10 so1.1 so1.2.1).bind fun rq1 =>
  cond rq1.1
  ((appI list5 [t10]).bind fun xq2 =>
  rec so1 xq2 t9 (IntKind.i64.wrap (t10 + (1 : Int))))
  (rec so1 list5 t9 (IntKind.i64.wrap (t10 + (1 : Int)))))
  (k list5)
def zz67_a3 (list5 : Y4) : Option (Y4 × Unit) :=
  some (list5, (()))
def zz67_s (L3 : (Y5 × (Int × Unit)) → Y4 → Int → Int → Option (Y4 × Unit)) (o_0 : Y5) (so_1 : (Y5 × (Int × Unit))) : Option (Y4 × Unit) :=
  L3 so_1 [] (o_0.length : Int) (0 : Int)
def zz67_l3 (N : Nat) (k : Y4 → Option (Y4 × Unit)) : Nat → (Y5 × (Int × Unit)) → Y4 → Int → Int → Option (Y4 × Unit)
  | 0, _, _, _, _ => none
  | m + 1, so1, list5, t9, t10 => zz67_b3 (zz67_l3 N k m) k so1 list5 t9 t10
def zz67_F3 (N : Nat) (so1 : (Y5 × (Int × Unit))) (list5 : Y4) (t9 : Int) (t10 : Int) : Option (Y4 × Unit) := zz67_l3 N (zz67_a3) N so1 list5 t9 t10
def zz67 (N : Nat) (o_0 : Y5) (so_1 : (Y5 × (Int × Unit))) : Option (Y4 × Unit) := zz67_s (zz67_F3 N) o_0 so_1
def S_zz67 : Sig := { a := (.pair (.sl (.sl .bool)) (.pair (.clo 145 0 (.pair (.ptr (.sl (.sl .bool))) (.pair (.ptr I) .unit))) .unit)), md := [0, 0], mf := [], m := .unit, r := (.sl I), rf := (.o .i), f := fun x => zz67 big x.1 x.2.1 }
def A_zz67 : Cfg := mkCfg tab [(145, S_zz66)] [(6, [.drop, .as (.clo 145 0 (.pair (.ptr (.sl (.sl .bool))) (.pair (.ptr I) .unit))) .i, .drop, .drop, .drop, .as (.sl I) (.o .i), .drop, .drop, .drop, .as I .i, .as I .i]), (17, [.drop, .drop, .drop, .drop, .drop, .as (.sl I) (.o .i)])]
noncomputable def zz67_R3 (N n : Nat) (K : Ex → St → Option (Y4 × Unit)) (so1 : (Y5 × (Int × Unit))) (list5 : Y4) (t9 : Int) (t10 : Int) : Option (Y4 × Unit) := iter ((A_zz67).shape 6) (run (A_zz67) N (codeAt Try.f65 [1, 1, 0, 1, 0, 0])) n ([.u, .val (.clo 145 0 (.pair (.ptr (.sl (.sl .bool))) (.pair (.ptr I) .unit))) .i so1, .u, .u, .u, .val (.sl I) (.o .i) list5, .u, .u, .u, .val I .i t9, .val I .i t10] ++ List.replicate 11 .u) K
noncomputable abbrev zz67_z : Ex → St → Option (Y4 × Unit) := finish (A_zz67) S_zz67 Try.f65.results.toList
noncomputable abbrev zz67_X3 (kX : St → Option (Y4 × Unit)) : Y4 → Option (Y4 × Unit) := fun (list5 : Y4) => kX ([.u, .u, .u, .u, .u, .val (.sl I) (.o .i) list5] ++ List.replicate 16 .u)
noncomputable abbrev zz67_E3 (kX : St → Option (Y4 × Unit)) (kO : Nat → St → Option (Y4 × Unit)) : Ex → St → Option (Y4 × Unit) := exK zz67_z 0 ((A_zz67).shape 17) kX kO
theorem zz67_step3 (N : Nat) (m : Nat) (kX : St → Option (Y4 × Unit)) (kO : Nat → St → Option (Y4 × Unit)) (so1 : (Y5 × (Int × Unit))) (list5 : Y4) (t9 : Int) (t10 : Int) : zz67_R3 N (m + 1) (zz67_E3 kX kO) so1 list5 t9 t10 = zz67_b3 (zz67_R3 N m (zz67_E3 kX kO)) (zz67_X3 kX) so1 list5 t9 t10 := by kernel_rfl
theorem zz67_iter3 (N : Nat) (kX : St → Option (Y4 × Unit)) (kO : Nat → St → Option (Y4 × Unit)) : ∀ (n : Nat) (so1 : (Y5 × (Int × Unit))) (list5 : Y4) (t9 : Int) (t10 : Int), zz67_R3 N n (zz67_E3 kX kO) so1 list5 t9 t10 = zz67_l3 N (zz67_X3 kX) n so1 list5 t9 t10
  | 0, _, _, _, _ => rfl
  | m + 1, so1, list5, t9, t10 => by
    have hrec : zz67_R3 N m (zz67_E3 kX kO) = (zz67_l3 N (zz67_X3 kX) m) := (funext fun so1 => (funext fun list5 => (funext fun t9 => (funext fun t10 => zz67_iter3 N kX kO m so1 list5 t9 t10))))
    refine (zz67_step3 N m kX kO so1 list5 t9 t10).trans ?_
    rw [hrec]
    rfl
noncomputable abbrev zz67_K3 (N : Nat) : Ex → St → Option (Y4 × Unit) := (blockK 0 (seqK ((A_zz67).shape 17) (run (A_zz67) N (codeAt Try.f65 [1, 1, 1])) zz67_z))
noncomputable abbrev zz67_k3 (N : Nat) : St → Option (Y4 × Unit) := fun st' => run (A_zz67) N (codeAt Try.f65 [1, 1, 1]) st' zz67_z
theorem zz67_after3 (N : Nat) (list5 : Y4) : zz67_X3 (zz67_k3 N) list5 = zz67_a3 list5 := by kernel_rfl
theorem zz67_in3 (N : Nat) (so1 : (Y5 × (Int × Unit))) (list5 : Y4) (t9 : Int) (t10 : Int) : zz67_R3 N N (zz67_K3 N) so1 list5 t9 t10 = zz67_F3 N so1 list5 t9 t10 :=
  have h : zz67_X3 (zz67_k3 N) = (zz67_a3) := (funext fun list5 => zz67_after3 N list5)
  ((iter_ex (fun st => by kernel_rfl) (fun st => by kernel_rfl)).trans (zz67_iter3 N (zz67_k3 N) (fun j st => (zz67_K3 N) (.exit j) st) N so1 list5 t9 t10)).trans (congrArg (fun k => zz67_l3 N k N so1 list5 t9 t10) h)
theorem run0_zz67 (N : Nat) (x : (S_zz67).a.den) : runF (A_zz67) N Try.f65 S_zz67 x = (zz67_s (zz67_R3 N N (zz67_K3 N)) x.1 x.2.1) := by kernel_rfl
theorem run_zz67 (N : Nat) (x : (S_zz67).a.den) : runF (A_zz67) N Try.f65 S_zz67 x = zz67 N x.1 x.2.1 := by
  refine (run0_zz67 N x).trans ?_
  rw [(funext fun so1 => (funext fun list5 => (funext fun t9 => (funext fun t10 => zz67_in3 N so1 list5 t9 t10))))]
  rfl
theorem fn_zz67 : FnOk Try.prog 65 := ⟨_, Try.func65, by kernel_rfl, by kernel_rfl⟩
theorem good_zz67 : Gx.Good Try.prog 65 S_zz67 := good_of_run Try.func65 (of_decide_eq_true (by kernel_rfl)) fun x r h => ⟨A_zz67, big, mkCfg_ok tabOk, mkCfg_sigs (show SigsOk Try.prog [(145, S_zz66)] from ⟨⟨fn_zz66, good_zz66⟩, trivial⟩), (run_zz67 big x).trans h⟩

/-! zz68 -/
def zz68_s (o_0 : Y5) (x_1 : Int) : Option (Y4 × Unit) :=
  (zz67 big o_0 (o_0, x_1, ())).bind fun rq1 =>
  some (rq1.1, (()))
def zz68 (o_0 : Y5) (x_1 : Int) : Option (Y4 × Unit) := zz68_s o_0 x_1
def S_zz68 : Sig := { a := (.pair (.sl (.sl .bool)) (.pair I .unit)), md := [0, 0], mf := [], m := .unit, r := (.sl I), rf := (.o .i), f := fun x => zz68 x.1 x.2.1 }
def A_zz68 : Cfg := mkCfg tab [(65, S_zz67)] [(3, [.drop, .drop, .as (.ptr (.sl (.sl .bool))) .i, .as (.ptr I) .i])]
theorem run_zz68 (N : Nat) (x : (S_zz68).a.den) : runF (A_zz68) N Try.f123 S_zz68 x = zz68 x.1 x.2.1 := by kernel_rfl
theorem fn_zz68 : FnOk Try.prog 123 := ⟨_, Try.func123, by kernel_rfl, by kernel_rfl⟩
theorem good_zz68 : Gx.Good Try.prog 123 S_zz68 := good_of_run Try.func123 (of_decide_eq_true (by kernel_rfl)) fun x r h => ⟨A_zz68, big, mkCfg_ok tabOk, mkCfg_sigs (show SigsOk Try.prog [(65, S_zz67)] from ⟨⟨fn_zz67, good_zz67⟩, trivial⟩), (run_zz68 big x).trans h⟩

/-! zz69 -/
def zz69_s (l_0 : Y1) : Option (Y4 × Unit) :=
  (l_0).bind fun xq1 =>
  (zz39 big l_0).bind fun rq2 =>
  (zz68 xq1.1 rq2.1).bind fun rq3 =>
  some (rq3.1, (()))
def zz69 (l_0 : Y1) : Option (Y4 × Unit) := zz69_s l_0
def S_zz69 : Sig := { a := (.pair (.opt (.pair (.sl (.sl .bool)) (.pair (.sl (.sl I)) (.pair (.sl (.sl I)) .unit)))) .unit), md := [0], mf := [], m := .unit, r := (.sl I), rf := (.o .i), f := fun x => zz69 x.1 }
def A_zz69 : Cfg := mkCfg tab [(70, S_zz39), (123, S_zz68)] []
theorem run_zz69 (N : Nat) (x : (S_zz69).a.den) : runF (A_zz69) N Try.f98 S_zz69 x = zz69 x.1 := by kernel_rfl
theorem fn_zz69 : FnOk Try.prog 98 := ⟨_, Try.func98, by kernel_rfl, by kernel_rfl⟩
theorem good_zz69 : Gx.Good Try.prog 98 S_zz69 := good_of_run Try.func98 (of_decide_eq_true (by kernel_rfl)) fun x r h => ⟨A_zz69, big, mkCfg_ok tabOk, mkCfg_sigs (show SigsOk Try.prog [(70, S_zz39), (123, S_zz68)] from ⟨⟨fn_zz39, good_zz39⟩, ⟨fn_zz68, good_zz68⟩, trivial⟩), (run_zz69 big x).trans h⟩

/-! zz70 -/
def zz70_b10 (rec : Y1 → Y4 → Int → Int → Int → Int → Y4 → Int → Int → Option ((Y4 × (Bool × Unit)) × Unit)) (k : Y1 → Y4 → Int → Int → Int → Option ((Y4 × (Bool × Unit)) × Unit)) (l4 : Y1) (list6 : Y4) (x7 : Int) (code8 : Int) (t24 : Int) (t25 : Int) (t29 : Y4) (t30 : Int) (t31 : Int) : Option ((Y4 × (Bool × Unit)) × Unit) :=
  cond (decide (t31 < t30))
  ((atI t29 t31).bind fun _ =>
  (t29[t31.toNat]?).bind fun xq4 =>
  (l4).bind fun xq5 =>
  (atI xq5.1 xq4).bind fun xq6 =>
  (atI xq6 x7).bind fun xq7 =>
  cond xq7
  ((shlI IntKind.i64 (1 : Int) t31).bind fun xq8 =>
  rec l4 list6 x7 (IntKind.i64.wrap (code8 + xq8)) t24 t25 t29 t30 (IntKind.i64.wrap (t31 + (1 : Int))))
  (rec l4 list6 x7 code8 t24 t25 t29 t30 (IntKind.i64.wrap (t31 + (1 : Int)))))
  (k l4 list6 code8 t24 t25)
def zz70_a10 (rec : Y1 → Y4 → Int → Int → Option ((Y4 × (Bool × Unit)) × Unit)) (l4 : Y1) (list6 : Y4) (code8 : Int) (t24 : Int) (t25 : Int) : Option ((Y4 × (Bool × Unit)) × Unit) :=
  (appI list6 [code8]).bind fun xq9 =>
  rec l4 xq9 t24 (IntKind.i64.wrap (t25 + (1 : Int)))
def zz70_b6 (L10 : Y1 → Y4 → Int → Int → Int → Int → Y4 → Int → Int → Option ((Y4 × (Bool × Unit)) × Unit)) (k : Y4 → Option ((Y4 × (Bool × Unit)) × Unit)) (l4 : Y1) (list6 : Y4) (t24 : Int) (t25 : Int) : Option ((Y4 × (Bool × Unit)) × Unit) :=
  cond (decide (t25 < t24))
  ((zz69 l4).bind fun rq3 =>
  L10 l4 list6 t25 (0 : Int) t24 t25 rq3.1 (rq3.1.length : Int) (0 : Int))
  (k list6)
def zz70_a6 (list6 : Y4) : Option ((Y4 × (Bool × Unit)) × Unit) :=
  some ((list6, true, ()), (()))
def zz70_s (L6 : Y1 → Y4 → Int → Int → Option ((Y4 × (Bool × Unit)) × Unit)) (p_0 : Y2) : Option ((Y4 × (Bool × Unit)) × Unit) :=
  (zz49 p_0).bind fun rq1 =>
  cond (!rq1.1.2.1)
  (some (([], false, ()), (())))
  ((rq1.1.1).bind fun xq2 =>
  L6 rq1.1.1 [] (xq2.1.length : Int) (0 : Int))
def zz70_l10 (N : Nat) (k : Y1 → Y4 → Int → Int → Int → Option ((Y4 × (Bool × Unit)) × Unit)) : Nat → Y1 → Y4 → Int → Int → Int → Int → Y4 → Int → Int → Option ((Y4 × (Bool × Unit)) × Unit)
  | 0, _, _, _, _, _, _, _, _, _ => none
  | m + 1, l4, list6, x7, code8, t24, t25, t29, t30, t31 => zz70_b10 (zz70_l10 N k m) k l4 list6 x7 code8 t24 t25 t29 t30 t31
def zz70_F10 (N : Nat) (rec : Y1 → Y4 → Int → Int → Option ((Y4 × (Bool × Unit)) × Unit)) (k : Y4 → Option ((Y4 × (Bool × Unit)) × Unit)) (l4 : Y1) (list6 : Y4) (x7 : Int) (code8 : Int) (t24 : Int) (t25 : Int) (t29 : Y4) (t30 : Int) (t31 : Int) : Option ((Y4 × (Bool × Unit)) × Unit) := zz70_l10 N (zz70_a10 rec) N l4 list6 x7 code8 t24 t25 t29 t30 t31
def zz70_l6 (N : Nat) (k : Y4 → Option ((Y4 × (Bool × Unit)) × Unit)) : Nat → Y1 → Y4 → Int → Int → Option ((Y4 × (Bool × Unit)) × Unit)
  | 0, _, _, _, _ => none
  | m + 1, l4, list6, t24, t25 => zz70_b6 (zz70_F10 N (zz70_l6 N k m) k) k l4 list6 t24 t25
def zz70_F6 (N : Nat) (l4 : Y1) (list6 : Y4) (t24 : Int) (t25 : Int) : Option ((Y4 × (Bool × Unit)) × Unit) := zz70_l6 N (zz70_a6) N l4 list6 t24 t25
def zz70 (N : Nat) (p_0 : Y2) : Option ((Y4 × (Bool × Unit)) × Unit) := zz70_s (zz70_F6 N) p_0
def S_zz70 : Sig := { a := (.pair (.pair (.sl (.sl I)) .unit) .unit), md := [0], mf := [], m := .unit, r := (.tup (.pair (.sl I) (.pair .bool .unit))), rf := (.p (.o .i) .i), f := fun x => zz70 big x.1 }
def A_zz70 : Cfg := mkCfg tab [(87, S_zz49), (98, S_zz69)] [(12, [.drop, .drop, .drop, .drop, .as (.opt (.pair (.sl (.sl .bool)) (.pair (.sl (.sl I)) (.pair (.sl (.sl I)) .unit)))) .i, .drop, .as (.sl I) (.o .i), .drop, .drop, .drop, .drop, .drop, .drop, .drop, .drop, .drop, .drop, .drop, .drop, .drop, .drop, .drop, .drop, .drop, .as I .i, .as I .i]), (20, [.drop, .drop, .drop, .drop, .as (.opt (.pair (.sl (.sl .bool)) (.pair (.sl (.sl I)) (.pair (.sl (.sl I)) .unit)))) .i, .drop, .as (.sl I) (.o .i), .as I .i, .as I .i, .drop, .drop, .drop, .drop, .drop, .drop, .drop, .drop, .drop, .drop, .drop, .drop, .drop, .drop, .drop, .as I .i, .as I .i, .drop, .drop, .drop, .as (.sl I) (.o .i), .as I .i, .as I .i]), (35, [.drop, .drop, .drop, .drop, .drop, .drop, .as (.sl I) (.o .i)]), (31, [.drop, .drop, .drop, .drop, .as (.opt (.pair (.sl (.sl .bool)) (.pair (.sl (.sl I)) (.pair (.sl (.sl I)) .unit)))) .i, .drop, .as (.sl I) (.o .i), .drop, .as I .i, .drop, .drop, .drop, .drop, .drop, .drop, .drop, .drop, .drop, .drop, .drop, .drop, .drop, .drop, .drop, .as I .i, .as I .i])]
noncomputable def zz70_R6 (N n : Nat) (K : Ex → St → Option ((Y4 × (Bool × Unit)) × Unit)) (l4 : Y1) (list6 : Y4) (t24 : Int) (t25 : Int) : Option ((Y4 × (Bool × Unit)) × Unit) := iter ((A_zz70).shape 12) (run (A_zz70) N (codeAt Try.f46 [1, 1, 1, 1, 0, 1, 0, 0])) n ([.u, .u, .u, .u, .val (.opt (.pair (.sl (.sl .bool)) (.pair (.sl (.sl I)) (.pair (.sl (.sl I)) .unit)))) .i l4, .u, .val (.sl I) (.o .i) list6, .u, .u, .u, .u, .u, .u, .u, .u, .u, .u, .u, .u, .u, .u, .u, .u, .u, .val I .i t24, .val I .i t25] ++ List.replicate 31 .u) K
noncomputable def zz70_R10 (N n : Nat) (K : Ex → St → Option ((Y4 × (Bool × Unit)) × Unit)) (l4 : Y1) (list6 : Y4) (x7 : Int) (code8 : Int) (t24 : Int) (t25 : Int) (t29 : Y4) (t30 : Int) (t31 : Int) : Option ((Y4 × (Bool × Unit)) × Unit) := iter ((A_zz70).shape 20) (run (A_zz70) N (codeAt Try.f46 [1, 1, 1, 1, 0, 1, 0, 0, 1, 1, 0, 0, 1, 1, 0, 1, 0, 0])) n ([.u, .u, .u, .u, .val (.opt (.pair (.sl (.sl .bool)) (.pair (.sl (.sl I)) (.pair (.sl (.sl I)) .unit)))) .i l4, .u, .val (.sl I) (.o .i) list6, .val I .i x7, .val I .i code8, .u, .u, .u, .u, .u, .u, .u, .u, .u, .u, .u, .u, .u, .u, .u, .val I .i t24, .val I .i t25, .u, .u, .u, .val (.sl I) (.o .i) t29, .val I .i t30, .val I .i t31] ++ List.replicate 25 .u) K
noncomputable abbrev zz70_z : Ex → St → Option ((Y4 × (Bool × Unit)) × Unit) := finish (A_zz70) S_zz70 Try.f46.results.toList
noncomputable abbrev zz70_X6 (kX : St → Option ((Y4 × (Bool × Unit)) × Unit)) : Y4 → Option ((Y4 × (Bool × Unit)) × Unit) := fun (list6 : Y4) => kX ([.u, .u, .u, .u, .u, .u, .val (.sl I) (.o .i) list6] ++ List.replicate 50 .u)
noncomputable abbrev zz70_E6 (kX : St → Option ((Y4 × (Bool × Unit)) × Unit)) (kO : Nat → St → Option ((Y4 × (Bool × Unit)) × Unit)) : Ex → St → Option ((Y4 × (Bool × Unit)) × Unit) := exK zz70_z 0 ((A_zz70).shape 35) kX kO
noncomputable abbrev zz70_X10 (kX : St → Option ((Y4 × (Bool × Unit)) × Unit)) : Y1 → Y4 → Int → Int → Int → Option ((Y4 × (Bool × Unit)) × Unit) := fun (l4 : Y1) (list6 : Y4) (code8 : Int) (t24 : Int) (t25 : Int) => kX ([.u, .u, .u, .u, .val (.opt (.pair (.sl (.sl .bool)) (.pair (.sl (.sl I)) (.pair (.sl (.sl I)) .unit)))) .i l4, .u, .val (.sl I) (.o .i) list6, .u, .val I .i code8, .u, .u, .u, .u, .u, .u, .u, .u, .u, .u, .u, .u, .u, .u, .u, .val I .i t24, .val I .i t25] ++ List.replicate 31 .u)
noncomputable abbrev zz70_E10 (kX : St → Option ((Y4 × (Bool × Unit)) × Unit)) (kO : Nat → St → Option ((Y4 × (Bool × Unit)) × Unit)) : Ex → St → Option ((Y4 × (Bool × Unit)) × Unit) := exK zz70_z 2 ((A_zz70).shape 31) kX kO
theorem zz70_step10 (N : Nat) (m : Nat) (kX : St → Option ((Y4 × (Bool × Unit)) × Unit)) (kO : Nat → St → Option ((Y4 × (Bool × Unit)) × Unit)) (l4 : Y1) (list6 : Y4) (x7 : Int) (code8 : Int) (t24 : Int) (t25 : Int) (t29 : Y4) (t30 : Int) (t31 : Int) : zz70_R10 N (m + 1) (zz70_E10 kX kO) l4 list6 x7 code8 t24 t25 t29 t30 t31 = zz70_b10 (zz70_R10 N m (zz70_E10 kX kO)) (zz70_X10 kX) l4 list6 x7 code8 t24 t25 t29 t30 t31 := by kernel_rfl
theorem zz70_iter10 (N : Nat) (kX : St → Option ((Y4 × (Bool × Unit)) × Unit)) (kO : Nat → St → Option ((Y4 × (Bool × Unit)) × Unit)) : ∀ (n : Nat) (l4 : Y1) (list6 : Y4) (x7 : Int) (code8 : Int) (t24 : Int) (t25 : Int) (t29 : Y4) (t30 : Int) (t31 : Int), zz70_R10 N n (zz70_E10 kX kO) l4 list6 x7 code8 t24 t25 t29 t30 t31 = zz70_l10 N (zz70_X10 kX) n l4 list6 x7 code8 t24 t25 t29 t30 t31
  | 0, _, _, _, _, _, _, _, _, _ => rfl
  | m + 1, l4, list6, x7, code8, t24, t25, t29, t30, t31 => by
    have hrec : zz70_R10 N m (zz70_E10 kX kO) = (zz70_l10 N (zz70_X10 kX) m) := (funext fun l4 => (funext fun list6 => (funext fun x7 => (funext fun code8 => (funext fun t24 => (funext fun t25 => (funext fun t29 => (funext fun t30 => (funext fun t31 => zz70_iter10 N kX kO m l4 list6 x7 code8 t24 t25 t29 t30 t31)))))))))
    refine (zz70_step10 N m kX kO l4 list6 x7 code8 t24 t25 t29 t30 t31).trans ?_
    rw [hrec]
    rfl
noncomputable abbrev zz70_K10 (N : Nat) (m : Nat) (kX : St → Option ((Y4 × (Bool × Unit)) × Unit)) (kO : Nat → St → Option ((Y4 × (Bool × Unit)) × Unit)) : Ex → St → Option ((Y4 × (Bool × Unit)) × Unit) := (blockK 2 (seqK ((A_zz70).shape 31) (run (A_zz70) N (codeAt Try.f46 [1, 1, 1, 1, 0, 1, 0, 0, 1, 1, 0, 0, 1, 1, 1])) (blockK 1 (seqK ((A_zz70).shape 33) (run (A_zz70) N (codeAt Try.f46 [1, 1, 1, 1, 0, 1, 0, 0, 1, 1, 1])) (iterK ((A_zz70).shape 12) (run (A_zz70) N (codeAt Try.f46 [1, 1, 1, 1, 0, 1, 0, 0])) m (zz70_E6 kX kO))))))
noncomputable abbrev zz70_k10 (N : Nat) (m : Nat) (kX : St → Option ((Y4 × (Bool × Unit)) × Unit)) (kO : Nat → St → Option ((Y4 × (Bool × Unit)) × Unit)) : St → Option ((Y4 × (Bool × Unit)) × Unit) := fun st' => run (A_zz70) N (codeAt Try.f46 [1, 1, 1, 1, 0, 1, 0, 0, 1, 1, 0, 0, 1, 1, 1]) st' (blockK 1 (seqK ((A_zz70).shape 33) (run (A_zz70) N (codeAt Try.f46 [1, 1, 1, 1, 0, 1, 0, 0, 1, 1, 1])) (iterK ((A_zz70).shape 12) (run (A_zz70) N (codeAt Try.f46 [1, 1, 1, 1, 0, 1, 0, 0])) m (zz70_E6 kX kO))))
theorem zz70_after10 (N : Nat) (m : Nat) (kX : St → Option ((Y4 × (Bool × Unit)) × Unit)) (kO : Nat → St → Option ((Y4 × (Bool × Unit)) × Unit)) (l4 : Y1) (list6 : Y4) (code8 : Int) (t24 : Int) (t25 : Int) : zz70_X10 (zz70_k10 N m kX kO) l4 list6 code8 t24 t25 = zz70_a10 (zz70_R6 N m (zz70_E6 kX kO)) l4 list6 code8 t24 t25 := by kernel_rfl
theorem zz70_in10 (N : Nat) (m : Nat) (kX : St → Option ((Y4 × (Bool × Unit)) × Unit)) (kO : Nat → St → Option ((Y4 × (Bool × Unit)) × Unit)) (recF : Y1 → Y4 → Int → Int → Option ((Y4 × (Bool × Unit)) × Unit)) (hrec : zz70_R6 N m (zz70_E6 kX kO) = recF) (l4 : Y1) (list6 : Y4) (x7 : Int) (code8 : Int) (t24 : Int) (t25 : Int) (t29 : Y4) (t30 : Int) (t31 : Int) : zz70_R10 N N (zz70_K10 N m kX kO) l4 list6 x7 code8 t24 t25 t29 t30 t31 = zz70_F10 N recF (zz70_X6 kX) l4 list6 x7 code8 t24 t25 t29 t30 t31 :=
  have h : zz70_X10 (zz70_k10 N m kX kO) = (zz70_a10 recF) := (funext fun l4 => (funext fun list6 => (funext fun code8 => (funext fun t24 => (funext fun t25 => (zz70_after10 N m kX kO l4 list6 code8 t24 t25).trans (by rw [hrec]))))))
  ((iter_ex (fun st => by kernel_rfl) (fun st => by kernel_rfl)).trans (zz70_iter10 N (zz70_k10 N m kX kO) (fun j st => (zz70_K10 N m kX kO) (.exit j) st) N l4 list6 x7 code8 t24 t25 t29 t30 t31)).trans (congrArg (fun k => zz70_l10 N k N l4 list6 x7 code8 t24 t25 t29 t30 t31) h)
theorem zz70_step6 (N : Nat) (m : Nat) (kX : St → Option ((Y4 × (Bool × Unit)) × Unit)) (kO : Nat → St → Option ((Y4 × (Bool × Unit)) × Unit)) (l4 : Y1) (list6 : Y4) (t24 : Int) (t25 : Int) : zz70_R6 N (m + 1) (zz70_E6 kX kO) l4 list6 t24 t25 = zz70_b6 (zz70_R10 N N (zz70_K10 N m kX kO)) (zz70_X6 kX) l4 list6 t24 t25 := by kernel_rfl
theorem zz70_iter6 (N : Nat) (kX : St → Option ((Y4 × (Bool × Unit)) × Unit)) (kO : Nat → St → Option ((Y4 × (Bool × Unit)) × Unit)) : ∀ (n : Nat) (l4 : Y1) (list6 : Y4) (t24 : Int) (t25 : Int), zz70_R6 N n (zz70_E6 kX kO) l4 list6 t24 t25 = zz70_l6 N (zz70_X6 kX) n l4 list6 t24 t25
  | 0, _, _, _, _ => rfl
  | m + 1, l4, list6, t24, t25 => by
    have hrec : zz70_R6 N m (zz70_E6 kX kO) = (zz70_l6 N (zz70_X6 kX) m) := (funext fun l4 => (funext fun list6 => (funext fun t24 => (funext fun t25 => zz70_iter6 N kX kO m l4 list6 t24 t25))))
    refine (zz70_step6 N m kX kO l4 list6 t24 t25).trans ?_
    rw [(funext fun l4 => (funext fun list6 => (funext fun x7 => (funext fun code8 => (funext fun t24 => (funext fun t25 => (funext fun t29 => (funext fun t30 => (funext fun t31 => zz70_in10 N m kX kO (zz70_l6 N (zz70_X6 kX) m) hrec l4 list6 x7 code8 t24 t25 t29 t30 t31)))))))))]
    rfl
noncomputable abbrev zz70_K6 (N : Nat) : Ex → St → Option ((Y4 × (Bool × Unit)) × Unit) := (blockK 0 (seqK ((A_zz70).shape 35) (run (A_zz70) N (codeAt Try.f46 [1, 1, 1, 1, 1])) zz70_z))
noncomputable abbrev zz70_k6 (N : Nat) : St → Option ((Y4 × (Bool × Unit)) × Unit) := fun st' => run (A_zz70) N (codeAt Try.f46 [1, 1, 1, 1, 1]) st' zz70_z
theorem zz70_after6 (N : Nat) (list6 : Y4) : zz70_X6 (zz70_k6 N) list6 = zz70_a6 list6 := by kernel_rfl
theorem zz70_in6 (N : Nat) (l4 : Y1) (list6 : Y4) (t24 : Int) (t25 : Int) : zz70_R6 N N (zz70_K6 N) l4 list6 t24 t25 = zz70_F6 N l4 list6 t24 t25 :=
  have h : zz70_X6 (zz70_k6 N) = (zz70_a6) := (funext fun list6 => zz70_after6 N list6)
  ((iter_ex (fun st => by kernel_rfl) (fun st => by kernel_rfl)).trans (zz70_iter6 N (zz70_k6 N) (fun j st => (zz70_K6 N) (.exit j) st) N l4 list6 t24 t25)).trans (congrArg (fun k => zz70_l6 N k N l4 list6 t24 t25) h)
theorem run0_zz70 (N : Nat) (x : (S_zz70).a.den) : runF (A_zz70) N Try.f46 S_zz70 x = (zz70_s (zz70_R6 N N (zz70_K6 N)) x.1) := by kernel_rfl
theorem run_zz70 (N : Nat) (x : (S_zz70).a.den) : runF (A_zz70) N Try.f46 S_zz70 x = zz70 N x.1 := by
  refine (run0_zz70 N x).trans ?_
  rw [(funext fun l4 => (funext fun list6 => (funext fun t24 => (funext fun t25 => zz70_in6 N l4 list6 t24 t25))))]
  rfl
theorem fn_zz70 : FnOk Try.prog 46 := ⟨_, Try.func46, by kernel_rfl, by kernel_rfl⟩
theorem good_zz70 : Gx.Good Try.prog 46 S_zz70 := good_of_run Try.func46 (of_decide_eq_true (by kernel_rfl)) fun x r h => ⟨A_zz70, big, mkCfg_ok tabOk, mkCfg_sigs (show SigsOk Try.prog [(87, S_zz49), (98, S_zz69)] from ⟨⟨fn_zz49, good_zz49⟩, ⟨fn_zz69, good_zz69⟩, trivial⟩), (run_zz70 big x).trans h⟩

/-! laws_FnExactCodesOf -/
def laws_FnExactCodesOf_s (aP_0 : Y2) : Option (Bool × Unit) :=
  (zz2 aP_0 (1048576 : Int)).bind fun rq1 =>
  cond (decide (rq1.1 < (0 : Int)))
  (some (true, (())))
  ((zz5 aP_0).bind fun rq2 =>
  (zz63 big rq2.1).bind fun rq3 =>
  (zz5 aP_0).bind fun rq4 =>
  (zz70 big rq4.1).bind fun rq5 =>
  (zz52 big rq5.1.1 rq3.1.1).bind fun rq6 =>
  cond (!rq6.1)
  (some (false, (())))
  (cond (((((), rq5.1.2).2).1) != ((((), rq3.1.2).2).1))
  (some (false, (())))
  ((zz5 aP_0).bind fun rq7 =>
  (zz54 rq4.1 rq7.1).bind fun rq8 =>
  cond (!rq8.1)
  (some (false, (())))
  ((zz57 rq4.1 (1 : Int)).bind fun rq9 =>
  cond (decide (rq9.1 < (0 : Int)))
  (some (false, (())))
  ((zz52 big rq5.1.1 rq3.1.1).bind fun rq10 =>
  cond (!rq10.1)
  (some (false, (())))
  (cond (((((), rq5.1.2).2).1) != ((((), rq3.1.2).2).1))
  (some (false, (())))
  ((zz55 big rq5.1.1 (1 : Int)).bind fun rq11 =>
  (zz58 big rq11.2.1 (1 : Int)).bind fun rq12 =>
  cond (decide (rq12.1 < (0 : Int)))
  (some (false, (())))
  (cond (decide (rq12.1 ≠ rq11.1))
  (some (false, (())))
  ((zz5 aP_0).bind fun rq13 =>
  (zz70 big rq13.1).bind fun rq14 =>
  (zz52 big rq14.1.1 rq3.1.1).bind fun rq15 =>
  cond (!rq15.1)
  (some (false, (())))
  (cond (((((), rq14.1.2).2).1) != ((((), rq3.1.2).2).1))
  (some (false, (())))
  ((zz58 big rq11.2.1 (1 : Int)).bind fun rq16 =>
  cond (decide (rq16.1 < (0 : Int)))
  (some (false, (())))
  (cond (decide (rq16.1 ≠ rq11.1))
  (some (false, (())))
  (some (true, (())))))))))))))))
def laws_FnExactCodesOf (aP_0 : Y2) : Option (Bool × Unit) := laws_FnExactCodesOf_s aP_0
def S_laws_FnExactCodesOf : Sig := { a := (.pair (.pair (.sl (.sl I)) .unit) .unit), md := [0], mf := [], m := .unit, r := .bool, rf := .i, f := fun x => laws_FnExactCodesOf x.1 }
def A_laws_FnExactCodesOf : Cfg := mkCfg tab [(15, S_zz2), (17, S_zz5), (45, S_zz63), (46, S_zz70), (19, S_zz52), (20, S_zz54), (21, S_zz57), (22, S_zz55), (23, S_zz58)] []
theorem run_laws_FnExactCodesOf (N : Nat) (x : (S_laws_FnExactCodesOf).a.den) : runF (A_laws_FnExactCodesOf) N Try.f11 S_laws_FnExactCodesOf x = laws_FnExactCodesOf x.1 := by kernel_rfl
theorem fn_laws_FnExactCodesOf : FnOk Try.prog 11 := ⟨_, Try.func11, by kernel_rfl, by kernel_rfl⟩
theorem good_laws_FnExactCodesOf : Gx.Good Try.prog 11 S_laws_FnExactCodesOf := good_of_run Try.func11 (of_decide_eq_true (by kernel_rfl)) fun x r h => ⟨A_laws_FnExactCodesOf, big, mkCfg_ok tabOk, mkCfg_sigs (show SigsOk Try.prog [(15, S_zz2), (17, S_zz5), (45, S_zz63), (46, S_zz70), (19, S_zz52), (20, S_zz54), (21, S_zz57), (22, S_zz55), (23, S_zz58)] from ⟨⟨fn_zz2, good_zz2⟩, ⟨fn_zz5, good_zz5⟩, ⟨fn_zz63, good_zz63⟩, ⟨fn_zz70, good_zz70⟩, ⟨fn_zz52, good_zz52⟩, ⟨fn_zz54, good_zz54⟩, ⟨fn_zz57, good_zz57⟩, ⟨fn_zz55, good_zz55⟩, ⟨fn_zz58, good_zz58⟩, trivial⟩), (run_laws_FnExactCodesOf big x).trans h⟩

/-! zz71 -/
def zz71_s (p_0 : Y2) (x_1 : Int) : Option (Bool × Unit) :=
  cond (decide ((0 : Int) ≤ x_1))
  (some (decide (x_1 < (p_0.1.length : Int)), (())))
  (some (false, (())))
def zz71 (p_0 : Y2) (x_1 : Int) : Option (Bool × Unit) := zz71_s p_0 x_1
def S_zz71 : Sig := { a := (.pair (.pair (.sl (.sl I)) .unit) (.pair I .unit)), md := [0, 0], mf := [], m := .unit, r := .bool, rf := .i, f := fun x => zz71 x.1 x.2.1 }
def A_zz71 : Cfg := mkCfg tab [] []
theorem run_zz71 (N : Nat) (x : (S_zz71).a.den) : runF (A_zz71) N Try.f89 S_zz71 x = zz71 x.1 x.2.1 := by kernel_rfl
theorem fn_zz71 : FnOk Try.prog 89 := ⟨_, Try.func89, by kernel_rfl, by kernel_rfl⟩
theorem good_zz71 : Gx.Good Try.prog 89 S_zz71 := good_of_run Try.func89 (of_decide_eq_true (by kernel_rfl)) fun x r h => ⟨A_zz71, big, mkCfg_ok tabOk, mkCfg_sigs (show SigsOk Try.prog [] from trivial), (run_zz71 big x).trans h⟩

/-! zz72 -/
def zz72_s (p_0 : Y2) (not_1 : Y4) (x_2 : Int) (y_3 : Int) : Option (Int × Unit) :=
  (atI not_1 y_3).bind fun xq1 =>
  (zz16 p_0 x_2 xq1).bind fun rq2 =>
  (atI not_1 x_2).bind fun xq3 =>
  (zz16 p_0 xq3 y_3).bind fun rq4 =>
  (zz15 p_0 rq2.1 rq4.1).bind fun rq5 =>
  some (rq5.1, (()))
def zz72 (p_0 : Y2) (not_1 : Y4) (x_2 : Int) (y_3 : Int) : Option (Int × Unit) := zz72_s p_0 not_1 x_2 y_3
def S_zz72 : Sig := { a := (.pair (.pair (.sl (.sl I)) .unit) (.pair (.sl I) (.pair I (.pair I .unit)))), md := [0, 0, 0, 0], mf := [], m := .unit, r := I, rf := .i, f := fun x => zz72 x.1 x.2.1 x.2.2.1 x.2.2.2.1 }
def A_zz72 : Cfg := mkCfg tab [(76, S_zz16), (77, S_zz15)] []
theorem run_zz72 (N : Nat) (x : (S_zz72).a.den) : runF (A_zz72) N Try.f132 S_zz72 x = zz72 x.1 x.2.1 x.2.2.1 x.2.2.2.1 := by kernel_rfl
theorem fn_zz72 : FnOk Try.prog 132 := ⟨_, Try.func132, by kernel_rfl, by kernel_rfl⟩
theorem good_zz72 : Gx.Good Try.prog 132 S_zz72 := good_of_run Try.func132 (of_decide_eq_true (by kernel_rfl)) fun x r h => ⟨A_zz72, big, mkCfg_ok tabOk, mkCfg_sigs (show SigsOk Try.prog [(76, S_zz16), (77, S_zz15)] from ⟨⟨fn_zz16, good_zz16⟩, ⟨fn_zz15, good_zz15⟩, trivial⟩), (run_zz72 big x).trans h⟩

/-! zz73 -/
def zz73_b6 (rec : Int → Y2 → Y4 → Y4 → Int → Int → Option (Y4 × Unit)) (k : Int → Y2 → Y4 → Y4 → Int → Int → Option (Y4 × Unit)) (x1 : Int) (p2 : Y2) (out5 : Y4) (not6 : Y4) (y7 : Int) (z8 : Int) : Option (Y4 × Unit) :=
  (zz72 p2 not6 y7 z8).bind fun rq2 =>
  (zz11 p2 rq2.1 x1).bind fun rq3 =>
  cond (!rq3.1)
  (rec x1 p2 out5 not6 y7 (IntKind.i64.wrap (z8 + (1 : Int))))
  (k x1 p2 out5 not6 y7 z8)
def zz73_a6 (rec : Int → Y2 → Y4 → Y4 → Int → Option (Y4 × Unit)) (x1 : Int) (p2 : Y2) (out5 : Y4) (not6 : Y4) (y7 : Int) (z8 : Int) : Option (Y4 × Unit) :=
  (appI out5 [z8]).bind fun xq4 =>
  rec x1 p2 xq4 not6 (IntKind.i64.wrap (y7 + (1 : Int)))
def zz73_b3 (L6 : Int → Y2 → Y4 → Y4 → Int → Int → Option (Y4 × Unit)) (k : Y4 → Option (Y4 × Unit)) (x1 : Int) (p2 : Y2) (out5 : Y4) (not6 : Y4) (y7 : Int) : Option (Y4 × Unit) :=
  cond (decide (y7 < (p2.1.length : Int)))
  (L6 x1 p2 out5 not6 y7 (0 : Int))
  (k out5)
def zz73_a3 (out5 : Y4) : Option (Y4 × Unit) :=
  some (out5, (()))
def zz73_s (L3 : Int → Y2 → Y4 → Y4 → Int → Option (Y4 × Unit)) (p_0 : Y2) (x_1 : Int) : Option (Y4 × Unit) :=
  (zz24 big p_0).bind fun rq1 =>
  L3 x_1 p_0 [] rq1.1 (0 : Int)
def zz73_l6 (N : Nat) (k : Int → Y2 → Y4 → Y4 → Int → Int → Option (Y4 × Unit)) : Nat → Int → Y2 → Y4 → Y4 → Int → Int → Option (Y4 × Unit)
  | 0, _, _, _, _, _, _ => none
  | m + 1, x1, p2, out5, not6, y7, z8 => zz73_b6 (zz73_l6 N k m) k x1 p2 out5 not6 y7 z8
def zz73_F6 (N : Nat) (rec : Int → Y2 → Y4 → Y4 → Int → Option (Y4 × Unit)) (k : Y4 → Option (Y4 × Unit)) (x1 : Int) (p2 : Y2) (out5 : Y4) (not6 : Y4) (y7 : Int) (z8 : Int) : Option (Y4 × Unit) := zz73_l6 N (zz73_a6 rec) N x1 p2 out5 not6 y7 z8
def zz73_l3 (N : Nat) (k : Y4 → Option (Y4 × Unit)) : Nat → Int → Y2 → Y4 → Y4 → Int → Option (Y4 × Unit)
  | 0, _, _, _, _, _ => none
  | m + 1, x1, p2, out5, not6, y7 => zz73_b3 (zz73_F6 N (zz73_l3 N k m) k) k x1 p2 out5 not6 y7
def zz73_F3 (N : Nat) (x1 : Int) (p2 : Y2) (out5 : Y4) (not6 : Y4) (y7 : Int) : Option (Y4 × Unit) := zz73_l3 N (zz73_a3) N x1 p2 out5 not6 y7
def zz73 (N : Nat) (p_0 : Y2) (x_1 : Int) : Option (Y4 × Unit) := zz73_s (zz73_F3 N) p_0 x_1
def S_zz73 : Sig := { a := (.pair (.pair (.sl (.sl I)) .unit) (.pair I .unit)), md := [0, 0], mf := [], m := .unit, r := (.sl I), rf := (.o .i), f := fun x => zz73 big x.1 x.2.1 }
def A_zz73 : Cfg := mkCfg tab [(86, S_zz24), (132, S_zz72), (96, S_zz11)] [(6, [.drop, .as I .i, .as (.ptr (.pair (.sl (.sl I)) .unit)) (.o .i), .drop, .drop, .as (.sl I) (.o .i), .as (.sl I) (.o .i), .as I .i]), (12, [.drop, .as I .i, .as (.ptr (.pair (.sl (.sl I)) .unit)) (.o .i), .drop, .drop, .as (.sl I) (.o .i), .as (.sl I) (.o .i), .as I .i, .as I .i]), (19, [.drop, .drop, .drop, .drop, .drop, .as (.sl I) (.o .i)]), (17, [.drop, .as I .i, .as (.ptr (.pair (.sl (.sl I)) .unit)) (.o .i), .drop, .drop, .as (.sl I) (.o .i), .as (.sl I) (.o .i), .as I .i, .as I .i])]
noncomputable def zz73_R3 (N n : Nat) (K : Ex → St → Option (Y4 × Unit)) (x1 : Int) (p2 : Y2) (out5 : Y4) (not6 : Y4) (y7 : Int) : Option (Y4 × Unit) := iter ((A_zz73).shape 6) (run (A_zz73) N (codeAt Try.f90 [1, 1, 0, 1, 0, 0])) n ([.u, .val I .i x1, .val (.ptr (.pair (.sl (.sl I)) .unit)) (.o .i) p2, .u, .u, .val (.sl I) (.o .i) out5, .val (.sl I) (.o .i) not6, .val I .i y7] ++ List.replicate 27 .u) K
noncomputable def zz73_R6 (N n : Nat) (K : Ex → St → Option (Y4 × Unit)) (x1 : Int) (p2 : Y2) (out5 : Y4) (not6 : Y4) (y7 : Int) (z8 : Int) : Option (Y4 × Unit) := iter ((A_zz73).shape 12) (run (A_zz73) N (codeAt Try.f90 [1, 1, 0, 1, 0, 0, 1, 0, 0, 1, 0, 0, 0])) n ([.u, .val I .i x1, .val (.ptr (.pair (.sl (.sl I)) .unit)) (.o .i) p2, .u, .u, .val (.sl I) (.o .i) out5, .val (.sl I) (.o .i) not6, .val I .i y7, .val I .i z8] ++ List.replicate 26 .u) K
noncomputable abbrev zz73_z : Ex → St → Option (Y4 × Unit) := finish (A_zz73) S_zz73 Try.f90.results.toList
noncomputable abbrev zz73_X3 (kX : St → Option (Y4 × Unit)) : Y4 → Option (Y4 × Unit) := fun (out5 : Y4) => kX ([.u, .u, .u, .u, .u, .val (.sl I) (.o .i) out5] ++ List.replicate 29 .u)
noncomputable abbrev zz73_E3 (kX : St → Option (Y4 × Unit)) (kO : Nat → St → Option (Y4 × Unit)) : Ex → St → Option (Y4 × Unit) := exK zz73_z 0 ((A_zz73).shape 19) kX kO
noncomputable abbrev zz73_X6 (kX : St → Option (Y4 × Unit)) : Int → Y2 → Y4 → Y4 → Int → Int → Option (Y4 × Unit) := fun (x1 : Int) (p2 : Y2) (out5 : Y4) (not6 : Y4) (y7 : Int) (z8 : Int) => kX ([.u, .val I .i x1, .val (.ptr (.pair (.sl (.sl I)) .unit)) (.o .i) p2, .u, .u, .val (.sl I) (.o .i) out5, .val (.sl I) (.o .i) not6, .val I .i y7, .val I .i z8] ++ List.replicate 26 .u)
noncomputable abbrev zz73_E6 (kX : St → Option (Y4 × Unit)) (kO : Nat → St → Option (Y4 × Unit)) : Ex → St → Option (Y4 × Unit) := exK zz73_z 2 ((A_zz73).shape 17) kX kO
theorem zz73_step6 (N : Nat) (m : Nat) (kX : St → Option (Y4 × Unit)) (kO : Nat → St → Option (Y4 × Unit)) (x1 : Int) (p2 : Y2) (out5 : Y4) (not6 : Y4) (y7 : Int) (z8 : Int) : zz73_R6 N (m + 1) (zz73_E6 kX kO) x1 p2 out5 not6 y7 z8 = zz73_b6 (zz73_R6 N m (zz73_E6 kX kO)) (zz73_X6 kX) x1 p2 out5 not6 y7 z8 := by kernel_rfl
theorem zz73_iter6 (N : Nat) (kX : St → Option (Y4 × Unit)) (kO : Nat → St → Option (Y4 × Unit)) : ∀ (n : Nat) (x1 : Int) (p2 : Y2) (out5 : Y4) (not6 : Y4) (y7 : Int) (z8 : Int), zz73_R6 N n (zz73_E6 kX kO) x1 p2 out5 not6 y7 z8 = zz73_l6 N (zz73_X6 kX) n x1 p2 out5 not6 y7 z8
  | 0, _, _, _, _, _, _ => rfl
  | m + 1, x1, p2, out5, not6, y7, z8 => by
    have hrec : zz73_R6 N m (zz73_E6 kX kO) = (zz73_l6 N (zz73_X6 kX) m) := (funext fun x1 => (funext fun p2 => (funext fun out5 => (funext fun not6 => (funext fun y7 => (funext fun z8 => zz73_iter6 N kX kO m x1 p2 out5 not6 y7 z8))))))
    refine (zz73_step6 N m kX kO x1 p2 out5 not6 y7 z8).trans ?_
    rw [hrec]
    rfl
noncomputable abbrev zz73_K6 (N : Nat) (m : Nat) (kX : St → Option (Y4 × Unit)) (kO : Nat → St → Option (Y4 × Unit)) : Ex → St → Option (Y4 × Unit) := (blockK 2 (seqK ((A_zz73).shape 17) (run (A_zz73) N (codeAt Try.f90 [1, 1, 0, 1, 0, 0, 1, 0, 0, 1, 1])) (blockK 1 (seqK ((A_zz73).shape 9) (run (A_zz73) N (codeAt Try.f90 [1, 1, 0, 1, 0, 0, 1, 1])) (iterK ((A_zz73).shape 6) (run (A_zz73) N (codeAt Try.f90 [1, 1, 0, 1, 0, 0])) m (zz73_E3 kX kO))))))
noncomputable abbrev zz73_k6 (N : Nat) (m : Nat) (kX : St → Option (Y4 × Unit)) (kO : Nat → St → Option (Y4 × Unit)) : St → Option (Y4 × Unit) := fun st' => run (A_zz73) N (codeAt Try.f90 [1, 1, 0, 1, 0, 0, 1, 0, 0, 1, 1]) st' (blockK 1 (seqK ((A_zz73).shape 9) (run (A_zz73) N (codeAt Try.f90 [1, 1, 0, 1, 0, 0, 1, 1])) (iterK ((A_zz73).shape 6) (run (A_zz73) N (codeAt Try.f90 [1, 1, 0, 1, 0, 0])) m (zz73_E3 kX kO))))
theorem zz73_after6 (N : Nat) (m : Nat) (kX : St → Option (Y4 × Unit)) (kO : Nat → St → Option (Y4 × Unit)) (x1 : Int) (p2 : Y2) (out5 : Y4) (not6 : Y4) (y7 : Int) (z8 : Int) : zz73_X6 (zz73_k6 N m kX kO) x1 p2 out5 not6 y7 z8 = zz73_a6 (zz73_R3 N m (zz73_E3 kX kO)) x1 p2 out5 not6 y7 z8 := by kernel_rfl
theorem zz73_in6 (N : Nat) (m : Nat) (kX : St → Option (Y4 × Unit)) (kO : Nat → St → Option (Y4 × Unit)) (recF : Int → Y2 → Y4 → Y4 → Int → Option (Y4 × Unit)) (hrec : zz73_R3 N m (zz73_E3 kX kO) = recF) (x1 : Int) (p2 : Y2) (out5 : Y4) (not6 : Y4) (y7 : Int) (z8 : Int) : zz73_R6 N N (zz73_K6 N m kX kO) x1 p2 out5 not6 y7 z8 = zz73_F6 N recF (zz73_X3 kX) x1 p2 out5 not6 y7 z8 :=
  have h : zz73_X6 (zz73_k6 N m kX kO) = (zz73_a6 recF) := (funext fun x1 => (funext fun p2 => (funext fun out5 => (funext fun not6 => (funext fun y7 => (funext fun z8 => (zz73_after6 N m kX kO x1 p2 out5 not6 y7 z8).trans (by rw [hrec])))))))
  ((iter_ex (fun st => by kernel_rfl) (fun st => by kernel_rfl)).trans (zz73_iter6 N (zz73_k6 N m kX kO) (fun j st => (zz73_K6 N m kX kO) (.exit j) st) N x1 p2 out5 not6 y7 z8)).trans (congrArg (fun k => zz73_l6 N k N x1 p2 out5 not6 y7 z8) h)
theorem zz73_step3 (N : Nat) (m : Nat) (kX : St → Option (Y4 × Unit)) (kO : Nat → St → Option (Y4 × Unit)) (x1 : Int) (p2 : Y2) (out5 : Y4) (not6 : Y4) (y7 : Int) : zz73_R3 N (m + 1) (zz73_E3 kX kO) x1 p2 out5 not6 y7 = zz73_b3 (zz73_R6 N N (zz73_K6 N m kX kO)) (zz73_X3 kX) x1 p2 out5 not6 y7 := by kernel_rfl
theorem zz73_iter3 (N : Nat) (kX : St → Option (Y4 × Unit)) (kO : Nat → St → Option (Y4 × Unit)) : ∀ (n : Nat) (x1 : Int) (p2 : Y2) (out5 : Y4) (not6 : Y4) (y7 : Int), zz73_R3 N n (zz73_E3 kX kO) x1 p2 out5 not6 y7 = zz73_l3 N (zz73_X3 kX) n x1 p2 out5 not6 y7
  | 0, _, _, _, _, _ => rfl
  | m + 1, x1, p2, out5, not6, y7 => by
    have hrec : zz73_R3 N m (zz73_E3 kX kO) = (zz73_l3 N (zz73_X3 kX) m) := (funext fun x1 => (funext fun p2 => (funext fun out5 => (funext fun not6 => (funext fun y7 => zz73_iter3 N kX kO m x1 p2 out5 not6 y7)))))
    refine (zz73_step3 N m kX kO x1 p2 out5 not6 y7).trans ?_
    rw [(funext fun x1 => (funext fun p2 => (funext fun out5 => (funext fun not6 => (funext fun y7 => (funext fun z8 => zz73_in6 N m kX kO (zz73_l3 N (zz73_X3 kX) m) hrec x1 p2 out5 not6 y7 z8))))))]
    rfl
noncomputable abbrev zz73_K3 (N : Nat) : Ex → St → Option (Y4 × Unit) := (blockK 0 (seqK ((A_zz73).shape 19) (run (A_zz73) N (codeAt Try.f90 [1, 1, 1])) zz73_z))
noncomputable abbrev zz73_k3 (N : Nat) : St → Option (Y4 × Unit) := fun st' => run (A_zz73) N (codeAt Try.f90 [1, 1, 1]) st' zz73_z
theorem zz73_after3 (N : Nat) (out5 : Y4) : zz73_X3 (zz73_k3 N) out5 = zz73_a3 out5 := by kernel_rfl
theorem zz73_in3 (N : Nat) (x1 : Int) (p2 : Y2) (out5 : Y4) (not6 : Y4) (y7 : Int) : zz73_R3 N N (zz73_K3 N) x1 p2 out5 not6 y7 = zz73_F3 N x1 p2 out5 not6 y7 :=
  have h : zz73_X3 (zz73_k3 N) = (zz73_a3) := (funext fun out5 => zz73_after3 N out5)
  ((iter_ex (fun st => by kernel_rfl) (fun st => by kernel_rfl)).trans (zz73_iter3 N (zz73_k3 N) (fun j st => (zz73_K3 N) (.exit j) st) N x1 p2 out5 not6 y7)).trans (congrArg (fun k => zz73_l3 N k N x1 p2 out5 not6 y7) h)
theorem run0_zz73 (N : Nat) (x : (S_zz73).a.den) : runF (A_zz73) N Try.f90 S_zz73 x = (zz73_s (zz73_R3 N N (zz73_K3 N)) x.1 x.2.1) := by kernel_rfl
theorem run_zz73 (N : Nat) (x : (S_zz73).a.den) : runF (A_zz73) N Try.f90 S_zz73 x = zz73 N x.1 x.2.1 := by
  refine (run0_zz73 N x).trans ?_
  rw [(funext fun x1 => (funext fun p2 => (funext fun out5 => (funext fun not6 => (funext fun y7 => zz73_in3 N x1 p2 out5 not6 y7)))))]
  rfl
theorem fn_zz73 : FnOk Try.prog 90 := ⟨_, Try.func90, by kernel_rfl, by kernel_rfl⟩
theorem good_zz73 : Gx.Good Try.prog 90 S_zz73 := good_of_run Try.func90 (of_decide_eq_true (by kernel_rfl)) fun x r h => ⟨A_zz73, big, mkCfg_ok tabOk, mkCfg_sigs (show SigsOk Try.prog [(86, S_zz24), (132, S_zz72), (96, S_zz11)] from ⟨⟨fn_zz24, good_zz24⟩, ⟨fn_zz72, good_zz72⟩, ⟨fn_zz11, good_zz11⟩, trivial⟩), (run_zz73 big x).trans h⟩

/-! zz74 -/
def zz74_s (p_0 : Y2) (x_1 : Int) : Option ((Y4 × (Bool × Unit)) × Unit) :=
  (zz23 p_0).bind fun rq1 =>
  cond (!rq1.1)
  (some (([], false, ()), (())))
  ((zz71 p_0 x_1).bind fun rq2 =>
  cond (!rq2.1)
  (some (([], false, ()), (())))
  ((zz73 big p_0 x_1).bind fun rq3 =>
  some ((rq3.1, true, ()), (()))))
def zz74 (p_0 : Y2) (x_1 : Int) : Option ((Y4 × (Bool × Unit)) × Unit) := zz74_s p_0 x_1
def S_zz74 : Sig := { a := (.pair (.pair (.sl (.sl I)) .unit) (.pair I .unit)), md := [0, 0], mf := [], m := .unit, r := (.tup (.pair (.sl I) (.pair .bool .unit))), rf := (.p (.o .i) .i), f := fun x => zz74 x.1 x.2.1 }
def A_zz74 : Cfg := mkCfg tab [(85, S_zz23), (89, S_zz71), (90, S_zz73)] []
theorem run_zz74 (N : Nat) (x : (S_zz74).a.den) : runF (A_zz74) N Try.f40 S_zz74 x = zz74 x.1 x.2.1 := by kernel_rfl
theorem fn_zz74 : FnOk Try.prog 40 := ⟨_, Try.func40, by kernel_rfl, by kernel_rfl⟩
theorem good_zz74 : Gx.Good Try.prog 40 S_zz74 := good_of_run Try.func40 (of_decide_eq_true (by kernel_rfl)) fun x r h => ⟨A_zz74, big, mkCfg_ok tabOk, mkCfg_sigs (show SigsOk Try.prog [(85, S_zz23), (89, S_zz71), (90, S_zz73)] from ⟨⟨fn_zz23, good_zz23⟩, ⟨fn_zz71, good_zz71⟩, ⟨fn_zz73, good_zz73⟩, trivial⟩), (run_zz74 big x).trans h⟩

/-! zz75 -/
def zz75_s (o_0 : Y5) (list_1 : Y4) : Option (Bool × Unit) :=
  (zz28 big list_1 (o_0.length : Int)).bind fun rq1 =>
  some (rq1.1, (()))
def zz75 (o_0 : Y5) (list_1 : Y4) : Option (Bool × Unit) := zz75_s o_0 list_1
def S_zz75 : Sig := { a := (.pair (.sl (.sl .bool)) (.pair (.sl I) .unit)), md := [0, 0], mf := [], m := .unit, r := .bool, rf := .i, f := fun x => zz75 x.1 x.2.1 }
def A_zz75 : Cfg := mkCfg tab [(101, S_zz28)] []
theorem run_zz75 (N : Nat) (x : (S_zz75).a.den) : runF (A_zz75) N Try.f91 S_zz75 x = zz75 x.1 x.2.1 := by kernel_rfl
theorem fn_zz75 : FnOk Try.prog 91 := ⟨_, Try.func91, by kernel_rfl, by kernel_rfl⟩
theorem good_zz75 : Gx.Good Try.prog 91 S_zz75 := good_of_run Try.func91 (of_decide_eq_true (by kernel_rfl)) fun x r h => ⟨A_zz75, big, mkCfg_ok tabOk, mkCfg_sigs (show SigsOk Try.prog [(101, S_zz28)] from ⟨⟨fn_zz28, good_zz28⟩, trivial⟩), (run_zz75 big x).trans h⟩

/-! zz76 -/
def zz76_b6 (rec : Y4 → Y4 → Int → Int → Int → Option (Y4 × Unit)) (k : Y4 → Y4 → Int → Int → Option (Y4 × Unit)) (list0 : Y4) (p3 : Y4) (i4 : Int) (t9 : Int) (t10 : Int) : Option (Y4 × Unit) :=
  (atI p3 i4).bind fun _ =>
  (p3[i4.toNat]?).bind fun xq4 =>
  (atI list0 xq4).bind fun xq5 =>
  (atI list0 i4).bind fun xq6 =>
  cond (decide (xq5 ≠ xq6))
  ((atI p3 i4).bind fun _ =>
  (p3[i4.toNat]?).bind fun xq7 =>
  (atI p3 i4).bind fun _ =>
  (p3[i4.toNat]?).bind fun xq8 =>
  rec list0 (p3.set i4.toNat (IntKind.i64.wrap (xq7 + (1 : Int)))) i4 t9 t10)
  (k list0 p3 t9 t10)
def zz76_a6 (rec : Y4 → Y4 → Int → Int → Option (Y4 × Unit)) (list0 : Y4) (p3 : Y4) (t9 : Int) (t10 : Int) : Option (Y4 × Unit) :=
  rec list0 p3 t9 (IntKind.i64.wrap (t10 + (1 : Int)))
def zz76_b3 (L6 : Y4 → Y4 → Int → Int → Int → Option (Y4 × Unit)) (k : Y4 → Option (Y4 × Unit)) (list0 : Y4) (p3 : Y4) (t9 : Int) (t10 : Int) : Option (Y4 × Unit) :=
  cond (decide (t10 < t9))
  ((atI p3 t10).bind fun _ =>
  (p3[t10.toNat]?).bind fun xq3 =>
  L6 list0 (p3.set t10.toNat (0 : Int)) t10 t9 t10)
  (k p3)
def zz76_a3 (p3 : Y4) : Option (Y4 × Unit) :=
  some (p3, (()))
def zz76_s (L3 : Y4 → Y4 → Int → Int → Option (Y4 × Unit)) (list_0 : Y4) : Option (Y4 × Unit) :=
  (mkI (0 : Int) (list_0.length : Int)).bind fun xq1 => (mkI (0 : Int) (list_0.length : Int)).bind fun xq2 => cond (decide ((list_0.length : Int) ≤ (list_0.length : Int)))
  (L3 list_0 xq2 (list_0.length : Int) (0 : Int))
  none
def zz76_l6 (N : Nat) (k : Y4 → Y4 → Int → Int → Option (Y4 × Unit)) : Nat → Y4 → Y4 → Int → Int → Int → Option (Y4 × Unit)
  | 0, _, _, _, _, _ => none
  | m + 1, list0, p3, i4, t9, t10 => zz76_b6 (zz76_l6 N k m) k list0 p3 i4 t9 t10
def zz76_F6 (N : Nat) (rec : Y4 → Y4 → Int → Int → Option (Y4 × Unit)) (k : Y4 → Option (Y4 × Unit)) (list0 : Y4) (p3 : Y4) (i4 : Int) (t9 : Int) (t10 : Int) : Option (Y4 × Unit) := zz76_l6 N (zz76_a6 rec) N list0 p3 i4 t9 t10
def zz76_l3 (N : Nat) (k : Y4 → Option (Y4 × Unit)) : Nat → Y4 → Y4 → Int → Int → Option (Y4 × Unit)
  | 0, _, _, _, _ => none
  | m + 1, list0, p3, t9, t10 => zz76_b3 (zz76_F6 N (zz76_l3 N k m) k) k list0 p3 t9 t10
def zz76_F3 (N : Nat) (list0 : Y4) (p3 : Y4) (t9 : Int) (t10 : Int) : Option (Y4 × Unit) := zz76_l3 N (zz76_a3) N list0 p3 t9 t10
def zz76 (N : Nat) (list_0 : Y4) : Option (Y4 × Unit) := zz76_s (zz76_F3 N) list_0
def S_zz76 : Sig := { a := (.pair (.sl I) .unit), md := [0], mf := [], m := .unit, r := (.sl I), rf := (.o .i), f := fun x => zz76 big x.1 }
def A_zz76 : Cfg := mkCfg tab [] [(6, [.as (.sl I) .i, .drop, .drop, .as (.sl I) (.o .i), .drop, .drop, .drop, .drop, .drop, .as I .i, .as I .i]), (12, [.as (.sl I) .i, .drop, .drop, .as (.sl I) (.o .i), .as I .i, .drop, .drop, .drop, .drop, .as I .i, .as I .i]), (19, [.drop, .drop, .drop, .as (.sl I) (.o .i)]), (17, [.as (.sl I) .i, .drop, .drop, .as (.sl I) (.o .i), .drop, .drop, .drop, .drop, .drop, .as I .i, .as I .i])]
noncomputable def zz76_R3 (N n : Nat) (K : Ex → St → Option (Y4 × Unit)) (list0 : Y4) (p3 : Y4) (t9 : Int) (t10 : Int) : Option (Y4 × Unit) := iter ((A_zz76).shape 6) (run (A_zz76) N (codeAt Try.f133 [1, 1, 0, 1, 0, 0])) n ([.val (.sl I) .i list0, .u, .u, .val (.sl I) (.o .i) p3, .u, .u, .u, .u, .u, .val I .i t9, .val I .i t10] ++ List.replicate 25 .u) K
noncomputable def zz76_R6 (N n : Nat) (K : Ex → St → Option (Y4 × Unit)) (list0 : Y4) (p3 : Y4) (i4 : Int) (t9 : Int) (t10 : Int) : Option (Y4 × Unit) := iter ((A_zz76).shape 12) (run (A_zz76) N (codeAt Try.f133 [1, 1, 0, 1, 0, 0, 1, 1, 0, 0, 1, 1, 0, 0])) n ([.val (.sl I) .i list0, .u, .u, .val (.sl I) (.o .i) p3, .val I .i i4, .u, .u, .u, .u, .val I .i t9, .val I .i t10] ++ List.replicate 25 .u) K
noncomputable abbrev zz76_z : Ex → St → Option (Y4 × Unit) := finish (A_zz76) S_zz76 Try.f133.results.toList
noncomputable abbrev zz76_X3 (kX : St → Option (Y4 × Unit)) : Y4 → Option (Y4 × Unit) := fun (p3 : Y4) => kX ([.u, .u, .u, .val (.sl I) (.o .i) p3] ++ List.replicate 32 .u)
noncomputable abbrev zz76_E3 (kX : St → Option (Y4 × Unit)) (kO : Nat → St → Option (Y4 × Unit)) : Ex → St → Option (Y4 × Unit) := exK zz76_z 0 ((A_zz76).shape 19) kX kO
noncomputable abbrev zz76_X6 (kX : St → Option (Y4 × Unit)) : Y4 → Y4 → Int → Int → Option (Y4 × Unit) := fun (list0 : Y4) (p3 : Y4) (t9 : Int) (t10 : Int) => kX ([.val (.sl I) .i list0, .u, .u, .val (.sl I) (.o .i) p3, .u, .u, .u, .u, .u, .val I .i t9, .val I .i t10] ++ List.replicate 25 .u)
noncomputable abbrev zz76_E6 (kX : St → Option (Y4 × Unit)) (kO : Nat → St → Option (Y4 × Unit)) : Ex → St → Option (Y4 × Unit) := exK zz76_z 2 ((A_zz76).shape 17) kX kO
theorem zz76_step6 (N : Nat) (m : Nat) (kX : St → Option (Y4 × Unit)) (kO : Nat → St → Option (Y4 × Unit)) (list0 : Y4) (p3 : Y4) (i4 : Int) (t9 : Int) (t10 : Int) : zz76_R6 N (m + 1) (zz76_E6 kX kO) list0 p3 i4 t9 t10 = zz76_b6 (zz76_R6 N m (zz76_E6 kX kO)) (zz76_X6 kX) list0 p3 i4 t9 t10 := by kernel_rfl
theorem zz76_iter6 (N : Nat) (kX : St → Option (Y4 × Unit)) (kO : Nat → St → Option (Y4 × Unit)) : ∀ (n : Nat) (list0 : Y4) (p3 : Y4) (i4 : Int) (t9 : Int) (t10 : Int), zz76_R6 N n (zz76_E6 kX kO) list0 p3 i4 t9 t10 = zz76_l6 N (zz76_X6 kX) n list0 p3 i4 t9 t10
  | 0, _, _, _, _, _ => rfl
  | m + 1, list0, p3, i4, t9, t10 => by
    have hrec : zz76_R6 N m (zz76_E6 kX kO) = (zz76_l6 N (zz76_X6 kX) m) := (funext fun list0 => (funext fun p3 => (funext fun i4 => (funext fun t9 => (funext fun t10 => zz76_iter6 N kX kO m list0 p3 i4 t9 t10)))))
    refine (zz76_step6 N m kX kO list0 p3 i4 t9 t10).trans ?_
    rw [hrec]
    rfl
noncomputable abbrev zz76_K6 (N : Nat) (m : Nat) (kX : St → Option (Y4 × Unit)) (kO : Nat → St → Option (Y4 × Unit)) : Ex → St → Option (Y4 × Unit) := (blockK 2 (blockK 1 (seqK ((A_zz76).shape 17) (run (A_zz76) N (codeAt Try.f133 [1, 1, 0, 1, 0, 0, 1, 1, 1])) (iterK ((A_zz76).shape 6) (run (A_zz76) N (codeAt Try.f133 [1, 1, 0, 1, 0, 0])) m (zz76_E3 kX kO)))))
noncomputable abbrev zz76_k6 (N : Nat) (m : Nat) (kX : St → Option (Y4 × Unit)) (kO : Nat → St → Option (Y4 × Unit)) : St → Option (Y4 × Unit) := fun st' => run (A_zz76) N (codeAt Try.f133 [1, 1, 0, 1, 0, 0, 1, 1, 1]) st' (iterK ((A_zz76).shape 6) (run (A_zz76) N (codeAt Try.f133 [1, 1, 0, 1, 0, 0])) m (zz76_E3 kX kO))
theorem zz76_after6 (N : Nat) (m : Nat) (kX : St → Option (Y4 × Unit)) (kO : Nat → St → Option (Y4 × Unit)) (list0 : Y4) (p3 : Y4) (t9 : Int) (t10 : Int) : zz76_X6 (zz76_k6 N m kX kO) list0 p3 t9 t10 = zz76_a6 (zz76_R3 N m (zz76_E3 kX kO)) list0 p3 t9 t10 := by kernel_rfl
theorem zz76_in6 (N : Nat) (m : Nat) (kX : St → Option (Y4 × Unit)) (kO : Nat → St → Option (Y4 × Unit)) (recF : Y4 → Y4 → Int → Int → Option (Y4 × Unit)) (hrec : zz76_R3 N m (zz76_E3 kX kO) = recF) (list0 : Y4) (p3 : Y4) (i4 : Int) (t9 : Int) (t10 : Int) : zz76_R6 N N (zz76_K6 N m kX kO) list0 p3 i4 t9 t10 = zz76_F6 N recF (zz76_X3 kX) list0 p3 i4 t9 t10 :=
  have h : zz76_X6 (zz76_k6 N m kX kO) = (zz76_a6 recF) := (funext fun list0 => (funext fun p3 => (funext fun t9 => (funext fun t10 => (zz76_after6 N m kX kO list0 p3 t9 t10).trans (by rw [hrec])))))
  ((iter_ex (fun st => by kernel_rfl) (fun st => by kernel_rfl)).trans (zz76_iter6 N (zz76_k6 N m kX kO) (fun j st => (zz76_K6 N m kX kO) (.exit j) st) N list0 p3 i4 t9 t10)).trans (congrArg (fun k => zz76_l6 N k N list0 p3 i4 t9 t10) h)
theorem zz76_step3 (N : Nat) (m : Nat) (kX : St → Option (Y4 × Unit)) (kO : Nat → St → Option (Y4 × Unit)) (list0 : Y4) (p3 : Y4) (t9 : Int) (t10 : Int) : zz76_R3 N (m + 1) (zz76_E3 kX kO) list0 p3 t9 t10 = zz76_b3 (zz76_R6 N N (zz76_K6 N m kX kO)) (zz76_X3 kX) list0 p3 t9 t10 := by kernel_rfl
theorem zz76_iter3 (N : Nat) (kX : St → Option (Y4 × Unit)) (kO : Nat → St → Option (Y4 × Unit)) : ∀ (n : Nat) (list0 : Y4) (p3 : Y4) (t9 : Int) (t10 : Int), zz76_R3 N n (zz76_E3 kX kO) list0 p3 t9 t10 = zz76_l3 N (zz76_X3 kX) n list0 p3 t9 t10
  | 0, _, _, _, _ => rfl
  | m + 1, list0, p3, t9, t10 => by
    have hrec : zz76_R3 N m (zz76_E3 kX kO) = (zz76_l3 N (zz76_X3 kX) m) := (funext fun list0 => (funext fun p3 => (funext fun t9 => (funext fun t10 => zz76_iter3 N kX kO m list0 p3 t9 t10))))
    refine (zz76_step3 N m kX kO list0 p3 t9 t10).trans ?_
    rw [(funext fun list0 => (funext fun p3 => (funext fun i4 => (funext fun t9 => (funext fun t10 => zz76_in6 N m kX kO (zz76_l3 N (zz76_X3 kX) m) hrec list0 p3 i4 t9 t10)))))]
    rfl
noncomputable abbrev zz76_K3 (N : Nat) : Ex → St → Option (Y4 × Unit) := (blockK 0 (seqK ((A_zz76).shape 19) (run (A_zz76) N (codeAt Try.f133 [1, 1, 1])) zz76_z))
noncomputable abbrev zz76_k3 (N : Nat) : St → Option (Y4 × Unit) := fun st' => run (A_zz76) N (codeAt Try.f133 [1, 1, 1]) st' zz76_z
theorem zz76_after3 (N : Nat) (p3 : Y4) : zz76_X3 (zz76_k3 N) p3 = zz76_a3 p3 := by kernel_rfl
theorem zz76_in3 (N : Nat) (list0 : Y4) (p3 : Y4) (t9 : Int) (t10 : Int) : zz76_R3 N N (zz76_K3 N) list0 p3 t9 t10 = zz76_F3 N list0 p3 t9 t10 :=
  have h : zz76_X3 (zz76_k3 N) = (zz76_a3) := (funext fun p3 => zz76_after3 N p3)
  ((iter_ex (fun st => by kernel_rfl) (fun st => by kernel_rfl)).trans (zz76_iter3 N (zz76_k3 N) (fun j st => (zz76_K3 N) (.exit j) st) N list0 p3 t9 t10)).trans (congrArg (fun k => zz76_l3 N k N list0 p3 t9 t10) h)
theorem run0_zz76 (N : Nat) (x : (S_zz76).a.den) : runF (A_zz76) N Try.f133 S_zz76 x = (zz76_s (zz76_R3 N N (zz76_K3 N)) x.1) := by kernel_rfl
theorem run_zz76 (N : Nat) (x : (S_zz76).a.den) : runF (A_zz76) N Try.f133 S_zz76 x = zz76 N x.1 := by
  refine (run0_zz76 N x).trans ?_
  rw [(funext fun list0 => (funext fun p3 => (funext fun t9 => (funext fun t10 => zz76_in3 N list0 p3 t9 t10))))]
  rfl
theorem fn_zz76 : FnOk Try.prog 133 := ⟨_, Try.func133, by kernel_rfl, by kernel_rfl⟩
theorem good_zz76 : Gx.Good Try.prog 133 S_zz76 := good_of_run Try.func133 (of_decide_eq_true (by kernel_rfl)) fun x r h => ⟨A_zz76, big, mkCfg_ok tabOk, mkCfg_sigs (show SigsOk Try.prog [] from trivial), (run_zz76 big x).trans h⟩

/-! zz77 -/
def zz77_s (l_0 : Y1) (x_1 : Int) : Option (Y4 × Unit) :=
  (zz50 big l_0).bind fun rq1 =>
  (atI rq1.1 x_1).bind fun _ =>
  (rq1.1[x_1.toNat]?).bind fun xq2 =>
  (l_0).bind fun xq3 =>
  (atI xq3.2.1 xq2).bind fun xq4 =>
  (zz76 big xq4).bind fun rq5 =>
  some (rq5.1, (()))
def zz77 (l_0 : Y1) (x_1 : Int) : Option (Y4 × Unit) := zz77_s l_0 x_1
def S_zz77 : Sig := { a := (.pair (.opt (.pair (.sl (.sl .bool)) (.pair (.sl (.sl I)) (.pair (.sl (.sl I)) .unit)))) (.pair I .unit)), md := [0, 0], mf := [], m := .unit, r := (.sl I), rf := (.o .i), f := fun x => zz77 x.1 x.2.1 }
def A_zz77 : Cfg := mkCfg tab [(88, S_zz50), (133, S_zz76)] []
theorem run_zz77 (N : Nat) (x : (S_zz77).a.den) : runF (A_zz77) N Try.f92 S_zz77 x = zz77 x.1 x.2.1 := by kernel_rfl
theorem fn_zz77 : FnOk Try.prog 92 := ⟨_, Try.func92, by kernel_rfl, by kernel_rfl⟩
theorem good_zz77 : Gx.Good Try.prog 92 S_zz77 := good_of_run Try.func92 (of_decide_eq_true (by kernel_rfl)) fun x r h => ⟨A_zz77, big, mkCfg_ok tabOk, mkCfg_sigs (show SigsOk Try.prog [(88, S_zz50), (133, S_zz76)] from ⟨⟨fn_zz50, good_zz50⟩, ⟨fn_zz76, good_zz76⟩, trivial⟩), (run_zz77 big x).trans h⟩

/-! zz78 -/
def zz78_s (p_0 : Y2) (x_1 : Int) : Option ((Y4 × (Bool × Unit)) × Unit) :=
  (zz49 p_0).bind fun rq1 =>
  cond (!rq1.1.2.1)
  (some (([], false, ()), (())))
  ((rq1.1.1).bind fun xq2 =>
  (zz75 xq2.1 [x_1]).bind fun rq3 =>
  cond (!rq3.1)
  (some (([], false, ()), (())))
  ((zz77 rq1.1.1 x_1).bind fun rq4 =>
  some ((rq4.1, true, ()), (()))))
def zz78 (p_0 : Y2) (x_1 : Int) : Option ((Y4 × (Bool × Unit)) × Unit) := zz78_s p_0 x_1
def S_zz78 : Sig := { a := (.pair (.pair (.sl (.sl I)) .unit) (.pair I .unit)), md := [0, 0], mf := [], m := .unit, r := (.tup (.pair (.sl I) (.pair .bool .unit))), rf := (.p (.o .i) .i), f := fun x => zz78 x.1 x.2.1 }
def A_zz78 : Cfg := mkCfg tab [(87, S_zz49), (91, S_zz75), (92, S_zz77)] []
theorem run_zz78 (N : Nat) (x : (S_zz78).a.den) : runF (A_zz78) N Try.f41 S_zz78 x = zz78 x.1 x.2.1 := by kernel_rfl
theorem fn_zz78 : FnOk Try.prog 41 := ⟨_, Try.func41, by kernel_rfl, by kernel_rfl⟩
theorem good_zz78 : Gx.Good Try.prog 41 S_zz78 := good_of_run Try.func41 (of_decide_eq_true (by kernel_rfl)) fun x r h => ⟨A_zz78, big, mkCfg_ok tabOk, mkCfg_sigs (show SigsOk Try.prog [(87, S_zz49), (91, S_zz75), (92, S_zz77)] from ⟨⟨fn_zz49, good_zz49⟩, ⟨fn_zz75, good_zz75⟩, ⟨fn_zz77, good_zz77⟩, trivial⟩), (run_zz78 big x).trans h⟩

/-! laws_FnExactCongruenceBelow -/
def laws_FnExactCongruenceBelow_s (aP_0 : Y2) (aX_1 : Int) : Option (Bool × Unit) :=
  (zz2 aP_0 (1048576 : Int)).bind fun rq1 =>
  cond (decide (rq1.1 < (0 : Int)))
  (some (true, (())))
  ((zz5 aP_0).bind fun rq2 =>
  (zz74 rq2.1 aX_1).bind fun rq3 =>
  (zz5 aP_0).bind fun rq4 =>
  (zz78 rq4.1 aX_1).bind fun rq5 =>
  (zz52 big rq5.1.1 rq3.1.1).bind fun rq6 =>
  cond (!rq6.1)
  (some (false, (())))
  (cond (((((), rq5.1.2).2).1) != ((((), rq3.1.2).2).1))
  (some (false, (())))
  ((zz5 aP_0).bind fun rq7 =>
  (zz54 rq4.1 rq7.1).bind fun rq8 =>
  cond (!rq8.1)
  (some (false, (())))
  ((zz57 rq4.1 (1 : Int)).bind fun rq9 =>
  cond (decide (rq9.1 < (0 : Int)))
  (some (false, (())))
  ((zz52 big rq5.1.1 rq3.1.1).bind fun rq10 =>
  cond (!rq10.1)
  (some (false, (())))
  (cond (((((), rq5.1.2).2).1) != ((((), rq3.1.2).2).1))
  (some (false, (())))
  ((zz55 big rq5.1.1 (1 : Int)).bind fun rq11 =>
  (zz58 big rq11.2.1 (1 : Int)).bind fun rq12 =>
  cond (decide (rq12.1 < (0 : Int)))
  (some (false, (())))
  (cond (decide (rq12.1 ≠ rq11.1))
  (some (false, (())))
  ((zz5 aP_0).bind fun rq13 =>
  (zz78 rq13.1 aX_1).bind fun rq14 =>
  (zz52 big rq14.1.1 rq3.1.1).bind fun rq15 =>
  cond (!rq15.1)
  (some (false, (())))
  (cond (((((), rq14.1.2).2).1) != ((((), rq3.1.2).2).1))
  (some (false, (())))
  ((zz58 big rq11.2.1 (1 : Int)).bind fun rq16 =>
  cond (decide (rq16.1 < (0 : Int)))
  (some (false, (())))
  (cond (decide (rq16.1 ≠ rq11.1))
  (some (false, (())))
  (some (true, (())))))))))))))))
def laws_FnExactCongruenceBelow (aP_0 : Y2) (aX_1 : Int) : Option (Bool × Unit) := laws_FnExactCongruenceBelow_s aP_0 aX_1
def S_laws_FnExactCongruenceBelow : Sig := { a := (.pair (.pair (.sl (.sl I)) .unit) (.pair I .unit)), md := [0, 0], mf := [], m := .unit, r := .bool, rf := .i, f := fun x => laws_FnExactCongruenceBelow x.1 x.2.1 }
def A_laws_FnExactCongruenceBelow : Cfg := mkCfg tab [(15, S_zz2), (17, S_zz5), (40, S_zz74), (41, S_zz78), (19, S_zz52), (20, S_zz54), (21, S_zz57), (22, S_zz55), (23, S_zz58)] []
theorem run_laws_FnExactCongruenceBelow (N : Nat) (x : (S_laws_FnExactCongruenceBelow).a.den) : runF (A_laws_FnExactCongruenceBelow) N Try.f9 S_laws_FnExactCongruenceBelow x = laws_FnExactCongruenceBelow x.1 x.2.1 := by kernel_rfl
theorem fn_laws_FnExactCongruenceBelow : FnOk Try.prog 9 := ⟨_, Try.func9, by kernel_rfl, by kernel_rfl⟩
theorem good_laws_FnExactCongruenceBelow : Gx.Good Try.prog 9 S_laws_FnExactCongruenceBelow := good_of_run Try.func9 (of_decide_eq_true (by kernel_rfl)) fun x r h => ⟨A_laws_FnExactCongruenceBelow, big, mkCfg_ok tabOk, mkCfg_sigs (show SigsOk Try.prog [(15, S_zz2), (17, S_zz5), (40, S_zz74), (41, S_zz78), (19, S_zz52), (20, S_zz54), (21, S_zz57), (22, S_zz55), (23, S_zz58)] from ⟨⟨fn_zz2, good_zz2⟩, ⟨fn_zz5, good_zz5⟩, ⟨fn_zz74, good_zz74⟩, ⟨fn_zz78, good_zz78⟩, ⟨fn_zz52, good_zz52⟩, ⟨fn_zz54, good_zz54⟩, ⟨fn_zz57, good_zz57⟩, ⟨fn_zz55, good_zz55⟩, ⟨fn_zz58, good_zz58⟩, trivial⟩), (run_laws_FnExactCongruenceBelow big x).trans h⟩

/-! zz79 -/
def zz79_b4 (rec : Y4 → Y4 → Int → Option (Bool × Unit)) (k : Option (Bool × Unit)) (a0 : Y4) (b1 : Y4) (i5 : Int) : Option (Bool × Unit) :=
  cond (decide (i5 < (a0.length : Int)))
  ((atI a0 i5).bind fun xq1 =>
  (atI b1 i5).bind fun xq2 =>
  cond (decide (xq1 ≠ xq2))
  (some (false, (())))
  (rec a0 b1 (IntKind.i64.wrap (i5 + (1 : Int)))))
  (k)
def zz79_a4 : Option (Bool × Unit) :=
  some (true, (()))
def zz79_s (L4 : Y4 → Y4 → Int → Option (Bool × Unit)) (a_0 : Y4) (b_1 : Y4) : Option (Bool × Unit) :=
  cond (decide ((a_0.length : Int) ≠ (b_1.length : Int)))
  (some (false, (())))
  (L4 a_0 b_1 (0 : Int))
def zz79_l4 (N : Nat) (k : Option (Bool × Unit)) : Nat → Y4 → Y4 → Int → Option (Bool × Unit)
  | 0, _, _, _ => none
  | m + 1, a0, b1, i5 => zz79_b4 (zz79_l4 N k m) k a0 b1 i5
def zz79_F4 (N : Nat) (a0 : Y4) (b1 : Y4) (i5 : Int) : Option (Bool × Unit) := zz79_l4 N (zz79_a4) N a0 b1 i5
def zz79 (N : Nat) (a_0 : Y4) (b_1 : Y4) : Option (Bool × Unit) := zz79_s (zz79_F4 N) a_0 b_1
def S_zz79 : Sig := { a := (.pair (.sl I) (.pair (.sl I) .unit)), md := [0, 0], mf := [], m := .unit, r := .bool, rf := .i, f := fun x => zz79 big x.1 x.2.1 }
def A_zz79 : Cfg := mkCfg tab [] [(8, [.as (.sl I) .i, .as (.sl I) .i, .drop, .drop, .drop, .as I .i]), (17, [])]
noncomputable def zz79_R4 (N n : Nat) (K : Ex → St → Option (Bool × Unit)) (a0 : Y4) (b1 : Y4) (i5 : Int) : Option (Bool × Unit) := iter ((A_zz79).shape 8) (run (A_zz79) N (codeAt Try.f93 [1, 1, 0, 1, 0, 0])) n ([.val (.sl I) .i a0, .val (.sl I) .i b1, .u, .u, .u, .val I .i i5] ++ List.replicate 20 .u) K
noncomputable abbrev zz79_z : Ex → St → Option (Bool × Unit) := finish (A_zz79) S_zz79 Try.f93.results.toList
noncomputable abbrev zz79_X4 (kX : St → Option (Bool × Unit)) : Option (Bool × Unit) := kX ([] ++ List.replicate 26 .u)
noncomputable abbrev zz79_E4 (kX : St → Option (Bool × Unit)) (kO : Nat → St → Option (Bool × Unit)) : Ex → St → Option (Bool × Unit) := exK zz79_z 0 ((A_zz79).shape 17) kX kO
theorem zz79_step4 (N : Nat) (m : Nat) (kX : St → Option (Bool × Unit)) (kO : Nat → St → Option (Bool × Unit)) (a0 : Y4) (b1 : Y4) (i5 : Int) : zz79_R4 N (m + 1) (zz79_E4 kX kO) a0 b1 i5 = zz79_b4 (zz79_R4 N m (zz79_E4 kX kO)) (zz79_X4 kX) a0 b1 i5 := by kernel_rfl
theorem zz79_iter4 (N : Nat) (kX : St → Option (Bool × Unit)) (kO : Nat → St → Option (Bool × Unit)) : ∀ (n : Nat) (a0 : Y4) (b1 : Y4) (i5 : Int), zz79_R4 N n (zz79_E4 kX kO) a0 b1 i5 = zz79_l4 N (zz79_X4 kX) n a0 b1 i5
  | 0, _, _, _ => rfl
  | m + 1, a0, b1, i5 => by
    have hrec : zz79_R4 N m (zz79_E4 kX kO) = (zz79_l4 N (zz79_X4 kX) m) := (funext fun a0 => (funext fun b1 => (funext fun i5 => zz79_iter4 N kX kO m a0 b1 i5)))
    refine (zz79_step4 N m kX kO a0 b1 i5).trans ?_
    rw [hrec]
    rfl
noncomputable abbrev zz79_K4 (N : Nat) : Ex → St → Option (Bool × Unit) := (blockK 0 (seqK ((A_zz79).shape 17) (run (A_zz79) N (codeAt Try.f93 [1, 1, 1])) zz79_z))
noncomputable abbrev zz79_k4 (N : Nat) : St → Option (Bool × Unit) := fun st' => run (A_zz79) N (codeAt Try.f93 [1, 1, 1]) st' zz79_z
theorem zz79_after4 (N : Nat) : zz79_X4 (zz79_k4 N) = zz79_a4 := by kernel_rfl
theorem zz79_in4 (N : Nat) (a0 : Y4) (b1 : Y4) (i5 : Int) : zz79_R4 N N (zz79_K4 N) a0 b1 i5 = zz79_F4 N a0 b1 i5 :=
  have h : zz79_X4 (zz79_k4 N) = (zz79_a4) := zz79_after4 N
  ((iter_ex (fun st => by kernel_rfl) (fun st => by kernel_rfl)).trans (zz79_iter4 N (zz79_k4 N) (fun j st => (zz79_K4 N) (.exit j) st) N a0 b1 i5)).trans (congrArg (fun k => zz79_l4 N k N a0 b1 i5) h)
theorem run0_zz79 (N : Nat) (x : (S_zz79).a.den) : runF (A_zz79) N Try.f93 S_zz79 x = (zz79_s (zz79_R4 N N (zz79_K4 N)) x.1 x.2.1) := by kernel_rfl
theorem run_zz79 (N : Nat) (x : (S_zz79).a.den) : runF (A_zz79) N Try.f93 S_zz79 x = zz79 N x.1 x.2.1 := by
  refine (run0_zz79 N x).trans ?_
  rw [(funext fun a0 => (funext fun b1 => (funext fun i5 => zz79_in4 N a0 b1 i5)))]
  rfl
theorem fn_zz79 : FnOk Try.prog 93 := ⟨_, Try.func93, by kernel_rfl, by kernel_rfl⟩
theorem good_zz79 : Gx.Good Try.prog 93 S_zz79 := good_of_run Try.func93 (of_decide_eq_true (by kernel_rfl)) fun x r h => ⟨A_zz79, big, mkCfg_ok tabOk, mkCfg_sigs (show SigsOk Try.prog [] from trivial), (run_zz79 big x).trans h⟩

/-! zz80 -/
def zz80_b4 (rec : Y4 → Y2 → Int → Option ((Int × (Bool × Unit)) × Unit)) (k : Option ((Int × (Bool × Unit)) × Unit)) (partition1 : Y4) (p2 : Y2) (x6 : Int) : Option ((Int × (Bool × Unit)) × Unit) :=
  cond (decide (x6 < (p2.1.length : Int)))
  ((zz73 big p2 x6).bind fun rq2 =>
  (zz79 big rq2.1 partition1).bind fun rq3 =>
  cond rq3.1
  (some ((x6, true, ()), (())))
  (rec partition1 p2 (IntKind.i64.wrap (x6 + (1 : Int)))))
  (k)
def zz80_a4 : Option ((Int × (Bool × Unit)) × Unit) :=
  some (((0 : Int), false, ()), (()))
def zz80_s (L4 : Y4 → Y2 → Int → Option ((Int × (Bool × Unit)) × Unit)) (p_0 : Y2) (partition_1 : Y4) : Option ((Int × (Bool × Unit)) × Unit) :=
  (zz23 p_0).bind fun rq1 =>
  cond (!rq1.1)
  (some (((0 : Int), false, ()), (())))
  (L4 partition_1 p_0 (0 : Int))
def zz80_l4 (N : Nat) (k : Option ((Int × (Bool × Unit)) × Unit)) : Nat → Y4 → Y2 → Int → Option ((Int × (Bool × Unit)) × Unit)
  | 0, _, _, _ => none
  | m + 1, partition1, p2, x6 => zz80_b4 (zz80_l4 N k m) k partition1 p2 x6
def zz80_F4 (N : Nat) (partition1 : Y4) (p2 : Y2) (x6 : Int) : Option ((Int × (Bool × Unit)) × Unit) := zz80_l4 N (zz80_a4) N partition1 p2 x6
def zz80 (N : Nat) (p_0 : Y2) (partition_1 : Y4) : Option ((Int × (Bool × Unit)) × Unit) := zz80_s (zz80_F4 N) p_0 partition_1
def S_zz80 : Sig := { a := (.pair (.pair (.sl (.sl I)) .unit) (.pair (.sl I) .unit)), md := [0, 0], mf := [], m := .unit, r := (.tup (.pair I (.pair .bool .unit))), rf := .i, f := fun x => zz80 big x.1 x.2.1 }
def A_zz80 : Cfg := mkCfg tab [(85, S_zz23), (90, S_zz73), (93, S_zz79)] [(8, [.drop, .as (.sl I) .i, .as (.ptr (.pair (.sl (.sl I)) .unit)) (.o .i), .drop, .drop, .drop, .as I .i]), (17, [])]
noncomputable def zz80_R4 (N n : Nat) (K : Ex → St → Option ((Int × (Bool × Unit)) × Unit)) (partition1 : Y4) (p2 : Y2) (x6 : Int) : Option ((Int × (Bool × Unit)) × Unit) := iter ((A_zz80).shape 8) (run (A_zz80) N (codeAt Try.f42 [1, 1, 0, 1, 0, 0])) n ([.u, .val (.sl I) .i partition1, .val (.ptr (.pair (.sl (.sl I)) .unit)) (.o .i) p2, .u, .u, .u, .val I .i x6] ++ List.replicate 16 .u) K
noncomputable abbrev zz80_z : Ex → St → Option ((Int × (Bool × Unit)) × Unit) := finish (A_zz80) S_zz80 Try.f42.results.toList
noncomputable abbrev zz80_X4 (kX : St → Option ((Int × (Bool × Unit)) × Unit)) : Option ((Int × (Bool × Unit)) × Unit) := kX ([] ++ List.replicate 23 .u)
noncomputable abbrev zz80_E4 (kX : St → Option ((Int × (Bool × Unit)) × Unit)) (kO : Nat → St → Option ((Int × (Bool × Unit)) × Unit)) : Ex → St → Option ((Int × (Bool × Unit)) × Unit) := exK zz80_z 0 ((A_zz80).shape 17) kX kO
theorem zz80_step4 (N : Nat) (m : Nat) (kX : St → Option ((Int × (Bool × Unit)) × Unit)) (kO : Nat → St → Option ((Int × (Bool × Unit)) × Unit)) (partition1 : Y4) (p2 : Y2) (x6 : Int) : zz80_R4 N (m + 1) (zz80_E4 kX kO) partition1 p2 x6 = zz80_b4 (zz80_R4 N m (zz80_E4 kX kO)) (zz80_X4 kX) partition1 p2 x6 := by kernel_rfl
theorem zz80_iter4 (N : Nat) (kX : St → Option ((Int × (Bool × Unit)) × Unit)) (kO : Nat → St → Option ((Int × (Bool × Unit)) × Unit)) : ∀ (n : Nat) (partition1 : Y4) (p2 : Y2) (x6 : Int), zz80_R4 N n (zz80_E4 kX kO) partition1 p2 x6 = zz80_l4 N (zz80_X4 kX) n partition1 p2 x6
  | 0, _, _, _ => rfl
  | m + 1, partition1, p2, x6 => by
    have hrec : zz80_R4 N m (zz80_E4 kX kO) = (zz80_l4 N (zz80_X4 kX) m) := (funext fun partition1 => (funext fun p2 => (funext fun x6 => zz80_iter4 N kX kO m partition1 p2 x6)))
    refine (zz80_step4 N m kX kO partition1 p2 x6).trans ?_
    rw [hrec]
    rfl
noncomputable abbrev zz80_K4 (N : Nat) : Ex → St → Option ((Int × (Bool × Unit)) × Unit) := (blockK 0 (seqK ((A_zz80).shape 17) (run (A_zz80) N (codeAt Try.f42 [1, 1, 1])) zz80_z))
noncomputable abbrev zz80_k4 (N : Nat) : St → Option ((Int × (Bool × Unit)) × Unit) := fun st' => run (A_zz80) N (codeAt Try.f42 [1, 1, 1]) st' zz80_z
theorem zz80_after4 (N : Nat) : zz80_X4 (zz80_k4 N) = zz80_a4 := by kernel_rfl
theorem zz80_in4 (N : Nat) (partition1 : Y4) (p2 : Y2) (x6 : Int) : zz80_R4 N N (zz80_K4 N) partition1 p2 x6 = zz80_F4 N partition1 p2 x6 :=
  have h : zz80_X4 (zz80_k4 N) = (zz80_a4) := zz80_after4 N
  ((iter_ex (fun st => by kernel_rfl) (fun st => by kernel_rfl)).trans (zz80_iter4 N (zz80_k4 N) (fun j st => (zz80_K4 N) (.exit j) st) N partition1 p2 x6)).trans (congrArg (fun k => zz80_l4 N k N partition1 p2 x6) h)
theorem run0_zz80 (N : Nat) (x : (S_zz80).a.den) : runF (A_zz80) N Try.f42 S_zz80 x = (zz80_s (zz80_R4 N N (zz80_K4 N)) x.1 x.2.1) := by kernel_rfl
theorem run_zz80 (N : Nat) (x : (S_zz80).a.den) : runF (A_zz80) N Try.f42 S_zz80 x = zz80 N x.1 x.2.1 := by
  refine (run0_zz80 N x).trans ?_
  rw [(funext fun partition1 => (funext fun p2 => (funext fun x6 => zz80_in4 N partition1 p2 x6)))]
  rfl
theorem fn_zz80 : FnOk Try.prog 42 := ⟨_, Try.func42, by kernel_rfl, by kernel_rfl⟩
theorem good_zz80 : Gx.Good Try.prog 42 S_zz80 := good_of_run Try.func42 (of_decide_eq_true (by kernel_rfl)) fun x r h => ⟨A_zz80, big, mkCfg_ok tabOk, mkCfg_sigs (show SigsOk Try.prog [(85, S_zz23), (90, S_zz73), (93, S_zz79)] from ⟨⟨fn_zz23, good_zz23⟩, ⟨fn_zz73, good_zz73⟩, ⟨fn_zz79, good_zz79⟩, trivial⟩), (run_zz80 big x).trans h⟩

/-! zz81 -/
def zz81_b4 (rec : Y4 → Y4 → Int → Int → Option (Bool × Unit)) (k : Option (Bool × Unit)) (b1 : Y4) (t12 : Y4) (t13 : Int) (t14 : Int) : Option (Bool × Unit) :=
  cond (decide (t14 < t13))
  ((atI t12 t14).bind fun xq1 =>
  (atI b1 t14).bind fun xq2 =>
  cond (decide (xq2 ≠ xq1))
  (some (false, (())))
  (rec b1 t12 t13 (IntKind.i64.wrap (t14 + (1 : Int)))))
  (k)
def zz81_a4 : Option (Bool × Unit) :=
  some (true, (()))
def zz81_s (L4 : Y4 → Y4 → Int → Int → Option (Bool × Unit)) (a_0 : Y4) (b_1 : Y4) : Option (Bool × Unit) :=
  cond (decide ((a_0.length : Int) ≠ (b_1.length : Int)))
  (some (false, (())))
  (L4 b_1 a_0 (a_0.length : Int) (0 : Int))
def zz81_l4 (N : Nat) (k : Option (Bool × Unit)) : Nat → Y4 → Y4 → Int → Int → Option (Bool × Unit)
  | 0, _, _, _, _ => none
  | m + 1, b1, t12, t13, t14 => zz81_b4 (zz81_l4 N k m) k b1 t12 t13 t14
def zz81_F4 (N : Nat) (b1 : Y4) (t12 : Y4) (t13 : Int) (t14 : Int) : Option (Bool × Unit) := zz81_l4 N (zz81_a4) N b1 t12 t13 t14
def zz81 (N : Nat) (a_0 : Y4) (b_1 : Y4) : Option (Bool × Unit) := zz81_s (zz81_F4 N) a_0 b_1
def S_zz81 : Sig := { a := (.pair (.sl I) (.pair (.sl I) .unit)), md := [0, 0], mf := [], m := .unit, r := .bool, rf := .i, f := fun x => zz81 big x.1 x.2.1 }
def A_zz81 : Cfg := mkCfg tab [] [(8, [.drop, .as (.sl I) .i, .drop, .drop, .drop, .drop, .drop, .drop, .drop, .drop, .drop, .drop, .as (.sl I) .i, .as I .i, .as I .i]), (19, [])]
noncomputable def zz81_R4 (N n : Nat) (K : Ex → St → Option (Bool × Unit)) (b1 : Y4) (t12 : Y4) (t13 : Int) (t14 : Int) : Option (Bool × Unit) := iter ((A_zz81).shape 8) (run (A_zz81) N (codeAt Try.f94 [1, 1, 0, 1, 0, 0])) n ([.u, .val (.sl I) .i b1, .u, .u, .u, .u, .u, .u, .u, .u, .u, .u, .val (.sl I) .i t12, .val I .i t13, .val I .i t14] ++ List.replicate 11 .u) K
noncomputable abbrev zz81_z : Ex → St → Option (Bool × Unit) := finish (A_zz81) S_zz81 Try.f94.results.toList
noncomputable abbrev zz81_X4 (kX : St → Option (Bool × Unit)) : Option (Bool × Unit) := kX ([] ++ List.replicate 26 .u)
noncomputable abbrev zz81_E4 (kX : St → Option (Bool × Unit)) (kO : Nat → St → Option (Bool × Unit)) : Ex → St → Option (Bool × Unit) := exK zz81_z 0 ((A_zz81).shape 19) kX kO
theorem zz81_step4 (N : Nat) (m : Nat) (kX : St → Option (Bool × Unit)) (kO : Nat → St → Option (Bool × Unit)) (b1 : Y4) (t12 : Y4) (t13 : Int) (t14 : Int) : zz81_R4 N (m + 1) (zz81_E4 kX kO) b1 t12 t13 t14 = zz81_b4 (zz81_R4 N m (zz81_E4 kX kO)) (zz81_X4 kX) b1 t12 t13 t14 := by kernel_rfl
theorem zz81_iter4 (N : Nat) (kX : St → Option (Bool × Unit)) (kO : Nat → St → Option (Bool × Unit)) : ∀ (n : Nat) (b1 : Y4) (t12 : Y4) (t13 : Int) (t14 : Int), zz81_R4 N n (zz81_E4 kX kO) b1 t12 t13 t14 = zz81_l4 N (zz81_X4 kX) n b1 t12 t13 t14
  | 0, _, _, _, _ => rfl
  | m + 1, b1, t12, t13, t14 => by
    have hrec : zz81_R4 N m (zz81_E4 kX kO) = (zz81_l4 N (zz81_X4 kX) m) := (funext fun b1 => (funext fun t12 => (funext fun t13 => (funext fun t14 => zz81_iter4 N kX kO m b1 t12 t13 t14))))
    refine (zz81_step4 N m kX kO b1 t12 t13 t14).trans ?_
    rw [hrec]
    rfl
noncomputable abbrev zz81_K4 (N : Nat) : Ex → St → Option (Bool × Unit) := (blockK 0 (seqK ((A_zz81).shape 19) (run (A_zz81) N (codeAt Try.f94 [1, 1, 1])) zz81_z))
noncomputable abbrev zz81_k4 (N : Nat) : St → Option (Bool × Unit) := fun st' => run (A_zz81) N (codeAt Try.f94 [1, 1, 1]) st' zz81_z
theorem zz81_after4 (N : Nat) : zz81_X4 (zz81_k4 N) = zz81_a4 := by kernel_rfl
theorem zz81_in4 (N : Nat) (b1 : Y4) (t12 : Y4) (t13 : Int) (t14 : Int) : zz81_R4 N N (zz81_K4 N) b1 t12 t13 t14 = zz81_F4 N b1 t12 t13 t14 :=
  have h : zz81_X4 (zz81_k4 N) = (zz81_a4) := zz81_after4 N
  ((iter_ex (fun st => by kernel_rfl) (fun st => by kernel_rfl)).trans (zz81_iter4 N (zz81_k4 N) (fun j st => (zz81_K4 N) (.exit j) st) N b1 t12 t13 t14)).trans (congrArg (fun k => zz81_l4 N k N b1 t12 t13 t14) h)
theorem run0_zz81 (N : Nat) (x : (S_zz81).a.den) : runF (A_zz81) N Try.f94 S_zz81 x = (zz81_s (zz81_R4 N N (zz81_K4 N)) x.1 x.2.1) := by kernel_rfl
theorem run_zz81 (N : Nat) (x : (S_zz81).a.den) : runF (A_zz81) N Try.f94 S_zz81 x = zz81 N x.1 x.2.1 := by
  refine (run0_zz81 N x).trans ?_
  rw [(funext fun b1 => (funext fun t12 => (funext fun t13 => (funext fun t14 => zz81_in4 N b1 t12 t13 t14))))]
  rfl
theorem fn_zz81 : FnOk Try.prog 94 := ⟨_, Try.func94, by kernel_rfl, by kernel_rfl⟩
theorem good_zz81 : Gx.Good Try.prog 94 S_zz81 := good_of_run Try.func94 (of_decide_eq_true (by kernel_rfl)) fun x r h => ⟨A_zz81, big, mkCfg_ok tabOk, mkCfg_sigs (show SigsOk Try.prog [] from trivial), (run_zz81 big x).trans h⟩

/-! zz82 -/
def zz82_b5 (rec : Y4 → Y1 → Int → Int → Option ((Int × (Bool × Unit)) × Unit)) (k : Option ((Int × (Bool × Unit)) × Unit)) (partition1 : Y4) (l6 : Y1) (t20 : Int) (t21 : Int) : Option ((Int × (Bool × Unit)) × Unit) :=
  cond (decide (t21 < t20))
  ((zz77 l6 t21).bind fun rq3 =>
  (zz81 big rq3.1 partition1).bind fun rq4 =>
  cond rq4.1
  (some ((t21, true, ()), (())))
  (rec partition1 l6 t20 (IntKind.i64.wrap (t21 + (1 : Int)))))
  (k)
def zz82_a5 : Option ((Int × (Bool × Unit)) × Unit) :=
  some (((0 : Int), false, ()), (()))
def zz82_s (L5 : Y4 → Y1 → Int → Int → Option ((Int × (Bool × Unit)) × Unit)) (p_0 : Y2) (partition_1 : Y4) : Option ((Int × (Bool × Unit)) × Unit) :=
  (zz49 p_0).bind fun rq1 =>
  cond (!rq1.1.2.1)
  (some (((0 : Int), false, ()), (())))
  ((rq1.1.1).bind fun xq2 =>
  L5 partition_1 rq1.1.1 (xq2.1.length : Int) (0 : Int))
def zz82_l5 (N : Nat) (k : Option ((Int × (Bool × Unit)) × Unit)) : Nat → Y4 → Y1 → Int → Int → Option ((Int × (Bool × Unit)) × Unit)
  | 0, _, _, _, _ => none
  | m + 1, partition1, l6, t20, t21 => zz82_b5 (zz82_l5 N k m) k partition1 l6 t20 t21
def zz82_F5 (N : Nat) (partition1 : Y4) (l6 : Y1) (t20 : Int) (t21 : Int) : Option ((Int × (Bool × Unit)) × Unit) := zz82_l5 N (zz82_a5) N partition1 l6 t20 t21
def zz82 (N : Nat) (p_0 : Y2) (partition_1 : Y4) : Option ((Int × (Bool × Unit)) × Unit) := zz82_s (zz82_F5 N) p_0 partition_1
def S_zz82 : Sig := { a := (.pair (.pair (.sl (.sl I)) .unit) (.pair (.sl I) .unit)), md := [0, 0], mf := [], m := .unit, r := (.tup (.pair I (.pair .bool .unit))), rf := .i, f := fun x => zz82 big x.1 x.2.1 }
def A_zz82 : Cfg := mkCfg tab [(87, S_zz49), (92, S_zz77), (94, S_zz81)] [(10, [.drop, .as (.sl I) .i, .drop, .drop, .drop, .drop, .as (.opt (.pair (.sl (.sl .bool)) (.pair (.sl (.sl I)) (.pair (.sl (.sl I)) .unit)))) .i, .drop, .drop, .drop, .drop, .drop, .drop, .drop, .drop, .drop, .drop, .drop, .drop, .drop, .as I .i, .as I .i]), (21, [])]
noncomputable def zz82_R5 (N n : Nat) (K : Ex → St → Option ((Int × (Bool × Unit)) × Unit)) (partition1 : Y4) (l6 : Y1) (t20 : Int) (t21 : Int) : Option ((Int × (Bool × Unit)) × Unit) := iter ((A_zz82).shape 10) (run (A_zz82) N (codeAt Try.f44 [1, 1, 1, 0, 1, 0, 0])) n ([.u, .val (.sl I) .i partition1, .u, .u, .u, .u, .val (.opt (.pair (.sl (.sl .bool)) (.pair (.sl (.sl I)) (.pair (.sl (.sl I)) .unit)))) .i l6, .u, .u, .u, .u, .u, .u, .u, .u, .u, .u, .u, .u, .u, .val I .i t20, .val I .i t21] ++ List.replicate 9 .u) K
noncomputable abbrev zz82_z : Ex → St → Option ((Int × (Bool × Unit)) × Unit) := finish (A_zz82) S_zz82 Try.f44.results.toList
noncomputable abbrev zz82_X5 (kX : St → Option ((Int × (Bool × Unit)) × Unit)) : Option ((Int × (Bool × Unit)) × Unit) := kX ([] ++ List.replicate 31 .u)
noncomputable abbrev zz82_E5 (kX : St → Option ((Int × (Bool × Unit)) × Unit)) (kO : Nat → St → Option ((Int × (Bool × Unit)) × Unit)) : Ex → St → Option ((Int × (Bool × Unit)) × Unit) := exK zz82_z 0 ((A_zz82).shape 21) kX kO
theorem zz82_step5 (N : Nat) (m : Nat) (kX : St → Option ((Int × (Bool × Unit)) × Unit)) (kO : Nat → St → Option ((Int × (Bool × Unit)) × Unit)) (partition1 : Y4) (l6 : Y1) (t20 : Int) (t21 : Int) : zz82_R5 N (m + 1) (zz82_E5 kX kO) partition1 l6 t20 t21 = zz82_b5 (zz82_R5 N m (zz82_E5 kX kO)) (zz82_X5 kX) partition1 l6 t20 t21 := by kernel_rfl
theorem zz82_iter5 (N : Nat) (kX : St → Option ((Int × (Bool × Unit)) × Unit)) (kO : Nat → St → Option ((Int × (Bool × Unit)) × Unit)) : ∀ (n : Nat) (partition1 : Y4) (l6 : Y1) (t20 : Int) (t21 : Int), zz82_R5 N n (zz82_E5 kX kO) partition1 l6 t20 t21 = zz82_l5 N (zz82_X5 kX) n partition1 l6 t20 t21
  | 0, _, _, _, _ => rfl
  | m + 1, partition1, l6, t20, t21 => by
    have hrec : zz82_R5 N m (zz82_E5 kX kO) = (zz82_l5 N (zz82_X5 kX) m) := (funext fun partition1 => (funext fun l6 => (funext fun t20 => (funext fun t21 => zz82_iter5 N kX kO m partition1 l6 t20 t21))))
    refine (zz82_step5 N m kX kO partition1 l6 t20 t21).trans ?_
    rw [hrec]
    rfl
noncomputable abbrev zz82_K5 (N : Nat) : Ex → St → Option ((Int × (Bool × Unit)) × Unit) := (blockK 0 (seqK ((A_zz82).shape 21) (run (A_zz82) N (codeAt Try.f44 [1, 1, 1, 1])) zz82_z))
noncomputable abbrev zz82_k5 (N : Nat) : St → Option ((Int × (Bool × Unit)) × Unit) := fun st' => run (A_zz82) N (codeAt Try.f44 [1, 1, 1, 1]) st' zz82_z
theorem zz82_after5 (N : Nat) : zz82_X5 (zz82_k5 N) = zz82_a5 := by kernel_rfl
theorem zz82_in5 (N : Nat) (partition1 : Y4) (l6 : Y1) (t20 : Int) (t21 : Int) : zz82_R5 N N (zz82_K5 N) partition1 l6 t20 t21 = zz82_F5 N partition1 l6 t20 t21 :=
  have h : zz82_X5 (zz82_k5 N) = (zz82_a5) := zz82_after5 N
  ((iter_ex (fun st => by kernel_rfl) (fun st => by kernel_rfl)).trans (zz82_iter5 N (zz82_k5 N) (fun j st => (zz82_K5 N) (.exit j) st) N partition1 l6 t20 t21)).trans (congrArg (fun k => zz82_l5 N k N partition1 l6 t20 t21) h)
theorem run0_zz82 (N : Nat) (x : (S_zz82).a.den) : runF (A_zz82) N Try.f44 S_zz82 x = (zz82_s (zz82_R5 N N (zz82_K5 N)) x.1 x.2.1) := by kernel_rfl
theorem run_zz82 (N : Nat) (x : (S_zz82).a.den) : runF (A_zz82) N Try.f44 S_zz82 x = zz82 N x.1 x.2.1 := by
  refine (run0_zz82 N x).trans ?_
  rw [(funext fun partition1 => (funext fun l6 => (funext fun t20 => (funext fun t21 => zz82_in5 N partition1 l6 t20 t21))))]
  rfl
theorem fn_zz82 : FnOk Try.prog 44 := ⟨_, Try.func44, by kernel_rfl, by kernel_rfl⟩
theorem good_zz82 : Gx.Good Try.prog 44 S_zz82 := good_of_run Try.func44 (of_decide_eq_true (by kernel_rfl)) fun x r h => ⟨A_zz82, big, mkCfg_ok tabOk, mkCfg_sigs (show SigsOk Try.prog [(87, S_zz49), (92, S_zz77), (94, S_zz81)] from ⟨⟨fn_zz49, good_zz49⟩, ⟨fn_zz77, good_zz77⟩, ⟨fn_zz81, good_zz81⟩, trivial⟩), (run_zz82 big x).trans h⟩

/-! laws_FnExactIdealOfCongruence -/
def laws_FnExactIdealOfCongruence_s (aP_0 : Y2) (aPartition_1 : Y4) : Option (Bool × Unit) :=
  cond (decide ((1048576 : Int) < (aPartition_1.length : Int)))
  (some (true, (())))
  ((zz2 aP_0 (1048576 : Int)).bind fun rq1 =>
  cond (decide (rq1.1 < (0 : Int)))
  (some (true, (())))
  ((zz5 aP_0).bind fun rq2 =>
  (zz3 big aPartition_1).bind fun rq3 =>
  (zz80 big rq2.1 rq3.1).bind fun rq4 =>
  (zz5 aP_0).bind fun rq5 =>
  (zz3 big aPartition_1).bind fun rq6 =>
  (zz82 big rq5.1 rq6.1).bind fun rq7 =>
  cond (decide (rq7.1.1 ≠ rq4.1.1))
  (some (false, (())))
  (cond (rq7.1.2.1 != rq4.1.2.1)
  (some (false, (())))
  ((zz5 aP_0).bind fun rq8 =>
  (zz54 rq5.1 rq8.1).bind fun rq9 =>
  cond (!rq9.1)
  (some (false, (())))
  ((zz3 big aPartition_1).bind fun rq10 =>
  (zz52 big rq6.1 rq10.1).bind fun rq11 =>
  cond (!rq11.1)
  (some (false, (())))
  (some (true, (()))))))))
def laws_FnExactIdealOfCongruence (aP_0 : Y2) (aPartition_1 : Y4) : Option (Bool × Unit) := laws_FnExactIdealOfCongruence_s aP_0 aPartition_1
def S_laws_FnExactIdealOfCongruence : Sig := { a := (.pair (.pair (.sl (.sl I)) .unit) (.pair (.sl I) .unit)), md := [0, 0], mf := [], m := .unit, r := .bool, rf := .i, f := fun x => laws_FnExactIdealOfCongruence x.1 x.2.1 }
def A_laws_FnExactIdealOfCongruence : Cfg := mkCfg tab [(15, S_zz2), (17, S_zz5), (43, S_zz3), (42, S_zz80), (44, S_zz82), (20, S_zz54), (19, S_zz52)] []
theorem run_laws_FnExactIdealOfCongruence (N : Nat) (x : (S_laws_FnExactIdealOfCongruence).a.den) : runF (A_laws_FnExactIdealOfCongruence) N Try.f10 S_laws_FnExactIdealOfCongruence x = laws_FnExactIdealOfCongruence x.1 x.2.1 := by kernel_rfl
theorem fn_laws_FnExactIdealOfCongruence : FnOk Try.prog 10 := ⟨_, Try.func10, by kernel_rfl, by kernel_rfl⟩
theorem good_laws_FnExactIdealOfCongruence : Gx.Good Try.prog 10 S_laws_FnExactIdealOfCongruence := good_of_run Try.func10 (of_decide_eq_true (by kernel_rfl)) fun x r h => ⟨A_laws_FnExactIdealOfCongruence, big, mkCfg_ok tabOk, mkCfg_sigs (show SigsOk Try.prog [(15, S_zz2), (17, S_zz5), (43, S_zz3), (42, S_zz80), (44, S_zz82), (20, S_zz54), (19, S_zz52)] from ⟨⟨fn_zz2, good_zz2⟩, ⟨fn_zz5, good_zz5⟩, ⟨fn_zz3, good_zz3⟩, ⟨fn_zz80, good_zz80⟩, ⟨fn_zz82, good_zz82⟩, ⟨fn_zz54, good_zz54⟩, ⟨fn_zz52, good_zz52⟩, trivial⟩), (run_laws_FnExactIdealOfCongruence big x).trans h⟩
end Go.Proofs.Ytafkhhcnmmkieaa
