import Derived.Test.YtlndlclemhfekaaGreatGk13p1
set_option maxRecDepth 100000
set_option linter.unusedVariables false
namespace Go.Proofs.YtlndlclemhfekaaGreat
open Go Go.Gx Go.Proofs

/-! zz40 -/
def zz40_b12 (rec : Y5 → Int → Int → Int → Int → Int → Int → Int → Int → Z0) (k : Y5 → Int → Int → Int → Int → Int → Z0) (o0 : Y5) (x3 y4 t7 t8 t20 t21 t46 t47 : Int) : Z0 :=
  cond (decide (t47 < t46))
  ((atI o0 x3).bind fun xq7 =>
  (atI xq7 y4).bind fun xq8 =>
  cond xq8
  ((atI o0 y4).bind fun xq9 =>
  (atI xq9 t47).bind fun xq10 =>
  cond xq10
  ((atI o0 x3).bind fun xq11 =>
  (atI xq11 t47).bind fun xq12 =>
  cond (!xq12)
  (some (false, (())))
  (rec o0 x3 y4 t7 t8 t20 t21 t46 (IntKind.i64.wrap (t47 + (1 : Int)))))
  (rec o0 x3 y4 t7 t8 t20 t21 t46 (IntKind.i64.wrap (t47 + (1 : Int)))))
  (rec o0 x3 y4 t7 t8 t20 t21 t46 (IntKind.i64.wrap (t47 + (1 : Int)))))
  (k o0 x3 t7 t8 t20 t21)
def zz40_a12 (rec : Y5 → Int → Int → Int → Int → Int → Z0) (o0 : Y5) (x3 t7 t8 t20 t21 : Int) : Z0 :=
  rec o0 x3 t7 t8 t20 (IntKind.i64.wrap (t21 + (1 : Int)))
def zz40_b7 (L12 : Y5 → Int → Int → Int → Int → Int → Int → Int → Int → Z0) (k : Y5 → Int → Int → Z0) (o0 : Y5) (x3 t7 t8 t20 t21 : Int) : Z0 :=
  cond (decide (t21 < t20))
  (cond (decide (x3 ≠ t21))
  ((atI o0 x3).bind fun xq3 =>
  (atI xq3 t21).bind fun xq4 =>
  cond xq4
  ((atI o0 t21).bind fun xq5 =>
  (atI xq5 x3).bind fun xq6 =>
  cond xq6
  (some (false, (())))
  (L12 o0 x3 t21 t7 t8 t20 t21 (o0.length : Int) (0 : Int)))
  (L12 o0 x3 t21 t7 t8 t20 t21 (o0.length : Int) (0 : Int)))
  (L12 o0 x3 t21 t7 t8 t20 t21 (o0.length : Int) (0 : Int)))
  (k o0 t7 t8)
def zz40_a7 (rec : Y5 → Int → Int → Z0) (o0 : Y5) (t7 t8 : Int) : Z0 :=
  rec o0 t7 (IntKind.i64.wrap (t8 + (1 : Int)))
def zz40_b2 (L7 : Y5 → Int → Int → Int → Int → Int → Z0) (k : Z0) (o0 : Y5) (t7 t8 : Int) : Z0 :=
  cond (decide (t8 < t7))
  ((atI o0 t8).bind fun xq1 =>
  (atI xq1 t8).bind fun xq2 =>
  cond (!xq2)
  (some (false, (())))
  (L7 o0 t8 t7 t8 (o0.length : Int) (0 : Int)))
  (k)
def zz40_a2 : Z0 :=
  some (true, (()))
def zz40_s (L2 : Y5 → Int → Int → Z0) (o_0 : Y5) : Z0 :=
  L2 o_0 (o_0.length : Int) (0 : Int)
def zz40_l12 (N : Nat) (k : Y5 → Int → Int → Int → Int → Int → Z0) : Nat → Y5 → Int → Int → Int → Int → Int → Int → Int → Int → Z0
  | 0, _, _, _, _, _, _, _, _, _ => none
  | m + 1, o0, x3, y4, t7, t8, t20, t21, t46, t47 => zz40_b12 (zz40_l12 N k m) k o0 x3 y4 t7 t8 t20 t21 t46 t47
def zz40_F12 (N : Nat) (rec : Y5 → Int → Int → Int → Int → Int → Z0) (k : Y5 → Int → Int → Z0) (o0 : Y5) (x3 y4 t7 t8 t20 t21 t46 t47 : Int) : Z0 := zz40_l12 N (zz40_a12 rec) N o0 x3 y4 t7 t8 t20 t21 t46 t47
def zz40_l7 (N : Nat) (k : Y5 → Int → Int → Z0) : Nat → Y5 → Int → Int → Int → Int → Int → Z0
  | 0, _, _, _, _, _, _ => none
  | m + 1, o0, x3, t7, t8, t20, t21 => zz40_b7 (zz40_F12 N (zz40_l7 N k m) k) k o0 x3 t7 t8 t20 t21
def zz40_F7 (N : Nat) (rec : Y5 → Int → Int → Z0) (k : Z0) (o0 : Y5) (x3 t7 t8 t20 t21 : Int) : Z0 := zz40_l7 N (zz40_a7 rec) N o0 x3 t7 t8 t20 t21
def zz40_l2 (N : Nat) (k : Z0) : Nat → Y5 → Int → Int → Z0
  | 0, _, _, _ => none
  | m + 1, o0, t7, t8 => zz40_b2 (zz40_F7 N (zz40_l2 N k m) k) k o0 t7 t8
def zz40_F2 (N : Nat) (o0 : Y5) (t7 t8 : Int) : Z0 := zz40_l2 N (zz40_a2) N o0 t7 t8
def zz40 (N : Nat) (o_0 : Y5) : Z0 := zz40_s (zz40_F2 N) o_0
def S_zz40 : Sig := { a := (.pair (.sl (.sl .bool)) .unit), md := [0], mf := [], m := .unit, r := .bool, rf := .i, f := fun x => zz40 big x.1 }
def A_zz40 : Cfg := mkCfg tab [] [(4, [.as (.sl (.sl .bool)) .i, .drop, .drop, .drop, .drop, .drop, .drop, .as I .i, .as I .i]), (14, [.as (.sl (.sl .bool)) .i, .drop, .drop, .as I .i, .drop, .drop, .drop, .as I .i, .as I .i, .drop, .drop, .drop, .drop, .drop, .drop, .drop, .drop, .drop, .drop, .drop, .as I .i, .as I .i]), (39, []), (24, [.as (.sl (.sl .bool)) .i, .drop, .drop, .as I .i, .as I .i, .drop, .drop, .as I .i, .as I .i, .drop, .drop, .drop, .drop, .drop, .drop, .drop, .drop, .drop, .drop, .drop, .as I .i, .as I .i, .drop, .drop, .drop, .drop, .drop, .drop, .drop, .drop, .drop, .drop, .drop, .drop, .drop, .drop, .drop, .drop, .drop, .drop, .drop, .drop, .drop, .drop, .drop, .drop, .as I .i, .as I .i]), (37, [.as (.sl (.sl .bool)) .i, .drop, .drop, .drop, .drop, .drop, .drop, .as I .i, .as I .i]), (35, [.as (.sl (.sl .bool)) .i, .drop, .drop, .as I .i, .drop, .drop, .drop, .as I .i, .as I .i, .drop, .drop, .drop, .drop, .drop, .drop, .drop, .drop, .drop, .drop, .drop, .as I .i, .as I .i])]
noncomputable def zz40_R2 (N n : Nat) (K : Ex → St → Z0) (o0 : Y5) (t7 t8 : Int) : Z0 := iter ((A_zz40).shape 4) (run (A_zz40) N (codeAt Tryz.f76 [1, 0, 1, 0, 0])) n ([.val (.sl (.sl .bool)) .i o0, .u, .u, .u, .u, .u, .u, .val I .i t7, .val I .i t8] ++ List.replicate 70 .u) K
noncomputable def zz40_R7 (N n : Nat) (K : Ex → St → Z0) (o0 : Y5) (x3 t7 t8 t20 t21 : Int) : Z0 := iter ((A_zz40).shape 14) (run (A_zz40) N (codeAt Tryz.f76 [1, 0, 1, 0, 0, 1, 1, 0, 0, 1, 1, 1, 0, 0])) n ([.val (.sl (.sl .bool)) .i o0, .u, .u, .val I .i x3, .u, .u, .u, .val I .i t7, .val I .i t8, .u, .u, .u, .u, .u, .u, .u, .u, .u, .u, .u, .val I .i t20, .val I .i t21] ++ List.replicate 57 .u) K
noncomputable def zz40_R12 (N n : Nat) (K : Ex → St → Z0) (o0 : Y5) (x3 y4 t7 t8 t20 t21 t46 t47 : Int) : Z0 := iter ((A_zz40).shape 24) (run (A_zz40) N (codeAt Tryz.f76 [1, 0, 1, 0, 0, 1, 1, 0, 0, 1, 1, 1, 0, 0, 1, 1, 0, 0, 1, 1, 1, 0, 0])) n ([.val (.sl (.sl .bool)) .i o0, .u, .u, .val I .i x3, .val I .i y4, .u, .u, .val I .i t7, .val I .i t8, .u, .u, .u, .u, .u, .u, .u, .u, .u, .u, .u, .val I .i t20, .val I .i t21, .u, .u, .u, .u, .u, .u, .u, .u, .u, .u, .u, .u, .u, .u, .u, .u, .u, .u, .u, .u, .u, .u, .u, .u, .val I .i t46, .val I .i t47] ++ List.replicate 31 .u) K
noncomputable abbrev zz40_z : Ex → St → Z0 := finish (A_zz40) S_zz40 Tryz.f76.results.toList
noncomputable abbrev zz40_X2 (kX : St → Z0) : Z0 := kX ([] ++ List.replicate 79 .u)
noncomputable abbrev zz40_E2 (kX : St → Z0) (kO : Nat → St → Z0) : Ex → St → Z0 := exK zz40_z 0 ((A_zz40).shape 39) kX kO
noncomputable abbrev zz40_X7 (kX : St → Z0) : Y5 → Int → Int → Z0 := fun (o0 : Y5) (t7 t8 : Int) => kX ([.val (.sl (.sl .bool)) .i o0, .u, .u, .u, .u, .u, .u, .val I .i t7, .val I .i t8] ++ List.replicate 70 .u)
noncomputable abbrev zz40_E7 (kX : St → Z0) (kO : Nat → St → Z0) : Ex → St → Z0 := exK zz40_z 2 ((A_zz40).shape 37) kX kO
noncomputable abbrev zz40_X12 (kX : St → Z0) : Y5 → Int → Int → Int → Int → Int → Z0 := fun (o0 : Y5) (x3 t7 t8 t20 t21 : Int) => kX ([.val (.sl (.sl .bool)) .i o0, .u, .u, .val I .i x3, .u, .u, .u, .val I .i t7, .val I .i t8, .u, .u, .u, .u, .u, .u, .u, .u, .u, .u, .u, .val I .i t20, .val I .i t21] ++ List.replicate 57 .u)
noncomputable abbrev zz40_E12 (kX : St → Z0) (kO : Nat → St → Z0) : Ex → St → Z0 := exK zz40_z 4 ((A_zz40).shape 35) kX kO
theorem zz40_step12 (N m : Nat) (kX : St → Z0) (kO : Nat → St → Z0) (o0 : Y5) (x3 y4 t7 t8 t20 t21 t46 t47 : Int) : zz40_R12 N (m + 1) (zz40_E12 kX kO) o0 x3 y4 t7 t8 t20 t21 t46 t47 = zz40_b12 (zz40_R12 N m (zz40_E12 kX kO)) (zz40_X12 kX) o0 x3 y4 t7 t8 t20 t21 t46 t47 := by kernel_rfl
theorem zz40_iter12 (N : Nat) (kX : St → Z0) (kO : Nat → St → Z0) : ∀ (n : Nat) (o0 : Y5) (x3 y4 t7 t8 t20 t21 t46 t47 : Int), zz40_R12 N n (zz40_E12 kX kO) o0 x3 y4 t7 t8 t20 t21 t46 t47 = zz40_l12 N (zz40_X12 kX) n o0 x3 y4 t7 t8 t20 t21 t46 t47
  | 0, _, _, _, _, _, _, _, _, _ => rfl
  | m + 1, o0, x3, y4, t7, t8, t20, t21, t46, t47 => by
    have hrec : zz40_R12 N m (zz40_E12 kX kO) = (zz40_l12 N (zz40_X12 kX) m) := (funext fun o0 => (funext fun x3 => (funext fun y4 => (funext fun t7 => (funext fun t8 => (funext fun t20 => (funext fun t21 => (funext fun t46 => (funext fun t47 => zz40_iter12 N kX kO m o0 x3 y4 t7 t8 t20 t21 t46 t47)))))))))
    refine (zz40_step12 N m kX kO o0 x3 y4 t7 t8 t20 t21 t46 t47).trans ?_
    rw [hrec]
    rfl
noncomputable abbrev zz40_K12 (N m : Nat) (kX : St → Z0) (kO : Nat → St → Z0) : Ex → St → Z0 := (blockK 4 (blockK 3 (seqK ((A_zz40).shape 35) (run (A_zz40) N (codeAt Tryz.f76 [1, 0, 1, 0, 0, 1, 1, 0, 0, 1, 1, 1, 0, 0, 1, 1, 1])) (iterK ((A_zz40).shape 14) (run (A_zz40) N (codeAt Tryz.f76 [1, 0, 1, 0, 0, 1, 1, 0, 0, 1, 1, 1, 0, 0])) m (zz40_E7 kX kO)))))
noncomputable abbrev zz40_k12 (N m : Nat) (kX : St → Z0) (kO : Nat → St → Z0) : St → Z0 := fun st' => run (A_zz40) N (codeAt Tryz.f76 [1, 0, 1, 0, 0, 1, 1, 0, 0, 1, 1, 1, 0, 0, 1, 1, 1]) st' (iterK ((A_zz40).shape 14) (run (A_zz40) N (codeAt Tryz.f76 [1, 0, 1, 0, 0, 1, 1, 0, 0, 1, 1, 1, 0, 0])) m (zz40_E7 kX kO))
theorem zz40_after12 (N m : Nat) (kX : St → Z0) (kO : Nat → St → Z0) (o0 : Y5) (x3 t7 t8 t20 t21 : Int) : zz40_X12 (zz40_k12 N m kX kO) o0 x3 t7 t8 t20 t21 = zz40_a12 (zz40_R7 N m (zz40_E7 kX kO)) o0 x3 t7 t8 t20 t21 := by kernel_rfl
theorem zz40_in12 (N m : Nat) (kX : St → Z0) (kO : Nat → St → Z0) (recF : Y5 → Int → Int → Int → Int → Int → Z0) (hrec : zz40_R7 N m (zz40_E7 kX kO) = recF) (o0 : Y5) (x3 y4 t7 t8 t20 t21 t46 t47 : Int) : zz40_R12 N N (zz40_K12 N m kX kO) o0 x3 y4 t7 t8 t20 t21 t46 t47 = zz40_F12 N recF (zz40_X7 kX) o0 x3 y4 t7 t8 t20 t21 t46 t47 :=
  have h : zz40_X12 (zz40_k12 N m kX kO) = (zz40_a12 recF) := (funext fun o0 => (funext fun x3 => (funext fun t7 => (funext fun t8 => (funext fun t20 => (funext fun t21 => (zz40_after12 N m kX kO o0 x3 t7 t8 t20 t21).trans (by rw [hrec])))))))
  ((iter_ex (fun st => by kernel_rfl) (fun st => by kernel_rfl)).trans (zz40_iter12 N (zz40_k12 N m kX kO) (fun j st => (zz40_K12 N m kX kO) (.exit j) st) N o0 x3 y4 t7 t8 t20 t21 t46 t47)).trans (congrArg (fun k => zz40_l12 N k N o0 x3 y4 t7 t8 t20 t21 t46 t47) h)
theorem zz40_step7 (N m : Nat) (kX : St → Z0) (kO : Nat → St → Z0) (o0 : Y5) (x3 t7 t8 t20 t21 : Int) : zz40_R7 N (m + 1) (zz40_E7 kX kO) o0 x3 t7 t8 t20 t21 = zz40_b7 (zz40_R12 N N (zz40_K12 N m kX kO)) (zz40_X7 kX) o0 x3 t7 t8 t20 t21 := by kernel_rfl
theorem zz40_iter7 (N : Nat) (kX : St → Z0) (kO : Nat → St → Z0) : ∀ (n : Nat) (o0 : Y5) (x3 t7 t8 t20 t21 : Int), zz40_R7 N n (zz40_E7 kX kO) o0 x3 t7 t8 t20 t21 = zz40_l7 N (zz40_X7 kX) n o0 x3 t7 t8 t20 t21
  | 0, _, _, _, _, _, _ => rfl
  | m + 1, o0, x3, t7, t8, t20, t21 => by
    have hrec : zz40_R7 N m (zz40_E7 kX kO) = (zz40_l7 N (zz40_X7 kX) m) := (funext fun o0 => (funext fun x3 => (funext fun t7 => (funext fun t8 => (funext fun t20 => (funext fun t21 => zz40_iter7 N kX kO m o0 x3 t7 t8 t20 t21))))))
    refine (zz40_step7 N m kX kO o0 x3 t7 t8 t20 t21).trans ?_
    rw [(funext fun o0 => (funext fun x3 => (funext fun y4 => (funext fun t7 => (funext fun t8 => (funext fun t20 => (funext fun t21 => (funext fun t46 => (funext fun t47 => zz40_in12 N m kX kO (zz40_l7 N (zz40_X7 kX) m) hrec o0 x3 y4 t7 t8 t20 t21 t46 t47)))))))))]
    rfl
noncomputable abbrev zz40_K7 (N m : Nat) (kX : St → Z0) (kO : Nat → St → Z0) : Ex → St → Z0 := (blockK 2 (blockK 1 (seqK ((A_zz40).shape 37) (run (A_zz40) N (codeAt Tryz.f76 [1, 0, 1, 0, 0, 1, 1, 1])) (iterK ((A_zz40).shape 4) (run (A_zz40) N (codeAt Tryz.f76 [1, 0, 1, 0, 0])) m (zz40_E2 kX kO)))))
noncomputable abbrev zz40_k7 (N m : Nat) (kX : St → Z0) (kO : Nat → St → Z0) : St → Z0 := fun st' => run (A_zz40) N (codeAt Tryz.f76 [1, 0, 1, 0, 0, 1, 1, 1]) st' (iterK ((A_zz40).shape 4) (run (A_zz40) N (codeAt Tryz.f76 [1, 0, 1, 0, 0])) m (zz40_E2 kX kO))
theorem zz40_after7 (N m : Nat) (kX : St → Z0) (kO : Nat → St → Z0) (o0 : Y5) (t7 t8 : Int) : zz40_X7 (zz40_k7 N m kX kO) o0 t7 t8 = zz40_a7 (zz40_R2 N m (zz40_E2 kX kO)) o0 t7 t8 := by kernel_rfl
theorem zz40_in7 (N m : Nat) (kX : St → Z0) (kO : Nat → St → Z0) (recF : Y5 → Int → Int → Z0) (hrec : zz40_R2 N m (zz40_E2 kX kO) = recF) (o0 : Y5) (x3 t7 t8 t20 t21 : Int) : zz40_R7 N N (zz40_K7 N m kX kO) o0 x3 t7 t8 t20 t21 = zz40_F7 N recF (zz40_X2 kX) o0 x3 t7 t8 t20 t21 :=
  have h : zz40_X7 (zz40_k7 N m kX kO) = (zz40_a7 recF) := (funext fun o0 => (funext fun t7 => (funext fun t8 => (zz40_after7 N m kX kO o0 t7 t8).trans (by rw [hrec]))))
  ((iter_ex (fun st => by kernel_rfl) (fun st => by kernel_rfl)).trans (zz40_iter7 N (zz40_k7 N m kX kO) (fun j st => (zz40_K7 N m kX kO) (.exit j) st) N o0 x3 t7 t8 t20 t21)).trans (congrArg (fun k => zz40_l7 N k N o0 x3 t7 t8 t20 t21) h)
theorem zz40_step2 (N m : Nat) (kX : St → Z0) (kO : Nat → St → Z0) (o0 : Y5) (t7 t8 : Int) : zz40_R2 N (m + 1) (zz40_E2 kX kO) o0 t7 t8 = zz40_b2 (zz40_R7 N N (zz40_K7 N m kX kO)) (zz40_X2 kX) o0 t7 t8 := by kernel_rfl
theorem zz40_iter2 (N : Nat) (kX : St → Z0) (kO : Nat → St → Z0) : ∀ (n : Nat) (o0 : Y5) (t7 t8 : Int), zz40_R2 N n (zz40_E2 kX kO) o0 t7 t8 = zz40_l2 N (zz40_X2 kX) n o0 t7 t8
  | 0, _, _, _ => rfl
  | m + 1, o0, t7, t8 => by
    have hrec : zz40_R2 N m (zz40_E2 kX kO) = (zz40_l2 N (zz40_X2 kX) m) := (funext fun o0 => (funext fun t7 => (funext fun t8 => zz40_iter2 N kX kO m o0 t7 t8)))
    refine (zz40_step2 N m kX kO o0 t7 t8).trans ?_
    rw [(funext fun o0 => (funext fun x3 => (funext fun t7 => (funext fun t8 => (funext fun t20 => (funext fun t21 => zz40_in7 N m kX kO (zz40_l2 N (zz40_X2 kX) m) hrec o0 x3 t7 t8 t20 t21))))))]
    rfl
noncomputable abbrev zz40_K2 (N : Nat) : Ex → St → Z0 := (blockK 0 (seqK ((A_zz40).shape 39) (run (A_zz40) N (codeAt Tryz.f76 [1, 1])) zz40_z))
noncomputable abbrev zz40_k2 (N : Nat) : St → Z0 := fun st' => run (A_zz40) N (codeAt Tryz.f76 [1, 1]) st' zz40_z
theorem zz40_after2 (N : Nat) : zz40_X2 (zz40_k2 N) = zz40_a2 := by kernel_rfl
theorem zz40_in2 (N : Nat) (o0 : Y5) (t7 t8 : Int) : zz40_R2 N N (zz40_K2 N) o0 t7 t8 = zz40_F2 N o0 t7 t8 :=
  have h : zz40_X2 (zz40_k2 N) = (zz40_a2) := zz40_after2 N
  ((iter_ex (fun st => by kernel_rfl) (fun st => by kernel_rfl)).trans (zz40_iter2 N (zz40_k2 N) (fun j st => (zz40_K2 N) (.exit j) st) N o0 t7 t8)).trans (congrArg (fun k => zz40_l2 N k N o0 t7 t8) h)
theorem run0_zz40 (N : Nat) (x : (S_zz40).a.den) : runF (A_zz40) N Tryz.f76 S_zz40 x = (zz40_s (zz40_R2 N N (zz40_K2 N)) x.1) := by kernel_rfl
theorem run_zz40 (N : Nat) (x : (S_zz40).a.den) : runF (A_zz40) N Tryz.f76 S_zz40 x = zz40 N x.1 := by
  refine (run0_zz40 N x).trans ?_
  rw [(funext fun o0 => (funext fun t7 => (funext fun t8 => zz40_in2 N o0 t7 t8)))]
  rfl
theorem fn_zz40 : FnOk Tryz.prog 76 := ⟨_, Tryz.func76, by kernel_rfl, by kernel_rfl⟩
theorem good_zz40 : Gx.Good Tryz.prog 76 S_zz40 := good_of_run Tryz.func76 (of_decide_eq_true (by kernel_rfl)) fun x r h => ⟨A_zz40, big, mkCfg_ok tabOk, mkCfg_sigs (show SigsOk Tryz.prog [] from trivial), (run_zz40 big x).trans h⟩

/-! zz41 -/
def zz41_b11 (rec : Int → Y5 → Int → Y3 → Int → Int → Y4 → Int → Bool → Bool → Y4 → Int → Int → Z5) (k : Int → Y5 → Y3 → Int → Int → Y4 → Int → Bool → Bool → Z5) (n4 : Int) (o5 : Y5) (x6 : Int) (t18 : Y3) (t19 t20 : Int) (t29 : Y4) (t30 : Int) (t31 t32 : Bool) (t34 : Y4) (t35 t36 : Int) : Z5 :=
  cond (decide (t36 < t35))
  ((atI t34 t36).bind fun xq6 =>
  (atI o5 xq6).bind fun _ =>
  (o5[xq6.toNat]?).bind fun xq7 =>
  (o5[xq6.toNat]?).bind fun xq8 =>
  (atI xq8 x6).bind fun _ =>
  (o5[xq6.toNat]?).bind fun xq9 =>
  (xq9[x6.toNat]?).bind fun xq10 =>
  rec n4 (o5.set xq6.toNat (xq9.set x6.toNat true)) x6 t18 t19 t20 t29 t30 t31 t32 t34 t35 (IntKind.i64.wrap (t36 + (1 : Int))))
  (k n4 o5 t18 t19 t20 t29 t30 t31 t32)
def zz41_a11 (rec : Int → Y5 → Y3 → Int → Int → Z5) (n4 : Int) (o5 : Y5) (t18 : Y3) (t19 t20 : Int) (t29 : Y4) (t30 : Int) (t31 t32 : Bool) : Z5 :=
  rec n4 o5 t18 t19 (IntKind.i64.wrap (t20 + (1 : Int)))
def zz41_b6 (L11 : Int → Y5 → Int → Y3 → Int → Int → Y4 → Int → Bool → Bool → Y4 → Int → Int → Z5) (k : Y5 → Z5) (n4 : Int) (o5 : Y5) (t18 : Y3) (t19 t20 : Int) : Z5 :=
  cond (decide (t20 < t19))
  ((atI t18 t20).bind fun xq2 =>
  (zz38 big xq2).bind fun rq3 =>
  cond (!rq3.1)
  (some (([], false, ()), (())))
  ((zz39 big xq2 n4).bind fun rq4 =>
  cond (!rq4.1)
  (some (([], false, ()), (())))
  (L11 n4 o5 t20 t18 t19 t20 xq2 n4 rq4.1 (!rq4.1) xq2 (xq2.length : Int) (0 : Int))))
  (k o5)
def zz41_a6 (o5 : Y5) : Z5 :=
  (zz40 big o5).bind fun rq5 =>
  some ((o5, rq5.1, ()), (()))
def zz41_s (L6 : Int → Y5 → Y3 → Int → Int → Z5) (p_0 : Y2) : Z5 :=
  cond (decide ((10 : Int) < (p_0.1.length : Int)))
  (some (([], false, ()), (())))
  ((zz37 big (p_0.1.length : Int)).bind fun rq1 =>
  L6 (p_0.1.length : Int) rq1.1 p_0.1 (p_0.1.length : Int) (0 : Int))
def zz41_l11 (N : Nat) (k : Int → Y5 → Y3 → Int → Int → Y4 → Int → Bool → Bool → Z5) : Nat → Int → Y5 → Int → Y3 → Int → Int → Y4 → Int → Bool → Bool → Y4 → Int → Int → Z5
  | 0, _, _, _, _, _, _, _, _, _, _, _, _, _ => none
  | m + 1, n4, o5, x6, t18, t19, t20, t29, t30, t31, t32, t34, t35, t36 => zz41_b11 (zz41_l11 N k m) k n4 o5 x6 t18 t19 t20 t29 t30 t31 t32 t34 t35 t36
def zz41_F11 (N : Nat) (rec : Int → Y5 → Y3 → Int → Int → Z5) (k : Y5 → Z5) (n4 : Int) (o5 : Y5) (x6 : Int) (t18 : Y3) (t19 t20 : Int) (t29 : Y4) (t30 : Int) (t31 t32 : Bool) (t34 : Y4) (t35 t36 : Int) : Z5 := zz41_l11 N (zz41_a11 rec) N n4 o5 x6 t18 t19 t20 t29 t30 t31 t32 t34 t35 t36
def zz41_l6 (N : Nat) (k : Y5 → Z5) : Nat → Int → Y5 → Y3 → Int → Int → Z5
  | 0, _, _, _, _, _ => none
  | m + 1, n4, o5, t18, t19, t20 => zz41_b6 (zz41_F11 N (zz41_l6 N k m) k) k n4 o5 t18 t19 t20
def zz41_F6 (N : Nat) (n4 : Int) (o5 : Y5) (t18 : Y3) (t19 t20 : Int) : Z5 := zz41_l6 N (zz41_a6) N n4 o5 t18 t19 t20
def zz41 (N : Nat) (p_0 : Y2) : Z5 := zz41_s (zz41_F6 N) p_0
def S_zz41 : Sig := { a := (.pair (.pair (.sl (.sl I)) .unit) .unit), md := [0], mf := [], m := .unit, r := (.tup (.pair (.sl (.sl .bool)) (.pair .bool .unit))), rf := (.p (.o (.o .i)) .i), f := fun x => zz41 big x.1 }
def A_zz41 : Cfg := mkCfg tab [(74, S_zz37), (41, S_zz38), (75, S_zz39), (76, S_zz40)] [(12, [.drop, .drop, .drop, .drop, .as I .i, .as (.sl (.sl .bool)) (.o (.o .i)), .drop, .drop, .drop, .drop, .drop, .drop, .drop, .drop, .drop, .drop, .drop, .drop, .as (.sl (.sl I)) .i, .as I .i, .as I .i]), (22, [.drop, .drop, .drop, .drop, .as I .i, .as (.sl (.sl .bool)) (.o (.o .i)), .as I .i, .drop, .drop, .drop, .drop, .drop, .drop, .drop, .drop, .drop, .drop, .drop, .as (.sl (.sl I)) .i, .as I .i, .as I .i, .drop, .drop, .drop, .drop, .drop, .drop, .drop, .drop, .as (.sl I) .i, .as I .i, .as .bool .i, .as .bool .i, .drop, .as (.sl I) .i, .as I .i, .as I .i]), (33, [.drop, .drop, .drop, .drop, .drop, .as (.sl (.sl .bool)) (.o (.o .i))]), (31, [.drop, .drop, .drop, .drop, .as I .i, .as (.sl (.sl .bool)) (.o (.o .i)), .drop, .drop, .drop, .drop, .drop, .drop, .drop, .drop, .drop, .drop, .drop, .drop, .as (.sl (.sl I)) .i, .as I .i, .as I .i, .drop, .drop, .drop, .drop, .drop, .drop, .drop, .drop, .as (.sl I) .i, .as I .i, .as .bool .i, .as .bool .i])]
noncomputable def zz41_R6 (N n : Nat) (K : Ex → St → Z5) (n4 : Int) (o5 : Y5) (t18 : Y3) (t19 t20 : Int) : Z5 := iter ((A_zz41).shape 12) (run (A_zz41) N (codeAt Tryz.f55 [1, 1, 1, 1, 0, 1, 0, 0])) n ([.u, .u, .u, .u, .val I .i n4, .val (.sl (.sl .bool)) (.o (.o .i)) o5, .u, .u, .u, .u, .u, .u, .u, .u, .u, .u, .u, .u, .val (.sl (.sl I)) .i t18, .val I .i t19, .val I .i t20] ++ List.replicate 30 .u) K
noncomputable def zz41_R11 (N n : Nat) (K : Ex → St → Z5) (n4 : Int) (o5 : Y5) (x6 : Int) (t18 : Y3) (t19 t20 : Int) (t29 : Y4) (t30 : Int) (t31 t32 : Bool) (t34 : Y4) (t35 t36 : Int) : Z5 := iter ((A_zz41).shape 22) (run (A_zz41) N (codeAt Tryz.f55 [1, 1, 1, 1, 0, 1, 0, 0, 1, 1, 0, 0, 1, 1, 1, 0, 0])) n ([.u, .u, .u, .u, .val I .i n4, .val (.sl (.sl .bool)) (.o (.o .i)) o5, .val I .i x6, .u, .u, .u, .u, .u, .u, .u, .u, .u, .u, .u, .val (.sl (.sl I)) .i t18, .val I .i t19, .val I .i t20, .u, .u, .u, .u, .u, .u, .u, .u, .val (.sl I) .i t29, .val I .i t30, .val .bool .i t31, .val .bool .i t32, .u, .val (.sl I) .i t34, .val I .i t35, .val I .i t36] ++ List.replicate 14 .u) K
noncomputable abbrev zz41_z : Ex → St → Z5 := finish (A_zz41) S_zz41 Tryz.f55.results.toList
noncomputable abbrev zz41_X6 (kX : St → Z5) : Y5 → Z5 := fun (o5 : Y5) => kX ([.u, .u, .u, .u, .u, .val (.sl (.sl .bool)) (.o (.o .i)) o5] ++ List.replicate 45 .u)
noncomputable abbrev zz41_E6 (kX : St → Z5) (kO : Nat → St → Z5) : Ex → St → Z5 := exK zz41_z 0 ((A_zz41).shape 33) kX kO
noncomputable abbrev zz41_X11 (kX : St → Z5) : Int → Y5 → Y3 → Int → Int → Y4 → Int → Bool → Bool → Z5 := fun (n4 : Int) (o5 : Y5) (t18 : Y3) (t19 t20 : Int) (t29 : Y4) (t30 : Int) (t31 t32 : Bool) => kX ([.u, .u, .u, .u, .val I .i n4, .val (.sl (.sl .bool)) (.o (.o .i)) o5, .u, .u, .u, .u, .u, .u, .u, .u, .u, .u, .u, .u, .val (.sl (.sl I)) .i t18, .val I .i t19, .val I .i t20, .u, .u, .u, .u, .u, .u, .u, .u, .val (.sl I) .i t29, .val I .i t30, .val .bool .i t31, .val .bool .i t32] ++ List.replicate 18 .u)
noncomputable abbrev zz41_E11 (kX : St → Z5) (kO : Nat → St → Z5) : Ex → St → Z5 := exK zz41_z 2 ((A_zz41).shape 31) kX kO
theorem zz41_step11 (N m : Nat) (kX : St → Z5) (kO : Nat → St → Z5) (n4 : Int) (o5 : Y5) (x6 : Int) (t18 : Y3) (t19 t20 : Int) (t29 : Y4) (t30 : Int) (t31 t32 : Bool) (t34 : Y4) (t35 t36 : Int) : zz41_R11 N (m + 1) (zz41_E11 kX kO) n4 o5 x6 t18 t19 t20 t29 t30 t31 t32 t34 t35 t36 = zz41_b11 (zz41_R11 N m (zz41_E11 kX kO)) (zz41_X11 kX) n4 o5 x6 t18 t19 t20 t29 t30 t31 t32 t34 t35 t36 := by kernel_rfl
theorem zz41_iter11 (N : Nat) (kX : St → Z5) (kO : Nat → St → Z5) : ∀ (n : Nat) (n4 : Int) (o5 : Y5) (x6 : Int) (t18 : Y3) (t19 t20 : Int) (t29 : Y4) (t30 : Int) (t31 t32 : Bool) (t34 : Y4) (t35 t36 : Int), zz41_R11 N n (zz41_E11 kX kO) n4 o5 x6 t18 t19 t20 t29 t30 t31 t32 t34 t35 t36 = zz41_l11 N (zz41_X11 kX) n n4 o5 x6 t18 t19 t20 t29 t30 t31 t32 t34 t35 t36
  | 0, _, _, _, _, _, _, _, _, _, _, _, _, _ => rfl
  | m + 1, n4, o5, x6, t18, t19, t20, t29, t30, t31, t32, t34, t35, t36 => by
    have hrec : zz41_R11 N m (zz41_E11 kX kO) = (zz41_l11 N (zz41_X11 kX) m) := (funext fun n4 => (funext fun o5 => (funext fun x6 => (funext fun t18 => (funext fun t19 => (funext fun t20 => (funext fun t29 => (funext fun t30 => (funext fun t31 => (funext fun t32 => (funext fun t34 => (funext fun t35 => (funext fun t36 => zz41_iter11 N kX kO m n4 o5 x6 t18 t19 t20 t29 t30 t31 t32 t34 t35 t36)))))))))))))
    refine (zz41_step11 N m kX kO n4 o5 x6 t18 t19 t20 t29 t30 t31 t32 t34 t35 t36).trans ?_
    rw [hrec]
    rfl
noncomputable abbrev zz41_K11 (N m : Nat) (kX : St → Z5) (kO : Nat → St → Z5) : Ex → St → Z5 := (blockK 2 (blockK 1 (seqK ((A_zz41).shape 31) (run (A_zz41) N (codeAt Tryz.f55 [1, 1, 1, 1, 0, 1, 0, 0, 1, 1, 1])) (iterK ((A_zz41).shape 12) (run (A_zz41) N (codeAt Tryz.f55 [1, 1, 1, 1, 0, 1, 0, 0])) m (zz41_E6 kX kO)))))
noncomputable abbrev zz41_k11 (N m : Nat) (kX : St → Z5) (kO : Nat → St → Z5) : St → Z5 := fun st' => run (A_zz41) N (codeAt Tryz.f55 [1, 1, 1, 1, 0, 1, 0, 0, 1, 1, 1]) st' (iterK ((A_zz41).shape 12) (run (A_zz41) N (codeAt Tryz.f55 [1, 1, 1, 1, 0, 1, 0, 0])) m (zz41_E6 kX kO))
theorem zz41_after11 (N m : Nat) (kX : St → Z5) (kO : Nat → St → Z5) (n4 : Int) (o5 : Y5) (t18 : Y3) (t19 t20 : Int) (t29 : Y4) (t30 : Int) (t31 t32 : Bool) : zz41_X11 (zz41_k11 N m kX kO) n4 o5 t18 t19 t20 t29 t30 t31 t32 = zz41_a11 (zz41_R6 N m (zz41_E6 kX kO)) n4 o5 t18 t19 t20 t29 t30 t31 t32 := by kernel_rfl
theorem zz41_in11 (N m : Nat) (kX : St → Z5) (kO : Nat → St → Z5) (recF : Int → Y5 → Y3 → Int → Int → Z5) (hrec : zz41_R6 N m (zz41_E6 kX kO) = recF) (n4 : Int) (o5 : Y5) (x6 : Int) (t18 : Y3) (t19 t20 : Int) (t29 : Y4) (t30 : Int) (t31 t32 : Bool) (t34 : Y4) (t35 t36 : Int) : zz41_R11 N N (zz41_K11 N m kX kO) n4 o5 x6 t18 t19 t20 t29 t30 t31 t32 t34 t35 t36 = zz41_F11 N recF (zz41_X6 kX) n4 o5 x6 t18 t19 t20 t29 t30 t31 t32 t34 t35 t36 :=
  have h : zz41_X11 (zz41_k11 N m kX kO) = (zz41_a11 recF) := (funext fun n4 => (funext fun o5 => (funext fun t18 => (funext fun t19 => (funext fun t20 => (funext fun t29 => (funext fun t30 => (funext fun t31 => (funext fun t32 => (zz41_after11 N m kX kO n4 o5 t18 t19 t20 t29 t30 t31 t32).trans (by rw [hrec]))))))))))
  ((iter_ex (fun st => by kernel_rfl) (fun st => by kernel_rfl)).trans (zz41_iter11 N (zz41_k11 N m kX kO) (fun j st => (zz41_K11 N m kX kO) (.exit j) st) N n4 o5 x6 t18 t19 t20 t29 t30 t31 t32 t34 t35 t36)).trans (congrArg (fun k => zz41_l11 N k N n4 o5 x6 t18 t19 t20 t29 t30 t31 t32 t34 t35 t36) h)
theorem zz41_step6 (N m : Nat) (kX : St → Z5) (kO : Nat → St → Z5) (n4 : Int) (o5 : Y5) (t18 : Y3) (t19 t20 : Int) : zz41_R6 N (m + 1) (zz41_E6 kX kO) n4 o5 t18 t19 t20 = zz41_b6 (zz41_R11 N N (zz41_K11 N m kX kO)) (zz41_X6 kX) n4 o5 t18 t19 t20 := by kernel_rfl
theorem zz41_iter6 (N : Nat) (kX : St → Z5) (kO : Nat → St → Z5) : ∀ (n : Nat) (n4 : Int) (o5 : Y5) (t18 : Y3) (t19 t20 : Int), zz41_R6 N n (zz41_E6 kX kO) n4 o5 t18 t19 t20 = zz41_l6 N (zz41_X6 kX) n n4 o5 t18 t19 t20
  | 0, _, _, _, _, _ => rfl
  | m + 1, n4, o5, t18, t19, t20 => by
    have hrec : zz41_R6 N m (zz41_E6 kX kO) = (zz41_l6 N (zz41_X6 kX) m) := (funext fun n4 => (funext fun o5 => (funext fun t18 => (funext fun t19 => (funext fun t20 => zz41_iter6 N kX kO m n4 o5 t18 t19 t20)))))
    refine (zz41_step6 N m kX kO n4 o5 t18 t19 t20).trans ?_
    rw [(funext fun n4 => (funext fun o5 => (funext fun x6 => (funext fun t18 => (funext fun t19 => (funext fun t20 => (funext fun t29 => (funext fun t30 => (funext fun t31 => (funext fun t32 => (funext fun t34 => (funext fun t35 => (funext fun t36 => zz41_in11 N m kX kO (zz41_l6 N (zz41_X6 kX) m) hrec n4 o5 x6 t18 t19 t20 t29 t30 t31 t32 t34 t35 t36)))))))))))))]
    rfl
noncomputable abbrev zz41_K6 (N : Nat) : Ex → St → Z5 := (blockK 0 (seqK ((A_zz41).shape 33) (run (A_zz41) N (codeAt Tryz.f55 [1, 1, 1, 1, 1])) zz41_z))
noncomputable abbrev zz41_k6 (N : Nat) : St → Z5 := fun st' => run (A_zz41) N (codeAt Tryz.f55 [1, 1, 1, 1, 1]) st' zz41_z
theorem zz41_after6 (N : Nat) (o5 : Y5) : zz41_X6 (zz41_k6 N) o5 = zz41_a6 o5 := by kernel_rfl
theorem zz41_in6 (N : Nat) (n4 : Int) (o5 : Y5) (t18 : Y3) (t19 t20 : Int) : zz41_R6 N N (zz41_K6 N) n4 o5 t18 t19 t20 = zz41_F6 N n4 o5 t18 t19 t20 :=
  have h : zz41_X6 (zz41_k6 N) = (zz41_a6) := (funext fun o5 => zz41_after6 N o5)
  ((iter_ex (fun st => by kernel_rfl) (fun st => by kernel_rfl)).trans (zz41_iter6 N (zz41_k6 N) (fun j st => (zz41_K6 N) (.exit j) st) N n4 o5 t18 t19 t20)).trans (congrArg (fun k => zz41_l6 N k N n4 o5 t18 t19 t20) h)
theorem run0_zz41 (N : Nat) (x : (S_zz41).a.den) : runF (A_zz41) N Tryz.f55 S_zz41 x = (zz41_s (zz41_R6 N N (zz41_K6 N)) x.1) := by kernel_rfl
theorem run_zz41 (N : Nat) (x : (S_zz41).a.den) : runF (A_zz41) N Tryz.f55 S_zz41 x = zz41 N x.1 := by
  refine (run0_zz41 N x).trans ?_
  rw [(funext fun n4 => (funext fun o5 => (funext fun t18 => (funext fun t19 => (funext fun t20 => zz41_in6 N n4 o5 t18 t19 t20)))))]
  rfl
theorem fn_zz41 : FnOk Tryz.prog 55 := ⟨_, Tryz.func55, by kernel_rfl, by kernel_rfl⟩
theorem good_zz41 : Gx.Good Tryz.prog 55 S_zz41 := good_of_run Tryz.func55 (of_decide_eq_true (by kernel_rfl)) fun x r h => ⟨A_zz41, big, mkCfg_ok tabOk, mkCfg_sigs (show SigsOk Tryz.prog [(74, S_zz37), (41, S_zz38), (75, S_zz39), (76, S_zz40)] from ⟨⟨fn_zz37, good_zz37⟩, ⟨fn_zz38, good_zz38⟩, ⟨fn_zz39, good_zz39⟩, ⟨fn_zz40, good_zz40⟩, trivial⟩), (run_zz41 big x).trans h⟩

/-! zz42 -/
def zz42_b6 (rec : Y5 → Y4 → Int → Bool → Y4 → Int → Int → Y4 → Int → Int → Z2) (k : Y5 → Y4 → Int → Bool → Y4 → Int → Int → Z2) (o0 : Y5) (list1 : Y4) (x6 : Int) (top7 : Bool) (t10 : Y4) (t11 t12 : Int) (t16 : Y4) (t17 t18 : Int) : Z2 :=
  cond (decide (t18 < t17))
  ((atI t16 t18).bind fun xq2 =>
  cond top7
  ((atI o0 xq2).bind fun xq3 =>
  (atI xq3 x6).bind fun xq4 =>
  rec o0 list1 x6 xq4 t10 t11 t12 t16 t17 (IntKind.i64.wrap (t18 + (1 : Int))))
  (rec o0 list1 x6 false t10 t11 t12 t16 t17 (IntKind.i64.wrap (t18 + (1 : Int)))))
  (k o0 list1 x6 top7 t10 t11 t12)
def zz42_a6 (rec : Y5 → Y4 → Y4 → Int → Int → Z2) (o0 : Y5) (list1 : Y4) (x6 : Int) (top7 : Bool) (t10 : Y4) (t11 t12 : Int) : Z2 :=
  cond top7
  (some (x6, (())))
  (rec o0 list1 t10 t11 (IntKind.i64.wrap (t12 + (1 : Int))))
def zz42_b2 (L6 : Y5 → Y4 → Int → Bool → Y4 → Int → Int → Y4 → Int → Int → Z2) (k : Z2) (o0 : Y5) (list1 t10 : Y4) (t11 t12 : Int) : Z2 :=
  cond (decide (t12 < t11))
  ((atI t10 t12).bind fun xq1 =>
  L6 o0 list1 xq1 true t10 t11 t12 list1 (list1.length : Int) (0 : Int))
  (k)
def zz42_a2 : Z2 :=
  some ((-1 : Int), (()))
def zz42_s (L2 : Y5 → Y4 → Y4 → Int → Int → Z2) (o_0 : Y5) (list_1 : Y4) : Z2 :=
  L2 o_0 list_1 list_1 (list_1.length : Int) (0 : Int)
def zz42_l6 (N : Nat) (k : Y5 → Y4 → Int → Bool → Y4 → Int → Int → Z2) : Nat → Y5 → Y4 → Int → Bool → Y4 → Int → Int → Y4 → Int → Int → Z2
  | 0, _, _, _, _, _, _, _, _, _, _ => none
  | m + 1, o0, list1, x6, top7, t10, t11, t12, t16, t17, t18 => zz42_b6 (zz42_l6 N k m) k o0 list1 x6 top7 t10 t11 t12 t16 t17 t18
def zz42_F6 (N : Nat) (rec : Y5 → Y4 → Y4 → Int → Int → Z2) (k : Z2) (o0 : Y5) (list1 : Y4) (x6 : Int) (top7 : Bool) (t10 : Y4) (t11 t12 : Int) (t16 : Y4) (t17 t18 : Int) : Z2 := zz42_l6 N (zz42_a6 rec) N o0 list1 x6 top7 t10 t11 t12 t16 t17 t18
def zz42_l2 (N : Nat) (k : Z2) : Nat → Y5 → Y4 → Y4 → Int → Int → Z2
  | 0, _, _, _, _, _ => none
  | m + 1, o0, list1, t10, t11, t12 => zz42_b2 (zz42_F6 N (zz42_l2 N k m) k) k o0 list1 t10 t11 t12
def zz42_F2 (N : Nat) (o0 : Y5) (list1 t10 : Y4) (t11 t12 : Int) : Z2 := zz42_l2 N (zz42_a2) N o0 list1 t10 t11 t12
def zz42 (N : Nat) (o_0 : Y5) (list_1 : Y4) : Z2 := zz42_s (zz42_F2 N) o_0 list_1
def S_zz42 : Sig := { a := (.pair (.sl (.sl .bool)) (.pair (.sl I) .unit)), md := [0, 0], mf := [], m := .unit, r := I, rf := .i, f := fun x => zz42 big x.1 x.2.1 }
def A_zz42 : Cfg := mkCfg tab [] [(4, [.as (.sl (.sl .bool)) .i, .as (.sl I) .i, .drop, .drop, .drop, .drop, .drop, .drop, .drop, .drop, .as (.sl I) .i, .as I .i, .as I .i]), (12, [.as (.sl (.sl .bool)) .i, .as (.sl I) .i, .drop, .drop, .drop, .drop, .as I .i, .as .bool .i, .drop, .drop, .as (.sl I) .i, .as I .i, .as I .i, .drop, .drop, .drop, .as (.sl I) .i, .as I .i, .as I .i]), (27, []), (21, [.as (.sl (.sl .bool)) .i, .as (.sl I) .i, .drop, .drop, .drop, .drop, .as I .i, .as .bool .i, .drop, .drop, .as (.sl I) .i, .as I .i, .as I .i])]
noncomputable def zz42_R2 (N n : Nat) (K : Ex → St → Z2) (o0 : Y5) (list1 t10 : Y4) (t11 t12 : Int) : Z2 := iter ((A_zz42).shape 4) (run (A_zz42) N (codeAt Tryz.f77 [1, 0, 1, 0, 0])) n ([.val (.sl (.sl .bool)) .i o0, .val (.sl I) .i list1, .u, .u, .u, .u, .u, .u, .u, .u, .val (.sl I) .i t10, .val I .i t11, .val I .i t12] ++ List.replicate 23 .u) K
noncomputable def zz42_R6 (N n : Nat) (K : Ex → St → Z2) (o0 : Y5) (list1 : Y4) (x6 : Int) (top7 : Bool) (t10 : Y4) (t11 t12 : Int) (t16 : Y4) (t17 t18 : Int) : Z2 := iter ((A_zz42).shape 12) (run (A_zz42) N (codeAt Tryz.f77 [1, 0, 1, 0, 0, 1, 1, 0, 0, 1, 1, 0, 1, 0, 0])) n ([.val (.sl (.sl .bool)) .i o0, .val (.sl I) .i list1, .u, .u, .u, .u, .val I .i x6, .val .bool .i top7, .u, .u, .val (.sl I) .i t10, .val I .i t11, .val I .i t12, .u, .u, .u, .val (.sl I) .i t16, .val I .i t17, .val I .i t18] ++ List.replicate 17 .u) K
noncomputable abbrev zz42_z : Ex → St → Z2 := finish (A_zz42) S_zz42 Tryz.f77.results.toList
noncomputable abbrev zz42_X2 (kX : St → Z2) : Z2 := kX ([] ++ List.replicate 36 .u)
noncomputable abbrev zz42_E2 (kX : St → Z2) (kO : Nat → St → Z2) : Ex → St → Z2 := exK zz42_z 0 ((A_zz42).shape 27) kX kO
noncomputable abbrev zz42_X6 (kX : St → Z2) : Y5 → Y4 → Int → Bool → Y4 → Int → Int → Z2 := fun (o0 : Y5) (list1 : Y4) (x6 : Int) (top7 : Bool) (t10 : Y4) (t11 t12 : Int) => kX ([.val (.sl (.sl .bool)) .i o0, .val (.sl I) .i list1, .u, .u, .u, .u, .val I .i x6, .val .bool .i top7, .u, .u, .val (.sl I) .i t10, .val I .i t11, .val I .i t12] ++ List.replicate 23 .u)
noncomputable abbrev zz42_E6 (kX : St → Z2) (kO : Nat → St → Z2) : Ex → St → Z2 := exK zz42_z 2 ((A_zz42).shape 21) kX kO
theorem zz42_step6 (N m : Nat) (kX : St → Z2) (kO : Nat → St → Z2) (o0 : Y5) (list1 : Y4) (x6 : Int) (top7 : Bool) (t10 : Y4) (t11 t12 : Int) (t16 : Y4) (t17 t18 : Int) : zz42_R6 N (m + 1) (zz42_E6 kX kO) o0 list1 x6 top7 t10 t11 t12 t16 t17 t18 = zz42_b6 (zz42_R6 N m (zz42_E6 kX kO)) (zz42_X6 kX) o0 list1 x6 top7 t10 t11 t12 t16 t17 t18 := by kernel_rfl
theorem zz42_iter6 (N : Nat) (kX : St → Z2) (kO : Nat → St → Z2) : ∀ (n : Nat) (o0 : Y5) (list1 : Y4) (x6 : Int) (top7 : Bool) (t10 : Y4) (t11 t12 : Int) (t16 : Y4) (t17 t18 : Int), zz42_R6 N n (zz42_E6 kX kO) o0 list1 x6 top7 t10 t11 t12 t16 t17 t18 = zz42_l6 N (zz42_X6 kX) n o0 list1 x6 top7 t10 t11 t12 t16 t17 t18
  | 0, _, _, _, _, _, _, _, _, _, _ => rfl
  | m + 1, o0, list1, x6, top7, t10, t11, t12, t16, t17, t18 => by
    have hrec : zz42_R6 N m (zz42_E6 kX kO) = (zz42_l6 N (zz42_X6 kX) m) := (funext fun o0 => (funext fun list1 => (funext fun x6 => (funext fun top7 => (funext fun t10 => (funext fun t11 => (funext fun t12 => (funext fun t16 => (funext fun t17 => (funext fun t18 => zz42_iter6 N kX kO m o0 list1 x6 top7 t10 t11 t12 t16 t17 t18))))))))))
    refine (zz42_step6 N m kX kO o0 list1 x6 top7 t10 t11 t12 t16 t17 t18).trans ?_
    rw [hrec]
    rfl
noncomputable abbrev zz42_K6 (N m : Nat) (kX : St → Z2) (kO : Nat → St → Z2) : Ex → St → Z2 := (blockK 2 (seqK ((A_zz42).shape 21) (run (A_zz42) N (codeAt Tryz.f77 [1, 0, 1, 0, 0, 1, 1, 0, 0, 1, 1, 1])) (blockK 1 (seqK ((A_zz42).shape 25) (run (A_zz42) N (codeAt Tryz.f77 [1, 0, 1, 0, 0, 1, 1, 1])) (iterK ((A_zz42).shape 4) (run (A_zz42) N (codeAt Tryz.f77 [1, 0, 1, 0, 0])) m (zz42_E2 kX kO))))))
noncomputable abbrev zz42_k6 (N m : Nat) (kX : St → Z2) (kO : Nat → St → Z2) : St → Z2 := fun st' => run (A_zz42) N (codeAt Tryz.f77 [1, 0, 1, 0, 0, 1, 1, 0, 0, 1, 1, 1]) st' (blockK 1 (seqK ((A_zz42).shape 25) (run (A_zz42) N (codeAt Tryz.f77 [1, 0, 1, 0, 0, 1, 1, 1])) (iterK ((A_zz42).shape 4) (run (A_zz42) N (codeAt Tryz.f77 [1, 0, 1, 0, 0])) m (zz42_E2 kX kO))))
theorem zz42_after6 (N m : Nat) (kX : St → Z2) (kO : Nat → St → Z2) (o0 : Y5) (list1 : Y4) (x6 : Int) (top7 : Bool) (t10 : Y4) (t11 t12 : Int) : zz42_X6 (zz42_k6 N m kX kO) o0 list1 x6 top7 t10 t11 t12 = zz42_a6 (zz42_R2 N m (zz42_E2 kX kO)) o0 list1 x6 top7 t10 t11 t12 := by kernel_rfl
theorem zz42_in6 (N m : Nat) (kX : St → Z2) (kO : Nat → St → Z2) (recF : Y5 → Y4 → Y4 → Int → Int → Z2) (hrec : zz42_R2 N m (zz42_E2 kX kO) = recF) (o0 : Y5) (list1 : Y4) (x6 : Int) (top7 : Bool) (t10 : Y4) (t11 t12 : Int) (t16 : Y4) (t17 t18 : Int) : zz42_R6 N N (zz42_K6 N m kX kO) o0 list1 x6 top7 t10 t11 t12 t16 t17 t18 = zz42_F6 N recF (zz42_X2 kX) o0 list1 x6 top7 t10 t11 t12 t16 t17 t18 :=
  have h : zz42_X6 (zz42_k6 N m kX kO) = (zz42_a6 recF) := (funext fun o0 => (funext fun list1 => (funext fun x6 => (funext fun top7 => (funext fun t10 => (funext fun t11 => (funext fun t12 => (zz42_after6 N m kX kO o0 list1 x6 top7 t10 t11 t12).trans (by rw [hrec]))))))))
  ((iter_ex (fun st => by kernel_rfl) (fun st => by kernel_rfl)).trans (zz42_iter6 N (zz42_k6 N m kX kO) (fun j st => (zz42_K6 N m kX kO) (.exit j) st) N o0 list1 x6 top7 t10 t11 t12 t16 t17 t18)).trans (congrArg (fun k => zz42_l6 N k N o0 list1 x6 top7 t10 t11 t12 t16 t17 t18) h)
theorem zz42_step2 (N m : Nat) (kX : St → Z2) (kO : Nat → St → Z2) (o0 : Y5) (list1 t10 : Y4) (t11 t12 : Int) : zz42_R2 N (m + 1) (zz42_E2 kX kO) o0 list1 t10 t11 t12 = zz42_b2 (zz42_R6 N N (zz42_K6 N m kX kO)) (zz42_X2 kX) o0 list1 t10 t11 t12 := by kernel_rfl
theorem zz42_iter2 (N : Nat) (kX : St → Z2) (kO : Nat → St → Z2) : ∀ (n : Nat) (o0 : Y5) (list1 t10 : Y4) (t11 t12 : Int), zz42_R2 N n (zz42_E2 kX kO) o0 list1 t10 t11 t12 = zz42_l2 N (zz42_X2 kX) n o0 list1 t10 t11 t12
  | 0, _, _, _, _, _ => rfl
  | m + 1, o0, list1, t10, t11, t12 => by
    have hrec : zz42_R2 N m (zz42_E2 kX kO) = (zz42_l2 N (zz42_X2 kX) m) := (funext fun o0 => (funext fun list1 => (funext fun t10 => (funext fun t11 => (funext fun t12 => zz42_iter2 N kX kO m o0 list1 t10 t11 t12)))))
    refine (zz42_step2 N m kX kO o0 list1 t10 t11 t12).trans ?_
    rw [(funext fun o0 => (funext fun list1 => (funext fun x6 => (funext fun top7 => (funext fun t10 => (funext fun t11 => (funext fun t12 => (funext fun t16 => (funext fun t17 => (funext fun t18 => zz42_in6 N m kX kO (zz42_l2 N (zz42_X2 kX) m) hrec o0 list1 x6 top7 t10 t11 t12 t16 t17 t18))))))))))]
    rfl
noncomputable abbrev zz42_K2 (N : Nat) : Ex → St → Z2 := (blockK 0 (seqK ((A_zz42).shape 27) (run (A_zz42) N (codeAt Tryz.f77 [1, 1])) zz42_z))
noncomputable abbrev zz42_k2 (N : Nat) : St → Z2 := fun st' => run (A_zz42) N (codeAt Tryz.f77 [1, 1]) st' zz42_z
theorem zz42_after2 (N : Nat) : zz42_X2 (zz42_k2 N) = zz42_a2 := by kernel_rfl
theorem zz42_in2 (N : Nat) (o0 : Y5) (list1 t10 : Y4) (t11 t12 : Int) : zz42_R2 N N (zz42_K2 N) o0 list1 t10 t11 t12 = zz42_F2 N o0 list1 t10 t11 t12 :=
  have h : zz42_X2 (zz42_k2 N) = (zz42_a2) := zz42_after2 N
  ((iter_ex (fun st => by kernel_rfl) (fun st => by kernel_rfl)).trans (zz42_iter2 N (zz42_k2 N) (fun j st => (zz42_K2 N) (.exit j) st) N o0 list1 t10 t11 t12)).trans (congrArg (fun k => zz42_l2 N k N o0 list1 t10 t11 t12) h)
theorem run0_zz42 (N : Nat) (x : (S_zz42).a.den) : runF (A_zz42) N Tryz.f77 S_zz42 x = (zz42_s (zz42_R2 N N (zz42_K2 N)) x.1 x.2.1) := by kernel_rfl
theorem run_zz42 (N : Nat) (x : (S_zz42).a.den) : runF (A_zz42) N Tryz.f77 S_zz42 x = zz42 N x.1 x.2.1 := by
  refine (run0_zz42 N x).trans ?_
  rw [(funext fun o0 => (funext fun list1 => (funext fun t10 => (funext fun t11 => (funext fun t12 => zz42_in2 N o0 list1 t10 t11 t12)))))]
  rfl
theorem fn_zz42 : FnOk Tryz.prog 77 := ⟨_, Tryz.func77, by kernel_rfl, by kernel_rfl⟩
theorem good_zz42 : Gx.Good Tryz.prog 77 S_zz42 := good_of_run Tryz.func77 (of_decide_eq_true (by kernel_rfl)) fun x r h => ⟨A_zz42, big, mkCfg_ok tabOk, mkCfg_sigs (show SigsOk Tryz.prog [] from trivial), (run_zz42 big x).trans h⟩

/-! zz43 -/
def zz43_s (z_0 : Int) (p_1 : Y5) (p_2 p_3 : Int) : Z0 :=
  (atI p_1 z_0).bind fun xq1 =>
  (atI xq1 p_2).bind fun xq2 =>
  cond xq2
  ((atI p_1 z_0).bind fun xq3 =>
  (atI xq3 p_3).bind fun xq4 =>
  some (xq4, (())))
  (some (false, (())))
def zz43 (z_0 : Int) (p_1 : Y5) (p_2 p_3 : Int) : Z0 := zz43_s z_0 p_1 p_2 p_3
def S_zz43 : Sig := { a := (.pair I (.pair (.ptr (.sl (.sl .bool))) (.pair (.ptr I) (.pair (.ptr I) .unit)))), md := [0, 0, 0, 0], mf := [], m := .unit, r := .bool, rf := .i, f := fun x => zz43 x.1 x.2.1 x.2.2.1 x.2.2.2.1 }
def A_zz43 : Cfg := mkCfg tab [] []
theorem run_zz43 (N : Nat) (x : (S_zz43).a.den) : runF (A_zz43) N Tryz.f78 S_zz43 x = zz43 x.1 x.2.1 x.2.2.1 x.2.2.2.1 := by kernel_rfl
theorem fn_zz43 : FnOk Tryz.prog 78 := ⟨_, Tryz.func78, by kernel_rfl, by kernel_rfl⟩
theorem good_zz43 : Gx.Good Tryz.prog 78 S_zz43 := good_of_run Tryz.func78 (of_decide_eq_true (by kernel_rfl)) fun x r h => ⟨A_zz43, big, mkCfg_ok tabOk, mkCfg_sigs (show SigsOk Tryz.prog [] from trivial), (run_zz43 big x).trans h⟩

/-! zz44 -/
def zz44_b3 (rec : (Y5 × Z9) → Y4 → Int → Int → Z1) (k : Y4 → Z1) (so1 : (Y5 × Z9)) (list5 : Y4) (t9 t10 : Int) : Z1 :=
  cond (decide (t10 < t9))
  ((zz43 t10 so1.1 so1.2.1 so1.2.2.1).bind fun rq1 =>
  cond rq1.1
  ((appI list5 [t10]).bind fun xq2 =>
  rec so1 xq2 t9 (IntKind.i64.wrap (t10 + (1 : Int))))
  (rec so1 list5 t9 (IntKind.i64.wrap (t10 + (1 : Int)))))
  (k list5)
def zz44_a3 (list5 : Y4) : Z1 :=
  some (list5, (()))
def zz44_s (L3 : (Y5 × Z9) → Y4 → Int → Int → Z1) (o_0 : Y5) (so_1 : (Y5 × Z9)) : Z1 :=
  L3 so_1 [] (o_0.length : Int) (0 : Int)
def zz44_l3 (N : Nat) (k : Y4 → Z1) : Nat → (Y5 × Z9) → Y4 → Int → Int → Z1
  | 0, _, _, _, _ => none
  | m + 1, so1, list5, t9, t10 => zz44_b3 (zz44_l3 N k m) k so1 list5 t9 t10
def zz44_F3 (N : Nat) (so1 : (Y5 × Z9)) (list5 : Y4) (t9 t10 : Int) : Z1 := zz44_l3 N (zz44_a3) N so1 list5 t9 t10
def zz44 (N : Nat) (o_0 : Y5) (so_1 : (Y5 × Z9)) : Z1 := zz44_s (zz44_F3 N) o_0 so_1
def S_zz44 : Sig := { a := (.pair (.sl (.sl .bool)) (.pair (.clo 78 0 (.pair (.ptr (.sl (.sl .bool))) (.pair (.ptr I) (.pair (.ptr I) .unit)))) .unit)), md := [0, 0], mf := [], m := .unit, r := (.sl I), rf := (.o .i), f := fun x => zz44 big x.1 x.2.1 }
def A_zz44 : Cfg := mkCfg tab [(78, S_zz43)] [(6, [.drop, .as (.clo 78 0 (.pair (.ptr (.sl (.sl .bool))) (.pair (.ptr I) (.pair (.ptr I) .unit)))) .i, .drop, .drop, .drop, .as (.sl I) (.o .i), .drop, .drop, .drop, .as I .i, .as I .i]), (17, [.drop, .drop, .drop, .drop, .drop, .as (.sl I) (.o .i)])]
noncomputable def zz44_R3 (N n : Nat) (K : Ex → St → Z1) (so1 : (Y5 × Z9)) (list5 : Y4) (t9 t10 : Int) : Z1 := iter ((A_zz44).shape 6) (run (A_zz44) N (codeAt Tryz.f35 [1, 1, 0, 1, 0, 0])) n ([.u, .val (.clo 78 0 (.pair (.ptr (.sl (.sl .bool))) (.pair (.ptr I) (.pair (.ptr I) .unit)))) .i so1, .u, .u, .u, .val (.sl I) (.o .i) list5, .u, .u, .u, .val I .i t9, .val I .i t10] ++ List.replicate 11 .u) K
noncomputable abbrev zz44_z : Ex → St → Z1 := finish (A_zz44) S_zz44 Tryz.f35.results.toList
noncomputable abbrev zz44_X3 (kX : St → Z1) : Y4 → Z1 := fun (list5 : Y4) => kX ([.u, .u, .u, .u, .u, .val (.sl I) (.o .i) list5] ++ List.replicate 16 .u)
noncomputable abbrev zz44_E3 (kX : St → Z1) (kO : Nat → St → Z1) : Ex → St → Z1 := exK zz44_z 0 ((A_zz44).shape 17) kX kO
theorem zz44_step3 (N m : Nat) (kX : St → Z1) (kO : Nat → St → Z1) (so1 : (Y5 × Z9)) (list5 : Y4) (t9 t10 : Int) : zz44_R3 N (m + 1) (zz44_E3 kX kO) so1 list5 t9 t10 = zz44_b3 (zz44_R3 N m (zz44_E3 kX kO)) (zz44_X3 kX) so1 list5 t9 t10 := by kernel_rfl
theorem zz44_iter3 (N : Nat) (kX : St → Z1) (kO : Nat → St → Z1) : ∀ (n : Nat) (so1 : (Y5 × Z9)) (list5 : Y4) (t9 t10 : Int), zz44_R3 N n (zz44_E3 kX kO) so1 list5 t9 t10 = zz44_l3 N (zz44_X3 kX) n so1 list5 t9 t10
  | 0, _, _, _, _ => rfl
  | m + 1, so1, list5, t9, t10 => by
    have hrec : zz44_R3 N m (zz44_E3 kX kO) = (zz44_l3 N (zz44_X3 kX) m) := (funext fun so1 => (funext fun list5 => (funext fun t9 => (funext fun t10 => zz44_iter3 N kX kO m so1 list5 t9 t10))))
    refine (zz44_step3 N m kX kO so1 list5 t9 t10).trans ?_
    rw [hrec]
    rfl
noncomputable abbrev zz44_K3 (N : Nat) : Ex → St → Z1 := (blockK 0 (seqK ((A_zz44).shape 17) (run (A_zz44) N (codeAt Tryz.f35 [1, 1, 1])) zz44_z))
noncomputable abbrev zz44_k3 (N : Nat) : St → Z1 := fun st' => run (A_zz44) N (codeAt Tryz.f35 [1, 1, 1]) st' zz44_z
theorem zz44_after3 (N : Nat) (list5 : Y4) : zz44_X3 (zz44_k3 N) list5 = zz44_a3 list5 := by kernel_rfl
theorem zz44_in3 (N : Nat) (so1 : (Y5 × Z9)) (list5 : Y4) (t9 t10 : Int) : zz44_R3 N N (zz44_K3 N) so1 list5 t9 t10 = zz44_F3 N so1 list5 t9 t10 :=
  have h : zz44_X3 (zz44_k3 N) = (zz44_a3) := (funext fun list5 => zz44_after3 N list5)
  ((iter_ex (fun st => by kernel_rfl) (fun st => by kernel_rfl)).trans (zz44_iter3 N (zz44_k3 N) (fun j st => (zz44_K3 N) (.exit j) st) N so1 list5 t9 t10)).trans (congrArg (fun k => zz44_l3 N k N so1 list5 t9 t10) h)
theorem run0_zz44 (N : Nat) (x : (S_zz44).a.den) : runF (A_zz44) N Tryz.f35 S_zz44 x = (zz44_s (zz44_R3 N N (zz44_K3 N)) x.1 x.2.1) := by kernel_rfl
theorem run_zz44 (N : Nat) (x : (S_zz44).a.den) : runF (A_zz44) N Tryz.f35 S_zz44 x = zz44 N x.1 x.2.1 := by
  refine (run0_zz44 N x).trans ?_
  rw [(funext fun so1 => (funext fun list5 => (funext fun t9 => (funext fun t10 => zz44_in3 N so1 list5 t9 t10))))]
  rfl
theorem fn_zz44 : FnOk Tryz.prog 35 := ⟨_, Tryz.func35, by kernel_rfl, by kernel_rfl⟩
theorem good_zz44 : Gx.Good Tryz.prog 35 S_zz44 := good_of_run Tryz.func35 (of_decide_eq_true (by kernel_rfl)) fun x r h => ⟨A_zz44, big, mkCfg_ok tabOk, mkCfg_sigs (show SigsOk Tryz.prog [(78, S_zz43)] from ⟨⟨fn_zz43, good_zz43⟩, trivial⟩), (run_zz44 big x).trans h⟩

/-! zz45 -/
def zz45_b7 (rec : Y5 → Y3 → Int → Y4 → Int → Int → Int → Int → Z4) (k : Y5 → Y3 → Y4 → Int → Int → Z4) (o1 : Y5) (table4 : Y3) (x5 : Int) (row6 : Y4) (t11 t12 t17 t18 : Int) : Z4 :=
  cond (decide (t18 < t17))
  ((zz44 big o1 (o1, x5, t18, ())).bind fun rq1 =>
  (zz42 big o1 rq1.1).bind fun rq2 =>
  cond (decide (rq2.1 < (0 : Int)))
  (some (([], false, ()), (())))
  ((appI row6 [rq2.1]).bind fun xq3 =>
  rec o1 table4 x5 xq3 t11 t12 t17 (IntKind.i64.wrap (t18 + (1 : Int)))))
  (k o1 table4 row6 t11 t12)
def zz45_a7 (rec : Y5 → Y3 → Int → Int → Z4) (o1 : Y5) (table4 : Y3) (row6 : Y4) (t11 t12 : Int) : Z4 :=
  (appI table4 [row6]).bind fun xq4 =>
  rec o1 xq4 t11 (IntKind.i64.wrap (t12 + (1 : Int)))
def zz45_b3 (L7 : Y5 → Y3 → Int → Y4 → Int → Int → Int → Int → Z4) (k : Y3 → Z4) (o1 : Y5) (table4 : Y3) (t11 t12 : Int) : Z4 :=
  cond (decide (t12 < t11))
  (L7 o1 table4 t12 [] t11 t12 (o1.length : Int) (0 : Int))
  (k table4)
def zz45_a3 (table4 : Y3) : Z4 :=
  some ((table4, true, ()), (()))
def zz45_s (L3 : Y5 → Y3 → Int → Int → Z4) (o_0 : Y5) : Z4 :=
  L3 o_0 [] (o_0.length : Int) (0 : Int)
def zz45_l7 (N : Nat) (k : Y5 → Y3 → Y4 → Int → Int → Z4) : Nat → Y5 → Y3 → Int → Y4 → Int → Int → Int → Int → Z4
  | 0, _, _, _, _, _, _, _, _ => none
  | m + 1, o1, table4, x5, row6, t11, t12, t17, t18 => zz45_b7 (zz45_l7 N k m) k o1 table4 x5 row6 t11 t12 t17 t18
def zz45_F7 (N : Nat) (rec : Y5 → Y3 → Int → Int → Z4) (k : Y3 → Z4) (o1 : Y5) (table4 : Y3) (x5 : Int) (row6 : Y4) (t11 t12 t17 t18 : Int) : Z4 := zz45_l7 N (zz45_a7 rec) N o1 table4 x5 row6 t11 t12 t17 t18
def zz45_l3 (N : Nat) (k : Y3 → Z4) : Nat → Y5 → Y3 → Int → Int → Z4
  | 0, _, _, _, _ => none
  | m + 1, o1, table4, t11, t12 => zz45_b3 (zz45_F7 N (zz45_l3 N k m) k) k o1 table4 t11 t12
def zz45_F3 (N : Nat) (o1 : Y5) (table4 : Y3) (t11 t12 : Int) : Z4 := zz45_l3 N (zz45_a3) N o1 table4 t11 t12
def zz45 (N : Nat) (o_0 : Y5) : Z4 := zz45_s (zz45_F3 N) o_0
def S_zz45 : Sig := { a := (.pair (.sl (.sl .bool)) .unit), md := [0], mf := [], m := .unit, r := (.tup (.pair (.sl (.sl I)) (.pair .bool .unit))), rf := (.p (.o (.o .i)) .i), f := fun x => zz45 big x.1 }
def A_zz45 : Cfg := mkCfg tab [(35, S_zz44), (77, S_zz42)] [(6, [.drop, .as (.ptr (.sl (.sl .bool))) .i, .drop, .drop, .as (.sl (.sl I)) (.o (.o .i)), .drop, .drop, .drop, .drop, .drop, .drop, .as I .i, .as I .i]), (14, [.drop, .as (.ptr (.sl (.sl .bool))) .i, .drop, .drop, .as (.sl (.sl I)) (.o (.o .i)), .as (.ptr I) .i, .as (.sl I) (.o .i), .drop, .drop, .drop, .drop, .as I .i, .as I .i, .drop, .drop, .drop, .drop, .as I .i, .as I .i]), (33, [.drop, .drop, .drop, .drop, .as (.sl (.sl I)) (.o (.o .i))]), (19, [.drop, .as (.ptr (.sl (.sl .bool))) .i, .drop, .drop, .as (.sl (.sl I)) (.o (.o .i)), .as (.ptr I) .i, .as (.sl I) (.o .i), .as (.ptr I) .i, .drop, .drop, .drop, .as I .i, .as I .i, .drop, .drop, .drop, .drop, .as I .i, .as I .i]), (29, [.drop, .as (.ptr (.sl (.sl .bool))) .i, .drop, .drop, .as (.sl (.sl I)) (.o (.o .i)), .drop, .as (.sl I) (.o .i), .drop, .drop, .drop, .drop, .as I .i, .as I .i])]
noncomputable def zz45_R3 (N n : Nat) (K : Ex → St → Z4) (o1 : Y5) (table4 : Y3) (t11 t12 : Int) : Z4 := iter ((A_zz45).shape 6) (run (A_zz45) N (codeAt Tryz.f56 [1, 1, 0, 1, 0, 0])) n ([.u, .val (.ptr (.sl (.sl .bool))) .i o1, .u, .u, .val (.sl (.sl I)) (.o (.o .i)) table4, .u, .u, .u, .u, .u, .u, .val I .i t11, .val I .i t12] ++ List.replicate 26 .u) K
noncomputable def zz45_R7 (N n : Nat) (K : Ex → St → Z4) (o1 : Y5) (table4 : Y3) (x5 : Int) (row6 : Y4) (t11 t12 t17 t18 : Int) : Z4 := iter ((A_zz45).shape 14) (run (A_zz45) N (codeAt Tryz.f56 [1, 1, 0, 1, 0, 0, 1, 1, 0, 0, 1, 1, 0, 1, 0, 0])) n ([.u, .val (.ptr (.sl (.sl .bool))) .i o1, .u, .u, .val (.sl (.sl I)) (.o (.o .i)) table4, .val (.ptr I) .i x5, .val (.sl I) (.o .i) row6, .u, .u, .u, .u, .val I .i t11, .val I .i t12, .u, .u, .u, .u, .val I .i t17, .val I .i t18] ++ List.replicate 20 .u) K
noncomputable abbrev zz45_z : Ex → St → Z4 := finish (A_zz45) S_zz45 Tryz.f56.results.toList
noncomputable abbrev zz45_X3 (kX : St → Z4) : Y3 → Z4 := fun (table4 : Y3) => kX ([.u, .u, .u, .u, .val (.sl (.sl I)) (.o (.o .i)) table4] ++ List.replicate 34 .u)
noncomputable abbrev zz45_E3 (kX : St → Z4) (kO : Nat → St → Z4) : Ex → St → Z4 := exK zz45_z 0 ((A_zz45).shape 33) kX kO
noncomputable abbrev zz45_X7 (kX : St → Z4) : Y5 → Y3 → Y4 → Int → Int → Z4 := fun (o1 : Y5) (table4 : Y3) (row6 : Y4) (t11 t12 : Int) => kX ([.u, .val (.ptr (.sl (.sl .bool))) .i o1, .u, .u, .val (.sl (.sl I)) (.o (.o .i)) table4, .u, .val (.sl I) (.o .i) row6, .u, .u, .u, .u, .val I .i t11, .val I .i t12] ++ List.replicate 26 .u)
noncomputable abbrev zz45_E7 (kX : St → Z4) (kO : Nat → St → Z4) : Ex → St → Z4 := exK zz45_z 2 ((A_zz45).shape 29) kX kO
theorem zz45_step7 (N m : Nat) (kX : St → Z4) (kO : Nat → St → Z4) (o1 : Y5) (table4 : Y3) (x5 : Int) (row6 : Y4) (t11 t12 t17 t18 : Int) : zz45_R7 N (m + 1) (zz45_E7 kX kO) o1 table4 x5 row6 t11 t12 t17 t18 = zz45_b7 (zz45_R7 N m (zz45_E7 kX kO)) (zz45_X7 kX) o1 table4 x5 row6 t11 t12 t17 t18 := by kernel_rfl
theorem zz45_iter7 (N : Nat) (kX : St → Z4) (kO : Nat → St → Z4) : ∀ (n : Nat) (o1 : Y5) (table4 : Y3) (x5 : Int) (row6 : Y4) (t11 t12 t17 t18 : Int), zz45_R7 N n (zz45_E7 kX kO) o1 table4 x5 row6 t11 t12 t17 t18 = zz45_l7 N (zz45_X7 kX) n o1 table4 x5 row6 t11 t12 t17 t18
  | 0, _, _, _, _, _, _, _, _ => rfl
  | m + 1, o1, table4, x5, row6, t11, t12, t17, t18 => by
    have hrec : zz45_R7 N m (zz45_E7 kX kO) = (zz45_l7 N (zz45_X7 kX) m) := (funext fun o1 => (funext fun table4 => (funext fun x5 => (funext fun row6 => (funext fun t11 => (funext fun t12 => (funext fun t17 => (funext fun t18 => zz45_iter7 N kX kO m o1 table4 x5 row6 t11 t12 t17 t18))))))))
    refine (zz45_step7 N m kX kO o1 table4 x5 row6 t11 t12 t17 t18).trans ?_
    rw [hrec]
    rfl
noncomputable abbrev zz45_K7 (N m : Nat) (kX : St → Z4) (kO : Nat → St → Z4) : Ex → St → Z4 := (blockK 2 (seqK ((A_zz45).shape 29) (run (A_zz45) N (codeAt Tryz.f56 [1, 1, 0, 1, 0, 0, 1, 1, 0, 0, 1, 1, 1])) (blockK 1 (seqK ((A_zz45).shape 31) (run (A_zz45) N (codeAt Tryz.f56 [1, 1, 0, 1, 0, 0, 1, 1, 1])) (iterK ((A_zz45).shape 6) (run (A_zz45) N (codeAt Tryz.f56 [1, 1, 0, 1, 0, 0])) m (zz45_E3 kX kO))))))
noncomputable abbrev zz45_k7 (N m : Nat) (kX : St → Z4) (kO : Nat → St → Z4) : St → Z4 := fun st' => run (A_zz45) N (codeAt Tryz.f56 [1, 1, 0, 1, 0, 0, 1, 1, 0, 0, 1, 1, 1]) st' (blockK 1 (seqK ((A_zz45).shape 31) (run (A_zz45) N (codeAt Tryz.f56 [1, 1, 0, 1, 0, 0, 1, 1, 1])) (iterK ((A_zz45).shape 6) (run (A_zz45) N (codeAt Tryz.f56 [1, 1, 0, 1, 0, 0])) m (zz45_E3 kX kO))))
theorem zz45_after7 (N m : Nat) (kX : St → Z4) (kO : Nat → St → Z4) (o1 : Y5) (table4 : Y3) (row6 : Y4) (t11 t12 : Int) : zz45_X7 (zz45_k7 N m kX kO) o1 table4 row6 t11 t12 = zz45_a7 (zz45_R3 N m (zz45_E3 kX kO)) o1 table4 row6 t11 t12 := by kernel_rfl
theorem zz45_in7 (N m : Nat) (kX : St → Z4) (kO : Nat → St → Z4) (recF : Y5 → Y3 → Int → Int → Z4) (hrec : zz45_R3 N m (zz45_E3 kX kO) = recF) (o1 : Y5) (table4 : Y3) (x5 : Int) (row6 : Y4) (t11 t12 t17 t18 : Int) : zz45_R7 N N (zz45_K7 N m kX kO) o1 table4 x5 row6 t11 t12 t17 t18 = zz45_F7 N recF (zz45_X3 kX) o1 table4 x5 row6 t11 t12 t17 t18 :=
  have h : zz45_X7 (zz45_k7 N m kX kO) = (zz45_a7 recF) := (funext fun o1 => (funext fun table4 => (funext fun row6 => (funext fun t11 => (funext fun t12 => (zz45_after7 N m kX kO o1 table4 row6 t11 t12).trans (by rw [hrec]))))))
  ((iter_ex (fun st => by kernel_rfl) (fun st => by kernel_rfl)).trans (zz45_iter7 N (zz45_k7 N m kX kO) (fun j st => (zz45_K7 N m kX kO) (.exit j) st) N o1 table4 x5 row6 t11 t12 t17 t18)).trans (congrArg (fun k => zz45_l7 N k N o1 table4 x5 row6 t11 t12 t17 t18) h)
theorem zz45_step3 (N m : Nat) (kX : St → Z4) (kO : Nat → St → Z4) (o1 : Y5) (table4 : Y3) (t11 t12 : Int) : zz45_R3 N (m + 1) (zz45_E3 kX kO) o1 table4 t11 t12 = zz45_b3 (zz45_R7 N N (zz45_K7 N m kX kO)) (zz45_X3 kX) o1 table4 t11 t12 := by kernel_rfl
theorem zz45_iter3 (N : Nat) (kX : St → Z4) (kO : Nat → St → Z4) : ∀ (n : Nat) (o1 : Y5) (table4 : Y3) (t11 t12 : Int), zz45_R3 N n (zz45_E3 kX kO) o1 table4 t11 t12 = zz45_l3 N (zz45_X3 kX) n o1 table4 t11 t12
  | 0, _, _, _, _ => rfl
  | m + 1, o1, table4, t11, t12 => by
    have hrec : zz45_R3 N m (zz45_E3 kX kO) = (zz45_l3 N (zz45_X3 kX) m) := (funext fun o1 => (funext fun table4 => (funext fun t11 => (funext fun t12 => zz45_iter3 N kX kO m o1 table4 t11 t12))))
    refine (zz45_step3 N m kX kO o1 table4 t11 t12).trans ?_
    rw [(funext fun o1 => (funext fun table4 => (funext fun x5 => (funext fun row6 => (funext fun t11 => (funext fun t12 => (funext fun t17 => (funext fun t18 => zz45_in7 N m kX kO (zz45_l3 N (zz45_X3 kX) m) hrec o1 table4 x5 row6 t11 t12 t17 t18))))))))]
    rfl
noncomputable abbrev zz45_K3 (N : Nat) : Ex → St → Z4 := (blockK 0 (seqK ((A_zz45).shape 33) (run (A_zz45) N (codeAt Tryz.f56 [1, 1, 1])) zz45_z))
noncomputable abbrev zz45_k3 (N : Nat) : St → Z4 := fun st' => run (A_zz45) N (codeAt Tryz.f56 [1, 1, 1]) st' zz45_z
theorem zz45_after3 (N : Nat) (table4 : Y3) : zz45_X3 (zz45_k3 N) table4 = zz45_a3 table4 := by kernel_rfl
theorem zz45_in3 (N : Nat) (o1 : Y5) (table4 : Y3) (t11 t12 : Int) : zz45_R3 N N (zz45_K3 N) o1 table4 t11 t12 = zz45_F3 N o1 table4 t11 t12 :=
  have h : zz45_X3 (zz45_k3 N) = (zz45_a3) := (funext fun table4 => zz45_after3 N table4)
  ((iter_ex (fun st => by kernel_rfl) (fun st => by kernel_rfl)).trans (zz45_iter3 N (zz45_k3 N) (fun j st => (zz45_K3 N) (.exit j) st) N o1 table4 t11 t12)).trans (congrArg (fun k => zz45_l3 N k N o1 table4 t11 t12) h)
theorem run0_zz45 (N : Nat) (x : (S_zz45).a.den) : runF (A_zz45) N Tryz.f56 S_zz45 x = (zz45_s (zz45_R3 N N (zz45_K3 N)) x.1) := by kernel_rfl
theorem run_zz45 (N : Nat) (x : (S_zz45).a.den) : runF (A_zz45) N Tryz.f56 S_zz45 x = zz45 N x.1 := by
  refine (run0_zz45 N x).trans ?_
  rw [(funext fun o1 => (funext fun table4 => (funext fun t11 => (funext fun t12 => zz45_in3 N o1 table4 t11 t12))))]
  rfl
theorem fn_zz45 : FnOk Tryz.prog 56 := ⟨_, Tryz.func56, by kernel_rfl, by kernel_rfl⟩
theorem good_zz45 : Gx.Good Tryz.prog 56 S_zz45 := good_of_run Tryz.func56 (of_decide_eq_true (by kernel_rfl)) fun x r h => ⟨A_zz45, big, mkCfg_ok tabOk, mkCfg_sigs (show SigsOk Tryz.prog [(35, S_zz44), (77, S_zz42)] from ⟨⟨fn_zz44, good_zz44⟩, ⟨fn_zz42, good_zz42⟩, trivial⟩), (run_zz45 big x).trans h⟩

/-! zz46 -/
def zz46_b6 (rec : Y5 → Y5 → Int → Int → Int → Int → Int → Z6) (k : Y5 → Y5 → Int → Int → Z6) (o0 d3 : Y5) (x4 t10 t11 t15 t16 : Int) : Z6 :=
  cond (decide (t16 < t15))
  ((atI d3 x4).bind fun _ =>
  (d3[x4.toNat]?).bind fun xq2 =>
  (atI o0 t16).bind fun xq3 =>
  (atI xq3 x4).bind fun xq4 =>
  (d3[x4.toNat]?).bind fun xq5 =>
  (atI xq5 t16).bind fun _ =>
  (d3[x4.toNat]?).bind fun xq6 =>
  (xq6[t16.toNat]?).bind fun xq7 =>
  rec o0 (d3.set x4.toNat (xq6.set t16.toNat xq4)) x4 t10 t11 t15 (IntKind.i64.wrap (t16 + (1 : Int))))
  (k o0 d3 t10 t11)
def zz46_a6 (rec : Y5 → Y5 → Int → Int → Z6) (o0 d3 : Y5) (t10 t11 : Int) : Z6 :=
  rec o0 d3 t10 (IntKind.i64.wrap (t11 + (1 : Int)))
def zz46_b3 (L6 : Y5 → Y5 → Int → Int → Int → Int → Int → Z6) (k : Y5 → Z6) (o0 d3 : Y5) (t10 t11 : Int) : Z6 :=
  cond (decide (t11 < t10))
  (L6 o0 d3 t11 t10 t11 (o0.length : Int) (0 : Int))
  (k d3)
def zz46_a3 (d3 : Y5) : Z6 :=
  some (d3, (()))
def zz46_s (L3 : Y5 → Y5 → Int → Int → Z6) (o_0 : Y5) : Z6 :=
  (zz37 big (o_0.length : Int)).bind fun rq1 =>
  L3 o_0 rq1.1 (o_0.length : Int) (0 : Int)
def zz46_l6 (N : Nat) (k : Y5 → Y5 → Int → Int → Z6) : Nat → Y5 → Y5 → Int → Int → Int → Int → Int → Z6
  | 0, _, _, _, _, _, _, _ => none
  | m + 1, o0, d3, x4, t10, t11, t15, t16 => zz46_b6 (zz46_l6 N k m) k o0 d3 x4 t10 t11 t15 t16
def zz46_F6 (N : Nat) (rec : Y5 → Y5 → Int → Int → Z6) (k : Y5 → Z6) (o0 d3 : Y5) (x4 t10 t11 t15 t16 : Int) : Z6 := zz46_l6 N (zz46_a6 rec) N o0 d3 x4 t10 t11 t15 t16
def zz46_l3 (N : Nat) (k : Y5 → Z6) : Nat → Y5 → Y5 → Int → Int → Z6
  | 0, _, _, _, _ => none
  | m + 1, o0, d3, t10, t11 => zz46_b3 (zz46_F6 N (zz46_l3 N k m) k) k o0 d3 t10 t11
def zz46_F3 (N : Nat) (o0 d3 : Y5) (t10 t11 : Int) : Z6 := zz46_l3 N (zz46_a3) N o0 d3 t10 t11
def zz46 (N : Nat) (o_0 : Y5) : Z6 := zz46_s (zz46_F3 N) o_0
def S_zz46 : Sig := { a := (.pair (.sl (.sl .bool)) .unit), md := [0], mf := [], m := .unit, r := (.sl (.sl .bool)), rf := (.o (.o .i)), f := fun x => zz46 big x.1 }
def A_zz46 : Cfg := mkCfg tab [(74, S_zz37)] [(6, [.as (.sl (.sl .bool)) .i, .drop, .drop, .as (.sl (.sl .bool)) (.o (.o .i)), .drop, .drop, .drop, .drop, .drop, .drop, .as I .i, .as I .i]), (12, [.as (.sl (.sl .bool)) .i, .drop, .drop, .as (.sl (.sl .bool)) (.o (.o .i)), .as I .i, .drop, .drop, .drop, .drop, .drop, .as I .i, .as I .i, .drop, .drop, .drop, .as I .i, .as I .i]), (23, [.drop, .drop, .drop, .as (.sl (.sl .bool)) (.o (.o .i))]), (21, [.as (.sl (.sl .bool)) .i, .drop, .drop, .as (.sl (.sl .bool)) (.o (.o .i)), .drop, .drop, .drop, .drop, .drop, .drop, .as I .i, .as I .i])]
noncomputable def zz46_R3 (N n : Nat) (K : Ex → St → Z6) (o0 d3 : Y5) (t10 t11 : Int) : Z6 := iter ((A_zz46).shape 6) (run (A_zz46) N (codeAt Tryz.f57 [1, 1, 0, 1, 0, 0])) n ([.val (.sl (.sl .bool)) .i o0, .u, .u, .val (.sl (.sl .bool)) (.o (.o .i)) d3, .u, .u, .u, .u, .u, .u, .val I .i t10, .val I .i t11] ++ List.replicate 23 .u) K
noncomputable def zz46_R6 (N n : Nat) (K : Ex → St → Z6) (o0 d3 : Y5) (x4 t10 t11 t15 t16 : Int) : Z6 := iter ((A_zz46).shape 12) (run (A_zz46) N (codeAt Tryz.f57 [1, 1, 0, 1, 0, 0, 1, 1, 0, 0, 1, 1, 0, 0])) n ([.val (.sl (.sl .bool)) .i o0, .u, .u, .val (.sl (.sl .bool)) (.o (.o .i)) d3, .val I .i x4, .u, .u, .u, .u, .u, .val I .i t10, .val I .i t11, .u, .u, .u, .val I .i t15, .val I .i t16] ++ List.replicate 18 .u) K
noncomputable abbrev zz46_z : Ex → St → Z6 := finish (A_zz46) S_zz46 Tryz.f57.results.toList
noncomputable abbrev zz46_X3 (kX : St → Z6) : Y5 → Z6 := fun (d3 : Y5) => kX ([.u, .u, .u, .val (.sl (.sl .bool)) (.o (.o .i)) d3] ++ List.replicate 31 .u)
noncomputable abbrev zz46_E3 (kX : St → Z6) (kO : Nat → St → Z6) : Ex → St → Z6 := exK zz46_z 0 ((A_zz46).shape 23) kX kO
noncomputable abbrev zz46_X6 (kX : St → Z6) : Y5 → Y5 → Int → Int → Z6 := fun (o0 d3 : Y5) (t10 t11 : Int) => kX ([.val (.sl (.sl .bool)) .i o0, .u, .u, .val (.sl (.sl .bool)) (.o (.o .i)) d3, .u, .u, .u, .u, .u, .u, .val I .i t10, .val I .i t11] ++ List.replicate 23 .u)
noncomputable abbrev zz46_E6 (kX : St → Z6) (kO : Nat → St → Z6) : Ex → St → Z6 := exK zz46_z 2 ((A_zz46).shape 21) kX kO
theorem zz46_step6 (N m : Nat) (kX : St → Z6) (kO : Nat → St → Z6) (o0 d3 : Y5) (x4 t10 t11 t15 t16 : Int) : zz46_R6 N (m + 1) (zz46_E6 kX kO) o0 d3 x4 t10 t11 t15 t16 = zz46_b6 (zz46_R6 N m (zz46_E6 kX kO)) (zz46_X6 kX) o0 d3 x4 t10 t11 t15 t16 := by kernel_rfl
theorem zz46_iter6 (N : Nat) (kX : St → Z6) (kO : Nat → St → Z6) : ∀ (n : Nat) (o0 d3 : Y5) (x4 t10 t11 t15 t16 : Int), zz46_R6 N n (zz46_E6 kX kO) o0 d3 x4 t10 t11 t15 t16 = zz46_l6 N (zz46_X6 kX) n o0 d3 x4 t10 t11 t15 t16
  | 0, _, _, _, _, _, _, _ => rfl
  | m + 1, o0, d3, x4, t10, t11, t15, t16 => by
    have hrec : zz46_R6 N m (zz46_E6 kX kO) = (zz46_l6 N (zz46_X6 kX) m) := (funext fun o0 => (funext fun d3 => (funext fun x4 => (funext fun t10 => (funext fun t11 => (funext fun t15 => (funext fun t16 => zz46_iter6 N kX kO m o0 d3 x4 t10 t11 t15 t16)))))))
    refine (zz46_step6 N m kX kO o0 d3 x4 t10 t11 t15 t16).trans ?_
    rw [hrec]
    rfl
noncomputable abbrev zz46_K6 (N m : Nat) (kX : St → Z6) (kO : Nat → St → Z6) : Ex → St → Z6 := (blockK 2 (blockK 1 (seqK ((A_zz46).shape 21) (run (A_zz46) N (codeAt Tryz.f57 [1, 1, 0, 1, 0, 0, 1, 1, 1])) (iterK ((A_zz46).shape 6) (run (A_zz46) N (codeAt Tryz.f57 [1, 1, 0, 1, 0, 0])) m (zz46_E3 kX kO)))))
noncomputable abbrev zz46_k6 (N m : Nat) (kX : St → Z6) (kO : Nat → St → Z6) : St → Z6 := fun st' => run (A_zz46) N (codeAt Tryz.f57 [1, 1, 0, 1, 0, 0, 1, 1, 1]) st' (iterK ((A_zz46).shape 6) (run (A_zz46) N (codeAt Tryz.f57 [1, 1, 0, 1, 0, 0])) m (zz46_E3 kX kO))
theorem zz46_after6 (N m : Nat) (kX : St → Z6) (kO : Nat → St → Z6) (o0 d3 : Y5) (t10 t11 : Int) : zz46_X6 (zz46_k6 N m kX kO) o0 d3 t10 t11 = zz46_a6 (zz46_R3 N m (zz46_E3 kX kO)) o0 d3 t10 t11 := by kernel_rfl
theorem zz46_in6 (N m : Nat) (kX : St → Z6) (kO : Nat → St → Z6) (recF : Y5 → Y5 → Int → Int → Z6) (hrec : zz46_R3 N m (zz46_E3 kX kO) = recF) (o0 d3 : Y5) (x4 t10 t11 t15 t16 : Int) : zz46_R6 N N (zz46_K6 N m kX kO) o0 d3 x4 t10 t11 t15 t16 = zz46_F6 N recF (zz46_X3 kX) o0 d3 x4 t10 t11 t15 t16 :=
  have h : zz46_X6 (zz46_k6 N m kX kO) = (zz46_a6 recF) := (funext fun o0 => (funext fun d3 => (funext fun t10 => (funext fun t11 => (zz46_after6 N m kX kO o0 d3 t10 t11).trans (by rw [hrec])))))
  ((iter_ex (fun st => by kernel_rfl) (fun st => by kernel_rfl)).trans (zz46_iter6 N (zz46_k6 N m kX kO) (fun j st => (zz46_K6 N m kX kO) (.exit j) st) N o0 d3 x4 t10 t11 t15 t16)).trans (congrArg (fun k => zz46_l6 N k N o0 d3 x4 t10 t11 t15 t16) h)
theorem zz46_step3 (N m : Nat) (kX : St → Z6) (kO : Nat → St → Z6) (o0 d3 : Y5) (t10 t11 : Int) : zz46_R3 N (m + 1) (zz46_E3 kX kO) o0 d3 t10 t11 = zz46_b3 (zz46_R6 N N (zz46_K6 N m kX kO)) (zz46_X3 kX) o0 d3 t10 t11 := by kernel_rfl
theorem zz46_iter3 (N : Nat) (kX : St → Z6) (kO : Nat → St → Z6) : ∀ (n : Nat) (o0 d3 : Y5) (t10 t11 : Int), zz46_R3 N n (zz46_E3 kX kO) o0 d3 t10 t11 = zz46_l3 N (zz46_X3 kX) n o0 d3 t10 t11
  | 0, _, _, _, _ => rfl
  | m + 1, o0, d3, t10, t11 => by
    have hrec : zz46_R3 N m (zz46_E3 kX kO) = (zz46_l3 N (zz46_X3 kX) m) := (funext fun o0 => (funext fun d3 => (funext fun t10 => (funext fun t11 => zz46_iter3 N kX kO m o0 d3 t10 t11))))
    refine (zz46_step3 N m kX kO o0 d3 t10 t11).trans ?_
    rw [(funext fun o0 => (funext fun d3 => (funext fun x4 => (funext fun t10 => (funext fun t11 => (funext fun t15 => (funext fun t16 => zz46_in6 N m kX kO (zz46_l3 N (zz46_X3 kX) m) hrec o0 d3 x4 t10 t11 t15 t16)))))))]
    rfl
noncomputable abbrev zz46_K3 (N : Nat) : Ex → St → Z6 := (blockK 0 (seqK ((A_zz46).shape 23) (run (A_zz46) N (codeAt Tryz.f57 [1, 1, 1])) zz46_z))
noncomputable abbrev zz46_k3 (N : Nat) : St → Z6 := fun st' => run (A_zz46) N (codeAt Tryz.f57 [1, 1, 1]) st' zz46_z
theorem zz46_after3 (N : Nat) (d3 : Y5) : zz46_X3 (zz46_k3 N) d3 = zz46_a3 d3 := by kernel_rfl
theorem zz46_in3 (N : Nat) (o0 d3 : Y5) (t10 t11 : Int) : zz46_R3 N N (zz46_K3 N) o0 d3 t10 t11 = zz46_F3 N o0 d3 t10 t11 :=
  have h : zz46_X3 (zz46_k3 N) = (zz46_a3) := (funext fun d3 => zz46_after3 N d3)
  ((iter_ex (fun st => by kernel_rfl) (fun st => by kernel_rfl)).trans (zz46_iter3 N (zz46_k3 N) (fun j st => (zz46_K3 N) (.exit j) st) N o0 d3 t10 t11)).trans (congrArg (fun k => zz46_l3 N k N o0 d3 t10 t11) h)
theorem run0_zz46 (N : Nat) (x : (S_zz46).a.den) : runF (A_zz46) N Tryz.f57 S_zz46 x = (zz46_s (zz46_R3 N N (zz46_K3 N)) x.1) := by kernel_rfl
theorem run_zz46 (N : Nat) (x : (S_zz46).a.den) : runF (A_zz46) N Tryz.f57 S_zz46 x = zz46 N x.1 := by
  refine (run0_zz46 N x).trans ?_
  rw [(funext fun o0 => (funext fun d3 => (funext fun t10 => (funext fun t11 => zz46_in3 N o0 d3 t10 t11))))]
  rfl
theorem fn_zz46 : FnOk Tryz.prog 57 := ⟨_, Tryz.func57, by kernel_rfl, by kernel_rfl⟩
theorem good_zz46 : Gx.Good Tryz.prog 57 S_zz46 := good_of_run Tryz.func57 (of_decide_eq_true (by kernel_rfl)) fun x r h => ⟨A_zz46, big, mkCfg_ok tabOk, mkCfg_sigs (show SigsOk Tryz.prog [(74, S_zz37)] from ⟨⟨fn_zz37, good_zz37⟩, trivial⟩), (run_zz46 big x).trans h⟩

/-! zz47 -/
def zz47_s (p_0 : Y2) : Option ((Y1 × (Bool × Unit)) × Unit) :=
  (zz41 big p_0).bind fun rq1 =>
  cond (!((((), rq1.1.2).2).1))
  (some ((none, false, ()), (())))
  (cond (decide ((rq1.1.1.length : Int) = (0 : Int)))
  (some ((none, false, ()), (())))
  ((zz45 big rq1.1.1).bind fun rq2 =>
  (zz46 big rq1.1.1).bind fun rq3 =>
  (zz45 big rq3.1).bind fun rq4 =>
  cond ((((), rq2.1.2).2).1)
  (some ((some (rq1.1.1, (rq2.1.1, (rq4.1.1, ()))), (((), rq4.1.2).2).1, ()), (())))
  (some ((some (rq1.1.1, (rq2.1.1, (rq4.1.1, ()))), false, ()), (())))))
def zz47 (p_0 : Y2) : Option ((Y1 × (Bool × Unit)) × Unit) := zz47_s p_0
def S_zz47 : Sig := { a := (.pair (.pair (.sl (.sl I)) .unit) .unit), md := [0], mf := [], m := .unit, r := (.tup (.pair (.opt (.pair (.sl (.sl .bool)) (.pair (.sl (.sl I)) (.pair (.sl (.sl I)) .unit)))) (.pair .bool .unit))), rf := .i, f := fun x => zz47 x.1 }
def A_zz47 : Cfg := mkCfg tab [(55, S_zz41), (56, S_zz45), (57, S_zz46)] []
theorem run_zz47 (N : Nat) (x : (S_zz47).a.den) : runF (A_zz47) N Tryz.f34 S_zz47 x = zz47 x.1 := by kernel_rfl
theorem fn_zz47 : FnOk Tryz.prog 34 := ⟨_, Tryz.func34, by kernel_rfl, by kernel_rfl⟩
theorem good_zz47 : Gx.Good Tryz.prog 34 S_zz47 := good_of_run Tryz.func34 (of_decide_eq_true (by kernel_rfl)) fun x r h => ⟨A_zz47, big, mkCfg_ok tabOk, mkCfg_sigs (show SigsOk Tryz.prog [(55, S_zz41), (56, S_zz45), (57, S_zz46)] from ⟨⟨fn_zz41, good_zz41⟩, ⟨fn_zz45, good_zz45⟩, ⟨fn_zz46, good_zz46⟩, trivial⟩), (run_zz47 big x).trans h⟩

/-! zz48 -/
def zz48_s (p_0 : Y2) : Option ((Y1 × (Bool × Unit)) × Unit) :=
  (zz47 p_0).bind fun rq1 =>
  cond rq1.1.2.1
  ((rq1.1.1).bind fun xq2 =>
  some ((rq1.1.1, decide ((xq2.1.length : Int) ≤ (8 : Int)), ()), (())))
  (some ((rq1.1.1, false, ()), (())))
def zz48 (p_0 : Y2) : Option ((Y1 × (Bool × Unit)) × Unit) := zz48_s p_0
def S_zz48 : Sig := { a := (.pair (.pair (.sl (.sl I)) .unit) .unit), md := [0], mf := [], m := .unit, r := (.tup (.pair (.opt (.pair (.sl (.sl .bool)) (.pair (.sl (.sl I)) (.pair (.sl (.sl I)) .unit)))) (.pair .bool .unit))), rf := .i, f := fun x => zz48 x.1 }
def A_zz48 : Cfg := mkCfg tab [(34, S_zz47)] []
theorem run_zz48 (N : Nat) (x : (S_zz48).a.den) : runF (A_zz48) N Tryz.f17 S_zz48 x = zz48 x.1 := by kernel_rfl
theorem fn_zz48 : FnOk Tryz.prog 17 := ⟨_, Tryz.func17, by kernel_rfl, by kernel_rfl⟩
theorem good_zz48 : Gx.Good Tryz.prog 17 S_zz48 := good_of_run Tryz.func17 (of_decide_eq_true (by kernel_rfl)) fun x r h => ⟨A_zz48, big, mkCfg_ok tabOk, mkCfg_sigs (show SigsOk Tryz.prog [(34, S_zz47)] from ⟨⟨fn_zz47, good_zz47⟩, trivial⟩), (run_zz48 big x).trans h⟩

/-! zz49 -/
def zz49_s (o_0 : Y5) (x_1 y_2 : Int) : Z0 :=
  cond (decide (x_1 ≠ y_2))
  ((atI o_0 x_1).bind fun xq1 =>
  (atI xq1 y_2).bind fun xq2 =>
  some (xq2, (())))
  (some (false, (())))
def zz49 (o_0 : Y5) (x_1 y_2 : Int) : Z0 := zz49_s o_0 x_1 y_2
def S_zz49 : Sig := { a := (.pair (.sl (.sl .bool)) (.pair I (.pair I .unit))), md := [0, 0, 0], mf := [], m := .unit, r := .bool, rf := .i, f := fun x => zz49 x.1 x.2.1 x.2.2.1 }
def A_zz49 : Cfg := mkCfg tab [] []
theorem run_zz49 (N : Nat) (x : (S_zz49).a.den) : runF (A_zz49) N Tryz.f79 S_zz49 x = zz49 x.1 x.2.1 x.2.2.1 := by kernel_rfl
theorem fn_zz49 : FnOk Tryz.prog 79 := ⟨_, Tryz.func79, by kernel_rfl, by kernel_rfl⟩
theorem good_zz49 : Gx.Good Tryz.prog 79 S_zz49 := good_of_run Tryz.func79 (of_decide_eq_true (by kernel_rfl)) fun x r h => ⟨A_zz49, big, mkCfg_ok tabOk, mkCfg_sigs (show SigsOk Tryz.prog [] from trivial), (run_zz49 big x).trans h⟩

/-! zz50 -/
def zz50_b4 (rec : Y5 → Int → Int → Int → Int → Z0) (k : Z0) (o0 : Y5) (x1 y2 t14 t15 : Int) : Z0 :=
  cond (decide (t15 < t14))
  ((zz49 o0 x1 t15).bind fun rq2 =>
  cond rq2.1
  ((zz49 o0 t15 y2).bind fun rq3 =>
  cond rq3.1
  (some (false, (())))
  (rec o0 x1 y2 t14 (IntKind.i64.wrap (t15 + (1 : Int)))))
  (rec o0 x1 y2 t14 (IntKind.i64.wrap (t15 + (1 : Int)))))
  (k)
def zz50_a4 : Z0 :=
  some (true, (()))
def zz50_s (L4 : Y5 → Int → Int → Int → Int → Z0) (o_0 : Y5) (x_1 y_2 : Int) : Z0 :=
  (zz49 o_0 x_1 y_2).bind fun rq1 =>
  cond (!rq1.1)
  (some (false, (())))
  (L4 o_0 x_1 y_2 (o_0.length : Int) (0 : Int))
def zz50_l4 (N : Nat) (k : Z0) : Nat → Y5 → Int → Int → Int → Int → Z0
  | 0, _, _, _, _, _ => none
  | m + 1, o0, x1, y2, t14, t15 => zz50_b4 (zz50_l4 N k m) k o0 x1 y2 t14 t15
def zz50_F4 (N : Nat) (o0 : Y5) (x1 y2 t14 t15 : Int) : Z0 := zz50_l4 N (zz50_a4) N o0 x1 y2 t14 t15
def zz50 (N : Nat) (o_0 : Y5) (x_1 y_2 : Int) : Z0 := zz50_s (zz50_F4 N) o_0 x_1 y_2
def S_zz50 : Sig := { a := (.pair (.sl (.sl .bool)) (.pair I (.pair I .unit))), md := [0, 0, 0], mf := [], m := .unit, r := .bool, rf := .i, f := fun x => zz50 big x.1 x.2.1 x.2.2.1 }
def A_zz50 : Cfg := mkCfg tab [(79, S_zz49)] [(8, [.as (.sl (.sl .bool)) .i, .as I .i, .as I .i, .drop, .drop, .drop, .drop, .drop, .drop, .drop, .drop, .drop, .drop, .drop, .as I .i, .as I .i]), (19, [])]
noncomputable def zz50_R4 (N n : Nat) (K : Ex → St → Z0) (o0 : Y5) (x1 y2 t14 t15 : Int) : Z0 := iter ((A_zz50).shape 8) (run (A_zz50) N (codeAt Tryz.f59 [1, 1, 0, 1, 0, 0])) n ([.val (.sl (.sl .bool)) .i o0, .val I .i x1, .val I .i y2, .u, .u, .u, .u, .u, .u, .u, .u, .u, .u, .u, .val I .i t14, .val I .i t15] ++ List.replicate 13 .u) K
noncomputable abbrev zz50_z : Ex → St → Z0 := finish (A_zz50) S_zz50 Tryz.f59.results.toList
noncomputable abbrev zz50_X4 (kX : St → Z0) : Z0 := kX ([] ++ List.replicate 29 .u)
noncomputable abbrev zz50_E4 (kX : St → Z0) (kO : Nat → St → Z0) : Ex → St → Z0 := exK zz50_z 0 ((A_zz50).shape 19) kX kO
theorem zz50_step4 (N m : Nat) (kX : St → Z0) (kO : Nat → St → Z0) (o0 : Y5) (x1 y2 t14 t15 : Int) : zz50_R4 N (m + 1) (zz50_E4 kX kO) o0 x1 y2 t14 t15 = zz50_b4 (zz50_R4 N m (zz50_E4 kX kO)) (zz50_X4 kX) o0 x1 y2 t14 t15 := by kernel_rfl
theorem zz50_iter4 (N : Nat) (kX : St → Z0) (kO : Nat → St → Z0) : ∀ (n : Nat) (o0 : Y5) (x1 y2 t14 t15 : Int), zz50_R4 N n (zz50_E4 kX kO) o0 x1 y2 t14 t15 = zz50_l4 N (zz50_X4 kX) n o0 x1 y2 t14 t15
  | 0, _, _, _, _, _ => rfl
  | m + 1, o0, x1, y2, t14, t15 => by
    have hrec : zz50_R4 N m (zz50_E4 kX kO) = (zz50_l4 N (zz50_X4 kX) m) := (funext fun o0 => (funext fun x1 => (funext fun y2 => (funext fun t14 => (funext fun t15 => zz50_iter4 N kX kO m o0 x1 y2 t14 t15)))))
    refine (zz50_step4 N m kX kO o0 x1 y2 t14 t15).trans ?_
    rw [hrec]
    rfl
noncomputable abbrev zz50_K4 (N : Nat) : Ex → St → Z0 := (blockK 0 (seqK ((A_zz50).shape 19) (run (A_zz50) N (codeAt Tryz.f59 [1, 1, 1])) zz50_z))
noncomputable abbrev zz50_k4 (N : Nat) : St → Z0 := fun st' => run (A_zz50) N (codeAt Tryz.f59 [1, 1, 1]) st' zz50_z
theorem zz50_after4 (N : Nat) : zz50_X4 (zz50_k4 N) = zz50_a4 := by kernel_rfl
theorem zz50_in4 (N : Nat) (o0 : Y5) (x1 y2 t14 t15 : Int) : zz50_R4 N N (zz50_K4 N) o0 x1 y2 t14 t15 = zz50_F4 N o0 x1 y2 t14 t15 :=
  have h : zz50_X4 (zz50_k4 N) = (zz50_a4) := zz50_after4 N
  ((iter_ex (fun st => by kernel_rfl) (fun st => by kernel_rfl)).trans (zz50_iter4 N (zz50_k4 N) (fun j st => (zz50_K4 N) (.exit j) st) N o0 x1 y2 t14 t15)).trans (congrArg (fun k => zz50_l4 N k N o0 x1 y2 t14 t15) h)
theorem run0_zz50 (N : Nat) (x : (S_zz50).a.den) : runF (A_zz50) N Tryz.f59 S_zz50 x = (zz50_s (zz50_R4 N N (zz50_K4 N)) x.1 x.2.1 x.2.2.1) := by kernel_rfl
theorem run_zz50 (N : Nat) (x : (S_zz50).a.den) : runF (A_zz50) N Tryz.f59 S_zz50 x = zz50 N x.1 x.2.1 x.2.2.1 := by
  refine (run0_zz50 N x).trans ?_
  rw [(funext fun o0 => (funext fun x1 => (funext fun y2 => (funext fun t14 => (funext fun t15 => zz50_in4 N o0 x1 y2 t14 t15)))))]
  rfl
theorem fn_zz50 : FnOk Tryz.prog 59 := ⟨_, Tryz.func59, by kernel_rfl, by kernel_rfl⟩
theorem good_zz50 : Gx.Good Tryz.prog 59 S_zz50 := good_of_run Tryz.func59 (of_decide_eq_true (by kernel_rfl)) fun x r h => ⟨A_zz50, big, mkCfg_ok tabOk, mkCfg_sigs (show SigsOk Tryz.prog [(79, S_zz49)] from ⟨⟨fn_zz49, good_zz49⟩, trivial⟩), (run_zz50 big x).trans h⟩

/-! zz51 -/
def zz51_s (y_0 : Int) (p_1 : Y5) (p_2 : Int) : Z0 :=
  (zz50 big p_1 y_0 p_2).bind fun rq1 =>
  some (rq1.1, (()))
def zz51 (y_0 : Int) (p_1 : Y5) (p_2 : Int) : Z0 := zz51_s y_0 p_1 p_2
def S_zz51 : Sig := { a := (.pair I (.pair (.ptr (.sl (.sl .bool))) (.pair (.ptr I) .unit))), md := [0, 0, 0], mf := [], m := .unit, r := .bool, rf := .i, f := fun x => zz51 x.1 x.2.1 x.2.2.1 }
def A_zz51 : Cfg := mkCfg tab [(59, S_zz50)] []
theorem run_zz51 (N : Nat) (x : (S_zz51).a.den) : runF (A_zz51) N Tryz.f58 S_zz51 x = zz51 x.1 x.2.1 x.2.2.1 := by kernel_rfl
theorem fn_zz51 : FnOk Tryz.prog 58 := ⟨_, Tryz.func58, by kernel_rfl, by kernel_rfl⟩
theorem good_zz51 : Gx.Good Tryz.prog 58 S_zz51 := good_of_run Tryz.func58 (of_decide_eq_true (by kernel_rfl)) fun x r h => ⟨A_zz51, big, mkCfg_ok tabOk, mkCfg_sigs (show SigsOk Tryz.prog [(59, S_zz50)] from ⟨⟨fn_zz50, good_zz50⟩, trivial⟩), (run_zz51 big x).trans h⟩

/-! zz52 -/
def zz52_b3 (rec : (Y5 × (Int × Unit)) → Y4 → Int → Int → Z1) (k : Y4 → Z1) (so1 : (Y5 × (Int × Unit))) (list5 : Y4) (t9 t10 : Int) : Z1 :=
  cond (decide (t10 < t9))
  ((zz51 t10 so1.1 so1.2.1).bind fun rq1 =>
  cond rq1.1
  ((appI list5 [t10]).bind fun xq2 =>
  rec so1 xq2 t9 (IntKind.i64.wrap (t10 + (1 : Int))))
  (rec so1 list5 t9 (IntKind.i64.wrap (t10 + (1 : Int)))))
  (k list5)
def zz52_a3 (list5 : Y4) : Z1 :=
  some (list5, (()))
def zz52_s (L3 : (Y5 × (Int × Unit)) → Y4 → Int → Int → Z1) (o_0 : Y5) (so_1 : (Y5 × (Int × Unit))) : Z1 :=
  L3 so_1 [] (o_0.length : Int) (0 : Int)
def zz52_l3 (N : Nat) (k : Y4 → Z1) : Nat → (Y5 × (Int × Unit)) → Y4 → Int → Int → Z1
  | 0, _, _, _, _ => none
  | m + 1, so1, list5, t9, t10 => zz52_b3 (zz52_l3 N k m) k so1 list5 t9 t10
def zz52_F3 (N : Nat) (so1 : (Y5 × (Int × Unit))) (list5 : Y4) (t9 t10 : Int) : Z1 := zz52_l3 N (zz52_a3) N so1 list5 t9 t10
def zz52 (N : Nat) (o_0 : Y5) (so_1 : (Y5 × (Int × Unit))) : Z1 := zz52_s (zz52_F3 N) o_0 so_1
def S_zz52 : Sig := { a := (.pair (.sl (.sl .bool)) (.pair (.clo 58 0 (.pair (.ptr (.sl (.sl .bool))) (.pair (.ptr I) .unit))) .unit)), md := [0, 0], mf := [], m := .unit, r := (.sl I), rf := (.o .i), f := fun x => zz52 big x.1 x.2.1 }
def A_zz52 : Cfg := mkCfg tab [(58, S_zz51)] [(6, [.drop, .as (.clo 58 0 (.pair (.ptr (.sl (.sl .bool))) (.pair (.ptr I) .unit))) .i, .drop, .drop, .drop, .as (.sl I) (.o .i), .drop, .drop, .drop, .as I .i, .as I .i]), (17, [.drop, .drop, .drop, .drop, .drop, .as (.sl I) (.o .i)])]
noncomputable def zz52_R3 (N n : Nat) (K : Ex → St → Z1) (so1 : (Y5 × (Int × Unit))) (list5 : Y4) (t9 t10 : Int) : Z1 := iter ((A_zz52).shape 6) (run (A_zz52) N (codeAt Tryz.f35 [1, 1, 0, 1, 0, 0])) n ([.u, .val (.clo 58 0 (.pair (.ptr (.sl (.sl .bool))) (.pair (.ptr I) .unit))) .i so1, .u, .u, .u, .val (.sl I) (.o .i) list5, .u, .u, .u, .val I .i t9, .val I .i t10] ++ List.replicate 11 .u) K
noncomputable abbrev zz52_z : Ex → St → Z1 := finish (A_zz52) S_zz52 Tryz.f35.results.toList
noncomputable abbrev zz52_X3 (kX : St → Z1) : Y4 → Z1 := fun (list5 : Y4) => kX ([.u, .u, .u, .u, .u, .val (.sl I) (.o .i) list5] ++ List.replicate 16 .u)
noncomputable abbrev zz52_E3 (kX : St → Z1) (kO : Nat → St → Z1) : Ex → St → Z1 := exK zz52_z 0 ((A_zz52).shape 17) kX kO
theorem zz52_step3 (N m : Nat) (kX : St → Z1) (kO : Nat → St → Z1) (so1 : (Y5 × (Int × Unit))) (list5 : Y4) (t9 t10 : Int) : zz52_R3 N (m + 1) (zz52_E3 kX kO) so1 list5 t9 t10 = zz52_b3 (zz52_R3 N m (zz52_E3 kX kO)) (zz52_X3 kX) so1 list5 t9 t10 := by kernel_rfl
theorem zz52_iter3 (N : Nat) (kX : St → Z1) (kO : Nat → St → Z1) : ∀ (n : Nat) (so1 : (Y5 × (Int × Unit))) (list5 : Y4) (t9 t10 : Int), zz52_R3 N n (zz52_E3 kX kO) so1 list5 t9 t10 = zz52_l3 N (zz52_X3 kX) n so1 list5 t9 t10
  | 0, _, _, _, _ => rfl
  | m + 1, so1, list5, t9, t10 => by
    have hrec : zz52_R3 N m (zz52_E3 kX kO) = (zz52_l3 N (zz52_X3 kX) m) := (funext fun so1 => (funext fun list5 => (funext fun t9 => (funext fun t10 => zz52_iter3 N kX kO m so1 list5 t9 t10))))
    refine (zz52_step3 N m kX kO so1 list5 t9 t10).trans ?_
    rw [hrec]
    rfl
noncomputable abbrev zz52_K3 (N : Nat) : Ex → St → Z1 := (blockK 0 (seqK ((A_zz52).shape 17) (run (A_zz52) N (codeAt Tryz.f35 [1, 1, 1])) zz52_z))
noncomputable abbrev zz52_k3 (N : Nat) : St → Z1 := fun st' => run (A_zz52) N (codeAt Tryz.f35 [1, 1, 1]) st' zz52_z
theorem zz52_after3 (N : Nat) (list5 : Y4) : zz52_X3 (zz52_k3 N) list5 = zz52_a3 list5 := by kernel_rfl
theorem zz52_in3 (N : Nat) (so1 : (Y5 × (Int × Unit))) (list5 : Y4) (t9 t10 : Int) : zz52_R3 N N (zz52_K3 N) so1 list5 t9 t10 = zz52_F3 N so1 list5 t9 t10 :=
  have h : zz52_X3 (zz52_k3 N) = (zz52_a3) := (funext fun list5 => zz52_after3 N list5)
  ((iter_ex (fun st => by kernel_rfl) (fun st => by kernel_rfl)).trans (zz52_iter3 N (zz52_k3 N) (fun j st => (zz52_K3 N) (.exit j) st) N so1 list5 t9 t10)).trans (congrArg (fun k => zz52_l3 N k N so1 list5 t9 t10) h)
theorem run0_zz52 (N : Nat) (x : (S_zz52).a.den) : runF (A_zz52) N Tryz.f35 S_zz52 x = (zz52_s (zz52_R3 N N (zz52_K3 N)) x.1 x.2.1) := by kernel_rfl
theorem run_zz52 (N : Nat) (x : (S_zz52).a.den) : runF (A_zz52) N Tryz.f35 S_zz52 x = zz52 N x.1 x.2.1 := by
  refine (run0_zz52 N x).trans ?_
  rw [(funext fun so1 => (funext fun list5 => (funext fun t9 => (funext fun t10 => zz52_in3 N so1 list5 t9 t10))))]
  rfl
theorem fn_zz52 : FnOk Tryz.prog 35 := ⟨_, Tryz.func35, by kernel_rfl, by kernel_rfl⟩
theorem good_zz52 : Gx.Good Tryz.prog 35 S_zz52 := good_of_run Tryz.func35 (of_decide_eq_true (by kernel_rfl)) fun x r h => ⟨A_zz52, big, mkCfg_ok tabOk, mkCfg_sigs (show SigsOk Tryz.prog [(58, S_zz51)] from ⟨⟨fn_zz51, good_zz51⟩, trivial⟩), (run_zz52 big x).trans h⟩

/-! zz53 -/
def zz53_s (o_0 : Y5) (x_1 : Int) : Z1 :=
  (zz52 big o_0 (o_0, x_1, ())).bind fun rq1 =>
  some (rq1.1, (()))
def zz53 (o_0 : Y5) (x_1 : Int) : Z1 := zz53_s o_0 x_1
def S_zz53 : Sig := { a := (.pair (.sl (.sl .bool)) (.pair I .unit)), md := [0, 0], mf := [], m := .unit, r := (.sl I), rf := (.o .i), f := fun x => zz53 x.1 x.2.1 }
def A_zz53 : Cfg := mkCfg tab [(35, S_zz52)] [(3, [.drop, .drop, .as (.ptr (.sl (.sl .bool))) .i, .as (.ptr I) .i])]
theorem run_zz53 (N : Nat) (x : (S_zz53).a.den) : runF (A_zz53) N Tryz.f37 S_zz53 x = zz53 x.1 x.2.1 := by kernel_rfl
theorem fn_zz53 : FnOk Tryz.prog 37 := ⟨_, Tryz.func37, by kernel_rfl, by kernel_rfl⟩
theorem good_zz53 : Gx.Good Tryz.prog 37 S_zz53 := good_of_run Tryz.func37 (of_decide_eq_true (by kernel_rfl)) fun x r h => ⟨A_zz53, big, mkCfg_ok tabOk, mkCfg_sigs (show SigsOk Tryz.prog [(35, S_zz52)] from ⟨⟨fn_zz52, good_zz52⟩, trivial⟩), (run_zz53 big x).trans h⟩

/-! zz54 -/
def zz54_s (x_0 : Int) (p_1 : Y1) : Z0 :=
  (p_1).bind fun xq1 =>
  (zz53 xq1.1 x_0).bind fun rq2 =>
  some (decide ((rq2.1.length : Int) = (1 : Int)), (()))
def zz54 (x_0 : Int) (p_1 : Y1) : Z0 := zz54_s x_0 p_1
def S_zz54 : Sig := { a := (.pair I (.pair (.ptr (.opt (.pair (.sl (.sl .bool)) (.pair (.sl (.sl I)) (.pair (.sl (.sl I)) .unit))))) .unit)), md := [0, 0], mf := [], m := .unit, r := .bool, rf := .i, f := fun x => zz54 x.1 x.2.1 }
def A_zz54 : Cfg := mkCfg tab [(37, S_zz53)] []
theorem run_zz54 (N : Nat) (x : (S_zz54).a.den) : runF (A_zz54) N Tryz.f36 S_zz54 x = zz54 x.1 x.2.1 := by kernel_rfl
theorem fn_zz54 : FnOk Tryz.prog 36 := ⟨_, Tryz.func36, by kernel_rfl, by kernel_rfl⟩
theorem good_zz54 : Gx.Good Tryz.prog 36 S_zz54 := good_of_run Tryz.func36 (of_decide_eq_true (by kernel_rfl)) fun x r h => ⟨A_zz54, big, mkCfg_ok tabOk, mkCfg_sigs (show SigsOk Tryz.prog [(37, S_zz53)] from ⟨⟨fn_zz53, good_zz53⟩, trivial⟩), (run_zz54 big x).trans h⟩

/-! zz55 -/
def zz55_b3 (rec : (Y1 × Unit) → Y4 → Int → Int → Z1) (k : Y4 → Z1) (so1 : (Y1 × Unit)) (list5 : Y4) (t9 t10 : Int) : Z1 :=
  cond (decide (t10 < t9))
  ((zz54 t10 so1.1).bind fun rq1 =>
  cond rq1.1
  ((appI list5 [t10]).bind fun xq2 =>
  rec so1 xq2 t9 (IntKind.i64.wrap (t10 + (1 : Int))))
  (rec so1 list5 t9 (IntKind.i64.wrap (t10 + (1 : Int)))))
  (k list5)
def zz55_a3 (list5 : Y4) : Z1 :=
  some (list5, (()))
def zz55_s (L3 : (Y1 × Unit) → Y4 → Int → Int → Z1) (o_0 : Y5) (so_1 : (Y1 × Unit)) : Z1 :=
  L3 so_1 [] (o_0.length : Int) (0 : Int)
def zz55_l3 (N : Nat) (k : Y4 → Z1) : Nat → (Y1 × Unit) → Y4 → Int → Int → Z1
  | 0, _, _, _, _ => none
  | m + 1, so1, list5, t9, t10 => zz55_b3 (zz55_l3 N k m) k so1 list5 t9 t10
def zz55_F3 (N : Nat) (so1 : (Y1 × Unit)) (list5 : Y4) (t9 t10 : Int) : Z1 := zz55_l3 N (zz55_a3) N so1 list5 t9 t10
def zz55 (N : Nat) (o_0 : Y5) (so_1 : (Y1 × Unit)) : Z1 := zz55_s (zz55_F3 N) o_0 so_1
def S_zz55 : Sig := { a := (.pair (.sl (.sl .bool)) (.pair (.clo 36 0 (.pair (.ptr (.opt (.pair (.sl (.sl .bool)) (.pair (.sl (.sl I)) (.pair (.sl (.sl I)) .unit))))) .unit)) .unit)), md := [0, 0], mf := [], m := .unit, r := (.sl I), rf := (.o .i), f := fun x => zz55 big x.1 x.2.1 }
def A_zz55 : Cfg := mkCfg tab [(36, S_zz54)] [(6, [.drop, .as (.clo 36 0 (.pair (.ptr (.opt (.pair (.sl (.sl .bool)) (.pair (.sl (.sl I)) (.pair (.sl (.sl I)) .unit))))) .unit)) .i, .drop, .drop, .drop, .as (.sl I) (.o .i), .drop, .drop, .drop, .as I .i, .as I .i]), (17, [.drop, .drop, .drop, .drop, .drop, .as (.sl I) (.o .i)])]
noncomputable def zz55_R3 (N n : Nat) (K : Ex → St → Z1) (so1 : (Y1 × Unit)) (list5 : Y4) (t9 t10 : Int) : Z1 := iter ((A_zz55).shape 6) (run (A_zz55) N (codeAt Tryz.f35 [1, 1, 0, 1, 0, 0])) n ([.u, .val (.clo 36 0 (.pair (.ptr (.opt (.pair (.sl (.sl .bool)) (.pair (.sl (.sl I)) (.pair (.sl (.sl I)) .unit))))) .unit)) .i so1, .u, .u, .u, .val (.sl I) (.o .i) list5, .u, .u, .u, .val I .i t9, .val I .i t10] ++ List.replicate 11 .u) K
noncomputable abbrev zz55_z : Ex → St → Z1 := finish (A_zz55) S_zz55 Tryz.f35.results.toList
noncomputable abbrev zz55_X3 (kX : St → Z1) : Y4 → Z1 := fun (list5 : Y4) => kX ([.u, .u, .u, .u, .u, .val (.sl I) (.o .i) list5] ++ List.replicate 16 .u)
noncomputable abbrev zz55_E3 (kX : St → Z1) (kO : Nat → St → Z1) : Ex → St → Z1 := exK zz55_z 0 ((A_zz55).shape 17) kX kO
theorem zz55_step3 (N m : Nat) (kX : St → Z1) (kO : Nat → St → Z1) (so1 : (Y1 × Unit)) (list5 : Y4) (t9 t10 : Int) : zz55_R3 N (m + 1) (zz55_E3 kX kO) so1 list5 t9 t10 = zz55_b3 (zz55_R3 N m (zz55_E3 kX kO)) (zz55_X3 kX) so1 list5 t9 t10 := by kernel_rfl
theorem zz55_iter3 (N : Nat) (kX : St → Z1) (kO : Nat → St → Z1) : ∀ (n : Nat) (so1 : (Y1 × Unit)) (list5 : Y4) (t9 t10 : Int), zz55_R3 N n (zz55_E3 kX kO) so1 list5 t9 t10 = zz55_l3 N (zz55_X3 kX) n so1 list5 t9 t10
  | 0, _, _, _, _ => rfl
  | m + 1, so1, list5, t9, t10 => by
    have hrec : zz55_R3 N m (zz55_E3 kX kO) = (zz55_l3 N (zz55_X3 kX) m) := (funext fun so1 => (funext fun list5 => (funext fun t9 => (funext fun t10 => zz55_iter3 N kX kO m so1 list5 t9 t10))))
    refine (zz55_step3 N m kX kO so1 list5 t9 t10).trans ?_
    rw [hrec]
    rfl
noncomputable abbrev zz55_K3 (N : Nat) : Ex → St → Z1 := (blockK 0 (seqK ((A_zz55).shape 17) (run (A_zz55) N (codeAt Tryz.f35 [1, 1, 1])) zz55_z))
noncomputable abbrev zz55_k3 (N : Nat) : St → Z1 := fun st' => run (A_zz55) N (codeAt Tryz.f35 [1, 1, 1]) st' zz55_z
theorem zz55_after3 (N : Nat) (list5 : Y4) : zz55_X3 (zz55_k3 N) list5 = zz55_a3 list5 := by kernel_rfl
theorem zz55_in3 (N : Nat) (so1 : (Y1 × Unit)) (list5 : Y4) (t9 t10 : Int) : zz55_R3 N N (zz55_K3 N) so1 list5 t9 t10 = zz55_F3 N so1 list5 t9 t10 :=
  have h : zz55_X3 (zz55_k3 N) = (zz55_a3) := (funext fun list5 => zz55_after3 N list5)
  ((iter_ex (fun st => by kernel_rfl) (fun st => by kernel_rfl)).trans (zz55_iter3 N (zz55_k3 N) (fun j st => (zz55_K3 N) (.exit j) st) N so1 list5 t9 t10)).trans (congrArg (fun k => zz55_l3 N k N so1 list5 t9 t10) h)
theorem run0_zz55 (N : Nat) (x : (S_zz55).a.den) : runF (A_zz55) N Tryz.f35 S_zz55 x = (zz55_s (zz55_R3 N N (zz55_K3 N)) x.1 x.2.1) := by kernel_rfl
theorem run_zz55 (N : Nat) (x : (S_zz55).a.den) : runF (A_zz55) N Tryz.f35 S_zz55 x = zz55 N x.1 x.2.1 := by
  refine (run0_zz55 N x).trans ?_
  rw [(funext fun so1 => (funext fun list5 => (funext fun t9 => (funext fun t10 => zz55_in3 N so1 list5 t9 t10))))]
  rfl
theorem fn_zz55 : FnOk Tryz.prog 35 := ⟨_, Tryz.func35, by kernel_rfl, by kernel_rfl⟩
theorem good_zz55 : Gx.Good Tryz.prog 35 S_zz55 := good_of_run Tryz.func35 (of_decide_eq_true (by kernel_rfl)) fun x r h => ⟨A_zz55, big, mkCfg_ok tabOk, mkCfg_sigs (show SigsOk Tryz.prog [(36, S_zz54)] from ⟨⟨fn_zz54, good_zz54⟩, trivial⟩), (run_zz55 big x).trans h⟩

/-! zz56 -/
def zz56_s (l_0 : Y1) : Z1 :=
  (l_0).bind fun xq1 =>
  (zz55 big xq1.1 (l_0, ())).bind fun rq2 =>
  some (rq2.1, (()))
def zz56 (l_0 : Y1) : Z1 := zz56_s l_0
def S_zz56 : Sig := { a := (.pair (.opt (.pair (.sl (.sl .bool)) (.pair (.sl (.sl I)) (.pair (.sl (.sl I)) .unit)))) .unit), md := [0], mf := [], m := .unit, r := (.sl I), rf := (.o .i), f := fun x => zz56 x.1 }
def A_zz56 : Cfg := mkCfg tab [(35, S_zz55)] [(3, [.drop, .as (.ptr (.opt (.pair (.sl (.sl .bool)) (.pair (.sl (.sl I)) (.pair (.sl (.sl I)) .unit))))) .i])]
theorem run_zz56 (N : Nat) (x : (S_zz56).a.den) : runF (A_zz56) N Tryz.f18 S_zz56 x = zz56 x.1 := by kernel_rfl
theorem fn_zz56 : FnOk Tryz.prog 18 := ⟨_, Tryz.func18, by kernel_rfl, by kernel_rfl⟩
theorem good_zz56 : Gx.Good Tryz.prog 18 S_zz56 := good_of_run Tryz.func18 (of_decide_eq_true (by kernel_rfl)) fun x r h => ⟨A_zz56, big, mkCfg_ok tabOk, mkCfg_sigs (show SigsOk Tryz.prog [(35, S_zz55)] from ⟨⟨fn_zz55, good_zz55⟩, trivial⟩), (run_zz56 big x).trans h⟩

/-! zz57 -/
def zz57_b3 (rec : Int → Y4 → Int → Z1) (k : Y4 → Z1) (mask0 : Int) (list3 : Y4) (x4 : Int) : Z1 :=
  (shrI IntKind.i64 mask0 x4).bind fun xq1 =>
  cond (decide ((0 : Int) < xq1))
  ((shrI IntKind.i64 mask0 x4).bind fun xq2 =>
  cond (decide ((bitI .and IntKind.i64 xq2 (1 : Int)) = (1 : Int)))
  ((appI list3 [x4]).bind fun xq3 =>
  rec mask0 xq3 (IntKind.i64.wrap (x4 + (1 : Int))))
  (rec mask0 list3 (IntKind.i64.wrap (x4 + (1 : Int)))))
  (k list3)
def zz57_a3 (list3 : Y4) : Z1 :=
  some (list3, (()))
def zz57_s (L3 : Int → Y4 → Int → Z1) (mask_0 : Int) : Z1 :=
  L3 mask_0 [] (0 : Int)
def zz57_l3 (N : Nat) (k : Y4 → Z1) : Nat → Int → Y4 → Int → Z1
  | 0, _, _, _ => none
  | m + 1, mask0, list3, x4 => zz57_b3 (zz57_l3 N k m) k mask0 list3 x4
def zz57_F3 (N : Nat) (mask0 : Int) (list3 : Y4) (x4 : Int) : Z1 := zz57_l3 N (zz57_a3) N mask0 list3 x4
def zz57 (N : Nat) (mask_0 : Int) : Z1 := zz57_s (zz57_F3 N) mask_0
def S_zz57 : Sig := { a := (.pair I .unit), md := [0], mf := [], m := .unit, r := (.sl I), rf := (.o .i), f := fun x => zz57 big x.1 }
def A_zz57 : Cfg := mkCfg tab [] [(6, [.as I .i, .drop, .drop, .as (.sl I) (.o .i), .as I .i]), (15, [.drop, .drop, .drop, .as (.sl I) (.o .i)])]
noncomputable def zz57_R3 (N n : Nat) (K : Ex → St → Z1) (mask0 : Int) (list3 : Y4) (x4 : Int) : Z1 := iter ((A_zz57).shape 6) (run (A_zz57) N (codeAt Tryz.f20 [1, 1, 0, 1, 0, 0])) n ([.val I .i mask0, .u, .u, .val (.sl I) (.o .i) list3, .val I .i x4] ++ List.replicate 17 .u) K
noncomputable abbrev zz57_z : Ex → St → Z1 := finish (A_zz57) S_zz57 Tryz.f20.results.toList
noncomputable abbrev zz57_X3 (kX : St → Z1) : Y4 → Z1 := fun (list3 : Y4) => kX ([.u, .u, .u, .val (.sl I) (.o .i) list3] ++ List.replicate 18 .u)
noncomputable abbrev zz57_E3 (kX : St → Z1) (kO : Nat → St → Z1) : Ex → St → Z1 := exK zz57_z 0 ((A_zz57).shape 15) kX kO
theorem zz57_step3 (N m : Nat) (kX : St → Z1) (kO : Nat → St → Z1) (mask0 : Int) (list3 : Y4) (x4 : Int) : zz57_R3 N (m + 1) (zz57_E3 kX kO) mask0 list3 x4 = zz57_b3 (zz57_R3 N m (zz57_E3 kX kO)) (zz57_X3 kX) mask0 list3 x4 := by kernel_rfl
theorem zz57_iter3 (N : Nat) (kX : St → Z1) (kO : Nat → St → Z1) : ∀ (n : Nat) (mask0 : Int) (list3 : Y4) (x4 : Int), zz57_R3 N n (zz57_E3 kX kO) mask0 list3 x4 = zz57_l3 N (zz57_X3 kX) n mask0 list3 x4
  | 0, _, _, _ => rfl
  | m + 1, mask0, list3, x4 => by
    have hrec : zz57_R3 N m (zz57_E3 kX kO) = (zz57_l3 N (zz57_X3 kX) m) := (funext fun mask0 => (funext fun list3 => (funext fun x4 => zz57_iter3 N kX kO m mask0 list3 x4)))
    refine (zz57_step3 N m kX kO mask0 list3 x4).trans ?_
    rw [hrec]
    rfl
noncomputable abbrev zz57_K3 (N : Nat) : Ex → St → Z1 := (blockK 0 (seqK ((A_zz57).shape 15) (run (A_zz57) N (codeAt Tryz.f20 [1, 1, 1])) zz57_z))
noncomputable abbrev zz57_k3 (N : Nat) : St → Z1 := fun st' => run (A_zz57) N (codeAt Tryz.f20 [1, 1, 1]) st' zz57_z
theorem zz57_after3 (N : Nat) (list3 : Y4) : zz57_X3 (zz57_k3 N) list3 = zz57_a3 list3 := by kernel_rfl
theorem zz57_in3 (N : Nat) (mask0 : Int) (list3 : Y4) (x4 : Int) : zz57_R3 N N (zz57_K3 N) mask0 list3 x4 = zz57_F3 N mask0 list3 x4 :=
  have h : zz57_X3 (zz57_k3 N) = (zz57_a3) := (funext fun list3 => zz57_after3 N list3)
  ((iter_ex (fun st => by kernel_rfl) (fun st => by kernel_rfl)).trans (zz57_iter3 N (zz57_k3 N) (fun j st => (zz57_K3 N) (.exit j) st) N mask0 list3 x4)).trans (congrArg (fun k => zz57_l3 N k N mask0 list3 x4) h)
theorem run0_zz57 (N : Nat) (x : (S_zz57).a.den) : runF (A_zz57) N Tryz.f20 S_zz57 x = (zz57_s (zz57_R3 N N (zz57_K3 N)) x.1) := by kernel_rfl
theorem run_zz57 (N : Nat) (x : (S_zz57).a.den) : runF (A_zz57) N Tryz.f20 S_zz57 x = zz57 N x.1 := by
  refine (run0_zz57 N x).trans ?_
  rw [(funext fun mask0 => (funext fun list3 => (funext fun x4 => zz57_in3 N mask0 list3 x4)))]
  rfl
theorem fn_zz57 : FnOk Tryz.prog 20 := ⟨_, Tryz.func20, by kernel_rfl, by kernel_rfl⟩
theorem good_zz57 : Gx.Good Tryz.prog 20 S_zz57 := good_of_run Tryz.func20 (of_decide_eq_true (by kernel_rfl)) fun x r h => ⟨A_zz57, big, mkCfg_ok tabOk, mkCfg_sigs (show SigsOk Tryz.prog [] from trivial), (run_zz57 big x).trans h⟩

/-! zz58 -/
def zz58_b3 (rec : Y4 → Y4 → Y4 → Int → Int → Z1) (k : Y4 → Z1) (g1 h5 t11 : Y4) (t12 t13 : Int) : Z1 :=
  cond (decide (t13 < t12))
  ((atI t11 t13).bind fun xq3 =>
  (atI g1 xq3).bind fun xq4 =>
  (atI h5 t13).bind fun _ =>
  (h5[t13.toNat]?).bind fun xq5 =>
  rec g1 (h5.set t13.toNat xq4) t11 t12 (IntKind.i64.wrap (t13 + (1 : Int))))
  (k h5)
def zz58_a3 (h5 : Y4) : Z1 :=
  some (h5, (()))
def zz58_s (L3 : Y4 → Y4 → Y4 → Int → Int → Z1) (f_0 g_1 : Y4) : Z1 :=
  (mkI (0 : Int) (f_0.length : Int)).bind fun xq1 => (mkI (0 : Int) (f_0.length : Int)).bind fun xq2 => cond (decide ((f_0.length : Int) ≤ (f_0.length : Int)))
  (L3 g_1 xq2 f_0 (f_0.length : Int) (0 : Int))
  none
def zz58_l3 (N : Nat) (k : Y4 → Z1) : Nat → Y4 → Y4 → Y4 → Int → Int → Z1
  | 0, _, _, _, _, _ => none
  | m + 1, g1, h5, t11, t12, t13 => zz58_b3 (zz58_l3 N k m) k g1 h5 t11 t12 t13
def zz58_F3 (N : Nat) (g1 h5 t11 : Y4) (t12 t13 : Int) : Z1 := zz58_l3 N (zz58_a3) N g1 h5 t11 t12 t13
def zz58 (N : Nat) (f_0 g_1 : Y4) : Z1 := zz58_s (zz58_F3 N) f_0 g_1
def S_zz58 : Sig := { a := (.pair (.sl I) (.pair (.sl I) .unit)), md := [0, 0], mf := [], m := .unit, r := (.sl I), rf := (.o .i), f := fun x => zz58 big x.1 x.2.1 }
def A_zz58 : Cfg := mkCfg tab [] [(6, [.drop, .as (.sl I) .i, .drop, .drop, .drop, .as (.sl I) (.o .i), .drop, .drop, .drop, .drop, .drop, .as (.sl I) .i, .as I .i, .as I .i]), (15, [.drop, .drop, .drop, .drop, .drop, .as (.sl I) (.o .i)])]
noncomputable def zz58_R3 (N n : Nat) (K : Ex → St → Z1) (g1 h5 t11 : Y4) (t12 t13 : Int) : Z1 := iter ((A_zz58).shape 6) (run (A_zz58) N (codeAt Tryz.f19 [1, 1, 0, 1, 0, 0])) n ([.u, .val (.sl I) .i g1, .u, .u, .u, .val (.sl I) (.o .i) h5, .u, .u, .u, .u, .u, .val (.sl I) .i t11, .val I .i t12, .val I .i t13] ++ List.replicate 13 .u) K
noncomputable abbrev zz58_z : Ex → St → Z1 := finish (A_zz58) S_zz58 Tryz.f19.results.toList
noncomputable abbrev zz58_X3 (kX : St → Z1) : Y4 → Z1 := fun (h5 : Y4) => kX ([.u, .u, .u, .u, .u, .val (.sl I) (.o .i) h5] ++ List.replicate 21 .u)
noncomputable abbrev zz58_E3 (kX : St → Z1) (kO : Nat → St → Z1) : Ex → St → Z1 := exK zz58_z 0 ((A_zz58).shape 15) kX kO
theorem zz58_step3 (N m : Nat) (kX : St → Z1) (kO : Nat → St → Z1) (g1 h5 t11 : Y4) (t12 t13 : Int) : zz58_R3 N (m + 1) (zz58_E3 kX kO) g1 h5 t11 t12 t13 = zz58_b3 (zz58_R3 N m (zz58_E3 kX kO)) (zz58_X3 kX) g1 h5 t11 t12 t13 := by kernel_rfl
theorem zz58_iter3 (N : Nat) (kX : St → Z1) (kO : Nat → St → Z1) : ∀ (n : Nat) (g1 h5 t11 : Y4) (t12 t13 : Int), zz58_R3 N n (zz58_E3 kX kO) g1 h5 t11 t12 t13 = zz58_l3 N (zz58_X3 kX) n g1 h5 t11 t12 t13
  | 0, _, _, _, _, _ => rfl
  | m + 1, g1, h5, t11, t12, t13 => by
    have hrec : zz58_R3 N m (zz58_E3 kX kO) = (zz58_l3 N (zz58_X3 kX) m) := (funext fun g1 => (funext fun h5 => (funext fun t11 => (funext fun t12 => (funext fun t13 => zz58_iter3 N kX kO m g1 h5 t11 t12 t13)))))
    refine (zz58_step3 N m kX kO g1 h5 t11 t12 t13).trans ?_
    rw [hrec]
    rfl
noncomputable abbrev zz58_K3 (N : Nat) : Ex → St → Z1 := (blockK 0 (seqK ((A_zz58).shape 15) (run (A_zz58) N (codeAt Tryz.f19 [1, 1, 1])) zz58_z))
noncomputable abbrev zz58_k3 (N : Nat) : St → Z1 := fun st' => run (A_zz58) N (codeAt Tryz.f19 [1, 1, 1]) st' zz58_z
theorem zz58_after3 (N : Nat) (h5 : Y4) : zz58_X3 (zz58_k3 N) h5 = zz58_a3 h5 := by kernel_rfl
theorem zz58_in3 (N : Nat) (g1 h5 t11 : Y4) (t12 t13 : Int) : zz58_R3 N N (zz58_K3 N) g1 h5 t11 t12 t13 = zz58_F3 N g1 h5 t11 t12 t13 :=
  have h : zz58_X3 (zz58_k3 N) = (zz58_a3) := (funext fun h5 => zz58_after3 N h5)
  ((iter_ex (fun st => by kernel_rfl) (fun st => by kernel_rfl)).trans (zz58_iter3 N (zz58_k3 N) (fun j st => (zz58_K3 N) (.exit j) st) N g1 h5 t11 t12 t13)).trans (congrArg (fun k => zz58_l3 N k N g1 h5 t11 t12 t13) h)
theorem run0_zz58 (N : Nat) (x : (S_zz58).a.den) : runF (A_zz58) N Tryz.f19 S_zz58 x = (zz58_s (zz58_R3 N N (zz58_K3 N)) x.1 x.2.1) := by kernel_rfl
theorem run_zz58 (N : Nat) (x : (S_zz58).a.den) : runF (A_zz58) N Tryz.f19 S_zz58 x = zz58 N x.1 x.2.1 := by
  refine (run0_zz58 N x).trans ?_
  rw [(funext fun g1 => (funext fun h5 => (funext fun t11 => (funext fun t12 => (funext fun t13 => zz58_in3 N g1 h5 t11 t12 t13)))))]
  rfl
theorem fn_zz58 : FnOk Tryz.prog 19 := ⟨_, Tryz.func19, by kernel_rfl, by kernel_rfl⟩
theorem good_zz58 : Gx.Good Tryz.prog 19 S_zz58 := good_of_run Tryz.func19 (of_decide_eq_true (by kernel_rfl)) fun x r h => ⟨A_zz58, big, mkCfg_ok tabOk, mkCfg_sigs (show SigsOk Tryz.prog [] from trivial), (run_zz58 big x).trans h⟩

/-! zz59 -/
def zz59_s (o_0 : Y5) (list_1 : Y4) : Z0 :=
  (zz39 big list_1 (o_0.length : Int)).bind fun rq1 =>
  some (rq1.1, (()))
def zz59 (o_0 : Y5) (list_1 : Y4) : Z0 := zz59_s o_0 list_1
def S_zz59 : Sig := { a := (.pair (.sl (.sl .bool)) (.pair (.sl I) .unit)), md := [0, 0], mf := [], m := .unit, r := .bool, rf := .i, f := fun x => zz59 x.1 x.2.1 }
def A_zz59 : Cfg := mkCfg tab [(75, S_zz39)] []
theorem run_zz59 (N : Nat) (x : (S_zz59).a.den) : runF (A_zz59) N Tryz.f60 S_zz59 x = zz59 x.1 x.2.1 := by kernel_rfl
theorem fn_zz59 : FnOk Tryz.prog 60 := ⟨_, Tryz.func60, by kernel_rfl, by kernel_rfl⟩
theorem good_zz59 : Gx.Good Tryz.prog 60 S_zz59 := good_of_run Tryz.func60 (of_decide_eq_true (by kernel_rfl)) fun x r h => ⟨A_zz59, big, mkCfg_ok tabOk, mkCfg_sigs (show SigsOk Tryz.prog [(75, S_zz39)] from ⟨⟨fn_zz39, good_zz39⟩, trivial⟩), (run_zz59 big x).trans h⟩

/-! zz60 -/
def zz60_s (l_0 : Y1) (j_1 : Int) : Z0 :=
  (l_0).bind fun xq1 =>
  (zz59 xq1.1 [j_1]).bind fun rq2 =>
  cond rq2.1
  ((l_0).bind fun xq3 =>
  (zz53 xq3.1 j_1).bind fun rq4 =>
  some (decide ((rq4.1.length : Int) = (1 : Int)), (())))
  (some (false, (())))
def zz60 (l_0 : Y1) (j_1 : Int) : Z0 := zz60_s l_0 j_1
def S_zz60 : Sig := { a := (.pair (.opt (.pair (.sl (.sl .bool)) (.pair (.sl (.sl I)) (.pair (.sl (.sl I)) .unit)))) (.pair I .unit)), md := [0, 0], mf := [], m := .unit, r := .bool, rf := .i, f := fun x => zz60 x.1 x.2.1 }
def A_zz60 : Cfg := mkCfg tab [(60, S_zz59), (37, S_zz53)] []
theorem run_zz60 (N : Nat) (x : (S_zz60).a.den) : runF (A_zz60) N Tryz.f38 S_zz60 x = zz60 x.1 x.2.1 := by kernel_rfl
theorem fn_zz60 : FnOk Tryz.prog 38 := ⟨_, Tryz.func38, by kernel_rfl, by kernel_rfl⟩
theorem good_zz60 : Gx.Good Tryz.prog 38 S_zz60 := good_of_run Tryz.func38 (of_decide_eq_true (by kernel_rfl)) fun x r h => ⟨A_zz60, big, mkCfg_ok tabOk, mkCfg_sigs (show SigsOk Tryz.prog [(60, S_zz59), (37, S_zz53)] from ⟨⟨fn_zz59, good_zz59⟩, ⟨fn_zz53, good_zz53⟩, trivial⟩), (run_zz60 big x).trans h⟩

/-! zz61 -/
def zz61_s (l_0 : Y1) (j_1 : Int) : Z2 :=
  (l_0).bind fun xq1 =>
  (zz53 xq1.1 j_1).bind fun rq2 =>
  (atI rq2.1 (0 : Int)).bind fun _ =>
  (rq2.1[(0 : Int).toNat]?).bind fun xq3 =>
  some (xq3, (()))
def zz61 (l_0 : Y1) (j_1 : Int) : Z2 := zz61_s l_0 j_1
def S_zz61 : Sig := { a := (.pair (.opt (.pair (.sl (.sl .bool)) (.pair (.sl (.sl I)) (.pair (.sl (.sl I)) .unit)))) (.pair I .unit)), md := [0, 0], mf := [], m := .unit, r := I, rf := .i, f := fun x => zz61 x.1 x.2.1 }
def A_zz61 : Cfg := mkCfg tab [(37, S_zz53)] []
theorem run_zz61 (N : Nat) (x : (S_zz61).a.den) : runF (A_zz61) N Tryz.f80 S_zz61 x = zz61 x.1 x.2.1 := by kernel_rfl
theorem fn_zz61 : FnOk Tryz.prog 80 := ⟨_, Tryz.func80, by kernel_rfl, by kernel_rfl⟩
theorem good_zz61 : Gx.Good Tryz.prog 80 S_zz61 := good_of_run Tryz.func80 (of_decide_eq_true (by kernel_rfl)) fun x r h => ⟨A_zz61, big, mkCfg_ok tabOk, mkCfg_sigs (show SigsOk Tryz.prog [(37, S_zz53)] from ⟨⟨fn_zz53, good_zz53⟩, trivial⟩), (run_zz61 big x).trans h⟩

/-! zz62 -/
def zz62_b3 (rec : Y6 → Y6 → Y3 → Int → Int → Z10) (k : Y6 → Y6 → Z10) (t2 f3 : Y6) (t7 : Y3) (t8 t9 : Int) : Z10 :=
  cond (decide (t9 < t8))
  ((atI t7 t9).bind fun xq1 =>
  (appI f3.2.1 xq1).bind fun xq2 =>
  rec t2 ((f3.1, ((), f3.2.2)).1, (xq2, ((f3.1, ((), f3.2.2)).2).2)) t7 t8 (IntKind.i64.wrap (t9 + (1 : Int))))
  (k t2 f3)
def zz62_a3 (t2 f3 : Y6) : Z10 :=
  some (f3, (()))
def zz62_s (L3 : Y6 → Y6 → Y3 → Int → Int → Z10) (table_0 : Y3) : Z10 :=
  L3 ((0 : Int), (([] : Y4), ())) ((2 : Int), (([] : Y4), ())) table_0 (table_0.length : Int) (0 : Int)
def zz62_l3 (N : Nat) (k : Y6 → Y6 → Z10) : Nat → Y6 → Y6 → Y3 → Int → Int → Z10
  | 0, _, _, _, _, _ => none
  | m + 1, t2, f3, t7, t8, t9 => zz62_b3 (zz62_l3 N k m) k t2 f3 t7 t8 t9
def zz62_F3 (N : Nat) (t2 f3 : Y6) (t7 : Y3) (t8 t9 : Int) : Z10 := zz62_l3 N (zz62_a3) N t2 f3 t7 t8 t9
def zz62 (N : Nat) (table_0 : Y3) : Z10 := zz62_s (zz62_F3 N) table_0
def S_zz62 : Sig := { a := (.pair (.sl (.sl I)) .unit), md := [0], mf := [], m := .unit, r := (.pair I (.pair (.sl I) .unit)), rf := (.p .i (.p (.o .i) .i)), f := fun x => zz62 big x.1 }
def A_zz62 : Cfg := mkCfg tab [] [(6, [.drop, .drop, .as (.ptr (.pair I (.pair (.sl I) .unit))) (.o (.p .i (.p (.o .i) .i))), .as (.ptr (.pair I (.pair (.sl I) .unit))) (.o (.p .i (.p (.o .i) .i))), .drop, .drop, .drop, .as (.sl (.sl I)) .i, .as I .i, .as I .i]), (15, [.drop, .drop, .as (.ptr (.pair I (.pair (.sl I) .unit))) (.o (.p .i (.p (.o .i) .i))), .as (.ptr (.pair I (.pair (.sl I) .unit))) (.o (.p .i (.p (.o .i) .i)))])]
noncomputable def zz62_R3 (N n : Nat) (K : Ex → St → Z10) (t2 f3 : Y6) (t7 : Y3) (t8 t9 : Int) : Z10 := iter ((A_zz62).shape 6) (run (A_zz62) N (codeAt Tryz.f101 [1, 1, 0, 1, 0, 0])) n ([.u, .u, .val (.ptr (.pair I (.pair (.sl I) .unit))) (.o (.p .i (.p (.o .i) .i))) t2, .val (.ptr (.pair I (.pair (.sl I) .unit))) (.o (.p .i (.p (.o .i) .i))) f3, .u, .u, .u, .val (.sl (.sl I)) .i t7, .val I .i t8, .val I .i t9] ++ List.replicate 10 .u) K
noncomputable abbrev zz62_z : Ex → St → Z10 := finish (A_zz62) S_zz62 Tryz.f101.results.toList
noncomputable abbrev zz62_X3 (kX : St → Z10) : Y6 → Y6 → Z10 := fun (t2 f3 : Y6) => kX ([.u, .u, .val (.ptr (.pair I (.pair (.sl I) .unit))) (.o (.p .i (.p (.o .i) .i))) t2, .val (.ptr (.pair I (.pair (.sl I) .unit))) (.o (.p .i (.p (.o .i) .i))) f3] ++ List.replicate 16 .u)
noncomputable abbrev zz62_E3 (kX : St → Z10) (kO : Nat → St → Z10) : Ex → St → Z10 := exK zz62_z 0 ((A_zz62).shape 15) kX kO
theorem zz62_step3 (N m : Nat) (kX : St → Z10) (kO : Nat → St → Z10) (t2 f3 : Y6) (t7 : Y3) (t8 t9 : Int) : zz62_R3 N (m + 1) (zz62_E3 kX kO) t2 f3 t7 t8 t9 = zz62_b3 (zz62_R3 N m (zz62_E3 kX kO)) (zz62_X3 kX) t2 f3 t7 t8 t9 := by kernel_rfl
theorem zz62_iter3 (N : Nat) (kX : St → Z10) (kO : Nat → St → Z10) : ∀ (n : Nat) (t2 f3 : Y6) (t7 : Y3) (t8 t9 : Int), zz62_R3 N n (zz62_E3 kX kO) t2 f3 t7 t8 t9 = zz62_l3 N (zz62_X3 kX) n t2 f3 t7 t8 t9
  | 0, _, _, _, _, _ => rfl
  | m + 1, t2, f3, t7, t8, t9 => by
    have hrec : zz62_R3 N m (zz62_E3 kX kO) = (zz62_l3 N (zz62_X3 kX) m) := (funext fun t2 => (funext fun f3 => (funext fun t7 => (funext fun t8 => (funext fun t9 => zz62_iter3 N kX kO m t2 f3 t7 t8 t9)))))
    refine (zz62_step3 N m kX kO t2 f3 t7 t8 t9).trans ?_
    rw [hrec]
    rfl
noncomputable abbrev zz62_K3 (N : Nat) : Ex → St → Z10 := (blockK 0 (seqK ((A_zz62).shape 15) (run (A_zz62) N (codeAt Tryz.f101 [1, 1, 1])) zz62_z))
noncomputable abbrev zz62_k3 (N : Nat) : St → Z10 := fun st' => run (A_zz62) N (codeAt Tryz.f101 [1, 1, 1]) st' zz62_z
theorem zz62_after3 (N : Nat) (t2 f3 : Y6) : zz62_X3 (zz62_k3 N) t2 f3 = zz62_a3 t2 f3 := by kernel_rfl
theorem zz62_in3 (N : Nat) (t2 f3 : Y6) (t7 : Y3) (t8 t9 : Int) : zz62_R3 N N (zz62_K3 N) t2 f3 t7 t8 t9 = zz62_F3 N t2 f3 t7 t8 t9 :=
  have h : zz62_X3 (zz62_k3 N) = (zz62_a3) := (funext fun t2 => (funext fun f3 => zz62_after3 N t2 f3))
  ((iter_ex (fun st => by kernel_rfl) (fun st => by kernel_rfl)).trans (zz62_iter3 N (zz62_k3 N) (fun j st => (zz62_K3 N) (.exit j) st) N t2 f3 t7 t8 t9)).trans (congrArg (fun k => zz62_l3 N k N t2 f3 t7 t8 t9) h)
theorem run0_zz62 (N : Nat) (x : (S_zz62).a.den) : runF (A_zz62) N Tryz.f101 S_zz62 x = (zz62_s (zz62_R3 N N (zz62_K3 N)) x.1) := by kernel_rfl
theorem run_zz62 (N : Nat) (x : (S_zz62).a.den) : runF (A_zz62) N Tryz.f101 S_zz62 x = zz62 N x.1 := by
  refine (run0_zz62 N x).trans ?_
  rw [(funext fun t2 => (funext fun f3 => (funext fun t7 => (funext fun t8 => (funext fun t9 => zz62_in3 N t2 f3 t7 t8 t9)))))]
  rfl
theorem fn_zz62 : FnOk Tryz.prog 101 := ⟨_, Tryz.func101, by kernel_rfl, by kernel_rfl⟩
theorem good_zz62 : Gx.Good Tryz.prog 101 S_zz62 := good_of_run Tryz.func101 (of_decide_eq_true (by kernel_rfl)) fun x r h => ⟨A_zz62, big, mkCfg_ok tabOk, mkCfg_sigs (show SigsOk Tryz.prog [] from trivial), (run_zz62 big x).trans h⟩

/-! zz63 -/
def zz63_s (l_0 : Y1) : Z7 :=
  (l_0).bind fun xq1 =>
  (l_0).bind fun xq2 =>
  (zz62 big xq2.2.1).bind fun rq3 =>
  (l_0).bind fun xq4 =>
  (zz62 big xq4.2.2.1).bind fun rq5 =>
  some (((xq1.1.length : Int), ([rq3.1, rq5.1], ())), (()))
def zz63 (l_0 : Y1) : Z7 := zz63_s l_0
def S_zz63 : Sig := { a := (.pair (.opt (.pair (.sl (.sl .bool)) (.pair (.sl (.sl I)) (.pair (.sl (.sl I)) .unit)))) .unit), md := [0], mf := [], m := .unit, r := (.pair I (.pair (.sl (.pair I (.pair (.sl I) .unit))) .unit)), rf := (.p .i (.p (.o (.p .i (.p (.o .i) .i))) .i)), f := fun x => zz63 x.1 }
def A_zz63 : Cfg := mkCfg tab [(101, S_zz62)] []
theorem run_zz63 (N : Nat) (x : (S_zz63).a.den) : runF (A_zz63) N Tryz.f82 S_zz63 x = zz63 x.1 := by kernel_rfl
theorem fn_zz63 : FnOk Tryz.prog 82 := ⟨_, Tryz.func82, by kernel_rfl, by kernel_rfl⟩
theorem good_zz63 : Gx.Good Tryz.prog 82 S_zz63 := good_of_run Tryz.func82 (of_decide_eq_true (by kernel_rfl)) fun x r h => ⟨A_zz63, big, mkCfg_ok tabOk, mkCfg_sigs (show SigsOk Tryz.prog [(101, S_zz62)] from ⟨⟨fn_zz62, good_zz62⟩, trivial⟩), (run_zz63 big x).trans h⟩

/-! zz64 -/
def zz64_b3 (rec : Y4 → Int → Int → Z1) (k : Y4 → Z1) (p3 : Y4) (t8 t9 : Int) : Z1 :=
  cond (decide (t9 < t8))
  ((atI p3 t9).bind fun _ =>
  (p3[t9.toNat]?).bind fun xq3 =>
  rec (p3.set t9.toNat t9) t8 (IntKind.i64.wrap (t9 + (1 : Int))))
  (k p3)
def zz64_a3 (p3 : Y4) : Z1 :=
  some (p3, (()))
def zz64_s (L3 : Y4 → Int → Int → Z1) (n_0 : Int) : Z1 :=
  (mkI (0 : Int) n_0).bind fun xq1 => (mkI (0 : Int) n_0).bind fun xq2 => cond (decide (n_0 ≤ n_0))
  (L3 xq2 (xq2.length : Int) (0 : Int))
  none
def zz64_l3 (N : Nat) (k : Y4 → Z1) : Nat → Y4 → Int → Int → Z1
  | 0, _, _, _ => none
  | m + 1, p3, t8, t9 => zz64_b3 (zz64_l3 N k m) k p3 t8 t9
def zz64_F3 (N : Nat) (p3 : Y4) (t8 t9 : Int) : Z1 := zz64_l3 N (zz64_a3) N p3 t8 t9
def zz64 (N : Nat) (n_0 : Int) : Z1 := zz64_s (zz64_F3 N) n_0
def S_zz64 : Sig := { a := (.pair I .unit), md := [0], mf := [], m := .unit, r := (.sl I), rf := (.o .i), f := fun x => zz64 big x.1 }
def A_zz64 : Cfg := mkCfg tab [] [(6, [.drop, .drop, .drop, .as (.sl I) (.o .i), .drop, .drop, .drop, .drop, .as I .i, .as I .i]), (15, [.drop, .drop, .drop, .as (.sl I) (.o .i)])]
noncomputable def zz64_R3 (N n : Nat) (K : Ex → St → Z1) (p3 : Y4) (t8 t9 : Int) : Z1 := iter ((A_zz64).shape 6) (run (A_zz64) N (codeAt Tryz.f98 [1, 1, 0, 1, 0, 0])) n ([.u, .u, .u, .val (.sl I) (.o .i) p3, .u, .u, .u, .u, .val I .i t8, .val I .i t9] ++ List.replicate 8 .u) K
noncomputable abbrev zz64_z : Ex → St → Z1 := finish (A_zz64) S_zz64 Tryz.f98.results.toList
noncomputable abbrev zz64_X3 (kX : St → Z1) : Y4 → Z1 := fun (p3 : Y4) => kX ([.u, .u, .u, .val (.sl I) (.o .i) p3] ++ List.replicate 14 .u)
noncomputable abbrev zz64_E3 (kX : St → Z1) (kO : Nat → St → Z1) : Ex → St → Z1 := exK zz64_z 0 ((A_zz64).shape 15) kX kO
theorem zz64_step3 (N m : Nat) (kX : St → Z1) (kO : Nat → St → Z1) (p3 : Y4) (t8 t9 : Int) : zz64_R3 N (m + 1) (zz64_E3 kX kO) p3 t8 t9 = zz64_b3 (zz64_R3 N m (zz64_E3 kX kO)) (zz64_X3 kX) p3 t8 t9 := by kernel_rfl
theorem zz64_iter3 (N : Nat) (kX : St → Z1) (kO : Nat → St → Z1) : ∀ (n : Nat) (p3 : Y4) (t8 t9 : Int), zz64_R3 N n (zz64_E3 kX kO) p3 t8 t9 = zz64_l3 N (zz64_X3 kX) n p3 t8 t9
  | 0, _, _, _ => rfl
  | m + 1, p3, t8, t9 => by
    have hrec : zz64_R3 N m (zz64_E3 kX kO) = (zz64_l3 N (zz64_X3 kX) m) := (funext fun p3 => (funext fun t8 => (funext fun t9 => zz64_iter3 N kX kO m p3 t8 t9)))
    refine (zz64_step3 N m kX kO p3 t8 t9).trans ?_
    rw [hrec]
    rfl
noncomputable abbrev zz64_K3 (N : Nat) : Ex → St → Z1 := (blockK 0 (seqK ((A_zz64).shape 15) (run (A_zz64) N (codeAt Tryz.f98 [1, 1, 1])) zz64_z))
noncomputable abbrev zz64_k3 (N : Nat) : St → Z1 := fun st' => run (A_zz64) N (codeAt Tryz.f98 [1, 1, 1]) st' zz64_z
theorem zz64_after3 (N : Nat) (p3 : Y4) : zz64_X3 (zz64_k3 N) p3 = zz64_a3 p3 := by kernel_rfl
theorem zz64_in3 (N : Nat) (p3 : Y4) (t8 t9 : Int) : zz64_R3 N N (zz64_K3 N) p3 t8 t9 = zz64_F3 N p3 t8 t9 :=
  have h : zz64_X3 (zz64_k3 N) = (zz64_a3) := (funext fun p3 => zz64_after3 N p3)
  ((iter_ex (fun st => by kernel_rfl) (fun st => by kernel_rfl)).trans (zz64_iter3 N (zz64_k3 N) (fun j st => (zz64_K3 N) (.exit j) st) N p3 t8 t9)).trans (congrArg (fun k => zz64_l3 N k N p3 t8 t9) h)
theorem run0_zz64 (N : Nat) (x : (S_zz64).a.den) : runF (A_zz64) N Tryz.f98 S_zz64 x = (zz64_s (zz64_R3 N N (zz64_K3 N)) x.1) := by kernel_rfl
theorem run_zz64 (N : Nat) (x : (S_zz64).a.den) : runF (A_zz64) N Tryz.f98 S_zz64 x = zz64 N x.1 := by
  refine (run0_zz64 N x).trans ?_
  rw [(funext fun p3 => (funext fun t8 => (funext fun t9 => zz64_in3 N p3 t8 t9)))]
  rfl
theorem fn_zz64 : FnOk Tryz.prog 98 := ⟨_, Tryz.func98, by kernel_rfl, by kernel_rfl⟩
theorem good_zz64 : Gx.Good Tryz.prog 98 S_zz64 := good_of_run Tryz.func98 (of_decide_eq_true (by kernel_rfl)) fun x r h => ⟨A_zz64, big, mkCfg_ok tabOk, mkCfg_sigs (show SigsOk Tryz.prog [] from trivial), (run_zz64 big x).trans h⟩

/-! zz65 -/
def zz65_b7 (rec : Y4 → Int → Int → Int → Int → Z3) (k : Y4 → Z3) (p0 : Y4) (x1 y2 t25 t26 : Int) : Z3 :=
  cond (decide (t26 < t25))
  ((atI p0 t26).bind fun _ =>
  (p0[t26.toNat]?).bind fun xq3 =>
  cond (decide (xq3 = y2))
  ((atI p0 t26).bind fun _ =>
  (p0[t26.toNat]?).bind fun xq4 =>
  rec (p0.set t26.toNat x1) x1 y2 t25 (IntKind.i64.wrap (t26 + (1 : Int))))
  (rec p0 x1 y2 t25 (IntKind.i64.wrap (t26 + (1 : Int)))))
  (k p0)
def zz65_a7 (p0 : Y4) : Z3 :=
  some (true, (p0, ()))
def zz65_s (L7 : Y4 → Int → Int → Int → Int → Z3) (p_0 : Y4) (x_1 y_2 : Int) : Z3 :=
  (atI p_0 x_1).bind fun _ =>
  (p_0[x_1.toNat]?).bind fun xq1 =>
  (atI p_0 y_2).bind fun _ =>
  (p_0[y_2.toNat]?).bind fun xq2 =>
  cond (decide (xq1 = xq2))
  (some (false, (p_0, ())))
  (cond (decide (xq2 < xq1))
  (L7 p_0 xq2 xq1 (p_0.length : Int) (0 : Int))
  (L7 p_0 xq1 xq2 (p_0.length : Int) (0 : Int)))
def zz65_l7 (N : Nat) (k : Y4 → Z3) : Nat → Y4 → Int → Int → Int → Int → Z3
  | 0, _, _, _, _, _ => none
  | m + 1, p0, x1, y2, t25, t26 => zz65_b7 (zz65_l7 N k m) k p0 x1 y2 t25 t26
def zz65_F7 (N : Nat) (p0 : Y4) (x1 y2 t25 t26 : Int) : Z3 := zz65_l7 N (zz65_a7) N p0 x1 y2 t25 t26
def zz65 (N : Nat) (p_0 : Y4) (x_1 y_2 : Int) : Z3 := zz65_s (zz65_F7 N) p_0 x_1 y_2
def S_zz65 : Sig := { a := (.pair (.sl I) (.pair I (.pair I .unit))), md := [1, 0, 0], mf := [(.o .i)], m := (.pair (.sl I) .unit), r := .bool, rf := .i, f := fun x => zz65 big x.1 x.2.1 x.2.2.1 }
def A_zz65 : Cfg := mkCfg tab [] [(14, [.as (.sl I) (.o .i), .as I .i, .as I .i, .drop, .drop, .drop, .drop, .drop, .drop, .drop, .drop, .drop, .drop, .drop, .drop, .drop, .drop, .drop, .drop, .drop, .drop, .drop, .drop, .drop, .drop, .as I .i, .as I .i]), (25, [.as (.sl I) (.o .i)])]
noncomputable def zz65_R7 (N n : Nat) (K : Ex → St → Z3) (p0 : Y4) (x1 y2 t25 t26 : Int) : Z3 := iter ((A_zz65).shape 14) (run (A_zz65) N (codeAt Tryz.f99 [1, 1, 1, 1, 0, 1, 0, 0])) n ([.val (.sl I) (.o .i) p0, .val I .i x1, .val I .i y2, .u, .u, .u, .u, .u, .u, .u, .u, .u, .u, .u, .u, .u, .u, .u, .u, .u, .u, .u, .u, .u, .u, .val I .i t25, .val I .i t26] ++ List.replicate 13 .u) K
noncomputable abbrev zz65_z : Ex → St → Z3 := finish (A_zz65) S_zz65 Tryz.f99.results.toList
noncomputable abbrev zz65_X7 (kX : St → Z3) : Y4 → Z3 := fun (p0 : Y4) => kX ([.val (.sl I) (.o .i) p0] ++ List.replicate 39 .u)
noncomputable abbrev zz65_E7 (kX : St → Z3) (kO : Nat → St → Z3) : Ex → St → Z3 := exK zz65_z 0 ((A_zz65).shape 25) kX kO
theorem zz65_step7 (N m : Nat) (kX : St → Z3) (kO : Nat → St → Z3) (p0 : Y4) (x1 y2 t25 t26 : Int) : zz65_R7 N (m + 1) (zz65_E7 kX kO) p0 x1 y2 t25 t26 = zz65_b7 (zz65_R7 N m (zz65_E7 kX kO)) (zz65_X7 kX) p0 x1 y2 t25 t26 := by kernel_rfl
theorem zz65_iter7 (N : Nat) (kX : St → Z3) (kO : Nat → St → Z3) : ∀ (n : Nat) (p0 : Y4) (x1 y2 t25 t26 : Int), zz65_R7 N n (zz65_E7 kX kO) p0 x1 y2 t25 t26 = zz65_l7 N (zz65_X7 kX) n p0 x1 y2 t25 t26
  | 0, _, _, _, _, _ => rfl
  | m + 1, p0, x1, y2, t25, t26 => by
    have hrec : zz65_R7 N m (zz65_E7 kX kO) = (zz65_l7 N (zz65_X7 kX) m) := (funext fun p0 => (funext fun x1 => (funext fun y2 => (funext fun t25 => (funext fun t26 => zz65_iter7 N kX kO m p0 x1 y2 t25 t26)))))
    refine (zz65_step7 N m kX kO p0 x1 y2 t25 t26).trans ?_
    rw [hrec]
    rfl
noncomputable abbrev zz65_K7 (N : Nat) : Ex → St → Z3 := (blockK 0 (seqK ((A_zz65).shape 25) (run (A_zz65) N (codeAt Tryz.f99 [1, 1, 1, 1, 1])) zz65_z))
noncomputable abbrev zz65_k7 (N : Nat) : St → Z3 := fun st' => run (A_zz65) N (codeAt Tryz.f99 [1, 1, 1, 1, 1]) st' zz65_z
theorem zz65_after7 (N : Nat) (p0 : Y4) : zz65_X7 (zz65_k7 N) p0 = zz65_a7 p0 := by kernel_rfl
theorem zz65_in7 (N : Nat) (p0 : Y4) (x1 y2 t25 t26 : Int) : zz65_R7 N N (zz65_K7 N) p0 x1 y2 t25 t26 = zz65_F7 N p0 x1 y2 t25 t26 :=
  have h : zz65_X7 (zz65_k7 N) = (zz65_a7) := (funext fun p0 => zz65_after7 N p0)
  ((iter_ex (fun st => by kernel_rfl) (fun st => by kernel_rfl)).trans (zz65_iter7 N (zz65_k7 N) (fun j st => (zz65_K7 N) (.exit j) st) N p0 x1 y2 t25 t26)).trans (congrArg (fun k => zz65_l7 N k N p0 x1 y2 t25 t26) h)
theorem run0_zz65 (N : Nat) (x : (S_zz65).a.den) : runF (A_zz65) N Tryz.f99 S_zz65 x = (zz65_s (zz65_R7 N N (zz65_K7 N)) x.1 x.2.1 x.2.2.1) := by kernel_rfl
theorem run_zz65 (N : Nat) (x : (S_zz65).a.den) : runF (A_zz65) N Tryz.f99 S_zz65 x = zz65 N x.1 x.2.1 x.2.2.1 := by
  refine (run0_zz65 N x).trans ?_
  rw [(funext fun p0 => (funext fun x1 => (funext fun y2 => (funext fun t25 => (funext fun t26 => zz65_in7 N p0 x1 y2 t25 t26)))))]
  rfl
theorem fn_zz65 : FnOk Tryz.prog 99 := ⟨_, Tryz.func99, by kernel_rfl, by kernel_rfl⟩
theorem good_zz65 : Gx.Good Tryz.prog 99 S_zz65 := good_of_run Tryz.func99 (of_decide_eq_true (by kernel_rfl)) fun x r h => ⟨A_zz65, big, mkCfg_ok tabOk, mkCfg_sigs (show SigsOk Tryz.prog [] from trivial), (run_zz65 big x).trans h⟩

/-! zz66 -/
def zz66_b13 (rec : Y4 → Y7 → Bool → Bool → Y6 → Int → Int → (List Y6) → Int → Int → Y4 → Int → Int → Z3) (k : Y4 → Y7 → Bool → Bool → Y6 → Int → Int → (List Y6) → Int → Int → Z3) (p1 : Y4) (a2 : Y7) (was5 changed6 : Bool) (f8 : Y6) (step9 k10 : Int) (t16 : (List Y6)) (t17 t18 : Int) (t29 : Y4) (t30 t31 : Int) : Z3 :=
  cond (decide (t31 < t30))
  ((atI t29 t31).bind fun xq2 =>
  (quoI IntKind.i64 t31 step9).bind fun xq3 =>
  (remI xq3 a2.1).bind fun xq4 =>
  (atI p1 xq4).bind fun _ =>
  (p1[xq4.toNat]?).bind fun xq5 =>
  (atI f8.2.1 (IntKind.i64.wrap (t31 + (IntKind.i64.wrap ((IntKind.i64.wrap (xq5 - xq4)) * step9))))).bind fun xq6 =>
  (zz65 big p1 xq2 xq6).bind fun rq7 =>
  cond rq7.1
  (rec rq7.2.1 a2 true true f8 step9 k10 t16 t17 t18 t29 t30 (IntKind.i64.wrap (t31 + (1 : Int))))
  (rec rq7.2.1 a2 was5 changed6 f8 step9 k10 t16 t17 t18 t29 t30 (IntKind.i64.wrap (t31 + (1 : Int)))))
  (k p1 a2 was5 changed6 f8 step9 k10 t16 t17 t18)
def zz66_a13 (rec : Y4 → Y7 → Bool → Bool → Y6 → Int → Int → (List Y6) → Int → Int → Z3) (p1 : Y4) (a2 : Y7) (was5 changed6 : Bool) (f8 : Y6) (step9 k10 : Int) (t16 : (List Y6)) (t17 t18 : Int) : Z3 :=
  rec p1 a2 was5 changed6 f8 (IntKind.i64.wrap (step9 * a2.1)) (IntKind.i64.wrap (k10 + (1 : Int))) t16 t17 t18
def zz66_b10 (L13 : Y4 → Y7 → Bool → Bool → Y6 → Int → Int → (List Y6) → Int → Int → Y4 → Int → Int → Z3) (k : Y4 → Y7 → Bool → Bool → (List Y6) → Int → Int → Z3) (p1 : Y4) (a2 : Y7) (was5 changed6 : Bool) (f8 : Y6) (step9 k10 : Int) (t16 : (List Y6)) (t17 t18 : Int) : Z3 :=
  cond (decide (k10 < f8.1))
  (L13 p1 a2 was5 changed6 f8 step9 k10 t16 t17 t18 f8.2.1 (f8.2.1.length : Int) (0 : Int))
  (k p1 a2 was5 changed6 t16 t17 t18)
def zz66_a10 (rec : Y4 → Y7 → Bool → Bool → (List Y6) → Int → Int → Z3) (p1 : Y4) (a2 : Y7) (was5 changed6 : Bool) (t16 : (List Y6)) (t17 t18 : Int) : Z3 :=
  rec p1 a2 was5 changed6 t16 t17 (IntKind.i64.wrap (t18 + (1 : Int)))
def zz66_b6 (L10 : Y4 → Y7 → Bool → Bool → Y6 → Int → Int → (List Y6) → Int → Int → Z3) (k : Y4 → Y7 → Bool → Bool → Z3) (p1 : Y4) (a2 : Y7) (was5 changed6 : Bool) (t16 : (List Y6)) (t17 t18 : Int) : Z3 :=
  cond (decide (t18 < t17))
  ((atI t16 t18).bind fun xq1 =>
  L10 p1 a2 was5 changed6 xq1 (1 : Int) (0 : Int) t16 t17 t18)
  (k p1 a2 was5 changed6)
def zz66_a6 (rec : Y4 → Y7 → Bool → Bool → Z3) (p1 : Y4) (a2 : Y7) (was5 changed6 : Bool) : Z3 :=
  rec p1 a2 was5 changed6
def zz66_b3 (L6 : Y4 → Y7 → Bool → Bool → (List Y6) → Int → Int → Z3) (k : Y4 → Bool → Z3) (p1 : Y4) (a2 : Y7) (was5 changed6 : Bool) : Z3 :=
  cond changed6
  (L6 p1 a2 was5 false a2.2.1 (a2.2.1.length : Int) (0 : Int))
  (k p1 was5)
def zz66_a3 (p1 : Y4) (was5 : Bool) : Z3 :=
  some (was5, (p1, ()))
def zz66_s (L3 : Y4 → Y7 → Bool → Bool → Z3) (a_0 : Y7) (p_1 : Y4) : Z3 :=
  L3 p_1 a_0 false true
def zz66_l13 (N : Nat) (k : Y4 → Y7 → Bool → Bool → Y6 → Int → Int → (List Y6) → Int → Int → Z3) : Nat → Y4 → Y7 → Bool → Bool → Y6 → Int → Int → (List Y6) → Int → Int → Y4 → Int → Int → Z3
  | 0, _, _, _, _, _, _, _, _, _, _, _, _, _ => none
  | m + 1, p1, a2, was5, changed6, f8, step9, k10, t16, t17, t18, t29, t30, t31 => zz66_b13 (zz66_l13 N k m) k p1 a2 was5 changed6 f8 step9 k10 t16 t17 t18 t29 t30 t31
def zz66_F13 (N : Nat) (rec : Y4 → Y7 → Bool → Bool → Y6 → Int → Int → (List Y6) → Int → Int → Z3) (k : Y4 → Y7 → Bool → Bool → (List Y6) → Int → Int → Z3) (p1 : Y4) (a2 : Y7) (was5 changed6 : Bool) (f8 : Y6) (step9 k10 : Int) (t16 : (List Y6)) (t17 t18 : Int) (t29 : Y4) (t30 t31 : Int) : Z3 := zz66_l13 N (zz66_a13 rec) N p1 a2 was5 changed6 f8 step9 k10 t16 t17 t18 t29 t30 t31
def zz66_l10 (N : Nat) (k : Y4 → Y7 → Bool → Bool → (List Y6) → Int → Int → Z3) : Nat → Y4 → Y7 → Bool → Bool → Y6 → Int → Int → (List Y6) → Int → Int → Z3
  | 0, _, _, _, _, _, _, _, _, _, _ => none
  | m + 1, p1, a2, was5, changed6, f8, step9, k10, t16, t17, t18 => zz66_b10 (zz66_F13 N (zz66_l10 N k m) k) k p1 a2 was5 changed6 f8 step9 k10 t16 t17 t18
def zz66_F10 (N : Nat) (rec : Y4 → Y7 → Bool → Bool → (List Y6) → Int → Int → Z3) (k : Y4 → Y7 → Bool → Bool → Z3) (p1 : Y4) (a2 : Y7) (was5 changed6 : Bool) (f8 : Y6) (step9 k10 : Int) (t16 : (List Y6)) (t17 t18 : Int) : Z3 := zz66_l10 N (zz66_a10 rec) N p1 a2 was5 changed6 f8 step9 k10 t16 t17 t18
def zz66_l6 (N : Nat) (k : Y4 → Y7 → Bool → Bool → Z3) : Nat → Y4 → Y7 → Bool → Bool → (List Y6) → Int → Int → Z3
  | 0, _, _, _, _, _, _, _ => none
  | m + 1, p1, a2, was5, changed6, t16, t17, t18 => zz66_b6 (zz66_F10 N (zz66_l6 N k m) k) k p1 a2 was5 changed6 t16 t17 t18
def zz66_F6 (N : Nat) (rec : Y4 → Y7 → Bool → Bool → Z3) (k : Y4 → Bool → Z3) (p1 : Y4) (a2 : Y7) (was5 changed6 : Bool) (t16 : (List Y6)) (t17 t18 : Int) : Z3 := zz66_l6 N (zz66_a6 rec) N p1 a2 was5 changed6 t16 t17 t18
def zz66_l3 (N : Nat) (k : Y4 → Bool → Z3) : Nat → Y4 → Y7 → Bool → Bool → Z3
  | 0, _, _, _, _ => none
  | m + 1, p1, a2, was5, changed6 => zz66_b3 (zz66_F6 N (zz66_l3 N k m) k) k p1 a2 was5 changed6
def zz66_F3 (N : Nat) (p1 : Y4) (a2 : Y7) (was5 changed6 : Bool) : Z3 := zz66_l3 N (zz66_a3) N p1 a2 was5 changed6
def zz66 (N : Nat) (a_0 : Y7) (p_1 : Y4) : Z3 := zz66_s (zz66_F3 N) a_0 p_1
def S_zz66 : Sig := { a := (.pair (.pair I (.pair (.sl (.pair I (.pair (.sl I) .unit))) .unit)) (.pair (.sl I) .unit)), md := [0, 1], mf := [(.o .i)], m := (.pair (.sl I) .unit), r := .bool, rf := .i, f := fun x => zz66 big x.1 x.2.1 }
def A_zz66 : Cfg := mkCfg tab [(99, S_zz65)] [(6, [.drop, .as (.sl I) (.o .i), .as (.ptr (.pair I (.pair (.sl (.pair I (.pair (.sl I) .unit))) .unit))) (.o .i), .drop, .drop, .as .bool .i, .as .bool .i]), (12, [.drop, .as (.sl I) (.o .i), .as (.ptr (.pair I (.pair (.sl (.pair I (.pair (.sl I) .unit))) .unit))) (.o .i), .drop, .drop, .as .bool .i, .as .bool .i, .drop, .drop, .drop, .drop, .drop, .drop, .drop, .drop, .drop, .as (.sl (.pair I (.pair (.sl I) .unit))) .i, .as I .i, .as I .i]), (43, [.drop, .as (.sl I) (.o .i), .drop, .drop, .drop, .as .bool .i]), (20, [.drop, .as (.sl I) (.o .i), .as (.ptr (.pair I (.pair (.sl (.pair I (.pair (.sl I) .unit))) .unit))) (.o .i), .drop, .drop, .as .bool .i, .as .bool .i, .drop, .as (.ptr (.pair I (.pair (.sl I) .unit))) (.o .i), .as I .i, .as I .i, .drop, .drop, .drop, .drop, .drop, .as (.sl (.pair I (.pair (.sl I) .unit))) .i, .as I .i, .as I .i]), (26, [.drop, .as (.sl I) (.o .i), .as (.ptr (.pair I (.pair (.sl (.pair I (.pair (.sl I) .unit))) .unit))) (.o .i), .drop, .drop, .as .bool .i, .as .bool .i, .drop, .as (.ptr (.pair I (.pair (.sl I) .unit))) (.o .i), .as I .i, .as I .i, .drop, .drop, .drop, .drop, .drop, .as (.sl (.pair I (.pair (.sl I) .unit))) .i, .as I .i, .as I .i, .drop, .drop, .drop, .drop, .drop, .drop, .drop, .drop, .drop, .drop, .as (.sl I) .i, .as I .i, .as I .i]), (41, [.drop, .as (.sl I) (.o .i), .as (.ptr (.pair I (.pair (.sl (.pair I (.pair (.sl I) .unit))) .unit))) (.o .i), .drop, .drop, .as .bool .i, .as .bool .i, .drop, .drop, .drop, .drop, .drop, .drop, .drop, .drop, .drop, .as (.sl (.pair I (.pair (.sl I) .unit))) .i, .as I .i, .as I .i]), (39, [.drop, .as (.sl I) (.o .i), .as (.ptr (.pair I (.pair (.sl (.pair I (.pair (.sl I) .unit))) .unit))) (.o .i), .drop, .drop, .as .bool .i, .as .bool .i, .drop, .as (.ptr (.pair I (.pair (.sl I) .unit))) (.o .i), .as I .i, .as I .i, .drop, .drop, .drop, .drop, .drop, .as (.sl (.pair I (.pair (.sl I) .unit))) .i, .as I .i, .as I .i])]
noncomputable def zz66_R3 (N n : Nat) (K : Ex → St → Z3) (p1 : Y4) (a2 : Y7) (was5 changed6 : Bool) : Z3 := iter ((A_zz66).shape 6) (run (A_zz66) N (codeAt Tryz.f100 [1, 1, 0, 1, 0, 0])) n ([.u, .val (.sl I) (.o .i) p1, .val (.ptr (.pair I (.pair (.sl (.pair I (.pair (.sl I) .unit))) .unit))) (.o .i) a2, .u, .u, .val .bool .i was5, .val .bool .i changed6] ++ List.replicate 59 .u) K
noncomputable def zz66_R6 (N n : Nat) (K : Ex → St → Z3) (p1 : Y4) (a2 : Y7) (was5 changed6 : Bool) (t16 : (List Y6)) (t17 t18 : Int) : Z3 := iter ((A_zz66).shape 12) (run (A_zz66) N (codeAt Tryz.f100 [1, 1, 0, 1, 0, 0, 1, 0, 1, 1, 0, 0])) n ([.u, .val (.sl I) (.o .i) p1, .val (.ptr (.pair I (.pair (.sl (.pair I (.pair (.sl I) .unit))) .unit))) (.o .i) a2, .u, .u, .val .bool .i was5, .val .bool .i changed6, .u, .u, .u, .u, .u, .u, .u, .u, .u, .val (.sl (.pair I (.pair (.sl I) .unit))) .i t16, .val I .i t17, .val I .i t18] ++ List.replicate 47 .u) K
noncomputable def zz66_R10 (N n : Nat) (K : Ex → St → Z3) (p1 : Y4) (a2 : Y7) (was5 changed6 : Bool) (f8 : Y6) (step9 k10 : Int) (t16 : (List Y6)) (t17 t18 : Int) : Z3 := iter ((A_zz66).shape 20) (run (A_zz66) N (codeAt Tryz.f100 [1, 1, 0, 1, 0, 0, 1, 0, 1, 1, 0, 0, 1, 1, 0, 0, 1, 1, 1, 0, 0])) n ([.u, .val (.sl I) (.o .i) p1, .val (.ptr (.pair I (.pair (.sl (.pair I (.pair (.sl I) .unit))) .unit))) (.o .i) a2, .u, .u, .val .bool .i was5, .val .bool .i changed6, .u, .val (.ptr (.pair I (.pair (.sl I) .unit))) (.o .i) f8, .val I .i step9, .val I .i k10, .u, .u, .u, .u, .u, .val (.sl (.pair I (.pair (.sl I) .unit))) .i t16, .val I .i t17, .val I .i t18] ++ List.replicate 47 .u) K
noncomputable def zz66_R13 (N n : Nat) (K : Ex → St → Z3) (p1 : Y4) (a2 : Y7) (was5 changed6 : Bool) (f8 : Y6) (step9 k10 : Int) (t16 : (List Y6)) (t17 t18 : Int) (t29 : Y4) (t30 t31 : Int) : Z3 := iter ((A_zz66).shape 26) (run (A_zz66) N (codeAt Tryz.f100 [1, 1, 0, 1, 0, 0, 1, 0, 1, 1, 0, 0, 1, 1, 0, 0, 1, 1, 1, 0, 0, 1, 0, 0, 0, 1, 0, 0])) n ([.u, .val (.sl I) (.o .i) p1, .val (.ptr (.pair I (.pair (.sl (.pair I (.pair (.sl I) .unit))) .unit))) (.o .i) a2, .u, .u, .val .bool .i was5, .val .bool .i changed6, .u, .val (.ptr (.pair I (.pair (.sl I) .unit))) (.o .i) f8, .val I .i step9, .val I .i k10, .u, .u, .u, .u, .u, .val (.sl (.pair I (.pair (.sl I) .unit))) .i t16, .val I .i t17, .val I .i t18, .u, .u, .u, .u, .u, .u, .u, .u, .u, .u, .val (.sl I) .i t29, .val I .i t30, .val I .i t31] ++ List.replicate 34 .u) K
noncomputable abbrev zz66_z : Ex → St → Z3 := finish (A_zz66) S_zz66 Tryz.f100.results.toList
noncomputable abbrev zz66_X3 (kX : St → Z3) : Y4 → Bool → Z3 := fun (p1 : Y4) (was5 : Bool) => kX ([.u, .val (.sl I) (.o .i) p1, .u, .u, .u, .val .bool .i was5] ++ List.replicate 60 .u)
noncomputable abbrev zz66_E3 (kX : St → Z3) (kO : Nat → St → Z3) : Ex → St → Z3 := exK zz66_z 0 ((A_zz66).shape 43) kX kO
noncomputable abbrev zz66_X6 (kX : St → Z3) : Y4 → Y7 → Bool → Bool → Z3 := fun (p1 : Y4) (a2 : Y7) (was5 changed6 : Bool) => kX ([.u, .val (.sl I) (.o .i) p1, .val (.ptr (.pair I (.pair (.sl (.pair I (.pair (.sl I) .unit))) .unit))) (.o .i) a2, .u, .u, .val .bool .i was5, .val .bool .i changed6] ++ List.replicate 59 .u)
noncomputable abbrev zz66_E6 (kX : St → Z3) (kO : Nat → St → Z3) : Ex → St → Z3 := exK zz66_z 2 ((A_zz66).shape 6) kX kO
noncomputable abbrev zz66_X10 (kX : St → Z3) : Y4 → Y7 → Bool → Bool → (List Y6) → Int → Int → Z3 := fun (p1 : Y4) (a2 : Y7) (was5 changed6 : Bool) (t16 : (List Y6)) (t17 t18 : Int) => kX ([.u, .val (.sl I) (.o .i) p1, .val (.ptr (.pair I (.pair (.sl (.pair I (.pair (.sl I) .unit))) .unit))) (.o .i) a2, .u, .u, .val .bool .i was5, .val .bool .i changed6, .u, .u, .u, .u, .u, .u, .u, .u, .u, .val (.sl (.pair I (.pair (.sl I) .unit))) .i t16, .val I .i t17, .val I .i t18] ++ List.replicate 47 .u)
noncomputable abbrev zz66_E10 (kX : St → Z3) (kO : Nat → St → Z3) : Ex → St → Z3 := exK zz66_z 4 ((A_zz66).shape 41) kX kO
noncomputable abbrev zz66_X13 (kX : St → Z3) : Y4 → Y7 → Bool → Bool → Y6 → Int → Int → (List Y6) → Int → Int → Z3 := fun (p1 : Y4) (a2 : Y7) (was5 changed6 : Bool) (f8 : Y6) (step9 k10 : Int) (t16 : (List Y6)) (t17 t18 : Int) => kX ([.u, .val (.sl I) (.o .i) p1, .val (.ptr (.pair I (.pair (.sl (.pair I (.pair (.sl I) .unit))) .unit))) (.o .i) a2, .u, .u, .val .bool .i was5, .val .bool .i changed6, .u, .val (.ptr (.pair I (.pair (.sl I) .unit))) (.o .i) f8, .val I .i step9, .val I .i k10, .u, .u, .u, .u, .u, .val (.sl (.pair I (.pair (.sl I) .unit))) .i t16, .val I .i t17, .val I .i t18] ++ List.replicate 47 .u)
noncomputable abbrev zz66_E13 (kX : St → Z3) (kO : Nat → St → Z3) : Ex → St → Z3 := exK zz66_z 6 ((A_zz66).shape 39) kX kO
theorem zz66_step13 (N m : Nat) (kX : St → Z3) (kO : Nat → St → Z3) (p1 : Y4) (a2 : Y7) (was5 changed6 : Bool) (f8 : Y6) (step9 k10 : Int) (t16 : (List Y6)) (t17 t18 : Int) (t29 : Y4) (t30 t31 : Int) : zz66_R13 N (m + 1) (zz66_E13 kX kO) p1 a2 was5 changed6 f8 step9 k10 t16 t17 t18 t29 t30 t31 = zz66_b13 (zz66_R13 N m (zz66_E13 kX kO)) (zz66_X13 kX) p1 a2 was5 changed6 f8 step9 k10 t16 t17 t18 t29 t30 t31 := by kernel_rfl
theorem zz66_iter13 (N : Nat) (kX : St → Z3) (kO : Nat → St → Z3) : ∀ (n : Nat) (p1 : Y4) (a2 : Y7) (was5 changed6 : Bool) (f8 : Y6) (step9 k10 : Int) (t16 : (List Y6)) (t17 t18 : Int) (t29 : Y4) (t30 t31 : Int), zz66_R13 N n (zz66_E13 kX kO) p1 a2 was5 changed6 f8 step9 k10 t16 t17 t18 t29 t30 t31 = zz66_l13 N (zz66_X13 kX) n p1 a2 was5 changed6 f8 step9 k10 t16 t17 t18 t29 t30 t31
  | 0, _, _, _, _, _, _, _, _, _, _, _, _, _ => rfl
  | m + 1, p1, a2, was5, changed6, f8, step9, k10, t16, t17, t18, t29, t30, t31 => by
    have hrec : zz66_R13 N m (zz66_E13 kX kO) = (zz66_l13 N (zz66_X13 kX) m) := (funext fun p1 => (funext fun a2 => (funext fun was5 => (funext fun changed6 => (funext fun f8 => (funext fun step9 => (funext fun k10 => (funext fun t16 => (funext fun t17 => (funext fun t18 => (funext fun t29 => (funext fun t30 => (funext fun t31 => zz66_iter13 N kX kO m p1 a2 was5 changed6 f8 step9 k10 t16 t17 t18 t29 t30 t31)))))))))))))
    refine (zz66_step13 N m kX kO p1 a2 was5 changed6 f8 step9 k10 t16 t17 t18 t29 t30 t31).trans ?_
    rw [hrec]
    rfl
noncomputable abbrev zz66_K13 (N m : Nat) (kX : St → Z3) (kO : Nat → St → Z3) : Ex → St → Z3 := (blockK 6 (seqK ((A_zz66).shape 39) (run (A_zz66) N (codeAt Tryz.f100 [1, 1, 0, 1, 0, 0, 1, 0, 1, 1, 0, 0, 1, 1, 0, 0, 1, 1, 1, 0, 0, 1, 0, 0, 1])) (blockK 5 (seqK ((A_zz66).shape 23) (run (A_zz66) N (codeAt Tryz.f100 [1, 1, 0, 1, 0, 0, 1, 0, 1, 1, 0, 0, 1, 1, 0, 0, 1, 1, 1, 0, 0, 1, 1])) (iterK ((A_zz66).shape 20) (run (A_zz66) N (codeAt Tryz.f100 [1, 1, 0, 1, 0, 0, 1, 0, 1, 1, 0, 0, 1, 1, 0, 0, 1, 1, 1, 0, 0])) m (zz66_E10 kX kO))))))
noncomputable abbrev zz66_k13 (N m : Nat) (kX : St → Z3) (kO : Nat → St → Z3) : St → Z3 := fun st' => run (A_zz66) N (codeAt Tryz.f100 [1, 1, 0, 1, 0, 0, 1, 0, 1, 1, 0, 0, 1, 1, 0, 0, 1, 1, 1, 0, 0, 1, 0, 0, 1]) st' (blockK 5 (seqK ((A_zz66).shape 23) (run (A_zz66) N (codeAt Tryz.f100 [1, 1, 0, 1, 0, 0, 1, 0, 1, 1, 0, 0, 1, 1, 0, 0, 1, 1, 1, 0, 0, 1, 1])) (iterK ((A_zz66).shape 20) (run (A_zz66) N (codeAt Tryz.f100 [1, 1, 0, 1, 0, 0, 1, 0, 1, 1, 0, 0, 1, 1, 0, 0, 1, 1, 1, 0, 0])) m (zz66_E10 kX kO))))
theorem zz66_after13 (N m : Nat) (kX : St → Z3) (kO : Nat → St → Z3) (p1 : Y4) (a2 : Y7) (was5 changed6 : Bool) (f8 : Y6) (step9 k10 : Int) (t16 : (List Y6)) (t17 t18 : Int) : zz66_X13 (zz66_k13 N m kX kO) p1 a2 was5 changed6 f8 step9 k10 t16 t17 t18 = zz66_a13 (zz66_R10 N m (zz66_E10 kX kO)) p1 a2 was5 changed6 f8 step9 k10 t16 t17 t18 := by kernel_rfl
theorem zz66_in13 (N m : Nat) (kX : St → Z3) (kO : Nat → St → Z3) (recF : Y4 → Y7 → Bool → Bool → Y6 → Int → Int → (List Y6) → Int → Int → Z3) (hrec : zz66_R10 N m (zz66_E10 kX kO) = recF) (p1 : Y4) (a2 : Y7) (was5 changed6 : Bool) (f8 : Y6) (step9 k10 : Int) (t16 : (List Y6)) (t17 t18 : Int) (t29 : Y4) (t30 t31 : Int) : zz66_R13 N N (zz66_K13 N m kX kO) p1 a2 was5 changed6 f8 step9 k10 t16 t17 t18 t29 t30 t31 = zz66_F13 N recF (zz66_X10 kX) p1 a2 was5 changed6 f8 step9 k10 t16 t17 t18 t29 t30 t31 :=
  have h : zz66_X13 (zz66_k13 N m kX kO) = (zz66_a13 recF) := (funext fun p1 => (funext fun a2 => (funext fun was5 => (funext fun changed6 => (funext fun f8 => (funext fun step9 => (funext fun k10 => (funext fun t16 => (funext fun t17 => (funext fun t18 => (zz66_after13 N m kX kO p1 a2 was5 changed6 f8 step9 k10 t16 t17 t18).trans (by rw [hrec])))))))))))
  ((iter_ex (fun st => by kernel_rfl) (fun st => by kernel_rfl)).trans (zz66_iter13 N (zz66_k13 N m kX kO) (fun j st => (zz66_K13 N m kX kO) (.exit j) st) N p1 a2 was5 changed6 f8 step9 k10 t16 t17 t18 t29 t30 t31)).trans (congrArg (fun k => zz66_l13 N k N p1 a2 was5 changed6 f8 step9 k10 t16 t17 t18 t29 t30 t31) h)
theorem zz66_step10 (N m : Nat) (kX : St → Z3) (kO : Nat → St → Z3) (p1 : Y4) (a2 : Y7) (was5 changed6 : Bool) (f8 : Y6) (step9 k10 : Int) (t16 : (List Y6)) (t17 t18 : Int) : zz66_R10 N (m + 1) (zz66_E10 kX kO) p1 a2 was5 changed6 f8 step9 k10 t16 t17 t18 = zz66_b10 (zz66_R13 N N (zz66_K13 N m kX kO)) (zz66_X10 kX) p1 a2 was5 changed6 f8 step9 k10 t16 t17 t18 := by kernel_rfl
theorem zz66_iter10 (N : Nat) (kX : St → Z3) (kO : Nat → St → Z3) : ∀ (n : Nat) (p1 : Y4) (a2 : Y7) (was5 changed6 : Bool) (f8 : Y6) (step9 k10 : Int) (t16 : (List Y6)) (t17 t18 : Int), zz66_R10 N n (zz66_E10 kX kO) p1 a2 was5 changed6 f8 step9 k10 t16 t17 t18 = zz66_l10 N (zz66_X10 kX) n p1 a2 was5 changed6 f8 step9 k10 t16 t17 t18
  | 0, _, _, _, _, _, _, _, _, _, _ => rfl
  | m + 1, p1, a2, was5, changed6, f8, step9, k10, t16, t17, t18 => by
    have hrec : zz66_R10 N m (zz66_E10 kX kO) = (zz66_l10 N (zz66_X10 kX) m) := (funext fun p1 => (funext fun a2 => (funext fun was5 => (funext fun changed6 => (funext fun f8 => (funext fun step9 => (funext fun k10 => (funext fun t16 => (funext fun t17 => (funext fun t18 => zz66_iter10 N kX kO m p1 a2 was5 changed6 f8 step9 k10 t16 t17 t18))))))))))
    refine (zz66_step10 N m kX kO p1 a2 was5 changed6 f8 step9 k10 t16 t17 t18).trans ?_
    rw [(funext fun p1 => (funext fun a2 => (funext fun was5 => (funext fun changed6 => (funext fun f8 => (funext fun step9 => (funext fun k10 => (funext fun t16 => (funext fun t17 => (funext fun t18 => (funext fun t29 => (funext fun t30 => (funext fun t31 => zz66_in13 N m kX kO (zz66_l10 N (zz66_X10 kX) m) hrec p1 a2 was5 changed6 f8 step9 k10 t16 t17 t18 t29 t30 t31)))))))))))))]
    rfl
noncomputable abbrev zz66_K10 (N m : Nat) (kX : St → Z3) (kO : Nat → St → Z3) : Ex → St → Z3 := (blockK 4 (blockK 3 (seqK ((A_zz66).shape 41) (run (A_zz66) N (codeAt Tryz.f100 [1, 1, 0, 1, 0, 0, 1, 0, 1, 1, 0, 0, 1, 1, 1])) (iterK ((A_zz66).shape 12) (run (A_zz66) N (codeAt Tryz.f100 [1, 1, 0, 1, 0, 0, 1, 0, 1, 1, 0, 0])) m (zz66_E6 kX kO)))))
noncomputable abbrev zz66_k10 (N m : Nat) (kX : St → Z3) (kO : Nat → St → Z3) : St → Z3 := fun st' => run (A_zz66) N (codeAt Tryz.f100 [1, 1, 0, 1, 0, 0, 1, 0, 1, 1, 0, 0, 1, 1, 1]) st' (iterK ((A_zz66).shape 12) (run (A_zz66) N (codeAt Tryz.f100 [1, 1, 0, 1, 0, 0, 1, 0, 1, 1, 0, 0])) m (zz66_E6 kX kO))
theorem zz66_after10 (N m : Nat) (kX : St → Z3) (kO : Nat → St → Z3) (p1 : Y4) (a2 : Y7) (was5 changed6 : Bool) (t16 : (List Y6)) (t17 t18 : Int) : zz66_X10 (zz66_k10 N m kX kO) p1 a2 was5 changed6 t16 t17 t18 = zz66_a10 (zz66_R6 N m (zz66_E6 kX kO)) p1 a2 was5 changed6 t16 t17 t18 := by kernel_rfl
theorem zz66_in10 (N m : Nat) (kX : St → Z3) (kO : Nat → St → Z3) (recF : Y4 → Y7 → Bool → Bool → (List Y6) → Int → Int → Z3) (hrec : zz66_R6 N m (zz66_E6 kX kO) = recF) (p1 : Y4) (a2 : Y7) (was5 changed6 : Bool) (f8 : Y6) (step9 k10 : Int) (t16 : (List Y6)) (t17 t18 : Int) : zz66_R10 N N (zz66_K10 N m kX kO) p1 a2 was5 changed6 f8 step9 k10 t16 t17 t18 = zz66_F10 N recF (zz66_X6 kX) p1 a2 was5 changed6 f8 step9 k10 t16 t17 t18 :=
  have h : zz66_X10 (zz66_k10 N m kX kO) = (zz66_a10 recF) := (funext fun p1 => (funext fun a2 => (funext fun was5 => (funext fun changed6 => (funext fun t16 => (funext fun t17 => (funext fun t18 => (zz66_after10 N m kX kO p1 a2 was5 changed6 t16 t17 t18).trans (by rw [hrec]))))))))
  ((iter_ex (fun st => by kernel_rfl) (fun st => by kernel_rfl)).trans (zz66_iter10 N (zz66_k10 N m kX kO) (fun j st => (zz66_K10 N m kX kO) (.exit j) st) N p1 a2 was5 changed6 f8 step9 k10 t16 t17 t18)).trans (congrArg (fun k => zz66_l10 N k N p1 a2 was5 changed6 f8 step9 k10 t16 t17 t18) h)
theorem zz66_step6 (N m : Nat) (kX : St → Z3) (kO : Nat → St → Z3) (p1 : Y4) (a2 : Y7) (was5 changed6 : Bool) (t16 : (List Y6)) (t17 t18 : Int) : zz66_R6 N (m + 1) (zz66_E6 kX kO) p1 a2 was5 changed6 t16 t17 t18 = zz66_b6 (zz66_R10 N N (zz66_K10 N m kX kO)) (zz66_X6 kX) p1 a2 was5 changed6 t16 t17 t18 := by kernel_rfl
theorem zz66_iter6 (N : Nat) (kX : St → Z3) (kO : Nat → St → Z3) : ∀ (n : Nat) (p1 : Y4) (a2 : Y7) (was5 changed6 : Bool) (t16 : (List Y6)) (t17 t18 : Int), zz66_R6 N n (zz66_E6 kX kO) p1 a2 was5 changed6 t16 t17 t18 = zz66_l6 N (zz66_X6 kX) n p1 a2 was5 changed6 t16 t17 t18
  | 0, _, _, _, _, _, _, _ => rfl
  | m + 1, p1, a2, was5, changed6, t16, t17, t18 => by
    have hrec : zz66_R6 N m (zz66_E6 kX kO) = (zz66_l6 N (zz66_X6 kX) m) := (funext fun p1 => (funext fun a2 => (funext fun was5 => (funext fun changed6 => (funext fun t16 => (funext fun t17 => (funext fun t18 => zz66_iter6 N kX kO m p1 a2 was5 changed6 t16 t17 t18)))))))
    refine (zz66_step6 N m kX kO p1 a2 was5 changed6 t16 t17 t18).trans ?_
    rw [(funext fun p1 => (funext fun a2 => (funext fun was5 => (funext fun changed6 => (funext fun f8 => (funext fun step9 => (funext fun k10 => (funext fun t16 => (funext fun t17 => (funext fun t18 => zz66_in10 N m kX kO (zz66_l6 N (zz66_X6 kX) m) hrec p1 a2 was5 changed6 f8 step9 k10 t16 t17 t18))))))))))]
    rfl
noncomputable abbrev zz66_K6 (N m : Nat) (kX : St → Z3) (kO : Nat → St → Z3) : Ex → St → Z3 := (blockK 2 (blockK 1 (iterK ((A_zz66).shape 6) (run (A_zz66) N (codeAt Tryz.f100 [1, 1, 0, 1, 0, 0])) m (zz66_E3 kX kO))))
noncomputable abbrev zz66_k6 (N m : Nat) (kX : St → Z3) (kO : Nat → St → Z3) : St → Z3 := fun st' => iter ((A_zz66).shape 6) (run (A_zz66) N (codeAt Tryz.f100 [1, 1, 0, 1, 0, 0])) m st' (zz66_E3 kX kO)
theorem zz66_after6 (N m : Nat) (kX : St → Z3) (kO : Nat → St → Z3) (p1 : Y4) (a2 : Y7) (was5 changed6 : Bool) : zz66_X6 (zz66_k6 N m kX kO) p1 a2 was5 changed6 = zz66_a6 (zz66_R3 N m (zz66_E3 kX kO)) p1 a2 was5 changed6 := by kernel_rfl
theorem zz66_in6 (N m : Nat) (kX : St → Z3) (kO : Nat → St → Z3) (recF : Y4 → Y7 → Bool → Bool → Z3) (hrec : zz66_R3 N m (zz66_E3 kX kO) = recF) (p1 : Y4) (a2 : Y7) (was5 changed6 : Bool) (t16 : (List Y6)) (t17 t18 : Int) : zz66_R6 N N (zz66_K6 N m kX kO) p1 a2 was5 changed6 t16 t17 t18 = zz66_F6 N recF (zz66_X3 kX) p1 a2 was5 changed6 t16 t17 t18 :=
  have h : zz66_X6 (zz66_k6 N m kX kO) = (zz66_a6 recF) := (funext fun p1 => (funext fun a2 => (funext fun was5 => (funext fun changed6 => (zz66_after6 N m kX kO p1 a2 was5 changed6).trans (by rw [hrec])))))
  ((iter_ex (fun st => by kernel_rfl) (fun st => by kernel_rfl)).trans (zz66_iter6 N (zz66_k6 N m kX kO) (fun j st => (zz66_K6 N m kX kO) (.exit j) st) N p1 a2 was5 changed6 t16 t17 t18)).trans (congrArg (fun k => zz66_l6 N k N p1 a2 was5 changed6 t16 t17 t18) h)
theorem zz66_step3 (N m : Nat) (kX : St → Z3) (kO : Nat → St → Z3) (p1 : Y4) (a2 : Y7) (was5 changed6 : Bool) : zz66_R3 N (m + 1) (zz66_E3 kX kO) p1 a2 was5 changed6 = zz66_b3 (zz66_R6 N N (zz66_K6 N m kX kO)) (zz66_X3 kX) p1 a2 was5 changed6 := by kernel_rfl
theorem zz66_iter3 (N : Nat) (kX : St → Z3) (kO : Nat → St → Z3) : ∀ (n : Nat) (p1 : Y4) (a2 : Y7) (was5 changed6 : Bool), zz66_R3 N n (zz66_E3 kX kO) p1 a2 was5 changed6 = zz66_l3 N (zz66_X3 kX) n p1 a2 was5 changed6
  | 0, _, _, _, _ => rfl
  | m + 1, p1, a2, was5, changed6 => by
    have hrec : zz66_R3 N m (zz66_E3 kX kO) = (zz66_l3 N (zz66_X3 kX) m) := (funext fun p1 => (funext fun a2 => (funext fun was5 => (funext fun changed6 => zz66_iter3 N kX kO m p1 a2 was5 changed6))))
    refine (zz66_step3 N m kX kO p1 a2 was5 changed6).trans ?_
    rw [(funext fun p1 => (funext fun a2 => (funext fun was5 => (funext fun changed6 => (funext fun t16 => (funext fun t17 => (funext fun t18 => zz66_in6 N m kX kO (zz66_l3 N (zz66_X3 kX) m) hrec p1 a2 was5 changed6 t16 t17 t18)))))))]
    rfl
noncomputable abbrev zz66_K3 (N : Nat) : Ex → St → Z3 := (blockK 0 (seqK ((A_zz66).shape 43) (run (A_zz66) N (codeAt Tryz.f100 [1, 1, 1])) zz66_z))
noncomputable abbrev zz66_k3 (N : Nat) : St → Z3 := fun st' => run (A_zz66) N (codeAt Tryz.f100 [1, 1, 1]) st' zz66_z
theorem zz66_after3 (N : Nat) (p1 : Y4) (was5 : Bool) : zz66_X3 (zz66_k3 N) p1 was5 = zz66_a3 p1 was5 := by kernel_rfl
theorem zz66_in3 (N : Nat) (p1 : Y4) (a2 : Y7) (was5 changed6 : Bool) : zz66_R3 N N (zz66_K3 N) p1 a2 was5 changed6 = zz66_F3 N p1 a2 was5 changed6 :=
  have h : zz66_X3 (zz66_k3 N) = (zz66_a3) := (funext fun p1 => (funext fun was5 => zz66_after3 N p1 was5))
  ((iter_ex (fun st => by kernel_rfl) (fun st => by kernel_rfl)).trans (zz66_iter3 N (zz66_k3 N) (fun j st => (zz66_K3 N) (.exit j) st) N p1 a2 was5 changed6)).trans (congrArg (fun k => zz66_l3 N k N p1 a2 was5 changed6) h)
theorem run0_zz66 (N : Nat) (x : (S_zz66).a.den) : runF (A_zz66) N Tryz.f100 S_zz66 x = (zz66_s (zz66_R3 N N (zz66_K3 N)) x.1 x.2.1) := by kernel_rfl
theorem run_zz66 (N : Nat) (x : (S_zz66).a.den) : runF (A_zz66) N Tryz.f100 S_zz66 x = zz66 N x.1 x.2.1 := by
  refine (run0_zz66 N x).trans ?_
  rw [(funext fun p1 => (funext fun a2 => (funext fun was5 => (funext fun changed6 => zz66_in3 N p1 a2 was5 changed6))))]
  rfl
theorem fn_zz66 : FnOk Tryz.prog 100 := ⟨_, Tryz.func100, by kernel_rfl, by kernel_rfl⟩
theorem good_zz66 : Gx.Good Tryz.prog 100 S_zz66 := good_of_run Tryz.func100 (of_decide_eq_true (by kernel_rfl)) fun x r h => ⟨A_zz66, big, mkCfg_ok tabOk, mkCfg_sigs (show SigsOk Tryz.prog [(99, S_zz65)] from ⟨⟨fn_zz65, good_zz65⟩, trivial⟩), (run_zz66 big x).trans h⟩

/-! zz67 -/
def zz67_b3 (rec : Y7 → Y4 → (List Z9) → Int → Int → Z1) (k : Y7 → Y4 → Z1) (a2 : Y7) (p5 : Y4) (t11 : (List Z9)) (t12 t13 : Int) : Z1 :=
  cond (decide (t13 < t12))
  ((atI t11 t13).bind fun xq2 =>
  (zz65 big p5 xq2.1 xq2.2.1).bind fun rq3 =>
  rec a2 rq3.2.1 t11 t12 (IntKind.i64.wrap (t13 + (1 : Int))))
  (k a2 p5)
def zz67_a3 (a2 : Y7) (p5 : Y4) : Z1 :=
  (zz66 big a2 p5).bind fun rq4 =>
  some (rq4.2.1, (()))
def zz67_s (L3 : Y7 → Y4 → (List Z9) → Int → Int → Z1) (a_0 : Y7) (pairs_1 : (List Z9)) : Z1 :=
  (zz64 big a_0.1).bind fun rq1 =>
  L3 a_0 rq1.1 pairs_1 (pairs_1.length : Int) (0 : Int)
def zz67_l3 (N : Nat) (k : Y7 → Y4 → Z1) : Nat → Y7 → Y4 → (List Z9) → Int → Int → Z1
  | 0, _, _, _, _, _ => none
  | m + 1, a2, p5, t11, t12, t13 => zz67_b3 (zz67_l3 N k m) k a2 p5 t11 t12 t13
def zz67_F3 (N : Nat) (a2 : Y7) (p5 : Y4) (t11 : (List Z9)) (t12 t13 : Int) : Z1 := zz67_l3 N (zz67_a3) N a2 p5 t11 t12 t13
def zz67 (N : Nat) (a_0 : Y7) (pairs_1 : (List Z9)) : Z1 := zz67_s (zz67_F3 N) a_0 pairs_1
def S_zz67 : Sig := { a := (.pair (.pair I (.pair (.sl (.pair I (.pair (.sl I) .unit))) .unit)) (.pair (.sl (.pair I (.pair I .unit))) .unit)), md := [0, 0], mf := [], m := .unit, r := (.sl I), rf := (.o .i), f := fun x => zz67 big x.1 x.2.1 }
def A_zz67 : Cfg := mkCfg tab [(98, S_zz64), (99, S_zz65), (100, S_zz66)] [(6, [.drop, .drop, .as (.ptr (.pair I (.pair (.sl (.pair I (.pair (.sl I) .unit))) .unit))) (.o .i), .drop, .drop, .as (.sl I) (.o .i), .drop, .drop, .drop, .drop, .drop, .as (.sl (.pair I (.pair I .unit))) .i, .as I .i, .as I .i]), (15, [.drop, .drop, .as (.ptr (.pair I (.pair (.sl (.pair I (.pair (.sl I) .unit))) .unit))) (.o .i), .drop, .drop, .as (.sl I) (.o .i)])]
noncomputable def zz67_R3 (N n : Nat) (K : Ex → St → Z1) (a2 : Y7) (p5 : Y4) (t11 : (List Z9)) (t12 t13 : Int) : Z1 := iter ((A_zz67).shape 6) (run (A_zz67) N (codeAt Tryz.f81 [1, 1, 0, 1, 0, 0])) n ([.u, .u, .val (.ptr (.pair I (.pair (.sl (.pair I (.pair (.sl I) .unit))) .unit))) (.o .i) a2, .u, .u, .val (.sl I) (.o .i) p5, .u, .u, .u, .u, .u, .val (.sl (.pair I (.pair I .unit))) .i t11, .val I .i t12, .val I .i t13] ++ List.replicate 14 .u) K
noncomputable abbrev zz67_z : Ex → St → Z1 := finish (A_zz67) S_zz67 Tryz.f81.results.toList
noncomputable abbrev zz67_X3 (kX : St → Z1) : Y7 → Y4 → Z1 := fun (a2 : Y7) (p5 : Y4) => kX ([.u, .u, .val (.ptr (.pair I (.pair (.sl (.pair I (.pair (.sl I) .unit))) .unit))) (.o .i) a2, .u, .u, .val (.sl I) (.o .i) p5] ++ List.replicate 22 .u)
noncomputable abbrev zz67_E3 (kX : St → Z1) (kO : Nat → St → Z1) : Ex → St → Z1 := exK zz67_z 0 ((A_zz67).shape 15) kX kO
theorem zz67_step3 (N m : Nat) (kX : St → Z1) (kO : Nat → St → Z1) (a2 : Y7) (p5 : Y4) (t11 : (List Z9)) (t12 t13 : Int) : zz67_R3 N (m + 1) (zz67_E3 kX kO) a2 p5 t11 t12 t13 = zz67_b3 (zz67_R3 N m (zz67_E3 kX kO)) (zz67_X3 kX) a2 p5 t11 t12 t13 := by kernel_rfl
theorem zz67_iter3 (N : Nat) (kX : St → Z1) (kO : Nat → St → Z1) : ∀ (n : Nat) (a2 : Y7) (p5 : Y4) (t11 : (List Z9)) (t12 t13 : Int), zz67_R3 N n (zz67_E3 kX kO) a2 p5 t11 t12 t13 = zz67_l3 N (zz67_X3 kX) n a2 p5 t11 t12 t13
  | 0, _, _, _, _, _ => rfl
  | m + 1, a2, p5, t11, t12, t13 => by
    have hrec : zz67_R3 N m (zz67_E3 kX kO) = (zz67_l3 N (zz67_X3 kX) m) := (funext fun a2 => (funext fun p5 => (funext fun t11 => (funext fun t12 => (funext fun t13 => zz67_iter3 N kX kO m a2 p5 t11 t12 t13)))))
    refine (zz67_step3 N m kX kO a2 p5 t11 t12 t13).trans ?_
    rw [hrec]
    rfl
noncomputable abbrev zz67_K3 (N : Nat) : Ex → St → Z1 := (blockK 0 (seqK ((A_zz67).shape 15) (run (A_zz67) N (codeAt Tryz.f81 [1, 1, 1])) zz67_z))
noncomputable abbrev zz67_k3 (N : Nat) : St → Z1 := fun st' => run (A_zz67) N (codeAt Tryz.f81 [1, 1, 1]) st' zz67_z
theorem zz67_after3 (N : Nat) (a2 : Y7) (p5 : Y4) : zz67_X3 (zz67_k3 N) a2 p5 = zz67_a3 a2 p5 := by kernel_rfl
theorem zz67_in3 (N : Nat) (a2 : Y7) (p5 : Y4) (t11 : (List Z9)) (t12 t13 : Int) : zz67_R3 N N (zz67_K3 N) a2 p5 t11 t12 t13 = zz67_F3 N a2 p5 t11 t12 t13 :=
  have h : zz67_X3 (zz67_k3 N) = (zz67_a3) := (funext fun a2 => (funext fun p5 => zz67_after3 N a2 p5))
  ((iter_ex (fun st => by kernel_rfl) (fun st => by kernel_rfl)).trans (zz67_iter3 N (zz67_k3 N) (fun j st => (zz67_K3 N) (.exit j) st) N a2 p5 t11 t12 t13)).trans (congrArg (fun k => zz67_l3 N k N a2 p5 t11 t12 t13) h)
theorem run0_zz67 (N : Nat) (x : (S_zz67).a.den) : runF (A_zz67) N Tryz.f81 S_zz67 x = (zz67_s (zz67_R3 N N (zz67_K3 N)) x.1 x.2.1) := by kernel_rfl
theorem run_zz67 (N : Nat) (x : (S_zz67).a.den) : runF (A_zz67) N Tryz.f81 S_zz67 x = zz67 N x.1 x.2.1 := by
  refine (run0_zz67 N x).trans ?_
  rw [(funext fun a2 => (funext fun p5 => (funext fun t11 => (funext fun t12 => (funext fun t13 => zz67_in3 N a2 p5 t11 t12 t13)))))]
  rfl
theorem fn_zz67 : FnOk Tryz.prog 81 := ⟨_, Tryz.func81, by kernel_rfl, by kernel_rfl⟩
theorem good_zz67 : Gx.Good Tryz.prog 81 S_zz67 := good_of_run Tryz.func81 (of_decide_eq_true (by kernel_rfl)) fun x r h => ⟨A_zz67, big, mkCfg_ok tabOk, mkCfg_sigs (show SigsOk Tryz.prog [(98, S_zz64), (99, S_zz65), (100, S_zz66)] from ⟨⟨fn_zz64, good_zz64⟩, ⟨fn_zz65, good_zz65⟩, ⟨fn_zz66, good_zz66⟩, trivial⟩), (run_zz67 big x).trans h⟩

/-! zz68 -/
def zz68_b3 (rec : Y1 → (List Z9) → Y4 → Int → Int → Z1) (k : Y1 → (List Z9) → Z1) (l0 : Y1) (pairs5 : (List Z9)) (t9 : Y4) (t10 t11 : Int) : Z1 :=
  cond (decide (t11 < t10))
  ((atI t9 t11).bind fun xq1 =>
  (zz61 l0 xq1).bind fun rq2 =>
  (appI pairs5 [(rq2.1, (xq1, ()))]).bind fun xq3 =>
  rec l0 xq3 t9 t10 (IntKind.i64.wrap (t11 + (1 : Int))))
  (k l0 pairs5)
def zz68_a3 (l0 : Y1) (pairs5 : (List Z9)) : Z1 :=
  (zz63 l0).bind fun rq4 =>
  (zz67 big rq4.1 pairs5).bind fun rq5 =>
  some (rq5.1, (()))
def zz68_s (L3 : Y1 → (List Z9) → Y4 → Int → Int → Z1) (l_0 : Y1) (set_1 : Y4) : Z1 :=
  L3 l_0 [] set_1 (set_1.length : Int) (0 : Int)
def zz68_l3 (N : Nat) (k : Y1 → (List Z9) → Z1) : Nat → Y1 → (List Z9) → Y4 → Int → Int → Z1
  | 0, _, _, _, _, _ => none
  | m + 1, l0, pairs5, t9, t10, t11 => zz68_b3 (zz68_l3 N k m) k l0 pairs5 t9 t10 t11
def zz68_F3 (N : Nat) (l0 : Y1) (pairs5 : (List Z9)) (t9 : Y4) (t10 t11 : Int) : Z1 := zz68_l3 N (zz68_a3) N l0 pairs5 t9 t10 t11
def zz68 (N : Nat) (l_0 : Y1) (set_1 : Y4) : Z1 := zz68_s (zz68_F3 N) l_0 set_1
def S_zz68 : Sig := { a := (.pair (.opt (.pair (.sl (.sl .bool)) (.pair (.sl (.sl I)) (.pair (.sl (.sl I)) .unit)))) (.pair (.sl I) .unit)), md := [0, 0], mf := [], m := .unit, r := (.sl I), rf := (.o .i), f := fun x => zz68 big x.1 x.2.1 }
def A_zz68 : Cfg := mkCfg tab [(80, S_zz61), (82, S_zz63), (81, S_zz67)] [(6, [.as (.opt (.pair (.sl (.sl .bool)) (.pair (.sl (.sl I)) (.pair (.sl (.sl I)) .unit)))) .i, .drop, .drop, .drop, .drop, .as (.sl (.pair I (.pair I .unit))) (.o .i), .drop, .drop, .drop, .as (.sl I) .i, .as I .i, .as I .i]), (15, [.as (.opt (.pair (.sl (.sl .bool)) (.pair (.sl (.sl I)) (.pair (.sl (.sl I)) .unit)))) .i, .drop, .drop, .drop, .drop, .as (.sl (.pair I (.pair I .unit))) (.o .i)])]
noncomputable def zz68_R3 (N n : Nat) (K : Ex → St → Z1) (l0 : Y1) (pairs5 : (List Z9)) (t9 : Y4) (t10 t11 : Int) : Z1 := iter ((A_zz68).shape 6) (run (A_zz68) N (codeAt Tryz.f63 [1, 1, 0, 1, 0, 0])) n ([.val (.opt (.pair (.sl (.sl .bool)) (.pair (.sl (.sl I)) (.pair (.sl (.sl I)) .unit)))) .i l0, .u, .u, .u, .u, .val (.sl (.pair I (.pair I .unit))) (.o .i) pairs5, .u, .u, .u, .val (.sl I) .i t9, .val I .i t10, .val I .i t11] ++ List.replicate 16 .u) K
noncomputable abbrev zz68_z : Ex → St → Z1 := finish (A_zz68) S_zz68 Tryz.f63.results.toList
noncomputable abbrev zz68_X3 (kX : St → Z1) : Y1 → (List Z9) → Z1 := fun (l0 : Y1) (pairs5 : (List Z9)) => kX ([.val (.opt (.pair (.sl (.sl .bool)) (.pair (.sl (.sl I)) (.pair (.sl (.sl I)) .unit)))) .i l0, .u, .u, .u, .u, .val (.sl (.pair I (.pair I .unit))) (.o .i) pairs5] ++ List.replicate 22 .u)
noncomputable abbrev zz68_E3 (kX : St → Z1) (kO : Nat → St → Z1) : Ex → St → Z1 := exK zz68_z 0 ((A_zz68).shape 15) kX kO
theorem zz68_step3 (N m : Nat) (kX : St → Z1) (kO : Nat → St → Z1) (l0 : Y1) (pairs5 : (List Z9)) (t9 : Y4) (t10 t11 : Int) : zz68_R3 N (m + 1) (zz68_E3 kX kO) l0 pairs5 t9 t10 t11 = zz68_b3 (zz68_R3 N m (zz68_E3 kX kO)) (zz68_X3 kX) l0 pairs5 t9 t10 t11 := by kernel_rfl
theorem zz68_iter3 (N : Nat) (kX : St → Z1) (kO : Nat → St → Z1) : ∀ (n : Nat) (l0 : Y1) (pairs5 : (List Z9)) (t9 : Y4) (t10 t11 : Int), zz68_R3 N n (zz68_E3 kX kO) l0 pairs5 t9 t10 t11 = zz68_l3 N (zz68_X3 kX) n l0 pairs5 t9 t10 t11
  | 0, _, _, _, _, _ => rfl
  | m + 1, l0, pairs5, t9, t10, t11 => by
    have hrec : zz68_R3 N m (zz68_E3 kX kO) = (zz68_l3 N (zz68_X3 kX) m) := (funext fun l0 => (funext fun pairs5 => (funext fun t9 => (funext fun t10 => (funext fun t11 => zz68_iter3 N kX kO m l0 pairs5 t9 t10 t11)))))
    refine (zz68_step3 N m kX kO l0 pairs5 t9 t10 t11).trans ?_
    rw [hrec]
    rfl
noncomputable abbrev zz68_K3 (N : Nat) : Ex → St → Z1 := (blockK 0 (seqK ((A_zz68).shape 15) (run (A_zz68) N (codeAt Tryz.f63 [1, 1, 1])) zz68_z))
noncomputable abbrev zz68_k3 (N : Nat) : St → Z1 := fun st' => run (A_zz68) N (codeAt Tryz.f63 [1, 1, 1]) st' zz68_z
theorem zz68_after3 (N : Nat) (l0 : Y1) (pairs5 : (List Z9)) : zz68_X3 (zz68_k3 N) l0 pairs5 = zz68_a3 l0 pairs5 := by kernel_rfl
theorem zz68_in3 (N : Nat) (l0 : Y1) (pairs5 : (List Z9)) (t9 : Y4) (t10 t11 : Int) : zz68_R3 N N (zz68_K3 N) l0 pairs5 t9 t10 t11 = zz68_F3 N l0 pairs5 t9 t10 t11 :=
  have h : zz68_X3 (zz68_k3 N) = (zz68_a3) := (funext fun l0 => (funext fun pairs5 => zz68_after3 N l0 pairs5))
  ((iter_ex (fun st => by kernel_rfl) (fun st => by kernel_rfl)).trans (zz68_iter3 N (zz68_k3 N) (fun j st => (zz68_K3 N) (.exit j) st) N l0 pairs5 t9 t10 t11)).trans (congrArg (fun k => zz68_l3 N k N l0 pairs5 t9 t10 t11) h)
theorem run0_zz68 (N : Nat) (x : (S_zz68).a.den) : runF (A_zz68) N Tryz.f63 S_zz68 x = (zz68_s (zz68_R3 N N (zz68_K3 N)) x.1 x.2.1) := by kernel_rfl
theorem run_zz68 (N : Nat) (x : (S_zz68).a.den) : runF (A_zz68) N Tryz.f63 S_zz68 x = zz68 N x.1 x.2.1 := by
  refine (run0_zz68 N x).trans ?_
  rw [(funext fun l0 => (funext fun pairs5 => (funext fun t9 => (funext fun t10 => (funext fun t11 => zz68_in3 N l0 pairs5 t9 t10 t11)))))]
  rfl
theorem fn_zz68 : FnOk Tryz.prog 63 := ⟨_, Tryz.func63, by kernel_rfl, by kernel_rfl⟩
theorem good_zz68 : Gx.Good Tryz.prog 63 S_zz68 := good_of_run Tryz.func63 (of_decide_eq_true (by kernel_rfl)) fun x r h => ⟨A_zz68, big, mkCfg_ok tabOk, mkCfg_sigs (show SigsOk Tryz.prog [(80, S_zz61), (82, S_zz63), (81, S_zz67)] from ⟨⟨fn_zz61, good_zz61⟩, ⟨fn_zz63, good_zz63⟩, ⟨fn_zz67, good_zz67⟩, trivial⟩), (run_zz68 big x).trans h⟩

/-! zz69 -/
def zz69_b3 (rec : Y1 → Y4 → Y4 → Y4 → Int → Int → Z1) (k : Y4 → Z1) (l0 : Y1) (c1 list5 t10 : Y4) (t11 t12 : Int) : Z1 :=
  cond (decide (t12 < t11))
  ((atI t10 t12).bind fun _ =>
  (t10[t12.toNat]?).bind fun xq2 =>
  (atI c1 xq2).bind fun xq3 =>
  (zz61 l0 xq2).bind fun rq4 =>
  (atI c1 rq4.1).bind fun xq5 =>
  cond (decide (xq3 = xq5))
  ((appI list5 [xq2]).bind fun xq6 =>
  rec l0 c1 xq6 t10 t11 (IntKind.i64.wrap (t12 + (1 : Int))))
  (rec l0 c1 list5 t10 t11 (IntKind.i64.wrap (t12 + (1 : Int)))))
  (k list5)
def zz69_a3 (list5 : Y4) : Z1 :=
  some (list5, (()))
def zz69_s (L3 : Y1 → Y4 → Y4 → Y4 → Int → Int → Z1) (l_0 : Y1) (c_1 : Y4) : Z1 :=
  (zz56 l_0).bind fun rq1 =>
  L3 l_0 c_1 [] rq1.1 (rq1.1.length : Int) (0 : Int)
def zz69_l3 (N : Nat) (k : Y4 → Z1) : Nat → Y1 → Y4 → Y4 → Y4 → Int → Int → Z1
  | 0, _, _, _, _, _, _ => none
  | m + 1, l0, c1, list5, t10, t11, t12 => zz69_b3 (zz69_l3 N k m) k l0 c1 list5 t10 t11 t12
def zz69_F3 (N : Nat) (l0 : Y1) (c1 list5 t10 : Y4) (t11 t12 : Int) : Z1 := zz69_l3 N (zz69_a3) N l0 c1 list5 t10 t11 t12
def zz69 (N : Nat) (l_0 : Y1) (c_1 : Y4) : Z1 := zz69_s (zz69_F3 N) l_0 c_1
def S_zz69 : Sig := { a := (.pair (.opt (.pair (.sl (.sl .bool)) (.pair (.sl (.sl I)) (.pair (.sl (.sl I)) .unit)))) (.pair (.sl I) .unit)), md := [0, 0], mf := [], m := .unit, r := (.sl I), rf := (.o .i), f := fun x => zz69 big x.1 x.2.1 }
def A_zz69 : Cfg := mkCfg tab [(18, S_zz56), (80, S_zz61)] [(6, [.as (.opt (.pair (.sl (.sl .bool)) (.pair (.sl (.sl I)) (.pair (.sl (.sl I)) .unit)))) .i, .as (.sl I) .i, .drop, .drop, .drop, .as (.sl I) (.o .i), .drop, .drop, .drop, .drop, .as (.sl I) (.o .i), .as I .i, .as I .i]), (17, [.drop, .drop, .drop, .drop, .drop, .as (.sl I) (.o .i)])]
noncomputable def zz69_R3 (N n : Nat) (K : Ex → St → Z1) (l0 : Y1) (c1 list5 t10 : Y4) (t11 t12 : Int) : Z1 := iter ((A_zz69).shape 6) (run (A_zz69) N (codeAt Tryz.f62 [1, 1, 0, 1, 0, 0])) n ([.val (.opt (.pair (.sl (.sl .bool)) (.pair (.sl (.sl I)) (.pair (.sl (.sl I)) .unit)))) .i l0, .val (.sl I) .i c1, .u, .u, .u, .val (.sl I) (.o .i) list5, .u, .u, .u, .u, .val (.sl I) (.o .i) t10, .val I .i t11, .val I .i t12] ++ List.replicate 20 .u) K
noncomputable abbrev zz69_z : Ex → St → Z1 := finish (A_zz69) S_zz69 Tryz.f62.results.toList
noncomputable abbrev zz69_X3 (kX : St → Z1) : Y4 → Z1 := fun (list5 : Y4) => kX ([.u, .u, .u, .u, .u, .val (.sl I) (.o .i) list5] ++ List.replicate 27 .u)
noncomputable abbrev zz69_E3 (kX : St → Z1) (kO : Nat → St → Z1) : Ex → St → Z1 := exK zz69_z 0 ((A_zz69).shape 17) kX kO
theorem zz69_step3 (N m : Nat) (kX : St → Z1) (kO : Nat → St → Z1) (l0 : Y1) (c1 list5 t10 : Y4) (t11 t12 : Int) : zz69_R3 N (m + 1) (zz69_E3 kX kO) l0 c1 list5 t10 t11 t12 = zz69_b3 (zz69_R3 N m (zz69_E3 kX kO)) (zz69_X3 kX) l0 c1 list5 t10 t11 t12 := by kernel_rfl
theorem zz69_iter3 (N : Nat) (kX : St → Z1) (kO : Nat → St → Z1) : ∀ (n : Nat) (l0 : Y1) (c1 list5 t10 : Y4) (t11 t12 : Int), zz69_R3 N n (zz69_E3 kX kO) l0 c1 list5 t10 t11 t12 = zz69_l3 N (zz69_X3 kX) n l0 c1 list5 t10 t11 t12
  | 0, _, _, _, _, _, _ => rfl
  | m + 1, l0, c1, list5, t10, t11, t12 => by
    have hrec : zz69_R3 N m (zz69_E3 kX kO) = (zz69_l3 N (zz69_X3 kX) m) := (funext fun l0 => (funext fun c1 => (funext fun list5 => (funext fun t10 => (funext fun t11 => (funext fun t12 => zz69_iter3 N kX kO m l0 c1 list5 t10 t11 t12))))))
    refine (zz69_step3 N m kX kO l0 c1 list5 t10 t11 t12).trans ?_
    rw [hrec]
    rfl
noncomputable abbrev zz69_K3 (N : Nat) : Ex → St → Z1 := (blockK 0 (seqK ((A_zz69).shape 17) (run (A_zz69) N (codeAt Tryz.f62 [1, 1, 1])) zz69_z))
noncomputable abbrev zz69_k3 (N : Nat) : St → Z1 := fun st' => run (A_zz69) N (codeAt Tryz.f62 [1, 1, 1]) st' zz69_z
theorem zz69_after3 (N : Nat) (list5 : Y4) : zz69_X3 (zz69_k3 N) list5 = zz69_a3 list5 := by kernel_rfl
theorem zz69_in3 (N : Nat) (l0 : Y1) (c1 list5 t10 : Y4) (t11 t12 : Int) : zz69_R3 N N (zz69_K3 N) l0 c1 list5 t10 t11 t12 = zz69_F3 N l0 c1 list5 t10 t11 t12 :=
  have h : zz69_X3 (zz69_k3 N) = (zz69_a3) := (funext fun list5 => zz69_after3 N list5)
  ((iter_ex (fun st => by kernel_rfl) (fun st => by kernel_rfl)).trans (zz69_iter3 N (zz69_k3 N) (fun j st => (zz69_K3 N) (.exit j) st) N l0 c1 list5 t10 t11 t12)).trans (congrArg (fun k => zz69_l3 N k N l0 c1 list5 t10 t11 t12) h)
theorem run0_zz69 (N : Nat) (x : (S_zz69).a.den) : runF (A_zz69) N Tryz.f62 S_zz69 x = (zz69_s (zz69_R3 N N (zz69_K3 N)) x.1 x.2.1) := by kernel_rfl
theorem run_zz69 (N : Nat) (x : (S_zz69).a.den) : runF (A_zz69) N Tryz.f62 S_zz69 x = zz69 N x.1 x.2.1 := by
  refine (run0_zz69 N x).trans ?_
  rw [(funext fun l0 => (funext fun c1 => (funext fun list5 => (funext fun t10 => (funext fun t11 => (funext fun t12 => zz69_in3 N l0 c1 list5 t10 t11 t12))))))]
  rfl
theorem fn_zz69 : FnOk Tryz.prog 62 := ⟨_, Tryz.func62, by kernel_rfl, by kernel_rfl⟩
theorem good_zz69 : Gx.Good Tryz.prog 62 S_zz69 := good_of_run Tryz.func62 (of_decide_eq_true (by kernel_rfl)) fun x r h => ⟨A_zz69, big, mkCfg_ok tabOk, mkCfg_sigs (show SigsOk Tryz.prog [(18, S_zz56), (80, S_zz61)] from ⟨⟨fn_zz56, good_zz56⟩, ⟨fn_zz61, good_zz61⟩, trivial⟩), (run_zz69 big x).trans h⟩

/-! zz70 -/
def zz70_s (l_0 : Y1) (set_1 : Y4) : Z1 :=
  (zz68 big l_0 set_1).bind fun rq1 =>
  (zz69 big l_0 rq1.1).bind fun rq2 =>
  some (rq2.1, (()))
def zz70 (l_0 : Y1) (set_1 : Y4) : Z1 := zz70_s l_0 set_1
def S_zz70 : Sig := { a := (.pair (.opt (.pair (.sl (.sl .bool)) (.pair (.sl (.sl I)) (.pair (.sl (.sl I)) .unit)))) (.pair (.sl I) .unit)), md := [0, 0], mf := [], m := .unit, r := (.sl I), rf := (.o .i), f := fun x => zz70 x.1 x.2.1 }
def A_zz70 : Cfg := mkCfg tab [(63, S_zz68), (62, S_zz69)] []
theorem run_zz70 (N : Nat) (x : (S_zz70).a.den) : runF (A_zz70) N Tryz.f40 S_zz70 x = zz70 x.1 x.2.1 := by kernel_rfl
theorem fn_zz70 : FnOk Tryz.prog 40 := ⟨_, Tryz.func40, by kernel_rfl, by kernel_rfl⟩
theorem good_zz70 : Gx.Good Tryz.prog 40 S_zz70 := good_of_run Tryz.func40 (of_decide_eq_true (by kernel_rfl)) fun x r h => ⟨A_zz70, big, mkCfg_ok tabOk, mkCfg_sigs (show SigsOk Tryz.prog [(63, S_zz68), (62, S_zz69)] from ⟨⟨fn_zz68, good_zz68⟩, ⟨fn_zz69, good_zz69⟩, trivial⟩), (run_zz70 big x).trans h⟩

/-! zz71 -/
def zz71_b2 (rec : Int → Y4 → Int → Int → Z0) (k : Z0) (x1 : Int) (t7 : Y4) (t8 t9 : Int) : Z0 :=
  cond (decide (t9 < t8))
  ((atI t7 t9).bind fun xq1 =>
  cond (decide (x1 = xq1))
  (some (false, (())))
  (rec x1 t7 t8 (IntKind.i64.wrap (t9 + (1 : Int)))))
  (k)
def zz71_a2 : Z0 :=
  some (true, (()))
def zz71_s (L2 : Int → Y4 → Int → Int → Z0) (list_0 : Y4) (x_1 : Int) : Z0 :=
  L2 x_1 list_0 (list_0.length : Int) (0 : Int)
def zz71_l2 (N : Nat) (k : Z0) : Nat → Int → Y4 → Int → Int → Z0
  | 0, _, _, _, _ => none
  | m + 1, x1, t7, t8, t9 => zz71_b2 (zz71_l2 N k m) k x1 t7 t8 t9
def zz71_F2 (N : Nat) (x1 : Int) (t7 : Y4) (t8 t9 : Int) : Z0 := zz71_l2 N (zz71_a2) N x1 t7 t8 t9
def zz71 (N : Nat) (list_0 : Y4) (x_1 : Int) : Z0 := zz71_s (zz71_F2 N) list_0 x_1
def S_zz71 : Sig := { a := (.pair (.sl I) (.pair I .unit)), md := [0, 0], mf := [], m := .unit, r := .bool, rf := .i, f := fun x => zz71 big x.1 x.2.1 }
def A_zz71 : Cfg := mkCfg tab [] [(4, [.drop, .as I .i, .drop, .drop, .drop, .drop, .drop, .as (.sl I) .i, .as I .i, .as I .i]), (15, [])]
noncomputable def zz71_R2 (N n : Nat) (K : Ex → St → Z0) (x1 : Int) (t7 : Y4) (t8 t9 : Int) : Z0 := iter ((A_zz71).shape 4) (run (A_zz71) N (codeAt Tryz.f61 [1, 0, 1, 0, 0])) n ([.u, .val I .i x1, .u, .u, .u, .u, .u, .val (.sl I) .i t7, .val I .i t8, .val I .i t9] ++ List.replicate 7 .u) K
noncomputable abbrev zz71_z : Ex → St → Z0 := finish (A_zz71) S_zz71 Tryz.f61.results.toList
noncomputable abbrev zz71_X2 (kX : St → Z0) : Z0 := kX ([] ++ List.replicate 17 .u)
noncomputable abbrev zz71_E2 (kX : St → Z0) (kO : Nat → St → Z0) : Ex → St → Z0 := exK zz71_z 0 ((A_zz71).shape 15) kX kO
theorem zz71_step2 (N m : Nat) (kX : St → Z0) (kO : Nat → St → Z0) (x1 : Int) (t7 : Y4) (t8 t9 : Int) : zz71_R2 N (m + 1) (zz71_E2 kX kO) x1 t7 t8 t9 = zz71_b2 (zz71_R2 N m (zz71_E2 kX kO)) (zz71_X2 kX) x1 t7 t8 t9 := by kernel_rfl
theorem zz71_iter2 (N : Nat) (kX : St → Z0) (kO : Nat → St → Z0) : ∀ (n : Nat) (x1 : Int) (t7 : Y4) (t8 t9 : Int), zz71_R2 N n (zz71_E2 kX kO) x1 t7 t8 t9 = zz71_l2 N (zz71_X2 kX) n x1 t7 t8 t9
  | 0, _, _, _, _ => rfl
  | m + 1, x1, t7, t8, t9 => by
    have hrec : zz71_R2 N m (zz71_E2 kX kO) = (zz71_l2 N (zz71_X2 kX) m) := (funext fun x1 => (funext fun t7 => (funext fun t8 => (funext fun t9 => zz71_iter2 N kX kO m x1 t7 t8 t9))))
    refine (zz71_step2 N m kX kO x1 t7 t8 t9).trans ?_
    rw [hrec]
    rfl
noncomputable abbrev zz71_K2 (N : Nat) : Ex → St → Z0 := (blockK 0 (seqK ((A_zz71).shape 15) (run (A_zz71) N (codeAt Tryz.f61 [1, 1])) zz71_z))
noncomputable abbrev zz71_k2 (N : Nat) : St → Z0 := fun st' => run (A_zz71) N (codeAt Tryz.f61 [1, 1]) st' zz71_z
theorem zz71_after2 (N : Nat) : zz71_X2 (zz71_k2 N) = zz71_a2 := by kernel_rfl
theorem zz71_in2 (N : Nat) (x1 : Int) (t7 : Y4) (t8 t9 : Int) : zz71_R2 N N (zz71_K2 N) x1 t7 t8 t9 = zz71_F2 N x1 t7 t8 t9 :=
  have h : zz71_X2 (zz71_k2 N) = (zz71_a2) := zz71_after2 N
  ((iter_ex (fun st => by kernel_rfl) (fun st => by kernel_rfl)).trans (zz71_iter2 N (zz71_k2 N) (fun j st => (zz71_K2 N) (.exit j) st) N x1 t7 t8 t9)).trans (congrArg (fun k => zz71_l2 N k N x1 t7 t8 t9) h)
theorem run0_zz71 (N : Nat) (x : (S_zz71).a.den) : runF (A_zz71) N Tryz.f61 S_zz71 x = (zz71_s (zz71_R2 N N (zz71_K2 N)) x.1 x.2.1) := by kernel_rfl
theorem run_zz71 (N : Nat) (x : (S_zz71).a.den) : runF (A_zz71) N Tryz.f61 S_zz71 x = zz71 N x.1 x.2.1 := by
  refine (run0_zz71 N x).trans ?_
  rw [(funext fun x1 => (funext fun t7 => (funext fun t8 => (funext fun t9 => zz71_in2 N x1 t7 t8 t9))))]
  rfl
theorem fn_zz71 : FnOk Tryz.prog 61 := ⟨_, Tryz.func61, by kernel_rfl, by kernel_rfl⟩
theorem good_zz71 : Gx.Good Tryz.prog 61 S_zz71 := good_of_run Tryz.func61 (of_decide_eq_true (by kernel_rfl)) fun x r h => ⟨A_zz71, big, mkCfg_ok tabOk, mkCfg_sigs (show SigsOk Tryz.prog [] from trivial), (run_zz71 big x).trans h⟩

/-! zz72 -/
def zz72_b2 (rec : Y4 → Y4 → Int → Int → Z0) (k : Z0) (y1 t7 : Y4) (t8 t9 : Int) : Z0 :=
  cond (decide (t9 < t8))
  ((atI t7 t9).bind fun xq1 =>
  (zz71 big y1 xq1).bind fun rq2 =>
  cond rq2.1
  (some (false, (())))
  (rec y1 t7 t8 (IntKind.i64.wrap (t9 + (1 : Int)))))
  (k)
def zz72_a2 : Z0 :=
  some (true, (()))
def zz72_s (L2 : Y4 → Y4 → Int → Int → Z0) (x_0 y_1 : Y4) : Z0 :=
  L2 y_1 x_0 (x_0.length : Int) (0 : Int)
def zz72_l2 (N : Nat) (k : Z0) : Nat → Y4 → Y4 → Int → Int → Z0
  | 0, _, _, _, _ => none
  | m + 1, y1, t7, t8, t9 => zz72_b2 (zz72_l2 N k m) k y1 t7 t8 t9
def zz72_F2 (N : Nat) (y1 t7 : Y4) (t8 t9 : Int) : Z0 := zz72_l2 N (zz72_a2) N y1 t7 t8 t9
def zz72 (N : Nat) (x_0 y_1 : Y4) : Z0 := zz72_s (zz72_F2 N) x_0 y_1
def S_zz72 : Sig := { a := (.pair (.sl I) (.pair (.sl I) .unit)), md := [0, 0], mf := [], m := .unit, r := .bool, rf := .i, f := fun x => zz72 big x.1 x.2.1 }
def A_zz72 : Cfg := mkCfg tab [(61, S_zz71)] [(4, [.drop, .as (.sl I) .i, .drop, .drop, .drop, .drop, .drop, .as (.sl I) .i, .as I .i, .as I .i]), (15, [])]
noncomputable def zz72_R2 (N n : Nat) (K : Ex → St → Z0) (y1 t7 : Y4) (t8 t9 : Int) : Z0 := iter ((A_zz72).shape 4) (run (A_zz72) N (codeAt Tryz.f39 [1, 0, 1, 0, 0])) n ([.u, .val (.sl I) .i y1, .u, .u, .u, .u, .u, .val (.sl I) .i t7, .val I .i t8, .val I .i t9] ++ List.replicate 7 .u) K
noncomputable abbrev zz72_z : Ex → St → Z0 := finish (A_zz72) S_zz72 Tryz.f39.results.toList
noncomputable abbrev zz72_X2 (kX : St → Z0) : Z0 := kX ([] ++ List.replicate 17 .u)
noncomputable abbrev zz72_E2 (kX : St → Z0) (kO : Nat → St → Z0) : Ex → St → Z0 := exK zz72_z 0 ((A_zz72).shape 15) kX kO
theorem zz72_step2 (N m : Nat) (kX : St → Z0) (kO : Nat → St → Z0) (y1 t7 : Y4) (t8 t9 : Int) : zz72_R2 N (m + 1) (zz72_E2 kX kO) y1 t7 t8 t9 = zz72_b2 (zz72_R2 N m (zz72_E2 kX kO)) (zz72_X2 kX) y1 t7 t8 t9 := by kernel_rfl
theorem zz72_iter2 (N : Nat) (kX : St → Z0) (kO : Nat → St → Z0) : ∀ (n : Nat) (y1 t7 : Y4) (t8 t9 : Int), zz72_R2 N n (zz72_E2 kX kO) y1 t7 t8 t9 = zz72_l2 N (zz72_X2 kX) n y1 t7 t8 t9
  | 0, _, _, _, _ => rfl
  | m + 1, y1, t7, t8, t9 => by
    have hrec : zz72_R2 N m (zz72_E2 kX kO) = (zz72_l2 N (zz72_X2 kX) m) := (funext fun y1 => (funext fun t7 => (funext fun t8 => (funext fun t9 => zz72_iter2 N kX kO m y1 t7 t8 t9))))
    refine (zz72_step2 N m kX kO y1 t7 t8 t9).trans ?_
    rw [hrec]
    rfl
noncomputable abbrev zz72_K2 (N : Nat) : Ex → St → Z0 := (blockK 0 (seqK ((A_zz72).shape 15) (run (A_zz72) N (codeAt Tryz.f39 [1, 1])) zz72_z))
noncomputable abbrev zz72_k2 (N : Nat) : St → Z0 := fun st' => run (A_zz72) N (codeAt Tryz.f39 [1, 1]) st' zz72_z
theorem zz72_after2 (N : Nat) : zz72_X2 (zz72_k2 N) = zz72_a2 := by kernel_rfl
theorem zz72_in2 (N : Nat) (y1 t7 : Y4) (t8 t9 : Int) : zz72_R2 N N (zz72_K2 N) y1 t7 t8 t9 = zz72_F2 N y1 t7 t8 t9 :=
  have h : zz72_X2 (zz72_k2 N) = (zz72_a2) := zz72_after2 N
  ((iter_ex (fun st => by kernel_rfl) (fun st => by kernel_rfl)).trans (zz72_iter2 N (zz72_k2 N) (fun j st => (zz72_K2 N) (.exit j) st) N y1 t7 t8 t9)).trans (congrArg (fun k => zz72_l2 N k N y1 t7 t8 t9) h)
theorem run0_zz72 (N : Nat) (x : (S_zz72).a.den) : runF (A_zz72) N Tryz.f39 S_zz72 x = (zz72_s (zz72_R2 N N (zz72_K2 N)) x.1 x.2.1) := by kernel_rfl
theorem run_zz72 (N : Nat) (x : (S_zz72).a.den) : runF (A_zz72) N Tryz.f39 S_zz72 x = zz72 N x.1 x.2.1 := by
  refine (run0_zz72 N x).trans ?_
  rw [(funext fun y1 => (funext fun t7 => (funext fun t8 => (funext fun t9 => zz72_in2 N y1 t7 t8 t9))))]
  rfl
theorem fn_zz72 : FnOk Tryz.prog 39 := ⟨_, Tryz.func39, by kernel_rfl, by kernel_rfl⟩
theorem good_zz72 : Gx.Good Tryz.prog 39 S_zz72 := good_of_run Tryz.func39 (of_decide_eq_true (by kernel_rfl)) fun x r h => ⟨A_zz72, big, mkCfg_ok tabOk, mkCfg_sigs (show SigsOk Tryz.prog [(61, S_zz71)] from ⟨⟨fn_zz71, good_zz71⟩, trivial⟩), (run_zz72 big x).trans h⟩

/-! zz73 -/
def zz73_b2 (rec : Y1 → Y4 → Y4 → Int → Int → Z0) (k : Y4 → Z0) (l0 : Y1) (set1 t7 : Y4) (t8 t9 : Int) : Z0 :=
  cond (decide (t9 < t8))
  ((atI t7 t9).bind fun xq1 =>
  (zz60 l0 xq1).bind fun rq2 =>
  cond (!rq2.1)
  (some (false, (())))
  ((zz70 l0 [xq1]).bind fun rq3 =>
  (zz72 big rq3.1 set1).bind fun rq4 =>
  cond (!rq4.1)
  (some (false, (())))
  (rec l0 set1 t7 t8 (IntKind.i64.wrap (t9 + (1 : Int))))))
  (k set1)
def zz73_a2 (set1 : Y4) : Z0 :=
  (zz38 big set1).bind fun rq5 =>
  some (rq5.1, (()))
def zz73_s (L2 : Y1 → Y4 → Y4 → Int → Int → Z0) (l_0 : Y1) (set_1 : Y4) : Z0 :=
  L2 l_0 set_1 set_1 (set_1.length : Int) (0 : Int)
def zz73_l2 (N : Nat) (k : Y4 → Z0) : Nat → Y1 → Y4 → Y4 → Int → Int → Z0
  | 0, _, _, _, _, _ => none
  | m + 1, l0, set1, t7, t8, t9 => zz73_b2 (zz73_l2 N k m) k l0 set1 t7 t8 t9
def zz73_F2 (N : Nat) (l0 : Y1) (set1 t7 : Y4) (t8 t9 : Int) : Z0 := zz73_l2 N (zz73_a2) N l0 set1 t7 t8 t9
def zz73 (N : Nat) (l_0 : Y1) (set_1 : Y4) : Z0 := zz73_s (zz73_F2 N) l_0 set_1
def S_zz73 : Sig := { a := (.pair (.opt (.pair (.sl (.sl .bool)) (.pair (.sl (.sl I)) (.pair (.sl (.sl I)) .unit)))) (.pair (.sl I) .unit)), md := [0, 0], mf := [], m := .unit, r := .bool, rf := .i, f := fun x => zz73 big x.1 x.2.1 }
def A_zz73 : Cfg := mkCfg tab [(38, S_zz60), (40, S_zz70), (39, S_zz72), (41, S_zz38)] [(4, [.as (.opt (.pair (.sl (.sl .bool)) (.pair (.sl (.sl I)) (.pair (.sl (.sl I)) .unit)))) .i, .as (.sl I) .i, .drop, .drop, .drop, .drop, .drop, .as (.sl I) .i, .as I .i, .as I .i]), (15, [.drop, .as (.sl I) .i])]
noncomputable def zz73_R2 (N n : Nat) (K : Ex → St → Z0) (l0 : Y1) (set1 t7 : Y4) (t8 t9 : Int) : Z0 := iter ((A_zz73).shape 4) (run (A_zz73) N (codeAt Tryz.f21 [1, 0, 1, 0, 0])) n ([.val (.opt (.pair (.sl (.sl .bool)) (.pair (.sl (.sl I)) (.pair (.sl (.sl I)) .unit)))) .i l0, .val (.sl I) .i set1, .u, .u, .u, .u, .u, .val (.sl I) .i t7, .val I .i t8, .val I .i t9] ++ List.replicate 19 .u) K
noncomputable abbrev zz73_z : Ex → St → Z0 := finish (A_zz73) S_zz73 Tryz.f21.results.toList
noncomputable abbrev zz73_X2 (kX : St → Z0) : Y4 → Z0 := fun (set1 : Y4) => kX ([.u, .val (.sl I) .i set1] ++ List.replicate 27 .u)
noncomputable abbrev zz73_E2 (kX : St → Z0) (kO : Nat → St → Z0) : Ex → St → Z0 := exK zz73_z 0 ((A_zz73).shape 15) kX kO
theorem zz73_step2 (N m : Nat) (kX : St → Z0) (kO : Nat → St → Z0) (l0 : Y1) (set1 t7 : Y4) (t8 t9 : Int) : zz73_R2 N (m + 1) (zz73_E2 kX kO) l0 set1 t7 t8 t9 = zz73_b2 (zz73_R2 N m (zz73_E2 kX kO)) (zz73_X2 kX) l0 set1 t7 t8 t9 := by kernel_rfl
theorem zz73_iter2 (N : Nat) (kX : St → Z0) (kO : Nat → St → Z0) : ∀ (n : Nat) (l0 : Y1) (set1 t7 : Y4) (t8 t9 : Int), zz73_R2 N n (zz73_E2 kX kO) l0 set1 t7 t8 t9 = zz73_l2 N (zz73_X2 kX) n l0 set1 t7 t8 t9
  | 0, _, _, _, _, _ => rfl
  | m + 1, l0, set1, t7, t8, t9 => by
    have hrec : zz73_R2 N m (zz73_E2 kX kO) = (zz73_l2 N (zz73_X2 kX) m) := (funext fun l0 => (funext fun set1 => (funext fun t7 => (funext fun t8 => (funext fun t9 => zz73_iter2 N kX kO m l0 set1 t7 t8 t9)))))
    refine (zz73_step2 N m kX kO l0 set1 t7 t8 t9).trans ?_
    rw [hrec]
    rfl
noncomputable abbrev zz73_K2 (N : Nat) : Ex → St → Z0 := (blockK 0 (seqK ((A_zz73).shape 15) (run (A_zz73) N (codeAt Tryz.f21 [1, 1])) zz73_z))
noncomputable abbrev zz73_k2 (N : Nat) : St → Z0 := fun st' => run (A_zz73) N (codeAt Tryz.f21 [1, 1]) st' zz73_z
theorem zz73_after2 (N : Nat) (set1 : Y4) : zz73_X2 (zz73_k2 N) set1 = zz73_a2 set1 := by kernel_rfl
theorem zz73_in2 (N : Nat) (l0 : Y1) (set1 t7 : Y4) (t8 t9 : Int) : zz73_R2 N N (zz73_K2 N) l0 set1 t7 t8 t9 = zz73_F2 N l0 set1 t7 t8 t9 :=
  have h : zz73_X2 (zz73_k2 N) = (zz73_a2) := (funext fun set1 => zz73_after2 N set1)
  ((iter_ex (fun st => by kernel_rfl) (fun st => by kernel_rfl)).trans (zz73_iter2 N (zz73_k2 N) (fun j st => (zz73_K2 N) (.exit j) st) N l0 set1 t7 t8 t9)).trans (congrArg (fun k => zz73_l2 N k N l0 set1 t7 t8 t9) h)
theorem run0_zz73 (N : Nat) (x : (S_zz73).a.den) : runF (A_zz73) N Tryz.f21 S_zz73 x = (zz73_s (zz73_R2 N N (zz73_K2 N)) x.1 x.2.1) := by kernel_rfl
theorem run_zz73 (N : Nat) (x : (S_zz73).a.den) : runF (A_zz73) N Tryz.f21 S_zz73 x = zz73 N x.1 x.2.1 := by
  refine (run0_zz73 N x).trans ?_
  rw [(funext fun l0 => (funext fun set1 => (funext fun t7 => (funext fun t8 => (funext fun t9 => zz73_in2 N l0 set1 t7 t8 t9)))))]
  rfl
theorem fn_zz73 : FnOk Tryz.prog 21 := ⟨_, Tryz.func21, by kernel_rfl, by kernel_rfl⟩
theorem good_zz73 : Gx.Good Tryz.prog 21 S_zz73 := good_of_run Tryz.func21 (of_decide_eq_true (by kernel_rfl)) fun x r h => ⟨A_zz73, big, mkCfg_ok tabOk, mkCfg_sigs (show SigsOk Tryz.prog [(38, S_zz60), (40, S_zz70), (39, S_zz72), (41, S_zz38)] from ⟨⟨fn_zz60, good_zz60⟩, ⟨fn_zz70, good_zz70⟩, ⟨fn_zz72, good_zz72⟩, ⟨fn_zz38, good_zz38⟩, trivial⟩), (run_zz73 big x).trans h⟩
end Go.Proofs.YtlndlclemhfekaaGreat
