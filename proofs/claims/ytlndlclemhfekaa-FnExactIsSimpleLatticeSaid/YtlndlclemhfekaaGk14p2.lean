import Derived.Test.YtlndlclemhfekaaGk14p1
set_option maxRecDepth 100000
set_option linter.unusedVariables false
namespace Go.Proofs.Ytlndlclemhfekaa
open Go Go.Gx Go.Proofs

/-! zz38 -/
def zz38_b12 (rec : Y5 → Int → Int → Int → Int → Int → Int → Int → Int → Z0) (k : Y5 → Int → Int → Int → Int → Int → Z0) (o0 : Y5) (x3 y4 t7 t8 t20 t21 t46 t47 : Int) : Z0 :=
  cond (decide (t47 < t46))
  ((atI o0 x3).bind fun xq7 =>
  (atI xq7 y4).bind fun xq8 =>
  cond xq8
  ((atI o0 y4).bind fun xq9 =>
  (atI xq9 t47).bind fun xq10 =>
  cond xq10
  ((atI o0 x3).bind fun xq11 =>
  (atI xq11 t47).bind fun xq12 =>
  cond (!xq12)
  (some (false, (())))
  (rec o0 x3 y4 t7 t8 t20 t21 t46 (IntKind.i64.wrap (t47 + (1 : Int)))))
  (rec o0 x3 y4 t7 t8 t20 t21 t46 (IntKind.i64.wrap (t47 + (1 : Int)))))
  (rec o0 x3 y4 t7 t8 t20 t21 t46 (IntKind.i64.wrap (t47 + (1 : Int)))))
  (k o0 x3 t7 t8 t20 t21)
def zz38_a12 (rec : Y5 → Int → Int → Int → Int → Int → Z0) (o0 : Y5) (x3 t7 t8 t20 t21 : Int) : Z0 :=
  rec o0 x3 t7 t8 t20 (IntKind.i64.wrap (t21 + (1 : Int)))
def zz38_b7 (L12 : Y5 → Int → Int → Int → Int → Int → Int → Int → Int → Z0) (k : Y5 → Int → Int → Z0) (o0 : Y5) (x3 t7 t8 t20 t21 : Int) : Z0 :=
  cond (decide (t21 < t20))
  (cond (decide (x3 ≠ t21))
  ((atI o0 x3).bind fun xq3 =>
  (atI xq3 t21).bind fun xq4 =>
  cond xq4
  ((atI o0 t21).bind fun xq5 =>
  (atI xq5 x3).bind fun xq6 =>
  cond xq6
  (some (false, (())))
  (L12 o0 x3 t21 t7 t8 t20 t21 (o0.length : Int) (0 : Int)))
  (L12 o0 x3 t21 t7 t8 t20 t21 (o0.length : Int) (0 : Int)))
  (L12 o0 x3 t21 t7 t8 t20 t21 (o0.length : Int) (0 : Int)))
  (k o0 t7 t8)
def zz38_a7 (rec : Y5 → Int → Int → Z0) (o0 : Y5) (t7 t8 : Int) : Z0 :=
  rec o0 t7 (IntKind.i64.wrap (t8 + (1 : Int)))
def zz38_b2 (L7 : Y5 → Int → Int → Int → Int → Int → Z0) (k : Z0) (o0 : Y5) (t7 t8 : Int) : Z0 :=
  cond (decide (t8 < t7))
  ((atI o0 t8).bind fun xq1 =>
  (atI xq1 t8).bind fun xq2 =>
  cond (!xq2)
  (some (false, (())))
  (L7 o0 t8 t7 t8 (o0.length : Int) (0 : Int)))
  (k)
def zz38_a2 : Z0 :=
  some (true, (()))
def zz38_s (L2 : Y5 → Int → Int → Z0) (o_0 : Y5) : Z0 :=
  L2 o_0 (o_0.length : Int) (0 : Int)
def zz38_l12 (N : Nat) (k : Y5 → Int → Int → Int → Int → Int → Z0) : Nat → Y5 → Int → Int → Int → Int → Int → Int → Int → Int → Z0
  | 0, _, _, _, _, _, _, _, _, _ => none
  | m + 1, o0, x3, y4, t7, t8, t20, t21, t46, t47 => zz38_b12 (zz38_l12 N k m) k o0 x3 y4 t7 t8 t20 t21 t46 t47
def zz38_F12 (N : Nat) (rec : Y5 → Int → Int → Int → Int → Int → Z0) (k : Y5 → Int → Int → Z0) (o0 : Y5) (x3 y4 t7 t8 t20 t21 t46 t47 : Int) : Z0 := zz38_l12 N (zz38_a12 rec) N o0 x3 y4 t7 t8 t20 t21 t46 t47
def zz38_l7 (N : Nat) (k : Y5 → Int → Int → Z0) : Nat → Y5 → Int → Int → Int → Int → Int → Z0
  | 0, _, _, _, _, _, _ => none
  | m + 1, o0, x3, t7, t8, t20, t21 => zz38_b7 (zz38_F12 N (zz38_l7 N k m) k) k o0 x3 t7 t8 t20 t21
def zz38_F7 (N : Nat) (rec : Y5 → Int → Int → Z0) (k : Z0) (o0 : Y5) (x3 t7 t8 t20 t21 : Int) : Z0 := zz38_l7 N (zz38_a7 rec) N o0 x3 t7 t8 t20 t21
def zz38_l2 (N : Nat) (k : Z0) : Nat → Y5 → Int → Int → Z0
  | 0, _, _, _ => none
  | m + 1, o0, t7, t8 => zz38_b2 (zz38_F7 N (zz38_l2 N k m) k) k o0 t7 t8
def zz38_F2 (N : Nat) (o0 : Y5) (t7 t8 : Int) : Z0 := zz38_l2 N (zz38_a2) N o0 t7 t8
def zz38 (N : Nat) (o_0 : Y5) : Z0 := zz38_s (zz38_F2 N) o_0
def S_zz38 : Sig := { a := (.pair (.sl (.sl .bool)) .unit), md := [0], mf := [], m := .unit, r := .bool, rf := .i, f := fun x => zz38 big x.1 }
def A_zz38 : Cfg := mkCfg tab [] [(4, [.as (.sl (.sl .bool)) .i, .drop, .drop, .drop, .drop, .drop, .drop, .as I .i, .as I .i]), (14, [.as (.sl (.sl .bool)) .i, .drop, .drop, .as I .i, .drop, .drop, .drop, .as I .i, .as I .i, .drop, .drop, .drop, .drop, .drop, .drop, .drop, .drop, .drop, .drop, .drop, .as I .i, .as I .i]), (39, []), (24, [.as (.sl (.sl .bool)) .i, .drop, .drop, .as I .i, .as I .i, .drop, .drop, .as I .i, .as I .i, .drop, .drop, .drop, .drop, .drop, .drop, .drop, .drop, .drop, .drop, .drop, .as I .i, .as I .i, .drop, .drop, .drop, .drop, .drop, .drop, .drop, .drop, .drop, .drop, .drop, .drop, .drop, .drop, .drop, .drop, .drop, .drop, .drop, .drop, .drop, .drop, .drop, .drop, .as I .i, .as I .i]), (37, [.as (.sl (.sl .bool)) .i, .drop, .drop, .drop, .drop, .drop, .drop, .as I .i, .as I .i]), (35, [.as (.sl (.sl .bool)) .i, .drop, .drop, .as I .i, .drop, .drop, .drop, .as I .i, .as I .i, .drop, .drop, .drop, .drop, .drop, .drop, .drop, .drop, .drop, .drop, .drop, .as I .i, .as I .i])]
noncomputable def zz38_R2 (N n : Nat) (K : Ex → St → Z0) (o0 : Y5) (t7 t8 : Int) : Z0 := iter ((A_zz38).shape 4) (run (A_zz38) N (codeAt Try.f94 [1, 0, 1, 0, 0])) n ([.val (.sl (.sl .bool)) .i o0, .u, .u, .u, .u, .u, .u, .val I .i t7, .val I .i t8] ++ List.replicate 70 .u) K
noncomputable def zz38_R7 (N n : Nat) (K : Ex → St → Z0) (o0 : Y5) (x3 t7 t8 t20 t21 : Int) : Z0 := iter ((A_zz38).shape 14) (run (A_zz38) N (codeAt Try.f94 [1, 0, 1, 0, 0, 1, 1, 0, 0, 1, 1, 1, 0, 0])) n ([.val (.sl (.sl .bool)) .i o0, .u, .u, .val I .i x3, .u, .u, .u, .val I .i t7, .val I .i t8, .u, .u, .u, .u, .u, .u, .u, .u, .u, .u, .u, .val I .i t20, .val I .i t21] ++ List.replicate 57 .u) K
noncomputable def zz38_R12 (N n : Nat) (K : Ex → St → Z0) (o0 : Y5) (x3 y4 t7 t8 t20 t21 t46 t47 : Int) : Z0 := iter ((A_zz38).shape 24) (run (A_zz38) N (codeAt Try.f94 [1, 0, 1, 0, 0, 1, 1, 0, 0, 1, 1, 1, 0, 0, 1, 1, 0, 0, 1, 1, 1, 0, 0])) n ([.val (.sl (.sl .bool)) .i o0, .u, .u, .val I .i x3, .val I .i y4, .u, .u, .val I .i t7, .val I .i t8, .u, .u, .u, .u, .u, .u, .u, .u, .u, .u, .u, .val I .i t20, .val I .i t21, .u, .u, .u, .u, .u, .u, .u, .u, .u, .u, .u, .u, .u, .u, .u, .u, .u, .u, .u, .u, .u, .u, .u, .u, .val I .i t46, .val I .i t47] ++ List.replicate 31 .u) K
noncomputable abbrev zz38_z : Ex → St → Z0 := finish (A_zz38) S_zz38 Try.f94.results.toList
noncomputable abbrev zz38_X2 (kX : St → Z0) : Z0 := kX ([] ++ List.replicate 79 .u)
noncomputable abbrev zz38_E2 (kX : St → Z0) (kO : Nat → St → Z0) : Ex → St → Z0 := exK zz38_z 0 ((A_zz38).shape 39) kX kO
noncomputable abbrev zz38_X7 (kX : St → Z0) : Y5 → Int → Int → Z0 := fun (o0 : Y5) (t7 t8 : Int) => kX ([.val (.sl (.sl .bool)) .i o0, .u, .u, .u, .u, .u, .u, .val I .i t7, .val I .i t8] ++ List.replicate 70 .u)
noncomputable abbrev zz38_E7 (kX : St → Z0) (kO : Nat → St → Z0) : Ex → St → Z0 := exK zz38_z 2 ((A_zz38).shape 37) kX kO
noncomputable abbrev zz38_X12 (kX : St → Z0) : Y5 → Int → Int → Int → Int → Int → Z0 := fun (o0 : Y5) (x3 t7 t8 t20 t21 : Int) => kX ([.val (.sl (.sl .bool)) .i o0, .u, .u, .val I .i x3, .u, .u, .u, .val I .i t7, .val I .i t8, .u, .u, .u, .u, .u, .u, .u, .u, .u, .u, .u, .val I .i t20, .val I .i t21] ++ List.replicate 57 .u)
noncomputable abbrev zz38_E12 (kX : St → Z0) (kO : Nat → St → Z0) : Ex → St → Z0 := exK zz38_z 4 ((A_zz38).shape 35) kX kO
theorem zz38_step12 (N m : Nat) (kX : St → Z0) (kO : Nat → St → Z0) (o0 : Y5) (x3 y4 t7 t8 t20 t21 t46 t47 : Int) : zz38_R12 N (m + 1) (zz38_E12 kX kO) o0 x3 y4 t7 t8 t20 t21 t46 t47 = zz38_b12 (zz38_R12 N m (zz38_E12 kX kO)) (zz38_X12 kX) o0 x3 y4 t7 t8 t20 t21 t46 t47 := by kernel_rfl
theorem zz38_iter12 (N : Nat) (kX : St → Z0) (kO : Nat → St → Z0) : ∀ (n : Nat) (o0 : Y5) (x3 y4 t7 t8 t20 t21 t46 t47 : Int), zz38_R12 N n (zz38_E12 kX kO) o0 x3 y4 t7 t8 t20 t21 t46 t47 = zz38_l12 N (zz38_X12 kX) n o0 x3 y4 t7 t8 t20 t21 t46 t47
  | 0, _, _, _, _, _, _, _, _, _ => rfl
  | m + 1, o0, x3, y4, t7, t8, t20, t21, t46, t47 => by
    have hrec : zz38_R12 N m (zz38_E12 kX kO) = (zz38_l12 N (zz38_X12 kX) m) := (funext fun o0 => (funext fun x3 => (funext fun y4 => (funext fun t7 => (funext fun t8 => (funext fun t20 => (funext fun t21 => (funext fun t46 => (funext fun t47 => zz38_iter12 N kX kO m o0 x3 y4 t7 t8 t20 t21 t46 t47)))))))))
    refine (zz38_step12 N m kX kO o0 x3 y4 t7 t8 t20 t21 t46 t47).trans ?_
    rw [hrec]
    rfl
noncomputable abbrev zz38_K12 (N m : Nat) (kX : St → Z0) (kO : Nat → St → Z0) : Ex → St → Z0 := (blockK 4 (blockK 3 (seqK ((A_zz38).shape 35) (run (A_zz38) N (codeAt Try.f94 [1, 0, 1, 0, 0, 1, 1, 0, 0, 1, 1, 1, 0, 0, 1, 1, 1])) (iterK ((A_zz38).shape 14) (run (A_zz38) N (codeAt Try.f94 [1, 0, 1, 0, 0, 1, 1, 0, 0, 1, 1, 1, 0, 0])) m (zz38_E7 kX kO)))))
noncomputable abbrev zz38_k12 (N m : Nat) (kX : St → Z0) (kO : Nat → St → Z0) : St → Z0 := fun st' => run (A_zz38) N (codeAt Try.f94 [1, 0, 1, 0, 0, 1, 1, 0, 0, 1, 1, 1, 0, 0, 1, 1, 1]) st' (iterK ((A_zz38).shape 14) (run (A_zz38) N (codeAt Try.f94 [1, 0, 1, 0, 0, 1, 1, 0, 0, 1, 1, 1, 0, 0])) m (zz38_E7 kX kO))
theorem zz38_after12 (N m : Nat) (kX : St → Z0) (kO : Nat → St → Z0) (o0 : Y5) (x3 t7 t8 t20 t21 : Int) : zz38_X12 (zz38_k12 N m kX kO) o0 x3 t7 t8 t20 t21 = zz38_a12 (zz38_R7 N m (zz38_E7 kX kO)) o0 x3 t7 t8 t20 t21 := by kernel_rfl
theorem zz38_in12 (N m : Nat) (kX : St → Z0) (kO : Nat → St → Z0) (recF : Y5 → Int → Int → Int → Int → Int → Z0) (hrec : zz38_R7 N m (zz38_E7 kX kO) = recF) (o0 : Y5) (x3 y4 t7 t8 t20 t21 t46 t47 : Int) : zz38_R12 N N (zz38_K12 N m kX kO) o0 x3 y4 t7 t8 t20 t21 t46 t47 = zz38_F12 N recF (zz38_X7 kX) o0 x3 y4 t7 t8 t20 t21 t46 t47 :=
  have h : zz38_X12 (zz38_k12 N m kX kO) = (zz38_a12 recF) := (funext fun o0 => (funext fun x3 => (funext fun t7 => (funext fun t8 => (funext fun t20 => (funext fun t21 => (zz38_after12 N m kX kO o0 x3 t7 t8 t20 t21).trans (by rw [hrec])))))))
  ((iter_ex (fun st => by kernel_rfl) (fun st => by kernel_rfl)).trans (zz38_iter12 N (zz38_k12 N m kX kO) (fun j st => (zz38_K12 N m kX kO) (.exit j) st) N o0 x3 y4 t7 t8 t20 t21 t46 t47)).trans (congrArg (fun k => zz38_l12 N k N o0 x3 y4 t7 t8 t20 t21 t46 t47) h)
theorem zz38_step7 (N m : Nat) (kX : St → Z0) (kO : Nat → St → Z0) (o0 : Y5) (x3 t7 t8 t20 t21 : Int) : zz38_R7 N (m + 1) (zz38_E7 kX kO) o0 x3 t7 t8 t20 t21 = zz38_b7 (zz38_R12 N N (zz38_K12 N m kX kO)) (zz38_X7 kX) o0 x3 t7 t8 t20 t21 := by kernel_rfl
theorem zz38_iter7 (N : Nat) (kX : St → Z0) (kO : Nat → St → Z0) : ∀ (n : Nat) (o0 : Y5) (x3 t7 t8 t20 t21 : Int), zz38_R7 N n (zz38_E7 kX kO) o0 x3 t7 t8 t20 t21 = zz38_l7 N (zz38_X7 kX) n o0 x3 t7 t8 t20 t21
  | 0, _, _, _, _, _, _ => rfl
  | m + 1, o0, x3, t7, t8, t20, t21 => by
    have hrec : zz38_R7 N m (zz38_E7 kX kO) = (zz38_l7 N (zz38_X7 kX) m) := (funext fun o0 => (funext fun x3 => (funext fun t7 => (funext fun t8 => (funext fun t20 => (funext fun t21 => zz38_iter7 N kX kO m o0 x3 t7 t8 t20 t21))))))
    refine (zz38_step7 N m kX kO o0 x3 t7 t8 t20 t21).trans ?_
    rw [(funext fun o0 => (funext fun x3 => (funext fun y4 => (funext fun t7 => (funext fun t8 => (funext fun t20 => (funext fun t21 => (funext fun t46 => (funext fun t47 => zz38_in12 N m kX kO (zz38_l7 N (zz38_X7 kX) m) hrec o0 x3 y4 t7 t8 t20 t21 t46 t47)))))))))]
    rfl
noncomputable abbrev zz38_K7 (N m : Nat) (kX : St → Z0) (kO : Nat → St → Z0) : Ex → St → Z0 := (blockK 2 (blockK 1 (seqK ((A_zz38).shape 37) (run (A_zz38) N (codeAt Try.f94 [1, 0, 1, 0, 0, 1, 1, 1])) (iterK ((A_zz38).shape 4) (run (A_zz38) N (codeAt Try.f94 [1, 0, 1, 0, 0])) m (zz38_E2 kX kO)))))
noncomputable abbrev zz38_k7 (N m : Nat) (kX : St → Z0) (kO : Nat → St → Z0) : St → Z0 := fun st' => run (A_zz38) N (codeAt Try.f94 [1, 0, 1, 0, 0, 1, 1, 1]) st' (iterK ((A_zz38).shape 4) (run (A_zz38) N (codeAt Try.f94 [1, 0, 1, 0, 0])) m (zz38_E2 kX kO))
theorem zz38_after7 (N m : Nat) (kX : St → Z0) (kO : Nat → St → Z0) (o0 : Y5) (t7 t8 : Int) : zz38_X7 (zz38_k7 N m kX kO) o0 t7 t8 = zz38_a7 (zz38_R2 N m (zz38_E2 kX kO)) o0 t7 t8 := by kernel_rfl
theorem zz38_in7 (N m : Nat) (kX : St → Z0) (kO : Nat → St → Z0) (recF : Y5 → Int → Int → Z0) (hrec : zz38_R2 N m (zz38_E2 kX kO) = recF) (o0 : Y5) (x3 t7 t8 t20 t21 : Int) : zz38_R7 N N (zz38_K7 N m kX kO) o0 x3 t7 t8 t20 t21 = zz38_F7 N recF (zz38_X2 kX) o0 x3 t7 t8 t20 t21 :=
  have h : zz38_X7 (zz38_k7 N m kX kO) = (zz38_a7 recF) := (funext fun o0 => (funext fun t7 => (funext fun t8 => (zz38_after7 N m kX kO o0 t7 t8).trans (by rw [hrec]))))
  ((iter_ex (fun st => by kernel_rfl) (fun st => by kernel_rfl)).trans (zz38_iter7 N (zz38_k7 N m kX kO) (fun j st => (zz38_K7 N m kX kO) (.exit j) st) N o0 x3 t7 t8 t20 t21)).trans (congrArg (fun k => zz38_l7 N k N o0 x3 t7 t8 t20 t21) h)
theorem zz38_step2 (N m : Nat) (kX : St → Z0) (kO : Nat → St → Z0) (o0 : Y5) (t7 t8 : Int) : zz38_R2 N (m + 1) (zz38_E2 kX kO) o0 t7 t8 = zz38_b2 (zz38_R7 N N (zz38_K7 N m kX kO)) (zz38_X2 kX) o0 t7 t8 := by kernel_rfl
theorem zz38_iter2 (N : Nat) (kX : St → Z0) (kO : Nat → St → Z0) : ∀ (n : Nat) (o0 : Y5) (t7 t8 : Int), zz38_R2 N n (zz38_E2 kX kO) o0 t7 t8 = zz38_l2 N (zz38_X2 kX) n o0 t7 t8
  | 0, _, _, _ => rfl
  | m + 1, o0, t7, t8 => by
    have hrec : zz38_R2 N m (zz38_E2 kX kO) = (zz38_l2 N (zz38_X2 kX) m) := (funext fun o0 => (funext fun t7 => (funext fun t8 => zz38_iter2 N kX kO m o0 t7 t8)))
    refine (zz38_step2 N m kX kO o0 t7 t8).trans ?_
    rw [(funext fun o0 => (funext fun x3 => (funext fun t7 => (funext fun t8 => (funext fun t20 => (funext fun t21 => zz38_in7 N m kX kO (zz38_l2 N (zz38_X2 kX) m) hrec o0 x3 t7 t8 t20 t21))))))]
    rfl
noncomputable abbrev zz38_K2 (N : Nat) : Ex → St → Z0 := (blockK 0 (seqK ((A_zz38).shape 39) (run (A_zz38) N (codeAt Try.f94 [1, 1])) zz38_z))
noncomputable abbrev zz38_k2 (N : Nat) : St → Z0 := fun st' => run (A_zz38) N (codeAt Try.f94 [1, 1]) st' zz38_z
theorem zz38_after2 (N : Nat) : zz38_X2 (zz38_k2 N) = zz38_a2 := by kernel_rfl
theorem zz38_in2 (N : Nat) (o0 : Y5) (t7 t8 : Int) : zz38_R2 N N (zz38_K2 N) o0 t7 t8 = zz38_F2 N o0 t7 t8 :=
  have h : zz38_X2 (zz38_k2 N) = (zz38_a2) := zz38_after2 N
  ((iter_ex (fun st => by kernel_rfl) (fun st => by kernel_rfl)).trans (zz38_iter2 N (zz38_k2 N) (fun j st => (zz38_K2 N) (.exit j) st) N o0 t7 t8)).trans (congrArg (fun k => zz38_l2 N k N o0 t7 t8) h)
theorem run0_zz38 (N : Nat) (x : (S_zz38).a.den) : runF (A_zz38) N Try.f94 S_zz38 x = (zz38_s (zz38_R2 N N (zz38_K2 N)) x.1) := by kernel_rfl
theorem run_zz38 (N : Nat) (x : (S_zz38).a.den) : runF (A_zz38) N Try.f94 S_zz38 x = zz38 N x.1 := by
  refine (run0_zz38 N x).trans ?_
  rw [(funext fun o0 => (funext fun t7 => (funext fun t8 => zz38_in2 N o0 t7 t8)))]
  rfl
theorem fn_zz38 : FnOk Try.prog 94 := ⟨_, Try.func94, by kernel_rfl, by kernel_rfl⟩
theorem good_zz38 : Gx.Good Try.prog 94 S_zz38 := good_of_run Try.func94 (of_decide_eq_true (by kernel_rfl)) fun x r h => ⟨A_zz38, big, mkCfg_ok tabOk, mkCfg_sigs (show SigsOk Try.prog [] from trivial), (run_zz38 big x).trans h⟩

/-! zz39 -/
def zz39_b11 (rec : Int → Y5 → Int → Y3 → Int → Int → Y4 → Int → Bool → Bool → Y4 → Int → Int → Z5) (k : Int → Y5 → Y3 → Int → Int → Y4 → Int → Bool → Bool → Z5) (n4 : Int) (o5 : Y5) (x6 : Int) (t18 : Y3) (t19 t20 : Int) (t29 : Y4) (t30 : Int) (t31 t32 : Bool) (t34 : Y4) (t35 t36 : Int) : Z5 :=
  cond (decide (t36 < t35))
  ((atI t34 t36).bind fun xq6 =>
  (atI o5 xq6).bind fun _ =>
  (o5[xq6.toNat]?).bind fun xq7 =>
  (o5[xq6.toNat]?).bind fun xq8 =>
  (atI xq8 x6).bind fun _ =>
  (o5[xq6.toNat]?).bind fun xq9 =>
  (xq9[x6.toNat]?).bind fun xq10 =>
  rec n4 (o5.set xq6.toNat (xq9.set x6.toNat true)) x6 t18 t19 t20 t29 t30 t31 t32 t34 t35 (IntKind.i64.wrap (t36 + (1 : Int))))
  (k n4 o5 t18 t19 t20 t29 t30 t31 t32)
def zz39_a11 (rec : Int → Y5 → Y3 → Int → Int → Z5) (n4 : Int) (o5 : Y5) (t18 : Y3) (t19 t20 : Int) (t29 : Y4) (t30 : Int) (t31 t32 : Bool) : Z5 :=
  rec n4 o5 t18 t19 (IntKind.i64.wrap (t20 + (1 : Int)))
def zz39_b6 (L11 : Int → Y5 → Int → Y3 → Int → Int → Y4 → Int → Bool → Bool → Y4 → Int → Int → Z5) (k : Y5 → Z5) (n4 : Int) (o5 : Y5) (t18 : Y3) (t19 t20 : Int) : Z5 :=
  cond (decide (t20 < t19))
  ((atI t18 t20).bind fun xq2 =>
  (zz36 big xq2).bind fun rq3 =>
  cond (!rq3.1)
  (some (([], false, ()), (())))
  ((zz37 big xq2 n4).bind fun rq4 =>
  cond (!rq4.1)
  (some (([], false, ()), (())))
  (L11 n4 o5 t20 t18 t19 t20 xq2 n4 rq4.1 (!rq4.1) xq2 (xq2.length : Int) (0 : Int))))
  (k o5)
def zz39_a6 (o5 : Y5) : Z5 :=
  (zz38 big o5).bind fun rq5 =>
  some ((o5, rq5.1, ()), (()))
def zz39_s (L6 : Int → Y5 → Y3 → Int → Int → Z5) (p_0 : Y2) : Z5 :=
  cond (decide ((10 : Int) < (p_0.1.length : Int)))
  (some (([], false, ()), (())))
  ((zz35 big (p_0.1.length : Int)).bind fun rq1 =>
  L6 (p_0.1.length : Int) rq1.1 p_0.1 (p_0.1.length : Int) (0 : Int))
def zz39_l11 (N : Nat) (k : Int → Y5 → Y3 → Int → Int → Y4 → Int → Bool → Bool → Z5) : Nat → Int → Y5 → Int → Y3 → Int → Int → Y4 → Int → Bool → Bool → Y4 → Int → Int → Z5
  | 0, _, _, _, _, _, _, _, _, _, _, _, _, _ => none
  | m + 1, n4, o5, x6, t18, t19, t20, t29, t30, t31, t32, t34, t35, t36 => zz39_b11 (zz39_l11 N k m) k n4 o5 x6 t18 t19 t20 t29 t30 t31 t32 t34 t35 t36
def zz39_F11 (N : Nat) (rec : Int → Y5 → Y3 → Int → Int → Z5) (k : Y5 → Z5) (n4 : Int) (o5 : Y5) (x6 : Int) (t18 : Y3) (t19 t20 : Int) (t29 : Y4) (t30 : Int) (t31 t32 : Bool) (t34 : Y4) (t35 t36 : Int) : Z5 := zz39_l11 N (zz39_a11 rec) N n4 o5 x6 t18 t19 t20 t29 t30 t31 t32 t34 t35 t36
def zz39_l6 (N : Nat) (k : Y5 → Z5) : Nat → Int → Y5 → Y3 → Int → Int → Z5
  | 0, _, _, _, _, _ => none
  | m + 1, n4, o5, t18, t19, t20 => zz39_b6 (zz39_F11 N (zz39_l6 N k m) k) k n4 o5 t18 t19 t20
def zz39_F6 (N : Nat) (n4 : Int) (o5 : Y5) (t18 : Y3) (t19 t20 : Int) : Z5 := zz39_l6 N (zz39_a6) N n4 o5 t18 t19 t20
def zz39 (N : Nat) (p_0 : Y2) : Z5 := zz39_s (zz39_F6 N) p_0
def S_zz39 : Sig := { a := (.pair (.pair (.sl (.sl I)) .unit) .unit), md := [0], mf := [], m := .unit, r := (.tup (.pair (.sl (.sl .bool)) (.pair .bool .unit))), rf := (.p (.o (.o .i)) .i), f := fun x => zz39 big x.1 }
def A_zz39 : Cfg := mkCfg tab [(92, S_zz35), (84, S_zz36), (93, S_zz37), (94, S_zz38)] [(12, [.drop, .drop, .drop, .drop, .as I .i, .as (.sl (.sl .bool)) (.o (.o .i)), .drop, .drop, .drop, .drop, .drop, .drop, .drop, .drop, .drop, .drop, .drop, .drop, .as (.sl (.sl I)) .i, .as I .i, .as I .i]), (22, [.drop, .drop, .drop, .drop, .as I .i, .as (.sl (.sl .bool)) (.o (.o .i)), .as I .i, .drop, .drop, .drop, .drop, .drop, .drop, .drop, .drop, .drop, .drop, .drop, .as (.sl (.sl I)) .i, .as I .i, .as I .i, .drop, .drop, .drop, .drop, .drop, .drop, .drop, .drop, .as (.sl I) .i, .as I .i, .as .bool .i, .as .bool .i, .drop, .as (.sl I) .i, .as I .i, .as I .i]), (33, [.drop, .drop, .drop, .drop, .drop, .as (.sl (.sl .bool)) (.o (.o .i))]), (31, [.drop, .drop, .drop, .drop, .as I .i, .as (.sl (.sl .bool)) (.o (.o .i)), .drop, .drop, .drop, .drop, .drop, .drop, .drop, .drop, .drop, .drop, .drop, .drop, .as (.sl (.sl I)) .i, .as I .i, .as I .i, .drop, .drop, .drop, .drop, .drop, .drop, .drop, .drop, .as (.sl I) .i, .as I .i, .as .bool .i, .as .bool .i])]
noncomputable def zz39_R6 (N n : Nat) (K : Ex → St → Z5) (n4 : Int) (o5 : Y5) (t18 : Y3) (t19 t20 : Int) : Z5 := iter ((A_zz39).shape 12) (run (A_zz39) N (codeAt Try.f64 [1, 1, 1, 1, 0, 1, 0, 0])) n ([.u, .u, .u, .u, .val I .i n4, .val (.sl (.sl .bool)) (.o (.o .i)) o5, .u, .u, .u, .u, .u, .u, .u, .u, .u, .u, .u, .u, .val (.sl (.sl I)) .i t18, .val I .i t19, .val I .i t20] ++ List.replicate 30 .u) K
noncomputable def zz39_R11 (N n : Nat) (K : Ex → St → Z5) (n4 : Int) (o5 : Y5) (x6 : Int) (t18 : Y3) (t19 t20 : Int) (t29 : Y4) (t30 : Int) (t31 t32 : Bool) (t34 : Y4) (t35 t36 : Int) : Z5 := iter ((A_zz39).shape 22) (run (A_zz39) N (codeAt Try.f64 [1, 1, 1, 1, 0, 1, 0, 0, 1, 1, 0, 0, 1, 1, 1, 0, 0])) n ([.u, .u, .u, .u, .val I .i n4, .val (.sl (.sl .bool)) (.o (.o .i)) o5, .val I .i x6, .u, .u, .u, .u, .u, .u, .u, .u, .u, .u, .u, .val (.sl (.sl I)) .i t18, .val I .i t19, .val I .i t20, .u, .u, .u, .u, .u, .u, .u, .u, .val (.sl I) .i t29, .val I .i t30, .val .bool .i t31, .val .bool .i t32, .u, .val (.sl I) .i t34, .val I .i t35, .val I .i t36] ++ List.replicate 14 .u) K
noncomputable abbrev zz39_z : Ex → St → Z5 := finish (A_zz39) S_zz39 Try.f64.results.toList
noncomputable abbrev zz39_X6 (kX : St → Z5) : Y5 → Z5 := fun (o5 : Y5) => kX ([.u, .u, .u, .u, .u, .val (.sl (.sl .bool)) (.o (.o .i)) o5] ++ List.replicate 45 .u)
noncomputable abbrev zz39_E6 (kX : St → Z5) (kO : Nat → St → Z5) : Ex → St → Z5 := exK zz39_z 0 ((A_zz39).shape 33) kX kO
noncomputable abbrev zz39_X11 (kX : St → Z5) : Int → Y5 → Y3 → Int → Int → Y4 → Int → Bool → Bool → Z5 := fun (n4 : Int) (o5 : Y5) (t18 : Y3) (t19 t20 : Int) (t29 : Y4) (t30 : Int) (t31 t32 : Bool) => kX ([.u, .u, .u, .u, .val I .i n4, .val (.sl (.sl .bool)) (.o (.o .i)) o5, .u, .u, .u, .u, .u, .u, .u, .u, .u, .u, .u, .u, .val (.sl (.sl I)) .i t18, .val I .i t19, .val I .i t20, .u, .u, .u, .u, .u, .u, .u, .u, .val (.sl I) .i t29, .val I .i t30, .val .bool .i t31, .val .bool .i t32] ++ List.replicate 18 .u)
noncomputable abbrev zz39_E11 (kX : St → Z5) (kO : Nat → St → Z5) : Ex → St → Z5 := exK zz39_z 2 ((A_zz39).shape 31) kX kO
theorem zz39_step11 (N m : Nat) (kX : St → Z5) (kO : Nat → St → Z5) (n4 : Int) (o5 : Y5) (x6 : Int) (t18 : Y3) (t19 t20 : Int) (t29 : Y4) (t30 : Int) (t31 t32 : Bool) (t34 : Y4) (t35 t36 : Int) : zz39_R11 N (m + 1) (zz39_E11 kX kO) n4 o5 x6 t18 t19 t20 t29 t30 t31 t32 t34 t35 t36 = zz39_b11 (zz39_R11 N m (zz39_E11 kX kO)) (zz39_X11 kX) n4 o5 x6 t18 t19 t20 t29 t30 t31 t32 t34 t35 t36 := by kernel_rfl
theorem zz39_iter11 (N : Nat) (kX : St → Z5) (kO : Nat → St → Z5) : ∀ (n : Nat) (n4 : Int) (o5 : Y5) (x6 : Int) (t18 : Y3) (t19 t20 : Int) (t29 : Y4) (t30 : Int) (t31 t32 : Bool) (t34 : Y4) (t35 t36 : Int), zz39_R11 N n (zz39_E11 kX kO) n4 o5 x6 t18 t19 t20 t29 t30 t31 t32 t34 t35 t36 = zz39_l11 N (zz39_X11 kX) n n4 o5 x6 t18 t19 t20 t29 t30 t31 t32 t34 t35 t36
  | 0, _, _, _, _, _, _, _, _, _, _, _, _, _ => rfl
  | m + 1, n4, o5, x6, t18, t19, t20, t29, t30, t31, t32, t34, t35, t36 => by
    have hrec : zz39_R11 N m (zz39_E11 kX kO) = (zz39_l11 N (zz39_X11 kX) m) := (funext fun n4 => (funext fun o5 => (funext fun x6 => (funext fun t18 => (funext fun t19 => (funext fun t20 => (funext fun t29 => (funext fun t30 => (funext fun t31 => (funext fun t32 => (funext fun t34 => (funext fun t35 => (funext fun t36 => zz39_iter11 N kX kO m n4 o5 x6 t18 t19 t20 t29 t30 t31 t32 t34 t35 t36)))))))))))))
    refine (zz39_step11 N m kX kO n4 o5 x6 t18 t19 t20 t29 t30 t31 t32 t34 t35 t36).trans ?_
    rw [hrec]
    rfl
noncomputable abbrev zz39_K11 (N m : Nat) (kX : St → Z5) (kO : Nat → St → Z5) : Ex → St → Z5 := (blockK 2 (blockK 1 (seqK ((A_zz39).shape 31) (run (A_zz39) N (codeAt Try.f64 [1, 1, 1, 1, 0, 1, 0, 0, 1, 1, 1])) (iterK ((A_zz39).shape 12) (run (A_zz39) N (codeAt Try.f64 [1, 1, 1, 1, 0, 1, 0, 0])) m (zz39_E6 kX kO)))))
noncomputable abbrev zz39_k11 (N m : Nat) (kX : St → Z5) (kO : Nat → St → Z5) : St → Z5 := fun st' => run (A_zz39) N (codeAt Try.f64 [1, 1, 1, 1, 0, 1, 0, 0, 1, 1, 1]) st' (iterK ((A_zz39).shape 12) (run (A_zz39) N (codeAt Try.f64 [1, 1, 1, 1, 0, 1, 0, 0])) m (zz39_E6 kX kO))
theorem zz39_after11 (N m : Nat) (kX : St → Z5) (kO : Nat → St → Z5) (n4 : Int) (o5 : Y5) (t18 : Y3) (t19 t20 : Int) (t29 : Y4) (t30 : Int) (t31 t32 : Bool) : zz39_X11 (zz39_k11 N m kX kO) n4 o5 t18 t19 t20 t29 t30 t31 t32 = zz39_a11 (zz39_R6 N m (zz39_E6 kX kO)) n4 o5 t18 t19 t20 t29 t30 t31 t32 := by kernel_rfl
theorem zz39_in11 (N m : Nat) (kX : St → Z5) (kO : Nat → St → Z5) (recF : Int → Y5 → Y3 → Int → Int → Z5) (hrec : zz39_R6 N m (zz39_E6 kX kO) = recF) (n4 : Int) (o5 : Y5) (x6 : Int) (t18 : Y3) (t19 t20 : Int) (t29 : Y4) (t30 : Int) (t31 t32 : Bool) (t34 : Y4) (t35 t36 : Int) : zz39_R11 N N (zz39_K11 N m kX kO) n4 o5 x6 t18 t19 t20 t29 t30 t31 t32 t34 t35 t36 = zz39_F11 N recF (zz39_X6 kX) n4 o5 x6 t18 t19 t20 t29 t30 t31 t32 t34 t35 t36 :=
  have h : zz39_X11 (zz39_k11 N m kX kO) = (zz39_a11 recF) := (funext fun n4 => (funext fun o5 => (funext fun t18 => (funext fun t19 => (funext fun t20 => (funext fun t29 => (funext fun t30 => (funext fun t31 => (funext fun t32 => (zz39_after11 N m kX kO n4 o5 t18 t19 t20 t29 t30 t31 t32).trans (by rw [hrec]))))))))))
  ((iter_ex (fun st => by kernel_rfl) (fun st => by kernel_rfl)).trans (zz39_iter11 N (zz39_k11 N m kX kO) (fun j st => (zz39_K11 N m kX kO) (.exit j) st) N n4 o5 x6 t18 t19 t20 t29 t30 t31 t32 t34 t35 t36)).trans (congrArg (fun k => zz39_l11 N k N n4 o5 x6 t18 t19 t20 t29 t30 t31 t32 t34 t35 t36) h)
theorem zz39_step6 (N m : Nat) (kX : St → Z5) (kO : Nat → St → Z5) (n4 : Int) (o5 : Y5) (t18 : Y3) (t19 t20 : Int) : zz39_R6 N (m + 1) (zz39_E6 kX kO) n4 o5 t18 t19 t20 = zz39_b6 (zz39_R11 N N (zz39_K11 N m kX kO)) (zz39_X6 kX) n4 o5 t18 t19 t20 := by kernel_rfl
theorem zz39_iter6 (N : Nat) (kX : St → Z5) (kO : Nat → St → Z5) : ∀ (n : Nat) (n4 : Int) (o5 : Y5) (t18 : Y3) (t19 t20 : Int), zz39_R6 N n (zz39_E6 kX kO) n4 o5 t18 t19 t20 = zz39_l6 N (zz39_X6 kX) n n4 o5 t18 t19 t20
  | 0, _, _, _, _, _ => rfl
  | m + 1, n4, o5, t18, t19, t20 => by
    have hrec : zz39_R6 N m (zz39_E6 kX kO) = (zz39_l6 N (zz39_X6 kX) m) := (funext fun n4 => (funext fun o5 => (funext fun t18 => (funext fun t19 => (funext fun t20 => zz39_iter6 N kX kO m n4 o5 t18 t19 t20)))))
    refine (zz39_step6 N m kX kO n4 o5 t18 t19 t20).trans ?_
    rw [(funext fun n4 => (funext fun o5 => (funext fun x6 => (funext fun t18 => (funext fun t19 => (funext fun t20 => (funext fun t29 => (funext fun t30 => (funext fun t31 => (funext fun t32 => (funext fun t34 => (funext fun t35 => (funext fun t36 => zz39_in11 N m kX kO (zz39_l6 N (zz39_X6 kX) m) hrec n4 o5 x6 t18 t19 t20 t29 t30 t31 t32 t34 t35 t36)))))))))))))]
    rfl
noncomputable abbrev zz39_K6 (N : Nat) : Ex → St → Z5 := (blockK 0 (seqK ((A_zz39).shape 33) (run (A_zz39) N (codeAt Try.f64 [1, 1, 1, 1, 1])) zz39_z))
noncomputable abbrev zz39_k6 (N : Nat) : St → Z5 := fun st' => run (A_zz39) N (codeAt Try.f64 [1, 1, 1, 1, 1]) st' zz39_z
theorem zz39_after6 (N : Nat) (o5 : Y5) : zz39_X6 (zz39_k6 N) o5 = zz39_a6 o5 := by kernel_rfl
theorem zz39_in6 (N : Nat) (n4 : Int) (o5 : Y5) (t18 : Y3) (t19 t20 : Int) : zz39_R6 N N (zz39_K6 N) n4 o5 t18 t19 t20 = zz39_F6 N n4 o5 t18 t19 t20 :=
  have h : zz39_X6 (zz39_k6 N) = (zz39_a6) := (funext fun o5 => zz39_after6 N o5)
  ((iter_ex (fun st => by kernel_rfl) (fun st => by kernel_rfl)).trans (zz39_iter6 N (zz39_k6 N) (fun j st => (zz39_K6 N) (.exit j) st) N n4 o5 t18 t19 t20)).trans (congrArg (fun k => zz39_l6 N k N n4 o5 t18 t19 t20) h)
theorem run0_zz39 (N : Nat) (x : (S_zz39).a.den) : runF (A_zz39) N Try.f64 S_zz39 x = (zz39_s (zz39_R6 N N (zz39_K6 N)) x.1) := by kernel_rfl
theorem run_zz39 (N : Nat) (x : (S_zz39).a.den) : runF (A_zz39) N Try.f64 S_zz39 x = zz39 N x.1 := by
  refine (run0_zz39 N x).trans ?_
  rw [(funext fun n4 => (funext fun o5 => (funext fun t18 => (funext fun t19 => (funext fun t20 => zz39_in6 N n4 o5 t18 t19 t20)))))]
  rfl
theorem fn_zz39 : FnOk Try.prog 64 := ⟨_, Try.func64, by kernel_rfl, by kernel_rfl⟩
theorem good_zz39 : Gx.Good Try.prog 64 S_zz39 := good_of_run Try.func64 (of_decide_eq_true (by kernel_rfl)) fun x r h => ⟨A_zz39, big, mkCfg_ok tabOk, mkCfg_sigs (show SigsOk Try.prog [(92, S_zz35), (84, S_zz36), (93, S_zz37), (94, S_zz38)] from ⟨⟨fn_zz35, good_zz35⟩, ⟨fn_zz36, good_zz36⟩, ⟨fn_zz37, good_zz37⟩, ⟨fn_zz38, good_zz38⟩, trivial⟩), (run_zz39 big x).trans h⟩

/-! zz40 -/
def zz40_b6 (rec : Y5 → Y4 → Int → Bool → Y4 → Int → Int → Y4 → Int → Int → Z3) (k : Y5 → Y4 → Int → Bool → Y4 → Int → Int → Z3) (o0 : Y5) (list1 : Y4) (x6 : Int) (top7 : Bool) (t10 : Y4) (t11 t12 : Int) (t16 : Y4) (t17 t18 : Int) : Z3 :=
  cond (decide (t18 < t17))
  ((atI t16 t18).bind fun xq2 =>
  cond top7
  ((atI o0 xq2).bind fun xq3 =>
  (atI xq3 x6).bind fun xq4 =>
  rec o0 list1 x6 xq4 t10 t11 t12 t16 t17 (IntKind.i64.wrap (t18 + (1 : Int))))
  (rec o0 list1 x6 false t10 t11 t12 t16 t17 (IntKind.i64.wrap (t18 + (1 : Int)))))
  (k o0 list1 x6 top7 t10 t11 t12)
def zz40_a6 (rec : Y5 → Y4 → Y4 → Int → Int → Z3) (o0 : Y5) (list1 : Y4) (x6 : Int) (top7 : Bool) (t10 : Y4) (t11 t12 : Int) : Z3 :=
  cond top7
  (some (x6, (())))
  (rec o0 list1 t10 t11 (IntKind.i64.wrap (t12 + (1 : Int))))
def zz40_b2 (L6 : Y5 → Y4 → Int → Bool → Y4 → Int → Int → Y4 → Int → Int → Z3) (k : Z3) (o0 : Y5) (list1 t10 : Y4) (t11 t12 : Int) : Z3 :=
  cond (decide (t12 < t11))
  ((atI t10 t12).bind fun xq1 =>
  L6 o0 list1 xq1 true t10 t11 t12 list1 (list1.length : Int) (0 : Int))
  (k)
def zz40_a2 : Z3 :=
  some ((-1 : Int), (()))
def zz40_s (L2 : Y5 → Y4 → Y4 → Int → Int → Z3) (o_0 : Y5) (list_1 : Y4) : Z3 :=
  L2 o_0 list_1 list_1 (list_1.length : Int) (0 : Int)
def zz40_l6 (N : Nat) (k : Y5 → Y4 → Int → Bool → Y4 → Int → Int → Z3) : Nat → Y5 → Y4 → Int → Bool → Y4 → Int → Int → Y4 → Int → Int → Z3
  | 0, _, _, _, _, _, _, _, _, _, _ => none
  | m + 1, o0, list1, x6, top7, t10, t11, t12, t16, t17, t18 => zz40_b6 (zz40_l6 N k m) k o0 list1 x6 top7 t10 t11 t12 t16 t17 t18
def zz40_F6 (N : Nat) (rec : Y5 → Y4 → Y4 → Int → Int → Z3) (k : Z3) (o0 : Y5) (list1 : Y4) (x6 : Int) (top7 : Bool) (t10 : Y4) (t11 t12 : Int) (t16 : Y4) (t17 t18 : Int) : Z3 := zz40_l6 N (zz40_a6 rec) N o0 list1 x6 top7 t10 t11 t12 t16 t17 t18
def zz40_l2 (N : Nat) (k : Z3) : Nat → Y5 → Y4 → Y4 → Int → Int → Z3
  | 0, _, _, _, _, _ => none
  | m + 1, o0, list1, t10, t11, t12 => zz40_b2 (zz40_F6 N (zz40_l2 N k m) k) k o0 list1 t10 t11 t12
def zz40_F2 (N : Nat) (o0 : Y5) (list1 t10 : Y4) (t11 t12 : Int) : Z3 := zz40_l2 N (zz40_a2) N o0 list1 t10 t11 t12
def zz40 (N : Nat) (o_0 : Y5) (list_1 : Y4) : Z3 := zz40_s (zz40_F2 N) o_0 list_1
def S_zz40 : Sig := { a := (.pair (.sl (.sl .bool)) (.pair (.sl I) .unit)), md := [0, 0], mf := [], m := .unit, r := I, rf := .i, f := fun x => zz40 big x.1 x.2.1 }
def A_zz40 : Cfg := mkCfg tab [] [(4, [.as (.sl (.sl .bool)) .i, .as (.sl I) .i, .drop, .drop, .drop, .drop, .drop, .drop, .drop, .drop, .as (.sl I) .i, .as I .i, .as I .i]), (12, [.as (.sl (.sl .bool)) .i, .as (.sl I) .i, .drop, .drop, .drop, .drop, .as I .i, .as .bool .i, .drop, .drop, .as (.sl I) .i, .as I .i, .as I .i, .drop, .drop, .drop, .as (.sl I) .i, .as I .i, .as I .i]), (27, []), (21, [.as (.sl (.sl .bool)) .i, .as (.sl I) .i, .drop, .drop, .drop, .drop, .as I .i, .as .bool .i, .drop, .drop, .as (.sl I) .i, .as I .i, .as I .i])]
noncomputable def zz40_R2 (N n : Nat) (K : Ex → St → Z3) (o0 : Y5) (list1 t10 : Y4) (t11 t12 : Int) : Z3 := iter ((A_zz40).shape 4) (run (A_zz40) N (codeAt Try.f95 [1, 0, 1, 0, 0])) n ([.val (.sl (.sl .bool)) .i o0, .val (.sl I) .i list1, .u, .u, .u, .u, .u, .u, .u, .u, .val (.sl I) .i t10, .val I .i t11, .val I .i t12] ++ List.replicate 23 .u) K
noncomputable def zz40_R6 (N n : Nat) (K : Ex → St → Z3) (o0 : Y5) (list1 : Y4) (x6 : Int) (top7 : Bool) (t10 : Y4) (t11 t12 : Int) (t16 : Y4) (t17 t18 : Int) : Z3 := iter ((A_zz40).shape 12) (run (A_zz40) N (codeAt Try.f95 [1, 0, 1, 0, 0, 1, 1, 0, 0, 1, 1, 0, 1, 0, 0])) n ([.val (.sl (.sl .bool)) .i o0, .val (.sl I) .i list1, .u, .u, .u, .u, .val I .i x6, .val .bool .i top7, .u, .u, .val (.sl I) .i t10, .val I .i t11, .val I .i t12, .u, .u, .u, .val (.sl I) .i t16, .val I .i t17, .val I .i t18] ++ List.replicate 17 .u) K
noncomputable abbrev zz40_z : Ex → St → Z3 := finish (A_zz40) S_zz40 Try.f95.results.toList
noncomputable abbrev zz40_X2 (kX : St → Z3) : Z3 := kX ([] ++ List.replicate 36 .u)
noncomputable abbrev zz40_E2 (kX : St → Z3) (kO : Nat → St → Z3) : Ex → St → Z3 := exK zz40_z 0 ((A_zz40).shape 27) kX kO
noncomputable abbrev zz40_X6 (kX : St → Z3) : Y5 → Y4 → Int → Bool → Y4 → Int → Int → Z3 := fun (o0 : Y5) (list1 : Y4) (x6 : Int) (top7 : Bool) (t10 : Y4) (t11 t12 : Int) => kX ([.val (.sl (.sl .bool)) .i o0, .val (.sl I) .i list1, .u, .u, .u, .u, .val I .i x6, .val .bool .i top7, .u, .u, .val (.sl I) .i t10, .val I .i t11, .val I .i t12] ++ List.replicate 23 .u)
noncomputable abbrev zz40_E6 (kX : St → Z3) (kO : Nat → St → Z3) : Ex → St → Z3 := exK zz40_z 2 ((A_zz40).shape 21) kX kO
theorem zz40_step6 (N m : Nat) (kX : St → Z3) (kO : Nat → St → Z3) (o0 : Y5) (list1 : Y4) (x6 : Int) (top7 : Bool) (t10 : Y4) (t11 t12 : Int) (t16 : Y4) (t17 t18 : Int) : zz40_R6 N (m + 1) (zz40_E6 kX kO) o0 list1 x6 top7 t10 t11 t12 t16 t17 t18 = zz40_b6 (zz40_R6 N m (zz40_E6 kX kO)) (zz40_X6 kX) o0 list1 x6 top7 t10 t11 t12 t16 t17 t18 := by kernel_rfl
theorem zz40_iter6 (N : Nat) (kX : St → Z3) (kO : Nat → St → Z3) : ∀ (n : Nat) (o0 : Y5) (list1 : Y4) (x6 : Int) (top7 : Bool) (t10 : Y4) (t11 t12 : Int) (t16 : Y4) (t17 t18 : Int), zz40_R6 N n (zz40_E6 kX kO) o0 list1 x6 top7 t10 t11 t12 t16 t17 t18 = zz40_l6 N (zz40_X6 kX) n o0 list1 x6 top7 t10 t11 t12 t16 t17 t18
  | 0, _, _, _, _, _, _, _, _, _, _ => rfl
  | m + 1, o0, list1, x6, top7, t10, t11, t12, t16, t17, t18 => by
    have hrec : zz40_R6 N m (zz40_E6 kX kO) = (zz40_l6 N (zz40_X6 kX) m) := (funext fun o0 => (funext fun list1 => (funext fun x6 => (funext fun top7 => (funext fun t10 => (funext fun t11 => (funext fun t12 => (funext fun t16 => (funext fun t17 => (funext fun t18 => zz40_iter6 N kX kO m o0 list1 x6 top7 t10 t11 t12 t16 t17 t18))))))))))
    refine (zz40_step6 N m kX kO o0 list1 x6 top7 t10 t11 t12 t16 t17 t18).trans ?_
    rw [hrec]
    rfl
noncomputable abbrev zz40_K6 (N m : Nat) (kX : St → Z3) (kO : Nat → St → Z3) : Ex → St → Z3 := (blockK 2 (seqK ((A_zz40).shape 21) (run (A_zz40) N (codeAt Try.f95 [1, 0, 1, 0, 0, 1, 1, 0, 0, 1, 1, 1])) (blockK 1 (seqK ((A_zz40).shape 25) (run (A_zz40) N (codeAt Try.f95 [1, 0, 1, 0, 0, 1, 1, 1])) (iterK ((A_zz40).shape 4) (run (A_zz40) N (codeAt Try.f95 [1, 0, 1, 0, 0])) m (zz40_E2 kX kO))))))
noncomputable abbrev zz40_k6 (N m : Nat) (kX : St → Z3) (kO : Nat → St → Z3) : St → Z3 := fun st' => run (A_zz40) N (codeAt Try.f95 [1, 0, 1, 0, 0, 1, 1, 0, 0, 1, 1, 1]) st' (blockK 1 (seqK ((A_zz40).shape 25) (run (A_zz40) N (codeAt Try.f95 [1, 0, 1, 0, 0, 1, 1, 1])) (iterK ((A_zz40).shape 4) (run (A_zz40) N (codeAt Try.f95 [1, 0, 1, 0, 0])) m (zz40_E2 kX kO))))
theorem zz40_after6 (N m : Nat) (kX : St → Z3) (kO : Nat → St → Z3) (o0 : Y5) (list1 : Y4) (x6 : Int) (top7 : Bool) (t10 : Y4) (t11 t12 : Int) : zz40_X6 (zz40_k6 N m kX kO) o0 list1 x6 top7 t10 t11 t12 = zz40_a6 (zz40_R2 N m (zz40_E2 kX kO)) o0 list1 x6 top7 t10 t11 t12 := by kernel_rfl
theorem zz40_in6 (N m : Nat) (kX : St → Z3) (kO : Nat → St → Z3) (recF : Y5 → Y4 → Y4 → Int → Int → Z3) (hrec : zz40_R2 N m (zz40_E2 kX kO) = recF) (o0 : Y5) (list1 : Y4) (x6 : Int) (top7 : Bool) (t10 : Y4) (t11 t12 : Int) (t16 : Y4) (t17 t18 : Int) : zz40_R6 N N (zz40_K6 N m kX kO) o0 list1 x6 top7 t10 t11 t12 t16 t17 t18 = zz40_F6 N recF (zz40_X2 kX) o0 list1 x6 top7 t10 t11 t12 t16 t17 t18 :=
  have h : zz40_X6 (zz40_k6 N m kX kO) = (zz40_a6 recF) := (funext fun o0 => (funext fun list1 => (funext fun x6 => (funext fun top7 => (funext fun t10 => (funext fun t11 => (funext fun t12 => (zz40_after6 N m kX kO o0 list1 x6 top7 t10 t11 t12).trans (by rw [hrec]))))))))
  ((iter_ex (fun st => by kernel_rfl) (fun st => by kernel_rfl)).trans (zz40_iter6 N (zz40_k6 N m kX kO) (fun j st => (zz40_K6 N m kX kO) (.exit j) st) N o0 list1 x6 top7 t10 t11 t12 t16 t17 t18)).trans (congrArg (fun k => zz40_l6 N k N o0 list1 x6 top7 t10 t11 t12 t16 t17 t18) h)
theorem zz40_step2 (N m : Nat) (kX : St → Z3) (kO : Nat → St → Z3) (o0 : Y5) (list1 t10 : Y4) (t11 t12 : Int) : zz40_R2 N (m + 1) (zz40_E2 kX kO) o0 list1 t10 t11 t12 = zz40_b2 (zz40_R6 N N (zz40_K6 N m kX kO)) (zz40_X2 kX) o0 list1 t10 t11 t12 := by kernel_rfl
theorem zz40_iter2 (N : Nat) (kX : St → Z3) (kO : Nat → St → Z3) : ∀ (n : Nat) (o0 : Y5) (list1 t10 : Y4) (t11 t12 : Int), zz40_R2 N n (zz40_E2 kX kO) o0 list1 t10 t11 t12 = zz40_l2 N (zz40_X2 kX) n o0 list1 t10 t11 t12
  | 0, _, _, _, _, _ => rfl
  | m + 1, o0, list1, t10, t11, t12 => by
    have hrec : zz40_R2 N m (zz40_E2 kX kO) = (zz40_l2 N (zz40_X2 kX) m) := (funext fun o0 => (funext fun list1 => (funext fun t10 => (funext fun t11 => (funext fun t12 => zz40_iter2 N kX kO m o0 list1 t10 t11 t12)))))
    refine (zz40_step2 N m kX kO o0 list1 t10 t11 t12).trans ?_
    rw [(funext fun o0 => (funext fun list1 => (funext fun x6 => (funext fun top7 => (funext fun t10 => (funext fun t11 => (funext fun t12 => (funext fun t16 => (funext fun t17 => (funext fun t18 => zz40_in6 N m kX kO (zz40_l2 N (zz40_X2 kX) m) hrec o0 list1 x6 top7 t10 t11 t12 t16 t17 t18))))))))))]
    rfl
noncomputable abbrev zz40_K2 (N : Nat) : Ex → St → Z3 := (blockK 0 (seqK ((A_zz40).shape 27) (run (A_zz40) N (codeAt Try.f95 [1, 1])) zz40_z))
noncomputable abbrev zz40_k2 (N : Nat) : St → Z3 := fun st' => run (A_zz40) N (codeAt Try.f95 [1, 1]) st' zz40_z
theorem zz40_after2 (N : Nat) : zz40_X2 (zz40_k2 N) = zz40_a2 := by kernel_rfl
theorem zz40_in2 (N : Nat) (o0 : Y5) (list1 t10 : Y4) (t11 t12 : Int) : zz40_R2 N N (zz40_K2 N) o0 list1 t10 t11 t12 = zz40_F2 N o0 list1 t10 t11 t12 :=
  have h : zz40_X2 (zz40_k2 N) = (zz40_a2) := zz40_after2 N
  ((iter_ex (fun st => by kernel_rfl) (fun st => by kernel_rfl)).trans (zz40_iter2 N (zz40_k2 N) (fun j st => (zz40_K2 N) (.exit j) st) N o0 list1 t10 t11 t12)).trans (congrArg (fun k => zz40_l2 N k N o0 list1 t10 t11 t12) h)
theorem run0_zz40 (N : Nat) (x : (S_zz40).a.den) : runF (A_zz40) N Try.f95 S_zz40 x = (zz40_s (zz40_R2 N N (zz40_K2 N)) x.1 x.2.1) := by kernel_rfl
theorem run_zz40 (N : Nat) (x : (S_zz40).a.den) : runF (A_zz40) N Try.f95 S_zz40 x = zz40 N x.1 x.2.1 := by
  refine (run0_zz40 N x).trans ?_
  rw [(funext fun o0 => (funext fun list1 => (funext fun t10 => (funext fun t11 => (funext fun t12 => zz40_in2 N o0 list1 t10 t11 t12)))))]
  rfl
theorem fn_zz40 : FnOk Try.prog 95 := ⟨_, Try.func95, by kernel_rfl, by kernel_rfl⟩
theorem good_zz40 : Gx.Good Try.prog 95 S_zz40 := good_of_run Try.func95 (of_decide_eq_true (by kernel_rfl)) fun x r h => ⟨A_zz40, big, mkCfg_ok tabOk, mkCfg_sigs (show SigsOk Try.prog [] from trivial), (run_zz40 big x).trans h⟩

/-! zz41 -/
def zz41_s (z_0 : Int) (p_1 : Y5) (p_2 p_3 : Int) : Z0 :=
  (atI p_1 z_0).bind fun xq1 =>
  (atI xq1 p_2).bind fun xq2 =>
  cond xq2
  ((atI p_1 z_0).bind fun xq3 =>
  (atI xq3 p_3).bind fun xq4 =>
  some (xq4, (())))
  (some (false, (())))
def zz41 (z_0 : Int) (p_1 : Y5) (p_2 p_3 : Int) : Z0 := zz41_s z_0 p_1 p_2 p_3
def S_zz41 : Sig := { a := (.pair I (.pair (.ptr (.sl (.sl .bool))) (.pair (.ptr I) (.pair (.ptr I) .unit)))), md := [0, 0, 0, 0], mf := [], m := .unit, r := .bool, rf := .i, f := fun x => zz41 x.1 x.2.1 x.2.2.1 x.2.2.2.1 }
def A_zz41 : Cfg := mkCfg tab [] []
theorem run_zz41 (N : Nat) (x : (S_zz41).a.den) : runF (A_zz41) N Try.f96 S_zz41 x = zz41 x.1 x.2.1 x.2.2.1 x.2.2.2.1 := by kernel_rfl
theorem fn_zz41 : FnOk Try.prog 96 := ⟨_, Try.func96, by kernel_rfl, by kernel_rfl⟩
theorem good_zz41 : Gx.Good Try.prog 96 S_zz41 := good_of_run Try.func96 (of_decide_eq_true (by kernel_rfl)) fun x r h => ⟨A_zz41, big, mkCfg_ok tabOk, mkCfg_sigs (show SigsOk Try.prog [] from trivial), (run_zz41 big x).trans h⟩

/-! zz42 -/
def zz42_b3 (rec : (Y5 × Z11) → Y4 → Int → Int → Z2) (k : Y4 → Z2) (so1 : (Y5 × Z11)) (list5 : Y4) (t9 t10 : Int) : Z2 :=
  cond (decide (t10 < t9))
  ((zz41 t10 so1.1 so1.2.1 so1.2.2.1).bind fun rq1 =>
  cond rq1.1
  ((appI list5 [t10]).bind fun xq2 =>
  rec so1 xq2 t9 (IntKind.i64.wrap (t10 + (1 : Int))))
  (rec so1 list5 t9 (IntKind.i64.wrap (t10 + (1 : Int)))))
  (k list5)
def zz42_a3 (list5 : Y4) : Z2 :=
  some (list5, (()))
def zz42_s (L3 : (Y5 × Z11) → Y4 → Int → Int → Z2) (o_0 : Y5) (so_1 : (Y5 × Z11)) : Z2 :=
  L3 so_1 [] (o_0.length : Int) (0 : Int)
def zz42_l3 (N : Nat) (k : Y4 → Z2) : Nat → (Y5 × Z11) → Y4 → Int → Int → Z2
  | 0, _, _, _, _ => none
  | m + 1, so1, list5, t9, t10 => zz42_b3 (zz42_l3 N k m) k so1 list5 t9 t10
def zz42_F3 (N : Nat) (so1 : (Y5 × Z11)) (list5 : Y4) (t9 t10 : Int) : Z2 := zz42_l3 N (zz42_a3) N so1 list5 t9 t10
def zz42 (N : Nat) (o_0 : Y5) (so_1 : (Y5 × Z11)) : Z2 := zz42_s (zz42_F3 N) o_0 so_1
def S_zz42 : Sig := { a := (.pair (.sl (.sl .bool)) (.pair (.clo 96 0 (.pair (.ptr (.sl (.sl .bool))) (.pair (.ptr I) (.pair (.ptr I) .unit)))) .unit)), md := [0, 0], mf := [], m := .unit, r := (.sl I), rf := (.o .i), f := fun x => zz42 big x.1 x.2.1 }
def A_zz42 : Cfg := mkCfg tab [(96, S_zz41)] [(6, [.drop, .as (.clo 96 0 (.pair (.ptr (.sl (.sl .bool))) (.pair (.ptr I) (.pair (.ptr I) .unit)))) .i, .drop, .drop, .drop, .as (.sl I) (.o .i), .drop, .drop, .drop, .as I .i, .as I .i]), (17, [.drop, .drop, .drop, .drop, .drop, .as (.sl I) (.o .i)])]
noncomputable def zz42_R3 (N n : Nat) (K : Ex → St → Z2) (so1 : (Y5 × Z11)) (list5 : Y4) (t9 t10 : Int) : Z2 := iter ((A_zz42).shape 6) (run (A_zz42) N (codeAt Try.f68 [1, 1, 0, 1, 0, 0])) n ([.u, .val (.clo 96 0 (.pair (.ptr (.sl (.sl .bool))) (.pair (.ptr I) (.pair (.ptr I) .unit)))) .i so1, .u, .u, .u, .val (.sl I) (.o .i) list5, .u, .u, .u, .val I .i t9, .val I .i t10] ++ List.replicate 11 .u) K
noncomputable abbrev zz42_z : Ex → St → Z2 := finish (A_zz42) S_zz42 Try.f68.results.toList
noncomputable abbrev zz42_X3 (kX : St → Z2) : Y4 → Z2 := fun (list5 : Y4) => kX ([.u, .u, .u, .u, .u, .val (.sl I) (.o .i) list5] ++ List.replicate 16 .u)
noncomputable abbrev zz42_E3 (kX : St → Z2) (kO : Nat → St → Z2) : Ex → St → Z2 := exK zz42_z 0 ((A_zz42).shape 17) kX kO
theorem zz42_step3 (N m : Nat) (kX : St → Z2) (kO : Nat → St → Z2) (so1 : (Y5 × Z11)) (list5 : Y4) (t9 t10 : Int) : zz42_R3 N (m + 1) (zz42_E3 kX kO) so1 list5 t9 t10 = zz42_b3 (zz42_R3 N m (zz42_E3 kX kO)) (zz42_X3 kX) so1 list5 t9 t10 := by kernel_rfl
theorem zz42_iter3 (N : Nat) (kX : St → Z2) (kO : Nat → St → Z2) : ∀ (n : Nat) (so1 : (Y5 × Z11)) (list5 : Y4) (t9 t10 : Int), zz42_R3 N n (zz42_E3 kX kO) so1 list5 t9 t10 = zz42_l3 N (zz42_X3 kX) n so1 list5 t9 t10
  | 0, _, _, _, _ => rfl
  | m + 1, so1, list5, t9, t10 => by
    have hrec : zz42_R3 N m (zz42_E3 kX kO) = (zz42_l3 N (zz42_X3 kX) m) := (funext fun so1 => (funext fun list5 => (funext fun t9 => (funext fun t10 => zz42_iter3 N kX kO m so1 list5 t9 t10))))
    refine (zz42_step3 N m kX kO so1 list5 t9 t10).trans ?_
    rw [hrec]
    rfl
noncomputable abbrev zz42_K3 (N : Nat) : Ex → St → Z2 := (blockK 0 (seqK ((A_zz42).shape 17) (run (A_zz42) N (codeAt Try.f68 [1, 1, 1])) zz42_z))
noncomputable abbrev zz42_k3 (N : Nat) : St → Z2 := fun st' => run (A_zz42) N (codeAt Try.f68 [1, 1, 1]) st' zz42_z
theorem zz42_after3 (N : Nat) (list5 : Y4) : zz42_X3 (zz42_k3 N) list5 = zz42_a3 list5 := by kernel_rfl
theorem zz42_in3 (N : Nat) (so1 : (Y5 × Z11)) (list5 : Y4) (t9 t10 : Int) : zz42_R3 N N (zz42_K3 N) so1 list5 t9 t10 = zz42_F3 N so1 list5 t9 t10 :=
  have h : zz42_X3 (zz42_k3 N) = (zz42_a3) := (funext fun list5 => zz42_after3 N list5)
  ((iter_ex (fun st => by kernel_rfl) (fun st => by kernel_rfl)).trans (zz42_iter3 N (zz42_k3 N) (fun j st => (zz42_K3 N) (.exit j) st) N so1 list5 t9 t10)).trans (congrArg (fun k => zz42_l3 N k N so1 list5 t9 t10) h)
theorem run0_zz42 (N : Nat) (x : (S_zz42).a.den) : runF (A_zz42) N Try.f68 S_zz42 x = (zz42_s (zz42_R3 N N (zz42_K3 N)) x.1 x.2.1) := by kernel_rfl
theorem run_zz42 (N : Nat) (x : (S_zz42).a.den) : runF (A_zz42) N Try.f68 S_zz42 x = zz42 N x.1 x.2.1 := by
  refine (run0_zz42 N x).trans ?_
  rw [(funext fun so1 => (funext fun list5 => (funext fun t9 => (funext fun t10 => zz42_in3 N so1 list5 t9 t10))))]
  rfl
theorem fn_zz42 : FnOk Try.prog 68 := ⟨_, Try.func68, by kernel_rfl, by kernel_rfl⟩
theorem good_zz42 : Gx.Good Try.prog 68 S_zz42 := good_of_run Try.func68 (of_decide_eq_true (by kernel_rfl)) fun x r h => ⟨A_zz42, big, mkCfg_ok tabOk, mkCfg_sigs (show SigsOk Try.prog [(96, S_zz41)] from ⟨⟨fn_zz41, good_zz41⟩, trivial⟩), (run_zz42 big x).trans h⟩

/-! zz43 -/
def zz43_b7 (rec : Y5 → Y3 → Int → Y4 → Int → Int → Int → Int → Z1) (k : Y5 → Y3 → Y4 → Int → Int → Z1) (o1 : Y5) (table4 : Y3) (x5 : Int) (row6 : Y4) (t11 t12 t17 t18 : Int) : Z1 :=
  cond (decide (t18 < t17))
  ((zz42 big o1 (o1, x5, t18, ())).bind fun rq1 =>
  (zz40 big o1 rq1.1).bind fun rq2 =>
  cond (decide (rq2.1 < (0 : Int)))
  (some (([], false, ()), (())))
  ((appI row6 [rq2.1]).bind fun xq3 =>
  rec o1 table4 x5 xq3 t11 t12 t17 (IntKind.i64.wrap (t18 + (1 : Int)))))
  (k o1 table4 row6 t11 t12)
def zz43_a7 (rec : Y5 → Y3 → Int → Int → Z1) (o1 : Y5) (table4 : Y3) (row6 : Y4) (t11 t12 : Int) : Z1 :=
  (appI table4 [row6]).bind fun xq4 =>
  rec o1 xq4 t11 (IntKind.i64.wrap (t12 + (1 : Int)))
def zz43_b3 (L7 : Y5 → Y3 → Int → Y4 → Int → Int → Int → Int → Z1) (k : Y3 → Z1) (o1 : Y5) (table4 : Y3) (t11 t12 : Int) : Z1 :=
  cond (decide (t12 < t11))
  (L7 o1 table4 t12 [] t11 t12 (o1.length : Int) (0 : Int))
  (k table4)
def zz43_a3 (table4 : Y3) : Z1 :=
  some ((table4, true, ()), (()))
def zz43_s (L3 : Y5 → Y3 → Int → Int → Z1) (o_0 : Y5) : Z1 :=
  L3 o_0 [] (o_0.length : Int) (0 : Int)
def zz43_l7 (N : Nat) (k : Y5 → Y3 → Y4 → Int → Int → Z1) : Nat → Y5 → Y3 → Int → Y4 → Int → Int → Int → Int → Z1
  | 0, _, _, _, _, _, _, _, _ => none
  | m + 1, o1, table4, x5, row6, t11, t12, t17, t18 => zz43_b7 (zz43_l7 N k m) k o1 table4 x5 row6 t11 t12 t17 t18
def zz43_F7 (N : Nat) (rec : Y5 → Y3 → Int → Int → Z1) (k : Y3 → Z1) (o1 : Y5) (table4 : Y3) (x5 : Int) (row6 : Y4) (t11 t12 t17 t18 : Int) : Z1 := zz43_l7 N (zz43_a7 rec) N o1 table4 x5 row6 t11 t12 t17 t18
def zz43_l3 (N : Nat) (k : Y3 → Z1) : Nat → Y5 → Y3 → Int → Int → Z1
  | 0, _, _, _, _ => none
  | m + 1, o1, table4, t11, t12 => zz43_b3 (zz43_F7 N (zz43_l3 N k m) k) k o1 table4 t11 t12
def zz43_F3 (N : Nat) (o1 : Y5) (table4 : Y3) (t11 t12 : Int) : Z1 := zz43_l3 N (zz43_a3) N o1 table4 t11 t12
def zz43 (N : Nat) (o_0 : Y5) : Z1 := zz43_s (zz43_F3 N) o_0
def S_zz43 : Sig := { a := (.pair (.sl (.sl .bool)) .unit), md := [0], mf := [], m := .unit, r := (.tup (.pair (.sl (.sl I)) (.pair .bool .unit))), rf := (.p (.o (.o .i)) .i), f := fun x => zz43 big x.1 }
def A_zz43 : Cfg := mkCfg tab [(68, S_zz42), (95, S_zz40)] [(6, [.drop, .as (.ptr (.sl (.sl .bool))) .i, .drop, .drop, .as (.sl (.sl I)) (.o (.o .i)), .drop, .drop, .drop, .drop, .drop, .drop, .as I .i, .as I .i]), (14, [.drop, .as (.ptr (.sl (.sl .bool))) .i, .drop, .drop, .as (.sl (.sl I)) (.o (.o .i)), .as (.ptr I) .i, .as (.sl I) (.o .i), .drop, .drop, .drop, .drop, .as I .i, .as I .i, .drop, .drop, .drop, .drop, .as I .i, .as I .i]), (33, [.drop, .drop, .drop, .drop, .as (.sl (.sl I)) (.o (.o .i))]), (19, [.drop, .as (.ptr (.sl (.sl .bool))) .i, .drop, .drop, .as (.sl (.sl I)) (.o (.o .i)), .as (.ptr I) .i, .as (.sl I) (.o .i), .as (.ptr I) .i, .drop, .drop, .drop, .as I .i, .as I .i, .drop, .drop, .drop, .drop, .as I .i, .as I .i]), (29, [.drop, .as (.ptr (.sl (.sl .bool))) .i, .drop, .drop, .as (.sl (.sl I)) (.o (.o .i)), .drop, .as (.sl I) (.o .i), .drop, .drop, .drop, .drop, .as I .i, .as I .i])]
noncomputable def zz43_R3 (N n : Nat) (K : Ex → St → Z1) (o1 : Y5) (table4 : Y3) (t11 t12 : Int) : Z1 := iter ((A_zz43).shape 6) (run (A_zz43) N (codeAt Try.f65 [1, 1, 0, 1, 0, 0])) n ([.u, .val (.ptr (.sl (.sl .bool))) .i o1, .u, .u, .val (.sl (.sl I)) (.o (.o .i)) table4, .u, .u, .u, .u, .u, .u, .val I .i t11, .val I .i t12] ++ List.replicate 26 .u) K
noncomputable def zz43_R7 (N n : Nat) (K : Ex → St → Z1) (o1 : Y5) (table4 : Y3) (x5 : Int) (row6 : Y4) (t11 t12 t17 t18 : Int) : Z1 := iter ((A_zz43).shape 14) (run (A_zz43) N (codeAt Try.f65 [1, 1, 0, 1, 0, 0, 1, 1, 0, 0, 1, 1, 0, 1, 0, 0])) n ([.u, .val (.ptr (.sl (.sl .bool))) .i o1, .u, .u, .val (.sl (.sl I)) (.o (.o .i)) table4, .val (.ptr I) .i x5, .val (.sl I) (.o .i) row6, .u, .u, .u, .u, .val I .i t11, .val I .i t12, .u, .u, .u, .u, .val I .i t17, .val I .i t18] ++ List.replicate 20 .u) K
noncomputable abbrev zz43_z : Ex → St → Z1 := finish (A_zz43) S_zz43 Try.f65.results.toList
noncomputable abbrev zz43_X3 (kX : St → Z1) : Y3 → Z1 := fun (table4 : Y3) => kX ([.u, .u, .u, .u, .val (.sl (.sl I)) (.o (.o .i)) table4] ++ List.replicate 34 .u)
noncomputable abbrev zz43_E3 (kX : St → Z1) (kO : Nat → St → Z1) : Ex → St → Z1 := exK zz43_z 0 ((A_zz43).shape 33) kX kO
noncomputable abbrev zz43_X7 (kX : St → Z1) : Y5 → Y3 → Y4 → Int → Int → Z1 := fun (o1 : Y5) (table4 : Y3) (row6 : Y4) (t11 t12 : Int) => kX ([.u, .val (.ptr (.sl (.sl .bool))) .i o1, .u, .u, .val (.sl (.sl I)) (.o (.o .i)) table4, .u, .val (.sl I) (.o .i) row6, .u, .u, .u, .u, .val I .i t11, .val I .i t12] ++ List.replicate 26 .u)
noncomputable abbrev zz43_E7 (kX : St → Z1) (kO : Nat → St → Z1) : Ex → St → Z1 := exK zz43_z 2 ((A_zz43).shape 29) kX kO
theorem zz43_step7 (N m : Nat) (kX : St → Z1) (kO : Nat → St → Z1) (o1 : Y5) (table4 : Y3) (x5 : Int) (row6 : Y4) (t11 t12 t17 t18 : Int) : zz43_R7 N (m + 1) (zz43_E7 kX kO) o1 table4 x5 row6 t11 t12 t17 t18 = zz43_b7 (zz43_R7 N m (zz43_E7 kX kO)) (zz43_X7 kX) o1 table4 x5 row6 t11 t12 t17 t18 := by kernel_rfl
theorem zz43_iter7 (N : Nat) (kX : St → Z1) (kO : Nat → St → Z1) : ∀ (n : Nat) (o1 : Y5) (table4 : Y3) (x5 : Int) (row6 : Y4) (t11 t12 t17 t18 : Int), zz43_R7 N n (zz43_E7 kX kO) o1 table4 x5 row6 t11 t12 t17 t18 = zz43_l7 N (zz43_X7 kX) n o1 table4 x5 row6 t11 t12 t17 t18
  | 0, _, _, _, _, _, _, _, _ => rfl
  | m + 1, o1, table4, x5, row6, t11, t12, t17, t18 => by
    have hrec : zz43_R7 N m (zz43_E7 kX kO) = (zz43_l7 N (zz43_X7 kX) m) := (funext fun o1 => (funext fun table4 => (funext fun x5 => (funext fun row6 => (funext fun t11 => (funext fun t12 => (funext fun t17 => (funext fun t18 => zz43_iter7 N kX kO m o1 table4 x5 row6 t11 t12 t17 t18))))))))
    refine (zz43_step7 N m kX kO o1 table4 x5 row6 t11 t12 t17 t18).trans ?_
    rw [hrec]
    rfl
noncomputable abbrev zz43_K7 (N m : Nat) (kX : St → Z1) (kO : Nat → St → Z1) : Ex → St → Z1 := (blockK 2 (seqK ((A_zz43).shape 29) (run (A_zz43) N (codeAt Try.f65 [1, 1, 0, 1, 0, 0, 1, 1, 0, 0, 1, 1, 1])) (blockK 1 (seqK ((A_zz43).shape 31) (run (A_zz43) N (codeAt Try.f65 [1, 1, 0, 1, 0, 0, 1, 1, 1])) (iterK ((A_zz43).shape 6) (run (A_zz43) N (codeAt Try.f65 [1, 1, 0, 1, 0, 0])) m (zz43_E3 kX kO))))))
noncomputable abbrev zz43_k7 (N m : Nat) (kX : St → Z1) (kO : Nat → St → Z1) : St → Z1 := fun st' => run (A_zz43) N (codeAt Try.f65 [1, 1, 0, 1, 0, 0, 1, 1, 0, 0, 1, 1, 1]) st' (blockK 1 (seqK ((A_zz43).shape 31) (run (A_zz43) N (codeAt Try.f65 [1, 1, 0, 1, 0, 0, 1, 1, 1])) (iterK ((A_zz43).shape 6) (run (A_zz43) N (codeAt Try.f65 [1, 1, 0, 1, 0, 0])) m (zz43_E3 kX kO))))
theorem zz43_after7 (N m : Nat) (kX : St → Z1) (kO : Nat → St → Z1) (o1 : Y5) (table4 : Y3) (row6 : Y4) (t11 t12 : Int) : zz43_X7 (zz43_k7 N m kX kO) o1 table4 row6 t11 t12 = zz43_a7 (zz43_R3 N m (zz43_E3 kX kO)) o1 table4 row6 t11 t12 := by kernel_rfl
theorem zz43_in7 (N m : Nat) (kX : St → Z1) (kO : Nat → St → Z1) (recF : Y5 → Y3 → Int → Int → Z1) (hrec : zz43_R3 N m (zz43_E3 kX kO) = recF) (o1 : Y5) (table4 : Y3) (x5 : Int) (row6 : Y4) (t11 t12 t17 t18 : Int) : zz43_R7 N N (zz43_K7 N m kX kO) o1 table4 x5 row6 t11 t12 t17 t18 = zz43_F7 N recF (zz43_X3 kX) o1 table4 x5 row6 t11 t12 t17 t18 :=
  have h : zz43_X7 (zz43_k7 N m kX kO) = (zz43_a7 recF) := (funext fun o1 => (funext fun table4 => (funext fun row6 => (funext fun t11 => (funext fun t12 => (zz43_after7 N m kX kO o1 table4 row6 t11 t12).trans (by rw [hrec]))))))
  ((iter_ex (fun st => by kernel_rfl) (fun st => by kernel_rfl)).trans (zz43_iter7 N (zz43_k7 N m kX kO) (fun j st => (zz43_K7 N m kX kO) (.exit j) st) N o1 table4 x5 row6 t11 t12 t17 t18)).trans (congrArg (fun k => zz43_l7 N k N o1 table4 x5 row6 t11 t12 t17 t18) h)
theorem zz43_step3 (N m : Nat) (kX : St → Z1) (kO : Nat → St → Z1) (o1 : Y5) (table4 : Y3) (t11 t12 : Int) : zz43_R3 N (m + 1) (zz43_E3 kX kO) o1 table4 t11 t12 = zz43_b3 (zz43_R7 N N (zz43_K7 N m kX kO)) (zz43_X3 kX) o1 table4 t11 t12 := by kernel_rfl
theorem zz43_iter3 (N : Nat) (kX : St → Z1) (kO : Nat → St → Z1) : ∀ (n : Nat) (o1 : Y5) (table4 : Y3) (t11 t12 : Int), zz43_R3 N n (zz43_E3 kX kO) o1 table4 t11 t12 = zz43_l3 N (zz43_X3 kX) n o1 table4 t11 t12
  | 0, _, _, _, _ => rfl
  | m + 1, o1, table4, t11, t12 => by
    have hrec : zz43_R3 N m (zz43_E3 kX kO) = (zz43_l3 N (zz43_X3 kX) m) := (funext fun o1 => (funext fun table4 => (funext fun t11 => (funext fun t12 => zz43_iter3 N kX kO m o1 table4 t11 t12))))
    refine (zz43_step3 N m kX kO o1 table4 t11 t12).trans ?_
    rw [(funext fun o1 => (funext fun table4 => (funext fun x5 => (funext fun row6 => (funext fun t11 => (funext fun t12 => (funext fun t17 => (funext fun t18 => zz43_in7 N m kX kO (zz43_l3 N (zz43_X3 kX) m) hrec o1 table4 x5 row6 t11 t12 t17 t18))))))))]
    rfl
noncomputable abbrev zz43_K3 (N : Nat) : Ex → St → Z1 := (blockK 0 (seqK ((A_zz43).shape 33) (run (A_zz43) N (codeAt Try.f65 [1, 1, 1])) zz43_z))
noncomputable abbrev zz43_k3 (N : Nat) : St → Z1 := fun st' => run (A_zz43) N (codeAt Try.f65 [1, 1, 1]) st' zz43_z
theorem zz43_after3 (N : Nat) (table4 : Y3) : zz43_X3 (zz43_k3 N) table4 = zz43_a3 table4 := by kernel_rfl
theorem zz43_in3 (N : Nat) (o1 : Y5) (table4 : Y3) (t11 t12 : Int) : zz43_R3 N N (zz43_K3 N) o1 table4 t11 t12 = zz43_F3 N o1 table4 t11 t12 :=
  have h : zz43_X3 (zz43_k3 N) = (zz43_a3) := (funext fun table4 => zz43_after3 N table4)
  ((iter_ex (fun st => by kernel_rfl) (fun st => by kernel_rfl)).trans (zz43_iter3 N (zz43_k3 N) (fun j st => (zz43_K3 N) (.exit j) st) N o1 table4 t11 t12)).trans (congrArg (fun k => zz43_l3 N k N o1 table4 t11 t12) h)
theorem run0_zz43 (N : Nat) (x : (S_zz43).a.den) : runF (A_zz43) N Try.f65 S_zz43 x = (zz43_s (zz43_R3 N N (zz43_K3 N)) x.1) := by kernel_rfl
theorem run_zz43 (N : Nat) (x : (S_zz43).a.den) : runF (A_zz43) N Try.f65 S_zz43 x = zz43 N x.1 := by
  refine (run0_zz43 N x).trans ?_
  rw [(funext fun o1 => (funext fun table4 => (funext fun t11 => (funext fun t12 => zz43_in3 N o1 table4 t11 t12))))]
  rfl
theorem fn_zz43 : FnOk Try.prog 65 := ⟨_, Try.func65, by kernel_rfl, by kernel_rfl⟩
theorem good_zz43 : Gx.Good Try.prog 65 S_zz43 := good_of_run Try.func65 (of_decide_eq_true (by kernel_rfl)) fun x r h => ⟨A_zz43, big, mkCfg_ok tabOk, mkCfg_sigs (show SigsOk Try.prog [(68, S_zz42), (95, S_zz40)] from ⟨⟨fn_zz42, good_zz42⟩, ⟨fn_zz40, good_zz40⟩, trivial⟩), (run_zz43 big x).trans h⟩

/-! zz44 -/
def zz44_b6 (rec : Y5 → Y5 → Int → Int → Int → Int → Int → Z6) (k : Y5 → Y5 → Int → Int → Z6) (o0 d3 : Y5) (x4 t10 t11 t15 t16 : Int) : Z6 :=
  cond (decide (t16 < t15))
  ((atI d3 x4).bind fun _ =>
  (d3[x4.toNat]?).bind fun xq2 =>
  (atI o0 t16).bind fun xq3 =>
  (atI xq3 x4).bind fun xq4 =>
  (d3[x4.toNat]?).bind fun xq5 =>
  (atI xq5 t16).bind fun _ =>
  (d3[x4.toNat]?).bind fun xq6 =>
  (xq6[t16.toNat]?).bind fun xq7 =>
  rec o0 (d3.set x4.toNat (xq6.set t16.toNat xq4)) x4 t10 t11 t15 (IntKind.i64.wrap (t16 + (1 : Int))))
  (k o0 d3 t10 t11)
def zz44_a6 (rec : Y5 → Y5 → Int → Int → Z6) (o0 d3 : Y5) (t10 t11 : Int) : Z6 :=
  rec o0 d3 t10 (IntKind.i64.wrap (t11 + (1 : Int)))
def zz44_b3 (L6 : Y5 → Y5 → Int → Int → Int → Int → Int → Z6) (k : Y5 → Z6) (o0 d3 : Y5) (t10 t11 : Int) : Z6 :=
  cond (decide (t11 < t10))
  (L6 o0 d3 t11 t10 t11 (o0.length : Int) (0 : Int))
  (k d3)
def zz44_a3 (d3 : Y5) : Z6 :=
  some (d3, (()))
def zz44_s (L3 : Y5 → Y5 → Int → Int → Z6) (o_0 : Y5) : Z6 :=
  (zz35 big (o_0.length : Int)).bind fun rq1 =>
  L3 o_0 rq1.1 (o_0.length : Int) (0 : Int)
def zz44_l6 (N : Nat) (k : Y5 → Y5 → Int → Int → Z6) : Nat → Y5 → Y5 → Int → Int → Int → Int → Int → Z6
  | 0, _, _, _, _, _, _, _ => none
  | m + 1, o0, d3, x4, t10, t11, t15, t16 => zz44_b6 (zz44_l6 N k m) k o0 d3 x4 t10 t11 t15 t16
def zz44_F6 (N : Nat) (rec : Y5 → Y5 → Int → Int → Z6) (k : Y5 → Z6) (o0 d3 : Y5) (x4 t10 t11 t15 t16 : Int) : Z6 := zz44_l6 N (zz44_a6 rec) N o0 d3 x4 t10 t11 t15 t16
def zz44_l3 (N : Nat) (k : Y5 → Z6) : Nat → Y5 → Y5 → Int → Int → Z6
  | 0, _, _, _, _ => none
  | m + 1, o0, d3, t10, t11 => zz44_b3 (zz44_F6 N (zz44_l3 N k m) k) k o0 d3 t10 t11
def zz44_F3 (N : Nat) (o0 d3 : Y5) (t10 t11 : Int) : Z6 := zz44_l3 N (zz44_a3) N o0 d3 t10 t11
def zz44 (N : Nat) (o_0 : Y5) : Z6 := zz44_s (zz44_F3 N) o_0
def S_zz44 : Sig := { a := (.pair (.sl (.sl .bool)) .unit), md := [0], mf := [], m := .unit, r := (.sl (.sl .bool)), rf := (.o (.o .i)), f := fun x => zz44 big x.1 }
def A_zz44 : Cfg := mkCfg tab [(92, S_zz35)] [(6, [.as (.sl (.sl .bool)) .i, .drop, .drop, .as (.sl (.sl .bool)) (.o (.o .i)), .drop, .drop, .drop, .drop, .drop, .drop, .as I .i, .as I .i]), (12, [.as (.sl (.sl .bool)) .i, .drop, .drop, .as (.sl (.sl .bool)) (.o (.o .i)), .as I .i, .drop, .drop, .drop, .drop, .drop, .as I .i, .as I .i, .drop, .drop, .drop, .as I .i, .as I .i]), (23, [.drop, .drop, .drop, .as (.sl (.sl .bool)) (.o (.o .i))]), (21, [.as (.sl (.sl .bool)) .i, .drop, .drop, .as (.sl (.sl .bool)) (.o (.o .i)), .drop, .drop, .drop, .drop, .drop, .drop, .as I .i, .as I .i])]
noncomputable def zz44_R3 (N n : Nat) (K : Ex → St → Z6) (o0 d3 : Y5) (t10 t11 : Int) : Z6 := iter ((A_zz44).shape 6) (run (A_zz44) N (codeAt Try.f66 [1, 1, 0, 1, 0, 0])) n ([.val (.sl (.sl .bool)) .i o0, .u, .u, .val (.sl (.sl .bool)) (.o (.o .i)) d3, .u, .u, .u, .u, .u, .u, .val I .i t10, .val I .i t11] ++ List.replicate 23 .u) K
noncomputable def zz44_R6 (N n : Nat) (K : Ex → St → Z6) (o0 d3 : Y5) (x4 t10 t11 t15 t16 : Int) : Z6 := iter ((A_zz44).shape 12) (run (A_zz44) N (codeAt Try.f66 [1, 1, 0, 1, 0, 0, 1, 1, 0, 0, 1, 1, 0, 0])) n ([.val (.sl (.sl .bool)) .i o0, .u, .u, .val (.sl (.sl .bool)) (.o (.o .i)) d3, .val I .i x4, .u, .u, .u, .u, .u, .val I .i t10, .val I .i t11, .u, .u, .u, .val I .i t15, .val I .i t16] ++ List.replicate 18 .u) K
noncomputable abbrev zz44_z : Ex → St → Z6 := finish (A_zz44) S_zz44 Try.f66.results.toList
noncomputable abbrev zz44_X3 (kX : St → Z6) : Y5 → Z6 := fun (d3 : Y5) => kX ([.u, .u, .u, .val (.sl (.sl .bool)) (.o (.o .i)) d3] ++ List.replicate 31 .u)
noncomputable abbrev zz44_E3 (kX : St → Z6) (kO : Nat → St → Z6) : Ex → St → Z6 := exK zz44_z 0 ((A_zz44).shape 23) kX kO
noncomputable abbrev zz44_X6 (kX : St → Z6) : Y5 → Y5 → Int → Int → Z6 := fun (o0 d3 : Y5) (t10 t11 : Int) => kX ([.val (.sl (.sl .bool)) .i o0, .u, .u, .val (.sl (.sl .bool)) (.o (.o .i)) d3, .u, .u, .u, .u, .u, .u, .val I .i t10, .val I .i t11] ++ List.replicate 23 .u)
noncomputable abbrev zz44_E6 (kX : St → Z6) (kO : Nat → St → Z6) : Ex → St → Z6 := exK zz44_z 2 ((A_zz44).shape 21) kX kO
theorem zz44_step6 (N m : Nat) (kX : St → Z6) (kO : Nat → St → Z6) (o0 d3 : Y5) (x4 t10 t11 t15 t16 : Int) : zz44_R6 N (m + 1) (zz44_E6 kX kO) o0 d3 x4 t10 t11 t15 t16 = zz44_b6 (zz44_R6 N m (zz44_E6 kX kO)) (zz44_X6 kX) o0 d3 x4 t10 t11 t15 t16 := by kernel_rfl
theorem zz44_iter6 (N : Nat) (kX : St → Z6) (kO : Nat → St → Z6) : ∀ (n : Nat) (o0 d3 : Y5) (x4 t10 t11 t15 t16 : Int), zz44_R6 N n (zz44_E6 kX kO) o0 d3 x4 t10 t11 t15 t16 = zz44_l6 N (zz44_X6 kX) n o0 d3 x4 t10 t11 t15 t16
  | 0, _, _, _, _, _, _, _ => rfl
  | m + 1, o0, d3, x4, t10, t11, t15, t16 => by
    have hrec : zz44_R6 N m (zz44_E6 kX kO) = (zz44_l6 N (zz44_X6 kX) m) := (funext fun o0 => (funext fun d3 => (funext fun x4 => (funext fun t10 => (funext fun t11 => (funext fun t15 => (funext fun t16 => zz44_iter6 N kX kO m o0 d3 x4 t10 t11 t15 t16)))))))
    refine (zz44_step6 N m kX kO o0 d3 x4 t10 t11 t15 t16).trans ?_
    rw [hrec]
    rfl
noncomputable abbrev zz44_K6 (N m : Nat) (kX : St → Z6) (kO : Nat → St → Z6) : Ex → St → Z6 := (blockK 2 (blockK 1 (seqK ((A_zz44).shape 21) (run (A_zz44) N (codeAt Try.f66 [1, 1, 0, 1, 0, 0, 1, 1, 1])) (iterK ((A_zz44).shape 6) (run (A_zz44) N (codeAt Try.f66 [1, 1, 0, 1, 0, 0])) m (zz44_E3 kX kO)))))
noncomputable abbrev zz44_k6 (N m : Nat) (kX : St → Z6) (kO : Nat → St → Z6) : St → Z6 := fun st' => run (A_zz44) N (codeAt Try.f66 [1, 1, 0, 1, 0, 0, 1, 1, 1]) st' (iterK ((A_zz44).shape 6) (run (A_zz44) N (codeAt Try.f66 [1, 1, 0, 1, 0, 0])) m (zz44_E3 kX kO))
theorem zz44_after6 (N m : Nat) (kX : St → Z6) (kO : Nat → St → Z6) (o0 d3 : Y5) (t10 t11 : Int) : zz44_X6 (zz44_k6 N m kX kO) o0 d3 t10 t11 = zz44_a6 (zz44_R3 N m (zz44_E3 kX kO)) o0 d3 t10 t11 := by kernel_rfl
theorem zz44_in6 (N m : Nat) (kX : St → Z6) (kO : Nat → St → Z6) (recF : Y5 → Y5 → Int → Int → Z6) (hrec : zz44_R3 N m (zz44_E3 kX kO) = recF) (o0 d3 : Y5) (x4 t10 t11 t15 t16 : Int) : zz44_R6 N N (zz44_K6 N m kX kO) o0 d3 x4 t10 t11 t15 t16 = zz44_F6 N recF (zz44_X3 kX) o0 d3 x4 t10 t11 t15 t16 :=
  have h : zz44_X6 (zz44_k6 N m kX kO) = (zz44_a6 recF) := (funext fun o0 => (funext fun d3 => (funext fun t10 => (funext fun t11 => (zz44_after6 N m kX kO o0 d3 t10 t11).trans (by rw [hrec])))))
  ((iter_ex (fun st => by kernel_rfl) (fun st => by kernel_rfl)).trans (zz44_iter6 N (zz44_k6 N m kX kO) (fun j st => (zz44_K6 N m kX kO) (.exit j) st) N o0 d3 x4 t10 t11 t15 t16)).trans (congrArg (fun k => zz44_l6 N k N o0 d3 x4 t10 t11 t15 t16) h)
theorem zz44_step3 (N m : Nat) (kX : St → Z6) (kO : Nat → St → Z6) (o0 d3 : Y5) (t10 t11 : Int) : zz44_R3 N (m + 1) (zz44_E3 kX kO) o0 d3 t10 t11 = zz44_b3 (zz44_R6 N N (zz44_K6 N m kX kO)) (zz44_X3 kX) o0 d3 t10 t11 := by kernel_rfl
theorem zz44_iter3 (N : Nat) (kX : St → Z6) (kO : Nat → St → Z6) : ∀ (n : Nat) (o0 d3 : Y5) (t10 t11 : Int), zz44_R3 N n (zz44_E3 kX kO) o0 d3 t10 t11 = zz44_l3 N (zz44_X3 kX) n o0 d3 t10 t11
  | 0, _, _, _, _ => rfl
  | m + 1, o0, d3, t10, t11 => by
    have hrec : zz44_R3 N m (zz44_E3 kX kO) = (zz44_l3 N (zz44_X3 kX) m) := (funext fun o0 => (funext fun d3 => (funext fun t10 => (funext fun t11 => zz44_iter3 N kX kO m o0 d3 t10 t11))))
    refine (zz44_step3 N m kX kO o0 d3 t10 t11).trans ?_
    rw [(funext fun o0 => (funext fun d3 => (funext fun x4 => (funext fun t10 => (funext fun t11 => (funext fun t15 => (funext fun t16 => zz44_in6 N m kX kO (zz44_l3 N (zz44_X3 kX) m) hrec o0 d3 x4 t10 t11 t15 t16)))))))]
    rfl
noncomputable abbrev zz44_K3 (N : Nat) : Ex → St → Z6 := (blockK 0 (seqK ((A_zz44).shape 23) (run (A_zz44) N (codeAt Try.f66 [1, 1, 1])) zz44_z))
noncomputable abbrev zz44_k3 (N : Nat) : St → Z6 := fun st' => run (A_zz44) N (codeAt Try.f66 [1, 1, 1]) st' zz44_z
theorem zz44_after3 (N : Nat) (d3 : Y5) : zz44_X3 (zz44_k3 N) d3 = zz44_a3 d3 := by kernel_rfl
theorem zz44_in3 (N : Nat) (o0 d3 : Y5) (t10 t11 : Int) : zz44_R3 N N (zz44_K3 N) o0 d3 t10 t11 = zz44_F3 N o0 d3 t10 t11 :=
  have h : zz44_X3 (zz44_k3 N) = (zz44_a3) := (funext fun d3 => zz44_after3 N d3)
  ((iter_ex (fun st => by kernel_rfl) (fun st => by kernel_rfl)).trans (zz44_iter3 N (zz44_k3 N) (fun j st => (zz44_K3 N) (.exit j) st) N o0 d3 t10 t11)).trans (congrArg (fun k => zz44_l3 N k N o0 d3 t10 t11) h)
theorem run0_zz44 (N : Nat) (x : (S_zz44).a.den) : runF (A_zz44) N Try.f66 S_zz44 x = (zz44_s (zz44_R3 N N (zz44_K3 N)) x.1) := by kernel_rfl
theorem run_zz44 (N : Nat) (x : (S_zz44).a.den) : runF (A_zz44) N Try.f66 S_zz44 x = zz44 N x.1 := by
  refine (run0_zz44 N x).trans ?_
  rw [(funext fun o0 => (funext fun d3 => (funext fun t10 => (funext fun t11 => zz44_in3 N o0 d3 t10 t11))))]
  rfl
theorem fn_zz44 : FnOk Try.prog 66 := ⟨_, Try.func66, by kernel_rfl, by kernel_rfl⟩
theorem good_zz44 : Gx.Good Try.prog 66 S_zz44 := good_of_run Try.func66 (of_decide_eq_true (by kernel_rfl)) fun x r h => ⟨A_zz44, big, mkCfg_ok tabOk, mkCfg_sigs (show SigsOk Try.prog [(92, S_zz35)] from ⟨⟨fn_zz35, good_zz35⟩, trivial⟩), (run_zz44 big x).trans h⟩

/-! zz45 -/
def zz45_s (p_0 : Y2) : Option ((Y1 × (Bool × Unit)) × Unit) :=
  (zz39 big p_0).bind fun rq1 =>
  cond (!((((), rq1.1.2).2).1))
  (some ((none, false, ()), (())))
  (cond (decide ((rq1.1.1.length : Int) = (0 : Int)))
  (some ((none, false, ()), (())))
  ((zz43 big rq1.1.1).bind fun rq2 =>
  (zz44 big rq1.1.1).bind fun rq3 =>
  (zz43 big rq3.1).bind fun rq4 =>
  cond ((((), rq2.1.2).2).1)
  (some ((some (rq1.1.1, (rq2.1.1, (rq4.1.1, ()))), (((), rq4.1.2).2).1, ()), (())))
  (some ((some (rq1.1.1, (rq2.1.1, (rq4.1.1, ()))), false, ()), (())))))
def zz45 (p_0 : Y2) : Option ((Y1 × (Bool × Unit)) × Unit) := zz45_s p_0
def S_zz45 : Sig := { a := (.pair (.pair (.sl (.sl I)) .unit) .unit), md := [0], mf := [], m := .unit, r := (.tup (.pair (.opt (.pair (.sl (.sl .bool)) (.pair (.sl (.sl I)) (.pair (.sl (.sl I)) .unit)))) (.pair .bool .unit))), rf := .i, f := fun x => zz45 x.1 }
def A_zz45 : Cfg := mkCfg tab [(64, S_zz39), (65, S_zz43), (66, S_zz44)] []
theorem run_zz45 (N : Nat) (x : (S_zz45).a.den) : runF (A_zz45) N Try.f28 S_zz45 x = zz45 x.1 := by kernel_rfl
theorem fn_zz45 : FnOk Try.prog 28 := ⟨_, Try.func28, by kernel_rfl, by kernel_rfl⟩
theorem good_zz45 : Gx.Good Try.prog 28 S_zz45 := good_of_run Try.func28 (of_decide_eq_true (by kernel_rfl)) fun x r h => ⟨A_zz45, big, mkCfg_ok tabOk, mkCfg_sigs (show SigsOk Try.prog [(64, S_zz39), (65, S_zz43), (66, S_zz44)] from ⟨⟨fn_zz39, good_zz39⟩, ⟨fn_zz43, good_zz43⟩, ⟨fn_zz44, good_zz44⟩, trivial⟩), (run_zz45 big x).trans h⟩

/-! zz46 -/
def zz46_s (p_0 : Y2) : Option ((Y1 × (Bool × Unit)) × Unit) :=
  (zz45 p_0).bind fun rq1 =>
  cond rq1.1.2.1
  ((rq1.1.1).bind fun xq2 =>
  some ((rq1.1.1, decide ((xq2.1.length : Int) ≤ (8 : Int)), ()), (())))
  (some ((rq1.1.1, false, ()), (())))
def zz46 (p_0 : Y2) : Option ((Y1 × (Bool × Unit)) × Unit) := zz46_s p_0
def S_zz46 : Sig := { a := (.pair (.pair (.sl (.sl I)) .unit) .unit), md := [0], mf := [], m := .unit, r := (.tup (.pair (.opt (.pair (.sl (.sl .bool)) (.pair (.sl (.sl I)) (.pair (.sl (.sl I)) .unit)))) (.pair .bool .unit))), rf := .i, f := fun x => zz46 x.1 }
def A_zz46 : Cfg := mkCfg tab [(28, S_zz45)] []
theorem run_zz46 (N : Nat) (x : (S_zz46).a.den) : runF (A_zz46) N Try.f51 S_zz46 x = zz46 x.1 := by kernel_rfl
theorem fn_zz46 : FnOk Try.prog 51 := ⟨_, Try.func51, by kernel_rfl, by kernel_rfl⟩
theorem good_zz46 : Gx.Good Try.prog 51 S_zz46 := good_of_run Try.func51 (of_decide_eq_true (by kernel_rfl)) fun x r h => ⟨A_zz46, big, mkCfg_ok tabOk, mkCfg_sigs (show SigsOk Try.prog [(28, S_zz45)] from ⟨⟨fn_zz45, good_zz45⟩, trivial⟩), (run_zz46 big x).trans h⟩

/-! zz47 -/
def zz47_b3 (rec : Y6 → Y6 → Y3 → Int → Int → Z12) (k : Y6 → Y6 → Z12) (t2 f3 : Y6) (t7 : Y3) (t8 t9 : Int) : Z12 :=
  cond (decide (t9 < t8))
  ((atI t7 t9).bind fun xq1 =>
  (appI f3.2.1 xq1).bind fun xq2 =>
  rec t2 ((f3.1, ((), f3.2.2)).1, (xq2, ((f3.1, ((), f3.2.2)).2).2)) t7 t8 (IntKind.i64.wrap (t9 + (1 : Int))))
  (k t2 f3)
def zz47_a3 (t2 f3 : Y6) : Z12 :=
  some (f3, (()))
def zz47_s (L3 : Y6 → Y6 → Y3 → Int → Int → Z12) (table_0 : Y3) : Z12 :=
  L3 ((0 : Int), (([] : Y4), ())) ((2 : Int), (([] : Y4), ())) table_0 (table_0.length : Int) (0 : Int)
def zz47_l3 (N : Nat) (k : Y6 → Y6 → Z12) : Nat → Y6 → Y6 → Y3 → Int → Int → Z12
  | 0, _, _, _, _, _ => none
  | m + 1, t2, f3, t7, t8, t9 => zz47_b3 (zz47_l3 N k m) k t2 f3 t7 t8 t9
def zz47_F3 (N : Nat) (t2 f3 : Y6) (t7 : Y3) (t8 t9 : Int) : Z12 := zz47_l3 N (zz47_a3) N t2 f3 t7 t8 t9
def zz47 (N : Nat) (table_0 : Y3) : Z12 := zz47_s (zz47_F3 N) table_0
def S_zz47 : Sig := { a := (.pair (.sl (.sl I)) .unit), md := [0], mf := [], m := .unit, r := (.pair I (.pair (.sl I) .unit)), rf := (.p .i (.p (.o .i) .i)), f := fun x => zz47 big x.1 }
def A_zz47 : Cfg := mkCfg tab [] [(6, [.drop, .drop, .as (.ptr (.pair I (.pair (.sl I) .unit))) (.o (.p .i (.p (.o .i) .i))), .as (.ptr (.pair I (.pair (.sl I) .unit))) (.o (.p .i (.p (.o .i) .i))), .drop, .drop, .drop, .as (.sl (.sl I)) .i, .as I .i, .as I .i]), (15, [.drop, .drop, .as (.ptr (.pair I (.pair (.sl I) .unit))) (.o (.p .i (.p (.o .i) .i))), .as (.ptr (.pair I (.pair (.sl I) .unit))) (.o (.p .i (.p (.o .i) .i)))])]
noncomputable def zz47_R3 (N n : Nat) (K : Ex → St → Z12) (t2 f3 : Y6) (t7 : Y3) (t8 t9 : Int) : Z12 := iter ((A_zz47).shape 6) (run (A_zz47) N (codeAt Try.f88 [1, 1, 0, 1, 0, 0])) n ([.u, .u, .val (.ptr (.pair I (.pair (.sl I) .unit))) (.o (.p .i (.p (.o .i) .i))) t2, .val (.ptr (.pair I (.pair (.sl I) .unit))) (.o (.p .i (.p (.o .i) .i))) f3, .u, .u, .u, .val (.sl (.sl I)) .i t7, .val I .i t8, .val I .i t9] ++ List.replicate 10 .u) K
noncomputable abbrev zz47_z : Ex → St → Z12 := finish (A_zz47) S_zz47 Try.f88.results.toList
noncomputable abbrev zz47_X3 (kX : St → Z12) : Y6 → Y6 → Z12 := fun (t2 f3 : Y6) => kX ([.u, .u, .val (.ptr (.pair I (.pair (.sl I) .unit))) (.o (.p .i (.p (.o .i) .i))) t2, .val (.ptr (.pair I (.pair (.sl I) .unit))) (.o (.p .i (.p (.o .i) .i))) f3] ++ List.replicate 16 .u)
noncomputable abbrev zz47_E3 (kX : St → Z12) (kO : Nat → St → Z12) : Ex → St → Z12 := exK zz47_z 0 ((A_zz47).shape 15) kX kO
theorem zz47_step3 (N m : Nat) (kX : St → Z12) (kO : Nat → St → Z12) (t2 f3 : Y6) (t7 : Y3) (t8 t9 : Int) : zz47_R3 N (m + 1) (zz47_E3 kX kO) t2 f3 t7 t8 t9 = zz47_b3 (zz47_R3 N m (zz47_E3 kX kO)) (zz47_X3 kX) t2 f3 t7 t8 t9 := by kernel_rfl
theorem zz47_iter3 (N : Nat) (kX : St → Z12) (kO : Nat → St → Z12) : ∀ (n : Nat) (t2 f3 : Y6) (t7 : Y3) (t8 t9 : Int), zz47_R3 N n (zz47_E3 kX kO) t2 f3 t7 t8 t9 = zz47_l3 N (zz47_X3 kX) n t2 f3 t7 t8 t9
  | 0, _, _, _, _, _ => rfl
  | m + 1, t2, f3, t7, t8, t9 => by
    have hrec : zz47_R3 N m (zz47_E3 kX kO) = (zz47_l3 N (zz47_X3 kX) m) := (funext fun t2 => (funext fun f3 => (funext fun t7 => (funext fun t8 => (funext fun t9 => zz47_iter3 N kX kO m t2 f3 t7 t8 t9)))))
    refine (zz47_step3 N m kX kO t2 f3 t7 t8 t9).trans ?_
    rw [hrec]
    rfl
noncomputable abbrev zz47_K3 (N : Nat) : Ex → St → Z12 := (blockK 0 (seqK ((A_zz47).shape 15) (run (A_zz47) N (codeAt Try.f88 [1, 1, 1])) zz47_z))
noncomputable abbrev zz47_k3 (N : Nat) : St → Z12 := fun st' => run (A_zz47) N (codeAt Try.f88 [1, 1, 1]) st' zz47_z
theorem zz47_after3 (N : Nat) (t2 f3 : Y6) : zz47_X3 (zz47_k3 N) t2 f3 = zz47_a3 t2 f3 := by kernel_rfl
theorem zz47_in3 (N : Nat) (t2 f3 : Y6) (t7 : Y3) (t8 t9 : Int) : zz47_R3 N N (zz47_K3 N) t2 f3 t7 t8 t9 = zz47_F3 N t2 f3 t7 t8 t9 :=
  have h : zz47_X3 (zz47_k3 N) = (zz47_a3) := (funext fun t2 => (funext fun f3 => zz47_after3 N t2 f3))
  ((iter_ex (fun st => by kernel_rfl) (fun st => by kernel_rfl)).trans (zz47_iter3 N (zz47_k3 N) (fun j st => (zz47_K3 N) (.exit j) st) N t2 f3 t7 t8 t9)).trans (congrArg (fun k => zz47_l3 N k N t2 f3 t7 t8 t9) h)
theorem run0_zz47 (N : Nat) (x : (S_zz47).a.den) : runF (A_zz47) N Try.f88 S_zz47 x = (zz47_s (zz47_R3 N N (zz47_K3 N)) x.1) := by kernel_rfl
theorem run_zz47 (N : Nat) (x : (S_zz47).a.den) : runF (A_zz47) N Try.f88 S_zz47 x = zz47 N x.1 := by
  refine (run0_zz47 N x).trans ?_
  rw [(funext fun t2 => (funext fun f3 => (funext fun t7 => (funext fun t8 => (funext fun t9 => zz47_in3 N t2 f3 t7 t8 t9)))))]
  rfl
theorem fn_zz47 : FnOk Try.prog 88 := ⟨_, Try.func88, by kernel_rfl, by kernel_rfl⟩
theorem good_zz47 : Gx.Good Try.prog 88 S_zz47 := good_of_run Try.func88 (of_decide_eq_true (by kernel_rfl)) fun x r h => ⟨A_zz47, big, mkCfg_ok tabOk, mkCfg_sigs (show SigsOk Try.prog [] from trivial), (run_zz47 big x).trans h⟩

/-! zz48 -/
def zz48_s (l_0 : Y1) : Z8 :=
  (l_0).bind fun xq1 =>
  (l_0).bind fun xq2 =>
  (zz47 big xq2.2.1).bind fun rq3 =>
  (l_0).bind fun xq4 =>
  (zz47 big xq4.2.2.1).bind fun rq5 =>
  some (((xq1.1.length : Int), ([rq3.1, rq5.1], ())), (()))
def zz48 (l_0 : Y1) : Z8 := zz48_s l_0
def S_zz48 : Sig := { a := (.pair (.opt (.pair (.sl (.sl .bool)) (.pair (.sl (.sl I)) (.pair (.sl (.sl I)) .unit)))) .unit), md := [0], mf := [], m := .unit, r := (.pair I (.pair (.sl (.pair I (.pair (.sl I) .unit))) .unit)), rf := (.p .i (.p (.o (.p .i (.p (.o .i) .i))) .i)), f := fun x => zz48 x.1 }
def A_zz48 : Cfg := mkCfg tab [(88, S_zz47)] []
theorem run_zz48 (N : Nat) (x : (S_zz48).a.den) : runF (A_zz48) N Try.f53 S_zz48 x = zz48 x.1 := by kernel_rfl
theorem fn_zz48 : FnOk Try.prog 53 := ⟨_, Try.func53, by kernel_rfl, by kernel_rfl⟩
theorem good_zz48 : Gx.Good Try.prog 53 S_zz48 := good_of_run Try.func53 (of_decide_eq_true (by kernel_rfl)) fun x r h => ⟨A_zz48, big, mkCfg_ok tabOk, mkCfg_sigs (show SigsOk Try.prog [(88, S_zz47)] from ⟨⟨fn_zz47, good_zz47⟩, trivial⟩), (run_zz48 big x).trans h⟩

/-! zz49 -/
def zz49_b2 (rec : Int → Int → Int → Z3) (k : Int → Z3) (n0 k1 p5 : Int) : Z3 :=
  cond (decide ((0 : Int) < k1))
  (rec n0 (IntKind.i64.wrap (k1 - (1 : Int))) (IntKind.i64.wrap (p5 * n0)))
  (k p5)
def zz49_a2 (p5 : Int) : Z3 :=
  some (p5, (()))
def zz49_s (L2 : Int → Int → Int → Z3) (n_0 k_1 : Int) : Z3 :=
  L2 n_0 k_1 (1 : Int)
def zz49_l2 (N : Nat) (k : Int → Z3) : Nat → Int → Int → Int → Z3
  | 0, _, _, _ => none
  | m + 1, n0, k1, p5 => zz49_b2 (zz49_l2 N k m) k n0 k1 p5
def zz49_F2 (N : Nat) (n0 k1 p5 : Int) : Z3 := zz49_l2 N (zz49_a2) N n0 k1 p5
def zz49 (N : Nat) (n_0 k_1 : Int) : Z3 := zz49_s (zz49_F2 N) n_0 k_1
def S_zz49 : Sig := { a := (.pair I (.pair I .unit)), md := [0, 0], mf := [], m := .unit, r := I, rf := .i, f := fun x => zz49 big x.1 x.2.1 }
def A_zz49 : Cfg := mkCfg tab [] [(4, [.as I .i, .as I .i, .drop, .drop, .drop, .as I .i]), (11, [.drop, .drop, .drop, .drop, .drop, .as I .i])]
noncomputable def zz49_R2 (N n : Nat) (K : Ex → St → Z3) (n0 k1 p5 : Int) : Z3 := iter ((A_zz49).shape 4) (run (A_zz49) N (codeAt Try.f146 [1, 1, 0, 0, 0])) n ([.val I .i n0, .val I .i k1, .u, .u, .u, .val I .i p5] ++ List.replicate 8 .u) K
noncomputable abbrev zz49_z : Ex → St → Z3 := finish (A_zz49) S_zz49 Try.f146.results.toList
noncomputable abbrev zz49_X2 (kX : St → Z3) : Int → Z3 := fun (p5 : Int) => kX ([.u, .u, .u, .u, .u, .val I .i p5] ++ List.replicate 8 .u)
noncomputable abbrev zz49_E2 (kX : St → Z3) (kO : Nat → St → Z3) : Ex → St → Z3 := exK zz49_z 0 ((A_zz49).shape 11) kX kO
theorem zz49_step2 (N m : Nat) (kX : St → Z3) (kO : Nat → St → Z3) (n0 k1 p5 : Int) : zz49_R2 N (m + 1) (zz49_E2 kX kO) n0 k1 p5 = zz49_b2 (zz49_R2 N m (zz49_E2 kX kO)) (zz49_X2 kX) n0 k1 p5 := by kernel_rfl
theorem zz49_iter2 (N : Nat) (kX : St → Z3) (kO : Nat → St → Z3) : ∀ (n : Nat) (n0 k1 p5 : Int), zz49_R2 N n (zz49_E2 kX kO) n0 k1 p5 = zz49_l2 N (zz49_X2 kX) n n0 k1 p5
  | 0, _, _, _ => rfl
  | m + 1, n0, k1, p5 => by
    have hrec : zz49_R2 N m (zz49_E2 kX kO) = (zz49_l2 N (zz49_X2 kX) m) := (funext fun n0 => (funext fun k1 => (funext fun p5 => zz49_iter2 N kX kO m n0 k1 p5)))
    refine (zz49_step2 N m kX kO n0 k1 p5).trans ?_
    rw [hrec]
    rfl
noncomputable abbrev zz49_K2 (N : Nat) : Ex → St → Z3 := (blockK 0 (seqK ((A_zz49).shape 11) (run (A_zz49) N (codeAt Try.f146 [1, 1, 1])) zz49_z))
noncomputable abbrev zz49_k2 (N : Nat) : St → Z3 := fun st' => run (A_zz49) N (codeAt Try.f146 [1, 1, 1]) st' zz49_z
theorem zz49_after2 (N : Nat) (p5 : Int) : zz49_X2 (zz49_k2 N) p5 = zz49_a2 p5 := by kernel_rfl
theorem zz49_in2 (N : Nat) (n0 k1 p5 : Int) : zz49_R2 N N (zz49_K2 N) n0 k1 p5 = zz49_F2 N n0 k1 p5 :=
  have h : zz49_X2 (zz49_k2 N) = (zz49_a2) := (funext fun p5 => zz49_after2 N p5)
  ((iter_ex (fun st => by kernel_rfl) (fun st => by kernel_rfl)).trans (zz49_iter2 N (zz49_k2 N) (fun j st => (zz49_K2 N) (.exit j) st) N n0 k1 p5)).trans (congrArg (fun k => zz49_l2 N k N n0 k1 p5) h)
theorem run0_zz49 (N : Nat) (x : (S_zz49).a.den) : runF (A_zz49) N Try.f146 S_zz49 x = (zz49_s (zz49_R2 N N (zz49_K2 N)) x.1 x.2.1) := by kernel_rfl
theorem run_zz49 (N : Nat) (x : (S_zz49).a.den) : runF (A_zz49) N Try.f146 S_zz49 x = zz49 N x.1 x.2.1 := by
  refine (run0_zz49 N x).trans ?_
  rw [(funext fun n0 => (funext fun k1 => (funext fun p5 => zz49_in2 N n0 k1 p5)))]
  rfl
theorem fn_zz49 : FnOk Try.prog 146 := ⟨_, Try.func146, by kernel_rfl, by kernel_rfl⟩
theorem good_zz49 : Gx.Good Try.prog 146 S_zz49 := good_of_run Try.func146 (of_decide_eq_true (by kernel_rfl)) fun x r h => ⟨A_zz49, big, mkCfg_ok tabOk, mkCfg_sigs (show SigsOk Try.prog [] from trivial), (run_zz49 big x).trans h⟩

/-! zz50 -/
def zz50_s (f_0 : Y6) (n_1 : Int) : Z0 :=
  cond (decide ((0 : Int) ≤ f_0.1))
  (cond (decide (f_0.1 ≤ (3 : Int)))
  ((zz49 big n_1 f_0.1).bind fun rq1 =>
  cond (decide ((f_0.2.1.length : Int) = rq1.1))
  ((zz37 big f_0.2.1 n_1).bind fun rq2 =>
  some (rq2.1, (())))
  (some (false, (()))))
  (some (false, (()))))
  (some (false, (())))
def zz50 (f_0 : Y6) (n_1 : Int) : Z0 := zz50_s f_0 n_1
def S_zz50 : Sig := { a := (.pair (.pair I (.pair (.sl I) .unit)) (.pair I .unit)), md := [0, 0], mf := [], m := .unit, r := .bool, rf := .i, f := fun x => zz50 x.1 x.2.1 }
def A_zz50 : Cfg := mkCfg tab [(146, S_zz49), (93, S_zz37)] []
theorem run_zz50 (N : Nat) (x : (S_zz50).a.den) : runF (A_zz50) N Try.f136 S_zz50 x = zz50 x.1 x.2.1 := by kernel_rfl
theorem fn_zz50 : FnOk Try.prog 136 := ⟨_, Try.func136, by kernel_rfl, by kernel_rfl⟩
theorem good_zz50 : Gx.Good Try.prog 136 S_zz50 := good_of_run Try.func136 (of_decide_eq_true (by kernel_rfl)) fun x r h => ⟨A_zz50, big, mkCfg_ok tabOk, mkCfg_sigs (show SigsOk Try.prog [(146, S_zz49), (93, S_zz37)] from ⟨⟨fn_zz49, good_zz49⟩, ⟨fn_zz37, good_zz37⟩, trivial⟩), (run_zz50 big x).trans h⟩

/-! zz51 -/
def zz51_b4 (rec : Y7 → Z13 → Int → Int → Z0) (k : Z0) (a1 : Y7) (t20 : Z13) (t21 t22 : Int) : Z0 :=
  cond (decide (t22 < t21))
  ((atI t20 t22).bind fun xq1 =>
  (zz50 xq1 a1.1).bind fun rq2 =>
  cond (!rq2.1)
  (some (false, (())))
  (rec a1 t20 t21 (IntKind.i64.wrap (t22 + (1 : Int)))))
  (k)
def zz51_a4 : Z0 :=
  some (true, (()))
def zz51_s (L4 : Y7 → Z13 → Int → Int → Z0) (a_0 : Y7) : Z0 :=
  cond (decide (a_0.1 < (1 : Int)))
  (some (false, (())))
  (cond (decide ((8 : Int) < a_0.1))
  (some (false, (())))
  (cond (decide ((4 : Int) < (a_0.2.1.length : Int)))
  (some (false, (())))
  (L4 a_0 a_0.2.1 (a_0.2.1.length : Int) (0 : Int))))
def zz51_l4 (N : Nat) (k : Z0) : Nat → Y7 → Z13 → Int → Int → Z0
  | 0, _, _, _, _ => none
  | m + 1, a1, t20, t21, t22 => zz51_b4 (zz51_l4 N k m) k a1 t20 t21 t22
def zz51_F4 (N : Nat) (a1 : Y7) (t20 : Z13) (t21 t22 : Int) : Z0 := zz51_l4 N (zz51_a4) N a1 t20 t21 t22
def zz51 (N : Nat) (a_0 : Y7) : Z0 := zz51_s (zz51_F4 N) a_0
def S_zz51 : Sig := { a := (.pair (.pair I (.pair (.sl (.pair I (.pair (.sl I) .unit))) .unit)) .unit), md := [0], mf := [], m := .unit, r := .bool, rf := .i, f := fun x => zz51 big x.1 }
def A_zz51 : Cfg := mkCfg tab [(136, S_zz50)] [(8, [.drop, .as (.ptr (.pair I (.pair (.sl (.pair I (.pair (.sl I) .unit))) .unit))) (.o .i), .drop, .drop, .drop, .drop, .drop, .drop, .drop, .drop, .drop, .drop, .drop, .drop, .drop, .drop, .drop, .drop, .drop, .drop, .as (.sl (.pair I (.pair (.sl I) .unit))) .i, .as I .i, .as I .i]), (19, [])]
noncomputable def zz51_R4 (N n : Nat) (K : Ex → St → Z0) (a1 : Y7) (t20 : Z13) (t21 t22 : Int) : Z0 := iter ((A_zz51).shape 8) (run (A_zz51) N (codeAt Try.f115 [1, 1, 0, 1, 0, 0])) n ([.u, .val (.ptr (.pair I (.pair (.sl (.pair I (.pair (.sl I) .unit))) .unit))) (.o .i) a1, .u, .u, .u, .u, .u, .u, .u, .u, .u, .u, .u, .u, .u, .u, .u, .u, .u, .u, .val (.sl (.pair I (.pair (.sl I) .unit))) .i t20, .val I .i t21, .val I .i t22] ++ List.replicate 9 .u) K
noncomputable abbrev zz51_z : Ex → St → Z0 := finish (A_zz51) S_zz51 Try.f115.results.toList
noncomputable abbrev zz51_X4 (kX : St → Z0) : Z0 := kX ([] ++ List.replicate 32 .u)
noncomputable abbrev zz51_E4 (kX : St → Z0) (kO : Nat → St → Z0) : Ex → St → Z0 := exK zz51_z 0 ((A_zz51).shape 19) kX kO
theorem zz51_step4 (N m : Nat) (kX : St → Z0) (kO : Nat → St → Z0) (a1 : Y7) (t20 : Z13) (t21 t22 : Int) : zz51_R4 N (m + 1) (zz51_E4 kX kO) a1 t20 t21 t22 = zz51_b4 (zz51_R4 N m (zz51_E4 kX kO)) (zz51_X4 kX) a1 t20 t21 t22 := by kernel_rfl
theorem zz51_iter4 (N : Nat) (kX : St → Z0) (kO : Nat → St → Z0) : ∀ (n : Nat) (a1 : Y7) (t20 : Z13) (t21 t22 : Int), zz51_R4 N n (zz51_E4 kX kO) a1 t20 t21 t22 = zz51_l4 N (zz51_X4 kX) n a1 t20 t21 t22
  | 0, _, _, _, _ => rfl
  | m + 1, a1, t20, t21, t22 => by
    have hrec : zz51_R4 N m (zz51_E4 kX kO) = (zz51_l4 N (zz51_X4 kX) m) := (funext fun a1 => (funext fun t20 => (funext fun t21 => (funext fun t22 => zz51_iter4 N kX kO m a1 t20 t21 t22))))
    refine (zz51_step4 N m kX kO a1 t20 t21 t22).trans ?_
    rw [hrec]
    rfl
noncomputable abbrev zz51_K4 (N : Nat) : Ex → St → Z0 := (blockK 0 (seqK ((A_zz51).shape 19) (run (A_zz51) N (codeAt Try.f115 [1, 1, 1])) zz51_z))
noncomputable abbrev zz51_k4 (N : Nat) : St → Z0 := fun st' => run (A_zz51) N (codeAt Try.f115 [1, 1, 1]) st' zz51_z
theorem zz51_after4 (N : Nat) : zz51_X4 (zz51_k4 N) = zz51_a4 := by kernel_rfl
theorem zz51_in4 (N : Nat) (a1 : Y7) (t20 : Z13) (t21 t22 : Int) : zz51_R4 N N (zz51_K4 N) a1 t20 t21 t22 = zz51_F4 N a1 t20 t21 t22 :=
  have h : zz51_X4 (zz51_k4 N) = (zz51_a4) := zz51_after4 N
  ((iter_ex (fun st => by kernel_rfl) (fun st => by kernel_rfl)).trans (zz51_iter4 N (zz51_k4 N) (fun j st => (zz51_K4 N) (.exit j) st) N a1 t20 t21 t22)).trans (congrArg (fun k => zz51_l4 N k N a1 t20 t21 t22) h)
theorem run0_zz51 (N : Nat) (x : (S_zz51).a.den) : runF (A_zz51) N Try.f115 S_zz51 x = (zz51_s (zz51_R4 N N (zz51_K4 N)) x.1) := by kernel_rfl
theorem run_zz51 (N : Nat) (x : (S_zz51).a.den) : runF (A_zz51) N Try.f115 S_zz51 x = zz51 N x.1 := by
  refine (run0_zz51 N x).trans ?_
  rw [(funext fun a1 => (funext fun t20 => (funext fun t21 => (funext fun t22 => zz51_in4 N a1 t20 t21 t22))))]
  rfl
theorem fn_zz51 : FnOk Try.prog 115 := ⟨_, Try.func115, by kernel_rfl, by kernel_rfl⟩
theorem good_zz51 : Gx.Good Try.prog 115 S_zz51 := good_of_run Try.func115 (of_decide_eq_true (by kernel_rfl)) fun x r h => ⟨A_zz51, big, mkCfg_ok tabOk, mkCfg_sigs (show SigsOk Try.prog [(136, S_zz50)] from ⟨⟨fn_zz50, good_zz50⟩, trivial⟩), (run_zz51 big x).trans h⟩

/-! zz52 -/
def zz52_b3 (rec : Y4 → Int → Int → Z2) (k : Y4 → Z2) (p3 : Y4) (t8 t9 : Int) : Z2 :=
  cond (decide (t9 < t8))
  ((atI p3 t9).bind fun _ =>
  (p3[t9.toNat]?).bind fun xq3 =>
  rec (p3.set t9.toNat t9) t8 (IntKind.i64.wrap (t9 + (1 : Int))))
  (k p3)
def zz52_a3 (p3 : Y4) : Z2 :=
  some (p3, (()))
def zz52_s (L3 : Y4 → Int → Int → Z2) (n_0 : Int) : Z2 :=
  (mkI (0 : Int) n_0).bind fun xq1 => (mkI (0 : Int) n_0).bind fun xq2 => cond (decide (n_0 ≤ n_0))
  (L3 xq2 (xq2.length : Int) (0 : Int))
  none
def zz52_l3 (N : Nat) (k : Y4 → Z2) : Nat → Y4 → Int → Int → Z2
  | 0, _, _, _ => none
  | m + 1, p3, t8, t9 => zz52_b3 (zz52_l3 N k m) k p3 t8 t9
def zz52_F3 (N : Nat) (p3 : Y4) (t8 t9 : Int) : Z2 := zz52_l3 N (zz52_a3) N p3 t8 t9
def zz52 (N : Nat) (n_0 : Int) : Z2 := zz52_s (zz52_F3 N) n_0
def S_zz52 : Sig := { a := (.pair I .unit), md := [0], mf := [], m := .unit, r := (.sl I), rf := (.o .i), f := fun x => zz52 big x.1 }
def A_zz52 : Cfg := mkCfg tab [] [(6, [.drop, .drop, .drop, .as (.sl I) (.o .i), .drop, .drop, .drop, .drop, .as I .i, .as I .i]), (15, [.drop, .drop, .drop, .as (.sl I) (.o .i)])]
noncomputable def zz52_R3 (N n : Nat) (K : Ex → St → Z2) (p3 : Y4) (t8 t9 : Int) : Z2 := iter ((A_zz52).shape 6) (run (A_zz52) N (codeAt Try.f138 [1, 1, 0, 1, 0, 0])) n ([.u, .u, .u, .val (.sl I) (.o .i) p3, .u, .u, .u, .u, .val I .i t8, .val I .i t9] ++ List.replicate 8 .u) K
noncomputable abbrev zz52_z : Ex → St → Z2 := finish (A_zz52) S_zz52 Try.f138.results.toList
noncomputable abbrev zz52_X3 (kX : St → Z2) : Y4 → Z2 := fun (p3 : Y4) => kX ([.u, .u, .u, .val (.sl I) (.o .i) p3] ++ List.replicate 14 .u)
noncomputable abbrev zz52_E3 (kX : St → Z2) (kO : Nat → St → Z2) : Ex → St → Z2 := exK zz52_z 0 ((A_zz52).shape 15) kX kO
theorem zz52_step3 (N m : Nat) (kX : St → Z2) (kO : Nat → St → Z2) (p3 : Y4) (t8 t9 : Int) : zz52_R3 N (m + 1) (zz52_E3 kX kO) p3 t8 t9 = zz52_b3 (zz52_R3 N m (zz52_E3 kX kO)) (zz52_X3 kX) p3 t8 t9 := by kernel_rfl
theorem zz52_iter3 (N : Nat) (kX : St → Z2) (kO : Nat → St → Z2) : ∀ (n : Nat) (p3 : Y4) (t8 t9 : Int), zz52_R3 N n (zz52_E3 kX kO) p3 t8 t9 = zz52_l3 N (zz52_X3 kX) n p3 t8 t9
  | 0, _, _, _ => rfl
  | m + 1, p3, t8, t9 => by
    have hrec : zz52_R3 N m (zz52_E3 kX kO) = (zz52_l3 N (zz52_X3 kX) m) := (funext fun p3 => (funext fun t8 => (funext fun t9 => zz52_iter3 N kX kO m p3 t8 t9)))
    refine (zz52_step3 N m kX kO p3 t8 t9).trans ?_
    rw [hrec]
    rfl
noncomputable abbrev zz52_K3 (N : Nat) : Ex → St → Z2 := (blockK 0 (seqK ((A_zz52).shape 15) (run (A_zz52) N (codeAt Try.f138 [1, 1, 1])) zz52_z))
noncomputable abbrev zz52_k3 (N : Nat) : St → Z2 := fun st' => run (A_zz52) N (codeAt Try.f138 [1, 1, 1]) st' zz52_z
theorem zz52_after3 (N : Nat) (p3 : Y4) : zz52_X3 (zz52_k3 N) p3 = zz52_a3 p3 := by kernel_rfl
theorem zz52_in3 (N : Nat) (p3 : Y4) (t8 t9 : Int) : zz52_R3 N N (zz52_K3 N) p3 t8 t9 = zz52_F3 N p3 t8 t9 :=
  have h : zz52_X3 (zz52_k3 N) = (zz52_a3) := (funext fun p3 => zz52_after3 N p3)
  ((iter_ex (fun st => by kernel_rfl) (fun st => by kernel_rfl)).trans (zz52_iter3 N (zz52_k3 N) (fun j st => (zz52_K3 N) (.exit j) st) N p3 t8 t9)).trans (congrArg (fun k => zz52_l3 N k N p3 t8 t9) h)
theorem run0_zz52 (N : Nat) (x : (S_zz52).a.den) : runF (A_zz52) N Try.f138 S_zz52 x = (zz52_s (zz52_R3 N N (zz52_K3 N)) x.1) := by kernel_rfl
theorem run_zz52 (N : Nat) (x : (S_zz52).a.den) : runF (A_zz52) N Try.f138 S_zz52 x = zz52 N x.1 := by
  refine (run0_zz52 N x).trans ?_
  rw [(funext fun p3 => (funext fun t8 => (funext fun t9 => zz52_in3 N p3 t8 t9)))]
  rfl
theorem fn_zz52 : FnOk Try.prog 138 := ⟨_, Try.func138, by kernel_rfl, by kernel_rfl⟩
theorem good_zz52 : Gx.Good Try.prog 138 S_zz52 := good_of_run Try.func138 (of_decide_eq_true (by kernel_rfl)) fun x r h => ⟨A_zz52, big, mkCfg_ok tabOk, mkCfg_sigs (show SigsOk Try.prog [] from trivial), (run_zz52 big x).trans h⟩

/-! zz53 -/
def zz53_b7 (rec : Y4 → Int → Int → Int → Int → Z4) (k : Y4 → Z4) (p0 : Y4) (x1 y2 t25 t26 : Int) : Z4 :=
  cond (decide (t26 < t25))
  ((atI p0 t26).bind fun _ =>
  (p0[t26.toNat]?).bind fun xq3 =>
  cond (decide (xq3 = y2))
  ((atI p0 t26).bind fun _ =>
  (p0[t26.toNat]?).bind fun xq4 =>
  rec (p0.set t26.toNat x1) x1 y2 t25 (IntKind.i64.wrap (t26 + (1 : Int))))
  (rec p0 x1 y2 t25 (IntKind.i64.wrap (t26 + (1 : Int)))))
  (k p0)
def zz53_a7 (p0 : Y4) : Z4 :=
  some (true, (p0, ()))
def zz53_s (L7 : Y4 → Int → Int → Int → Int → Z4) (p_0 : Y4) (x_1 y_2 : Int) : Z4 :=
  (atI p_0 x_1).bind fun _ =>
  (p_0[x_1.toNat]?).bind fun xq1 =>
  (atI p_0 y_2).bind fun _ =>
  (p_0[y_2.toNat]?).bind fun xq2 =>
  cond (decide (xq1 = xq2))
  (some (false, (p_0, ())))
  (cond (decide (xq2 < xq1))
  (L7 p_0 xq2 xq1 (p_0.length : Int) (0 : Int))
  (L7 p_0 xq1 xq2 (p_0.length : Int) (0 : Int)))
def zz53_l7 (N : Nat) (k : Y4 → Z4) : Nat → Y4 → Int → Int → Int → Int → Z4
  | 0, _, _, _, _, _ => none
  | m + 1, p0, x1, y2, t25, t26 => zz53_b7 (zz53_l7 N k m) k p0 x1 y2 t25 t26
def zz53_F7 (N : Nat) (p0 : Y4) (x1 y2 t25 t26 : Int) : Z4 := zz53_l7 N (zz53_a7) N p0 x1 y2 t25 t26
def zz53 (N : Nat) (p_0 : Y4) (x_1 y_2 : Int) : Z4 := zz53_s (zz53_F7 N) p_0 x_1 y_2
def S_zz53 : Sig := { a := (.pair (.sl I) (.pair I (.pair I .unit))), md := [1, 0, 0], mf := [(.o .i)], m := (.pair (.sl I) .unit), r := .bool, rf := .i, f := fun x => zz53 big x.1 x.2.1 x.2.2.1 }
def A_zz53 : Cfg := mkCfg tab [] [(14, [.as (.sl I) (.o .i), .as I .i, .as I .i, .drop, .drop, .drop, .drop, .drop, .drop, .drop, .drop, .drop, .drop, .drop, .drop, .drop, .drop, .drop, .drop, .drop, .drop, .drop, .drop, .drop, .drop, .as I .i, .as I .i]), (25, [.as (.sl I) (.o .i)])]
noncomputable def zz53_R7 (N n : Nat) (K : Ex → St → Z4) (p0 : Y4) (x1 y2 t25 t26 : Int) : Z4 := iter ((A_zz53).shape 14) (run (A_zz53) N (codeAt Try.f147 [1, 1, 1, 1, 0, 1, 0, 0])) n ([.val (.sl I) (.o .i) p0, .val I .i x1, .val I .i y2, .u, .u, .u, .u, .u, .u, .u, .u, .u, .u, .u, .u, .u, .u, .u, .u, .u, .u, .u, .u, .u, .u, .val I .i t25, .val I .i t26] ++ List.replicate 13 .u) K
noncomputable abbrev zz53_z : Ex → St → Z4 := finish (A_zz53) S_zz53 Try.f147.results.toList
noncomputable abbrev zz53_X7 (kX : St → Z4) : Y4 → Z4 := fun (p0 : Y4) => kX ([.val (.sl I) (.o .i) p0] ++ List.replicate 39 .u)
noncomputable abbrev zz53_E7 (kX : St → Z4) (kO : Nat → St → Z4) : Ex → St → Z4 := exK zz53_z 0 ((A_zz53).shape 25) kX kO
theorem zz53_step7 (N m : Nat) (kX : St → Z4) (kO : Nat → St → Z4) (p0 : Y4) (x1 y2 t25 t26 : Int) : zz53_R7 N (m + 1) (zz53_E7 kX kO) p0 x1 y2 t25 t26 = zz53_b7 (zz53_R7 N m (zz53_E7 kX kO)) (zz53_X7 kX) p0 x1 y2 t25 t26 := by kernel_rfl
theorem zz53_iter7 (N : Nat) (kX : St → Z4) (kO : Nat → St → Z4) : ∀ (n : Nat) (p0 : Y4) (x1 y2 t25 t26 : Int), zz53_R7 N n (zz53_E7 kX kO) p0 x1 y2 t25 t26 = zz53_l7 N (zz53_X7 kX) n p0 x1 y2 t25 t26
  | 0, _, _, _, _, _ => rfl
  | m + 1, p0, x1, y2, t25, t26 => by
    have hrec : zz53_R7 N m (zz53_E7 kX kO) = (zz53_l7 N (zz53_X7 kX) m) := (funext fun p0 => (funext fun x1 => (funext fun y2 => (funext fun t25 => (funext fun t26 => zz53_iter7 N kX kO m p0 x1 y2 t25 t26)))))
    refine (zz53_step7 N m kX kO p0 x1 y2 t25 t26).trans ?_
    rw [hrec]
    rfl
noncomputable abbrev zz53_K7 (N : Nat) : Ex → St → Z4 := (blockK 0 (seqK ((A_zz53).shape 25) (run (A_zz53) N (codeAt Try.f147 [1, 1, 1, 1, 1])) zz53_z))
noncomputable abbrev zz53_k7 (N : Nat) : St → Z4 := fun st' => run (A_zz53) N (codeAt Try.f147 [1, 1, 1, 1, 1]) st' zz53_z
theorem zz53_after7 (N : Nat) (p0 : Y4) : zz53_X7 (zz53_k7 N) p0 = zz53_a7 p0 := by kernel_rfl
theorem zz53_in7 (N : Nat) (p0 : Y4) (x1 y2 t25 t26 : Int) : zz53_R7 N N (zz53_K7 N) p0 x1 y2 t25 t26 = zz53_F7 N p0 x1 y2 t25 t26 :=
  have h : zz53_X7 (zz53_k7 N) = (zz53_a7) := (funext fun p0 => zz53_after7 N p0)
  ((iter_ex (fun st => by kernel_rfl) (fun st => by kernel_rfl)).trans (zz53_iter7 N (zz53_k7 N) (fun j st => (zz53_K7 N) (.exit j) st) N p0 x1 y2 t25 t26)).trans (congrArg (fun k => zz53_l7 N k N p0 x1 y2 t25 t26) h)
theorem run0_zz53 (N : Nat) (x : (S_zz53).a.den) : runF (A_zz53) N Try.f147 S_zz53 x = (zz53_s (zz53_R7 N N (zz53_K7 N)) x.1 x.2.1 x.2.2.1) := by kernel_rfl
theorem run_zz53 (N : Nat) (x : (S_zz53).a.den) : runF (A_zz53) N Try.f147 S_zz53 x = zz53 N x.1 x.2.1 x.2.2.1 := by
  refine (run0_zz53 N x).trans ?_
  rw [(funext fun p0 => (funext fun x1 => (funext fun y2 => (funext fun t25 => (funext fun t26 => zz53_in7 N p0 x1 y2 t25 t26)))))]
  rfl
theorem fn_zz53 : FnOk Try.prog 147 := ⟨_, Try.func147, by kernel_rfl, by kernel_rfl⟩
theorem good_zz53 : Gx.Good Try.prog 147 S_zz53 := good_of_run Try.func147 (of_decide_eq_true (by kernel_rfl)) fun x r h => ⟨A_zz53, big, mkCfg_ok tabOk, mkCfg_sigs (show SigsOk Try.prog [] from trivial), (run_zz53 big x).trans h⟩

/-! zz54 -/
def zz54_b13 (rec : Y4 → Y7 → Bool → Bool → Y6 → Int → Int → Z13 → Int → Int → Y4 → Int → Int → Z4) (k : Y4 → Y7 → Bool → Bool → Y6 → Int → Int → Z13 → Int → Int → Z4) (p1 : Y4) (a2 : Y7) (was5 changed6 : Bool) (f8 : Y6) (step9 k10 : Int) (t16 : Z13) (t17 t18 : Int) (t29 : Y4) (t30 t31 : Int) : Z4 :=
  cond (decide (t31 < t30))
  ((atI t29 t31).bind fun xq2 =>
  (quoI IntKind.i64 t31 step9).bind fun xq3 =>
  (remI xq3 a2.1).bind fun xq4 =>
  (atI p1 xq4).bind fun _ =>
  (p1[xq4.toNat]?).bind fun xq5 =>
  (atI f8.2.1 (IntKind.i64.wrap (t31 + (IntKind.i64.wrap ((IntKind.i64.wrap (xq5 - xq4)) * step9))))).bind fun xq6 =>
  (zz53 big p1 xq2 xq6).bind fun rq7 =>
  cond rq7.1
  (rec rq7.2.1 a2 true true f8 step9 k10 t16 t17 t18 t29 t30 (IntKind.i64.wrap (t31 + (1 : Int))))
  (rec rq7.2.1 a2 was5 changed6 f8 step9 k10 t16 t17 t18 t29 t30 (IntKind.i64.wrap (t31 + (1 : Int)))))
  (k p1 a2 was5 changed6 f8 step9 k10 t16 t17 t18)
def zz54_a13 (rec : Y4 → Y7 → Bool → Bool → Y6 → Int → Int → Z13 → Int → Int → Z4) (p1 : Y4) (a2 : Y7) (was5 changed6 : Bool) (f8 : Y6) (step9 k10 : Int) (t16 : Z13) (t17 t18 : Int) : Z4 :=
  rec p1 a2 was5 changed6 f8 (IntKind.i64.wrap (step9 * a2.1)) (IntKind.i64.wrap (k10 + (1 : Int))) t16 t17 t18
def zz54_b10 (L13 : Y4 → Y7 → Bool → Bool → Y6 → Int → Int → Z13 → Int → Int → Y4 → Int → Int → Z4) (k : Y4 → Y7 → Bool → Bool → Z13 → Int → Int → Z4) (p1 : Y4) (a2 : Y7) (was5 changed6 : Bool) (f8 : Y6) (step9 k10 : Int) (t16 : Z13) (t17 t18 : Int) : Z4 :=
  cond (decide (k10 < f8.1))
  (L13 p1 a2 was5 changed6 f8 step9 k10 t16 t17 t18 f8.2.1 (f8.2.1.length : Int) (0 : Int))
  (k p1 a2 was5 changed6 t16 t17 t18)
def zz54_a10 (rec : Y4 → Y7 → Bool → Bool → Z13 → Int → Int → Z4) (p1 : Y4) (a2 : Y7) (was5 changed6 : Bool) (t16 : Z13) (t17 t18 : Int) : Z4 :=
  rec p1 a2 was5 changed6 t16 t17 (IntKind.i64.wrap (t18 + (1 : Int)))
def zz54_b6 (L10 : Y4 → Y7 → Bool → Bool → Y6 → Int → Int → Z13 → Int → Int → Z4) (k : Y4 → Y7 → Bool → Bool → Z4) (p1 : Y4) (a2 : Y7) (was5 changed6 : Bool) (t16 : Z13) (t17 t18 : Int) : Z4 :=
  cond (decide (t18 < t17))
  ((atI t16 t18).bind fun xq1 =>
  L10 p1 a2 was5 changed6 xq1 (1 : Int) (0 : Int) t16 t17 t18)
  (k p1 a2 was5 changed6)
def zz54_a6 (rec : Y4 → Y7 → Bool → Bool → Z4) (p1 : Y4) (a2 : Y7) (was5 changed6 : Bool) : Z4 :=
  rec p1 a2 was5 changed6
def zz54_b3 (L6 : Y4 → Y7 → Bool → Bool → Z13 → Int → Int → Z4) (k : Y4 → Bool → Z4) (p1 : Y4) (a2 : Y7) (was5 changed6 : Bool) : Z4 :=
  cond changed6
  (L6 p1 a2 was5 false a2.2.1 (a2.2.1.length : Int) (0 : Int))
  (k p1 was5)
def zz54_a3 (p1 : Y4) (was5 : Bool) : Z4 :=
  some (was5, (p1, ()))
def zz54_s (L3 : Y4 → Y7 → Bool → Bool → Z4) (a_0 : Y7) (p_1 : Y4) : Z4 :=
  L3 p_1 a_0 false true
def zz54_l13 (N : Nat) (k : Y4 → Y7 → Bool → Bool → Y6 → Int → Int → Z13 → Int → Int → Z4) : Nat → Y4 → Y7 → Bool → Bool → Y6 → Int → Int → Z13 → Int → Int → Y4 → Int → Int → Z4
  | 0, _, _, _, _, _, _, _, _, _, _, _, _, _ => none
  | m + 1, p1, a2, was5, changed6, f8, step9, k10, t16, t17, t18, t29, t30, t31 => zz54_b13 (zz54_l13 N k m) k p1 a2 was5 changed6 f8 step9 k10 t16 t17 t18 t29 t30 t31
def zz54_F13 (N : Nat) (rec : Y4 → Y7 → Bool → Bool → Y6 → Int → Int → Z13 → Int → Int → Z4) (k : Y4 → Y7 → Bool → Bool → Z13 → Int → Int → Z4) (p1 : Y4) (a2 : Y7) (was5 changed6 : Bool) (f8 : Y6) (step9 k10 : Int) (t16 : Z13) (t17 t18 : Int) (t29 : Y4) (t30 t31 : Int) : Z4 := zz54_l13 N (zz54_a13 rec) N p1 a2 was5 changed6 f8 step9 k10 t16 t17 t18 t29 t30 t31
def zz54_l10 (N : Nat) (k : Y4 → Y7 → Bool → Bool → Z13 → Int → Int → Z4) : Nat → Y4 → Y7 → Bool → Bool → Y6 → Int → Int → Z13 → Int → Int → Z4
  | 0, _, _, _, _, _, _, _, _, _, _ => none
  | m + 1, p1, a2, was5, changed6, f8, step9, k10, t16, t17, t18 => zz54_b10 (zz54_F13 N (zz54_l10 N k m) k) k p1 a2 was5 changed6 f8 step9 k10 t16 t17 t18
def zz54_F10 (N : Nat) (rec : Y4 → Y7 → Bool → Bool → Z13 → Int → Int → Z4) (k : Y4 → Y7 → Bool → Bool → Z4) (p1 : Y4) (a2 : Y7) (was5 changed6 : Bool) (f8 : Y6) (step9 k10 : Int) (t16 : Z13) (t17 t18 : Int) : Z4 := zz54_l10 N (zz54_a10 rec) N p1 a2 was5 changed6 f8 step9 k10 t16 t17 t18
def zz54_l6 (N : Nat) (k : Y4 → Y7 → Bool → Bool → Z4) : Nat → Y4 → Y7 → Bool → Bool → Z13 → Int → Int → Z4
  | 0, _, _, _, _, _, _, _ => none
  | m + 1, p1, a2, was5, changed6, t16, t17, t18 => zz54_b6 (zz54_F10 N (zz54_l6 N k m) k) k p1 a2 was5 changed6 t16 t17 t18
def zz54_F6 (N : Nat) (rec : Y4 → Y7 → Bool → Bool → Z4) (k : Y4 → Bool → Z4) (p1 : Y4) (a2 : Y7) (was5 changed6 : Bool) (t16 : Z13) (t17 t18 : Int) : Z4 := zz54_l6 N (zz54_a6 rec) N p1 a2 was5 changed6 t16 t17 t18
def zz54_l3 (N : Nat) (k : Y4 → Bool → Z4) : Nat → Y4 → Y7 → Bool → Bool → Z4
  | 0, _, _, _, _ => none
  | m + 1, p1, a2, was5, changed6 => zz54_b3 (zz54_F6 N (zz54_l3 N k m) k) k p1 a2 was5 changed6
def zz54_F3 (N : Nat) (p1 : Y4) (a2 : Y7) (was5 changed6 : Bool) : Z4 := zz54_l3 N (zz54_a3) N p1 a2 was5 changed6
def zz54 (N : Nat) (a_0 : Y7) (p_1 : Y4) : Z4 := zz54_s (zz54_F3 N) a_0 p_1
def S_zz54 : Sig := { a := (.pair (.pair I (.pair (.sl (.pair I (.pair (.sl I) .unit))) .unit)) (.pair (.sl I) .unit)), md := [0, 1], mf := [(.o .i)], m := (.pair (.sl I) .unit), r := .bool, rf := .i, f := fun x => zz54 big x.1 x.2.1 }
def A_zz54 : Cfg := mkCfg tab [(147, S_zz53)] [(6, [.drop, .as (.sl I) (.o .i), .as (.ptr (.pair I (.pair (.sl (.pair I (.pair (.sl I) .unit))) .unit))) (.o .i), .drop, .drop, .as .bool .i, .as .bool .i]), (12, [.drop, .as (.sl I) (.o .i), .as (.ptr (.pair I (.pair (.sl (.pair I (.pair (.sl I) .unit))) .unit))) (.o .i), .drop, .drop, .as .bool .i, .as .bool .i, .drop, .drop, .drop, .drop, .drop, .drop, .drop, .drop, .drop, .as (.sl (.pair I (.pair (.sl I) .unit))) .i, .as I .i, .as I .i]), (43, [.drop, .as (.sl I) (.o .i), .drop, .drop, .drop, .as .bool .i]), (20, [.drop, .as (.sl I) (.o .i), .as (.ptr (.pair I (.pair (.sl (.pair I (.pair (.sl I) .unit))) .unit))) (.o .i), .drop, .drop, .as .bool .i, .as .bool .i, .drop, .as (.ptr (.pair I (.pair (.sl I) .unit))) (.o .i), .as I .i, .as I .i, .drop, .drop, .drop, .drop, .drop, .as (.sl (.pair I (.pair (.sl I) .unit))) .i, .as I .i, .as I .i]), (26, [.drop, .as (.sl I) (.o .i), .as (.ptr (.pair I (.pair (.sl (.pair I (.pair (.sl I) .unit))) .unit))) (.o .i), .drop, .drop, .as .bool .i, .as .bool .i, .drop, .as (.ptr (.pair I (.pair (.sl I) .unit))) (.o .i), .as I .i, .as I .i, .drop, .drop, .drop, .drop, .drop, .as (.sl (.pair I (.pair (.sl I) .unit))) .i, .as I .i, .as I .i, .drop, .drop, .drop, .drop, .drop, .drop, .drop, .drop, .drop, .drop, .as (.sl I) .i, .as I .i, .as I .i]), (41, [.drop, .as (.sl I) (.o .i), .as (.ptr (.pair I (.pair (.sl (.pair I (.pair (.sl I) .unit))) .unit))) (.o .i), .drop, .drop, .as .bool .i, .as .bool .i, .drop, .drop, .drop, .drop, .drop, .drop, .drop, .drop, .drop, .as (.sl (.pair I (.pair (.sl I) .unit))) .i, .as I .i, .as I .i]), (39, [.drop, .as (.sl I) (.o .i), .as (.ptr (.pair I (.pair (.sl (.pair I (.pair (.sl I) .unit))) .unit))) (.o .i), .drop, .drop, .as .bool .i, .as .bool .i, .drop, .as (.ptr (.pair I (.pair (.sl I) .unit))) (.o .i), .as I .i, .as I .i, .drop, .drop, .drop, .drop, .drop, .as (.sl (.pair I (.pair (.sl I) .unit))) .i, .as I .i, .as I .i])]
noncomputable def zz54_R3 (N n : Nat) (K : Ex → St → Z4) (p1 : Y4) (a2 : Y7) (was5 changed6 : Bool) : Z4 := iter ((A_zz54).shape 6) (run (A_zz54) N (codeAt Try.f148 [1, 1, 0, 1, 0, 0])) n ([.u, .val (.sl I) (.o .i) p1, .val (.ptr (.pair I (.pair (.sl (.pair I (.pair (.sl I) .unit))) .unit))) (.o .i) a2, .u, .u, .val .bool .i was5, .val .bool .i changed6] ++ List.replicate 59 .u) K
noncomputable def zz54_R6 (N n : Nat) (K : Ex → St → Z4) (p1 : Y4) (a2 : Y7) (was5 changed6 : Bool) (t16 : Z13) (t17 t18 : Int) : Z4 := iter ((A_zz54).shape 12) (run (A_zz54) N (codeAt Try.f148 [1, 1, 0, 1, 0, 0, 1, 0, 1, 1, 0, 0])) n ([.u, .val (.sl I) (.o .i) p1, .val (.ptr (.pair I (.pair (.sl (.pair I (.pair (.sl I) .unit))) .unit))) (.o .i) a2, .u, .u, .val .bool .i was5, .val .bool .i changed6, .u, .u, .u, .u, .u, .u, .u, .u, .u, .val (.sl (.pair I (.pair (.sl I) .unit))) .i t16, .val I .i t17, .val I .i t18] ++ List.replicate 47 .u) K
noncomputable def zz54_R10 (N n : Nat) (K : Ex → St → Z4) (p1 : Y4) (a2 : Y7) (was5 changed6 : Bool) (f8 : Y6) (step9 k10 : Int) (t16 : Z13) (t17 t18 : Int) : Z4 := iter ((A_zz54).shape 20) (run (A_zz54) N (codeAt Try.f148 [1, 1, 0, 1, 0, 0, 1, 0, 1, 1, 0, 0, 1, 1, 0, 0, 1, 1, 1, 0, 0])) n ([.u, .val (.sl I) (.o .i) p1, .val (.ptr (.pair I (.pair (.sl (.pair I (.pair (.sl I) .unit))) .unit))) (.o .i) a2, .u, .u, .val .bool .i was5, .val .bool .i changed6, .u, .val (.ptr (.pair I (.pair (.sl I) .unit))) (.o .i) f8, .val I .i step9, .val I .i k10, .u, .u, .u, .u, .u, .val (.sl (.pair I (.pair (.sl I) .unit))) .i t16, .val I .i t17, .val I .i t18] ++ List.replicate 47 .u) K
noncomputable def zz54_R13 (N n : Nat) (K : Ex → St → Z4) (p1 : Y4) (a2 : Y7) (was5 changed6 : Bool) (f8 : Y6) (step9 k10 : Int) (t16 : Z13) (t17 t18 : Int) (t29 : Y4) (t30 t31 : Int) : Z4 := iter ((A_zz54).shape 26) (run (A_zz54) N (codeAt Try.f148 [1, 1, 0, 1, 0, 0, 1, 0, 1, 1, 0, 0, 1, 1, 0, 0, 1, 1, 1, 0, 0, 1, 0, 0, 0, 1, 0, 0])) n ([.u, .val (.sl I) (.o .i) p1, .val (.ptr (.pair I (.pair (.sl (.pair I (.pair (.sl I) .unit))) .unit))) (.o .i) a2, .u, .u, .val .bool .i was5, .val .bool .i changed6, .u, .val (.ptr (.pair I (.pair (.sl I) .unit))) (.o .i) f8, .val I .i step9, .val I .i k10, .u, .u, .u, .u, .u, .val (.sl (.pair I (.pair (.sl I) .unit))) .i t16, .val I .i t17, .val I .i t18, .u, .u, .u, .u, .u, .u, .u, .u, .u, .u, .val (.sl I) .i t29, .val I .i t30, .val I .i t31] ++ List.replicate 34 .u) K
noncomputable abbrev zz54_z : Ex → St → Z4 := finish (A_zz54) S_zz54 Try.f148.results.toList
noncomputable abbrev zz54_X3 (kX : St → Z4) : Y4 → Bool → Z4 := fun (p1 : Y4) (was5 : Bool) => kX ([.u, .val (.sl I) (.o .i) p1, .u, .u, .u, .val .bool .i was5] ++ List.replicate 60 .u)
noncomputable abbrev zz54_E3 (kX : St → Z4) (kO : Nat → St → Z4) : Ex → St → Z4 := exK zz54_z 0 ((A_zz54).shape 43) kX kO
noncomputable abbrev zz54_X6 (kX : St → Z4) : Y4 → Y7 → Bool → Bool → Z4 := fun (p1 : Y4) (a2 : Y7) (was5 changed6 : Bool) => kX ([.u, .val (.sl I) (.o .i) p1, .val (.ptr (.pair I (.pair (.sl (.pair I (.pair (.sl I) .unit))) .unit))) (.o .i) a2, .u, .u, .val .bool .i was5, .val .bool .i changed6] ++ List.replicate 59 .u)
noncomputable abbrev zz54_E6 (kX : St → Z4) (kO : Nat → St → Z4) : Ex → St → Z4 := exK zz54_z 2 ((A_zz54).shape 6) kX kO
noncomputable abbrev zz54_X10 (kX : St → Z4) : Y4 → Y7 → Bool → Bool → Z13 → Int → Int → Z4 := fun (p1 : Y4) (a2 : Y7) (was5 changed6 : Bool) (t16 : Z13) (t17 t18 : Int) => kX ([.u, .val (.sl I) (.o .i) p1, .val (.ptr (.pair I (.pair (.sl (.pair I (.pair (.sl I) .unit))) .unit))) (.o .i) a2, .u, .u, .val .bool .i was5, .val .bool .i changed6, .u, .u, .u, .u, .u, .u, .u, .u, .u, .val (.sl (.pair I (.pair (.sl I) .unit))) .i t16, .val I .i t17, .val I .i t18] ++ List.replicate 47 .u)
noncomputable abbrev zz54_E10 (kX : St → Z4) (kO : Nat → St → Z4) : Ex → St → Z4 := exK zz54_z 4 ((A_zz54).shape 41) kX kO
noncomputable abbrev zz54_X13 (kX : St → Z4) : Y4 → Y7 → Bool → Bool → Y6 → Int → Int → Z13 → Int → Int → Z4 := fun (p1 : Y4) (a2 : Y7) (was5 changed6 : Bool) (f8 : Y6) (step9 k10 : Int) (t16 : Z13) (t17 t18 : Int) => kX ([.u, .val (.sl I) (.o .i) p1, .val (.ptr (.pair I (.pair (.sl (.pair I (.pair (.sl I) .unit))) .unit))) (.o .i) a2, .u, .u, .val .bool .i was5, .val .bool .i changed6, .u, .val (.ptr (.pair I (.pair (.sl I) .unit))) (.o .i) f8, .val I .i step9, .val I .i k10, .u, .u, .u, .u, .u, .val (.sl (.pair I (.pair (.sl I) .unit))) .i t16, .val I .i t17, .val I .i t18] ++ List.replicate 47 .u)
noncomputable abbrev zz54_E13 (kX : St → Z4) (kO : Nat → St → Z4) : Ex → St → Z4 := exK zz54_z 6 ((A_zz54).shape 39) kX kO
theorem zz54_step13 (N m : Nat) (kX : St → Z4) (kO : Nat → St → Z4) (p1 : Y4) (a2 : Y7) (was5 changed6 : Bool) (f8 : Y6) (step9 k10 : Int) (t16 : Z13) (t17 t18 : Int) (t29 : Y4) (t30 t31 : Int) : zz54_R13 N (m + 1) (zz54_E13 kX kO) p1 a2 was5 changed6 f8 step9 k10 t16 t17 t18 t29 t30 t31 = zz54_b13 (zz54_R13 N m (zz54_E13 kX kO)) (zz54_X13 kX) p1 a2 was5 changed6 f8 step9 k10 t16 t17 t18 t29 t30 t31 := by kernel_rfl
theorem zz54_iter13 (N : Nat) (kX : St → Z4) (kO : Nat → St → Z4) : ∀ (n : Nat) (p1 : Y4) (a2 : Y7) (was5 changed6 : Bool) (f8 : Y6) (step9 k10 : Int) (t16 : Z13) (t17 t18 : Int) (t29 : Y4) (t30 t31 : Int), zz54_R13 N n (zz54_E13 kX kO) p1 a2 was5 changed6 f8 step9 k10 t16 t17 t18 t29 t30 t31 = zz54_l13 N (zz54_X13 kX) n p1 a2 was5 changed6 f8 step9 k10 t16 t17 t18 t29 t30 t31
  | 0, _, _, _, _, _, _, _, _, _, _, _, _, _ => rfl
  | m + 1, p1, a2, was5, changed6, f8, step9, k10, t16, t17, t18, t29, t30, t31 => by
    have hrec : zz54_R13 N m (zz54_E13 kX kO) = (zz54_l13 N (zz54_X13 kX) m) := (funext fun p1 => (funext fun a2 => (funext fun was5 => (funext fun changed6 => (funext fun f8 => (funext fun step9 => (funext fun k10 => (funext fun t16 => (funext fun t17 => (funext fun t18 => (funext fun t29 => (funext fun t30 => (funext fun t31 => zz54_iter13 N kX kO m p1 a2 was5 changed6 f8 step9 k10 t16 t17 t18 t29 t30 t31)))))))))))))
    refine (zz54_step13 N m kX kO p1 a2 was5 changed6 f8 step9 k10 t16 t17 t18 t29 t30 t31).trans ?_
    rw [hrec]
    rfl
noncomputable abbrev zz54_K13 (N m : Nat) (kX : St → Z4) (kO : Nat → St → Z4) : Ex → St → Z4 := (blockK 6 (seqK ((A_zz54).shape 39) (run (A_zz54) N (codeAt Try.f148 [1, 1, 0, 1, 0, 0, 1, 0, 1, 1, 0, 0, 1, 1, 0, 0, 1, 1, 1, 0, 0, 1, 0, 0, 1])) (blockK 5 (seqK ((A_zz54).shape 23) (run (A_zz54) N (codeAt Try.f148 [1, 1, 0, 1, 0, 0, 1, 0, 1, 1, 0, 0, 1, 1, 0, 0, 1, 1, 1, 0, 0, 1, 1])) (iterK ((A_zz54).shape 20) (run (A_zz54) N (codeAt Try.f148 [1, 1, 0, 1, 0, 0, 1, 0, 1, 1, 0, 0, 1, 1, 0, 0, 1, 1, 1, 0, 0])) m (zz54_E10 kX kO))))))
noncomputable abbrev zz54_k13 (N m : Nat) (kX : St → Z4) (kO : Nat → St → Z4) : St → Z4 := fun st' => run (A_zz54) N (codeAt Try.f148 [1, 1, 0, 1, 0, 0, 1, 0, 1, 1, 0, 0, 1, 1, 0, 0, 1, 1, 1, 0, 0, 1, 0, 0, 1]) st' (blockK 5 (seqK ((A_zz54).shape 23) (run (A_zz54) N (codeAt Try.f148 [1, 1, 0, 1, 0, 0, 1, 0, 1, 1, 0, 0, 1, 1, 0, 0, 1, 1, 1, 0, 0, 1, 1])) (iterK ((A_zz54).shape 20) (run (A_zz54) N (codeAt Try.f148 [1, 1, 0, 1, 0, 0, 1, 0, 1, 1, 0, 0, 1, 1, 0, 0, 1, 1, 1, 0, 0])) m (zz54_E10 kX kO))))
theorem zz54_after13 (N m : Nat) (kX : St → Z4) (kO : Nat → St → Z4) (p1 : Y4) (a2 : Y7) (was5 changed6 : Bool) (f8 : Y6) (step9 k10 : Int) (t16 : Z13) (t17 t18 : Int) : zz54_X13 (zz54_k13 N m kX kO) p1 a2 was5 changed6 f8 step9 k10 t16 t17 t18 = zz54_a13 (zz54_R10 N m (zz54_E10 kX kO)) p1 a2 was5 changed6 f8 step9 k10 t16 t17 t18 := by kernel_rfl
theorem zz54_in13 (N m : Nat) (kX : St → Z4) (kO : Nat → St → Z4) (recF : Y4 → Y7 → Bool → Bool → Y6 → Int → Int → Z13 → Int → Int → Z4) (hrec : zz54_R10 N m (zz54_E10 kX kO) = recF) (p1 : Y4) (a2 : Y7) (was5 changed6 : Bool) (f8 : Y6) (step9 k10 : Int) (t16 : Z13) (t17 t18 : Int) (t29 : Y4) (t30 t31 : Int) : zz54_R13 N N (zz54_K13 N m kX kO) p1 a2 was5 changed6 f8 step9 k10 t16 t17 t18 t29 t30 t31 = zz54_F13 N recF (zz54_X10 kX) p1 a2 was5 changed6 f8 step9 k10 t16 t17 t18 t29 t30 t31 :=
  have h : zz54_X13 (zz54_k13 N m kX kO) = (zz54_a13 recF) := (funext fun p1 => (funext fun a2 => (funext fun was5 => (funext fun changed6 => (funext fun f8 => (funext fun step9 => (funext fun k10 => (funext fun t16 => (funext fun t17 => (funext fun t18 => (zz54_after13 N m kX kO p1 a2 was5 changed6 f8 step9 k10 t16 t17 t18).trans (by rw [hrec])))))))))))
  ((iter_ex (fun st => by kernel_rfl) (fun st => by kernel_rfl)).trans (zz54_iter13 N (zz54_k13 N m kX kO) (fun j st => (zz54_K13 N m kX kO) (.exit j) st) N p1 a2 was5 changed6 f8 step9 k10 t16 t17 t18 t29 t30 t31)).trans (congrArg (fun k => zz54_l13 N k N p1 a2 was5 changed6 f8 step9 k10 t16 t17 t18 t29 t30 t31) h)
theorem zz54_step10 (N m : Nat) (kX : St → Z4) (kO : Nat → St → Z4) (p1 : Y4) (a2 : Y7) (was5 changed6 : Bool) (f8 : Y6) (step9 k10 : Int) (t16 : Z13) (t17 t18 : Int) : zz54_R10 N (m + 1) (zz54_E10 kX kO) p1 a2 was5 changed6 f8 step9 k10 t16 t17 t18 = zz54_b10 (zz54_R13 N N (zz54_K13 N m kX kO)) (zz54_X10 kX) p1 a2 was5 changed6 f8 step9 k10 t16 t17 t18 := by kernel_rfl
theorem zz54_iter10 (N : Nat) (kX : St → Z4) (kO : Nat → St → Z4) : ∀ (n : Nat) (p1 : Y4) (a2 : Y7) (was5 changed6 : Bool) (f8 : Y6) (step9 k10 : Int) (t16 : Z13) (t17 t18 : Int), zz54_R10 N n (zz54_E10 kX kO) p1 a2 was5 changed6 f8 step9 k10 t16 t17 t18 = zz54_l10 N (zz54_X10 kX) n p1 a2 was5 changed6 f8 step9 k10 t16 t17 t18
  | 0, _, _, _, _, _, _, _, _, _, _ => rfl
  | m + 1, p1, a2, was5, changed6, f8, step9, k10, t16, t17, t18 => by
    have hrec : zz54_R10 N m (zz54_E10 kX kO) = (zz54_l10 N (zz54_X10 kX) m) := (funext fun p1 => (funext fun a2 => (funext fun was5 => (funext fun changed6 => (funext fun f8 => (funext fun step9 => (funext fun k10 => (funext fun t16 => (funext fun t17 => (funext fun t18 => zz54_iter10 N kX kO m p1 a2 was5 changed6 f8 step9 k10 t16 t17 t18))))))))))
    refine (zz54_step10 N m kX kO p1 a2 was5 changed6 f8 step9 k10 t16 t17 t18).trans ?_
    rw [(funext fun p1 => (funext fun a2 => (funext fun was5 => (funext fun changed6 => (funext fun f8 => (funext fun step9 => (funext fun k10 => (funext fun t16 => (funext fun t17 => (funext fun t18 => (funext fun t29 => (funext fun t30 => (funext fun t31 => zz54_in13 N m kX kO (zz54_l10 N (zz54_X10 kX) m) hrec p1 a2 was5 changed6 f8 step9 k10 t16 t17 t18 t29 t30 t31)))))))))))))]
    rfl
noncomputable abbrev zz54_K10 (N m : Nat) (kX : St → Z4) (kO : Nat → St → Z4) : Ex → St → Z4 := (blockK 4 (blockK 3 (seqK ((A_zz54).shape 41) (run (A_zz54) N (codeAt Try.f148 [1, 1, 0, 1, 0, 0, 1, 0, 1, 1, 0, 0, 1, 1, 1])) (iterK ((A_zz54).shape 12) (run (A_zz54) N (codeAt Try.f148 [1, 1, 0, 1, 0, 0, 1, 0, 1, 1, 0, 0])) m (zz54_E6 kX kO)))))
noncomputable abbrev zz54_k10 (N m : Nat) (kX : St → Z4) (kO : Nat → St → Z4) : St → Z4 := fun st' => run (A_zz54) N (codeAt Try.f148 [1, 1, 0, 1, 0, 0, 1, 0, 1, 1, 0, 0, 1, 1, 1]) st' (iterK ((A_zz54).shape 12) (run (A_zz54) N (codeAt Try.f148 [1, 1, 0, 1, 0, 0, 1, 0, 1, 1, 0, 0])) m (zz54_E6 kX kO))
theorem zz54_after10 (N m : Nat) (kX : St → Z4) (kO : Nat → St → Z4) (p1 : Y4) (a2 : Y7) (was5 changed6 : Bool) (t16 : Z13) (t17 t18 : Int) : zz54_X10 (zz54_k10 N m kX kO) p1 a2 was5 changed6 t16 t17 t18 = zz54_a10 (zz54_R6 N m (zz54_E6 kX kO)) p1 a2 was5 changed6 t16 t17 t18 := by kernel_rfl
theorem zz54_in10 (N m : Nat) (kX : St → Z4) (kO : Nat → St → Z4) (recF : Y4 → Y7 → Bool → Bool → Z13 → Int → Int → Z4) (hrec : zz54_R6 N m (zz54_E6 kX kO) = recF) (p1 : Y4) (a2 : Y7) (was5 changed6 : Bool) (f8 : Y6) (step9 k10 : Int) (t16 : Z13) (t17 t18 : Int) : zz54_R10 N N (zz54_K10 N m kX kO) p1 a2 was5 changed6 f8 step9 k10 t16 t17 t18 = zz54_F10 N recF (zz54_X6 kX) p1 a2 was5 changed6 f8 step9 k10 t16 t17 t18 :=
  have h : zz54_X10 (zz54_k10 N m kX kO) = (zz54_a10 recF) := (funext fun p1 => (funext fun a2 => (funext fun was5 => (funext fun changed6 => (funext fun t16 => (funext fun t17 => (funext fun t18 => (zz54_after10 N m kX kO p1 a2 was5 changed6 t16 t17 t18).trans (by rw [hrec]))))))))
  ((iter_ex (fun st => by kernel_rfl) (fun st => by kernel_rfl)).trans (zz54_iter10 N (zz54_k10 N m kX kO) (fun j st => (zz54_K10 N m kX kO) (.exit j) st) N p1 a2 was5 changed6 f8 step9 k10 t16 t17 t18)).trans (congrArg (fun k => zz54_l10 N k N p1 a2 was5 changed6 f8 step9 k10 t16 t17 t18) h)
theorem zz54_step6 (N m : Nat) (kX : St → Z4) (kO : Nat → St → Z4) (p1 : Y4) (a2 : Y7) (was5 changed6 : Bool) (t16 : Z13) (t17 t18 : Int) : zz54_R6 N (m + 1) (zz54_E6 kX kO) p1 a2 was5 changed6 t16 t17 t18 = zz54_b6 (zz54_R10 N N (zz54_K10 N m kX kO)) (zz54_X6 kX) p1 a2 was5 changed6 t16 t17 t18 := by kernel_rfl
theorem zz54_iter6 (N : Nat) (kX : St → Z4) (kO : Nat → St → Z4) : ∀ (n : Nat) (p1 : Y4) (a2 : Y7) (was5 changed6 : Bool) (t16 : Z13) (t17 t18 : Int), zz54_R6 N n (zz54_E6 kX kO) p1 a2 was5 changed6 t16 t17 t18 = zz54_l6 N (zz54_X6 kX) n p1 a2 was5 changed6 t16 t17 t18
  | 0, _, _, _, _, _, _, _ => rfl
  | m + 1, p1, a2, was5, changed6, t16, t17, t18 => by
    have hrec : zz54_R6 N m (zz54_E6 kX kO) = (zz54_l6 N (zz54_X6 kX) m) := (funext fun p1 => (funext fun a2 => (funext fun was5 => (funext fun changed6 => (funext fun t16 => (funext fun t17 => (funext fun t18 => zz54_iter6 N kX kO m p1 a2 was5 changed6 t16 t17 t18)))))))
    refine (zz54_step6 N m kX kO p1 a2 was5 changed6 t16 t17 t18).trans ?_
    rw [(funext fun p1 => (funext fun a2 => (funext fun was5 => (funext fun changed6 => (funext fun f8 => (funext fun step9 => (funext fun k10 => (funext fun t16 => (funext fun t17 => (funext fun t18 => zz54_in10 N m kX kO (zz54_l6 N (zz54_X6 kX) m) hrec p1 a2 was5 changed6 f8 step9 k10 t16 t17 t18))))))))))]
    rfl
noncomputable abbrev zz54_K6 (N m : Nat) (kX : St → Z4) (kO : Nat → St → Z4) : Ex → St → Z4 := (blockK 2 (blockK 1 (iterK ((A_zz54).shape 6) (run (A_zz54) N (codeAt Try.f148 [1, 1, 0, 1, 0, 0])) m (zz54_E3 kX kO))))
noncomputable abbrev zz54_k6 (N m : Nat) (kX : St → Z4) (kO : Nat → St → Z4) : St → Z4 := fun st' => iter ((A_zz54).shape 6) (run (A_zz54) N (codeAt Try.f148 [1, 1, 0, 1, 0, 0])) m st' (zz54_E3 kX kO)
theorem zz54_after6 (N m : Nat) (kX : St → Z4) (kO : Nat → St → Z4) (p1 : Y4) (a2 : Y7) (was5 changed6 : Bool) : zz54_X6 (zz54_k6 N m kX kO) p1 a2 was5 changed6 = zz54_a6 (zz54_R3 N m (zz54_E3 kX kO)) p1 a2 was5 changed6 := by kernel_rfl
theorem zz54_in6 (N m : Nat) (kX : St → Z4) (kO : Nat → St → Z4) (recF : Y4 → Y7 → Bool → Bool → Z4) (hrec : zz54_R3 N m (zz54_E3 kX kO) = recF) (p1 : Y4) (a2 : Y7) (was5 changed6 : Bool) (t16 : Z13) (t17 t18 : Int) : zz54_R6 N N (zz54_K6 N m kX kO) p1 a2 was5 changed6 t16 t17 t18 = zz54_F6 N recF (zz54_X3 kX) p1 a2 was5 changed6 t16 t17 t18 :=
  have h : zz54_X6 (zz54_k6 N m kX kO) = (zz54_a6 recF) := (funext fun p1 => (funext fun a2 => (funext fun was5 => (funext fun changed6 => (zz54_after6 N m kX kO p1 a2 was5 changed6).trans (by rw [hrec])))))
  ((iter_ex (fun st => by kernel_rfl) (fun st => by kernel_rfl)).trans (zz54_iter6 N (zz54_k6 N m kX kO) (fun j st => (zz54_K6 N m kX kO) (.exit j) st) N p1 a2 was5 changed6 t16 t17 t18)).trans (congrArg (fun k => zz54_l6 N k N p1 a2 was5 changed6 t16 t17 t18) h)
theorem zz54_step3 (N m : Nat) (kX : St → Z4) (kO : Nat → St → Z4) (p1 : Y4) (a2 : Y7) (was5 changed6 : Bool) : zz54_R3 N (m + 1) (zz54_E3 kX kO) p1 a2 was5 changed6 = zz54_b3 (zz54_R6 N N (zz54_K6 N m kX kO)) (zz54_X3 kX) p1 a2 was5 changed6 := by kernel_rfl
theorem zz54_iter3 (N : Nat) (kX : St → Z4) (kO : Nat → St → Z4) : ∀ (n : Nat) (p1 : Y4) (a2 : Y7) (was5 changed6 : Bool), zz54_R3 N n (zz54_E3 kX kO) p1 a2 was5 changed6 = zz54_l3 N (zz54_X3 kX) n p1 a2 was5 changed6
  | 0, _, _, _, _ => rfl
  | m + 1, p1, a2, was5, changed6 => by
    have hrec : zz54_R3 N m (zz54_E3 kX kO) = (zz54_l3 N (zz54_X3 kX) m) := (funext fun p1 => (funext fun a2 => (funext fun was5 => (funext fun changed6 => zz54_iter3 N kX kO m p1 a2 was5 changed6))))
    refine (zz54_step3 N m kX kO p1 a2 was5 changed6).trans ?_
    rw [(funext fun p1 => (funext fun a2 => (funext fun was5 => (funext fun changed6 => (funext fun t16 => (funext fun t17 => (funext fun t18 => zz54_in6 N m kX kO (zz54_l3 N (zz54_X3 kX) m) hrec p1 a2 was5 changed6 t16 t17 t18)))))))]
    rfl
noncomputable abbrev zz54_K3 (N : Nat) : Ex → St → Z4 := (blockK 0 (seqK ((A_zz54).shape 43) (run (A_zz54) N (codeAt Try.f148 [1, 1, 1])) zz54_z))
noncomputable abbrev zz54_k3 (N : Nat) : St → Z4 := fun st' => run (A_zz54) N (codeAt Try.f148 [1, 1, 1]) st' zz54_z
theorem zz54_after3 (N : Nat) (p1 : Y4) (was5 : Bool) : zz54_X3 (zz54_k3 N) p1 was5 = zz54_a3 p1 was5 := by kernel_rfl
theorem zz54_in3 (N : Nat) (p1 : Y4) (a2 : Y7) (was5 changed6 : Bool) : zz54_R3 N N (zz54_K3 N) p1 a2 was5 changed6 = zz54_F3 N p1 a2 was5 changed6 :=
  have h : zz54_X3 (zz54_k3 N) = (zz54_a3) := (funext fun p1 => (funext fun was5 => zz54_after3 N p1 was5))
  ((iter_ex (fun st => by kernel_rfl) (fun st => by kernel_rfl)).trans (zz54_iter3 N (zz54_k3 N) (fun j st => (zz54_K3 N) (.exit j) st) N p1 a2 was5 changed6)).trans (congrArg (fun k => zz54_l3 N k N p1 a2 was5 changed6) h)
theorem run0_zz54 (N : Nat) (x : (S_zz54).a.den) : runF (A_zz54) N Try.f148 S_zz54 x = (zz54_s (zz54_R3 N N (zz54_K3 N)) x.1 x.2.1) := by kernel_rfl
theorem run_zz54 (N : Nat) (x : (S_zz54).a.den) : runF (A_zz54) N Try.f148 S_zz54 x = zz54 N x.1 x.2.1 := by
  refine (run0_zz54 N x).trans ?_
  rw [(funext fun p1 => (funext fun a2 => (funext fun was5 => (funext fun changed6 => zz54_in3 N p1 a2 was5 changed6))))]
  rfl
theorem fn_zz54 : FnOk Try.prog 148 := ⟨_, Try.func148, by kernel_rfl, by kernel_rfl⟩
theorem good_zz54 : Gx.Good Try.prog 148 S_zz54 := good_of_run Try.func148 (of_decide_eq_true (by kernel_rfl)) fun x r h => ⟨A_zz54, big, mkCfg_ok tabOk, mkCfg_sigs (show SigsOk Try.prog [(147, S_zz53)] from ⟨⟨fn_zz53, good_zz53⟩, trivial⟩), (run_zz54 big x).trans h⟩

/-! zz55 -/
def zz55_b3 (rec : Y7 → Y4 → (List Z11) → Int → Int → Z2) (k : Y7 → Y4 → Z2) (a2 : Y7) (p5 : Y4) (t11 : (List Z11)) (t12 t13 : Int) : Z2 :=
  cond (decide (t13 < t12))
  ((atI t11 t13).bind fun xq2 =>
  (zz53 big p5 xq2.1 xq2.2.1).bind fun rq3 =>
  rec a2 rq3.2.1 t11 t12 (IntKind.i64.wrap (t13 + (1 : Int))))
  (k a2 p5)
def zz55_a3 (a2 : Y7) (p5 : Y4) : Z2 :=
  (zz54 big a2 p5).bind fun rq4 =>
  some (rq4.2.1, (()))
def zz55_s (L3 : Y7 → Y4 → (List Z11) → Int → Int → Z2) (a_0 : Y7) (pairs_1 : (List Z11)) : Z2 :=
  (zz52 big a_0.1).bind fun rq1 =>
  L3 a_0 rq1.1 pairs_1 (pairs_1.length : Int) (0 : Int)
def zz55_l3 (N : Nat) (k : Y7 → Y4 → Z2) : Nat → Y7 → Y4 → (List Z11) → Int → Int → Z2
  | 0, _, _, _, _, _ => none
  | m + 1, a2, p5, t11, t12, t13 => zz55_b3 (zz55_l3 N k m) k a2 p5 t11 t12 t13
def zz55_F3 (N : Nat) (a2 : Y7) (p5 : Y4) (t11 : (List Z11)) (t12 t13 : Int) : Z2 := zz55_l3 N (zz55_a3) N a2 p5 t11 t12 t13
def zz55 (N : Nat) (a_0 : Y7) (pairs_1 : (List Z11)) : Z2 := zz55_s (zz55_F3 N) a_0 pairs_1
def S_zz55 : Sig := { a := (.pair (.pair I (.pair (.sl (.pair I (.pair (.sl I) .unit))) .unit)) (.pair (.sl (.pair I (.pair I .unit))) .unit)), md := [0, 0], mf := [], m := .unit, r := (.sl I), rf := (.o .i), f := fun x => zz55 big x.1 x.2.1 }
def A_zz55 : Cfg := mkCfg tab [(138, S_zz52), (147, S_zz53), (148, S_zz54)] [(6, [.drop, .drop, .as (.ptr (.pair I (.pair (.sl (.pair I (.pair (.sl I) .unit))) .unit))) (.o .i), .drop, .drop, .as (.sl I) (.o .i), .drop, .drop, .drop, .drop, .drop, .as (.sl (.pair I (.pair I .unit))) .i, .as I .i, .as I .i]), (15, [.drop, .drop, .as (.ptr (.pair I (.pair (.sl (.pair I (.pair (.sl I) .unit))) .unit))) (.o .i), .drop, .drop, .as (.sl I) (.o .i)])]
noncomputable def zz55_R3 (N n : Nat) (K : Ex → St → Z2) (a2 : Y7) (p5 : Y4) (t11 : (List Z11)) (t12 t13 : Int) : Z2 := iter ((A_zz55).shape 6) (run (A_zz55) N (codeAt Try.f137 [1, 1, 0, 1, 0, 0])) n ([.u, .u, .val (.ptr (.pair I (.pair (.sl (.pair I (.pair (.sl I) .unit))) .unit))) (.o .i) a2, .u, .u, .val (.sl I) (.o .i) p5, .u, .u, .u, .u, .u, .val (.sl (.pair I (.pair I .unit))) .i t11, .val I .i t12, .val I .i t13] ++ List.replicate 14 .u) K
noncomputable abbrev zz55_z : Ex → St → Z2 := finish (A_zz55) S_zz55 Try.f137.results.toList
noncomputable abbrev zz55_X3 (kX : St → Z2) : Y7 → Y4 → Z2 := fun (a2 : Y7) (p5 : Y4) => kX ([.u, .u, .val (.ptr (.pair I (.pair (.sl (.pair I (.pair (.sl I) .unit))) .unit))) (.o .i) a2, .u, .u, .val (.sl I) (.o .i) p5] ++ List.replicate 22 .u)
noncomputable abbrev zz55_E3 (kX : St → Z2) (kO : Nat → St → Z2) : Ex → St → Z2 := exK zz55_z 0 ((A_zz55).shape 15) kX kO
theorem zz55_step3 (N m : Nat) (kX : St → Z2) (kO : Nat → St → Z2) (a2 : Y7) (p5 : Y4) (t11 : (List Z11)) (t12 t13 : Int) : zz55_R3 N (m + 1) (zz55_E3 kX kO) a2 p5 t11 t12 t13 = zz55_b3 (zz55_R3 N m (zz55_E3 kX kO)) (zz55_X3 kX) a2 p5 t11 t12 t13 := by kernel_rfl
theorem zz55_iter3 (N : Nat) (kX : St → Z2) (kO : Nat → St → Z2) : ∀ (n : Nat) (a2 : Y7) (p5 : Y4) (t11 : (List Z11)) (t12 t13 : Int), zz55_R3 N n (zz55_E3 kX kO) a2 p5 t11 t12 t13 = zz55_l3 N (zz55_X3 kX) n a2 p5 t11 t12 t13
  | 0, _, _, _, _, _ => rfl
  | m + 1, a2, p5, t11, t12, t13 => by
    have hrec : zz55_R3 N m (zz55_E3 kX kO) = (zz55_l3 N (zz55_X3 kX) m) := (funext fun a2 => (funext fun p5 => (funext fun t11 => (funext fun t12 => (funext fun t13 => zz55_iter3 N kX kO m a2 p5 t11 t12 t13)))))
    refine (zz55_step3 N m kX kO a2 p5 t11 t12 t13).trans ?_
    rw [hrec]
    rfl
noncomputable abbrev zz55_K3 (N : Nat) : Ex → St → Z2 := (blockK 0 (seqK ((A_zz55).shape 15) (run (A_zz55) N (codeAt Try.f137 [1, 1, 1])) zz55_z))
noncomputable abbrev zz55_k3 (N : Nat) : St → Z2 := fun st' => run (A_zz55) N (codeAt Try.f137 [1, 1, 1]) st' zz55_z
theorem zz55_after3 (N : Nat) (a2 : Y7) (p5 : Y4) : zz55_X3 (zz55_k3 N) a2 p5 = zz55_a3 a2 p5 := by kernel_rfl
theorem zz55_in3 (N : Nat) (a2 : Y7) (p5 : Y4) (t11 : (List Z11)) (t12 t13 : Int) : zz55_R3 N N (zz55_K3 N) a2 p5 t11 t12 t13 = zz55_F3 N a2 p5 t11 t12 t13 :=
  have h : zz55_X3 (zz55_k3 N) = (zz55_a3) := (funext fun a2 => (funext fun p5 => zz55_after3 N a2 p5))
  ((iter_ex (fun st => by kernel_rfl) (fun st => by kernel_rfl)).trans (zz55_iter3 N (zz55_k3 N) (fun j st => (zz55_K3 N) (.exit j) st) N a2 p5 t11 t12 t13)).trans (congrArg (fun k => zz55_l3 N k N a2 p5 t11 t12 t13) h)
theorem run0_zz55 (N : Nat) (x : (S_zz55).a.den) : runF (A_zz55) N Try.f137 S_zz55 x = (zz55_s (zz55_R3 N N (zz55_K3 N)) x.1 x.2.1) := by kernel_rfl
theorem run_zz55 (N : Nat) (x : (S_zz55).a.den) : runF (A_zz55) N Try.f137 S_zz55 x = zz55 N x.1 x.2.1 := by
  refine (run0_zz55 N x).trans ?_
  rw [(funext fun a2 => (funext fun p5 => (funext fun t11 => (funext fun t12 => (funext fun t13 => zz55_in3 N a2 p5 t11 t12 t13)))))]
  rfl
theorem fn_zz55 : FnOk Try.prog 137 := ⟨_, Try.func137, by kernel_rfl, by kernel_rfl⟩
theorem good_zz55 : Gx.Good Try.prog 137 S_zz55 := good_of_run Try.func137 (of_decide_eq_true (by kernel_rfl)) fun x r h => ⟨A_zz55, big, mkCfg_ok tabOk, mkCfg_sigs (show SigsOk Try.prog [(138, S_zz52), (147, S_zz53), (148, S_zz54)] from ⟨⟨fn_zz52, good_zz52⟩, ⟨fn_zz53, good_zz53⟩, ⟨fn_zz54, good_zz54⟩, trivial⟩), (run_zz55 big x).trans h⟩

/-! zz56 -/
def zz56_b3 (rec : Y4 → Y4 → Int → Int → Z10) (k : Y4 → Z10) (b3 t10 : Y4) (t11 t12 : Int) : Z10 :=
  cond (decide (t12 < t11))
  ((atI t10 t12).bind fun xq3 =>
  (shrI IntKind.i64 xq3 (8 : Int)).bind fun xq4 =>
  (appI b3 [IntKind.u8.wrap xq4, IntKind.u8.wrap xq3]).bind fun xq5 =>
  rec xq5 t10 t11 (IntKind.i64.wrap (t12 + (1 : Int))))
  (k b3)
def zz56_a3 (b3 : Y4) : Z10 :=
  some ((b3.map fun n => UInt8.ofNat n.toNat), (()))
def zz56_s (L3 : Y4 → Y4 → Int → Int → Z10) (list_0 : Y4) : Z10 :=
  (mkI (0 : Int) (IntKind.i64.wrap ((2 : Int) * (list_0.length : Int)))).bind fun xq1 => (mkI (0 : Int) (0 : Int)).bind fun xq2 => cond (decide ((0 : Int) ≤ (IntKind.i64.wrap ((2 : Int) * (list_0.length : Int)))))
  (L3 xq2 list_0 (list_0.length : Int) (0 : Int))
  none
def zz56_l3 (N : Nat) (k : Y4 → Z10) : Nat → Y4 → Y4 → Int → Int → Z10
  | 0, _, _, _, _ => none
  | m + 1, b3, t10, t11, t12 => zz56_b3 (zz56_l3 N k m) k b3 t10 t11 t12
def zz56_F3 (N : Nat) (b3 t10 : Y4) (t11 t12 : Int) : Z10 := zz56_l3 N (zz56_a3) N b3 t10 t11 t12
def zz56 (N : Nat) (list_0 : Y4) : Z10 := zz56_s (zz56_F3 N) list_0
def S_zz56 : Sig := { a := (.pair (.sl I) .unit), md := [0], mf := [], m := .unit, r := .str, rf := .i, f := fun x => zz56 big x.1 }
def A_zz56 : Cfg := mkCfg tab [] [(6, [.drop, .drop, .drop, .as (.sl (.int .u8)) (.o .i), .drop, .drop, .drop, .drop, .drop, .drop, .as (.sl I) .i, .as I .i, .as I .i]), (15, [.drop, .drop, .drop, .as (.sl (.int .u8)) (.o .i)])]
noncomputable def zz56_R3 (N n : Nat) (K : Ex → St → Z10) (b3 t10 : Y4) (t11 t12 : Int) : Z10 := iter ((A_zz56).shape 6) (run (A_zz56) N (codeAt Try.f139 [1, 1, 0, 1, 0, 0])) n ([.u, .u, .u, .val (.sl (.int .u8)) (.o .i) b3, .u, .u, .u, .u, .u, .u, .val (.sl I) .i t10, .val I .i t11, .val I .i t12] ++ List.replicate 14 .u) K
noncomputable abbrev zz56_z : Ex → St → Z10 := finish (A_zz56) S_zz56 Try.f139.results.toList
noncomputable abbrev zz56_X3 (kX : St → Z10) : Y4 → Z10 := fun (b3 : Y4) => kX ([.u, .u, .u, .val (.sl (.int .u8)) (.o .i) b3] ++ List.replicate 23 .u)
noncomputable abbrev zz56_E3 (kX : St → Z10) (kO : Nat → St → Z10) : Ex → St → Z10 := exK zz56_z 0 ((A_zz56).shape 15) kX kO
theorem zz56_step3 (N m : Nat) (kX : St → Z10) (kO : Nat → St → Z10) (b3 t10 : Y4) (t11 t12 : Int) : zz56_R3 N (m + 1) (zz56_E3 kX kO) b3 t10 t11 t12 = zz56_b3 (zz56_R3 N m (zz56_E3 kX kO)) (zz56_X3 kX) b3 t10 t11 t12 := by kernel_rfl
theorem zz56_iter3 (N : Nat) (kX : St → Z10) (kO : Nat → St → Z10) : ∀ (n : Nat) (b3 t10 : Y4) (t11 t12 : Int), zz56_R3 N n (zz56_E3 kX kO) b3 t10 t11 t12 = zz56_l3 N (zz56_X3 kX) n b3 t10 t11 t12
  | 0, _, _, _, _ => rfl
  | m + 1, b3, t10, t11, t12 => by
    have hrec : zz56_R3 N m (zz56_E3 kX kO) = (zz56_l3 N (zz56_X3 kX) m) := (funext fun b3 => (funext fun t10 => (funext fun t11 => (funext fun t12 => zz56_iter3 N kX kO m b3 t10 t11 t12))))
    refine (zz56_step3 N m kX kO b3 t10 t11 t12).trans ?_
    rw [hrec]
    rfl
noncomputable abbrev zz56_K3 (N : Nat) : Ex → St → Z10 := (blockK 0 (seqK ((A_zz56).shape 15) (run (A_zz56) N (codeAt Try.f139 [1, 1, 1])) zz56_z))
noncomputable abbrev zz56_k3 (N : Nat) : St → Z10 := fun st' => run (A_zz56) N (codeAt Try.f139 [1, 1, 1]) st' zz56_z
theorem zz56_after3 (N : Nat) (b3 : Y4) : zz56_X3 (zz56_k3 N) b3 = zz56_a3 b3 := by kernel_rfl
theorem zz56_in3 (N : Nat) (b3 t10 : Y4) (t11 t12 : Int) : zz56_R3 N N (zz56_K3 N) b3 t10 t11 t12 = zz56_F3 N b3 t10 t11 t12 :=
  have h : zz56_X3 (zz56_k3 N) = (zz56_a3) := (funext fun b3 => zz56_after3 N b3)
  ((iter_ex (fun st => by kernel_rfl) (fun st => by kernel_rfl)).trans (zz56_iter3 N (zz56_k3 N) (fun j st => (zz56_K3 N) (.exit j) st) N b3 t10 t11 t12)).trans (congrArg (fun k => zz56_l3 N k N b3 t10 t11 t12) h)
theorem run0_zz56 (N : Nat) (x : (S_zz56).a.den) : runF (A_zz56) N Try.f139 S_zz56 x = (zz56_s (zz56_R3 N N (zz56_K3 N)) x.1) := by kernel_rfl
theorem run_zz56 (N : Nat) (x : (S_zz56).a.den) : runF (A_zz56) N Try.f139 S_zz56 x = zz56 N x.1 := by
  refine (run0_zz56 N x).trans ?_
  rw [(funext fun b3 => (funext fun t10 => (funext fun t11 => (funext fun t12 => zz56_in3 N b3 t10 t11 t12))))]
  rfl
theorem fn_zz56 : FnOk Try.prog 139 := ⟨_, Try.func139, by kernel_rfl, by kernel_rfl⟩
theorem good_zz56 : Gx.Good Try.prog 139 S_zz56 := good_of_run Try.func139 (of_decide_eq_true (by kernel_rfl)) fun x r h => ⟨A_zz56, big, mkCfg_ok tabOk, mkCfg_sigs (show SigsOk Try.prog [] from trivial), (run_zz56 big x).trans h⟩

/-! zz57 -/
def zz57_s (list_0 : Y4) : Z2 :=
  (appI [] list_0).bind fun xq1 =>
  some (xq1, (()))
def zz57 (list_0 : Y4) : Z2 := zz57_s list_0
def S_zz57 : Sig := { a := (.pair (.sl I) .unit), md := [0], mf := [], m := .unit, r := (.sl I), rf := (.o .i), f := fun x => zz57 x.1 }
def A_zz57 : Cfg := mkCfg tab [] []
theorem run_zz57 (N : Nat) (x : (S_zz57).a.den) : runF (A_zz57) N Try.f149 S_zz57 x = zz57 x.1 := by kernel_rfl
theorem fn_zz57 : FnOk Try.prog 149 := ⟨_, Try.func149, by kernel_rfl, by kernel_rfl⟩
theorem good_zz57 : Gx.Good Try.prog 149 S_zz57 := good_of_run Try.func149 (of_decide_eq_true (by kernel_rfl)) fun x r h => ⟨A_zz57, big, mkCfg_ok tabOk, mkCfg_sigs (show SigsOk Try.prog [] from trivial), (run_zz57 big x).trans h⟩

/-! zz58 -/
def zz58_b3 (rec : Y4 → Y4 → Int → Int → Z2) (k : Y4 → Z2) (r5 t10 : Y4) (t11 t12 : Int) : Z2 :=
  cond (decide (t12 < t11))
  ((atI t10 t12).bind fun xq2 =>
  (zz53 big r5 t12 xq2).bind fun rq3 =>
  rec rq3.2.1 t10 t11 (IntKind.i64.wrap (t12 + (1 : Int))))
  (k r5)
def zz58_a3 (r5 : Y4) : Z2 :=
  some (r5, (()))
def zz58_s (L3 : Y4 → Y4 → Int → Int → Z2) (p_0 q_1 : Y4) : Z2 :=
  (zz57 p_0).bind fun rq1 =>
  L3 rq1.1 q_1 (q_1.length : Int) (0 : Int)
def zz58_l3 (N : Nat) (k : Y4 → Z2) : Nat → Y4 → Y4 → Int → Int → Z2
  | 0, _, _, _, _ => none
  | m + 1, r5, t10, t11, t12 => zz58_b3 (zz58_l3 N k m) k r5 t10 t11 t12
def zz58_F3 (N : Nat) (r5 t10 : Y4) (t11 t12 : Int) : Z2 := zz58_l3 N (zz58_a3) N r5 t10 t11 t12
def zz58 (N : Nat) (p_0 q_1 : Y4) : Z2 := zz58_s (zz58_F3 N) p_0 q_1
def S_zz58 : Sig := { a := (.pair (.sl I) (.pair (.sl I) .unit)), md := [0, 0], mf := [], m := .unit, r := (.sl I), rf := (.o .i), f := fun x => zz58 big x.1 x.2.1 }
def A_zz58 : Cfg := mkCfg tab [(149, S_zz57), (147, S_zz53)] [(6, [.drop, .drop, .drop, .drop, .drop, .as (.sl I) (.o .i), .drop, .drop, .drop, .drop, .as (.sl I) .i, .as I .i, .as I .i]), (15, [.drop, .drop, .drop, .drop, .drop, .as (.sl I) (.o .i)])]
noncomputable def zz58_R3 (N n : Nat) (K : Ex → St → Z2) (r5 t10 : Y4) (t11 t12 : Int) : Z2 := iter ((A_zz58).shape 6) (run (A_zz58) N (codeAt Try.f140 [1, 1, 0, 1, 0, 0])) n ([.u, .u, .u, .u, .u, .val (.sl I) (.o .i) r5, .u, .u, .u, .u, .val (.sl I) .i t10, .val I .i t11, .val I .i t12] ++ List.replicate 10 .u) K
noncomputable abbrev zz58_z : Ex → St → Z2 := finish (A_zz58) S_zz58 Try.f140.results.toList
noncomputable abbrev zz58_X3 (kX : St → Z2) : Y4 → Z2 := fun (r5 : Y4) => kX ([.u, .u, .u, .u, .u, .val (.sl I) (.o .i) r5] ++ List.replicate 17 .u)
noncomputable abbrev zz58_E3 (kX : St → Z2) (kO : Nat → St → Z2) : Ex → St → Z2 := exK zz58_z 0 ((A_zz58).shape 15) kX kO
theorem zz58_step3 (N m : Nat) (kX : St → Z2) (kO : Nat → St → Z2) (r5 t10 : Y4) (t11 t12 : Int) : zz58_R3 N (m + 1) (zz58_E3 kX kO) r5 t10 t11 t12 = zz58_b3 (zz58_R3 N m (zz58_E3 kX kO)) (zz58_X3 kX) r5 t10 t11 t12 := by kernel_rfl
theorem zz58_iter3 (N : Nat) (kX : St → Z2) (kO : Nat → St → Z2) : ∀ (n : Nat) (r5 t10 : Y4) (t11 t12 : Int), zz58_R3 N n (zz58_E3 kX kO) r5 t10 t11 t12 = zz58_l3 N (zz58_X3 kX) n r5 t10 t11 t12
  | 0, _, _, _, _ => rfl
  | m + 1, r5, t10, t11, t12 => by
    have hrec : zz58_R3 N m (zz58_E3 kX kO) = (zz58_l3 N (zz58_X3 kX) m) := (funext fun r5 => (funext fun t10 => (funext fun t11 => (funext fun t12 => zz58_iter3 N kX kO m r5 t10 t11 t12))))
    refine (zz58_step3 N m kX kO r5 t10 t11 t12).trans ?_
    rw [hrec]
    rfl
noncomputable abbrev zz58_K3 (N : Nat) : Ex → St → Z2 := (blockK 0 (seqK ((A_zz58).shape 15) (run (A_zz58) N (codeAt Try.f140 [1, 1, 1])) zz58_z))
noncomputable abbrev zz58_k3 (N : Nat) : St → Z2 := fun st' => run (A_zz58) N (codeAt Try.f140 [1, 1, 1]) st' zz58_z
theorem zz58_after3 (N : Nat) (r5 : Y4) : zz58_X3 (zz58_k3 N) r5 = zz58_a3 r5 := by kernel_rfl
theorem zz58_in3 (N : Nat) (r5 t10 : Y4) (t11 t12 : Int) : zz58_R3 N N (zz58_K3 N) r5 t10 t11 t12 = zz58_F3 N r5 t10 t11 t12 :=
  have h : zz58_X3 (zz58_k3 N) = (zz58_a3) := (funext fun r5 => zz58_after3 N r5)
  ((iter_ex (fun st => by kernel_rfl) (fun st => by kernel_rfl)).trans (zz58_iter3 N (zz58_k3 N) (fun j st => (zz58_K3 N) (.exit j) st) N r5 t10 t11 t12)).trans (congrArg (fun k => zz58_l3 N k N r5 t10 t11 t12) h)
theorem run0_zz58 (N : Nat) (x : (S_zz58).a.den) : runF (A_zz58) N Try.f140 S_zz58 x = (zz58_s (zz58_R3 N N (zz58_K3 N)) x.1 x.2.1) := by kernel_rfl
theorem run_zz58 (N : Nat) (x : (S_zz58).a.den) : runF (A_zz58) N Try.f140 S_zz58 x = zz58 N x.1 x.2.1 := by
  refine (run0_zz58 N x).trans ?_
  rw [(funext fun r5 => (funext fun t10 => (funext fun t11 => (funext fun t12 => zz58_in3 N r5 t10 t11 t12))))]
  rfl
theorem fn_zz58 : FnOk Try.prog 140 := ⟨_, Try.func140, by kernel_rfl, by kernel_rfl⟩
theorem good_zz58 : Gx.Good Try.prog 140 S_zz58 := good_of_run Try.func140 (of_decide_eq_true (by kernel_rfl)) fun x r h => ⟨A_zz58, big, mkCfg_ok tabOk, mkCfg_sigs (show SigsOk Try.prog [(149, S_zz57), (147, S_zz53)] from ⟨⟨fn_zz57, good_zz57⟩, ⟨fn_zz53, good_zz53⟩, trivial⟩), (run_zz58 big x).trans h⟩
end Go.Proofs.Ytlndlclemhfekaa
