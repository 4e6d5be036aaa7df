import Derived.Test.YtcdlbboeflehdaaGWOp2
set_option maxRecDepth 100000
set_option linter.unusedVariables false
namespace Go.Proofs.Ytcdlbboeflehdaa
open Go Go.Gx Go.Proofs

/-! zz70 -/
def zz70_b13 (rec : Y2 → Int → Int → Int → Z1) (k : Y2 → Int → Int → Z1) (p1 : Y2) (n3 x5 i6 : Int) : Z1 :=
  (atI p1.1 x5).bind fun xq5 =>
  cond (decide (i6 < (xq5.length : Int)))
  ((atI p1.1 x5).bind fun xq6 =>
  (atI xq6 i6).bind fun xq7 =>
  cond (decide (xq7 ≠ x5))
  ((atI p1.1 xq7).bind fun xq8 =>
  (zz44 big xq8 x5).bind fun rq9 =>
  cond rq9.1
  (some (false, (())))
  ((atI p1.1 xq7).bind fun xq10 =>
  (atI p1.1 x5).bind fun xq11 =>
  (zz69 big xq10 xq11).bind fun rq12 =>
  cond (!rq12.1)
  (some (false, (())))
  (rec p1 n3 x5 (IntKind.i64.wrap (i6 + (1 : Int))))))
  ((atI p1.1 xq7).bind fun xq13 =>
  (atI p1.1 x5).bind fun xq14 =>
  (zz69 big xq13 xq14).bind fun rq15 =>
  cond (!rq15.1)
  (some (false, (())))
  (rec p1 n3 x5 (IntKind.i64.wrap (i6 + (1 : Int))))))
  (k p1 n3 x5)
def zz70_a13 (rec : Y2 → Int → Int → Z1) (p1 : Y2) (n3 x5 : Int) : Z1 :=
  rec p1 n3 (IntKind.i64.wrap (x5 + (1 : Int)))
def zz70_b10 (L13 : Y2 → Int → Int → Int → Z1) (k : Z1) (p1 : Y2) (n3 x5 : Int) : Z1 :=
  cond (decide (x5 < n3))
  (L13 p1 n3 x5 (0 : Int))
  (k)
def zz70_a10 : Z1 :=
  some (true, (()))
def zz70_b5 (rec : Y2 → Int → Int → Z1) (k : Y2 → Int → Z1) (p1 : Y2) (n3 x4 : Int) : Z1 :=
  cond (decide (x4 < n3))
  ((atI p1.1 x4).bind fun xq1 =>
  (zz68 big xq1 (0 : Int) (IntKind.i64.wrap (n3 - (1 : Int)))).bind fun rq2 =>
  cond (!rq2.1)
  (some (false, (())))
  ((atI p1.1 x4).bind fun xq3 =>
  (zz44 big xq3 x4).bind fun rq4 =>
  cond (!rq4.1)
  (some (false, (())))
  (rec p1 n3 (IntKind.i64.wrap (x4 + (1 : Int))))))
  (k p1 n3)
def zz70_a5 (L10 : Y2 → Int → Int → Z1) (p1 : Y2) (n3 : Int) : Z1 :=
  L10 p1 n3 (0 : Int)
def zz70_s (L5 : Y2 → Int → Int → Z1) (p_0 : Y2) : Z1 :=
  cond (decide ((10 : Int) < (p_0.1.length : Int)))
  (some (false, (())))
  (L5 p_0 (p_0.1.length : Int) (0 : Int))
def zz70_l13 (N : Nat) (k : Y2 → Int → Int → Z1) : Nat → Y2 → Int → Int → Int → Z1
  | 0, _, _, _, _ => none
  | m + 1, p1, n3, x5, i6 => zz70_b13 (zz70_l13 N k m) k p1 n3 x5 i6
def zz70_F13 (N : Nat) (rec : Y2 → Int → Int → Z1) (k : Z1) (p1 : Y2) (n3 x5 i6 : Int) : Z1 := zz70_l13 N (zz70_a13 rec) N p1 n3 x5 i6
def zz70_l5 (N : Nat) (k : Y2 → Int → Z1) : Nat → Y2 → Int → Int → Z1
  | 0, _, _, _ => none
  | m + 1, p1, n3, x4 => zz70_b5 (zz70_l5 N k m) k p1 n3 x4
def zz70_l10 (N : Nat) (k : Z1) : Nat → Y2 → Int → Int → Z1
  | 0, _, _, _ => none
  | m + 1, p1, n3, x5 => zz70_b10 (zz70_F13 N (zz70_l10 N k m) k) k p1 n3 x5
def zz70_F10 (N : Nat) (p1 : Y2) (n3 x5 : Int) : Z1 := zz70_l10 N (zz70_a10) N p1 n3 x5
def zz70_F5 (N : Nat) (p1 : Y2) (n3 x4 : Int) : Z1 := zz70_l5 N (zz70_a5 (zz70_F10 N)) N p1 n3 x4
def zz70 (N : Nat) (p_0 : Y2) : Z1 := zz70_s (zz70_F5 N) p_0
def S_zz70 : Sig := { a := (.pair (.pair (.sl (.sl I)) .unit) .unit), md := [0], mf := [], m := .unit, r := .bool, rf := .i, f := fun x => zz70 big x.1 }
def A_zz70 : Cfg := mkCfg tab [(125, S_zz68), (69, S_zz44), (126, S_zz69)] [(10, [.drop, .as (.ptr (.pair (.sl (.sl I)) .unit)) (.o .i), .drop, .as I .i, .as I .i]), (19, [.drop, .as (.ptr (.pair (.sl (.sl I)) .unit)) (.o .i), .drop, .as I .i]), (20, [.drop, .as (.ptr (.pair (.sl (.sl I)) .unit)) (.o .i), .drop, .as I .i, .drop, .as I .i]), (26, [.drop, .as (.ptr (.pair (.sl (.sl I)) .unit)) (.o .i), .drop, .as I .i, .drop, .as I .i, .as I .i]), (37, []), (23, [.drop, .as (.ptr (.pair (.sl (.sl I)) .unit)) (.o .i), .drop, .as I .i, .drop, .as I .i])]
noncomputable def zz70_R5 (N n : Nat) (K : Ex → St → Z1) (p1 : Y2) (n3 x4 : Int) : Z1 := iter ((A_zz70).shape 10) (run (A_zz70) N (codeAt Try.f104 [1, 1, 1, 0, 1, 0, 0])) n ([.u, .val (.ptr (.pair (.sl (.sl I)) .unit)) (.o .i) p1, .u, .val I .i n3, .val I .i x4] ++ List.replicate 81 .u) K
noncomputable def zz70_R10 (N n : Nat) (K : Ex → St → Z1) (p1 : Y2) (n3 x5 : Int) : Z1 := iter ((A_zz70).shape 20) (run (A_zz70) N (codeAt Try.f104 [1, 1, 1, 1, 0, 1, 0, 0])) n ([.u, .val (.ptr (.pair (.sl (.sl I)) .unit)) (.o .i) p1, .u, .val I .i n3, .u, .val I .i x5] ++ List.replicate 80 .u) K
noncomputable def zz70_R13 (N n : Nat) (K : Ex → St → Z1) (p1 : Y2) (n3 x5 i6 : Int) : Z1 := iter ((A_zz70).shape 26) (run (A_zz70) N (codeAt Try.f104 [1, 1, 1, 1, 0, 1, 0, 0, 1, 0, 0, 1, 0, 0])) n ([.u, .val (.ptr (.pair (.sl (.sl I)) .unit)) (.o .i) p1, .u, .val I .i n3, .u, .val I .i x5, .val I .i i6] ++ List.replicate 79 .u) K
noncomputable abbrev zz70_z : Ex → St → Z1 := finish (A_zz70) S_zz70 Try.f104.results.toList
noncomputable abbrev zz70_X5 (kX : St → Z1) : Y2 → Int → Z1 := fun (p1 : Y2) (n3 : Int) => kX ([.u, .val (.ptr (.pair (.sl (.sl I)) .unit)) (.o .i) p1, .u, .val I .i n3] ++ List.replicate 82 .u)
noncomputable abbrev zz70_E5 (kX : St → Z1) (kO : Nat → St → Z1) : Ex → St → Z1 := exK zz70_z 0 ((A_zz70).shape 19) kX kO
noncomputable abbrev zz70_X10 (kX : St → Z1) : Z1 := kX ([] ++ List.replicate 86 .u)
noncomputable abbrev zz70_E10 (kX : St → Z1) (kO : Nat → St → Z1) : Ex → St → Z1 := exK zz70_z 2 ((A_zz70).shape 37) kX kO
noncomputable abbrev zz70_X13 (kX : St → Z1) : Y2 → Int → Int → Z1 := fun (p1 : Y2) (n3 x5 : Int) => kX ([.u, .val (.ptr (.pair (.sl (.sl I)) .unit)) (.o .i) p1, .u, .val I .i n3, .u, .val I .i x5] ++ List.replicate 80 .u)
noncomputable abbrev zz70_E13 (kX : St → Z1) (kO : Nat → St → Z1) : Ex → St → Z1 := exK zz70_z 4 ((A_zz70).shape 23) kX kO
theorem zz70_step5 (N m : Nat) (kX : St → Z1) (kO : Nat → St → Z1) (p1 : Y2) (n3 x4 : Int) : zz70_R5 N (m + 1) (zz70_E5 kX kO) p1 n3 x4 = zz70_b5 (zz70_R5 N m (zz70_E5 kX kO)) (zz70_X5 kX) p1 n3 x4 := by kernel_rfl
theorem zz70_iter5 (N : Nat) (kX : St → Z1) (kO : Nat → St → Z1) : ∀ (n : Nat) (p1 : Y2) (n3 x4 : Int), zz70_R5 N n (zz70_E5 kX kO) p1 n3 x4 = zz70_l5 N (zz70_X5 kX) n p1 n3 x4
  | 0, _, _, _ => rfl
  | m + 1, p1, n3, x4 => by
    have hrec : zz70_R5 N m (zz70_E5 kX kO) = (zz70_l5 N (zz70_X5 kX) m) := (funext fun p1 => (funext fun n3 => (funext fun x4 => zz70_iter5 N kX kO m p1 n3 x4)))
    refine (zz70_step5 N m kX kO p1 n3 x4).trans ?_
    rw [hrec]
    rfl
noncomputable abbrev zz70_K5 (N : Nat) : Ex → St → Z1 := (blockK 0 (seqK ((A_zz70).shape 19) (gated ((A_zz70).shape 500009).isSome N (run (A_zz70) N (codeAt Try.f104 [1, 1, 1, 1]))) zz70_z))
theorem zz70_step13 (N m : Nat) (kX : St → Z1) (kO : Nat → St → Z1) (p1 : Y2) (n3 x5 i6 : Int) : zz70_R13 N (m + 1) (zz70_E13 kX kO) p1 n3 x5 i6 = zz70_b13 (zz70_R13 N m (zz70_E13 kX kO)) (zz70_X13 kX) p1 n3 x5 i6 := by kernel_rfl
theorem zz70_iter13 (N : Nat) (kX : St → Z1) (kO : Nat → St → Z1) : ∀ (n : Nat) (p1 : Y2) (n3 x5 i6 : Int), zz70_R13 N n (zz70_E13 kX kO) p1 n3 x5 i6 = zz70_l13 N (zz70_X13 kX) n p1 n3 x5 i6
  | 0, _, _, _, _ => rfl
  | m + 1, p1, n3, x5, i6 => by
    have hrec : zz70_R13 N m (zz70_E13 kX kO) = (zz70_l13 N (zz70_X13 kX) m) := (funext fun p1 => (funext fun n3 => (funext fun x5 => (funext fun i6 => zz70_iter13 N kX kO m p1 n3 x5 i6))))
    refine (zz70_step13 N m kX kO p1 n3 x5 i6).trans ?_
    rw [hrec]
    rfl
noncomputable abbrev zz70_K13 (N m : Nat) (kX : St → Z1) (kO : Nat → St → Z1) : Ex → St → Z1 := (blockK 4 (blockK 3 (seqK ((A_zz70).shape 23) (gated ((A_zz70).shape 500011).isSome N (run (A_zz70) N (codeAt Try.f104 [1, 1, 1, 1, 0, 1, 0, 0, 1, 1]))) (iterK ((A_zz70).shape 20) (run (A_zz70) N (codeAt Try.f104 [1, 1, 1, 1, 0, 1, 0, 0])) m (zz70_E10 kX kO)))))
noncomputable abbrev zz70_k13 (N m : Nat) (kX : St → Z1) (kO : Nat → St → Z1) : St → Z1 := fun st' => run (A_zz70) N (codeAt Try.f104 [1, 1, 1, 1, 0, 1, 0, 0, 1, 1]) st' (iterK ((A_zz70).shape 20) (run (A_zz70) N (codeAt Try.f104 [1, 1, 1, 1, 0, 1, 0, 0])) m (zz70_E10 kX kO))
theorem zz70_after13 (N m : Nat) (kX : St → Z1) (kO : Nat → St → Z1) (p1 : Y2) (n3 x5 : Int) : zz70_X13 (zz70_k13 N m kX kO) p1 n3 x5 = zz70_a13 (zz70_R10 N m (zz70_E10 kX kO)) p1 n3 x5 := by kernel_rfl
theorem zz70_in13 (N m : Nat) (kX : St → Z1) (kO : Nat → St → Z1) (recF : Y2 → Int → Int → Z1) (hrec : zz70_R10 N m (zz70_E10 kX kO) = recF) (p1 : Y2) (n3 x5 i6 : Int) : zz70_R13 N N (zz70_K13 N m kX kO) p1 n3 x5 i6 = zz70_F13 N recF (zz70_X10 kX) p1 n3 x5 i6 :=
  have h : zz70_X13 (zz70_k13 N m kX kO) = (zz70_a13 recF) := (funext fun p1 => (funext fun n3 => (funext fun x5 => (zz70_after13 N m kX kO p1 n3 x5).trans (by rw [hrec]))))
  ((iter_ex (fun st => by kernel_rfl) (fun st => by kernel_rfl)).trans (zz70_iter13 N (zz70_k13 N m kX kO) (fun j st => (zz70_K13 N m kX kO) (.exit j) st) N p1 n3 x5 i6)).trans (congrArg (fun k => zz70_l13 N k N p1 n3 x5 i6) h)
theorem zz70_step10 (N m : Nat) (kX : St → Z1) (kO : Nat → St → Z1) (p1 : Y2) (n3 x5 : Int) : zz70_R10 N (m + 1) (zz70_E10 kX kO) p1 n3 x5 = zz70_b10 (zz70_R13 N N (zz70_K13 N m kX kO)) (zz70_X10 kX) p1 n3 x5 := by kernel_rfl
theorem zz70_iter10 (N : Nat) (kX : St → Z1) (kO : Nat → St → Z1) : ∀ (n : Nat) (p1 : Y2) (n3 x5 : Int), zz70_R10 N n (zz70_E10 kX kO) p1 n3 x5 = zz70_l10 N (zz70_X10 kX) n p1 n3 x5
  | 0, _, _, _ => rfl
  | m + 1, p1, n3, x5 => by
    have hrec : zz70_R10 N m (zz70_E10 kX kO) = (zz70_l10 N (zz70_X10 kX) m) := (funext fun p1 => (funext fun n3 => (funext fun x5 => zz70_iter10 N kX kO m p1 n3 x5)))
    refine (zz70_step10 N m kX kO p1 n3 x5).trans ?_
    rw [(funext fun p1 => (funext fun n3 => (funext fun x5 => (funext fun i6 => zz70_in13 N m kX kO (zz70_l10 N (zz70_X10 kX) m) hrec p1 n3 x5 i6))))]
    rfl
noncomputable abbrev zz70_K10 (N : Nat) : Ex → St → Z1 := (blockK 2 (seqK ((A_zz70).shape 37) (gated ((A_zz70).shape 500018).isSome N (run (A_zz70) N (codeAt Try.f104 [1, 1, 1, 1, 1]))) zz70_z))
noncomputable abbrev zz70_k10 (N : Nat) : St → Z1 := fun st' => run (A_zz70) N (codeAt Try.f104 [1, 1, 1, 1, 1]) st' zz70_z
theorem zz70_after10 (N : Nat) : zz70_X10 (zz70_k10 N) = zz70_a10 := by kernel_rfl
theorem zz70_in10 (N : Nat) (p1 : Y2) (n3 x5 : Int) : zz70_R10 N N (zz70_K10 N) p1 n3 x5 = zz70_F10 N p1 n3 x5 :=
  have h : zz70_X10 (zz70_k10 N) = (zz70_a10) := zz70_after10 N
  ((iter_ex (fun st => by kernel_rfl) (fun st => by kernel_rfl)).trans (zz70_iter10 N (zz70_k10 N) (fun j st => (zz70_K10 N) (.exit j) st) N p1 n3 x5)).trans (congrArg (fun k => zz70_l10 N k N p1 n3 x5) h)
noncomputable abbrev zz70_k5 (N : Nat) : St → Z1 := fun st' => run (A_zz70) N (codeAt Try.f104 [1, 1, 1, 1]) st' zz70_z
theorem zz70_after5 (N : Nat) (p1 : Y2) (n3 : Int) : zz70_X5 (zz70_k5 N) p1 n3 = zz70_a5 (zz70_R10 N N (zz70_K10 N)) p1 n3 := by kernel_rfl
theorem zz70_in5 (N : Nat) (p1 : Y2) (n3 x4 : Int) : zz70_R5 N N (zz70_K5 N) p1 n3 x4 = zz70_F5 N p1 n3 x4 :=
  have h : zz70_X5 (zz70_k5 N) = (zz70_a5 (zz70_F10 N)) := (funext fun p1 => (funext fun n3 => (zz70_after5 N p1 n3).trans (by rw [(funext fun p1 => (funext fun n3 => (funext fun x5 => zz70_in10 N p1 n3 x5)))])))
  ((iter_ex (fun st => by kernel_rfl) (fun st => by kernel_rfl)).trans (zz70_iter5 N (zz70_k5 N) (fun j st => (zz70_K5 N) (.exit j) st) N p1 n3 x4)).trans (congrArg (fun k => zz70_l5 N k N p1 n3 x4) h)
theorem run0_zz70 (N : Nat) (x : (S_zz70).a.den) : runF (A_zz70) N Try.f104 S_zz70 x = (zz70_s (zz70_R5 N N (zz70_K5 N)) x.1) := by kernel_rfl
theorem run_zz70 (N : Nat) (x : (S_zz70).a.den) : runF (A_zz70) N Try.f104 S_zz70 x = zz70 N x.1 := by
  refine (run0_zz70 N x).trans ?_
  rw [(funext fun p1 => (funext fun n3 => (funext fun x4 => zz70_in5 N p1 n3 x4)))]
  rfl
theorem fn_zz70 : FnOk Try.prog 104 := ⟨_, Try.func104, by kernel_rfl, by kernel_rfl⟩
theorem good_zz70 : Gx.Good Try.prog 104 S_zz70 := good_of_run Try.func104 (of_decide_eq_true (by kernel_rfl)) fun x r h => ⟨A_zz70, big, mkCfg_ok tabOk, mkCfg_sigs (show SigsOk Try.prog [(125, S_zz68), (69, S_zz44), (126, S_zz69)] from ⟨⟨fn_zz68, good_zz68⟩, ⟨fn_zz44, good_zz44⟩, ⟨fn_zz69, good_zz69⟩, trivial⟩), (run_zz70 big x).trans h⟩

/-! zz71 -/
def zz71_b7 (rec : Y2 → Y2 → Y2 → Int → Y4 → Int → Z2) (k : Y2 → Y2 → Y2 → Int → Y4 → Z2) (p1 t2 out3 : Y2) (x4 : Int) (below5 : Y4) (y6 : Int) : Z2 :=
  cond (decide (y6 < (p1.1.length : Int)))
  ((zz45 p1 x4 y6).bind fun rq1 =>
  cond rq1.1
  ((appI below5 [y6]).bind fun xq2 =>
  rec p1 t2 out3 x4 xq2 (IntKind.i64.wrap (y6 + (1 : Int))))
  (rec p1 t2 out3 x4 below5 (IntKind.i64.wrap (y6 + (1 : Int)))))
  (k p1 t2 out3 x4 below5)
def zz71_a7 (rec : Y2 → Y2 → Y2 → Int → Z2) (p1 t2 out3 : Y2) (x4 : Int) (below5 : Y4) : Z2 :=
  (appI out3.1 [below5]).bind fun xq3 =>
  rec p1 t2 (xq3, ((), out3.2).2) (IntKind.i64.wrap (x4 + (1 : Int)))
def zz71_b3 (L7 : Y2 → Y2 → Y2 → Int → Y4 → Int → Z2) (k : Y2 → Y2 → Z2) (p1 t2 out3 : Y2) (x4 : Int) : Z2 :=
  cond (decide (x4 < (p1.1.length : Int)))
  (L7 p1 t2 out3 x4 [] (0 : Int))
  (k t2 out3)
def zz71_a3 (t2 out3 : Y2) : Z2 :=
  some (out3, (()))
def zz71_s (L3 : Y2 → Y2 → Y2 → Int → Z2) (p_0 : Y2) : Z2 :=
  L3 p_0 (([] : Y3), ()) ([], ()) (0 : Int)
def zz71_l7 (N : Nat) (k : Y2 → Y2 → Y2 → Int → Y4 → Z2) : Nat → Y2 → Y2 → Y2 → Int → Y4 → Int → Z2
  | 0, _, _, _, _, _, _ => none
  | m + 1, p1, t2, out3, x4, below5, y6 => zz71_b7 (zz71_l7 N k m) k p1 t2 out3 x4 below5 y6
def zz71_F7 (N : Nat) (rec : Y2 → Y2 → Y2 → Int → Z2) (k : Y2 → Y2 → Z2) (p1 t2 out3 : Y2) (x4 : Int) (below5 : Y4) (y6 : Int) : Z2 := zz71_l7 N (zz71_a7 rec) N p1 t2 out3 x4 below5 y6
def zz71_l3 (N : Nat) (k : Y2 → Y2 → Z2) : Nat → Y2 → Y2 → Y2 → Int → Z2
  | 0, _, _, _, _ => none
  | m + 1, p1, t2, out3, x4 => zz71_b3 (zz71_F7 N (zz71_l3 N k m) k) k p1 t2 out3 x4
def zz71_F3 (N : Nat) (p1 t2 out3 : Y2) (x4 : Int) : Z2 := zz71_l3 N (zz71_a3) N p1 t2 out3 x4
def zz71 (N : Nat) (p_0 : Y2) : Z2 := zz71_s (zz71_F3 N) p_0
def S_zz71 : Sig := { a := (.pair (.pair (.sl (.sl I)) .unit) .unit), md := [0], mf := [], m := .unit, r := (.pair (.sl (.sl I)) .unit), rf := (.p (.o (.o .i)) .i), f := fun x => zz71 big x.1 }
def A_zz71 : Cfg := mkCfg tab [(78, S_zz45)] [(6, [.drop, .as (.ptr (.pair (.sl (.sl I)) .unit)) (.o .i), .as (.ptr (.pair (.sl (.sl I)) .unit)) (.o (.p (.o (.o .i)) .i)), .as (.ptr (.pair (.sl (.sl I)) .unit)) (.o (.p (.o (.o .i)) .i)), .as I .i]), (14, [.drop, .as (.ptr (.pair (.sl (.sl I)) .unit)) (.o .i), .as (.ptr (.pair (.sl (.sl I)) .unit)) (.o (.p (.o (.o .i)) .i)), .as (.ptr (.pair (.sl (.sl I)) .unit)) (.o (.p (.o (.o .i)) .i)), .as I .i, .as (.sl I) (.o .i), .as I .i]), (25, [.drop, .drop, .as (.ptr (.pair (.sl (.sl I)) .unit)) (.o (.p (.o (.o .i)) .i)), .as (.ptr (.pair (.sl (.sl I)) .unit)) (.o (.p (.o (.o .i)) .i))]), (23, [.drop, .as (.ptr (.pair (.sl (.sl I)) .unit)) (.o .i), .as (.ptr (.pair (.sl (.sl I)) .unit)) (.o (.p (.o (.o .i)) .i)), .as (.ptr (.pair (.sl (.sl I)) .unit)) (.o (.p (.o (.o .i)) .i)), .as I .i, .as (.sl I) (.o .i)])]
noncomputable def zz71_R3 (N n : Nat) (K : Ex → St → Z2) (p1 t2 out3 : Y2) (x4 : Int) : Z2 := iter ((A_zz71).shape 6) (run (A_zz71) N (codeAt Try.f105 [1, 1, 0, 1, 0, 0])) n ([.u, .val (.ptr (.pair (.sl (.sl I)) .unit)) (.o .i) p1, .val (.ptr (.pair (.sl (.sl I)) .unit)) (.o (.p (.o (.o .i)) .i)) t2, .val (.ptr (.pair (.sl (.sl I)) .unit)) (.o (.p (.o (.o .i)) .i)) out3, .val I .i x4] ++ List.replicate 34 .u) K
noncomputable def zz71_R7 (N n : Nat) (K : Ex → St → Z2) (p1 t2 out3 : Y2) (x4 : Int) (below5 : Y4) (y6 : Int) : Z2 := iter ((A_zz71).shape 14) (run (A_zz71) N (codeAt Try.f105 [1, 1, 0, 1, 0, 0, 1, 0, 0, 1, 0, 1, 0, 0])) n ([.u, .val (.ptr (.pair (.sl (.sl I)) .unit)) (.o .i) p1, .val (.ptr (.pair (.sl (.sl I)) .unit)) (.o (.p (.o (.o .i)) .i)) t2, .val (.ptr (.pair (.sl (.sl I)) .unit)) (.o (.p (.o (.o .i)) .i)) out3, .val I .i x4, .val (.sl I) (.o .i) below5, .val I .i y6] ++ List.replicate 32 .u) K
noncomputable abbrev zz71_z : Ex → St → Z2 := finish (A_zz71) S_zz71 Try.f105.results.toList
noncomputable abbrev zz71_X3 (kX : St → Z2) : Y2 → Y2 → Z2 := fun (t2 out3 : Y2) => kX ([.u, .u, .val (.ptr (.pair (.sl (.sl I)) .unit)) (.o (.p (.o (.o .i)) .i)) t2, .val (.ptr (.pair (.sl (.sl I)) .unit)) (.o (.p (.o (.o .i)) .i)) out3] ++ List.replicate 35 .u)
noncomputable abbrev zz71_E3 (kX : St → Z2) (kO : Nat → St → Z2) : Ex → St → Z2 := exK zz71_z 0 ((A_zz71).shape 25) kX kO
noncomputable abbrev zz71_X7 (kX : St → Z2) : Y2 → Y2 → Y2 → Int → Y4 → Z2 := fun (p1 t2 out3 : Y2) (x4 : Int) (below5 : Y4) => kX ([.u, .val (.ptr (.pair (.sl (.sl I)) .unit)) (.o .i) p1, .val (.ptr (.pair (.sl (.sl I)) .unit)) (.o (.p (.o (.o .i)) .i)) t2, .val (.ptr (.pair (.sl (.sl I)) .unit)) (.o (.p (.o (.o .i)) .i)) out3, .val I .i x4, .val (.sl I) (.o .i) below5] ++ List.replicate 33 .u)
noncomputable abbrev zz71_E7 (kX : St → Z2) (kO : Nat → St → Z2) : Ex → St → Z2 := exK zz71_z 2 ((A_zz71).shape 23) kX kO
theorem zz71_step7 (N m : Nat) (kX : St → Z2) (kO : Nat → St → Z2) (p1 t2 out3 : Y2) (x4 : Int) (below5 : Y4) (y6 : Int) : zz71_R7 N (m + 1) (zz71_E7 kX kO) p1 t2 out3 x4 below5 y6 = zz71_b7 (zz71_R7 N m (zz71_E7 kX kO)) (zz71_X7 kX) p1 t2 out3 x4 below5 y6 := by kernel_rfl
theorem zz71_iter7 (N : Nat) (kX : St → Z2) (kO : Nat → St → Z2) : ∀ (n : Nat) (p1 t2 out3 : Y2) (x4 : Int) (below5 : Y4) (y6 : Int), zz71_R7 N n (zz71_E7 kX kO) p1 t2 out3 x4 below5 y6 = zz71_l7 N (zz71_X7 kX) n p1 t2 out3 x4 below5 y6
  | 0, _, _, _, _, _, _ => rfl
  | m + 1, p1, t2, out3, x4, below5, y6 => by
    have hrec : zz71_R7 N m (zz71_E7 kX kO) = (zz71_l7 N (zz71_X7 kX) m) := (funext fun p1 => (funext fun t2 => (funext fun out3 => (funext fun x4 => (funext fun below5 => (funext fun y6 => zz71_iter7 N kX kO m p1 t2 out3 x4 below5 y6))))))
    refine (zz71_step7 N m kX kO p1 t2 out3 x4 below5 y6).trans ?_
    rw [hrec]
    rfl
noncomputable abbrev zz71_K7 (N m : Nat) (kX : St → Z2) (kO : Nat → St → Z2) : Ex → St → Z2 := (blockK 2 (seqK ((A_zz71).shape 23) (gated ((A_zz71).shape 500011).isSome N (run (A_zz71) N (codeAt Try.f105 [1, 1, 0, 1, 0, 0, 1, 0, 0, 1, 1]))) (blockK 1 (seqK ((A_zz71).shape 9) (gated ((A_zz71).shape 500004).isSome N (run (A_zz71) N (codeAt Try.f105 [1, 1, 0, 1, 0, 0, 1, 1]))) (iterK ((A_zz71).shape 6) (run (A_zz71) N (codeAt Try.f105 [1, 1, 0, 1, 0, 0])) m (zz71_E3 kX kO))))))
noncomputable abbrev zz71_k7 (N m : Nat) (kX : St → Z2) (kO : Nat → St → Z2) : St → Z2 := fun st' => run (A_zz71) N (codeAt Try.f105 [1, 1, 0, 1, 0, 0, 1, 0, 0, 1, 1]) st' (blockK 1 (seqK ((A_zz71).shape 9) (gated ((A_zz71).shape 500004).isSome N (run (A_zz71) N (codeAt Try.f105 [1, 1, 0, 1, 0, 0, 1, 1]))) (iterK ((A_zz71).shape 6) (run (A_zz71) N (codeAt Try.f105 [1, 1, 0, 1, 0, 0])) m (zz71_E3 kX kO))))
theorem zz71_after7 (N m : Nat) (kX : St → Z2) (kO : Nat → St → Z2) (p1 t2 out3 : Y2) (x4 : Int) (below5 : Y4) : zz71_X7 (zz71_k7 N m kX kO) p1 t2 out3 x4 below5 = zz71_a7 (zz71_R3 N m (zz71_E3 kX kO)) p1 t2 out3 x4 below5 := by kernel_rfl
theorem zz71_in7 (N m : Nat) (kX : St → Z2) (kO : Nat → St → Z2) (recF : Y2 → Y2 → Y2 → Int → Z2) (hrec : zz71_R3 N m (zz71_E3 kX kO) = recF) (p1 t2 out3 : Y2) (x4 : Int) (below5 : Y4) (y6 : Int) : zz71_R7 N N (zz71_K7 N m kX kO) p1 t2 out3 x4 below5 y6 = zz71_F7 N recF (zz71_X3 kX) p1 t2 out3 x4 below5 y6 :=
  have h : zz71_X7 (zz71_k7 N m kX kO) = (zz71_a7 recF) := (funext fun p1 => (funext fun t2 => (funext fun out3 => (funext fun x4 => (funext fun below5 => (zz71_after7 N m kX kO p1 t2 out3 x4 below5).trans (by rw [hrec]))))))
  ((iter_ex (fun st => by kernel_rfl) (fun st => by kernel_rfl)).trans (zz71_iter7 N (zz71_k7 N m kX kO) (fun j st => (zz71_K7 N m kX kO) (.exit j) st) N p1 t2 out3 x4 below5 y6)).trans (congrArg (fun k => zz71_l7 N k N p1 t2 out3 x4 below5 y6) h)
theorem zz71_step3 (N m : Nat) (kX : St → Z2) (kO : Nat → St → Z2) (p1 t2 out3 : Y2) (x4 : Int) : zz71_R3 N (m + 1) (zz71_E3 kX kO) p1 t2 out3 x4 = zz71_b3 (zz71_R7 N N (zz71_K7 N m kX kO)) (zz71_X3 kX) p1 t2 out3 x4 := by kernel_rfl
theorem zz71_iter3 (N : Nat) (kX : St → Z2) (kO : Nat → St → Z2) : ∀ (n : Nat) (p1 t2 out3 : Y2) (x4 : Int), zz71_R3 N n (zz71_E3 kX kO) p1 t2 out3 x4 = zz71_l3 N (zz71_X3 kX) n p1 t2 out3 x4
  | 0, _, _, _, _ => rfl
  | m + 1, p1, t2, out3, x4 => by
    have hrec : zz71_R3 N m (zz71_E3 kX kO) = (zz71_l3 N (zz71_X3 kX) m) := (funext fun p1 => (funext fun t2 => (funext fun out3 => (funext fun x4 => zz71_iter3 N kX kO m p1 t2 out3 x4))))
    refine (zz71_step3 N m kX kO p1 t2 out3 x4).trans ?_
    rw [(funext fun p1 => (funext fun t2 => (funext fun out3 => (funext fun x4 => (funext fun below5 => (funext fun y6 => zz71_in7 N m kX kO (zz71_l3 N (zz71_X3 kX) m) hrec p1 t2 out3 x4 below5 y6))))))]
    rfl
noncomputable abbrev zz71_K3 (N : Nat) : Ex → St → Z2 := (blockK 0 (seqK ((A_zz71).shape 25) (gated ((A_zz71).shape 500012).isSome N (run (A_zz71) N (codeAt Try.f105 [1, 1, 1]))) zz71_z))
noncomputable abbrev zz71_k3 (N : Nat) : St → Z2 := fun st' => run (A_zz71) N (codeAt Try.f105 [1, 1, 1]) st' zz71_z
theorem zz71_after3 (N : Nat) (t2 out3 : Y2) : zz71_X3 (zz71_k3 N) t2 out3 = zz71_a3 t2 out3 := by kernel_rfl
theorem zz71_in3 (N : Nat) (p1 t2 out3 : Y2) (x4 : Int) : zz71_R3 N N (zz71_K3 N) p1 t2 out3 x4 = zz71_F3 N p1 t2 out3 x4 :=
  have h : zz71_X3 (zz71_k3 N) = (zz71_a3) := (funext fun t2 => (funext fun out3 => zz71_after3 N t2 out3))
  ((iter_ex (fun st => by kernel_rfl) (fun st => by kernel_rfl)).trans (zz71_iter3 N (zz71_k3 N) (fun j st => (zz71_K3 N) (.exit j) st) N p1 t2 out3 x4)).trans (congrArg (fun k => zz71_l3 N k N p1 t2 out3 x4) h)
theorem run0_zz71 (N : Nat) (x : (S_zz71).a.den) : runF (A_zz71) N Try.f105 S_zz71 x = (zz71_s (zz71_R3 N N (zz71_K3 N)) x.1) := by kernel_rfl
theorem run_zz71 (N : Nat) (x : (S_zz71).a.den) : runF (A_zz71) N Try.f105 S_zz71 x = zz71 N x.1 := by
  refine (run0_zz71 N x).trans ?_
  rw [(funext fun p1 => (funext fun t2 => (funext fun out3 => (funext fun x4 => zz71_in3 N p1 t2 out3 x4))))]
  rfl
theorem fn_zz71 : FnOk Try.prog 105 := ⟨_, Try.func105, by kernel_rfl, by kernel_rfl⟩
theorem good_zz71 : Gx.Good Try.prog 105 S_zz71 := good_of_run Try.func105 (of_decide_eq_true (by kernel_rfl)) fun x r h => ⟨A_zz71, big, mkCfg_ok tabOk, mkCfg_sigs (show SigsOk Try.prog [(78, S_zz45)] from ⟨⟨fn_zz45, good_zz45⟩, trivial⟩), (run_zz71 big x).trans h⟩

/-! zz72 -/
def zz72_b13 (rec : Y2 → Y4 → Int → Z4) (k : Z4) (p2 : Y2) (low5 : Y4) (i9 : Int) : Z4 :=
  cond (decide (i9 < (low5.length : Int)))
  ((atI low5 i9).bind fun _ =>
  (low5[i9.toNat]?).bind fun xq4 =>
  (atI p2.1 xq4).bind fun xq5 =>
  (zz69 big low5 xq5).bind fun rq6 =>
  cond rq6.1
  ((atI low5 i9).bind fun _ =>
  (low5[i9.toNat]?).bind fun xq7 =>
  some (xq7, (())))
  (rec p2 low5 (IntKind.i64.wrap (i9 + (1 : Int)))))
  (k)
def zz72_a13 : Z4 :=
  some ((-1 : Int), (()))
def zz72_b7 (rec : Y4 → Y2 → Y4 → Int → Bool → Int → Z4) (k : Y4 → Y2 → Y4 → Int → Bool → Z4) (some1 : Y4) (p2 : Y2) (low5 : Y4) (z6 : Int) (all7 : Bool) (i8 : Int) : Z4 :=
  cond (decide (i8 < (some1.length : Int)))
  (cond all7
  ((atI some1 i8).bind fun xq1 =>
  (zz45 p2 z6 xq1).bind fun rq2 =>
  rec some1 p2 low5 z6 rq2.1 (IntKind.i64.wrap (i8 + (1 : Int))))
  (rec some1 p2 low5 z6 false (IntKind.i64.wrap (i8 + (1 : Int)))))
  (k some1 p2 low5 z6 all7)
def zz72_a7 (rec : Y4 → Y2 → Y4 → Int → Z4) (some1 : Y4) (p2 : Y2) (low5 : Y4) (z6 : Int) (all7 : Bool) : Z4 :=
  cond all7
  ((appI low5 [z6]).bind fun xq3 =>
  rec some1 p2 xq3 (IntKind.i64.wrap (z6 + (1 : Int))))
  (rec some1 p2 low5 (IntKind.i64.wrap (z6 + (1 : Int))))
def zz72_b3 (L7 : Y4 → Y2 → Y4 → Int → Bool → Int → Z4) (k : Y2 → Y4 → Z4) (some1 : Y4) (p2 : Y2) (low5 : Y4) (z6 : Int) : Z4 :=
  cond (decide (z6 < (p2.1.length : Int)))
  (L7 some1 p2 low5 z6 true (0 : Int))
  (k p2 low5)
def zz72_a3 (L13 : Y2 → Y4 → Int → Z4) (p2 : Y2) (low5 : Y4) : Z4 :=
  L13 p2 low5 (0 : Int)
def zz72_s (L3 : Y4 → Y2 → Y4 → Int → Z4) (p_0 : Y2) (some_1 : Y4) : Z4 :=
  L3 some_1 p_0 [] (0 : Int)
def zz72_l7 (N : Nat) (k : Y4 → Y2 → Y4 → Int → Bool → Z4) : Nat → Y4 → Y2 → Y4 → Int → Bool → Int → Z4
  | 0, _, _, _, _, _, _ => none
  | m + 1, some1, p2, low5, z6, all7, i8 => zz72_b7 (zz72_l7 N k m) k some1 p2 low5 z6 all7 i8
def zz72_F7 (N : Nat) (rec : Y4 → Y2 → Y4 → Int → Z4) (k : Y2 → Y4 → Z4) (some1 : Y4) (p2 : Y2) (low5 : Y4) (z6 : Int) (all7 : Bool) (i8 : Int) : Z4 := zz72_l7 N (zz72_a7 rec) N some1 p2 low5 z6 all7 i8
def zz72_l3 (N : Nat) (k : Y2 → Y4 → Z4) : Nat → Y4 → Y2 → Y4 → Int → Z4
  | 0, _, _, _, _ => none
  | m + 1, some1, p2, low5, z6 => zz72_b3 (zz72_F7 N (zz72_l3 N k m) k) k some1 p2 low5 z6
def zz72_l13 (N : Nat) (k : Z4) : Nat → Y2 → Y4 → Int → Z4
  | 0, _, _, _ => none
  | m + 1, p2, low5, i9 => zz72_b13 (zz72_l13 N k m) k p2 low5 i9
def zz72_F13 (N : Nat) (p2 : Y2) (low5 : Y4) (i9 : Int) : Z4 := zz72_l13 N (zz72_a13) N p2 low5 i9
def zz72_F3 (N : Nat) (some1 : Y4) (p2 : Y2) (low5 : Y4) (z6 : Int) : Z4 := zz72_l3 N (zz72_a3 (zz72_F13 N)) N some1 p2 low5 z6
def zz72 (N : Nat) (p_0 : Y2) (some_1 : Y4) : Z4 := zz72_s (zz72_F3 N) p_0 some_1
def S_zz72 : Sig := { a := (.pair (.pair (.sl (.sl I)) .unit) (.pair (.sl I) .unit)), md := [0, 0], mf := [], m := .unit, r := I, rf := .i, f := fun x => zz72 big x.1 x.2.1 }
def A_zz72 : Cfg := mkCfg tab [(78, S_zz45), (126, S_zz69)] [(6, [.drop, .as (.sl I) .i, .as (.ptr (.pair (.sl (.sl I)) .unit)) (.o .i), .drop, .drop, .as (.sl I) (.o .i), .as I .i]), (14, [.drop, .as (.sl I) .i, .as (.ptr (.pair (.sl (.sl I)) .unit)) (.o .i), .drop, .drop, .as (.sl I) (.o .i), .as I .i, .as .bool .i, .as I .i]), (25, [.drop, .drop, .as (.ptr (.pair (.sl (.sl I)) .unit)) (.o .i), .drop, .drop, .as (.sl I) (.o .i)]), (26, [.drop, .drop, .as (.ptr (.pair (.sl (.sl I)) .unit)) (.o .i), .drop, .drop, .as (.sl I) (.o .i), .drop, .drop, .drop, .as I .i]), (21, [.drop, .as (.sl I) .i, .as (.ptr (.pair (.sl (.sl I)) .unit)) (.o .i), .drop, .drop, .as (.sl I) (.o .i), .as I .i, .as .bool .i]), (35, [])]
noncomputable def zz72_R3 (N n : Nat) (K : Ex → St → Z4) (some1 : Y4) (p2 : Y2) (low5 : Y4) (z6 : Int) : Z4 := iter ((A_zz72).shape 6) (run (A_zz72) N (codeAt Try.f106 [1, 1, 0, 1, 0, 0])) n ([.u, .val (.sl I) .i some1, .val (.ptr (.pair (.sl (.sl I)) .unit)) (.o .i) p2, .u, .u, .val (.sl I) (.o .i) low5, .val I .i z6] ++ List.replicate 52 .u) K
noncomputable def zz72_R7 (N n : Nat) (K : Ex → St → Z4) (some1 : Y4) (p2 : Y2) (low5 : Y4) (z6 : Int) (all7 : Bool) (i8 : Int) : Z4 := iter ((A_zz72).shape 14) (run (A_zz72) N (codeAt Try.f106 [1, 1, 0, 1, 0, 0, 1, 0, 0, 1, 0, 1, 0, 0])) n ([.u, .val (.sl I) .i some1, .val (.ptr (.pair (.sl (.sl I)) .unit)) (.o .i) p2, .u, .u, .val (.sl I) (.o .i) low5, .val I .i z6, .val .bool .i all7, .val I .i i8] ++ List.replicate 50 .u) K
noncomputable def zz72_R13 (N n : Nat) (K : Ex → St → Z4) (p2 : Y2) (low5 : Y4) (i9 : Int) : Z4 := iter ((A_zz72).shape 26) (run (A_zz72) N (codeAt Try.f106 [1, 1, 1, 0, 1, 0, 0])) n ([.u, .u, .val (.ptr (.pair (.sl (.sl I)) .unit)) (.o .i) p2, .u, .u, .val (.sl I) (.o .i) low5, .u, .u, .u, .val I .i i9] ++ List.replicate 49 .u) K
noncomputable abbrev zz72_z : Ex → St → Z4 := finish (A_zz72) S_zz72 Try.f106.results.toList
noncomputable abbrev zz72_X3 (kX : St → Z4) : Y2 → Y4 → Z4 := fun (p2 : Y2) (low5 : Y4) => kX ([.u, .u, .val (.ptr (.pair (.sl (.sl I)) .unit)) (.o .i) p2, .u, .u, .val (.sl I) (.o .i) low5] ++ List.replicate 53 .u)
noncomputable abbrev zz72_E3 (kX : St → Z4) (kO : Nat → St → Z4) : Ex → St → Z4 := exK zz72_z 0 ((A_zz72).shape 25) kX kO
noncomputable abbrev zz72_X7 (kX : St → Z4) : Y4 → Y2 → Y4 → Int → Bool → Z4 := fun (some1 : Y4) (p2 : Y2) (low5 : Y4) (z6 : Int) (all7 : Bool) => kX ([.u, .val (.sl I) .i some1, .val (.ptr (.pair (.sl (.sl I)) .unit)) (.o .i) p2, .u, .u, .val (.sl I) (.o .i) low5, .val I .i z6, .val .bool .i all7] ++ List.replicate 51 .u)
noncomputable abbrev zz72_E7 (kX : St → Z4) (kO : Nat → St → Z4) : Ex → St → Z4 := exK zz72_z 2 ((A_zz72).shape 21) kX kO
noncomputable abbrev zz72_X13 (kX : St → Z4) : Z4 := kX ([] ++ List.replicate 59 .u)
noncomputable abbrev zz72_E13 (kX : St → Z4) (kO : Nat → St → Z4) : Ex → St → Z4 := exK zz72_z 4 ((A_zz72).shape 35) kX kO
theorem zz72_step7 (N m : Nat) (kX : St → Z4) (kO : Nat → St → Z4) (some1 : Y4) (p2 : Y2) (low5 : Y4) (z6 : Int) (all7 : Bool) (i8 : Int) : zz72_R7 N (m + 1) (zz72_E7 kX kO) some1 p2 low5 z6 all7 i8 = zz72_b7 (zz72_R7 N m (zz72_E7 kX kO)) (zz72_X7 kX) some1 p2 low5 z6 all7 i8 := by kernel_rfl
theorem zz72_iter7 (N : Nat) (kX : St → Z4) (kO : Nat → St → Z4) : ∀ (n : Nat) (some1 : Y4) (p2 : Y2) (low5 : Y4) (z6 : Int) (all7 : Bool) (i8 : Int), zz72_R7 N n (zz72_E7 kX kO) some1 p2 low5 z6 all7 i8 = zz72_l7 N (zz72_X7 kX) n some1 p2 low5 z6 all7 i8
  | 0, _, _, _, _, _, _ => rfl
  | m + 1, some1, p2, low5, z6, all7, i8 => by
    have hrec : zz72_R7 N m (zz72_E7 kX kO) = (zz72_l7 N (zz72_X7 kX) m) := (funext fun some1 => (funext fun p2 => (funext fun low5 => (funext fun z6 => (funext fun all7 => (funext fun i8 => zz72_iter7 N kX kO m some1 p2 low5 z6 all7 i8))))))
    refine (zz72_step7 N m kX kO some1 p2 low5 z6 all7 i8).trans ?_
    rw [hrec]
    rfl
noncomputable abbrev zz72_K7 (N m : Nat) (kX : St → Z4) (kO : Nat → St → Z4) : Ex → St → Z4 := (blockK 2 (seqK ((A_zz72).shape 21) (gated ((A_zz72).shape 500010).isSome N (run (A_zz72) N (codeAt Try.f106 [1, 1, 0, 1, 0, 0, 1, 0, 0, 1, 1]))) (blockK 1 (seqK ((A_zz72).shape 9) (gated ((A_zz72).shape 500004).isSome N (run (A_zz72) N (codeAt Try.f106 [1, 1, 0, 1, 0, 0, 1, 1]))) (iterK ((A_zz72).shape 6) (run (A_zz72) N (codeAt Try.f106 [1, 1, 0, 1, 0, 0])) m (zz72_E3 kX kO))))))
noncomputable abbrev zz72_k7 (N m : Nat) (kX : St → Z4) (kO : Nat → St → Z4) : St → Z4 := fun st' => run (A_zz72) N (codeAt Try.f106 [1, 1, 0, 1, 0, 0, 1, 0, 0, 1, 1]) st' (blockK 1 (seqK ((A_zz72).shape 9) (gated ((A_zz72).shape 500004).isSome N (run (A_zz72) N (codeAt Try.f106 [1, 1, 0, 1, 0, 0, 1, 1]))) (iterK ((A_zz72).shape 6) (run (A_zz72) N (codeAt Try.f106 [1, 1, 0, 1, 0, 0])) m (zz72_E3 kX kO))))
theorem zz72_after7 (N m : Nat) (kX : St → Z4) (kO : Nat → St → Z4) (some1 : Y4) (p2 : Y2) (low5 : Y4) (z6 : Int) (all7 : Bool) : zz72_X7 (zz72_k7 N m kX kO) some1 p2 low5 z6 all7 = zz72_a7 (zz72_R3 N m (zz72_E3 kX kO)) some1 p2 low5 z6 all7 := by kernel_rfl
theorem zz72_in7 (N m : Nat) (kX : St → Z4) (kO : Nat → St → Z4) (recF : Y4 → Y2 → Y4 → Int → Z4) (hrec : zz72_R3 N m (zz72_E3 kX kO) = recF) (some1 : Y4) (p2 : Y2) (low5 : Y4) (z6 : Int) (all7 : Bool) (i8 : Int) : zz72_R7 N N (zz72_K7 N m kX kO) some1 p2 low5 z6 all7 i8 = zz72_F7 N recF (zz72_X3 kX) some1 p2 low5 z6 all7 i8 :=
  have h : zz72_X7 (zz72_k7 N m kX kO) = (zz72_a7 recF) := (funext fun some1 => (funext fun p2 => (funext fun low5 => (funext fun z6 => (funext fun all7 => (zz72_after7 N m kX kO some1 p2 low5 z6 all7).trans (by rw [hrec]))))))
  ((iter_ex (fun st => by kernel_rfl) (fun st => by kernel_rfl)).trans (zz72_iter7 N (zz72_k7 N m kX kO) (fun j st => (zz72_K7 N m kX kO) (.exit j) st) N some1 p2 low5 z6 all7 i8)).trans (congrArg (fun k => zz72_l7 N k N some1 p2 low5 z6 all7 i8) h)
theorem zz72_step3 (N m : Nat) (kX : St → Z4) (kO : Nat → St → Z4) (some1 : Y4) (p2 : Y2) (low5 : Y4) (z6 : Int) : zz72_R3 N (m + 1) (zz72_E3 kX kO) some1 p2 low5 z6 = zz72_b3 (zz72_R7 N N (zz72_K7 N m kX kO)) (zz72_X3 kX) some1 p2 low5 z6 := by kernel_rfl
theorem zz72_iter3 (N : Nat) (kX : St → Z4) (kO : Nat → St → Z4) : ∀ (n : Nat) (some1 : Y4) (p2 : Y2) (low5 : Y4) (z6 : Int), zz72_R3 N n (zz72_E3 kX kO) some1 p2 low5 z6 = zz72_l3 N (zz72_X3 kX) n some1 p2 low5 z6
  | 0, _, _, _, _ => rfl
  | m + 1, some1, p2, low5, z6 => by
    have hrec : zz72_R3 N m (zz72_E3 kX kO) = (zz72_l3 N (zz72_X3 kX) m) := (funext fun some1 => (funext fun p2 => (funext fun low5 => (funext fun z6 => zz72_iter3 N kX kO m some1 p2 low5 z6))))
    refine (zz72_step3 N m kX kO some1 p2 low5 z6).trans ?_
    rw [(funext fun some1 => (funext fun p2 => (funext fun low5 => (funext fun z6 => (funext fun all7 => (funext fun i8 => zz72_in7 N m kX kO (zz72_l3 N (zz72_X3 kX) m) hrec some1 p2 low5 z6 all7 i8))))))]
    rfl
noncomputable abbrev zz72_K3 (N : Nat) : Ex → St → Z4 := (blockK 0 (seqK ((A_zz72).shape 25) (gated ((A_zz72).shape 500012).isSome N (run (A_zz72) N (codeAt Try.f106 [1, 1, 1]))) zz72_z))
theorem zz72_step13 (N m : Nat) (kX : St → Z4) (kO : Nat → St → Z4) (p2 : Y2) (low5 : Y4) (i9 : Int) : zz72_R13 N (m + 1) (zz72_E13 kX kO) p2 low5 i9 = zz72_b13 (zz72_R13 N m (zz72_E13 kX kO)) (zz72_X13 kX) p2 low5 i9 := by kernel_rfl
theorem zz72_iter13 (N : Nat) (kX : St → Z4) (kO : Nat → St → Z4) : ∀ (n : Nat) (p2 : Y2) (low5 : Y4) (i9 : Int), zz72_R13 N n (zz72_E13 kX kO) p2 low5 i9 = zz72_l13 N (zz72_X13 kX) n p2 low5 i9
  | 0, _, _, _ => rfl
  | m + 1, p2, low5, i9 => by
    have hrec : zz72_R13 N m (zz72_E13 kX kO) = (zz72_l13 N (zz72_X13 kX) m) := (funext fun p2 => (funext fun low5 => (funext fun i9 => zz72_iter13 N kX kO m p2 low5 i9)))
    refine (zz72_step13 N m kX kO p2 low5 i9).trans ?_
    rw [hrec]
    rfl
noncomputable abbrev zz72_K13 (N : Nat) : Ex → St → Z4 := (blockK 4 (seqK ((A_zz72).shape 35) (gated ((A_zz72).shape 500017).isSome N (run (A_zz72) N (codeAt Try.f106 [1, 1, 1, 1]))) zz72_z))
noncomputable abbrev zz72_k13 (N : Nat) : St → Z4 := fun st' => run (A_zz72) N (codeAt Try.f106 [1, 1, 1, 1]) st' zz72_z
theorem zz72_after13 (N : Nat) : zz72_X13 (zz72_k13 N) = zz72_a13 := by kernel_rfl
theorem zz72_in13 (N : Nat) (p2 : Y2) (low5 : Y4) (i9 : Int) : zz72_R13 N N (zz72_K13 N) p2 low5 i9 = zz72_F13 N p2 low5 i9 :=
  have h : zz72_X13 (zz72_k13 N) = (zz72_a13) := zz72_after13 N
  ((iter_ex (fun st => by kernel_rfl) (fun st => by kernel_rfl)).trans (zz72_iter13 N (zz72_k13 N) (fun j st => (zz72_K13 N) (.exit j) st) N p2 low5 i9)).trans (congrArg (fun k => zz72_l13 N k N p2 low5 i9) h)
noncomputable abbrev zz72_k3 (N : Nat) : St → Z4 := fun st' => run (A_zz72) N (codeAt Try.f106 [1, 1, 1]) st' zz72_z
theorem zz72_after3 (N : Nat) (p2 : Y2) (low5 : Y4) : zz72_X3 (zz72_k3 N) p2 low5 = zz72_a3 (zz72_R13 N N (zz72_K13 N)) p2 low5 := by kernel_rfl
theorem zz72_in3 (N : Nat) (some1 : Y4) (p2 : Y2) (low5 : Y4) (z6 : Int) : zz72_R3 N N (zz72_K3 N) some1 p2 low5 z6 = zz72_F3 N some1 p2 low5 z6 :=
  have h : zz72_X3 (zz72_k3 N) = (zz72_a3 (zz72_F13 N)) := (funext fun p2 => (funext fun low5 => (zz72_after3 N p2 low5).trans (by rw [(funext fun p2 => (funext fun low5 => (funext fun i9 => zz72_in13 N p2 low5 i9)))])))
  ((iter_ex (fun st => by kernel_rfl) (fun st => by kernel_rfl)).trans (zz72_iter3 N (zz72_k3 N) (fun j st => (zz72_K3 N) (.exit j) st) N some1 p2 low5 z6)).trans (congrArg (fun k => zz72_l3 N k N some1 p2 low5 z6) h)
theorem run0_zz72 (N : Nat) (x : (S_zz72).a.den) : runF (A_zz72) N Try.f106 S_zz72 x = (zz72_s (zz72_R3 N N (zz72_K3 N)) x.1 x.2.1) := by kernel_rfl
theorem run_zz72 (N : Nat) (x : (S_zz72).a.den) : runF (A_zz72) N Try.f106 S_zz72 x = zz72 N x.1 x.2.1 := by
  refine (run0_zz72 N x).trans ?_
  rw [(funext fun some1 => (funext fun p2 => (funext fun low5 => (funext fun z6 => zz72_in3 N some1 p2 low5 z6))))]
  rfl
theorem fn_zz72 : FnOk Try.prog 106 := ⟨_, Try.func106, by kernel_rfl, by kernel_rfl⟩
theorem good_zz72 : Gx.Good Try.prog 106 S_zz72 := good_of_run Try.func106 (of_decide_eq_true (by kernel_rfl)) fun x r h => ⟨A_zz72, big, mkCfg_ok tabOk, mkCfg_sigs (show SigsOk Try.prog [(78, S_zz45), (126, S_zz69)] from ⟨⟨fn_zz45, good_zz45⟩, ⟨fn_zz69, good_zz69⟩, trivial⟩), (run_zz72 big x).trans h⟩

/-! zz73 -/
def zz73_b8 (rec : Y2 → Y2 → Int → Int → Z1) (k : Y2 → Y2 → Int → Z1) (p1 dual3 : Y2) (x4 y5 : Int) : Z1 :=
  cond (decide (y5 < x4))
  ((zz72 big p1 [x4, y5]).bind fun rq3 =>
  cond (decide (rq3.1 < (0 : Int)))
  (some (false, (())))
  ((zz72 big dual3 [x4, y5]).bind fun rq4 =>
  cond (decide (rq4.1 < (0 : Int)))
  (some (false, (())))
  (rec p1 dual3 x4 (IntKind.i64.wrap (y5 + (1 : Int))))))
  (k p1 dual3 x4)
def zz73_a8 (rec : Y2 → Y2 → Int → Z1) (p1 dual3 : Y2) (x4 : Int) : Z1 :=
  rec p1 dual3 (IntKind.i64.wrap (x4 + (1 : Int)))
def zz73_b5 (L8 : Y2 → Y2 → Int → Int → Z1) (k : Z1) (p1 dual3 : Y2) (x4 : Int) : Z1 :=
  cond (decide (x4 < (p1.1.length : Int)))
  (L8 p1 dual3 x4 (0 : Int))
  (k)
def zz73_a5 : Z1 :=
  some (true, (()))
def zz73_s (L5 : Y2 → Y2 → Int → Z1) (p_0 : Y2) : Z1 :=
  (zz70 big p_0).bind fun rq1 =>
  cond (!rq1.1)
  (some (false, (())))
  (cond (decide ((p_0.1.length : Int) = (0 : Int)))
  (some (false, (())))
  ((zz71 big p_0).bind fun rq2 =>
  L5 p_0 rq2.1 (0 : Int)))
def zz73_l8 (N : Nat) (k : Y2 → Y2 → Int → Z1) : Nat → Y2 → Y2 → Int → Int → Z1
  | 0, _, _, _, _ => none
  | m + 1, p1, dual3, x4, y5 => zz73_b8 (zz73_l8 N k m) k p1 dual3 x4 y5
def zz73_F8 (N : Nat) (rec : Y2 → Y2 → Int → Z1) (k : Z1) (p1 dual3 : Y2) (x4 y5 : Int) : Z1 := zz73_l8 N (zz73_a8 rec) N p1 dual3 x4 y5
def zz73_l5 (N : Nat) (k : Z1) : Nat → Y2 → Y2 → Int → Z1
  | 0, _, _, _ => none
  | m + 1, p1, dual3, x4 => zz73_b5 (zz73_F8 N (zz73_l5 N k m) k) k p1 dual3 x4
def zz73_F5 (N : Nat) (p1 dual3 : Y2) (x4 : Int) : Z1 := zz73_l5 N (zz73_a5) N p1 dual3 x4
def zz73 (N : Nat) (p_0 : Y2) : Z1 := zz73_s (zz73_F5 N) p_0
def S_zz73 : Sig := { a := (.pair (.pair (.sl (.sl I)) .unit) .unit), md := [0], mf := [], m := .unit, r := .bool, rf := .i, f := fun x => zz73 big x.1 }
def A_zz73 : Cfg := mkCfg tab [(104, S_zz70), (105, S_zz71), (106, S_zz72)] [(10, [.drop, .as (.ptr (.pair (.sl (.sl I)) .unit)) (.o .i), .drop, .as (.ptr (.pair (.sl (.sl I)) .unit)) (.o (.p (.o (.o .i)) .i)), .as I .i]), (16, [.drop, .as (.ptr (.pair (.sl (.sl I)) .unit)) (.o .i), .drop, .as (.ptr (.pair (.sl (.sl I)) .unit)) (.o (.p (.o (.o .i)) .i)), .as I .i, .as I .i]), (25, []), (13, [.drop, .as (.ptr (.pair (.sl (.sl I)) .unit)) (.o .i), .drop, .as (.ptr (.pair (.sl (.sl I)) .unit)) (.o (.p (.o (.o .i)) .i)), .as I .i])]
noncomputable def zz73_R5 (N n : Nat) (K : Ex → St → Z1) (p1 dual3 : Y2) (x4 : Int) : Z1 := iter ((A_zz73).shape 10) (run (A_zz73) N (codeAt Try.f55 [1, 1, 1, 0, 1, 0, 0])) n ([.u, .val (.ptr (.pair (.sl (.sl I)) .unit)) (.o .i) p1, .u, .val (.ptr (.pair (.sl (.sl I)) .unit)) (.o (.p (.o (.o .i)) .i)) dual3, .val I .i x4] ++ List.replicate 38 .u) K
noncomputable def zz73_R8 (N n : Nat) (K : Ex → St → Z1) (p1 dual3 : Y2) (x4 y5 : Int) : Z1 := iter ((A_zz73).shape 16) (run (A_zz73) N (codeAt Try.f55 [1, 1, 1, 0, 1, 0, 0, 1, 0, 0, 1, 0, 0])) n ([.u, .val (.ptr (.pair (.sl (.sl I)) .unit)) (.o .i) p1, .u, .val (.ptr (.pair (.sl (.sl I)) .unit)) (.o (.p (.o (.o .i)) .i)) dual3, .val I .i x4, .val I .i y5] ++ List.replicate 37 .u) K
noncomputable abbrev zz73_z : Ex → St → Z1 := finish (A_zz73) S_zz73 Try.f55.results.toList
noncomputable abbrev zz73_X5 (kX : St → Z1) : Z1 := kX ([] ++ List.replicate 43 .u)
noncomputable abbrev zz73_E5 (kX : St → Z1) (kO : Nat → St → Z1) : Ex → St → Z1 := exK zz73_z 0 ((A_zz73).shape 25) kX kO
noncomputable abbrev zz73_X8 (kX : St → Z1) : Y2 → Y2 → Int → Z1 := fun (p1 dual3 : Y2) (x4 : Int) => kX ([.u, .val (.ptr (.pair (.sl (.sl I)) .unit)) (.o .i) p1, .u, .val (.ptr (.pair (.sl (.sl I)) .unit)) (.o (.p (.o (.o .i)) .i)) dual3, .val I .i x4] ++ List.replicate 38 .u)
noncomputable abbrev zz73_E8 (kX : St → Z1) (kO : Nat → St → Z1) : Ex → St → Z1 := exK zz73_z 2 ((A_zz73).shape 13) kX kO
theorem zz73_step8 (N m : Nat) (kX : St → Z1) (kO : Nat → St → Z1) (p1 dual3 : Y2) (x4 y5 : Int) : zz73_R8 N (m + 1) (zz73_E8 kX kO) p1 dual3 x4 y5 = zz73_b8 (zz73_R8 N m (zz73_E8 kX kO)) (zz73_X8 kX) p1 dual3 x4 y5 := by kernel_rfl
theorem zz73_iter8 (N : Nat) (kX : St → Z1) (kO : Nat → St → Z1) : ∀ (n : Nat) (p1 dual3 : Y2) (x4 y5 : Int), zz73_R8 N n (zz73_E8 kX kO) p1 dual3 x4 y5 = zz73_l8 N (zz73_X8 kX) n p1 dual3 x4 y5
  | 0, _, _, _, _ => rfl
  | m + 1, p1, dual3, x4, y5 => by
    have hrec : zz73_R8 N m (zz73_E8 kX kO) = (zz73_l8 N (zz73_X8 kX) m) := (funext fun p1 => (funext fun dual3 => (funext fun x4 => (funext fun y5 => zz73_iter8 N kX kO m p1 dual3 x4 y5))))
    refine (zz73_step8 N m kX kO p1 dual3 x4 y5).trans ?_
    rw [hrec]
    rfl
noncomputable abbrev zz73_K8 (N m : Nat) (kX : St → Z1) (kO : Nat → St → Z1) : Ex → St → Z1 := (blockK 2 (blockK 1 (seqK ((A_zz73).shape 13) (gated ((A_zz73).shape 500006).isSome N (run (A_zz73) N (codeAt Try.f55 [1, 1, 1, 0, 1, 0, 0, 1, 1]))) (iterK ((A_zz73).shape 10) (run (A_zz73) N (codeAt Try.f55 [1, 1, 1, 0, 1, 0, 0])) m (zz73_E5 kX kO)))))
noncomputable abbrev zz73_k8 (N m : Nat) (kX : St → Z1) (kO : Nat → St → Z1) : St → Z1 := fun st' => run (A_zz73) N (codeAt Try.f55 [1, 1, 1, 0, 1, 0, 0, 1, 1]) st' (iterK ((A_zz73).shape 10) (run (A_zz73) N (codeAt Try.f55 [1, 1, 1, 0, 1, 0, 0])) m (zz73_E5 kX kO))
theorem zz73_after8 (N m : Nat) (kX : St → Z1) (kO : Nat → St → Z1) (p1 dual3 : Y2) (x4 : Int) : zz73_X8 (zz73_k8 N m kX kO) p1 dual3 x4 = zz73_a8 (zz73_R5 N m (zz73_E5 kX kO)) p1 dual3 x4 := by kernel_rfl
theorem zz73_in8 (N m : Nat) (kX : St → Z1) (kO : Nat → St → Z1) (recF : Y2 → Y2 → Int → Z1) (hrec : zz73_R5 N m (zz73_E5 kX kO) = recF) (p1 dual3 : Y2) (x4 y5 : Int) : zz73_R8 N N (zz73_K8 N m kX kO) p1 dual3 x4 y5 = zz73_F8 N recF (zz73_X5 kX) p1 dual3 x4 y5 :=
  have h : zz73_X8 (zz73_k8 N m kX kO) = (zz73_a8 recF) := (funext fun p1 => (funext fun dual3 => (funext fun x4 => (zz73_after8 N m kX kO p1 dual3 x4).trans (by rw [hrec]))))
  ((iter_ex (fun st => by kernel_rfl) (fun st => by kernel_rfl)).trans (zz73_iter8 N (zz73_k8 N m kX kO) (fun j st => (zz73_K8 N m kX kO) (.exit j) st) N p1 dual3 x4 y5)).trans (congrArg (fun k => zz73_l8 N k N p1 dual3 x4 y5) h)
theorem zz73_step5 (N m : Nat) (kX : St → Z1) (kO : Nat → St → Z1) (p1 dual3 : Y2) (x4 : Int) : zz73_R5 N (m + 1) (zz73_E5 kX kO) p1 dual3 x4 = zz73_b5 (zz73_R8 N N (zz73_K8 N m kX kO)) (zz73_X5 kX) p1 dual3 x4 := by kernel_rfl
theorem zz73_iter5 (N : Nat) (kX : St → Z1) (kO : Nat → St → Z1) : ∀ (n : Nat) (p1 dual3 : Y2) (x4 : Int), zz73_R5 N n (zz73_E5 kX kO) p1 dual3 x4 = zz73_l5 N (zz73_X5 kX) n p1 dual3 x4
  | 0, _, _, _ => rfl
  | m + 1, p1, dual3, x4 => by
    have hrec : zz73_R5 N m (zz73_E5 kX kO) = (zz73_l5 N (zz73_X5 kX) m) := (funext fun p1 => (funext fun dual3 => (funext fun x4 => zz73_iter5 N kX kO m p1 dual3 x4)))
    refine (zz73_step5 N m kX kO p1 dual3 x4).trans ?_
    rw [(funext fun p1 => (funext fun dual3 => (funext fun x4 => (funext fun y5 => zz73_in8 N m kX kO (zz73_l5 N (zz73_X5 kX) m) hrec p1 dual3 x4 y5))))]
    rfl
noncomputable abbrev zz73_K5 (N : Nat) : Ex → St → Z1 := (blockK 0 (seqK ((A_zz73).shape 25) (gated ((A_zz73).shape 500012).isSome N (run (A_zz73) N (codeAt Try.f55 [1, 1, 1, 1]))) zz73_z))
noncomputable abbrev zz73_k5 (N : Nat) : St → Z1 := fun st' => run (A_zz73) N (codeAt Try.f55 [1, 1, 1, 1]) st' zz73_z
theorem zz73_after5 (N : Nat) : zz73_X5 (zz73_k5 N) = zz73_a5 := by kernel_rfl
theorem zz73_in5 (N : Nat) (p1 dual3 : Y2) (x4 : Int) : zz73_R5 N N (zz73_K5 N) p1 dual3 x4 = zz73_F5 N p1 dual3 x4 :=
  have h : zz73_X5 (zz73_k5 N) = (zz73_a5) := zz73_after5 N
  ((iter_ex (fun st => by kernel_rfl) (fun st => by kernel_rfl)).trans (zz73_iter5 N (zz73_k5 N) (fun j st => (zz73_K5 N) (.exit j) st) N p1 dual3 x4)).trans (congrArg (fun k => zz73_l5 N k N p1 dual3 x4) h)
theorem run0_zz73 (N : Nat) (x : (S_zz73).a.den) : runF (A_zz73) N Try.f55 S_zz73 x = (zz73_s (zz73_R5 N N (zz73_K5 N)) x.1) := by kernel_rfl
theorem run_zz73 (N : Nat) (x : (S_zz73).a.den) : runF (A_zz73) N Try.f55 S_zz73 x = zz73 N x.1 := by
  refine (run0_zz73 N x).trans ?_
  rw [(funext fun p1 => (funext fun dual3 => (funext fun x4 => zz73_in5 N p1 dual3 x4)))]
  rfl
theorem fn_zz73 : FnOk Try.prog 55 := ⟨_, Try.func55, by kernel_rfl, by kernel_rfl⟩
theorem good_zz73 : Gx.Good Try.prog 55 S_zz73 := good_of_run Try.func55 (of_decide_eq_true (by kernel_rfl)) fun x r h => ⟨A_zz73, big, mkCfg_ok tabOk, mkCfg_sigs (show SigsOk Try.prog [(104, S_zz70), (105, S_zz71), (106, S_zz72)] from ⟨⟨fn_zz70, good_zz70⟩, ⟨fn_zz71, good_zz71⟩, ⟨fn_zz72, good_zz72⟩, trivial⟩), (run_zz73 big x).trans h⟩

/-! zz74 -/
def zz74_s (w_0 : Y4) : Option ((Y4 × Z11) × Unit) :=
  (zz10 big w_0 (1 : Int)).bind fun rq1 =>
  (slI w_0 (1 : Int) rq1.1).bind fun xq2 =>
  (slI w_0 rq1.1 w_0.length).bind fun xq3 =>
  some ((xq2, xq3, ()), (()))
def zz74 (w_0 : Y4) : Option ((Y4 × Z11) × Unit) := zz74_s w_0
def S_zz74 : Sig := { a := (.pair (.sl I) .unit), md := [0], mf := [], m := .unit, r := (.tup (.pair (.sl I) (.pair (.sl I) .unit))), rf := .i, f := fun x => zz74 x.1 }
def A_zz74 : Cfg := mkCfg tab [(103, S_zz10)] []
theorem run_zz74 (N : Nat) (x : (S_zz74).a.den) : runF (A_zz74) N Try.f108 S_zz74 x = zz74 x.1 := by kernel_rfl
theorem fn_zz74 : FnOk Try.prog 108 := ⟨_, Try.func108, by kernel_rfl, by kernel_rfl⟩
theorem good_zz74 : Gx.Good Try.prog 108 S_zz74 := good_of_run Try.func108 (of_decide_eq_true (by kernel_rfl)) fun x r h => ⟨A_zz74, big, mkCfg_ok tabOk, mkCfg_sigs (show SigsOk Try.prog [(103, S_zz10)] from ⟨⟨fn_zz10, good_zz10⟩, trivial⟩), (run_zz74 big x).trans h⟩

/-! zz75 -/
def zz75_s (p_0 : Y2) (x_1 y_2 : Int) : Z4 :=
  (zz72 big p_0 [x_1, y_2]).bind fun rq1 =>
  some (rq1.1, (()))
def zz75 (p_0 : Y2) (x_1 y_2 : Int) : Z4 := zz75_s p_0 x_1 y_2
def S_zz75 : Sig := { a := (.pair (.pair (.sl (.sl I)) .unit) (.pair I (.pair I .unit))), md := [0, 0, 0], mf := [], m := .unit, r := I, rf := .i, f := fun x => zz75 x.1 x.2.1 x.2.2.1 }
def A_zz75 : Cfg := mkCfg tab [(106, S_zz72)] []
theorem run_zz75 (N : Nat) (x : (S_zz75).a.den) : runF (A_zz75) N Try.f84 S_zz75 x = zz75 x.1 x.2.1 x.2.2.1 := by kernel_rfl
theorem fn_zz75 : FnOk Try.prog 84 := ⟨_, Try.func84, by kernel_rfl, by kernel_rfl⟩
theorem good_zz75 : Gx.Good Try.prog 84 S_zz75 := good_of_run Try.func84 (of_decide_eq_true (by kernel_rfl)) fun x r h => ⟨A_zz75, big, mkCfg_ok tabOk, mkCfg_sigs (show SigsOk Try.prog [(106, S_zz72)] from ⟨⟨fn_zz72, good_zz72⟩, trivial⟩), (run_zz75 big x).trans h⟩

/-! zz76 -/
def zz76_s (p_0 : Y2) (x_1 y_2 : Int) : Z4 :=
  (zz71 big p_0).bind fun rq1 =>
  (zz72 big rq1.1 [x_1, y_2]).bind fun rq2 =>
  some (rq2.1, (()))
def zz76 (p_0 : Y2) (x_1 y_2 : Int) : Z4 := zz76_s p_0 x_1 y_2
def S_zz76 : Sig := { a := (.pair (.pair (.sl (.sl I)) .unit) (.pair I (.pair I .unit))), md := [0, 0, 0], mf := [], m := .unit, r := I, rf := .i, f := fun x => zz76 x.1 x.2.1 x.2.2.1 }
def A_zz76 : Cfg := mkCfg tab [(105, S_zz71), (106, S_zz72)] []
theorem run_zz76 (N : Nat) (x : (S_zz76).a.den) : runF (A_zz76) N Try.f85 S_zz76 x = zz76 x.1 x.2.1 x.2.2.1 := by kernel_rfl
theorem fn_zz76 : FnOk Try.prog 85 := ⟨_, Try.func85, by kernel_rfl, by kernel_rfl⟩
theorem good_zz76 : Gx.Good Try.prog 85 S_zz76 := good_of_run Try.func85 (of_decide_eq_true (by kernel_rfl)) fun x r h => ⟨A_zz76, big, mkCfg_ok tabOk, mkCfg_sigs (show SigsOk Try.prog [(105, S_zz71), (106, S_zz72)] from ⟨⟨fn_zz71, good_zz71⟩, ⟨fn_zz72, good_zz72⟩, trivial⟩), (run_zz76 big x).trans h⟩

/-! types of zz77 -/
def T_zz77 (self : (Y2 × (Y4 × Z11)) → Z4) : Sig := { a := (.pair (.pair (.sl (.sl I)) .unit) (.pair (.sl I) (.pair (.sl I) .unit))), md := [0, 0, 0], mf := [], m := .unit, r := I, rf := .i, f := self }

/-! zz77 -/
def zz77_s (self_zz77 : (Y2 × (Y4 × Z11)) → Z4) (p_0 : Y2) (w_1 elements_2 : Y4) : Z4 :=
  (atI w_1 (0 : Int)).bind fun xq1 =>
  cond (decide ((0 : Int) ≤ xq1))
  ((atI w_1 (0 : Int)).bind fun xq2 =>
  (atI elements_2 xq2).bind fun xq3 =>
  some (xq3, (())))
  ((zz74 w_1).bind fun rq4 =>
  (self_zz77 (p_0, rq4.1.1, elements_2, ())).bind fun rq5 =>
  (self_zz77 (p_0, rq4.1.2.1, elements_2, ())).bind fun rq6 =>
  (atI w_1 (0 : Int)).bind fun xq7 =>
  cond (decide (xq7 = (-1 : Int)))
  ((zz75 p_0 rq5.1 rq6.1).bind fun rq8 =>
  some (rq8.1, (())))
  ((zz76 p_0 rq5.1 rq6.1).bind fun rq9 =>
  some (rq9.1, (()))))
def zz77 (self_zz77 : (Y2 × (Y4 × Z11)) → Z4) (p_0 : Y2) (w_1 elements_2 : Y4) : Z4 := zz77_s self_zz77 p_0 w_1 elements_2
def A_zz77 (self_zz77 : (Y2 × (Y4 × Z11)) → Z4) : Cfg := mkCfg tab [(108, S_zz74), (57, T_zz77 self_zz77), (84, S_zz75), (85, S_zz76)] []
theorem run_zz77 (self_zz77 : (Y2 × (Y4 × Z11)) → Z4) (N : Nat) (x : ((T_zz77 self_zz77)).a.den) : runF (A_zz77 self_zz77) N Try.f57 (T_zz77 self_zz77) x = zz77 self_zz77 x.1 x.2.1 x.2.2.1 := by kernel_rfl
theorem fn_zz77 : FnOk Try.prog 57 := ⟨_, Try.func57, by kernel_rfl, by kernel_rfl⟩

/-! zz78 -/
def R_zz77 : Nat → (Y2 × (Y4 × Z11)) → Z4
  | 0, _ => none
  | d + 1, x => zz77 (R_zz77 d) x.1 x.2.1 x.2.2.1
def S_zz77 : Sig := T_zz77 (R_zz77 big)
theorem goodR_spec_l28Value : ∀ d, Gx.Good Try.prog 57 (T_zz77 (R_zz77 d))
  | 0 => fun x r h => by cases h
  | d + 1 => good_of_run Try.func57 (of_decide_eq_true (by kernel_rfl)) fun x r h => ⟨A_zz77 (R_zz77 d), big, mkCfg_ok tabOk, mkCfg_sigs (show SigsOk Try.prog [(108, S_zz74), (57, T_zz77 (R_zz77 d)), (84, S_zz75), (85, S_zz76)] from ⟨⟨fn_zz74, good_zz74⟩, ⟨fn_zz77, goodR_spec_l28Value d⟩, ⟨fn_zz75, good_zz75⟩, ⟨fn_zz76, good_zz76⟩, trivial⟩), (run_zz77 (R_zz77 d) big x).trans h⟩
theorem good_zz77 : Gx.Good Try.prog 57 S_zz77 := goodR_spec_l28Value big

/-! zz79 -/
def zz79_s (p_0 : Y2) (w_1 elements_2 : Y4) : Option ((Int × (Bool × Unit)) × Unit) :=
  (zz11 w_1).bind fun rq1 =>
  cond (!rq1.1)
  (some (((0 : Int), false, ()), (())))
  ((zz73 big p_0).bind fun rq2 =>
  cond (!rq2.1)
  (some (((0 : Int), false, ()), (())))
  (cond (decide ((elements_2.length : Int) ≠ (5 : Int)))
  (some (((0 : Int), false, ()), (())))
  ((zz37 big (p_0.1.length : Int) elements_2).bind fun rq3 =>
  cond (!rq3.1)
  (some (((0 : Int), false, ()), (())))
  ((R_zz77 big (p_0, w_1, elements_2, ())).bind fun rq4 =>
  some ((rq4.1, true, ()), (()))))))
def zz79 (p_0 : Y2) (w_1 elements_2 : Y4) : Option ((Int × (Bool × Unit)) × Unit) := zz79_s p_0 w_1 elements_2
def S_zz79 : Sig := { a := (.pair (.pair (.sl (.sl I)) .unit) (.pair (.sl I) (.pair (.sl I) .unit))), md := [0, 0, 0], mf := [], m := .unit, r := (.tup (.pair I (.pair .bool .unit))), rf := .i, f := fun x => zz79 x.1 x.2.1 x.2.2.1 }
def A_zz79 : Cfg := mkCfg tab [(54, S_zz11), (55, S_zz73), (56, S_zz37), (57, S_zz77)] []
theorem run_zz79 (N : Nat) (x : (S_zz79).a.den) : runF (A_zz79) N Try.f16 S_zz79 x = zz79 x.1 x.2.1 x.2.2.1 := by kernel_rfl
theorem fn_zz79 : FnOk Try.prog 16 := ⟨_, Try.func16, by kernel_rfl, by kernel_rfl⟩
theorem good_zz79 : Gx.Good Try.prog 16 S_zz79 := good_of_run Try.func16 (of_decide_eq_true (by kernel_rfl)) fun x r h => ⟨A_zz79, big, mkCfg_ok tabOk, mkCfg_sigs (show SigsOk Try.prog [(54, S_zz11), (55, S_zz73), (56, S_zz37), (57, S_zz77)] from ⟨⟨fn_zz11, good_zz11⟩, ⟨fn_zz73, good_zz73⟩, ⟨fn_zz37, good_zz37⟩, ⟨fn_zz77, good_zz77⟩, trivial⟩), (run_zz79 big x).trans h⟩

/-! zz80 -/
def zz80_s (p_0 : Y2) (x_1 y_2 : Int) : Option ((Bool × (Bool × Unit)) × Unit) :=
  (zz56 big p_0).bind fun rq1 =>
  cond (!((((), rq1.1.2).2).1))
  (some ((false, false, ()), (())))
  ((zz63 rq1.1.1 [x_1, y_2]).bind fun rq2 =>
  cond (!rq2.1)
  (some ((false, false, ()), (())))
  ((atI rq1.1.1 x_1).bind fun _ =>
  (rq1.1.1[x_1.toNat]?).bind fun xq3 =>
  (rq1.1.1[x_1.toNat]?).bind fun xq4 =>
  (atI xq4 y_2).bind fun _ =>
  (rq1.1.1[x_1.toNat]?).bind fun xq5 =>
  (xq5[y_2.toNat]?).bind fun xq6 =>
  some ((xq6, true, ()), (()))))
def zz80 (p_0 : Y2) (x_1 y_2 : Int) : Option ((Bool × (Bool × Unit)) × Unit) := zz80_s p_0 x_1 y_2
def S_zz80 : Sig := { a := (.pair (.pair (.sl (.sl I)) .unit) (.pair I (.pair I .unit))), md := [0, 0, 0], mf := [], m := .unit, r := (.tup (.pair .bool (.pair .bool .unit))), rf := .i, f := fun x => zz80 x.1 x.2.1 x.2.2.1 }
def A_zz80 : Cfg := mkCfg tab [(58, S_zz56), (52, S_zz63)] []
theorem run_zz80 (N : Nat) (x : (S_zz80).a.den) : runF (A_zz80) N Try.f17 S_zz80 x = zz80 x.1 x.2.1 x.2.2.1 := by kernel_rfl
theorem fn_zz80 : FnOk Try.prog 17 := ⟨_, Try.func17, by kernel_rfl, by kernel_rfl⟩
theorem good_zz80 : Gx.Good Try.prog 17 S_zz80 := good_of_run Try.func17 (of_decide_eq_true (by kernel_rfl)) fun x r h => ⟨A_zz80, big, mkCfg_ok tabOk, mkCfg_sigs (show SigsOk Try.prog [(58, S_zz56), (52, S_zz63)] from ⟨⟨fn_zz56, good_zz56⟩, ⟨fn_zz63, good_zz63⟩, trivial⟩), (run_zz80 big x).trans h⟩

/-! laws_FnWords -/
def laws_FnWords_s (code_0 : Y4) : Z1 :=
  (zz0 code_0).bind fun rq1 =>
  cond rq1.1
  (some (true, (())))
  ((zz13 code_0).bind fun rq2 =>
  (zz21 rq2.1.1 rq2.1.2.1).bind fun rq3 =>
  (zz26 rq2.1.1 rq2.1.2.1).bind fun rq4 =>
  cond (rq3.1.1 != rq4.1.1)
  (some (false, (())))
  (cond (rq3.1.2.1 != rq4.1.2.1)
  (some (false, (())))
  ((zz15 rq2.1.1).bind fun rq5 =>
  cond rq5.1
  ((zz15 rq2.1.2.1).bind fun rq6 =>
  cond (rq3.1.2.1 != rq6.1)
  (some (false, (())))
  (cond rq3.1.2.1
  ((zz29 rq2.1.1).bind fun rq7 =>
  (zz29 rq2.1.2.1).bind fun rq8 =>
  (zz21 rq8.1.1 rq7.1.1).bind fun rq9 =>
  cond (!((((), rq7.1.2).2).1))
  (some (false, (())))
  (cond (!((((), rq8.1.2).2).1))
  (some (false, (())))
  (cond (!rq9.1.2.1)
  (some (false, (())))
  (cond (rq9.1.1 != rq3.1.1)
  (some (false, (())))
  ((zz32 rq2.1.1 rq2.1.2.1).bind fun rq10 =>
  cond ((((), rq10.1.2).2).1)
  ((zz21 rq10.1.1 rq2.1.1).bind fun rq11 =>
  (zz21 rq10.1.1 rq2.1.2.1).bind fun rq12 =>
  (zz34 rq10.1.1 rq2.1.1).bind fun rq13 =>
  cond (!rq11.1.2.1)
  (some (false, (())))
  (cond (!rq12.1.2.1)
  (some (false, (())))
  (cond (!rq13.1.2.1)
  (some (false, (())))
  (cond (!rq11.1.1)
  (some (false, (())))
  (cond (!rq12.1.1)
  (some (false, (())))
  (cond (rq13.1.1 != rq3.1.1)
  (some (false, (())))
  ((zz35 rq2.1.1 rq2.1.2.1).bind fun rq14 =>
  cond ((((), rq14.1.2).2).1)
  ((zz21 rq2.1.1 rq14.1.1).bind fun rq15 =>
  (zz34 rq14.1.1 rq2.1.2.1).bind fun rq16 =>
  cond (!rq15.1.2.1)
  (some (false, (())))
  (cond (!rq16.1.2.1)
  (some (false, (())))
  (cond (!rq15.1.1)
  (some (false, (())))
  (cond (rq16.1.1 != rq3.1.1)
  (some (false, (())))
  ((zz51 big code_0).bind fun rq17 =>
  (zz67 rq17.1.1 rq2.1.1 rq17.1.2.2.1).bind fun rq18 =>
  (zz79 rq17.1.1 rq2.1.1 rq17.1.2.2.1).bind fun rq19 =>
  cond (decide (rq18.1.1 ≠ rq19.1.1))
  (some (false, (())))
  (cond (rq18.1.2.1 != rq19.1.2.1)
  (some (false, (())))
  ((zz67 rq17.1.1 rq2.1.2.1 rq17.1.2.2.1).bind fun rq20 =>
  (zz79 rq17.1.1 rq2.1.2.1 rq17.1.2.2.1).bind fun rq21 =>
  cond (decide (rq20.1.1 ≠ rq21.1.1))
  (some (false, (())))
  (cond (rq20.1.2.1 != rq21.1.2.1)
  (some (false, (())))
  (cond rq18.1.2.1
  (cond rq20.1.2.1
  (cond rq3.1.1
  ((zz80 rq17.1.1 rq18.1.1 rq20.1.1).bind fun rq22 =>
  cond (!rq22.1.2.1)
  (some (false, (())))
  (cond (!rq22.1.1)
  (some (false, (())))
  (some (true, (())))))
  (some (true, (()))))
  (some (true, (()))))
  (some (true, (()))))))))))))
  ((zz51 big code_0).bind fun rq23 =>
  (zz67 rq23.1.1 rq2.1.1 rq23.1.2.2.1).bind fun rq24 =>
  (zz79 rq23.1.1 rq2.1.1 rq23.1.2.2.1).bind fun rq25 =>
  cond (decide (rq24.1.1 ≠ rq25.1.1))
  (some (false, (())))
  (cond (rq24.1.2.1 != rq25.1.2.1)
  (some (false, (())))
  ((zz67 rq23.1.1 rq2.1.2.1 rq23.1.2.2.1).bind fun rq26 =>
  (zz79 rq23.1.1 rq2.1.2.1 rq23.1.2.2.1).bind fun rq27 =>
  cond (decide (rq26.1.1 ≠ rq27.1.1))
  (some (false, (())))
  (cond (rq26.1.2.1 != rq27.1.2.1)
  (some (false, (())))
  (cond rq24.1.2.1
  (cond rq26.1.2.1
  (cond rq3.1.1
  ((zz80 rq23.1.1 rq24.1.1 rq26.1.1).bind fun rq28 =>
  cond (!rq28.1.2.1)
  (some (false, (())))
  (cond (!rq28.1.1)
  (some (false, (())))
  (some (true, (())))))
  (some (true, (()))))
  (some (true, (()))))
  (some (true, (())))))))))))))))
  ((zz35 rq2.1.1 rq2.1.2.1).bind fun rq29 =>
  cond ((((), rq29.1.2).2).1)
  ((zz21 rq2.1.1 rq29.1.1).bind fun rq30 =>
  (zz34 rq29.1.1 rq2.1.2.1).bind fun rq31 =>
  cond (!rq30.1.2.1)
  (some (false, (())))
  (cond (!rq31.1.2.1)
  (some (false, (())))
  (cond (!rq30.1.1)
  (some (false, (())))
  (cond (rq31.1.1 != rq3.1.1)
  (some (false, (())))
  ((zz51 big code_0).bind fun rq32 =>
  (zz67 rq32.1.1 rq2.1.1 rq32.1.2.2.1).bind fun rq33 =>
  (zz79 rq32.1.1 rq2.1.1 rq32.1.2.2.1).bind fun rq34 =>
  cond (decide (rq33.1.1 ≠ rq34.1.1))
  (some (false, (())))
  (cond (rq33.1.2.1 != rq34.1.2.1)
  (some (false, (())))
  ((zz67 rq32.1.1 rq2.1.2.1 rq32.1.2.2.1).bind fun rq35 =>
  (zz79 rq32.1.1 rq2.1.2.1 rq32.1.2.2.1).bind fun rq36 =>
  cond (decide (rq35.1.1 ≠ rq36.1.1))
  (some (false, (())))
  (cond (rq35.1.2.1 != rq36.1.2.1)
  (some (false, (())))
  (cond rq33.1.2.1
  (cond rq35.1.2.1
  (cond rq3.1.1
  ((zz80 rq32.1.1 rq33.1.1 rq35.1.1).bind fun rq37 =>
  cond (!rq37.1.2.1)
  (some (false, (())))
  (cond (!rq37.1.1)
  (some (false, (())))
  (some (true, (())))))
  (some (true, (()))))
  (some (true, (()))))
  (some (true, (()))))))))))))
  ((zz51 big code_0).bind fun rq38 =>
  (zz67 rq38.1.1 rq2.1.1 rq38.1.2.2.1).bind fun rq39 =>
  (zz79 rq38.1.1 rq2.1.1 rq38.1.2.2.1).bind fun rq40 =>
  cond (decide (rq39.1.1 ≠ rq40.1.1))
  (some (false, (())))
  (cond (rq39.1.2.1 != rq40.1.2.1)
  (some (false, (())))
  ((zz67 rq38.1.1 rq2.1.2.1 rq38.1.2.2.1).bind fun rq41 =>
  (zz79 rq38.1.1 rq2.1.2.1 rq38.1.2.2.1).bind fun rq42 =>
  cond (decide (rq41.1.1 ≠ rq42.1.1))
  (some (false, (())))
  (cond (rq41.1.2.1 != rq42.1.2.1)
  (some (false, (())))
  (cond rq39.1.2.1
  (cond rq41.1.2.1
  (cond rq3.1.1
  ((zz80 rq38.1.1 rq39.1.1 rq41.1.1).bind fun rq43 =>
  cond (!rq43.1.2.1)
  (some (false, (())))
  (cond (!rq43.1.1)
  (some (false, (())))
  (some (true, (())))))
  (some (true, (()))))
  (some (true, (()))))
  (some (true, (()))))))))))))))
  (some (true, (())))))
  (cond (rq3.1.2.1 != false)
  (some (false, (())))
  (cond rq3.1.2.1
  ((zz29 rq2.1.1).bind fun rq44 =>
  (zz29 rq2.1.2.1).bind fun rq45 =>
  (zz21 rq45.1.1 rq44.1.1).bind fun rq46 =>
  cond (!((((), rq44.1.2).2).1))
  (some (false, (())))
  (cond (!((((), rq45.1.2).2).1))
  (some (false, (())))
  (cond (!rq46.1.2.1)
  (some (false, (())))
  (cond (rq46.1.1 != rq3.1.1)
  (some (false, (())))
  ((zz32 rq2.1.1 rq2.1.2.1).bind fun rq47 =>
  cond ((((), rq47.1.2).2).1)
  ((zz21 rq47.1.1 rq2.1.1).bind fun rq48 =>
  (zz21 rq47.1.1 rq2.1.2.1).bind fun rq49 =>
  (zz34 rq47.1.1 rq2.1.1).bind fun rq50 =>
  cond (!rq48.1.2.1)
  (some (false, (())))
  (cond (!rq49.1.2.1)
  (some (false, (())))
  (cond (!rq50.1.2.1)
  (some (false, (())))
  (cond (!rq48.1.1)
  (some (false, (())))
  (cond (!rq49.1.1)
  (some (false, (())))
  (cond (rq50.1.1 != rq3.1.1)
  (some (false, (())))
  ((zz35 rq2.1.1 rq2.1.2.1).bind fun rq51 =>
  cond ((((), rq51.1.2).2).1)
  ((zz21 rq2.1.1 rq51.1.1).bind fun rq52 =>
  (zz34 rq51.1.1 rq2.1.2.1).bind fun rq53 =>
  cond (!rq52.1.2.1)
  (some (false, (())))
  (cond (!rq53.1.2.1)
  (some (false, (())))
  (cond (!rq52.1.1)
  (some (false, (())))
  (cond (rq53.1.1 != rq3.1.1)
  (some (false, (())))
  ((zz51 big code_0).bind fun rq54 =>
  (zz67 rq54.1.1 rq2.1.1 rq54.1.2.2.1).bind fun rq55 =>
  (zz79 rq54.1.1 rq2.1.1 rq54.1.2.2.1).bind fun rq56 =>
  cond (decide (rq55.1.1 ≠ rq56.1.1))
  (some (false, (())))
  (cond (rq55.1.2.1 != rq56.1.2.1)
  (some (false, (())))
  ((zz67 rq54.1.1 rq2.1.2.1 rq54.1.2.2.1).bind fun rq57 =>
  (zz79 rq54.1.1 rq2.1.2.1 rq54.1.2.2.1).bind fun rq58 =>
  cond (decide (rq57.1.1 ≠ rq58.1.1))
  (some (false, (())))
  (cond (rq57.1.2.1 != rq58.1.2.1)
  (some (false, (())))
  (cond rq55.1.2.1
  (cond rq57.1.2.1
  (cond rq3.1.1
  ((zz80 rq54.1.1 rq55.1.1 rq57.1.1).bind fun rq59 =>
  cond (!rq59.1.2.1)
  (some (false, (())))
  (cond (!rq59.1.1)
  (some (false, (())))
  (some (true, (())))))
  (some (true, (()))))
  (some (true, (()))))
  (some (true, (()))))))))))))
  ((zz51 big code_0).bind fun rq60 =>
  (zz67 rq60.1.1 rq2.1.1 rq60.1.2.2.1).bind fun rq61 =>
  (zz79 rq60.1.1 rq2.1.1 rq60.1.2.2.1).bind fun rq62 =>
  cond (decide (rq61.1.1 ≠ rq62.1.1))
  (some (false, (())))
  (cond (rq61.1.2.1 != rq62.1.2.1)
  (some (false, (())))
  ((zz67 rq60.1.1 rq2.1.2.1 rq60.1.2.2.1).bind fun rq63 =>
  (zz79 rq60.1.1 rq2.1.2.1 rq60.1.2.2.1).bind fun rq64 =>
  cond (decide (rq63.1.1 ≠ rq64.1.1))
  (some (false, (())))
  (cond (rq63.1.2.1 != rq64.1.2.1)
  (some (false, (())))
  (cond rq61.1.2.1
  (cond rq63.1.2.1
  (cond rq3.1.1
  ((zz80 rq60.1.1 rq61.1.1 rq63.1.1).bind fun rq65 =>
  cond (!rq65.1.2.1)
  (some (false, (())))
  (cond (!rq65.1.1)
  (some (false, (())))
  (some (true, (())))))
  (some (true, (()))))
  (some (true, (()))))
  (some (true, (())))))))))))))))
  ((zz35 rq2.1.1 rq2.1.2.1).bind fun rq66 =>
  cond ((((), rq66.1.2).2).1)
  ((zz21 rq2.1.1 rq66.1.1).bind fun rq67 =>
  (zz34 rq66.1.1 rq2.1.2.1).bind fun rq68 =>
  cond (!rq67.1.2.1)
  (some (false, (())))
  (cond (!rq68.1.2.1)
  (some (false, (())))
  (cond (!rq67.1.1)
  (some (false, (())))
  (cond (rq68.1.1 != rq3.1.1)
  (some (false, (())))
  ((zz51 big code_0).bind fun rq69 =>
  (zz67 rq69.1.1 rq2.1.1 rq69.1.2.2.1).bind fun rq70 =>
  (zz79 rq69.1.1 rq2.1.1 rq69.1.2.2.1).bind fun rq71 =>
  cond (decide (rq70.1.1 ≠ rq71.1.1))
  (some (false, (())))
  (cond (rq70.1.2.1 != rq71.1.2.1)
  (some (false, (())))
  ((zz67 rq69.1.1 rq2.1.2.1 rq69.1.2.2.1).bind fun rq72 =>
  (zz79 rq69.1.1 rq2.1.2.1 rq69.1.2.2.1).bind fun rq73 =>
  cond (decide (rq72.1.1 ≠ rq73.1.1))
  (some (false, (())))
  (cond (rq72.1.2.1 != rq73.1.2.1)
  (some (false, (())))
  (cond rq70.1.2.1
  (cond rq72.1.2.1
  (cond rq3.1.1
  ((zz80 rq69.1.1 rq70.1.1 rq72.1.1).bind fun rq74 =>
  cond (!rq74.1.2.1)
  (some (false, (())))
  (cond (!rq74.1.1)
  (some (false, (())))
  (some (true, (())))))
  (some (true, (()))))
  (some (true, (()))))
  (some (true, (()))))))))))))
  ((zz51 big code_0).bind fun rq75 =>
  (zz67 rq75.1.1 rq2.1.1 rq75.1.2.2.1).bind fun rq76 =>
  (zz79 rq75.1.1 rq2.1.1 rq75.1.2.2.1).bind fun rq77 =>
  cond (decide (rq76.1.1 ≠ rq77.1.1))
  (some (false, (())))
  (cond (rq76.1.2.1 != rq77.1.2.1)
  (some (false, (())))
  ((zz67 rq75.1.1 rq2.1.2.1 rq75.1.2.2.1).bind fun rq78 =>
  (zz79 rq75.1.1 rq2.1.2.1 rq75.1.2.2.1).bind fun rq79 =>
  cond (decide (rq78.1.1 ≠ rq79.1.1))
  (some (false, (())))
  (cond (rq78.1.2.1 != rq79.1.2.1)
  (some (false, (())))
  (cond rq76.1.2.1
  (cond rq78.1.2.1
  (cond rq3.1.1
  ((zz80 rq75.1.1 rq76.1.1 rq78.1.1).bind fun rq80 =>
  cond (!rq80.1.2.1)
  (some (false, (())))
  (cond (!rq80.1.1)
  (some (false, (())))
  (some (true, (())))))
  (some (true, (()))))
  (some (true, (()))))
  (some (true, (()))))))))))))))
  (some (true, (()))))))))
def laws_FnWords (code_0 : Y4) : Z1 := laws_FnWords_s code_0
def S_laws_FnWords : Sig := { a := (.pair (.sl (.int .u8)) .unit), md := [0], mf := [], m := .unit, r := .bool, rf := .i, f := fun x => laws_FnWords x.1 }
def laws_FnWords_c_j27 (code0 s3 t4 : Y4) (is5 : Bool) : Z1 :=
  (zz51 big code0).bind fun rq24 =>
  (zz67 rq24.1.1 s3 rq24.1.2.2.1).bind fun rq25 =>
  (zz79 rq24.1.1 s3 rq24.1.2.2.1).bind fun rq26 =>
  cond (decide (rq25.1.1 ≠ rq26.1.1))
  (some (false, (())))
  (cond (rq25.1.2.1 != rq26.1.2.1)
  (some (false, (())))
  ((zz67 rq24.1.1 t4 rq24.1.2.2.1).bind fun rq27 =>
  (zz79 rq24.1.1 t4 rq24.1.2.2.1).bind fun rq28 =>
  cond (decide (rq27.1.1 ≠ rq28.1.1))
  (some (false, (())))
  (cond (rq27.1.2.1 != rq28.1.2.1)
  (some (false, (())))
  (cond rq25.1.2.1
  (cond rq27.1.2.1
  (cond is5
  ((zz80 rq24.1.1 rq25.1.1 rq27.1.1).bind fun rq29 =>
  cond (!rq29.1.2.1)
  (some (false, (())))
  (cond (!rq29.1.1)
  (some (false, (())))
  (some (true, (())))))
  (some (true, (()))))
  (some (true, (()))))
  (some (true, (())))))))
def laws_FnWords_c_j21 (J27 : Y4 → Y4 → Y4 → Bool → Z1) (code0 s3 t4 : Y4) (is5 : Bool) : Z1 :=
  (zz35 s3 t4).bind fun rq21 =>
  cond ((((), rq21.1.2).2).1)
  ((zz21 s3 rq21.1.1).bind fun rq22 =>
  (zz34 rq21.1.1 t4).bind fun rq23 =>
  cond (!rq22.1.2.1)
  (some (false, (())))
  (cond (!rq23.1.2.1)
  (some (false, (())))
  (cond (!rq22.1.1)
  (some (false, (())))
  (cond (rq23.1.1 != is5)
  (some (false, (())))
  (J27 code0 s3 t4 is5)))))
  (J27 code0 s3 t4 is5)
def laws_FnWords_c_s (J21 : Y4 → Y4 → Y4 → Bool → Z1) (code_0 : Y4) : Z1 :=
  (zz0 code_0).bind fun rq1 =>
  cond rq1.1
  (some (true, (())))
  ((zz13 code_0).bind fun rq2 =>
  (zz21 rq2.1.1 rq2.1.2.1).bind fun rq3 =>
  (zz26 rq2.1.1 rq2.1.2.1).bind fun rq4 =>
  cond (rq3.1.1 != rq4.1.1)
  (some (false, (())))
  (cond (rq3.1.2.1 != rq4.1.2.1)
  (some (false, (())))
  ((zz15 rq2.1.1).bind fun rq5 =>
  cond rq5.1
  ((zz15 rq2.1.2.1).bind fun rq6 =>
  cond (rq3.1.2.1 != rq6.1)
  (some (false, (())))
  (cond rq3.1.2.1
  ((zz29 rq2.1.1).bind fun rq7 =>
  (zz29 rq2.1.2.1).bind fun rq8 =>
  (zz21 rq8.1.1 rq7.1.1).bind fun rq9 =>
  cond (!((((), rq7.1.2).2).1))
  (some (false, (())))
  (cond (!((((), rq8.1.2).2).1))
  (some (false, (())))
  (cond (!rq9.1.2.1)
  (some (false, (())))
  (cond (rq9.1.1 != rq3.1.1)
  (some (false, (())))
  ((zz32 rq2.1.1 rq2.1.2.1).bind fun rq10 =>
  cond ((((), rq10.1.2).2).1)
  ((zz21 rq10.1.1 rq2.1.1).bind fun rq11 =>
  (zz21 rq10.1.1 rq2.1.2.1).bind fun rq12 =>
  (zz34 rq10.1.1 rq2.1.1).bind fun rq13 =>
  cond (!rq11.1.2.1)
  (some (false, (())))
  (cond (!rq12.1.2.1)
  (some (false, (())))
  (cond (!rq13.1.2.1)
  (some (false, (())))
  (cond (!rq11.1.1)
  (some (false, (())))
  (cond (!rq12.1.1)
  (some (false, (())))
  (cond (rq13.1.1 != rq3.1.1)
  (some (false, (())))
  (J21 code_0 rq2.1.1 rq2.1.2.1 rq3.1.1)))))))
  (J21 code_0 rq2.1.1 rq2.1.2.1 rq3.1.1))))))
  (some (true, (())))))
  (cond (rq3.1.2.1 != false)
  (some (false, (())))
  (cond rq3.1.2.1
  ((zz29 rq2.1.1).bind fun rq14 =>
  (zz29 rq2.1.2.1).bind fun rq15 =>
  (zz21 rq15.1.1 rq14.1.1).bind fun rq16 =>
  cond (!((((), rq14.1.2).2).1))
  (some (false, (())))
  (cond (!((((), rq15.1.2).2).1))
  (some (false, (())))
  (cond (!rq16.1.2.1)
  (some (false, (())))
  (cond (rq16.1.1 != rq3.1.1)
  (some (false, (())))
  ((zz32 rq2.1.1 rq2.1.2.1).bind fun rq17 =>
  cond ((((), rq17.1.2).2).1)
  ((zz21 rq17.1.1 rq2.1.1).bind fun rq18 =>
  (zz21 rq17.1.1 rq2.1.2.1).bind fun rq19 =>
  (zz34 rq17.1.1 rq2.1.1).bind fun rq20 =>
  cond (!rq18.1.2.1)
  (some (false, (())))
  (cond (!rq19.1.2.1)
  (some (false, (())))
  (cond (!rq20.1.2.1)
  (some (false, (())))
  (cond (!rq18.1.1)
  (some (false, (())))
  (cond (!rq19.1.1)
  (some (false, (())))
  (cond (rq20.1.1 != rq3.1.1)
  (some (false, (())))
  (J21 code_0 rq2.1.1 rq2.1.2.1 rq3.1.1)))))))
  (J21 code_0 rq2.1.1 rq2.1.2.1 rq3.1.1))))))
  (some (true, (()))))))))
def laws_FnWords_c_J27 (N : Nat) (code0 s3 t4 : Y4) (is5 : Bool) : Z1 := gate true N (laws_FnWords_c_j27 code0 s3 t4 is5)
def laws_FnWords_c_J21 (N : Nat) (code0 s3 t4 : Y4) (is5 : Bool) : Z1 := gate true N (laws_FnWords_c_j21 (laws_FnWords_c_J27 N) code0 s3 t4 is5)
def laws_FnWords_c (N : Nat) (code_0 : Y4) : Z1 := laws_FnWords_c_s (laws_FnWords_c_J21 N) code_0
def A_laws_FnWords_c : Cfg := mkCfg tab [(5, S_zz0), (6, S_zz13), (7, S_zz21), (8, S_zz26), (9, S_zz15), (10, S_zz29), (11, S_zz32), (12, S_zz34), (13, S_zz35), (14, S_zz51), (15, S_zz67), (16, S_zz79), (17, S_zz80)] [(43, [.as (.sl (.int .u8)) .i, .drop, .drop, .as (.sl I) .i, .as (.sl I) .i, .as .bool .i]), (55, [.as (.sl (.int .u8)) .i, .drop, .drop, .as (.sl I) .i, .as (.sl I) .i, .as .bool .i]), (500021, []), (500027, [])]
noncomputable abbrev laws_FnWords_c_z : Ex → St → Z1 := finish (A_laws_FnWords_c) S_laws_FnWords Try.f3.results.toList
noncomputable abbrev laws_FnWords_c_jK21 (N : Nat) : Ex → St → Z1 := (seqK ((A_laws_FnWords_c).shape 81) (gated ((A_laws_FnWords_c).shape 500040).isSome N (run (A_laws_FnWords_c) N (codeAt Try.f3 [1, 1, 1, 1, 1, 1]))) laws_FnWords_c_z)
noncomputable def laws_FnWords_c_Q21 (N : Nat) (code0 s3 t4 : Y4) (is5 : Bool) : Z1 := gated true N (run (A_laws_FnWords_c) N (codeAt Try.f3 [1, 1, 1, 1, 1, 0, 1, 0, 1, 1, 1, 1, 1])) ([.val (.sl (.int .u8)) .i code0, .u, .u, .val (.sl I) .i s3, .val (.sl I) .i t4, .val .bool .i is5] ++ List.replicate 257 .u) (laws_FnWords_c_jK21 N)
noncomputable abbrev laws_FnWords_c_jK27 (N : Nat) : Ex → St → Z1 := (seqK ((A_laws_FnWords_c).shape 81) (gated ((A_laws_FnWords_c).shape 500040).isSome N (run (A_laws_FnWords_c) N (codeAt Try.f3 [1, 1, 1, 1, 1, 1]))) laws_FnWords_c_z)
noncomputable def laws_FnWords_c_Q27 (N : Nat) (code0 s3 t4 : Y4) (is5 : Bool) : Z1 := gated true N (run (A_laws_FnWords_c) N (codeAt Try.f3 [1, 1, 1, 1, 1, 0, 1, 0, 1, 1, 1, 1, 1, 1])) ([.val (.sl (.int .u8)) .i code0, .u, .u, .val (.sl I) .i s3, .val (.sl I) .i t4, .val .bool .i is5] ++ List.replicate 257 .u) (laws_FnWords_c_jK27 N)
theorem laws_FnWords_c_jr27 (N : Nat) (code0 s3 t4 : Y4) (is5 : Bool) : run (A_laws_FnWords_c) N (codeAt Try.f3 [1, 1, 1, 1, 1, 0, 1, 0, 1, 1, 1, 1, 1, 1]) ([.val (.sl (.int .u8)) .i code0, .u, .u, .val (.sl I) .i s3, .val (.sl I) .i t4, .val .bool .i is5] ++ List.replicate 257 .u) (laws_FnWords_c_jK27 N) = laws_FnWords_c_j27 code0 s3 t4 is5 := by kernel_rfl
theorem laws_FnWords_c_inJ27 (N : Nat) (code0 s3 t4 : Y4) (is5 : Bool) : laws_FnWords_c_Q27 N code0 s3 t4 is5 = laws_FnWords_c_J27 N code0 s3 t4 is5 := by
  have h : laws_FnWords_c_j27 code0 s3 t4 is5 = laws_FnWords_c_j27 code0 s3 t4 is5 := rfl
  exact congrArg (gate true N) ((laws_FnWords_c_jr27 N code0 s3 t4 is5).trans h)
theorem laws_FnWords_c_jr21 (N : Nat) (code0 s3 t4 : Y4) (is5 : Bool) : run (A_laws_FnWords_c) N (codeAt Try.f3 [1, 1, 1, 1, 1, 0, 1, 0, 1, 1, 1, 1, 1]) ([.val (.sl (.int .u8)) .i code0, .u, .u, .val (.sl I) .i s3, .val (.sl I) .i t4, .val .bool .i is5] ++ List.replicate 257 .u) (laws_FnWords_c_jK21 N) = laws_FnWords_c_j21 (laws_FnWords_c_Q27 N) code0 s3 t4 is5 := by kernel_rfl
theorem laws_FnWords_c_inJ21 (N : Nat) (code0 s3 t4 : Y4) (is5 : Bool) : laws_FnWords_c_Q21 N code0 s3 t4 is5 = laws_FnWords_c_J21 N code0 s3 t4 is5 := by
  have h : laws_FnWords_c_j21 (laws_FnWords_c_Q27 N) code0 s3 t4 is5 = laws_FnWords_c_j21 (laws_FnWords_c_J27 N) code0 s3 t4 is5 := by rw [(funext fun code0 => (funext fun s3 => (funext fun t4 => (funext fun is5 => laws_FnWords_c_inJ27 N code0 s3 t4 is5))))]
  exact congrArg (gate true N) ((laws_FnWords_c_jr21 N code0 s3 t4 is5).trans h)
theorem run0_laws_FnWords_c (N : Nat) (x : (S_laws_FnWords).a.den) : runF (A_laws_FnWords_c) N Try.f3 S_laws_FnWords x = (laws_FnWords_c_s (laws_FnWords_c_Q21 N) x.1) := by kernel_rfl
theorem run_laws_FnWords_c (N : Nat) (x : (S_laws_FnWords).a.den) : runF (A_laws_FnWords_c) N Try.f3 S_laws_FnWords x = laws_FnWords_c N x.1 := by
  refine (run0_laws_FnWords_c N x).trans ?_
  rw [(funext fun code0 => (funext fun s3 => (funext fun t4 => (funext fun is5 => laws_FnWords_c_inJ21 N code0 s3 t4 is5))))]
  rfl
theorem run_laws_FnWords (x : (S_laws_FnWords).a.den) : runF (A_laws_FnWords_c) big Try.f3 S_laws_FnWords x = laws_FnWords x.1 := (run_laws_FnWords_c big x).trans (by kernel_rfl)
theorem fn_laws_FnWords : FnOk Try.prog 3 := ⟨_, Try.func3, by kernel_rfl, by kernel_rfl⟩
theorem good_laws_FnWords : Gx.Good Try.prog 3 S_laws_FnWords := good_of_run Try.func3 (of_decide_eq_true (by kernel_rfl)) fun x r h => ⟨A_laws_FnWords_c, big, mkCfg_ok tabOk, mkCfg_sigs (show SigsOk Try.prog [(5, S_zz0), (6, S_zz13), (7, S_zz21), (8, S_zz26), (9, S_zz15), (10, S_zz29), (11, S_zz32), (12, S_zz34), (13, S_zz35), (14, S_zz51), (15, S_zz67), (16, S_zz79), (17, S_zz80)] from ⟨⟨fn_zz0, good_zz0⟩, ⟨fn_zz13, good_zz13⟩, ⟨fn_zz21, good_zz21⟩, ⟨fn_zz26, good_zz26⟩, ⟨fn_zz15, good_zz15⟩, ⟨fn_zz29, good_zz29⟩, ⟨fn_zz32, good_zz32⟩, ⟨fn_zz34, good_zz34⟩, ⟨fn_zz35, good_zz35⟩, ⟨fn_zz51, good_zz51⟩, ⟨fn_zz67, good_zz67⟩, ⟨fn_zz79, good_zz79⟩, ⟨fn_zz80, good_zz80⟩, trivial⟩), (run_laws_FnWords x).trans h⟩
end Go.Proofs.Ytcdlbboeflehdaa
