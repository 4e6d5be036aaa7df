import Derived.Test.YtmkabioglfeflaaGCp2
set_option maxRecDepth 100000
set_option linter.unusedVariables false
namespace Go.Proofs.Ytmkabioglfeflaa
open Go Go.Gx Go.Proofs

/-! zz79 -/
def zz79_b5 (rec : (List (Int × (Int × Unit))) → Int → Int → Int → Option (Int × ((List (Int × (Int × Unit))) × Unit))) (k : (List (Int × (Int × Unit))) → Int → Int → Option (Int × ((List (Int × (Int × Unit))) × Unit))) (a0 : (List (Int × (Int × Unit)))) (k1 : Int) (i5 : Int) (j6 : Int) : Option (Int × ((List (Int × (Int × Unit))) × Unit)) :=
  cond (decide (j6 < (2 : Int)))
  ((atI a0 i5).bind fun _ =>
  cond (decide (j6 = (0 : Int)))
  ((a0[i5.toNat]?).bind fun xq1 =>
  (a0[i5.toNat]?).bind fun xq2 =>
  rec (a0.set i5.toNat (k1, xq2.2)) (IntKind.i64.wrap (k1 + (1 : Int))) i5 (IntKind.i64.wrap (j6 + (1 : Int))))
  (cond (decide (j6 = (1 : Int)))
  ((a0[i5.toNat]?).bind fun xq3 =>
  (a0[i5.toNat]?).bind fun xq4 =>
  rec (a0.set i5.toNat (xq4.1, (k1, xq4.2.2))) (IntKind.i64.wrap (k1 + (1 : Int))) i5 (IntKind.i64.wrap (j6 + (1 : Int))))
  (none)))
  (k a0 k1 i5)
def zz79_a5 (rec : (List (Int × (Int × Unit))) → Int → Int → Option (Int × ((List (Int × (Int × Unit))) × Unit))) (a0 : (List (Int × (Int × Unit)))) (k1 : Int) (i5 : Int) : Option (Int × ((List (Int × (Int × Unit))) × Unit)) :=
  rec a0 k1 (IntKind.i64.wrap (i5 + (1 : Int)))
def zz79_b2 (L5 : (List (Int × (Int × Unit))) → Int → Int → Int → Option (Int × ((List (Int × (Int × Unit))) × Unit))) (k : (List (Int × (Int × Unit))) → Int → Option (Int × ((List (Int × (Int × Unit))) × Unit))) (a0 : (List (Int × (Int × Unit)))) (k1 : Int) (i5 : Int) : Option (Int × ((List (Int × (Int × Unit))) × Unit)) :=
  cond (decide (i5 < (a0.length : Int)))
  (L5 a0 k1 i5 (0 : Int))
  (k a0 k1)
def zz79_a2 (a0 : (List (Int × (Int × Unit)))) (k1 : Int) : Option (Int × ((List (Int × (Int × Unit))) × Unit)) :=
  some (k1, (a0, ()))
def zz79_s (L2 : (List (Int × (Int × Unit))) → Int → Int → Option (Int × ((List (Int × (Int × Unit))) × Unit))) (a_0 : (List (Int × (Int × Unit)))) (k_1 : Int) : Option (Int × ((List (Int × (Int × Unit))) × Unit)) :=
  L2 a_0 k_1 (0 : Int)
def zz79_l5 (N : Nat) (k : (List (Int × (Int × Unit))) → Int → Int → Option (Int × ((List (Int × (Int × Unit))) × Unit))) : Nat → (List (Int × (Int × Unit))) → Int → Int → Int → Option (Int × ((List (Int × (Int × Unit))) × Unit))
  | 0, _, _, _, _ => none
  | m + 1, a0, k1, i5, j6 => zz79_b5 (zz79_l5 N k m) k a0 k1 i5 j6
def zz79_F5 (N : Nat) (rec : (List (Int × (Int × Unit))) → Int → Int → Option (Int × ((List (Int × (Int × Unit))) × Unit))) (k : (List (Int × (Int × Unit))) → Int → Option (Int × ((List (Int × (Int × Unit))) × Unit))) (a0 : (List (Int × (Int × Unit)))) (k1 : Int) (i5 : Int) (j6 : Int) : Option (Int × ((List (Int × (Int × Unit))) × Unit)) := zz79_l5 N (zz79_a5 rec) N a0 k1 i5 j6
def zz79_l2 (N : Nat) (k : (List (Int × (Int × Unit))) → Int → Option (Int × ((List (Int × (Int × Unit))) × Unit))) : Nat → (List (Int × (Int × Unit))) → Int → Int → Option (Int × ((List (Int × (Int × Unit))) × Unit))
  | 0, _, _, _ => none
  | m + 1, a0, k1, i5 => zz79_b2 (zz79_F5 N (zz79_l2 N k m) k) k a0 k1 i5
def zz79_F2 (N : Nat) (a0 : (List (Int × (Int × Unit)))) (k1 : Int) (i5 : Int) : Option (Int × ((List (Int × (Int × Unit))) × Unit)) := zz79_l2 N (zz79_a2) N a0 k1 i5
def zz79 (N : Nat) (a_0 : (List (Int × (Int × Unit)))) (k_1 : Int) : Option (Int × ((List (Int × (Int × Unit))) × Unit)) := zz79_s (zz79_F2 N) a_0 k_1
def S_zz79 : Sig := { a := (.pair (.sl (.pair I (.pair I .unit))) (.pair I .unit)), md := [1, 0], mf := [(.o .i)], m := (.pair (.sl (.pair I (.pair I .unit))) .unit), r := I, rf := .i, f := fun x => zz79 big x.1 x.2.1 }
def A_zz79 : Cfg := mkCfg tab [] [(4, [.as (.sl (.pair I (.pair I .unit))) (.o .i), .as I .i, .drop, .drop, .drop, .as I .i]), (10, [.as (.sl (.pair I (.pair I .unit))) (.o .i), .as I .i, .drop, .drop, .drop, .as I .i, .as I .i]), (19, [.as (.sl (.pair I (.pair I .unit))) (.o .i), .as I .i]), (7, [.as (.sl (.pair I (.pair I .unit))) (.o .i), .as I .i, .drop, .drop, .drop, .as I .i])]
noncomputable def zz79_R2 (N n : Nat) (K : Ex → St → Option (Int × ((List (Int × (Int × Unit))) × Unit))) (a0 : (List (Int × (Int × Unit)))) (k1 : Int) (i5 : Int) : Option (Int × ((List (Int × (Int × Unit))) × Unit)) := iter ((A_zz79).shape 4) (run (A_zz79) N (codeAt Try.f29 [1, 0, 1, 0, 0])) n ([.val (.sl (.pair I (.pair I .unit))) (.o .i) a0, .val I .i k1, .u, .u, .u, .val I .i i5] ++ List.replicate 20 .u) K
noncomputable def zz79_R5 (N n : Nat) (K : Ex → St → Option (Int × ((List (Int × (Int × Unit))) × Unit))) (a0 : (List (Int × (Int × Unit)))) (k1 : Int) (i5 : Int) (j6 : Int) : Option (Int × ((List (Int × (Int × Unit))) × Unit)) := iter ((A_zz79).shape 10) (run (A_zz79) N (codeAt Try.f29 [1, 0, 1, 0, 0, 1, 0, 0, 1, 0, 0])) n ([.val (.sl (.pair I (.pair I .unit))) (.o .i) a0, .val I .i k1, .u, .u, .u, .val I .i i5, .val I .i j6] ++ List.replicate 19 .u) K
noncomputable abbrev zz79_z : Ex → St → Option (Int × ((List (Int × (Int × Unit))) × Unit)) := finish (A_zz79) S_zz79 Try.f29.results.toList
noncomputable abbrev zz79_X2 (kX : St → Option (Int × ((List (Int × (Int × Unit))) × Unit))) : (List (Int × (Int × Unit))) → Int → Option (Int × ((List (Int × (Int × Unit))) × Unit)) := fun (a0 : (List (Int × (Int × Unit)))) (k1 : Int) => kX ([.val (.sl (.pair I (.pair I .unit))) (.o .i) a0, .val I .i k1] ++ List.replicate 24 .u)
noncomputable abbrev zz79_E2 (kX : St → Option (Int × ((List (Int × (Int × Unit))) × Unit))) (kO : Nat → St → Option (Int × ((List (Int × (Int × Unit))) × Unit))) : Ex → St → Option (Int × ((List (Int × (Int × Unit))) × Unit)) := exK zz79_z 0 ((A_zz79).shape 19) kX kO
noncomputable abbrev zz79_X5 (kX : St → Option (Int × ((List (Int × (Int × Unit))) × Unit))) : (List (Int × (Int × Unit))) → Int → Int → Option (Int × ((List (Int × (Int × Unit))) × Unit)) := fun (a0 : (List (Int × (Int × Unit)))) (k1 : Int) (i5 : Int) => kX ([.val (.sl (.pair I (.pair I .unit))) (.o .i) a0, .val I .i k1, .u, .u, .u, .val I .i i5] ++ List.replicate 20 .u)
noncomputable abbrev zz79_E5 (kX : St → Option (Int × ((List (Int × (Int × Unit))) × Unit))) (kO : Nat → St → Option (Int × ((List (Int × (Int × Unit))) × Unit))) : Ex → St → Option (Int × ((List (Int × (Int × Unit))) × Unit)) := exK zz79_z 2 ((A_zz79).shape 7) kX kO
theorem zz79_step5 (N : Nat) (m : Nat) (kX : St → Option (Int × ((List (Int × (Int × Unit))) × Unit))) (kO : Nat → St → Option (Int × ((List (Int × (Int × Unit))) × Unit))) (a0 : (List (Int × (Int × Unit)))) (k1 : Int) (i5 : Int) (j6 : Int) : zz79_R5 N (m + 1) (zz79_E5 kX kO) a0 k1 i5 j6 = zz79_b5 (zz79_R5 N m (zz79_E5 kX kO)) (zz79_X5 kX) a0 k1 i5 j6 := by kernel_rfl
theorem zz79_iter5 (N : Nat) (kX : St → Option (Int × ((List (Int × (Int × Unit))) × Unit))) (kO : Nat → St → Option (Int × ((List (Int × (Int × Unit))) × Unit))) : ∀ (n : Nat) (a0 : (List (Int × (Int × Unit)))) (k1 : Int) (i5 : Int) (j6 : Int), zz79_R5 N n (zz79_E5 kX kO) a0 k1 i5 j6 = zz79_l5 N (zz79_X5 kX) n a0 k1 i5 j6
  | 0, _, _, _, _ => rfl
  | m + 1, a0, k1, i5, j6 => by
    have hrec : zz79_R5 N m (zz79_E5 kX kO) = (zz79_l5 N (zz79_X5 kX) m) := (funext fun a0 => (funext fun k1 => (funext fun i5 => (funext fun j6 => zz79_iter5 N kX kO m a0 k1 i5 j6))))
    refine (zz79_step5 N m kX kO a0 k1 i5 j6).trans ?_
    rw [hrec]
    rfl
noncomputable abbrev zz79_K5 (N : Nat) (m : Nat) (kX : St → Option (Int × ((List (Int × (Int × Unit))) × Unit))) (kO : Nat → St → Option (Int × ((List (Int × (Int × Unit))) × Unit))) : Ex → St → Option (Int × ((List (Int × (Int × Unit))) × Unit)) := (blockK 2 (blockK 1 (seqK ((A_zz79).shape 7) (run (A_zz79) N (codeAt Try.f29 [1, 0, 1, 0, 0, 1, 1])) (iterK ((A_zz79).shape 4) (run (A_zz79) N (codeAt Try.f29 [1, 0, 1, 0, 0])) m (zz79_E2 kX kO)))))
noncomputable abbrev zz79_k5 (N : Nat) (m : Nat) (kX : St → Option (Int × ((List (Int × (Int × Unit))) × Unit))) (kO : Nat → St → Option (Int × ((List (Int × (Int × Unit))) × Unit))) : St → Option (Int × ((List (Int × (Int × Unit))) × Unit)) := fun st' => run (A_zz79) N (codeAt Try.f29 [1, 0, 1, 0, 0, 1, 1]) st' (iterK ((A_zz79).shape 4) (run (A_zz79) N (codeAt Try.f29 [1, 0, 1, 0, 0])) m (zz79_E2 kX kO))
theorem zz79_after5 (N : Nat) (m : Nat) (kX : St → Option (Int × ((List (Int × (Int × Unit))) × Unit))) (kO : Nat → St → Option (Int × ((List (Int × (Int × Unit))) × Unit))) (a0 : (List (Int × (Int × Unit)))) (k1 : Int) (i5 : Int) : zz79_X5 (zz79_k5 N m kX kO) a0 k1 i5 = zz79_a5 (zz79_R2 N m (zz79_E2 kX kO)) a0 k1 i5 := by kernel_rfl
theorem zz79_in5 (N : Nat) (m : Nat) (kX : St → Option (Int × ((List (Int × (Int × Unit))) × Unit))) (kO : Nat → St → Option (Int × ((List (Int × (Int × Unit))) × Unit))) (recF : (List (Int × (Int × Unit))) → Int → Int → Option (Int × ((List (Int × (Int × Unit))) × Unit))) (hrec : zz79_R2 N m (zz79_E2 kX kO) = recF) (a0 : (List (Int × (Int × Unit)))) (k1 : Int) (i5 : Int) (j6 : Int) : zz79_R5 N N (zz79_K5 N m kX kO) a0 k1 i5 j6 = zz79_F5 N recF (zz79_X2 kX) a0 k1 i5 j6 :=
  have h : zz79_X5 (zz79_k5 N m kX kO) = (zz79_a5 recF) := (funext fun a0 => (funext fun k1 => (funext fun i5 => (zz79_after5 N m kX kO a0 k1 i5).trans (by rw [hrec]))))
  ((iter_ex (fun st => by kernel_rfl) (fun st => by kernel_rfl)).trans (zz79_iter5 N (zz79_k5 N m kX kO) (fun j st => (zz79_K5 N m kX kO) (.exit j) st) N a0 k1 i5 j6)).trans (congrArg (fun k => zz79_l5 N k N a0 k1 i5 j6) h)
theorem zz79_step2 (N : Nat) (m : Nat) (kX : St → Option (Int × ((List (Int × (Int × Unit))) × Unit))) (kO : Nat → St → Option (Int × ((List (Int × (Int × Unit))) × Unit))) (a0 : (List (Int × (Int × Unit)))) (k1 : Int) (i5 : Int) : zz79_R2 N (m + 1) (zz79_E2 kX kO) a0 k1 i5 = zz79_b2 (zz79_R5 N N (zz79_K5 N m kX kO)) (zz79_X2 kX) a0 k1 i5 := by kernel_rfl
theorem zz79_iter2 (N : Nat) (kX : St → Option (Int × ((List (Int × (Int × Unit))) × Unit))) (kO : Nat → St → Option (Int × ((List (Int × (Int × Unit))) × Unit))) : ∀ (n : Nat) (a0 : (List (Int × (Int × Unit)))) (k1 : Int) (i5 : Int), zz79_R2 N n (zz79_E2 kX kO) a0 k1 i5 = zz79_l2 N (zz79_X2 kX) n a0 k1 i5
  | 0, _, _, _ => rfl
  | m + 1, a0, k1, i5 => by
    have hrec : zz79_R2 N m (zz79_E2 kX kO) = (zz79_l2 N (zz79_X2 kX) m) := (funext fun a0 => (funext fun k1 => (funext fun i5 => zz79_iter2 N kX kO m a0 k1 i5)))
    refine (zz79_step2 N m kX kO a0 k1 i5).trans ?_
    rw [(funext fun a0 => (funext fun k1 => (funext fun i5 => (funext fun j6 => zz79_in5 N m kX kO (zz79_l2 N (zz79_X2 kX) m) hrec a0 k1 i5 j6))))]
    rfl
noncomputable abbrev zz79_K2 (N : Nat) : Ex → St → Option (Int × ((List (Int × (Int × Unit))) × Unit)) := (blockK 0 (seqK ((A_zz79).shape 19) (run (A_zz79) N (codeAt Try.f29 [1, 1])) zz79_z))
noncomputable abbrev zz79_k2 (N : Nat) : St → Option (Int × ((List (Int × (Int × Unit))) × Unit)) := fun st' => run (A_zz79) N (codeAt Try.f29 [1, 1]) st' zz79_z
theorem zz79_after2 (N : Nat) (a0 : (List (Int × (Int × Unit)))) (k1 : Int) : zz79_X2 (zz79_k2 N) a0 k1 = zz79_a2 a0 k1 := by kernel_rfl
theorem zz79_in2 (N : Nat) (a0 : (List (Int × (Int × Unit)))) (k1 : Int) (i5 : Int) : zz79_R2 N N (zz79_K2 N) a0 k1 i5 = zz79_F2 N a0 k1 i5 :=
  have h : zz79_X2 (zz79_k2 N) = (zz79_a2) := (funext fun a0 => (funext fun k1 => zz79_after2 N a0 k1))
  ((iter_ex (fun st => by kernel_rfl) (fun st => by kernel_rfl)).trans (zz79_iter2 N (zz79_k2 N) (fun j st => (zz79_K2 N) (.exit j) st) N a0 k1 i5)).trans (congrArg (fun k => zz79_l2 N k N a0 k1 i5) h)
theorem run0_zz79 (N : Nat) (x : (S_zz79).a.den) : runF (A_zz79) N Try.f29 S_zz79 x = (zz79_s (zz79_R2 N N (zz79_K2 N)) x.1 x.2.1) := by kernel_rfl
theorem run_zz79 (N : Nat) (x : (S_zz79).a.den) : runF (A_zz79) N Try.f29 S_zz79 x = zz79 N x.1 x.2.1 := by
  refine (run0_zz79 N x).trans ?_
  rw [(funext fun a0 => (funext fun k1 => (funext fun i5 => zz79_in2 N a0 k1 i5)))]
  rfl
theorem fn_zz79 : FnOk Try.prog 29 := ⟨_, Try.func29, by kernel_rfl, by kernel_rfl⟩
theorem good_zz79 : Gx.Good Try.prog 29 S_zz79 := good_of_run Try.func29 (of_decide_eq_true (by kernel_rfl)) fun x r h => ⟨A_zz79, big, mkCfg_ok tabOk, mkCfg_sigs (show SigsOk Try.prog [] from trivial), (run_zz79 big x).trans h⟩

/-! zz80 -/
def zz80_b5 (rec : (List (Int × (Int × Unit))) → Int → Int → Int → Option (Int × Unit)) (k : (List (Int × (Int × Unit))) → Int → Int → Option (Int × Unit)) (a0 : (List (Int × (Int × Unit)))) (k1 : Int) (i5 : Int) (j6 : Int) : Option (Int × Unit) :=
  cond (decide (j6 < (2 : Int)))
  ((atI a0 i5).bind fun xq1 =>
  cond (decide (j6 = (0 : Int)))
  (cond (decide (xq1.1 ≠ k1))
  (some ((-1 : Int), (())))
  (rec a0 (IntKind.i64.wrap (k1 + (1 : Int))) i5 (IntKind.i64.wrap (j6 + (1 : Int)))))
  (cond (decide (j6 = (1 : Int)))
  (cond (decide (xq1.2.1 ≠ k1))
  (some ((-1 : Int), (())))
  (rec a0 (IntKind.i64.wrap (k1 + (1 : Int))) i5 (IntKind.i64.wrap (j6 + (1 : Int)))))
  (none)))
  (k a0 k1 i5)
def zz80_a5 (rec : (List (Int × (Int × Unit))) → Int → Int → Option (Int × Unit)) (a0 : (List (Int × (Int × Unit)))) (k1 : Int) (i5 : Int) : Option (Int × Unit) :=
  rec a0 k1 (IntKind.i64.wrap (i5 + (1 : Int)))
def zz80_b2 (L5 : (List (Int × (Int × Unit))) → Int → Int → Int → Option (Int × Unit)) (k : Int → Option (Int × Unit)) (a0 : (List (Int × (Int × Unit)))) (k1 : Int) (i5 : Int) : Option (Int × Unit) :=
  cond (decide (i5 < (a0.length : Int)))
  (L5 a0 k1 i5 (0 : Int))
  (k k1)
def zz80_a2 (k1 : Int) : Option (Int × Unit) :=
  some (k1, (()))
def zz80_s (L2 : (List (Int × (Int × Unit))) → Int → Int → Option (Int × Unit)) (a_0 : (List (Int × (Int × Unit)))) (k_1 : Int) : Option (Int × Unit) :=
  L2 a_0 k_1 (0 : Int)
def zz80_l5 (N : Nat) (k : (List (Int × (Int × Unit))) → Int → Int → Option (Int × Unit)) : Nat → (List (Int × (Int × Unit))) → Int → Int → Int → Option (Int × Unit)
  | 0, _, _, _, _ => none
  | m + 1, a0, k1, i5, j6 => zz80_b5 (zz80_l5 N k m) k a0 k1 i5 j6
def zz80_F5 (N : Nat) (rec : (List (Int × (Int × Unit))) → Int → Int → Option (Int × Unit)) (k : Int → Option (Int × Unit)) (a0 : (List (Int × (Int × Unit)))) (k1 : Int) (i5 : Int) (j6 : Int) : Option (Int × Unit) := zz80_l5 N (zz80_a5 rec) N a0 k1 i5 j6
def zz80_l2 (N : Nat) (k : Int → Option (Int × Unit)) : Nat → (List (Int × (Int × Unit))) → Int → Int → Option (Int × Unit)
  | 0, _, _, _ => none
  | m + 1, a0, k1, i5 => zz80_b2 (zz80_F5 N (zz80_l2 N k m) k) k a0 k1 i5
def zz80_F2 (N : Nat) (a0 : (List (Int × (Int × Unit)))) (k1 : Int) (i5 : Int) : Option (Int × Unit) := zz80_l2 N (zz80_a2) N a0 k1 i5
def zz80 (N : Nat) (a_0 : (List (Int × (Int × Unit)))) (k_1 : Int) : Option (Int × Unit) := zz80_s (zz80_F2 N) a_0 k_1
def S_zz80 : Sig := { a := (.pair (.sl (.pair I (.pair I .unit))) (.pair I .unit)), md := [0, 0], mf := [], m := .unit, r := I, rf := .i, f := fun x => zz80 big x.1 x.2.1 }
def A_zz80 : Cfg := mkCfg tab [] [(4, [.as (.sl (.pair I (.pair I .unit))) .i, .as I .i, .drop, .drop, .drop, .as I .i]), (10, [.as (.sl (.pair I (.pair I .unit))) .i, .as I .i, .drop, .drop, .drop, .as I .i, .as I .i]), (21, [.drop, .as I .i]), (7, [.as (.sl (.pair I (.pair I .unit))) .i, .as I .i, .drop, .drop, .drop, .as I .i])]
noncomputable def zz80_R2 (N n : Nat) (K : Ex → St → Option (Int × Unit)) (a0 : (List (Int × (Int × Unit)))) (k1 : Int) (i5 : Int) : Option (Int × Unit) := iter ((A_zz80).shape 4) (run (A_zz80) N (codeAt Try.f30 [1, 0, 1, 0, 0])) n ([.val (.sl (.pair I (.pair I .unit))) .i a0, .val I .i k1, .u, .u, .u, .val I .i i5] ++ List.replicate 22 .u) K
noncomputable def zz80_R5 (N n : Nat) (K : Ex → St → Option (Int × Unit)) (a0 : (List (Int × (Int × Unit)))) (k1 : Int) (i5 : Int) (j6 : Int) : Option (Int × Unit) := iter ((A_zz80).shape 10) (run (A_zz80) N (codeAt Try.f30 [1, 0, 1, 0, 0, 1, 0, 0, 1, 0, 0])) n ([.val (.sl (.pair I (.pair I .unit))) .i a0, .val I .i k1, .u, .u, .u, .val I .i i5, .val I .i j6] ++ List.replicate 21 .u) K
noncomputable abbrev zz80_z : Ex → St → Option (Int × Unit) := finish (A_zz80) S_zz80 Try.f30.results.toList
noncomputable abbrev zz80_X2 (kX : St → Option (Int × Unit)) : Int → Option (Int × Unit) := fun (k1 : Int) => kX ([.u, .val I .i k1] ++ List.replicate 26 .u)
noncomputable abbrev zz80_E2 (kX : St → Option (Int × Unit)) (kO : Nat → St → Option (Int × Unit)) : Ex → St → Option (Int × Unit) := exK zz80_z 0 ((A_zz80).shape 21) kX kO
noncomputable abbrev zz80_X5 (kX : St → Option (Int × Unit)) : (List (Int × (Int × Unit))) → Int → Int → Option (Int × Unit) := fun (a0 : (List (Int × (Int × Unit)))) (k1 : Int) (i5 : Int) => kX ([.val (.sl (.pair I (.pair I .unit))) .i a0, .val I .i k1, .u, .u, .u, .val I .i i5] ++ List.replicate 22 .u)
noncomputable abbrev zz80_E5 (kX : St → Option (Int × Unit)) (kO : Nat → St → Option (Int × Unit)) : Ex → St → Option (Int × Unit) := exK zz80_z 2 ((A_zz80).shape 7) kX kO
theorem zz80_step5 (N : Nat) (m : Nat) (kX : St → Option (Int × Unit)) (kO : Nat → St → Option (Int × Unit)) (a0 : (List (Int × (Int × Unit)))) (k1 : Int) (i5 : Int) (j6 : Int) : zz80_R5 N (m + 1) (zz80_E5 kX kO) a0 k1 i5 j6 = zz80_b5 (zz80_R5 N m (zz80_E5 kX kO)) (zz80_X5 kX) a0 k1 i5 j6 := by kernel_rfl
theorem zz80_iter5 (N : Nat) (kX : St → Option (Int × Unit)) (kO : Nat → St → Option (Int × Unit)) : ∀ (n : Nat) (a0 : (List (Int × (Int × Unit)))) (k1 : Int) (i5 : Int) (j6 : Int), zz80_R5 N n (zz80_E5 kX kO) a0 k1 i5 j6 = zz80_l5 N (zz80_X5 kX) n a0 k1 i5 j6
  | 0, _, _, _, _ => rfl
  | m + 1, a0, k1, i5, j6 => by
    have hrec : zz80_R5 N m (zz80_E5 kX kO) = (zz80_l5 N (zz80_X5 kX) m) := (funext fun a0 => (funext fun k1 => (funext fun i5 => (funext fun j6 => zz80_iter5 N kX kO m a0 k1 i5 j6))))
    refine (zz80_step5 N m kX kO a0 k1 i5 j6).trans ?_
    rw [hrec]
    rfl
noncomputable abbrev zz80_K5 (N : Nat) (m : Nat) (kX : St → Option (Int × Unit)) (kO : Nat → St → Option (Int × Unit)) : Ex → St → Option (Int × Unit) := (blockK 2 (blockK 1 (seqK ((A_zz80).shape 7) (run (A_zz80) N (codeAt Try.f30 [1, 0, 1, 0, 0, 1, 1])) (iterK ((A_zz80).shape 4) (run (A_zz80) N (codeAt Try.f30 [1, 0, 1, 0, 0])) m (zz80_E2 kX kO)))))
noncomputable abbrev zz80_k5 (N : Nat) (m : Nat) (kX : St → Option (Int × Unit)) (kO : Nat → St → Option (Int × Unit)) : St → Option (Int × Unit) := fun st' => run (A_zz80) N (codeAt Try.f30 [1, 0, 1, 0, 0, 1, 1]) st' (iterK ((A_zz80).shape 4) (run (A_zz80) N (codeAt Try.f30 [1, 0, 1, 0, 0])) m (zz80_E2 kX kO))
theorem zz80_after5 (N : Nat) (m : Nat) (kX : St → Option (Int × Unit)) (kO : Nat → St → Option (Int × Unit)) (a0 : (List (Int × (Int × Unit)))) (k1 : Int) (i5 : Int) : zz80_X5 (zz80_k5 N m kX kO) a0 k1 i5 = zz80_a5 (zz80_R2 N m (zz80_E2 kX kO)) a0 k1 i5 := by kernel_rfl
theorem zz80_in5 (N : Nat) (m : Nat) (kX : St → Option (Int × Unit)) (kO : Nat → St → Option (Int × Unit)) (recF : (List (Int × (Int × Unit))) → Int → Int → Option (Int × Unit)) (hrec : zz80_R2 N m (zz80_E2 kX kO) = recF) (a0 : (List (Int × (Int × Unit)))) (k1 : Int) (i5 : Int) (j6 : Int) : zz80_R5 N N (zz80_K5 N m kX kO) a0 k1 i5 j6 = zz80_F5 N recF (zz80_X2 kX) a0 k1 i5 j6 :=
  have h : zz80_X5 (zz80_k5 N m kX kO) = (zz80_a5 recF) := (funext fun a0 => (funext fun k1 => (funext fun i5 => (zz80_after5 N m kX kO a0 k1 i5).trans (by rw [hrec]))))
  ((iter_ex (fun st => by kernel_rfl) (fun st => by kernel_rfl)).trans (zz80_iter5 N (zz80_k5 N m kX kO) (fun j st => (zz80_K5 N m kX kO) (.exit j) st) N a0 k1 i5 j6)).trans (congrArg (fun k => zz80_l5 N k N a0 k1 i5 j6) h)
theorem zz80_step2 (N : Nat) (m : Nat) (kX : St → Option (Int × Unit)) (kO : Nat → St → Option (Int × Unit)) (a0 : (List (Int × (Int × Unit)))) (k1 : Int) (i5 : Int) : zz80_R2 N (m + 1) (zz80_E2 kX kO) a0 k1 i5 = zz80_b2 (zz80_R5 N N (zz80_K5 N m kX kO)) (zz80_X2 kX) a0 k1 i5 := by kernel_rfl
theorem zz80_iter2 (N : Nat) (kX : St → Option (Int × Unit)) (kO : Nat → St → Option (Int × Unit)) : ∀ (n : Nat) (a0 : (List (Int × (Int × Unit)))) (k1 : Int) (i5 : Int), zz80_R2 N n (zz80_E2 kX kO) a0 k1 i5 = zz80_l2 N (zz80_X2 kX) n a0 k1 i5
  | 0, _, _, _ => rfl
  | m + 1, a0, k1, i5 => by
    have hrec : zz80_R2 N m (zz80_E2 kX kO) = (zz80_l2 N (zz80_X2 kX) m) := (funext fun a0 => (funext fun k1 => (funext fun i5 => zz80_iter2 N kX kO m a0 k1 i5)))
    refine (zz80_step2 N m kX kO a0 k1 i5).trans ?_
    rw [(funext fun a0 => (funext fun k1 => (funext fun i5 => (funext fun j6 => zz80_in5 N m kX kO (zz80_l2 N (zz80_X2 kX) m) hrec a0 k1 i5 j6))))]
    rfl
noncomputable abbrev zz80_K2 (N : Nat) : Ex → St → Option (Int × Unit) := (blockK 0 (seqK ((A_zz80).shape 21) (run (A_zz80) N (codeAt Try.f30 [1, 1])) zz80_z))
noncomputable abbrev zz80_k2 (N : Nat) : St → Option (Int × Unit) := fun st' => run (A_zz80) N (codeAt Try.f30 [1, 1]) st' zz80_z
theorem zz80_after2 (N : Nat) (k1 : Int) : zz80_X2 (zz80_k2 N) k1 = zz80_a2 k1 := by kernel_rfl
theorem zz80_in2 (N : Nat) (a0 : (List (Int × (Int × Unit)))) (k1 : Int) (i5 : Int) : zz80_R2 N N (zz80_K2 N) a0 k1 i5 = zz80_F2 N a0 k1 i5 :=
  have h : zz80_X2 (zz80_k2 N) = (zz80_a2) := (funext fun k1 => zz80_after2 N k1)
  ((iter_ex (fun st => by kernel_rfl) (fun st => by kernel_rfl)).trans (zz80_iter2 N (zz80_k2 N) (fun j st => (zz80_K2 N) (.exit j) st) N a0 k1 i5)).trans (congrArg (fun k => zz80_l2 N k N a0 k1 i5) h)
theorem run0_zz80 (N : Nat) (x : (S_zz80).a.den) : runF (A_zz80) N Try.f30 S_zz80 x = (zz80_s (zz80_R2 N N (zz80_K2 N)) x.1 x.2.1) := by kernel_rfl
theorem run_zz80 (N : Nat) (x : (S_zz80).a.den) : runF (A_zz80) N Try.f30 S_zz80 x = zz80 N x.1 x.2.1 := by
  refine (run0_zz80 N x).trans ?_
  rw [(funext fun a0 => (funext fun k1 => (funext fun i5 => zz80_in2 N a0 k1 i5)))]
  rfl
theorem fn_zz80 : FnOk Try.prog 30 := ⟨_, Try.func30, by kernel_rfl, by kernel_rfl⟩
theorem good_zz80 : Gx.Good Try.prog 30 S_zz80 := good_of_run Try.func30 (of_decide_eq_true (by kernel_rfl)) fun x r h => ⟨A_zz80, big, mkCfg_ok tabOk, mkCfg_sigs (show SigsOk Try.prog [] from trivial), (run_zz80 big x).trans h⟩

/-! laws_FnExactForcingPairs -/
def laws_FnExactForcingPairs_s (aP_0 : Y2) : Option (Bool × Unit) :=
  (zz2 aP_0 (1048576 : Int)).bind fun rq1 =>
  cond (decide (rq1.1 < (0 : Int)))
  (some (true, (())))
  ((zz5 aP_0).bind fun rq2 =>
  (zz72 big rq2.1).bind fun rq3 =>
  (zz5 aP_0).bind fun rq4 =>
  (zz73 big rq4.1).bind fun rq5 =>
  (zz75 big rq5.1.1 rq3.1.1).bind fun rq6 =>
  cond (!rq6.1)
  (some (false, (())))
  (cond (((((), rq5.1.2).2).1) != ((((), rq3.1.2).2).1))
  (some (false, (())))
  ((zz5 aP_0).bind fun rq7 =>
  (zz71 rq4.1 rq7.1).bind fun rq8 =>
  cond (!rq8.1)
  (some (false, (())))
  ((zz78 rq4.1 (1 : Int)).bind fun rq9 =>
  cond (decide (rq9.1 < (0 : Int)))
  (some (false, (())))
  ((zz75 big rq5.1.1 rq3.1.1).bind fun rq10 =>
  cond (!rq10.1)
  (some (false, (())))
  (cond (((((), rq5.1.2).2).1) != ((((), rq3.1.2).2).1))
  (some (false, (())))
  ((zz79 big rq5.1.1 (1 : Int)).bind fun rq11 =>
  (zz80 big rq11.2.1 (1 : Int)).bind fun rq12 =>
  cond (decide (rq12.1 < (0 : Int)))
  (some (false, (())))
  (cond (decide (rq12.1 ≠ rq11.1))
  (some (false, (())))
  ((zz5 aP_0).bind fun rq13 =>
  (zz73 big rq13.1).bind fun rq14 =>
  (zz75 big rq14.1.1 rq3.1.1).bind fun rq15 =>
  cond (!rq15.1)
  (some (false, (())))
  (cond (((((), rq14.1.2).2).1) != ((((), rq3.1.2).2).1))
  (some (false, (())))
  ((zz80 big rq11.2.1 (1 : Int)).bind fun rq16 =>
  cond (decide (rq16.1 < (0 : Int)))
  (some (false, (())))
  (cond (decide (rq16.1 ≠ rq11.1))
  (some (false, (())))
  (some (true, (())))))))))))))))
def laws_FnExactForcingPairs (aP_0 : Y2) : Option (Bool × Unit) := laws_FnExactForcingPairs_s aP_0
def S_laws_FnExactForcingPairs : Sig := { a := (.pair (.pair (.sl (.sl I)) .unit) .unit), md := [0], mf := [], m := .unit, r := .bool, rf := .i, f := fun x => laws_FnExactForcingPairs x.1 }
def A_laws_FnExactForcingPairs : Cfg := mkCfg tab [(9, S_zz2), (11, S_zz5), (26, S_zz72), (27, S_zz73), (28, S_zz75), (14, S_zz71), (15, S_zz78), (29, S_zz79), (30, S_zz80)] []
theorem run_laws_FnExactForcingPairs (N : Nat) (x : (S_laws_FnExactForcingPairs).a.den) : runF (A_laws_FnExactForcingPairs) N Try.f6 S_laws_FnExactForcingPairs x = laws_FnExactForcingPairs x.1 := by kernel_rfl
theorem fn_laws_FnExactForcingPairs : FnOk Try.prog 6 := ⟨_, Try.func6, by kernel_rfl, by kernel_rfl⟩
theorem good_laws_FnExactForcingPairs : Gx.Good Try.prog 6 S_laws_FnExactForcingPairs := good_of_run Try.func6 (of_decide_eq_true (by kernel_rfl)) fun x r h => ⟨A_laws_FnExactForcingPairs, big, mkCfg_ok tabOk, mkCfg_sigs (show SigsOk Try.prog [(9, S_zz2), (11, S_zz5), (26, S_zz72), (27, S_zz73), (28, S_zz75), (14, S_zz71), (15, S_zz78), (29, S_zz79), (30, S_zz80)] from ⟨⟨fn_zz2, good_zz2⟩, ⟨fn_zz5, good_zz5⟩, ⟨fn_zz72, good_zz72⟩, ⟨fn_zz73, good_zz73⟩, ⟨fn_zz75, good_zz75⟩, ⟨fn_zz71, good_zz71⟩, ⟨fn_zz78, good_zz78⟩, ⟨fn_zz79, good_zz79⟩, ⟨fn_zz80, good_zz80⟩, trivial⟩), (run_laws_FnExactForcingPairs big x).trans h⟩

/-! zz81 -/
def zz81_b2 (rec : Y4 → Y4 → Int → Option (Bool × Unit)) (k : Option (Bool × Unit)) (a0 : Y4) (b1 : Y4) (i5 : Int) : Option (Bool × Unit) :=
  cond (decide (i5 < (a0.length : Int)))
  ((atI a0 i5).bind fun xq1 =>
  (atI b1 i5).bind fun xq2 =>
  cond (decide (xq1 ≠ xq2))
  ((atI a0 i5).bind fun xq3 =>
  (atI b1 i5).bind fun xq4 =>
  some (decide (xq3 < xq4), (())))
  (rec a0 b1 (IntKind.i64.wrap (i5 + (1 : Int)))))
  (k)
def zz81_a2 : Option (Bool × Unit) :=
  some (false, (()))
def zz81_s (L2 : Y4 → Y4 → Int → Option (Bool × Unit)) (a_0 : Y4) (b_1 : Y4) : Option (Bool × Unit) :=
  L2 a_0 b_1 (0 : Int)
def zz81_l2 (N : Nat) (k : Option (Bool × Unit)) : Nat → Y4 → Y4 → Int → Option (Bool × Unit)
  | 0, _, _, _ => none
  | m + 1, a0, b1, i5 => zz81_b2 (zz81_l2 N k m) k a0 b1 i5
def zz81_F2 (N : Nat) (a0 : Y4) (b1 : Y4) (i5 : Int) : Option (Bool × Unit) := zz81_l2 N (zz81_a2) N a0 b1 i5
def zz81 (N : Nat) (a_0 : Y4) (b_1 : Y4) : Option (Bool × Unit) := zz81_s (zz81_F2 N) a_0 b_1
def S_zz81 : Sig := { a := (.pair (.sl I) (.pair (.sl I) .unit)), md := [0, 0], mf := [], m := .unit, r := .bool, rf := .i, f := fun x => zz81 big x.1 x.2.1 }
def A_zz81 : Cfg := mkCfg tab [] [(4, [.as (.sl I) .i, .as (.sl I) .i, .drop, .drop, .drop, .as I .i]), (13, [])]
noncomputable def zz81_R2 (N n : Nat) (K : Ex → St → Option (Bool × Unit)) (a0 : Y4) (b1 : Y4) (i5 : Int) : Option (Bool × Unit) := iter ((A_zz81).shape 4) (run (A_zz81) N (codeAt Try.f143 [1, 0, 1, 0, 0])) n ([.val (.sl I) .i a0, .val (.sl I) .i b1, .u, .u, .u, .val I .i i5] ++ List.replicate 24 .u) K
noncomputable abbrev zz81_z : Ex → St → Option (Bool × Unit) := finish (A_zz81) S_zz81 Try.f143.results.toList
noncomputable abbrev zz81_X2 (kX : St → Option (Bool × Unit)) : Option (Bool × Unit) := kX ([] ++ List.replicate 30 .u)
noncomputable abbrev zz81_E2 (kX : St → Option (Bool × Unit)) (kO : Nat → St → Option (Bool × Unit)) : Ex → St → Option (Bool × Unit) := exK zz81_z 0 ((A_zz81).shape 13) kX kO
theorem zz81_step2 (N : Nat) (m : Nat) (kX : St → Option (Bool × Unit)) (kO : Nat → St → Option (Bool × Unit)) (a0 : Y4) (b1 : Y4) (i5 : Int) : zz81_R2 N (m + 1) (zz81_E2 kX kO) a0 b1 i5 = zz81_b2 (zz81_R2 N m (zz81_E2 kX kO)) (zz81_X2 kX) a0 b1 i5 := by kernel_rfl
theorem zz81_iter2 (N : Nat) (kX : St → Option (Bool × Unit)) (kO : Nat → St → Option (Bool × Unit)) : ∀ (n : Nat) (a0 : Y4) (b1 : Y4) (i5 : Int), zz81_R2 N n (zz81_E2 kX kO) a0 b1 i5 = zz81_l2 N (zz81_X2 kX) n a0 b1 i5
  | 0, _, _, _ => rfl
  | m + 1, a0, b1, i5 => by
    have hrec : zz81_R2 N m (zz81_E2 kX kO) = (zz81_l2 N (zz81_X2 kX) m) := (funext fun a0 => (funext fun b1 => (funext fun i5 => zz81_iter2 N kX kO m a0 b1 i5)))
    refine (zz81_step2 N m kX kO a0 b1 i5).trans ?_
    rw [hrec]
    rfl
noncomputable abbrev zz81_K2 (N : Nat) : Ex → St → Option (Bool × Unit) := (blockK 0 (seqK ((A_zz81).shape 13) (run (A_zz81) N (codeAt Try.f143 [1, 1])) zz81_z))
noncomputable abbrev zz81_k2 (N : Nat) : St → Option (Bool × Unit) := fun st' => run (A_zz81) N (codeAt Try.f143 [1, 1]) st' zz81_z
theorem zz81_after2 (N : Nat) : zz81_X2 (zz81_k2 N) = zz81_a2 := by kernel_rfl
theorem zz81_in2 (N : Nat) (a0 : Y4) (b1 : Y4) (i5 : Int) : zz81_R2 N N (zz81_K2 N) a0 b1 i5 = zz81_F2 N a0 b1 i5 :=
  have h : zz81_X2 (zz81_k2 N) = (zz81_a2) := zz81_after2 N
  ((iter_ex (fun st => by kernel_rfl) (fun st => by kernel_rfl)).trans (zz81_iter2 N (zz81_k2 N) (fun j st => (zz81_K2 N) (.exit j) st) N a0 b1 i5)).trans (congrArg (fun k => zz81_l2 N k N a0 b1 i5) h)
theorem run0_zz81 (N : Nat) (x : (S_zz81).a.den) : runF (A_zz81) N Try.f143 S_zz81 x = (zz81_s (zz81_R2 N N (zz81_K2 N)) x.1 x.2.1) := by kernel_rfl
theorem run_zz81 (N : Nat) (x : (S_zz81).a.den) : runF (A_zz81) N Try.f143 S_zz81 x = zz81 N x.1 x.2.1 := by
  refine (run0_zz81 N x).trans ?_
  rw [(funext fun a0 => (funext fun b1 => (funext fun i5 => zz81_in2 N a0 b1 i5)))]
  rfl
theorem fn_zz81 : FnOk Try.prog 143 := ⟨_, Try.func143, by kernel_rfl, by kernel_rfl⟩
theorem good_zz81 : Gx.Good Try.prog 143 S_zz81 := good_of_run Try.func143 (of_decide_eq_true (by kernel_rfl)) fun x r h => ⟨A_zz81, big, mkCfg_ok tabOk, mkCfg_sigs (show SigsOk Try.prog [] from trivial), (run_zz81 big x).trans h⟩

/-! zz82 -/
def zz82_b2 (rec : Y3 → Y4 → Int → Option Y2) (k : Y3 → Y4 → Int → Option Y2) (lists0 : Y3) (l1 : Y4) (k5 : Int) : Option Y2 :=
  cond (decide ((0 : Int) < k5))
  ((atI lists0 (IntKind.i64.wrap (k5 - (1 : Int)))).bind fun xq1 =>
  cond (decide ((l1.length : Int) < (xq1.length : Int)))
  (rec lists0 l1 (IntKind.i64.wrap (k5 - (1 : Int))))
  ((atI lists0 (IntKind.i64.wrap (k5 - (1 : Int)))).bind fun xq2 =>
  cond (decide ((l1.length : Int) = (xq2.length : Int)))
  ((atI lists0 (IntKind.i64.wrap (k5 - (1 : Int)))).bind fun xq3 =>
  (zz81 big l1 xq3).bind fun rq4 =>
  cond rq4.1
  (rec lists0 l1 (IntKind.i64.wrap (k5 - (1 : Int))))
  (k lists0 l1 k5))
  (k lists0 l1 k5)))
  (k lists0 l1 k5)
def zz82_a2 (lists0 : Y3) (l1 : Y4) (k5 : Int) : Option Y2 :=
  (slI lists0 0 k5).bind fun xq5 =>
  (appI [] xq5).bind fun xq6 =>
  (appI xq6 [l1]).bind fun xq7 =>
  (slI lists0 k5 lists0.length).bind fun xq8 =>
  (appI xq7 xq8).bind fun xq9 =>
  some (xq9, (()))
def zz82_s (L2 : Y3 → Y4 → Int → Option Y2) (lists_0 : Y3) (l_1 : Y4) : Option Y2 :=
  L2 lists_0 l_1 (lists_0.length : Int)
def zz82_l2 (N : Nat) (k : Y3 → Y4 → Int → Option Y2) : Nat → Y3 → Y4 → Int → Option Y2
  | 0, _, _, _ => none
  | m + 1, lists0, l1, k5 => zz82_b2 (zz82_l2 N k m) k lists0 l1 k5
def zz82_F2 (N : Nat) (lists0 : Y3) (l1 : Y4) (k5 : Int) : Option Y2 := zz82_l2 N (zz82_a2) N lists0 l1 k5
def zz82 (N : Nat) (lists_0 : Y3) (l_1 : Y4) : Option Y2 := zz82_s (zz82_F2 N) lists_0 l_1
def S_zz82 : Sig := { a := (.pair (.sl (.sl I)) (.pair (.sl I) .unit)), md := [0, 0], mf := [], m := .unit, r := (.sl (.sl I)), rf := .i, f := fun x => zz82 big x.1 x.2.1 }
def A_zz82 : Cfg := mkCfg tab [(143, S_zz81)] [(4, [.as (.sl (.sl I)) .i, .as (.sl I) .i, .drop, .drop, .drop, .as I .i]), (9, [.as (.sl (.sl I)) .i, .as (.sl I) .i, .drop, .drop, .drop, .as I .i])]
noncomputable def zz82_R2 (N n : Nat) (K : Ex → St → Option Y2) (lists0 : Y3) (l1 : Y4) (k5 : Int) : Option Y2 := iter ((A_zz82).shape 4) (run (A_zz82) N (codeAt Try.f114 [1, 1, 0, 0, 0])) n ([.val (.sl (.sl I)) .i lists0, .val (.sl I) .i l1, .u, .u, .u, .val I .i k5] ++ List.replicate 49 .u) K
noncomputable abbrev zz82_z : Ex → St → Option Y2 := finish (A_zz82) S_zz82 Try.f114.results.toList
noncomputable abbrev zz82_X2 (kX : St → Option Y2) : Y3 → Y4 → Int → Option Y2 := fun (lists0 : Y3) (l1 : Y4) (k5 : Int) => kX ([.val (.sl (.sl I)) .i lists0, .val (.sl I) .i l1, .u, .u, .u, .val I .i k5] ++ List.replicate 49 .u)
noncomputable abbrev zz82_E2 (kX : St → Option Y2) (kO : Nat → St → Option Y2) : Ex → St → Option Y2 := exK zz82_z 0 ((A_zz82).shape 9) kX kO
theorem zz82_step2 (N : Nat) (m : Nat) (kX : St → Option Y2) (kO : Nat → St → Option Y2) (lists0 : Y3) (l1 : Y4) (k5 : Int) : zz82_R2 N (m + 1) (zz82_E2 kX kO) lists0 l1 k5 = zz82_b2 (zz82_R2 N m (zz82_E2 kX kO)) (zz82_X2 kX) lists0 l1 k5 := by kernel_rfl
theorem zz82_iter2 (N : Nat) (kX : St → Option Y2) (kO : Nat → St → Option Y2) : ∀ (n : Nat) (lists0 : Y3) (l1 : Y4) (k5 : Int), zz82_R2 N n (zz82_E2 kX kO) lists0 l1 k5 = zz82_l2 N (zz82_X2 kX) n lists0 l1 k5
  | 0, _, _, _ => rfl
  | m + 1, lists0, l1, k5 => by
    have hrec : zz82_R2 N m (zz82_E2 kX kO) = (zz82_l2 N (zz82_X2 kX) m) := (funext fun lists0 => (funext fun l1 => (funext fun k5 => zz82_iter2 N kX kO m lists0 l1 k5)))
    refine (zz82_step2 N m kX kO lists0 l1 k5).trans ?_
    rw [hrec]
    rfl
noncomputable abbrev zz82_K2 (N : Nat) : Ex → St → Option Y2 := (blockK 0 (seqK ((A_zz82).shape 9) (run (A_zz82) N (codeAt Try.f114 [1, 1, 1])) zz82_z))
noncomputable abbrev zz82_k2 (N : Nat) : St → Option Y2 := fun st' => run (A_zz82) N (codeAt Try.f114 [1, 1, 1]) st' zz82_z
theorem zz82_after2 (N : Nat) (lists0 : Y3) (l1 : Y4) (k5 : Int) : zz82_X2 (zz82_k2 N) lists0 l1 k5 = zz82_a2 lists0 l1 k5 := by kernel_rfl
theorem zz82_in2 (N : Nat) (lists0 : Y3) (l1 : Y4) (k5 : Int) : zz82_R2 N N (zz82_K2 N) lists0 l1 k5 = zz82_F2 N lists0 l1 k5 :=
  have h : zz82_X2 (zz82_k2 N) = (zz82_a2) := (funext fun lists0 => (funext fun l1 => (funext fun k5 => zz82_after2 N lists0 l1 k5)))
  ((iter_ex (fun st => by kernel_rfl) (fun st => by kernel_rfl)).trans (zz82_iter2 N (zz82_k2 N) (fun j st => (zz82_K2 N) (.exit j) st) N lists0 l1 k5)).trans (congrArg (fun k => zz82_l2 N k N lists0 l1 k5) h)
theorem run0_zz82 (N : Nat) (x : (S_zz82).a.den) : runF (A_zz82) N Try.f114 S_zz82 x = (zz82_s (zz82_R2 N N (zz82_K2 N)) x.1 x.2.1) := by kernel_rfl
theorem run_zz82 (N : Nat) (x : (S_zz82).a.den) : runF (A_zz82) N Try.f114 S_zz82 x = zz82 N x.1 x.2.1 := by
  refine (run0_zz82 N x).trans ?_
  rw [(funext fun lists0 => (funext fun l1 => (funext fun k5 => zz82_in2 N lists0 l1 k5)))]
  rfl
theorem fn_zz82 : FnOk Try.prog 114 := ⟨_, Try.func114, by kernel_rfl, by kernel_rfl⟩
theorem good_zz82 : Gx.Good Try.prog 114 S_zz82 := good_of_run Try.func114 (of_decide_eq_true (by kernel_rfl)) fun x r h => ⟨A_zz82, big, mkCfg_ok tabOk, mkCfg_sigs (show SigsOk Try.prog [(143, S_zz81)] from ⟨⟨fn_zz81, good_zz81⟩, trivial⟩), (run_zz82 big x).trans h⟩

/-! zz83 -/
def zz83_b18 (rec : Y4 → Y3 → Y3 → Int → Y4 → Bool → Int → Option Y2) (k : Y4 → Y3 → Y3 → Int → Y4 → Bool → Option Y2) (all3 : Y4) (forced4 : Y3) (out6 : Y3) (bits7 : Int) (set8 : Y4) (good9 : Bool) (i11 : Int) : Option Y2 :=
  cond (decide (i11 < (all3.length : Int)))
  (cond good9
  ((shrI IntKind.i64 bits7 i11).bind fun xq9 =>
  cond (decide ((bitI .and IntKind.i64 xq9 (1 : Int)) = (0 : Int)))
  (rec all3 forced4 out6 bits7 set8 true (IntKind.i64.wrap (i11 + (1 : Int))))
  ((atI forced4 i11).bind fun _ =>
  (forced4[i11.toNat]?).bind fun xq10 =>
  (forced4[i11.toNat]?).bind fun xq11 =>
  (zz9 big xq11 set8).bind fun rq12 =>
  rec all3 forced4 out6 bits7 set8 rq12.1 (IntKind.i64.wrap (i11 + (1 : Int)))))
  (rec all3 forced4 out6 bits7 set8 false (IntKind.i64.wrap (i11 + (1 : Int)))))
  (k all3 forced4 out6 bits7 set8 good9)
def zz83_a18 (rec : Y4 → Y3 → Y3 → Int → Option Y2) (all3 : Y4) (forced4 : Y3) (out6 : Y3) (bits7 : Int) (set8 : Y4) (good9 : Bool) : Option Y2 :=
  cond good9
  ((zz82 big out6 set8).bind fun rq13 =>
  rec all3 forced4 rq13.1 (IntKind.i64.wrap (bits7 + (1 : Int))))
  (rec all3 forced4 out6 (IntKind.i64.wrap (bits7 + (1 : Int))))
def zz83_b13 (rec : Y4 → Y3 → Y3 → Int → Y4 → Bool → Int → Option Y2) (k : Y4 → Y3 → Y3 → Int → Y4 → Bool → Option Y2) (all3 : Y4) (forced4 : Y3) (out6 : Y3) (bits7 : Int) (set8 : Y4) (good9 : Bool) (i10 : Int) : Option Y2 :=
  cond (decide (i10 < (all3.length : Int)))
  ((shrI IntKind.i64 bits7 i10).bind fun xq6 =>
  cond (decide ((bitI .and IntKind.i64 xq6 (1 : Int)) = (1 : Int)))
  ((atI all3 i10).bind fun _ =>
  (all3[i10.toNat]?).bind fun xq7 =>
  (appI set8 [xq7]).bind fun xq8 =>
  rec all3 forced4 out6 bits7 xq8 good9 (IntKind.i64.wrap (i10 + (1 : Int))))
  (rec all3 forced4 out6 bits7 set8 good9 (IntKind.i64.wrap (i10 + (1 : Int)))))
  (k all3 forced4 out6 bits7 set8 good9)
def zz83_a13 (L18 : Y4 → Y3 → Y3 → Int → Y4 → Bool → Int → Option Y2) (all3 : Y4) (forced4 : Y3) (out6 : Y3) (bits7 : Int) (set8 : Y4) (good9 : Bool) : Option Y2 :=
  L18 all3 forced4 out6 bits7 set8 good9 (0 : Int)
def zz83_b9 (L13 : Y4 → Y3 → Y3 → Int → Y4 → Bool → Int → Option Y2) (k : Y3 → Option Y2) (all3 : Y4) (forced4 : Y3) (out6 : Y3) (bits7 : Int) : Option Y2 :=
  (shlI IntKind.i64 (1 : Int) (all3.length : Int)).bind fun xq5 =>
  cond (decide (bits7 < xq5))
  (L13 all3 forced4 out6 bits7 [] true (0 : Int))
  (k out6)
def zz83_a9 (out6 : Y3) : Option Y2 :=
  some (out6, (()))
def zz83_b4 (rec : Y2 → Y4 → Y3 → Int → Option Y2) (k : Y4 → Y3 → Option Y2) (p1 : Y2) (all3 : Y4) (forced4 : Y3) (i5 : Int) : Option Y2 :=
  cond (decide (i5 < (all3.length : Int)))
  ((atI all3 i5).bind fun _ =>
  (all3[i5.toNat]?).bind fun xq2 =>
  (zz33 p1 xq2).bind fun rq3 =>
  (appI forced4 [rq3.1]).bind fun xq4 =>
  rec p1 all3 xq4 (IntKind.i64.wrap (i5 + (1 : Int))))
  (k all3 forced4)
def zz83_a4 (L9 : Y4 → Y3 → Y3 → Int → Option Y2) (all3 : Y4) (forced4 : Y3) : Option Y2 :=
  L9 all3 forced4 [] (0 : Int)
def zz83_s (L4 : Y2 → Y4 → Y3 → Int → Option Y2) (p_0 : Y2) : Option Y2 :=
  (zz18 big p_0).bind fun rq1 =>
  L4 p_0 rq1.1 [] (0 : Int)
def zz83_l13 (N : Nat) (k : Y4 → Y3 → Y3 → Int → Y4 → Bool → Option Y2) : Nat → Y4 → Y3 → Y3 → Int → Y4 → Bool → Int → Option Y2
  | 0, _, _, _, _, _, _, _ => none
  | m + 1, all3, forced4, out6, bits7, set8, good9, i10 => zz83_b13 (zz83_l13 N k m) k all3 forced4 out6 bits7 set8 good9 i10
def zz83_l18 (N : Nat) (k : Y4 → Y3 → Y3 → Int → Y4 → Bool → Option Y2) : Nat → Y4 → Y3 → Y3 → Int → Y4 → Bool → Int → Option Y2
  | 0, _, _, _, _, _, _, _ => none
  | m + 1, all3, forced4, out6, bits7, set8, good9, i11 => zz83_b18 (zz83_l18 N k m) k all3 forced4 out6 bits7 set8 good9 i11
def zz83_F18 (N : Nat) (rec : Y4 → Y3 → Y3 → Int → Option Y2) (k : Y3 → Option Y2) (all3 : Y4) (forced4 : Y3) (out6 : Y3) (bits7 : Int) (set8 : Y4) (good9 : Bool) (i11 : Int) : Option Y2 := zz83_l18 N (zz83_a18 rec) N all3 forced4 out6 bits7 set8 good9 i11
def zz83_F13 (N : Nat) (rec : Y4 → Y3 → Y3 → Int → Option Y2) (k : Y3 → Option Y2) (all3 : Y4) (forced4 : Y3) (out6 : Y3) (bits7 : Int) (set8 : Y4) (good9 : Bool) (i10 : Int) : Option Y2 := zz83_l13 N (zz83_a13 (zz83_F18 N rec k)) N all3 forced4 out6 bits7 set8 good9 i10
def zz83_l4 (N : Nat) (k : Y4 → Y3 → Option Y2) : Nat → Y2 → Y4 → Y3 → Int → Option Y2
  | 0, _, _, _, _ => none
  | m + 1, p1, all3, forced4, i5 => zz83_b4 (zz83_l4 N k m) k p1 all3 forced4 i5
def zz83_l9 (N : Nat) (k : Y3 → Option Y2) : Nat → Y4 → Y3 → Y3 → Int → Option Y2
  | 0, _, _, _, _ => none
  | m + 1, all3, forced4, out6, bits7 => zz83_b9 (zz83_F13 N (zz83_l9 N k m) k) k all3 forced4 out6 bits7
def zz83_F9 (N : Nat) (all3 : Y4) (forced4 : Y3) (out6 : Y3) (bits7 : Int) : Option Y2 := zz83_l9 N (zz83_a9) N all3 forced4 out6 bits7
def zz83_F4 (N : Nat) (p1 : Y2) (all3 : Y4) (forced4 : Y3) (i5 : Int) : Option Y2 := zz83_l4 N (zz83_a4 (zz83_F9 N)) N p1 all3 forced4 i5
def zz83 (N : Nat) (p_0 : Y2) : Option Y2 := zz83_s (zz83_F4 N) p_0
def S_zz83 : Sig := { a := (.pair (.pair (.sl (.sl I)) .unit) .unit), md := [0], mf := [], m := .unit, r := (.sl (.sl I)), rf := .i, f := fun x => zz83 big x.1 }
def A_zz83 : Cfg := mkCfg tab [(61, S_zz18), (50, S_zz33), (113, S_zz9), (114, S_zz82)] [(8, [.drop, .as (.ptr (.pair (.sl (.sl I)) .unit)) (.o .i), .drop, .as (.sl I) (.o .i), .as (.sl (.sl I)) (.o (.o .i)), .as I .i]), (15, [.drop, .drop, .drop, .as (.sl I) (.o .i), .as (.sl (.sl I)) (.o (.o .i))]), (18, [.drop, .drop, .drop, .as (.sl I) (.o .i), .as (.sl (.sl I)) (.o (.o .i)), .drop, .as (.sl (.sl I)) .i, .as I .i]), (26, [.drop, .drop, .drop, .as (.sl I) (.o .i), .as (.sl (.sl I)) (.o (.o .i)), .drop, .as (.sl (.sl I)) .i, .as I .i, .as (.sl I) (.o .i), .as .bool .i, .as I .i]), (47, [.drop, .drop, .drop, .drop, .drop, .drop, .as (.sl (.sl I)) .i]), (35, [.drop, .drop, .drop, .as (.sl I) (.o .i), .as (.sl (.sl I)) (.o (.o .i)), .drop, .as (.sl (.sl I)) .i, .as I .i, .as (.sl I) (.o .i), .as .bool .i]), (36, [.drop, .drop, .drop, .as (.sl I) (.o .i), .as (.sl (.sl I)) (.o (.o .i)), .drop, .as (.sl (.sl I)) .i, .as I .i, .as (.sl I) (.o .i), .as .bool .i, .drop, .as I .i]), (43, [.drop, .drop, .drop, .as (.sl I) (.o .i), .as (.sl (.sl I)) (.o (.o .i)), .drop, .as (.sl (.sl I)) .i, .as I .i, .as (.sl I) (.o .i), .as .bool .i])]
noncomputable def zz83_R4 (N n : Nat) (K : Ex → St → Option Y2) (p1 : Y2) (all3 : Y4) (forced4 : Y3) (i5 : Int) : Option Y2 := iter ((A_zz83).shape 8) (run (A_zz83) N (codeAt Try.f71 [1, 1, 1, 0, 1, 0, 0])) n ([.u, .val (.ptr (.pair (.sl (.sl I)) .unit)) (.o .i) p1, .u, .val (.sl I) (.o .i) all3, .val (.sl (.sl I)) (.o (.o .i)) forced4, .val I .i i5] ++ List.replicate 78 .u) K
noncomputable def zz83_R9 (N n : Nat) (K : Ex → St → Option Y2) (all3 : Y4) (forced4 : Y3) (out6 : Y3) (bits7 : Int) : Option Y2 := iter ((A_zz83).shape 18) (run (A_zz83) N (codeAt Try.f71 [1, 1, 1, 1, 1, 0, 1, 0, 0])) n ([.u, .u, .u, .val (.sl I) (.o .i) all3, .val (.sl (.sl I)) (.o (.o .i)) forced4, .u, .val (.sl (.sl I)) .i out6, .val I .i bits7] ++ List.replicate 76 .u) K
noncomputable def zz83_R13 (N n : Nat) (K : Ex → St → Option Y2) (all3 : Y4) (forced4 : Y3) (out6 : Y3) (bits7 : Int) (set8 : Y4) (good9 : Bool) (i10 : Int) : Option Y2 := iter ((A_zz83).shape 26) (run (A_zz83) N (codeAt Try.f71 [1, 1, 1, 1, 1, 0, 1, 0, 0, 1, 0, 0, 1, 0, 1, 0, 0])) n ([.u, .u, .u, .val (.sl I) (.o .i) all3, .val (.sl (.sl I)) (.o (.o .i)) forced4, .u, .val (.sl (.sl I)) .i out6, .val I .i bits7, .val (.sl I) (.o .i) set8, .val .bool .i good9, .val I .i i10] ++ List.replicate 73 .u) K
noncomputable def zz83_R18 (N n : Nat) (K : Ex → St → Option Y2) (all3 : Y4) (forced4 : Y3) (out6 : Y3) (bits7 : Int) (set8 : Y4) (good9 : Bool) (i11 : Int) : Option Y2 := iter ((A_zz83).shape 36) (run (A_zz83) N (codeAt Try.f71 [1, 1, 1, 1, 1, 0, 1, 0, 0, 1, 0, 0, 1, 1, 0, 1, 0, 0])) n ([.u, .u, .u, .val (.sl I) (.o .i) all3, .val (.sl (.sl I)) (.o (.o .i)) forced4, .u, .val (.sl (.sl I)) .i out6, .val I .i bits7, .val (.sl I) (.o .i) set8, .val .bool .i good9, .u, .val I .i i11] ++ List.replicate 72 .u) K
noncomputable abbrev zz83_z : Ex → St → Option Y2 := finish (A_zz83) S_zz83 Try.f71.results.toList
noncomputable abbrev zz83_X4 (kX : St → Option Y2) : Y4 → Y3 → Option Y2 := fun (all3 : Y4) (forced4 : Y3) => kX ([.u, .u, .u, .val (.sl I) (.o .i) all3, .val (.sl (.sl I)) (.o (.o .i)) forced4] ++ List.replicate 79 .u)
noncomputable abbrev zz83_E4 (kX : St → Option Y2) (kO : Nat → St → Option Y2) : Ex → St → Option Y2 := exK zz83_z 0 ((A_zz83).shape 15) kX kO
noncomputable abbrev zz83_X9 (kX : St → Option Y2) : Y3 → Option Y2 := fun (out6 : Y3) => kX ([.u, .u, .u, .u, .u, .u, .val (.sl (.sl I)) .i out6] ++ List.replicate 77 .u)
noncomputable abbrev zz83_E9 (kX : St → Option Y2) (kO : Nat → St → Option Y2) : Ex → St → Option Y2 := exK zz83_z 2 ((A_zz83).shape 47) kX kO
noncomputable abbrev zz83_X13 (kX : St → Option Y2) : Y4 → Y3 → Y3 → Int → Y4 → Bool → Option Y2 := fun (all3 : Y4) (forced4 : Y3) (out6 : Y3) (bits7 : Int) (set8 : Y4) (good9 : Bool) => kX ([.u, .u, .u, .val (.sl I) (.o .i) all3, .val (.sl (.sl I)) (.o (.o .i)) forced4, .u, .val (.sl (.sl I)) .i out6, .val I .i bits7, .val (.sl I) (.o .i) set8, .val .bool .i good9] ++ List.replicate 74 .u)
noncomputable abbrev zz83_E13 (kX : St → Option Y2) (kO : Nat → St → Option Y2) : Ex → St → Option Y2 := exK zz83_z 4 ((A_zz83).shape 35) kX kO
noncomputable abbrev zz83_X18 (kX : St → Option Y2) : Y4 → Y3 → Y3 → Int → Y4 → Bool → Option Y2 := fun (all3 : Y4) (forced4 : Y3) (out6 : Y3) (bits7 : Int) (set8 : Y4) (good9 : Bool) => kX ([.u, .u, .u, .val (.sl I) (.o .i) all3, .val (.sl (.sl I)) (.o (.o .i)) forced4, .u, .val (.sl (.sl I)) .i out6, .val I .i bits7, .val (.sl I) (.o .i) set8, .val .bool .i good9] ++ List.replicate 74 .u)
noncomputable abbrev zz83_E18 (kX : St → Option Y2) (kO : Nat → St → Option Y2) : Ex → St → Option Y2 := exK zz83_z 6 ((A_zz83).shape 43) kX kO
theorem zz83_step4 (N : Nat) (m : Nat) (kX : St → Option Y2) (kO : Nat → St → Option Y2) (p1 : Y2) (all3 : Y4) (forced4 : Y3) (i5 : Int) : zz83_R4 N (m + 1) (zz83_E4 kX kO) p1 all3 forced4 i5 = zz83_b4 (zz83_R4 N m (zz83_E4 kX kO)) (zz83_X4 kX) p1 all3 forced4 i5 := by kernel_rfl
theorem zz83_iter4 (N : Nat) (kX : St → Option Y2) (kO : Nat → St → Option Y2) : ∀ (n : Nat) (p1 : Y2) (all3 : Y4) (forced4 : Y3) (i5 : Int), zz83_R4 N n (zz83_E4 kX kO) p1 all3 forced4 i5 = zz83_l4 N (zz83_X4 kX) n p1 all3 forced4 i5
  | 0, _, _, _, _ => rfl
  | m + 1, p1, all3, forced4, i5 => by
    have hrec : zz83_R4 N m (zz83_E4 kX kO) = (zz83_l4 N (zz83_X4 kX) m) := (funext fun p1 => (funext fun all3 => (funext fun forced4 => (funext fun i5 => zz83_iter4 N kX kO m p1 all3 forced4 i5))))
    refine (zz83_step4 N m kX kO p1 all3 forced4 i5).trans ?_
    rw [hrec]
    rfl
noncomputable abbrev zz83_K4 (N : Nat) : Ex → St → Option Y2 := (blockK 0 (seqK ((A_zz83).shape 15) (run (A_zz83) N (codeAt Try.f71 [1, 1, 1, 1])) zz83_z))
theorem zz83_step13 (N : Nat) (m : Nat) (kX : St → Option Y2) (kO : Nat → St → Option Y2) (all3 : Y4) (forced4 : Y3) (out6 : Y3) (bits7 : Int) (set8 : Y4) (good9 : Bool) (i10 : Int) : zz83_R13 N (m + 1) (zz83_E13 kX kO) all3 forced4 out6 bits7 set8 good9 i10 = zz83_b13 (zz83_R13 N m (zz83_E13 kX kO)) (zz83_X13 kX) all3 forced4 out6 bits7 set8 good9 i10 := by kernel_rfl
theorem zz83_iter13 (N : Nat) (kX : St → Option Y2) (kO : Nat → St → Option Y2) : ∀ (n : Nat) (all3 : Y4) (forced4 : Y3) (out6 : Y3) (bits7 : Int) (set8 : Y4) (good9 : Bool) (i10 : Int), zz83_R13 N n (zz83_E13 kX kO) all3 forced4 out6 bits7 set8 good9 i10 = zz83_l13 N (zz83_X13 kX) n all3 forced4 out6 bits7 set8 good9 i10
  | 0, _, _, _, _, _, _, _ => rfl
  | m + 1, all3, forced4, out6, bits7, set8, good9, i10 => by
    have hrec : zz83_R13 N m (zz83_E13 kX kO) = (zz83_l13 N (zz83_X13 kX) m) := (funext fun all3 => (funext fun forced4 => (funext fun out6 => (funext fun bits7 => (funext fun set8 => (funext fun good9 => (funext fun i10 => zz83_iter13 N kX kO m all3 forced4 out6 bits7 set8 good9 i10)))))))
    refine (zz83_step13 N m kX kO all3 forced4 out6 bits7 set8 good9 i10).trans ?_
    rw [hrec]
    rfl
noncomputable abbrev zz83_K13 (N : Nat) (m : Nat) (kX : St → Option Y2) (kO : Nat → St → Option Y2) : Ex → St → Option Y2 := (blockK 4 (seqK ((A_zz83).shape 35) (run (A_zz83) N (codeAt Try.f71 [1, 1, 1, 1, 1, 0, 1, 0, 0, 1, 0, 0, 1, 1])) (blockK 3 (seqK ((A_zz83).shape 21) (run (A_zz83) N (codeAt Try.f71 [1, 1, 1, 1, 1, 0, 1, 0, 0, 1, 1])) (iterK ((A_zz83).shape 18) (run (A_zz83) N (codeAt Try.f71 [1, 1, 1, 1, 1, 0, 1, 0, 0])) m (zz83_E9 kX kO))))))
theorem zz83_step18 (N : Nat) (m : Nat) (kX : St → Option Y2) (kO : Nat → St → Option Y2) (all3 : Y4) (forced4 : Y3) (out6 : Y3) (bits7 : Int) (set8 : Y4) (good9 : Bool) (i11 : Int) : zz83_R18 N (m + 1) (zz83_E18 kX kO) all3 forced4 out6 bits7 set8 good9 i11 = zz83_b18 (zz83_R18 N m (zz83_E18 kX kO)) (zz83_X18 kX) all3 forced4 out6 bits7 set8 good9 i11 := by kernel_rfl
theorem zz83_iter18 (N : Nat) (kX : St → Option Y2) (kO : Nat → St → Option Y2) : ∀ (n : Nat) (all3 : Y4) (forced4 : Y3) (out6 : Y3) (bits7 : Int) (set8 : Y4) (good9 : Bool) (i11 : Int), zz83_R18 N n (zz83_E18 kX kO) all3 forced4 out6 bits7 set8 good9 i11 = zz83_l18 N (zz83_X18 kX) n all3 forced4 out6 bits7 set8 good9 i11
  | 0, _, _, _, _, _, _, _ => rfl
  | m + 1, all3, forced4, out6, bits7, set8, good9, i11 => by
    have hrec : zz83_R18 N m (zz83_E18 kX kO) = (zz83_l18 N (zz83_X18 kX) m) := (funext fun all3 => (funext fun forced4 => (funext fun out6 => (funext fun bits7 => (funext fun set8 => (funext fun good9 => (funext fun i11 => zz83_iter18 N kX kO m all3 forced4 out6 bits7 set8 good9 i11)))))))
    refine (zz83_step18 N m kX kO all3 forced4 out6 bits7 set8 good9 i11).trans ?_
    rw [hrec]
    rfl
noncomputable abbrev zz83_K18 (N : Nat) (m : Nat) (kX : St → Option Y2) (kO : Nat → St → Option Y2) : Ex → St → Option Y2 := (blockK 6 (seqK ((A_zz83).shape 43) (run (A_zz83) N (codeAt Try.f71 [1, 1, 1, 1, 1, 0, 1, 0, 0, 1, 0, 0, 1, 1, 1])) (blockK 3 (seqK ((A_zz83).shape 21) (run (A_zz83) N (codeAt Try.f71 [1, 1, 1, 1, 1, 0, 1, 0, 0, 1, 1])) (iterK ((A_zz83).shape 18) (run (A_zz83) N (codeAt Try.f71 [1, 1, 1, 1, 1, 0, 1, 0, 0])) m (zz83_E9 kX kO))))))
noncomputable abbrev zz83_k18 (N : Nat) (m : Nat) (kX : St → Option Y2) (kO : Nat → St → Option Y2) : St → Option Y2 := fun st' => run (A_zz83) N (codeAt Try.f71 [1, 1, 1, 1, 1, 0, 1, 0, 0, 1, 0, 0, 1, 1, 1]) st' (blockK 3 (seqK ((A_zz83).shape 21) (run (A_zz83) N (codeAt Try.f71 [1, 1, 1, 1, 1, 0, 1, 0, 0, 1, 1])) (iterK ((A_zz83).shape 18) (run (A_zz83) N (codeAt Try.f71 [1, 1, 1, 1, 1, 0, 1, 0, 0])) m (zz83_E9 kX kO))))
theorem zz83_after18 (N : Nat) (m : Nat) (kX : St → Option Y2) (kO : Nat → St → Option Y2) (all3 : Y4) (forced4 : Y3) (out6 : Y3) (bits7 : Int) (set8 : Y4) (good9 : Bool) : zz83_X18 (zz83_k18 N m kX kO) all3 forced4 out6 bits7 set8 good9 = zz83_a18 (zz83_R9 N m (zz83_E9 kX kO)) all3 forced4 out6 bits7 set8 good9 := by kernel_rfl
theorem zz83_in18 (N : Nat) (m : Nat) (kX : St → Option Y2) (kO : Nat → St → Option Y2) (recF : Y4 → Y3 → Y3 → Int → Option Y2) (hrec : zz83_R9 N m (zz83_E9 kX kO) = recF) (all3 : Y4) (forced4 : Y3) (out6 : Y3) (bits7 : Int) (set8 : Y4) (good9 : Bool) (i11 : Int) : zz83_R18 N N (zz83_K18 N m kX kO) all3 forced4 out6 bits7 set8 good9 i11 = zz83_F18 N recF (zz83_X9 kX) all3 forced4 out6 bits7 set8 good9 i11 :=
  have h : zz83_X18 (zz83_k18 N m kX kO) = (zz83_a18 recF) := (funext fun all3 => (funext fun forced4 => (funext fun out6 => (funext fun bits7 => (funext fun set8 => (funext fun good9 => (zz83_after18 N m kX kO all3 forced4 out6 bits7 set8 good9).trans (by rw [hrec])))))))
  ((iter_ex (fun st => by kernel_rfl) (fun st => by kernel_rfl)).trans (zz83_iter18 N (zz83_k18 N m kX kO) (fun j st => (zz83_K18 N m kX kO) (.exit j) st) N all3 forced4 out6 bits7 set8 good9 i11)).trans (congrArg (fun k => zz83_l18 N k N all3 forced4 out6 bits7 set8 good9 i11) h)
noncomputable abbrev zz83_k13 (N : Nat) (m : Nat) (kX : St → Option Y2) (kO : Nat → St → Option Y2) : St → Option Y2 := fun st' => run (A_zz83) N (codeAt Try.f71 [1, 1, 1, 1, 1, 0, 1, 0, 0, 1, 0, 0, 1, 1]) st' (blockK 3 (seqK ((A_zz83).shape 21) (run (A_zz83) N (codeAt Try.f71 [1, 1, 1, 1, 1, 0, 1, 0, 0, 1, 1])) (iterK ((A_zz83).shape 18) (run (A_zz83) N (codeAt Try.f71 [1, 1, 1, 1, 1, 0, 1, 0, 0])) m (zz83_E9 kX kO))))
theorem zz83_after13 (N : Nat) (m : Nat) (kX : St → Option Y2) (kO : Nat → St → Option Y2) (all3 : Y4) (forced4 : Y3) (out6 : Y3) (bits7 : Int) (set8 : Y4) (good9 : Bool) : zz83_X13 (zz83_k13 N m kX kO) all3 forced4 out6 bits7 set8 good9 = zz83_a13 (zz83_R18 N N (zz83_K18 N m kX kO)) all3 forced4 out6 bits7 set8 good9 := by kernel_rfl
theorem zz83_in13 (N : Nat) (m : Nat) (kX : St → Option Y2) (kO : Nat → St → Option Y2) (recF : Y4 → Y3 → Y3 → Int → Option Y2) (hrec : zz83_R9 N m (zz83_E9 kX kO) = recF) (all3 : Y4) (forced4 : Y3) (out6 : Y3) (bits7 : Int) (set8 : Y4) (good9 : Bool) (i10 : Int) : zz83_R13 N N (zz83_K13 N m kX kO) all3 forced4 out6 bits7 set8 good9 i10 = zz83_F13 N recF (zz83_X9 kX) all3 forced4 out6 bits7 set8 good9 i10 :=
  have h : zz83_X13 (zz83_k13 N m kX kO) = (zz83_a13 (zz83_F18 N recF (zz83_X9 kX))) := (funext fun all3 => (funext fun forced4 => (funext fun out6 => (funext fun bits7 => (funext fun set8 => (funext fun good9 => (zz83_after13 N m kX kO all3 forced4 out6 bits7 set8 good9).trans (by rw [(funext fun all3 => (funext fun forced4 => (funext fun out6 => (funext fun bits7 => (funext fun set8 => (funext fun good9 => (funext fun i11 => zz83_in18 N m kX kO recF hrec all3 forced4 out6 bits7 set8 good9 i11)))))))])))))))
  ((iter_ex (fun st => by kernel_rfl) (fun st => by kernel_rfl)).trans (zz83_iter13 N (zz83_k13 N m kX kO) (fun j st => (zz83_K13 N m kX kO) (.exit j) st) N all3 forced4 out6 bits7 set8 good9 i10)).trans (congrArg (fun k => zz83_l13 N k N all3 forced4 out6 bits7 set8 good9 i10) h)
theorem zz83_step9 (N : Nat) (m : Nat) (kX : St → Option Y2) (kO : Nat → St → Option Y2) (all3 : Y4) (forced4 : Y3) (out6 : Y3) (bits7 : Int) : zz83_R9 N (m + 1) (zz83_E9 kX kO) all3 forced4 out6 bits7 = zz83_b9 (zz83_R13 N N (zz83_K13 N m kX kO)) (zz83_X9 kX) all3 forced4 out6 bits7 := by kernel_rfl
theorem zz83_iter9 (N : Nat) (kX : St → Option Y2) (kO : Nat → St → Option Y2) : ∀ (n : Nat) (all3 : Y4) (forced4 : Y3) (out6 : Y3) (bits7 : Int), zz83_R9 N n (zz83_E9 kX kO) all3 forced4 out6 bits7 = zz83_l9 N (zz83_X9 kX) n all3 forced4 out6 bits7
  | 0, _, _, _, _ => rfl
  | m + 1, all3, forced4, out6, bits7 => by
    have hrec : zz83_R9 N m (zz83_E9 kX kO) = (zz83_l9 N (zz83_X9 kX) m) := (funext fun all3 => (funext fun forced4 => (funext fun out6 => (funext fun bits7 => zz83_iter9 N kX kO m all3 forced4 out6 bits7))))
    refine (zz83_step9 N m kX kO all3 forced4 out6 bits7).trans ?_
    rw [(funext fun all3 => (funext fun forced4 => (funext fun out6 => (funext fun bits7 => (funext fun set8 => (funext fun good9 => (funext fun i10 => zz83_in13 N m kX kO (zz83_l9 N (zz83_X9 kX) m) hrec all3 forced4 out6 bits7 set8 good9 i10)))))))]
    rfl
noncomputable abbrev zz83_K9 (N : Nat) : Ex → St → Option Y2 := (blockK 2 (seqK ((A_zz83).shape 47) (run (A_zz83) N (codeAt Try.f71 [1, 1, 1, 1, 1, 1])) zz83_z))
noncomputable abbrev zz83_k9 (N : Nat) : St → Option Y2 := fun st' => run (A_zz83) N (codeAt Try.f71 [1, 1, 1, 1, 1, 1]) st' zz83_z
theorem zz83_after9 (N : Nat) (out6 : Y3) : zz83_X9 (zz83_k9 N) out6 = zz83_a9 out6 := by kernel_rfl
theorem zz83_in9 (N : Nat) (all3 : Y4) (forced4 : Y3) (out6 : Y3) (bits7 : Int) : zz83_R9 N N (zz83_K9 N) all3 forced4 out6 bits7 = zz83_F9 N all3 forced4 out6 bits7 :=
  have h : zz83_X9 (zz83_k9 N) = (zz83_a9) := (funext fun out6 => zz83_after9 N out6)
  ((iter_ex (fun st => by kernel_rfl) (fun st => by kernel_rfl)).trans (zz83_iter9 N (zz83_k9 N) (fun j st => (zz83_K9 N) (.exit j) st) N all3 forced4 out6 bits7)).trans (congrArg (fun k => zz83_l9 N k N all3 forced4 out6 bits7) h)
noncomputable abbrev zz83_k4 (N : Nat) : St → Option Y2 := fun st' => run (A_zz83) N (codeAt Try.f71 [1, 1, 1, 1]) st' zz83_z
theorem zz83_after4 (N : Nat) (all3 : Y4) (forced4 : Y3) : zz83_X4 (zz83_k4 N) all3 forced4 = zz83_a4 (zz83_R9 N N (zz83_K9 N)) all3 forced4 := by kernel_rfl
theorem zz83_in4 (N : Nat) (p1 : Y2) (all3 : Y4) (forced4 : Y3) (i5 : Int) : zz83_R4 N N (zz83_K4 N) p1 all3 forced4 i5 = zz83_F4 N p1 all3 forced4 i5 :=
  have h : zz83_X4 (zz83_k4 N) = (zz83_a4 (zz83_F9 N)) := (funext fun all3 => (funext fun forced4 => (zz83_after4 N all3 forced4).trans (by rw [(funext fun all3 => (funext fun forced4 => (funext fun out6 => (funext fun bits7 => zz83_in9 N all3 forced4 out6 bits7))))])))
  ((iter_ex (fun st => by kernel_rfl) (fun st => by kernel_rfl)).trans (zz83_iter4 N (zz83_k4 N) (fun j st => (zz83_K4 N) (.exit j) st) N p1 all3 forced4 i5)).trans (congrArg (fun k => zz83_l4 N k N p1 all3 forced4 i5) h)
theorem run0_zz83 (N : Nat) (x : (S_zz83).a.den) : runF (A_zz83) N Try.f71 S_zz83 x = (zz83_s (zz83_R4 N N (zz83_K4 N)) x.1) := by kernel_rfl
theorem run_zz83 (N : Nat) (x : (S_zz83).a.den) : runF (A_zz83) N Try.f71 S_zz83 x = zz83 N x.1 := by
  refine (run0_zz83 N x).trans ?_
  rw [(funext fun p1 => (funext fun all3 => (funext fun forced4 => (funext fun i5 => zz83_in4 N p1 all3 forced4 i5))))]
  rfl
theorem fn_zz83 : FnOk Try.prog 71 := ⟨_, Try.func71, by kernel_rfl, by kernel_rfl⟩
theorem good_zz83 : Gx.Good Try.prog 71 S_zz83 := good_of_run Try.func71 (of_decide_eq_true (by kernel_rfl)) fun x r h => ⟨A_zz83, big, mkCfg_ok tabOk, mkCfg_sigs (show SigsOk Try.prog [(61, S_zz18), (50, S_zz33), (113, S_zz9), (114, S_zz82)] from ⟨⟨fn_zz18, good_zz18⟩, ⟨fn_zz33, good_zz33⟩, ⟨fn_zz9, good_zz9⟩, ⟨fn_zz82, good_zz82⟩, trivial⟩), (run_zz83 big x).trans h⟩

/-! zz84 -/
def zz84_b4 (rec : Y4 → Y4 → Int → Option (Bool × Unit)) (k : Option (Bool × Unit)) (a0 : Y4) (b1 : Y4) (i5 : Int) : Option (Bool × Unit) :=
  cond (decide (i5 < (a0.length : Int)))
  ((atI a0 i5).bind fun xq1 =>
  (atI b1 i5).bind fun xq2 =>
  cond (decide (xq1 ≠ xq2))
  (some (false, (())))
  (rec a0 b1 (IntKind.i64.wrap (i5 + (1 : Int)))))
  (k)
def zz84_a4 : Option (Bool × Unit) :=
  some (true, (()))
def zz84_s (L4 : Y4 → Y4 → Int → Option (Bool × Unit)) (a_0 : Y4) (b_1 : Y4) : Option (Bool × Unit) :=
  cond (decide ((a_0.length : Int) ≠ (b_1.length : Int)))
  (some (false, (())))
  (L4 a_0 b_1 (0 : Int))
def zz84_l4 (N : Nat) (k : Option (Bool × Unit)) : Nat → Y4 → Y4 → Int → Option (Bool × Unit)
  | 0, _, _, _ => none
  | m + 1, a0, b1, i5 => zz84_b4 (zz84_l4 N k m) k a0 b1 i5
def zz84_F4 (N : Nat) (a0 : Y4) (b1 : Y4) (i5 : Int) : Option (Bool × Unit) := zz84_l4 N (zz84_a4) N a0 b1 i5
def zz84 (N : Nat) (a_0 : Y4) (b_1 : Y4) : Option (Bool × Unit) := zz84_s (zz84_F4 N) a_0 b_1
def S_zz84 : Sig := { a := (.pair (.sl I) (.pair (.sl I) .unit)), md := [0, 0], mf := [], m := .unit, r := .bool, rf := .i, f := fun x => zz84 big x.1 x.2.1 }
def A_zz84 : Cfg := mkCfg tab [] [(8, [.as (.sl I) .i, .as (.sl I) .i, .drop, .drop, .drop, .as I .i]), (17, [])]
noncomputable def zz84_R4 (N n : Nat) (K : Ex → St → Option (Bool × Unit)) (a0 : Y4) (b1 : Y4) (i5 : Int) : Option (Bool × Unit) := iter ((A_zz84).shape 8) (run (A_zz84) N (codeAt Try.f95 [1, 1, 0, 1, 0, 0])) n ([.val (.sl I) .i a0, .val (.sl I) .i b1, .u, .u, .u, .val I .i i5] ++ List.replicate 20 .u) K
noncomputable abbrev zz84_z : Ex → St → Option (Bool × Unit) := finish (A_zz84) S_zz84 Try.f95.results.toList
noncomputable abbrev zz84_X4 (kX : St → Option (Bool × Unit)) : Option (Bool × Unit) := kX ([] ++ List.replicate 26 .u)
noncomputable abbrev zz84_E4 (kX : St → Option (Bool × Unit)) (kO : Nat → St → Option (Bool × Unit)) : Ex → St → Option (Bool × Unit) := exK zz84_z 0 ((A_zz84).shape 17) kX kO
theorem zz84_step4 (N : Nat) (m : Nat) (kX : St → Option (Bool × Unit)) (kO : Nat → St → Option (Bool × Unit)) (a0 : Y4) (b1 : Y4) (i5 : Int) : zz84_R4 N (m + 1) (zz84_E4 kX kO) a0 b1 i5 = zz84_b4 (zz84_R4 N m (zz84_E4 kX kO)) (zz84_X4 kX) a0 b1 i5 := by kernel_rfl
theorem zz84_iter4 (N : Nat) (kX : St → Option (Bool × Unit)) (kO : Nat → St → Option (Bool × Unit)) : ∀ (n : Nat) (a0 : Y4) (b1 : Y4) (i5 : Int), zz84_R4 N n (zz84_E4 kX kO) a0 b1 i5 = zz84_l4 N (zz84_X4 kX) n a0 b1 i5
  | 0, _, _, _ => rfl
  | m + 1, a0, b1, i5 => by
    have hrec : zz84_R4 N m (zz84_E4 kX kO) = (zz84_l4 N (zz84_X4 kX) m) := (funext fun a0 => (funext fun b1 => (funext fun i5 => zz84_iter4 N kX kO m a0 b1 i5)))
    refine (zz84_step4 N m kX kO a0 b1 i5).trans ?_
    rw [hrec]
    rfl
noncomputable abbrev zz84_K4 (N : Nat) : Ex → St → Option (Bool × Unit) := (blockK 0 (seqK ((A_zz84).shape 17) (run (A_zz84) N (codeAt Try.f95 [1, 1, 1])) zz84_z))
noncomputable abbrev zz84_k4 (N : Nat) : St → Option (Bool × Unit) := fun st' => run (A_zz84) N (codeAt Try.f95 [1, 1, 1]) st' zz84_z
theorem zz84_after4 (N : Nat) : zz84_X4 (zz84_k4 N) = zz84_a4 := by kernel_rfl
theorem zz84_in4 (N : Nat) (a0 : Y4) (b1 : Y4) (i5 : Int) : zz84_R4 N N (zz84_K4 N) a0 b1 i5 = zz84_F4 N a0 b1 i5 :=
  have h : zz84_X4 (zz84_k4 N) = (zz84_a4) := zz84_after4 N
  ((iter_ex (fun st => by kernel_rfl) (fun st => by kernel_rfl)).trans (zz84_iter4 N (zz84_k4 N) (fun j st => (zz84_K4 N) (.exit j) st) N a0 b1 i5)).trans (congrArg (fun k => zz84_l4 N k N a0 b1 i5) h)
theorem run0_zz84 (N : Nat) (x : (S_zz84).a.den) : runF (A_zz84) N Try.f95 S_zz84 x = (zz84_s (zz84_R4 N N (zz84_K4 N)) x.1 x.2.1) := by kernel_rfl
theorem run_zz84 (N : Nat) (x : (S_zz84).a.den) : runF (A_zz84) N Try.f95 S_zz84 x = zz84 N x.1 x.2.1 := by
  refine (run0_zz84 N x).trans ?_
  rw [(funext fun a0 => (funext fun b1 => (funext fun i5 => zz84_in4 N a0 b1 i5)))]
  rfl
theorem fn_zz84 : FnOk Try.prog 95 := ⟨_, Try.func95, by kernel_rfl, by kernel_rfl⟩
theorem good_zz84 : Gx.Good Try.prog 95 S_zz84 := good_of_run Try.func95 (of_decide_eq_true (by kernel_rfl)) fun x r h => ⟨A_zz84, big, mkCfg_ok tabOk, mkCfg_sigs (show SigsOk Try.prog [] from trivial), (run_zz84 big x).trans h⟩

/-! zz85 -/
def zz85_b2 (rec : Y3 → Y4 → Int → Option (Int × Unit)) (k : Option (Int × Unit)) (tables0 : Y3) (t1 : Y4) (i5 : Int) : Option (Int × Unit) :=
  cond (decide (i5 < (tables0.length : Int)))
  ((atI tables0 i5).bind fun xq1 =>
  (zz84 big xq1 t1).bind fun rq2 =>
  cond rq2.1
  (some (i5, (())))
  (rec tables0 t1 (IntKind.i64.wrap (i5 + (1 : Int)))))
  (k)
def zz85_a2 : Option (Int × Unit) :=
  some ((-1 : Int), (()))
def zz85_s (L2 : Y3 → Y4 → Int → Option (Int × Unit)) (tables_0 : Y3) (t_1 : Y4) : Option (Int × Unit) :=
  L2 tables_0 t_1 (0 : Int)
def zz85_l2 (N : Nat) (k : Option (Int × Unit)) : Nat → Y3 → Y4 → Int → Option (Int × Unit)
  | 0, _, _, _ => none
  | m + 1, tables0, t1, i5 => zz85_b2 (zz85_l2 N k m) k tables0 t1 i5
def zz85_F2 (N : Nat) (tables0 : Y3) (t1 : Y4) (i5 : Int) : Option (Int × Unit) := zz85_l2 N (zz85_a2) N tables0 t1 i5
def zz85 (N : Nat) (tables_0 : Y3) (t_1 : Y4) : Option (Int × Unit) := zz85_s (zz85_F2 N) tables_0 t_1
def S_zz85 : Sig := { a := (.pair (.sl (.sl I)) (.pair (.sl I) .unit)), md := [0, 0], mf := [], m := .unit, r := I, rf := .i, f := fun x => zz85 big x.1 x.2.1 }
def A_zz85 : Cfg := mkCfg tab [(95, S_zz84)] [(4, [.as (.sl (.sl I)) .i, .as (.sl I) .i, .drop, .drop, .drop, .as I .i]), (13, [])]
noncomputable def zz85_R2 (N n : Nat) (K : Ex → St → Option (Int × Unit)) (tables0 : Y3) (t1 : Y4) (i5 : Int) : Option (Int × Unit) := iter ((A_zz85).shape 4) (run (A_zz85) N (codeAt Try.f70 [1, 0, 1, 0, 0])) n ([.val (.sl (.sl I)) .i tables0, .val (.sl I) .i t1, .u, .u, .u, .val I .i i5] ++ List.replicate 13 .u) K
noncomputable abbrev zz85_z : Ex → St → Option (Int × Unit) := finish (A_zz85) S_zz85 Try.f70.results.toList
noncomputable abbrev zz85_X2 (kX : St → Option (Int × Unit)) : Option (Int × Unit) := kX ([] ++ List.replicate 19 .u)
noncomputable abbrev zz85_E2 (kX : St → Option (Int × Unit)) (kO : Nat → St → Option (Int × Unit)) : Ex → St → Option (Int × Unit) := exK zz85_z 0 ((A_zz85).shape 13) kX kO
theorem zz85_step2 (N : Nat) (m : Nat) (kX : St → Option (Int × Unit)) (kO : Nat → St → Option (Int × Unit)) (tables0 : Y3) (t1 : Y4) (i5 : Int) : zz85_R2 N (m + 1) (zz85_E2 kX kO) tables0 t1 i5 = zz85_b2 (zz85_R2 N m (zz85_E2 kX kO)) (zz85_X2 kX) tables0 t1 i5 := by kernel_rfl
theorem zz85_iter2 (N : Nat) (kX : St → Option (Int × Unit)) (kO : Nat → St → Option (Int × Unit)) : ∀ (n : Nat) (tables0 : Y3) (t1 : Y4) (i5 : Int), zz85_R2 N n (zz85_E2 kX kO) tables0 t1 i5 = zz85_l2 N (zz85_X2 kX) n tables0 t1 i5
  | 0, _, _, _ => rfl
  | m + 1, tables0, t1, i5 => by
    have hrec : zz85_R2 N m (zz85_E2 kX kO) = (zz85_l2 N (zz85_X2 kX) m) := (funext fun tables0 => (funext fun t1 => (funext fun i5 => zz85_iter2 N kX kO m tables0 t1 i5)))
    refine (zz85_step2 N m kX kO tables0 t1 i5).trans ?_
    rw [hrec]
    rfl
noncomputable abbrev zz85_K2 (N : Nat) : Ex → St → Option (Int × Unit) := (blockK 0 (seqK ((A_zz85).shape 13) (run (A_zz85) N (codeAt Try.f70 [1, 1])) zz85_z))
noncomputable abbrev zz85_k2 (N : Nat) : St → Option (Int × Unit) := fun st' => run (A_zz85) N (codeAt Try.f70 [1, 1]) st' zz85_z
theorem zz85_after2 (N : Nat) : zz85_X2 (zz85_k2 N) = zz85_a2 := by kernel_rfl
theorem zz85_in2 (N : Nat) (tables0 : Y3) (t1 : Y4) (i5 : Int) : zz85_R2 N N (zz85_K2 N) tables0 t1 i5 = zz85_F2 N tables0 t1 i5 :=
  have h : zz85_X2 (zz85_k2 N) = (zz85_a2) := zz85_after2 N
  ((iter_ex (fun st => by kernel_rfl) (fun st => by kernel_rfl)).trans (zz85_iter2 N (zz85_k2 N) (fun j st => (zz85_K2 N) (.exit j) st) N tables0 t1 i5)).trans (congrArg (fun k => zz85_l2 N k N tables0 t1 i5) h)
theorem run0_zz85 (N : Nat) (x : (S_zz85).a.den) : runF (A_zz85) N Try.f70 S_zz85 x = (zz85_s (zz85_R2 N N (zz85_K2 N)) x.1 x.2.1) := by kernel_rfl
theorem run_zz85 (N : Nat) (x : (S_zz85).a.den) : runF (A_zz85) N Try.f70 S_zz85 x = zz85 N x.1 x.2.1 := by
  refine (run0_zz85 N x).trans ?_
  rw [(funext fun tables0 => (funext fun t1 => (funext fun i5 => zz85_in2 N tables0 t1 i5)))]
  rfl
theorem fn_zz85 : FnOk Try.prog 70 := ⟨_, Try.func70, by kernel_rfl, by kernel_rfl⟩
theorem good_zz85 : Gx.Good Try.prog 70 S_zz85 := good_of_run Try.func70 (of_decide_eq_true (by kernel_rfl)) fun x r h => ⟨A_zz85, big, mkCfg_ok tabOk, mkCfg_sigs (show SigsOk Try.prog [(95, S_zz84)] from ⟨⟨fn_zz84, good_zz84⟩, trivial⟩), (run_zz85 big x).trans h⟩

/-! zz86 -/
def zz86_b5 (rec : Y4 → Y2 → Y4 → Int → Option ((Y4 × (Bool × Unit)) × Unit)) (k : Y2 → Y4 → Option ((Y4 × (Bool × Unit)) × Unit)) (set1 : Y4) (p2 : Y2) (c6 : Y4) (i7 : Int) : Option ((Y4 × (Bool × Unit)) × Unit) :=
  cond (decide (i7 < (set1.length : Int)))
  ((atI set1 i7).bind fun xq5 =>
  (atI set1 i7).bind fun xq6 =>
  (zz21 big p2 xq6).bind fun rq7 =>
  (zz25 big c6 xq5 rq7.1).bind fun rq8 =>
  rec set1 p2 rq8.1 (IntKind.i64.wrap (i7 + (1 : Int))))
  (k p2 c6)
def zz86_a5 (p2 : Y2) (c6 : Y4) : Option ((Y4 × (Bool × Unit)) × Unit) :=
  (zz20 big p2).bind fun rq9 =>
  (zz30 big rq9.1 c6).bind fun rq10 =>
  some ((rq10.1, true, ()), (()))
def zz86_s (L5 : Y4 → Y2 → Y4 → Int → Option ((Y4 × (Bool × Unit)) × Unit)) (p_0 : Y2) (set_1 : Y4) : Option ((Y4 × (Bool × Unit)) × Unit) :=
  (zz15 p_0).bind fun rq1 =>
  cond (!rq1.1)
  (some (([], false, ()), (())))
  ((zz83 big p_0).bind fun rq2 =>
  (zz85 big rq2.1 set_1).bind fun rq3 =>
  cond (decide (rq3.1 < (0 : Int)))
  (some (([], false, ()), (())))
  ((zz22 big (p_0.1.length : Int)).bind fun rq4 =>
  L5 set_1 p_0 rq4.1 (0 : Int)))
def zz86_l5 (N : Nat) (k : Y2 → Y4 → Option ((Y4 × (Bool × Unit)) × Unit)) : Nat → Y4 → Y2 → Y4 → Int → Option ((Y4 × (Bool × Unit)) × Unit)
  | 0, _, _, _, _ => none
  | m + 1, set1, p2, c6, i7 => zz86_b5 (zz86_l5 N k m) k set1 p2 c6 i7
def zz86_F5 (N : Nat) (set1 : Y4) (p2 : Y2) (c6 : Y4) (i7 : Int) : Option ((Y4 × (Bool × Unit)) × Unit) := zz86_l5 N (zz86_a5) N set1 p2 c6 i7
def zz86 (N : Nat) (p_0 : Y2) (set_1 : Y4) : Option ((Y4 × (Bool × Unit)) × Unit) := zz86_s (zz86_F5 N) p_0 set_1
def S_zz86 : Sig := { a := (.pair (.pair (.sl (.sl I)) .unit) (.pair (.sl I) .unit)), md := [0, 0], mf := [], m := .unit, r := (.tup (.pair (.sl I) (.pair .bool .unit))), rf := .i, f := fun x => zz86 big x.1 x.2.1 }
def A_zz86 : Cfg := mkCfg tab [(47, S_zz15), (71, S_zz83), (70, S_zz85), (72, S_zz22), (74, S_zz21), (73, S_zz25), (56, S_zz20), (75, S_zz30)] [(10, [.drop, .as (.sl I) .i, .as (.ptr (.pair (.sl (.sl I)) .unit)) (.o .i), .drop, .drop, .drop, .as (.sl I) (.o .i), .as I .i]), (17, [.drop, .drop, .as (.ptr (.pair (.sl (.sl I)) .unit)) (.o .i), .drop, .drop, .drop, .as (.sl I) (.o .i)])]
noncomputable def zz86_R5 (N n : Nat) (K : Ex → St → Option ((Y4 × (Bool × Unit)) × Unit)) (set1 : Y4) (p2 : Y2) (c6 : Y4) (i7 : Int) : Option ((Y4 × (Bool × Unit)) × Unit) := iter ((A_zz86).shape 10) (run (A_zz86) N (codeAt Try.f34 [1, 1, 1, 0, 1, 0, 0])) n ([.u, .val (.sl I) .i set1, .val (.ptr (.pair (.sl (.sl I)) .unit)) (.o .i) p2, .u, .u, .u, .val (.sl I) (.o .i) c6, .val I .i i7] ++ List.replicate 37 .u) K
noncomputable abbrev zz86_z : Ex → St → Option ((Y4 × (Bool × Unit)) × Unit) := finish (A_zz86) S_zz86 Try.f34.results.toList
noncomputable abbrev zz86_X5 (kX : St → Option ((Y4 × (Bool × Unit)) × Unit)) : Y2 → Y4 → Option ((Y4 × (Bool × Unit)) × Unit) := fun (p2 : Y2) (c6 : Y4) => kX ([.u, .u, .val (.ptr (.pair (.sl (.sl I)) .unit)) (.o .i) p2, .u, .u, .u, .val (.sl I) (.o .i) c6] ++ List.replicate 38 .u)
noncomputable abbrev zz86_E5 (kX : St → Option ((Y4 × (Bool × Unit)) × Unit)) (kO : Nat → St → Option ((Y4 × (Bool × Unit)) × Unit)) : Ex → St → Option ((Y4 × (Bool × Unit)) × Unit) := exK zz86_z 0 ((A_zz86).shape 17) kX kO
theorem zz86_step5 (N : Nat) (m : Nat) (kX : St → Option ((Y4 × (Bool × Unit)) × Unit)) (kO : Nat → St → Option ((Y4 × (Bool × Unit)) × Unit)) (set1 : Y4) (p2 : Y2) (c6 : Y4) (i7 : Int) : zz86_R5 N (m + 1) (zz86_E5 kX kO) set1 p2 c6 i7 = zz86_b5 (zz86_R5 N m (zz86_E5 kX kO)) (zz86_X5 kX) set1 p2 c6 i7 := by kernel_rfl
theorem zz86_iter5 (N : Nat) (kX : St → Option ((Y4 × (Bool × Unit)) × Unit)) (kO : Nat → St → Option ((Y4 × (Bool × Unit)) × Unit)) : ∀ (n : Nat) (set1 : Y4) (p2 : Y2) (c6 : Y4) (i7 : Int), zz86_R5 N n (zz86_E5 kX kO) set1 p2 c6 i7 = zz86_l5 N (zz86_X5 kX) n set1 p2 c6 i7
  | 0, _, _, _, _ => rfl
  | m + 1, set1, p2, c6, i7 => by
    have hrec : zz86_R5 N m (zz86_E5 kX kO) = (zz86_l5 N (zz86_X5 kX) m) := (funext fun set1 => (funext fun p2 => (funext fun c6 => (funext fun i7 => zz86_iter5 N kX kO m set1 p2 c6 i7))))
    refine (zz86_step5 N m kX kO set1 p2 c6 i7).trans ?_
    rw [hrec]
    rfl
noncomputable abbrev zz86_K5 (N : Nat) : Ex → St → Option ((Y4 × (Bool × Unit)) × Unit) := (blockK 0 (seqK ((A_zz86).shape 17) (run (A_zz86) N (codeAt Try.f34 [1, 1, 1, 1])) zz86_z))
noncomputable abbrev zz86_k5 (N : Nat) : St → Option ((Y4 × (Bool × Unit)) × Unit) := fun st' => run (A_zz86) N (codeAt Try.f34 [1, 1, 1, 1]) st' zz86_z
theorem zz86_after5 (N : Nat) (p2 : Y2) (c6 : Y4) : zz86_X5 (zz86_k5 N) p2 c6 = zz86_a5 p2 c6 := by kernel_rfl
theorem zz86_in5 (N : Nat) (set1 : Y4) (p2 : Y2) (c6 : Y4) (i7 : Int) : zz86_R5 N N (zz86_K5 N) set1 p2 c6 i7 = zz86_F5 N set1 p2 c6 i7 :=
  have h : zz86_X5 (zz86_k5 N) = (zz86_a5) := (funext fun p2 => (funext fun c6 => zz86_after5 N p2 c6))
  ((iter_ex (fun st => by kernel_rfl) (fun st => by kernel_rfl)).trans (zz86_iter5 N (zz86_k5 N) (fun j st => (zz86_K5 N) (.exit j) st) N set1 p2 c6 i7)).trans (congrArg (fun k => zz86_l5 N k N set1 p2 c6 i7) h)
theorem run0_zz86 (N : Nat) (x : (S_zz86).a.den) : runF (A_zz86) N Try.f34 S_zz86 x = (zz86_s (zz86_R5 N N (zz86_K5 N)) x.1 x.2.1) := by kernel_rfl
theorem run_zz86 (N : Nat) (x : (S_zz86).a.den) : runF (A_zz86) N Try.f34 S_zz86 x = zz86 N x.1 x.2.1 := by
  refine (run0_zz86 N x).trans ?_
  rw [(funext fun set1 => (funext fun p2 => (funext fun c6 => (funext fun i7 => zz86_in5 N set1 p2 c6 i7))))]
  rfl
theorem fn_zz86 : FnOk Try.prog 34 := ⟨_, Try.func34, by kernel_rfl, by kernel_rfl⟩
theorem good_zz86 : Gx.Good Try.prog 34 S_zz86 := good_of_run Try.func34 (of_decide_eq_true (by kernel_rfl)) fun x r h => ⟨A_zz86, big, mkCfg_ok tabOk, mkCfg_sigs (show SigsOk Try.prog [(47, S_zz15), (71, S_zz83), (70, S_zz85), (72, S_zz22), (74, S_zz21), (73, S_zz25), (56, S_zz20), (75, S_zz30)] from ⟨⟨fn_zz15, good_zz15⟩, ⟨fn_zz83, good_zz83⟩, ⟨fn_zz85, good_zz85⟩, ⟨fn_zz22, good_zz22⟩, ⟨fn_zz21, good_zz21⟩, ⟨fn_zz25, good_zz25⟩, ⟨fn_zz20, good_zz20⟩, ⟨fn_zz30, good_zz30⟩, trivial⟩), (run_zz86 big x).trans h⟩

/-! zz87 -/
def zz87_b2 (rec : Y4 → Y4 → Int → Int → Option (Bool × Unit)) (k : Option (Bool × Unit)) (y1 : Y4) (t7 : Y4) (t8 : Int) (t9 : Int) : Option (Bool × Unit) :=
  cond (decide (t9 < t8))
  ((atI t7 t9).bind fun xq1 =>
  (zz67 big y1 xq1).bind fun rq2 =>
  cond rq2.1
  (some (false, (())))
  (rec y1 t7 t8 (IntKind.i64.wrap (t9 + (1 : Int)))))
  (k)
def zz87_a2 : Option (Bool × Unit) :=
  some (true, (()))
def zz87_s (L2 : Y4 → Y4 → Int → Int → Option (Bool × Unit)) (x_0 : Y4) (y_1 : Y4) : Option (Bool × Unit) :=
  L2 y_1 x_0 (x_0.length : Int) (0 : Int)
def zz87_l2 (N : Nat) (k : Option (Bool × Unit)) : Nat → Y4 → Y4 → Int → Int → Option (Bool × Unit)
  | 0, _, _, _, _ => none
  | m + 1, y1, t7, t8, t9 => zz87_b2 (zz87_l2 N k m) k y1 t7 t8 t9
def zz87_F2 (N : Nat) (y1 : Y4) (t7 : Y4) (t8 : Int) (t9 : Int) : Option (Bool × Unit) := zz87_l2 N (zz87_a2) N y1 t7 t8 t9
def zz87 (N : Nat) (x_0 : Y4) (y_1 : Y4) : Option (Bool × Unit) := zz87_s (zz87_F2 N) x_0 y_1
def S_zz87 : Sig := { a := (.pair (.sl I) (.pair (.sl I) .unit)), md := [0, 0], mf := [], m := .unit, r := .bool, rf := .i, f := fun x => zz87 big x.1 x.2.1 }
def A_zz87 : Cfg := mkCfg tab [(53, S_zz67)] [(4, [.drop, .as (.sl I) .i, .drop, .drop, .drop, .drop, .drop, .as (.sl I) .i, .as I .i, .as I .i]), (15, [])]
noncomputable def zz87_R2 (N n : Nat) (K : Ex → St → Option (Bool × Unit)) (y1 : Y4) (t7 : Y4) (t8 : Int) (t9 : Int) : Option (Bool × Unit) := iter ((A_zz87).shape 4) (run (A_zz87) N (codeAt Try.f117 [1, 0, 1, 0, 0])) n ([.u, .val (.sl I) .i y1, .u, .u, .u, .u, .u, .val (.sl I) .i t7, .val I .i t8, .val I .i t9] ++ List.replicate 7 .u) K
noncomputable abbrev zz87_z : Ex → St → Option (Bool × Unit) := finish (A_zz87) S_zz87 Try.f117.results.toList
noncomputable abbrev zz87_X2 (kX : St → Option (Bool × Unit)) : Option (Bool × Unit) := kX ([] ++ List.replicate 17 .u)
noncomputable abbrev zz87_E2 (kX : St → Option (Bool × Unit)) (kO : Nat → St → Option (Bool × Unit)) : Ex → St → Option (Bool × Unit) := exK zz87_z 0 ((A_zz87).shape 15) kX kO
theorem zz87_step2 (N : Nat) (m : Nat) (kX : St → Option (Bool × Unit)) (kO : Nat → St → Option (Bool × Unit)) (y1 : Y4) (t7 : Y4) (t8 : Int) (t9 : Int) : zz87_R2 N (m + 1) (zz87_E2 kX kO) y1 t7 t8 t9 = zz87_b2 (zz87_R2 N m (zz87_E2 kX kO)) (zz87_X2 kX) y1 t7 t8 t9 := by kernel_rfl
theorem zz87_iter2 (N : Nat) (kX : St → Option (Bool × Unit)) (kO : Nat → St → Option (Bool × Unit)) : ∀ (n : Nat) (y1 : Y4) (t7 : Y4) (t8 : Int) (t9 : Int), zz87_R2 N n (zz87_E2 kX kO) y1 t7 t8 t9 = zz87_l2 N (zz87_X2 kX) n y1 t7 t8 t9
  | 0, _, _, _, _ => rfl
  | m + 1, y1, t7, t8, t9 => by
    have hrec : zz87_R2 N m (zz87_E2 kX kO) = (zz87_l2 N (zz87_X2 kX) m) := (funext fun y1 => (funext fun t7 => (funext fun t8 => (funext fun t9 => zz87_iter2 N kX kO m y1 t7 t8 t9))))
    refine (zz87_step2 N m kX kO y1 t7 t8 t9).trans ?_
    rw [hrec]
    rfl
noncomputable abbrev zz87_K2 (N : Nat) : Ex → St → Option (Bool × Unit) := (blockK 0 (seqK ((A_zz87).shape 15) (run (A_zz87) N (codeAt Try.f117 [1, 1])) zz87_z))
noncomputable abbrev zz87_k2 (N : Nat) : St → Option (Bool × Unit) := fun st' => run (A_zz87) N (codeAt Try.f117 [1, 1]) st' zz87_z
theorem zz87_after2 (N : Nat) : zz87_X2 (zz87_k2 N) = zz87_a2 := by kernel_rfl
theorem zz87_in2 (N : Nat) (y1 : Y4) (t7 : Y4) (t8 : Int) (t9 : Int) : zz87_R2 N N (zz87_K2 N) y1 t7 t8 t9 = zz87_F2 N y1 t7 t8 t9 :=
  have h : zz87_X2 (zz87_k2 N) = (zz87_a2) := zz87_after2 N
  ((iter_ex (fun st => by kernel_rfl) (fun st => by kernel_rfl)).trans (zz87_iter2 N (zz87_k2 N) (fun j st => (zz87_K2 N) (.exit j) st) N y1 t7 t8 t9)).trans (congrArg (fun k => zz87_l2 N k N y1 t7 t8 t9) h)
theorem run0_zz87 (N : Nat) (x : (S_zz87).a.den) : runF (A_zz87) N Try.f117 S_zz87 x = (zz87_s (zz87_R2 N N (zz87_K2 N)) x.1 x.2.1) := by kernel_rfl
theorem run_zz87 (N : Nat) (x : (S_zz87).a.den) : runF (A_zz87) N Try.f117 S_zz87 x = zz87 N x.1 x.2.1 := by
  refine (run0_zz87 N x).trans ?_
  rw [(funext fun y1 => (funext fun t7 => (funext fun t8 => (funext fun t9 => zz87_in2 N y1 t7 t8 t9))))]
  rfl
theorem fn_zz87 : FnOk Try.prog 117 := ⟨_, Try.func117, by kernel_rfl, by kernel_rfl⟩
theorem good_zz87 : Gx.Good Try.prog 117 S_zz87 := good_of_run Try.func117 (of_decide_eq_true (by kernel_rfl)) fun x r h => ⟨A_zz87, big, mkCfg_ok tabOk, mkCfg_sigs (show SigsOk Try.prog [(53, S_zz67)] from ⟨⟨fn_zz67, good_zz67⟩, trivial⟩), (run_zz87 big x).trans h⟩

/-! zz88 -/
def zz88_b2 (rec : Y1 → Y4 → Y4 → Int → Int → Option (Bool × Unit)) (k : Y4 → Option (Bool × Unit)) (l0 : Y1) (set1 : Y4) (t7 : Y4) (t8 : Int) (t9 : Int) : Option (Bool × Unit) :=
  cond (decide (t9 < t8))
  ((atI t7 t9).bind fun xq1 =>
  (zz53 l0 xq1).bind fun rq2 =>
  cond (!rq2.1)
  (some (false, (())))
  ((zz66 l0 [xq1]).bind fun rq3 =>
  (zz87 big rq3.1 set1).bind fun rq4 =>
  cond (!rq4.1)
  (some (false, (())))
  (rec l0 set1 t7 t8 (IntKind.i64.wrap (t9 + (1 : Int))))))
  (k set1)
def zz88_a2 (set1 : Y4) : Option (Bool × Unit) :=
  (zz36 big set1).bind fun rq5 =>
  some (rq5.1, (()))
def zz88_s (L2 : Y1 → Y4 → Y4 → Int → Int → Option (Bool × Unit)) (l_0 : Y1) (set_1 : Y4) : Option (Bool × Unit) :=
  L2 l_0 set_1 set_1 (set_1.length : Int) (0 : Int)
def zz88_l2 (N : Nat) (k : Y4 → Option (Bool × Unit)) : Nat → Y1 → Y4 → Y4 → Int → Int → Option (Bool × Unit)
  | 0, _, _, _, _, _ => none
  | m + 1, l0, set1, t7, t8, t9 => zz88_b2 (zz88_l2 N k m) k l0 set1 t7 t8 t9
def zz88_F2 (N : Nat) (l0 : Y1) (set1 : Y4) (t7 : Y4) (t8 : Int) (t9 : Int) : Option (Bool × Unit) := zz88_l2 N (zz88_a2) N l0 set1 t7 t8 t9
def zz88 (N : Nat) (l_0 : Y1) (set_1 : Y4) : Option (Bool × Unit) := zz88_s (zz88_F2 N) l_0 set_1
def S_zz88 : Sig := { a := (.pair (.opt (.pair (.sl (.sl .bool)) (.pair (.sl (.sl I)) (.pair (.sl (.sl I)) .unit)))) (.pair (.sl I) .unit)), md := [0, 0], mf := [], m := .unit, r := .bool, rf := .i, f := fun x => zz88 big x.1 x.2.1 }
def A_zz88 : Cfg := mkCfg tab [(52, S_zz53), (54, S_zz66), (117, S_zz87), (118, S_zz36)] [(4, [.as (.opt (.pair (.sl (.sl .bool)) (.pair (.sl (.sl I)) (.pair (.sl (.sl I)) .unit)))) .i, .as (.sl I) .i, .drop, .drop, .drop, .drop, .drop, .as (.sl I) .i, .as I .i, .as I .i]), (15, [.drop, .as (.sl I) .i])]
noncomputable def zz88_R2 (N n : Nat) (K : Ex → St → Option (Bool × Unit)) (l0 : Y1) (set1 : Y4) (t7 : Y4) (t8 : Int) (t9 : Int) : Option (Bool × Unit) := iter ((A_zz88).shape 4) (run (A_zz88) N (codeAt Try.f76 [1, 0, 1, 0, 0])) n ([.val (.opt (.pair (.sl (.sl .bool)) (.pair (.sl (.sl I)) (.pair (.sl (.sl I)) .unit)))) .i l0, .val (.sl I) .i set1, .u, .u, .u, .u, .u, .val (.sl I) .i t7, .val I .i t8, .val I .i t9] ++ List.replicate 19 .u) K
noncomputable abbrev zz88_z : Ex → St → Option (Bool × Unit) := finish (A_zz88) S_zz88 Try.f76.results.toList
noncomputable abbrev zz88_X2 (kX : St → Option (Bool × Unit)) : Y4 → Option (Bool × Unit) := fun (set1 : Y4) => kX ([.u, .val (.sl I) .i set1] ++ List.replicate 27 .u)
noncomputable abbrev zz88_E2 (kX : St → Option (Bool × Unit)) (kO : Nat → St → Option (Bool × Unit)) : Ex → St → Option (Bool × Unit) := exK zz88_z 0 ((A_zz88).shape 15) kX kO
theorem zz88_step2 (N : Nat) (m : Nat) (kX : St → Option (Bool × Unit)) (kO : Nat → St → Option (Bool × Unit)) (l0 : Y1) (set1 : Y4) (t7 : Y4) (t8 : Int) (t9 : Int) : zz88_R2 N (m + 1) (zz88_E2 kX kO) l0 set1 t7 t8 t9 = zz88_b2 (zz88_R2 N m (zz88_E2 kX kO)) (zz88_X2 kX) l0 set1 t7 t8 t9 := by kernel_rfl
theorem zz88_iter2 (N : Nat) (kX : St → Option (Bool × Unit)) (kO : Nat → St → Option (Bool × Unit)) : ∀ (n : Nat) (l0 : Y1) (set1 : Y4) (t7 : Y4) (t8 : Int) (t9 : Int), zz88_R2 N n (zz88_E2 kX kO) l0 set1 t7 t8 t9 = zz88_l2 N (zz88_X2 kX) n l0 set1 t7 t8 t9
  | 0, _, _, _, _, _ => rfl
  | m + 1, l0, set1, t7, t8, t9 => by
    have hrec : zz88_R2 N m (zz88_E2 kX kO) = (zz88_l2 N (zz88_X2 kX) m) := (funext fun l0 => (funext fun set1 => (funext fun t7 => (funext fun t8 => (funext fun t9 => zz88_iter2 N kX kO m l0 set1 t7 t8 t9)))))
    refine (zz88_step2 N m kX kO l0 set1 t7 t8 t9).trans ?_
    rw [hrec]
    rfl
noncomputable abbrev zz88_K2 (N : Nat) : Ex → St → Option (Bool × Unit) := (blockK 0 (seqK ((A_zz88).shape 15) (run (A_zz88) N (codeAt Try.f76 [1, 1])) zz88_z))
noncomputable abbrev zz88_k2 (N : Nat) : St → Option (Bool × Unit) := fun st' => run (A_zz88) N (codeAt Try.f76 [1, 1]) st' zz88_z
theorem zz88_after2 (N : Nat) (set1 : Y4) : zz88_X2 (zz88_k2 N) set1 = zz88_a2 set1 := by kernel_rfl
theorem zz88_in2 (N : Nat) (l0 : Y1) (set1 : Y4) (t7 : Y4) (t8 : Int) (t9 : Int) : zz88_R2 N N (zz88_K2 N) l0 set1 t7 t8 t9 = zz88_F2 N l0 set1 t7 t8 t9 :=
  have h : zz88_X2 (zz88_k2 N) = (zz88_a2) := (funext fun set1 => zz88_after2 N set1)
  ((iter_ex (fun st => by kernel_rfl) (fun st => by kernel_rfl)).trans (zz88_iter2 N (zz88_k2 N) (fun j st => (zz88_K2 N) (.exit j) st) N l0 set1 t7 t8 t9)).trans (congrArg (fun k => zz88_l2 N k N l0 set1 t7 t8 t9) h)
theorem run0_zz88 (N : Nat) (x : (S_zz88).a.den) : runF (A_zz88) N Try.f76 S_zz88 x = (zz88_s (zz88_R2 N N (zz88_K2 N)) x.1 x.2.1) := by kernel_rfl
theorem run_zz88 (N : Nat) (x : (S_zz88).a.den) : runF (A_zz88) N Try.f76 S_zz88 x = zz88 N x.1 x.2.1 := by
  refine (run0_zz88 N x).trans ?_
  rw [(funext fun l0 => (funext fun set1 => (funext fun t7 => (funext fun t8 => (funext fun t9 => zz88_in2 N l0 set1 t7 t8 t9)))))]
  rfl
theorem fn_zz88 : FnOk Try.prog 76 := ⟨_, Try.func76, by kernel_rfl, by kernel_rfl⟩
theorem good_zz88 : Gx.Good Try.prog 76 S_zz88 := good_of_run Try.func76 (of_decide_eq_true (by kernel_rfl)) fun x r h => ⟨A_zz88, big, mkCfg_ok tabOk, mkCfg_sigs (show SigsOk Try.prog [(52, S_zz53), (54, S_zz66), (117, S_zz87), (118, S_zz36)] from ⟨⟨fn_zz53, good_zz53⟩, ⟨fn_zz66, good_zz66⟩, ⟨fn_zz87, good_zz87⟩, ⟨fn_zz36, good_zz36⟩, trivial⟩), (run_zz88 big x).trans h⟩

/-! zz89 -/
def zz89_s (p_0 : Y2) (set_1 : Y4) : Option ((Y4 × (Bool × Unit)) × Unit) :=
  (zz46 p_0).bind fun rq1 =>
  cond (!rq1.1.2.1)
  (some (([], false, ()), (())))
  ((zz88 big rq1.1.1 set_1).bind fun rq2 =>
  cond (!rq2.1)
  (some (([], false, ()), (())))
  ((zz61 big rq1.1.1 set_1).bind fun rq3 =>
  some ((rq3.1, true, ()), (()))))
def zz89 (p_0 : Y2) (set_1 : Y4) : Option ((Y4 × (Bool × Unit)) × Unit) := zz89_s p_0 set_1
def S_zz89 : Sig := { a := (.pair (.pair (.sl (.sl I)) .unit) (.pair (.sl I) .unit)), md := [0, 0], mf := [], m := .unit, r := (.tup (.pair (.sl I) (.pair .bool .unit))), rf := (.p (.o .i) .i), f := fun x => zz89 x.1 x.2.1 }
def A_zz89 : Cfg := mkCfg tab [(51, S_zz46), (76, S_zz88), (77, S_zz61)] []
theorem run_zz89 (N : Nat) (x : (S_zz89).a.den) : runF (A_zz89) N Try.f35 S_zz89 x = zz89 x.1 x.2.1 := by kernel_rfl
theorem fn_zz89 : FnOk Try.prog 35 := ⟨_, Try.func35, by kernel_rfl, by kernel_rfl⟩
theorem good_zz89 : Gx.Good Try.prog 35 S_zz89 := good_of_run Try.func35 (of_decide_eq_true (by kernel_rfl)) fun x r h => ⟨A_zz89, big, mkCfg_ok tabOk, mkCfg_sigs (show SigsOk Try.prog [(51, S_zz46), (76, S_zz88), (77, S_zz61)] from ⟨⟨fn_zz46, good_zz46⟩, ⟨fn_zz88, good_zz88⟩, ⟨fn_zz61, good_zz61⟩, trivial⟩), (run_zz89 big x).trans h⟩

/-! zz90 -/
def zz90_b2 (rec : Y4 → Int → Int → Option (Int × Unit)) (k : Int → Option (Int × Unit)) (a0 : Y4) (k1 : Int) (i5 : Int) : Option (Int × Unit) :=
  cond (decide (i5 < (a0.length : Int)))
  ((atI a0 i5).bind fun xq1 =>
  cond (decide (xq1 ≠ k1))
  (some ((-1 : Int), (())))
  (rec a0 (IntKind.i64.wrap (k1 + (1 : Int))) (IntKind.i64.wrap (i5 + (1 : Int)))))
  (k k1)
def zz90_a2 (k1 : Int) : Option (Int × Unit) :=
  some (k1, (()))
def zz90_s (L2 : Y4 → Int → Int → Option (Int × Unit)) (a_0 : Y4) (k_1 : Int) : Option (Int × Unit) :=
  L2 a_0 k_1 (0 : Int)
def zz90_l2 (N : Nat) (k : Int → Option (Int × Unit)) : Nat → Y4 → Int → Int → Option (Int × Unit)
  | 0, _, _, _ => none
  | m + 1, a0, k1, i5 => zz90_b2 (zz90_l2 N k m) k a0 k1 i5
def zz90_F2 (N : Nat) (a0 : Y4) (k1 : Int) (i5 : Int) : Option (Int × Unit) := zz90_l2 N (zz90_a2) N a0 k1 i5
def zz90 (N : Nat) (a_0 : Y4) (k_1 : Int) : Option (Int × Unit) := zz90_s (zz90_F2 N) a_0 k_1
def S_zz90 : Sig := { a := (.pair (.sl I) (.pair I .unit)), md := [0, 0], mf := [], m := .unit, r := I, rf := .i, f := fun x => zz90 big x.1 x.2.1 }
def A_zz90 : Cfg := mkCfg tab [] [(4, [.as (.sl I) .i, .as I .i, .drop, .drop, .drop, .as I .i]), (15, [.drop, .as I .i])]
noncomputable def zz90_R2 (N n : Nat) (K : Ex → St → Option (Int × Unit)) (a0 : Y4) (k1 : Int) (i5 : Int) : Option (Int × Unit) := iter ((A_zz90).shape 4) (run (A_zz90) N (codeAt Try.f25 [1, 0, 1, 0, 0])) n ([.val (.sl I) .i a0, .val I .i k1, .u, .u, .u, .val I .i i5] ++ List.replicate 15 .u) K
noncomputable abbrev zz90_z : Ex → St → Option (Int × Unit) := finish (A_zz90) S_zz90 Try.f25.results.toList
noncomputable abbrev zz90_X2 (kX : St → Option (Int × Unit)) : Int → Option (Int × Unit) := fun (k1 : Int) => kX ([.u, .val I .i k1] ++ List.replicate 19 .u)
noncomputable abbrev zz90_E2 (kX : St → Option (Int × Unit)) (kO : Nat → St → Option (Int × Unit)) : Ex → St → Option (Int × Unit) := exK zz90_z 0 ((A_zz90).shape 15) kX kO
theorem zz90_step2 (N : Nat) (m : Nat) (kX : St → Option (Int × Unit)) (kO : Nat → St → Option (Int × Unit)) (a0 : Y4) (k1 : Int) (i5 : Int) : zz90_R2 N (m + 1) (zz90_E2 kX kO) a0 k1 i5 = zz90_b2 (zz90_R2 N m (zz90_E2 kX kO)) (zz90_X2 kX) a0 k1 i5 := by kernel_rfl
theorem zz90_iter2 (N : Nat) (kX : St → Option (Int × Unit)) (kO : Nat → St → Option (Int × Unit)) : ∀ (n : Nat) (a0 : Y4) (k1 : Int) (i5 : Int), zz90_R2 N n (zz90_E2 kX kO) a0 k1 i5 = zz90_l2 N (zz90_X2 kX) n a0 k1 i5
  | 0, _, _, _ => rfl
  | m + 1, a0, k1, i5 => by
    have hrec : zz90_R2 N m (zz90_E2 kX kO) = (zz90_l2 N (zz90_X2 kX) m) := (funext fun a0 => (funext fun k1 => (funext fun i5 => zz90_iter2 N kX kO m a0 k1 i5)))
    refine (zz90_step2 N m kX kO a0 k1 i5).trans ?_
    rw [hrec]
    rfl
noncomputable abbrev zz90_K2 (N : Nat) : Ex → St → Option (Int × Unit) := (blockK 0 (seqK ((A_zz90).shape 15) (run (A_zz90) N (codeAt Try.f25 [1, 1])) zz90_z))
noncomputable abbrev zz90_k2 (N : Nat) : St → Option (Int × Unit) := fun st' => run (A_zz90) N (codeAt Try.f25 [1, 1]) st' zz90_z
theorem zz90_after2 (N : Nat) (k1 : Int) : zz90_X2 (zz90_k2 N) k1 = zz90_a2 k1 := by kernel_rfl
theorem zz90_in2 (N : Nat) (a0 : Y4) (k1 : Int) (i5 : Int) : zz90_R2 N N (zz90_K2 N) a0 k1 i5 = zz90_F2 N a0 k1 i5 :=
  have h : zz90_X2 (zz90_k2 N) = (zz90_a2) := (funext fun k1 => zz90_after2 N k1)
  ((iter_ex (fun st => by kernel_rfl) (fun st => by kernel_rfl)).trans (zz90_iter2 N (zz90_k2 N) (fun j st => (zz90_K2 N) (.exit j) st) N a0 k1 i5)).trans (congrArg (fun k => zz90_l2 N k N a0 k1 i5) h)
theorem run0_zz90 (N : Nat) (x : (S_zz90).a.den) : runF (A_zz90) N Try.f25 S_zz90 x = (zz90_s (zz90_R2 N N (zz90_K2 N)) x.1 x.2.1) := by kernel_rfl
theorem run_zz90 (N : Nat) (x : (S_zz90).a.den) : runF (A_zz90) N Try.f25 S_zz90 x = zz90 N x.1 x.2.1 := by
  refine (run0_zz90 N x).trans ?_
  rw [(funext fun a0 => (funext fun k1 => (funext fun i5 => zz90_in2 N a0 k1 i5)))]
  rfl
theorem fn_zz90 : FnOk Try.prog 25 := ⟨_, Try.func25, by kernel_rfl, by kernel_rfl⟩
theorem good_zz90 : Gx.Good Try.prog 25 S_zz90 := good_of_run Try.func25 (of_decide_eq_true (by kernel_rfl)) fun x r h => ⟨A_zz90, big, mkCfg_ok tabOk, mkCfg_sigs (show SigsOk Try.prog [] from trivial), (run_zz90 big x).trans h⟩

/-! laws_FnExactCongruenceOfSet -/
def laws_FnExactCongruenceOfSet_s (aP_0 : Y2) (aSet_1 : Y4) : Option (Bool × Unit) :=
  cond (decide ((1048576 : Int) < (aSet_1.length : Int)))
  (some (true, (())))
  ((zz2 aP_0 (1048576 : Int)).bind fun rq1 =>
  cond (decide (rq1.1 < (0 : Int)))
  (some (true, (())))
  ((zz5 aP_0).bind fun rq2 =>
  (zz3 big aSet_1).bind fun rq3 =>
  (zz86 big rq2.1 rq3.1).bind fun rq4 =>
  (zz5 aP_0).bind fun rq5 =>
  (zz3 big aSet_1).bind fun rq6 =>
  (zz89 rq5.1 rq6.1).bind fun rq7 =>
  (zz69 big rq7.1.1 rq4.1.1).bind fun rq8 =>
  cond (!rq8.1)
  (some (false, (())))
  (cond (((((), rq7.1.2).2).1) != rq4.1.2.1)
  (some (false, (())))
  ((zz5 aP_0).bind fun rq9 =>
  (zz71 rq5.1 rq9.1).bind fun rq10 =>
  cond (!rq10.1)
  (some (false, (())))
  ((zz3 big aSet_1).bind fun rq11 =>
  (zz69 big rq6.1 rq11.1).bind fun rq12 =>
  cond (!rq12.1)
  (some (false, (())))
  ((zz78 rq5.1 (1 : Int)).bind fun rq13 =>
  (zz76 big rq6.1 rq13.1).bind fun rq14 =>
  cond (decide (rq14.1 < (0 : Int)))
  (some (false, (())))
  ((zz69 big rq7.1.1 rq4.1.1).bind fun rq15 =>
  cond (!rq15.1)
  (some (false, (())))
  (cond (((((), rq7.1.2).2).1) != rq4.1.2.1)
  (some (false, (())))
  ((zz76 big rq7.1.1 (1 : Int)).bind fun rq16 =>
  (zz90 big rq16.2.1 (1 : Int)).bind fun rq17 =>
  cond (decide (rq17.1 < (0 : Int)))
  (some (false, (())))
  (cond (decide (rq17.1 ≠ rq16.1))
  (some (false, (())))
  ((zz5 aP_0).bind fun rq18 =>
  (zz3 big aSet_1).bind fun rq19 =>
  (zz89 rq18.1 rq19.1).bind fun rq20 =>
  (zz69 big rq20.1.1 rq4.1.1).bind fun rq21 =>
  cond (!rq21.1)
  (some (false, (())))
  (cond (((((), rq20.1.2).2).1) != rq4.1.2.1)
  (some (false, (())))
  ((zz90 big rq16.2.1 (1 : Int)).bind fun rq22 =>
  cond (decide (rq22.1 < (0 : Int)))
  (some (false, (())))
  (cond (decide (rq22.1 ≠ rq16.1))
  (some (false, (())))
  (some (true, (())))))))))))))))))
def laws_FnExactCongruenceOfSet (aP_0 : Y2) (aSet_1 : Y4) : Option (Bool × Unit) := laws_FnExactCongruenceOfSet_s aP_0 aSet_1
def S_laws_FnExactCongruenceOfSet : Sig := { a := (.pair (.pair (.sl (.sl I)) .unit) (.pair (.sl I) .unit)), md := [0, 0], mf := [], m := .unit, r := .bool, rf := .i, f := fun x => laws_FnExactCongruenceOfSet x.1 x.2.1 }
def A_laws_FnExactCongruenceOfSet : Cfg := mkCfg tab [(9, S_zz2), (11, S_zz5), (21, S_zz3), (34, S_zz86), (35, S_zz89), (23, S_zz69), (14, S_zz71), (15, S_zz78), (24, S_zz76), (25, S_zz90)] []
theorem run_laws_FnExactCongruenceOfSet (N : Nat) (x : (S_laws_FnExactCongruenceOfSet).a.den) : runF (A_laws_FnExactCongruenceOfSet) N Try.f8 S_laws_FnExactCongruenceOfSet x = laws_FnExactCongruenceOfSet x.1 x.2.1 := by kernel_rfl
theorem fn_laws_FnExactCongruenceOfSet : FnOk Try.prog 8 := ⟨_, Try.func8, by kernel_rfl, by kernel_rfl⟩
theorem good_laws_FnExactCongruenceOfSet : Gx.Good Try.prog 8 S_laws_FnExactCongruenceOfSet := good_of_run Try.func8 (of_decide_eq_true (by kernel_rfl)) fun x r h => ⟨A_laws_FnExactCongruenceOfSet, big, mkCfg_ok tabOk, mkCfg_sigs (show SigsOk Try.prog [(9, S_zz2), (11, S_zz5), (21, S_zz3), (34, S_zz86), (35, S_zz89), (23, S_zz69), (14, S_zz71), (15, S_zz78), (24, S_zz76), (25, S_zz90)] from ⟨⟨fn_zz2, good_zz2⟩, ⟨fn_zz5, good_zz5⟩, ⟨fn_zz3, good_zz3⟩, ⟨fn_zz86, good_zz86⟩, ⟨fn_zz89, good_zz89⟩, ⟨fn_zz69, good_zz69⟩, ⟨fn_zz71, good_zz71⟩, ⟨fn_zz78, good_zz78⟩, ⟨fn_zz76, good_zz76⟩, ⟨fn_zz90, good_zz90⟩, trivial⟩), (run_laws_FnExactCongruenceOfSet big x).trans h⟩
end Go.Proofs.Ytmkabioglfeflaa
