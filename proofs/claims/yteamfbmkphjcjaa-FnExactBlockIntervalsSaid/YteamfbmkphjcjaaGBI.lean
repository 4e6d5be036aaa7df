import Derived.Test.YteamfbmkphjcjaaWBI
set_option maxRecDepth 100000
set_option linter.unusedVariables false
namespace Go.Proofs.Yteamfbmkphjcjaa
open Go Go.Gx Go.Proofs
noncomputable section

/-! zz48 -/
def zz48_b3 (rec : Y1 → Int → Int → Int → Option (Int × Unit)) (k : Int → Option (Int × Unit)) (l0 : Y1) (t3 : Int) (t9 : Int) (t10 : Int) : Option (Int × Unit) :=
  cond (decide (t10 < t9))
  ((l0).bind fun xq2 =>
  (atI xq2.2.2.1 t3).bind fun xq3 =>
  (atI xq3 t10).bind fun xq4 =>
  rec l0 xq4 t9 (IntKind.i64.wrap (t10 + (1 : Int))))
  (k t3)
def zz48_a3 (t3 : Int) : Option (Int × Unit) :=
  some (t3, (()))
def zz48_s (L3 : Y1 → Int → Int → Int → Option (Int × Unit)) (l_0 : Y1) : Option (Int × Unit) :=
  (l_0).bind fun xq1 =>
  L3 l_0 (0 : Int) (xq1.1.length : Int) (0 : Int)
def zz48_l3 (N : Nat) (k : Int → Option (Int × Unit)) : Nat → Y1 → Int → Int → Int → Option (Int × Unit)
  | 0, _, _, _, _ => none
  | m + 1, l0, t3, t9, t10 => zz48_b3 (zz48_l3 N k m) k l0 t3 t9 t10
def zz48_F3 (N : Nat) (l0 : Y1) (t3 : Int) (t9 : Int) (t10 : Int) : Option (Int × Unit) := zz48_l3 N (zz48_a3) N l0 t3 t9 t10
def zz48 (N : Nat) (l_0 : Y1) : Option (Int × Unit) := zz48_s (zz48_F3 N) l_0
def S_zz48 : Sig := { a := (.pair (.opt (.pair (.sl (.sl .bool)) (.pair (.sl (.sl I)) (.pair (.sl (.sl I)) .unit)))) .unit), md := [0], mf := [], m := .unit, r := I, rf := .i, f := fun x => zz48 big x.1 }
def A_zz48 : Cfg := mkCfg tab [] [(6, [.as (.opt (.pair (.sl (.sl .bool)) (.pair (.sl (.sl I)) (.pair (.sl (.sl I)) .unit)))) .i, .drop, .drop, .as I .i, .drop, .drop, .drop, .drop, .drop, .as I .i, .as I .i]), (15, [.drop, .drop, .drop, .as I .i])]
noncomputable def zz48_R3 (N n : Nat) (K : Ex → St → Option (Int × Unit)) (l0 : Y1) (t3 : Int) (t9 : Int) (t10 : Int) : Option (Int × Unit) := iter ((A_zz48).shape 6) (run (A_zz48) N (codeAt Try.f45 [1, 1, 0, 1, 0, 0])) n ([.val (.opt (.pair (.sl (.sl .bool)) (.pair (.sl (.sl I)) (.pair (.sl (.sl I)) .unit)))) .i l0, .u, .u, .val I .i t3, .u, .u, .u, .u, .u, .val I .i t9, .val I .i t10] ++ List.replicate 14 .u) K
noncomputable abbrev zz48_z : Ex → St → Option (Int × Unit) := finish (A_zz48) S_zz48 Try.f45.results.toList
noncomputable abbrev zz48_X3 (kX : St → Option (Int × Unit)) : Int → Option (Int × Unit) := fun (t3 : Int) => kX ([.u, .u, .u, .val I .i t3] ++ List.replicate 21 .u)
noncomputable abbrev zz48_E3 (kX : St → Option (Int × Unit)) (kO : Nat → St → Option (Int × Unit)) : Ex → St → Option (Int × Unit) := exK zz48_z 0 ((A_zz48).shape 15) kX kO
theorem zz48_step3 (N : Nat) (m : Nat) (kX : St → Option (Int × Unit)) (kO : Nat → St → Option (Int × Unit)) (l0 : Y1) (t3 : Int) (t9 : Int) (t10 : Int) : zz48_R3 N (m + 1) (zz48_E3 kX kO) l0 t3 t9 t10 = zz48_b3 (zz48_R3 N m (zz48_E3 kX kO)) (zz48_X3 kX) l0 t3 t9 t10 := by kernel_rfl
theorem zz48_iter3 (N : Nat) (kX : St → Option (Int × Unit)) (kO : Nat → St → Option (Int × Unit)) : ∀ (n : Nat) (l0 : Y1) (t3 : Int) (t9 : Int) (t10 : Int), zz48_R3 N n (zz48_E3 kX kO) l0 t3 t9 t10 = zz48_l3 N (zz48_X3 kX) n l0 t3 t9 t10
  | 0, _, _, _, _ => rfl
  | m + 1, l0, t3, t9, t10 => by
    have hrec : zz48_R3 N m (zz48_E3 kX kO) = (zz48_l3 N (zz48_X3 kX) m) := (funext fun l0 => (funext fun t3 => (funext fun t9 => (funext fun t10 => zz48_iter3 N kX kO m l0 t3 t9 t10))))
    refine (zz48_step3 N m kX kO l0 t3 t9 t10).trans ?_
    rw [hrec]
    rfl
noncomputable abbrev zz48_K3 (N : Nat) : Ex → St → Option (Int × Unit) := (blockK 0 (seqK ((A_zz48).shape 15) (run (A_zz48) N (codeAt Try.f45 [1, 1, 1])) zz48_z))
noncomputable abbrev zz48_k3 (N : Nat) : St → Option (Int × Unit) := fun st' => run (A_zz48) N (codeAt Try.f45 [1, 1, 1]) st' zz48_z
theorem zz48_after3 (N : Nat) (t3 : Int) : zz48_X3 (zz48_k3 N) t3 = zz48_a3 t3 := by kernel_rfl
theorem zz48_in3 (N : Nat) (l0 : Y1) (t3 : Int) (t9 : Int) (t10 : Int) : zz48_R3 N N (zz48_K3 N) l0 t3 t9 t10 = zz48_F3 N l0 t3 t9 t10 :=
  have h : zz48_X3 (zz48_k3 N) = (zz48_a3) := (funext fun t3 => zz48_after3 N t3)
  ((iter_ex (fun st => by kernel_rfl) (fun st => by kernel_rfl)).trans (zz48_iter3 N (zz48_k3 N) (fun j st => (zz48_K3 N) (.exit j) st) N l0 t3 t9 t10)).trans (congrArg (fun k => zz48_l3 N k N l0 t3 t9 t10) h)
theorem run0_zz48 (N : Nat) (x : (S_zz48).a.den) : runF (A_zz48) N Try.f45 S_zz48 x = (zz48_s (zz48_R3 N N (zz48_K3 N)) x.1) := by kernel_rfl
theorem run_zz48 (N : Nat) (x : (S_zz48).a.den) : runF (A_zz48) N Try.f45 S_zz48 x = zz48 N x.1 := by
  refine (run0_zz48 N x).trans ?_
  rw [(funext fun l0 => (funext fun t3 => (funext fun t9 => (funext fun t10 => zz48_in3 N l0 t3 t9 t10))))]
  rfl
theorem fn_zz48 : FnOk Try.prog 45 := ⟨_, Try.func45, by kernel_rfl, by kernel_rfl⟩
theorem good_zz48 : Gx.Good Try.prog 45 S_zz48 := good_of_run Try.func45 (of_decide_eq_true (by kernel_rfl)) fun x r h => ⟨A_zz48, big, mkCfg_ok tabOk, mkCfg_sigs (show SigsOk Try.prog [] from trivial), (run_zz48 big x).trans h⟩

/-! zz49 -/
def zz49_b3 (rec : Y1 → Int → Y4 → Int → Int → Option (Int × Unit)) (k : Int → Option (Int × Unit)) (l0 : Y1) (m5 : Int) (t10 : Y4) (t11 : Int) (t12 : Int) : Option (Int × Unit) :=
  cond (decide (t12 < t11))
  ((atI t10 t12).bind fun xq2 =>
  (l0).bind fun xq3 =>
  (atI xq3.2.1 m5).bind fun xq4 =>
  (atI xq4 xq2).bind fun xq5 =>
  rec l0 xq5 t10 t11 (IntKind.i64.wrap (t12 + (1 : Int))))
  (k m5)
def zz49_a3 (m5 : Int) : Option (Int × Unit) :=
  some (m5, (()))
def zz49_s (L3 : Y1 → Int → Y4 → Int → Int → Option (Int × Unit)) (l_0 : Y1) (list_1 : Y4) : Option (Int × Unit) :=
  (zz48 big l_0).bind fun rq1 =>
  L3 l_0 rq1.1 list_1 (list_1.length : Int) (0 : Int)
def zz49_l3 (N : Nat) (k : Int → Option (Int × Unit)) : Nat → Y1 → Int → Y4 → Int → Int → Option (Int × Unit)
  | 0, _, _, _, _, _ => none
  | m + 1, l0, m5, t10, t11, t12 => zz49_b3 (zz49_l3 N k m) k l0 m5 t10 t11 t12
def zz49_F3 (N : Nat) (l0 : Y1) (m5 : Int) (t10 : Y4) (t11 : Int) (t12 : Int) : Option (Int × Unit) := zz49_l3 N (zz49_a3) N l0 m5 t10 t11 t12
def zz49 (N : Nat) (l_0 : Y1) (list_1 : Y4) : Option (Int × Unit) := zz49_s (zz49_F3 N) l_0 list_1
def S_zz49 : Sig := { a := (.pair (.opt (.pair (.sl (.sl .bool)) (.pair (.sl (.sl I)) (.pair (.sl (.sl I)) .unit)))) (.pair (.sl I) .unit)), md := [0, 0], mf := [], m := .unit, r := I, rf := .i, f := fun x => zz49 big x.1 x.2.1 }
def A_zz49 : Cfg := mkCfg tab [(45, S_zz48)] [(6, [.as (.opt (.pair (.sl (.sl .bool)) (.pair (.sl (.sl I)) (.pair (.sl (.sl I)) .unit)))) .i, .drop, .drop, .drop, .drop, .as I .i, .drop, .drop, .drop, .drop, .as (.sl I) .i, .as I .i, .as I .i]), (15, [.drop, .drop, .drop, .drop, .drop, .as I .i])]
noncomputable def zz49_R3 (N n : Nat) (K : Ex → St → Option (Int × Unit)) (l0 : Y1) (m5 : Int) (t10 : Y4) (t11 : Int) (t12 : Int) : Option (Int × Unit) := iter ((A_zz49).shape 6) (run (A_zz49) N (codeAt Try.f28 [1, 1, 0, 1, 0, 0])) n ([.val (.opt (.pair (.sl (.sl .bool)) (.pair (.sl (.sl I)) (.pair (.sl (.sl I)) .unit)))) .i l0, .u, .u, .u, .u, .val I .i m5, .u, .u, .u, .u, .val (.sl I) .i t10, .val I .i t11, .val I .i t12] ++ List.replicate 15 .u) K
noncomputable abbrev zz49_z : Ex → St → Option (Int × Unit) := finish (A_zz49) S_zz49 Try.f28.results.toList
noncomputable abbrev zz49_X3 (kX : St → Option (Int × Unit)) : Int → Option (Int × Unit) := fun (m5 : Int) => kX ([.u, .u, .u, .u, .u, .val I .i m5] ++ List.replicate 22 .u)
noncomputable abbrev zz49_E3 (kX : St → Option (Int × Unit)) (kO : Nat → St → Option (Int × Unit)) : Ex → St → Option (Int × Unit) := exK zz49_z 0 ((A_zz49).shape 15) kX kO
theorem zz49_step3 (N : Nat) (m : Nat) (kX : St → Option (Int × Unit)) (kO : Nat → St → Option (Int × Unit)) (l0 : Y1) (m5 : Int) (t10 : Y4) (t11 : Int) (t12 : Int) : zz49_R3 N (m + 1) (zz49_E3 kX kO) l0 m5 t10 t11 t12 = zz49_b3 (zz49_R3 N m (zz49_E3 kX kO)) (zz49_X3 kX) l0 m5 t10 t11 t12 := by kernel_rfl
theorem zz49_iter3 (N : Nat) (kX : St → Option (Int × Unit)) (kO : Nat → St → Option (Int × Unit)) : ∀ (n : Nat) (l0 : Y1) (m5 : Int) (t10 : Y4) (t11 : Int) (t12 : Int), zz49_R3 N n (zz49_E3 kX kO) l0 m5 t10 t11 t12 = zz49_l3 N (zz49_X3 kX) n l0 m5 t10 t11 t12
  | 0, _, _, _, _, _ => rfl
  | m + 1, l0, m5, t10, t11, t12 => by
    have hrec : zz49_R3 N m (zz49_E3 kX kO) = (zz49_l3 N (zz49_X3 kX) m) := (funext fun l0 => (funext fun m5 => (funext fun t10 => (funext fun t11 => (funext fun t12 => zz49_iter3 N kX kO m l0 m5 t10 t11 t12)))))
    refine (zz49_step3 N m kX kO l0 m5 t10 t11 t12).trans ?_
    rw [hrec]
    rfl
noncomputable abbrev zz49_K3 (N : Nat) : Ex → St → Option (Int × Unit) := (blockK 0 (seqK ((A_zz49).shape 15) (run (A_zz49) N (codeAt Try.f28 [1, 1, 1])) zz49_z))
noncomputable abbrev zz49_k3 (N : Nat) : St → Option (Int × Unit) := fun st' => run (A_zz49) N (codeAt Try.f28 [1, 1, 1]) st' zz49_z
theorem zz49_after3 (N : Nat) (m5 : Int) : zz49_X3 (zz49_k3 N) m5 = zz49_a3 m5 := by kernel_rfl
theorem zz49_in3 (N : Nat) (l0 : Y1) (m5 : Int) (t10 : Y4) (t11 : Int) (t12 : Int) : zz49_R3 N N (zz49_K3 N) l0 m5 t10 t11 t12 = zz49_F3 N l0 m5 t10 t11 t12 :=
  have h : zz49_X3 (zz49_k3 N) = (zz49_a3) := (funext fun m5 => zz49_after3 N m5)
  ((iter_ex (fun st => by kernel_rfl) (fun st => by kernel_rfl)).trans (zz49_iter3 N (zz49_k3 N) (fun j st => (zz49_K3 N) (.exit j) st) N l0 m5 t10 t11 t12)).trans (congrArg (fun k => zz49_l3 N k N l0 m5 t10 t11 t12) h)
theorem run0_zz49 (N : Nat) (x : (S_zz49).a.den) : runF (A_zz49) N Try.f28 S_zz49 x = (zz49_s (zz49_R3 N N (zz49_K3 N)) x.1 x.2.1) := by kernel_rfl
theorem run_zz49 (N : Nat) (x : (S_zz49).a.den) : runF (A_zz49) N Try.f28 S_zz49 x = zz49 N x.1 x.2.1 := by
  refine (run0_zz49 N x).trans ?_
  rw [(funext fun l0 => (funext fun m5 => (funext fun t10 => (funext fun t11 => (funext fun t12 => zz49_in3 N l0 m5 t10 t11 t12)))))]
  rfl
theorem fn_zz49 : FnOk Try.prog 28 := ⟨_, Try.func28, by kernel_rfl, by kernel_rfl⟩
theorem good_zz49 : Gx.Good Try.prog 28 S_zz49 := good_of_run Try.func28 (of_decide_eq_true (by kernel_rfl)) fun x r h => ⟨A_zz49, big, mkCfg_ok tabOk, mkCfg_sigs (show SigsOk Try.prog [(45, S_zz48)] from ⟨⟨fn_zz48, good_zz48⟩, trivial⟩), (run_zz49 big x).trans h⟩

/-! zz50 -/
def zz50_b3 (rec : Y1 → Int → Int → Int → Option (Int × Unit)) (k : Int → Option (Int × Unit)) (l0 : Y1) (b3 : Int) (t9 : Int) (t10 : Int) : Option (Int × Unit) :=
  cond (decide (t10 < t9))
  ((l0).bind fun xq2 =>
  (atI xq2.2.1 b3).bind fun xq3 =>
  (atI xq3 t10).bind fun xq4 =>
  rec l0 xq4 t9 (IntKind.i64.wrap (t10 + (1 : Int))))
  (k b3)
def zz50_a3 (b3 : Int) : Option (Int × Unit) :=
  some (b3, (()))
def zz50_s (L3 : Y1 → Int → Int → Int → Option (Int × Unit)) (l_0 : Y1) : Option (Int × Unit) :=
  (l_0).bind fun xq1 =>
  L3 l_0 (0 : Int) (xq1.1.length : Int) (0 : Int)
def zz50_l3 (N : Nat) (k : Int → Option (Int × Unit)) : Nat → Y1 → Int → Int → Int → Option (Int × Unit)
  | 0, _, _, _, _ => none
  | m + 1, l0, b3, t9, t10 => zz50_b3 (zz50_l3 N k m) k l0 b3 t9 t10
def zz50_F3 (N : Nat) (l0 : Y1) (b3 : Int) (t9 : Int) (t10 : Int) : Option (Int × Unit) := zz50_l3 N (zz50_a3) N l0 b3 t9 t10
def zz50 (N : Nat) (l_0 : Y1) : Option (Int × Unit) := zz50_s (zz50_F3 N) l_0
def S_zz50 : Sig := { a := (.pair (.opt (.pair (.sl (.sl .bool)) (.pair (.sl (.sl I)) (.pair (.sl (.sl I)) .unit)))) .unit), md := [0], mf := [], m := .unit, r := I, rf := .i, f := fun x => zz50 big x.1 }
def A_zz50 : Cfg := mkCfg tab [] [(6, [.as (.opt (.pair (.sl (.sl .bool)) (.pair (.sl (.sl I)) (.pair (.sl (.sl I)) .unit)))) .i, .drop, .drop, .as I .i, .drop, .drop, .drop, .drop, .drop, .as I .i, .as I .i]), (15, [.drop, .drop, .drop, .as I .i])]
noncomputable def zz50_R3 (N n : Nat) (K : Ex → St → Option (Int × Unit)) (l0 : Y1) (b3 : Int) (t9 : Int) (t10 : Int) : Option (Int × Unit) := iter ((A_zz50).shape 6) (run (A_zz50) N (codeAt Try.f46 [1, 1, 0, 1, 0, 0])) n ([.val (.opt (.pair (.sl (.sl .bool)) (.pair (.sl (.sl I)) (.pair (.sl (.sl I)) .unit)))) .i l0, .u, .u, .val I .i b3, .u, .u, .u, .u, .u, .val I .i t9, .val I .i t10] ++ List.replicate 14 .u) K
noncomputable abbrev zz50_z : Ex → St → Option (Int × Unit) := finish (A_zz50) S_zz50 Try.f46.results.toList
noncomputable abbrev zz50_X3 (kX : St → Option (Int × Unit)) : Int → Option (Int × Unit) := fun (b3 : Int) => kX ([.u, .u, .u, .val I .i b3] ++ List.replicate 21 .u)
noncomputable abbrev zz50_E3 (kX : St → Option (Int × Unit)) (kO : Nat → St → Option (Int × Unit)) : Ex → St → Option (Int × Unit) := exK zz50_z 0 ((A_zz50).shape 15) kX kO
theorem zz50_step3 (N : Nat) (m : Nat) (kX : St → Option (Int × Unit)) (kO : Nat → St → Option (Int × Unit)) (l0 : Y1) (b3 : Int) (t9 : Int) (t10 : Int) : zz50_R3 N (m + 1) (zz50_E3 kX kO) l0 b3 t9 t10 = zz50_b3 (zz50_R3 N m (zz50_E3 kX kO)) (zz50_X3 kX) l0 b3 t9 t10 := by kernel_rfl
theorem zz50_iter3 (N : Nat) (kX : St → Option (Int × Unit)) (kO : Nat → St → Option (Int × Unit)) : ∀ (n : Nat) (l0 : Y1) (b3 : Int) (t9 : Int) (t10 : Int), zz50_R3 N n (zz50_E3 kX kO) l0 b3 t9 t10 = zz50_l3 N (zz50_X3 kX) n l0 b3 t9 t10
  | 0, _, _, _, _ => rfl
  | m + 1, l0, b3, t9, t10 => by
    have hrec : zz50_R3 N m (zz50_E3 kX kO) = (zz50_l3 N (zz50_X3 kX) m) := (funext fun l0 => (funext fun b3 => (funext fun t9 => (funext fun t10 => zz50_iter3 N kX kO m l0 b3 t9 t10))))
    refine (zz50_step3 N m kX kO l0 b3 t9 t10).trans ?_
    rw [hrec]
    rfl
noncomputable abbrev zz50_K3 (N : Nat) : Ex → St → Option (Int × Unit) := (blockK 0 (seqK ((A_zz50).shape 15) (run (A_zz50) N (codeAt Try.f46 [1, 1, 1])) zz50_z))
noncomputable abbrev zz50_k3 (N : Nat) : St → Option (Int × Unit) := fun st' => run (A_zz50) N (codeAt Try.f46 [1, 1, 1]) st' zz50_z
theorem zz50_after3 (N : Nat) (b3 : Int) : zz50_X3 (zz50_k3 N) b3 = zz50_a3 b3 := by kernel_rfl
theorem zz50_in3 (N : Nat) (l0 : Y1) (b3 : Int) (t9 : Int) (t10 : Int) : zz50_R3 N N (zz50_K3 N) l0 b3 t9 t10 = zz50_F3 N l0 b3 t9 t10 :=
  have h : zz50_X3 (zz50_k3 N) = (zz50_a3) := (funext fun b3 => zz50_after3 N b3)
  ((iter_ex (fun st => by kernel_rfl) (fun st => by kernel_rfl)).trans (zz50_iter3 N (zz50_k3 N) (fun j st => (zz50_K3 N) (.exit j) st) N l0 b3 t9 t10)).trans (congrArg (fun k => zz50_l3 N k N l0 b3 t9 t10) h)
theorem run0_zz50 (N : Nat) (x : (S_zz50).a.den) : runF (A_zz50) N Try.f46 S_zz50 x = (zz50_s (zz50_R3 N N (zz50_K3 N)) x.1) := by kernel_rfl
theorem run_zz50 (N : Nat) (x : (S_zz50).a.den) : runF (A_zz50) N Try.f46 S_zz50 x = zz50 N x.1 := by
  refine (run0_zz50 N x).trans ?_
  rw [(funext fun l0 => (funext fun b3 => (funext fun t9 => (funext fun t10 => zz50_in3 N l0 b3 t9 t10))))]
  rfl
theorem fn_zz50 : FnOk Try.prog 46 := ⟨_, Try.func46, by kernel_rfl, by kernel_rfl⟩
theorem good_zz50 : Gx.Good Try.prog 46 S_zz50 := good_of_run Try.func46 (of_decide_eq_true (by kernel_rfl)) fun x r h => ⟨A_zz50, big, mkCfg_ok tabOk, mkCfg_sigs (show SigsOk Try.prog [] from trivial), (run_zz50 big x).trans h⟩

/-! zz51 -/
def zz51_b3 (rec : Y1 → Int → Y4 → Int → Int → Option (Int × Unit)) (k : Int → Option (Int × Unit)) (l0 : Y1) (j5 : Int) (t10 : Y4) (t11 : Int) (t12 : Int) : Option (Int × Unit) :=
  cond (decide (t12 < t11))
  ((atI t10 t12).bind fun xq2 =>
  (l0).bind fun xq3 =>
  (atI xq3.2.2.1 j5).bind fun xq4 =>
  (atI xq4 xq2).bind fun xq5 =>
  rec l0 xq5 t10 t11 (IntKind.i64.wrap (t12 + (1 : Int))))
  (k j5)
def zz51_a3 (j5 : Int) : Option (Int × Unit) :=
  some (j5, (()))
def zz51_s (L3 : Y1 → Int → Y4 → Int → Int → Option (Int × Unit)) (l_0 : Y1) (list_1 : Y4) : Option (Int × Unit) :=
  (zz50 big l_0).bind fun rq1 =>
  L3 l_0 rq1.1 list_1 (list_1.length : Int) (0 : Int)
def zz51_l3 (N : Nat) (k : Int → Option (Int × Unit)) : Nat → Y1 → Int → Y4 → Int → Int → Option (Int × Unit)
  | 0, _, _, _, _, _ => none
  | m + 1, l0, j5, t10, t11, t12 => zz51_b3 (zz51_l3 N k m) k l0 j5 t10 t11 t12
def zz51_F3 (N : Nat) (l0 : Y1) (j5 : Int) (t10 : Y4) (t11 : Int) (t12 : Int) : Option (Int × Unit) := zz51_l3 N (zz51_a3) N l0 j5 t10 t11 t12
def zz51 (N : Nat) (l_0 : Y1) (list_1 : Y4) : Option (Int × Unit) := zz51_s (zz51_F3 N) l_0 list_1
def S_zz51 : Sig := { a := (.pair (.opt (.pair (.sl (.sl .bool)) (.pair (.sl (.sl I)) (.pair (.sl (.sl I)) .unit)))) (.pair (.sl I) .unit)), md := [0, 0], mf := [], m := .unit, r := I, rf := .i, f := fun x => zz51 big x.1 x.2.1 }
def A_zz51 : Cfg := mkCfg tab [(46, S_zz50)] [(6, [.as (.opt (.pair (.sl (.sl .bool)) (.pair (.sl (.sl I)) (.pair (.sl (.sl I)) .unit)))) .i, .drop, .drop, .drop, .drop, .as I .i, .drop, .drop, .drop, .drop, .as (.sl I) .i, .as I .i, .as I .i]), (15, [.drop, .drop, .drop, .drop, .drop, .as I .i])]
noncomputable def zz51_R3 (N n : Nat) (K : Ex → St → Option (Int × Unit)) (l0 : Y1) (j5 : Int) (t10 : Y4) (t11 : Int) (t12 : Int) : Option (Int × Unit) := iter ((A_zz51).shape 6) (run (A_zz51) N (codeAt Try.f29 [1, 1, 0, 1, 0, 0])) n ([.val (.opt (.pair (.sl (.sl .bool)) (.pair (.sl (.sl I)) (.pair (.sl (.sl I)) .unit)))) .i l0, .u, .u, .u, .u, .val I .i j5, .u, .u, .u, .u, .val (.sl I) .i t10, .val I .i t11, .val I .i t12] ++ List.replicate 15 .u) K
noncomputable abbrev zz51_z : Ex → St → Option (Int × Unit) := finish (A_zz51) S_zz51 Try.f29.results.toList
noncomputable abbrev zz51_X3 (kX : St → Option (Int × Unit)) : Int → Option (Int × Unit) := fun (j5 : Int) => kX ([.u, .u, .u, .u, .u, .val I .i j5] ++ List.replicate 22 .u)
noncomputable abbrev zz51_E3 (kX : St → Option (Int × Unit)) (kO : Nat → St → Option (Int × Unit)) : Ex → St → Option (Int × Unit) := exK zz51_z 0 ((A_zz51).shape 15) kX kO
theorem zz51_step3 (N : Nat) (m : Nat) (kX : St → Option (Int × Unit)) (kO : Nat → St → Option (Int × Unit)) (l0 : Y1) (j5 : Int) (t10 : Y4) (t11 : Int) (t12 : Int) : zz51_R3 N (m + 1) (zz51_E3 kX kO) l0 j5 t10 t11 t12 = zz51_b3 (zz51_R3 N m (zz51_E3 kX kO)) (zz51_X3 kX) l0 j5 t10 t11 t12 := by kernel_rfl
theorem zz51_iter3 (N : Nat) (kX : St → Option (Int × Unit)) (kO : Nat → St → Option (Int × Unit)) : ∀ (n : Nat) (l0 : Y1) (j5 : Int) (t10 : Y4) (t11 : Int) (t12 : Int), zz51_R3 N n (zz51_E3 kX kO) l0 j5 t10 t11 t12 = zz51_l3 N (zz51_X3 kX) n l0 j5 t10 t11 t12
  | 0, _, _, _, _, _ => rfl
  | m + 1, l0, j5, t10, t11, t12 => by
    have hrec : zz51_R3 N m (zz51_E3 kX kO) = (zz51_l3 N (zz51_X3 kX) m) := (funext fun l0 => (funext fun j5 => (funext fun t10 => (funext fun t11 => (funext fun t12 => zz51_iter3 N kX kO m l0 j5 t10 t11 t12)))))
    refine (zz51_step3 N m kX kO l0 j5 t10 t11 t12).trans ?_
    rw [hrec]
    rfl
noncomputable abbrev zz51_K3 (N : Nat) : Ex → St → Option (Int × Unit) := (blockK 0 (seqK ((A_zz51).shape 15) (run (A_zz51) N (codeAt Try.f29 [1, 1, 1])) zz51_z))
noncomputable abbrev zz51_k3 (N : Nat) : St → Option (Int × Unit) := fun st' => run (A_zz51) N (codeAt Try.f29 [1, 1, 1]) st' zz51_z
theorem zz51_after3 (N : Nat) (j5 : Int) : zz51_X3 (zz51_k3 N) j5 = zz51_a3 j5 := by kernel_rfl
theorem zz51_in3 (N : Nat) (l0 : Y1) (j5 : Int) (t10 : Y4) (t11 : Int) (t12 : Int) : zz51_R3 N N (zz51_K3 N) l0 j5 t10 t11 t12 = zz51_F3 N l0 j5 t10 t11 t12 :=
  have h : zz51_X3 (zz51_k3 N) = (zz51_a3) := (funext fun j5 => zz51_after3 N j5)
  ((iter_ex (fun st => by kernel_rfl) (fun st => by kernel_rfl)).trans (zz51_iter3 N (zz51_k3 N) (fun j st => (zz51_K3 N) (.exit j) st) N l0 j5 t10 t11 t12)).trans (congrArg (fun k => zz51_l3 N k N l0 j5 t10 t11 t12) h)
theorem run0_zz51 (N : Nat) (x : (S_zz51).a.den) : runF (A_zz51) N Try.f29 S_zz51 x = (zz51_s (zz51_R3 N N (zz51_K3 N)) x.1 x.2.1) := by kernel_rfl
theorem run_zz51 (N : Nat) (x : (S_zz51).a.den) : runF (A_zz51) N Try.f29 S_zz51 x = zz51 N x.1 x.2.1 := by
  refine (run0_zz51 N x).trans ?_
  rw [(funext fun l0 => (funext fun j5 => (funext fun t10 => (funext fun t11 => (funext fun t12 => zz51_in3 N l0 j5 t10 t11 t12)))))]
  rfl
theorem fn_zz51 : FnOk Try.prog 29 := ⟨_, Try.func29, by kernel_rfl, by kernel_rfl⟩
theorem good_zz51 : Gx.Good Try.prog 29 S_zz51 := good_of_run Try.func29 (of_decide_eq_true (by kernel_rfl)) fun x r h => ⟨A_zz51, big, mkCfg_ok tabOk, mkCfg_sigs (show SigsOk Try.prog [(46, S_zz50)] from ⟨⟨fn_zz50, good_zz50⟩, trivial⟩), (run_zz51 big x).trans h⟩

/-! zz52 -/
def zz52_b6 (rec : Y1 → (List (Int × (Int × Unit))) → Y3 → Int → Int → Option (((List (Int × (Int × Unit))) × (Bool × Unit)) × Unit)) (k : (List (Int × (Int × Unit))) → Option (((List (Int × (Int × Unit))) × (Bool × Unit)) × Unit)) (l6 : Y1) (list8 : (List (Int × (Int × Unit)))) (t28 : Y3) (t29 : Int) (t30 : Int) : Option (((List (Int × (Int × Unit))) × (Bool × Unit)) × Unit) :=
  cond (decide (t30 < t29))
  ((atI t28 t30).bind fun _ =>
  (t28[t30.toNat]?).bind fun xq5 =>
  (t28[t30.toNat]?).bind fun xq6 =>
  (zz49 big l6 xq6).bind fun rq7 =>
  (t28[t30.toNat]?).bind fun xq8 =>
  (zz51 big l6 xq8).bind fun rq9 =>
  (appI list8 [(rq7.1, (rq9.1, ()))]).bind fun xq10 =>
  rec l6 xq10 t28 t29 (IntKind.i64.wrap (t30 + (1 : Int))))
  (k list8)
def zz52_a6 (list8 : (List (Int × (Int × Unit)))) : Option (((List (Int × (Int × Unit))) × (Bool × Unit)) × Unit) :=
  some ((list8, true, ()), (()))
def zz52_s (L6 : Y1 → (List (Int × (Int × Unit))) → Y3 → Int → Int → Option (((List (Int × (Int × Unit))) × (Bool × Unit)) × Unit)) (p_0 : Y2) (c_1 : Y4) : Option (((List (Int × (Int × Unit))) × (Bool × Unit)) × Unit) :=
  (zz40 p_0).bind fun rq1 =>
  cond (!rq1.1.2.1)
  (some (([], false, ()), (())))
  ((zz42 rq1.1.1).bind fun rq2 =>
  (zz47 rq2.1 c_1).bind fun rq3 =>
  cond (!rq3.1)
  (some (([], false, ()), (())))
  ((impl_blocksOf c_1).bind fun rq4 =>
  L6 rq1.1.1 [] rq4.1 (rq4.1.length : Int) (0 : Int)))
def zz52_l6 (N : Nat) (k : (List (Int × (Int × Unit))) → Option (((List (Int × (Int × Unit))) × (Bool × Unit)) × Unit)) : Nat → Y1 → (List (Int × (Int × Unit))) → Y3 → Int → Int → Option (((List (Int × (Int × Unit))) × (Bool × Unit)) × Unit)
  | 0, _, _, _, _, _ => none
  | m + 1, l6, list8, t28, t29, t30 => zz52_b6 (zz52_l6 N k m) k l6 list8 t28 t29 t30
def zz52_F6 (N : Nat) (l6 : Y1) (list8 : (List (Int × (Int × Unit)))) (t28 : Y3) (t29 : Int) (t30 : Int) : Option (((List (Int × (Int × Unit))) × (Bool × Unit)) × Unit) := zz52_l6 N (zz52_a6) N l6 list8 t28 t29 t30
def zz52 (N : Nat) (p_0 : Y2) (c_1 : Y4) : Option (((List (Int × (Int × Unit))) × (Bool × Unit)) × Unit) := zz52_s (zz52_F6 N) p_0 c_1
def S_zz52 : Sig := { a := (.pair (.pair (.sl (.sl I)) .unit) (.pair (.sl I) .unit)), md := [0, 0], mf := [], m := .unit, r := (.tup (.pair (.sl (.pair I (.pair I .unit))) (.pair .bool .unit))), rf := (.p (.o .i) .i), f := fun x => zz52 big x.1 x.2.1 }
def A_zz52 : Cfg := mkCfg tab [(24, S_zz40), (26, S_zz42), (25, S_zz47), (27, S_impl_blocksOf), (28, S_zz49), (29, S_zz51)] [(12, [.drop, .drop, .drop, .drop, .drop, .drop, .as (.opt (.pair (.sl (.sl .bool)) (.pair (.sl (.sl I)) (.pair (.sl (.sl I)) .unit)))) .i, .drop, .as (.sl (.pair I (.pair I .unit))) (.o .i), .drop, .drop, .drop, .drop, .drop, .drop, .drop, .drop, .drop, .drop, .drop, .drop, .drop, .drop, .drop, .drop, .drop, .drop, .drop, .as (.sl (.sl I)) (.o (.o .i)), .as I .i, .as I .i]), (21, [.drop, .drop, .drop, .drop, .drop, .drop, .drop, .drop, .as (.sl (.pair I (.pair I .unit))) (.o .i)])]
noncomputable def zz52_R6 (N n : Nat) (K : Ex → St → Option (((List (Int × (Int × Unit))) × (Bool × Unit)) × Unit)) (l6 : Y1) (list8 : (List (Int × (Int × Unit)))) (t28 : Y3) (t29 : Int) (t30 : Int) : Option (((List (Int × (Int × Unit))) × (Bool × Unit)) × Unit) := iter ((A_zz52).shape 12) (run (A_zz52) N (codeAt Try.f8 [1, 1, 1, 1, 0, 1, 0, 0])) n ([.u, .u, .u, .u, .u, .u, .val (.opt (.pair (.sl (.sl .bool)) (.pair (.sl (.sl I)) (.pair (.sl (.sl I)) .unit)))) .i l6, .u, .val (.sl (.pair I (.pair I .unit))) (.o .i) list8, .u, .u, .u, .u, .u, .u, .u, .u, .u, .u, .u, .u, .u, .u, .u, .u, .u, .u, .u, .val (.sl (.sl I)) (.o (.o .i)) t28, .val I .i t29, .val I .i t30] ++ List.replicate 15 .u) K
noncomputable abbrev zz52_z : Ex → St → Option (((List (Int × (Int × Unit))) × (Bool × Unit)) × Unit) := finish (A_zz52) S_zz52 Try.f8.results.toList
noncomputable abbrev zz52_X6 (kX : St → Option (((List (Int × (Int × Unit))) × (Bool × Unit)) × Unit)) : (List (Int × (Int × Unit))) → Option (((List (Int × (Int × Unit))) × (Bool × Unit)) × Unit) := fun (list8 : (List (Int × (Int × Unit)))) => kX ([.u, .u, .u, .u, .u, .u, .u, .u, .val (.sl (.pair I (.pair I .unit))) (.o .i) list8] ++ List.replicate 37 .u)
noncomputable abbrev zz52_E6 (kX : St → Option (((List (Int × (Int × Unit))) × (Bool × Unit)) × Unit)) (kO : Nat → St → Option (((List (Int × (Int × Unit))) × (Bool × Unit)) × Unit)) : Ex → St → Option (((List (Int × (Int × Unit))) × (Bool × Unit)) × Unit) := exK zz52_z 0 ((A_zz52).shape 21) kX kO
theorem zz52_step6 (N : Nat) (m : Nat) (kX : St → Option (((List (Int × (Int × Unit))) × (Bool × Unit)) × Unit)) (kO : Nat → St → Option (((List (Int × (Int × Unit))) × (Bool × Unit)) × Unit)) (l6 : Y1) (list8 : (List (Int × (Int × Unit)))) (t28 : Y3) (t29 : Int) (t30 : Int) : zz52_R6 N (m + 1) (zz52_E6 kX kO) l6 list8 t28 t29 t30 = zz52_b6 (zz52_R6 N m (zz52_E6 kX kO)) (zz52_X6 kX) l6 list8 t28 t29 t30 := by kernel_rfl
theorem zz52_iter6 (N : Nat) (kX : St → Option (((List (Int × (Int × Unit))) × (Bool × Unit)) × Unit)) (kO : Nat → St → Option (((List (Int × (Int × Unit))) × (Bool × Unit)) × Unit)) : ∀ (n : Nat) (l6 : Y1) (list8 : (List (Int × (Int × Unit)))) (t28 : Y3) (t29 : Int) (t30 : Int), zz52_R6 N n (zz52_E6 kX kO) l6 list8 t28 t29 t30 = zz52_l6 N (zz52_X6 kX) n l6 list8 t28 t29 t30
  | 0, _, _, _, _, _ => rfl
  | m + 1, l6, list8, t28, t29, t30 => by
    have hrec : zz52_R6 N m (zz52_E6 kX kO) = (zz52_l6 N (zz52_X6 kX) m) := (funext fun l6 => (funext fun list8 => (funext fun t28 => (funext fun t29 => (funext fun t30 => zz52_iter6 N kX kO m l6 list8 t28 t29 t30)))))
    refine (zz52_step6 N m kX kO l6 list8 t28 t29 t30).trans ?_
    rw [hrec]
    rfl
noncomputable abbrev zz52_K6 (N : Nat) : Ex → St → Option (((List (Int × (Int × Unit))) × (Bool × Unit)) × Unit) := (blockK 0 (seqK ((A_zz52).shape 21) (run (A_zz52) N (codeAt Try.f8 [1, 1, 1, 1, 1])) zz52_z))
noncomputable abbrev zz52_k6 (N : Nat) : St → Option (((List (Int × (Int × Unit))) × (Bool × Unit)) × Unit) := fun st' => run (A_zz52) N (codeAt Try.f8 [1, 1, 1, 1, 1]) st' zz52_z
theorem zz52_after6 (N : Nat) (list8 : (List (Int × (Int × Unit)))) : zz52_X6 (zz52_k6 N) list8 = zz52_a6 list8 := by kernel_rfl
theorem zz52_in6 (N : Nat) (l6 : Y1) (list8 : (List (Int × (Int × Unit)))) (t28 : Y3) (t29 : Int) (t30 : Int) : zz52_R6 N N (zz52_K6 N) l6 list8 t28 t29 t30 = zz52_F6 N l6 list8 t28 t29 t30 :=
  have h : zz52_X6 (zz52_k6 N) = (zz52_a6) := (funext fun list8 => zz52_after6 N list8)
  ((iter_ex (fun st => by kernel_rfl) (fun st => by kernel_rfl)).trans (zz52_iter6 N (zz52_k6 N) (fun j st => (zz52_K6 N) (.exit j) st) N l6 list8 t28 t29 t30)).trans (congrArg (fun k => zz52_l6 N k N l6 list8 t28 t29 t30) h)
theorem run0_zz52 (N : Nat) (x : (S_zz52).a.den) : runF (A_zz52) N Try.f8 S_zz52 x = (zz52_s (zz52_R6 N N (zz52_K6 N)) x.1 x.2.1) := by kernel_rfl
theorem run_zz52 (N : Nat) (x : (S_zz52).a.den) : runF (A_zz52) N Try.f8 S_zz52 x = zz52 N x.1 x.2.1 := by
  refine (run0_zz52 N x).trans ?_
  rw [(funext fun l6 => (funext fun list8 => (funext fun t28 => (funext fun t29 => (funext fun t30 => zz52_in6 N l6 list8 t28 t29 t30)))))]
  rfl
theorem fn_zz52 : FnOk Try.prog 8 := ⟨_, Try.func8, by kernel_rfl, by kernel_rfl⟩
theorem good_zz52 : Gx.Good Try.prog 8 S_zz52 := good_of_run Try.func8 (of_decide_eq_true (by kernel_rfl)) fun x r h => ⟨A_zz52, big, mkCfg_ok tabOk, mkCfg_sigs (show SigsOk Try.prog [(24, S_zz40), (26, S_zz42), (25, S_zz47), (27, S_impl_blocksOf), (28, S_zz49), (29, S_zz51)] from ⟨⟨fn_zz40, good_zz40⟩, ⟨fn_zz42, good_zz42⟩, ⟨fn_zz47, good_zz47⟩, ⟨fn_impl_blocksOf, good_impl_blocksOf⟩, ⟨fn_zz49, good_zz49⟩, ⟨fn_zz51, good_zz51⟩, trivial⟩), (run_zz52 big x).trans h⟩

/-! zz53 -/
def zz53_b2 (rec : (Int × (Int × Unit)) → (Int × (Int × Unit)) → Int → Option (Bool × Unit)) (k : Option (Bool × Unit)) (a2 : (Int × (Int × Unit))) (b3 : (Int × (Int × Unit))) (i5 : Int) : Option (Bool × Unit) :=
  cond (decide (i5 < (2 : Int)))
  (cond (decide (i5 = (0 : Int)))
  (cond (decide (i5 = (0 : Int)))
  (cond (decide (a2.1 ≠ b3.1))
  (some (false, (())))
  (rec a2 b3 (IntKind.i64.wrap (i5 + (1 : Int)))))
  (cond (decide (i5 = (1 : Int)))
  (cond (decide (a2.1 ≠ b3.2.1))
  (some (false, (())))
  (rec a2 b3 (IntKind.i64.wrap (i5 + (1 : Int)))))
  (none)))
  (cond (decide (i5 = (1 : Int)))
  (cond (decide (i5 = (0 : Int)))
  (cond (decide (a2.2.1 ≠ b3.1))
  (some (false, (())))
  (rec a2 b3 (IntKind.i64.wrap (i5 + (1 : Int)))))
  (cond (decide (i5 = (1 : Int)))
  (cond (decide (a2.2.1 ≠ b3.2.1))
  (some (false, (())))
  (rec a2 b3 (IntKind.i64.wrap (i5 + (1 : Int)))))
  (none)))
  (none)))
  (k)
def zz53_a2 : Option (Bool × Unit) :=
  some (true, (()))
def zz53_s (L2 : (Int × (Int × Unit)) → (Int × (Int × Unit)) → Int → Option (Bool × Unit)) (a_0 : (Int × (Int × Unit))) (b_1 : (Int × (Int × Unit))) : Option (Bool × Unit) :=
  L2 a_0 b_1 (0 : Int)
def zz53_l2 (N : Nat) (k : Option (Bool × Unit)) : Nat → (Int × (Int × Unit)) → (Int × (Int × Unit)) → Int → Option (Bool × Unit)
  | 0, _, _, _ => none
  | m + 1, a2, b3, i5 => zz53_b2 (zz53_l2 N k m) k a2 b3 i5
def zz53_F2 (N : Nat) (a2 : (Int × (Int × Unit))) (b3 : (Int × (Int × Unit))) (i5 : Int) : Option (Bool × Unit) := zz53_l2 N (zz53_a2) N a2 b3 i5
def zz53 (N : Nat) (a_0 : (Int × (Int × Unit))) (b_1 : (Int × (Int × Unit))) : Option (Bool × Unit) := zz53_s (zz53_F2 N) a_0 b_1
def S_zz53 : Sig := { a := (.pair (.pair I (.pair I .unit)) (.pair (.pair I (.pair I .unit)) .unit)), md := [0, 0], mf := [], m := .unit, r := .bool, rf := .i, f := fun x => zz53 big x.1 x.2.1 }
def A_zz53 : Cfg := mkCfg tab [] [(4, [.drop, .drop, .as (.ptr (.pair I (.pair I .unit))) (.o .i), .as (.ptr (.pair I (.pair I .unit))) (.o .i), .drop, .as I .i]), (13, [])]
noncomputable def zz53_R2 (N n : Nat) (K : Ex → St → Option (Bool × Unit)) (a2 : (Int × (Int × Unit))) (b3 : (Int × (Int × Unit))) (i5 : Int) : Option (Bool × Unit) := iter ((A_zz53).shape 4) (run (A_zz53) N (codeAt Try.f30 [1, 0, 1, 0, 0])) n ([.u, .u, .val (.ptr (.pair I (.pair I .unit))) (.o .i) a2, .val (.ptr (.pair I (.pair I .unit))) (.o .i) b3, .u, .val I .i i5] ++ List.replicate 11 .u) K
noncomputable abbrev zz53_z : Ex → St → Option (Bool × Unit) := finish (A_zz53) S_zz53 Try.f30.results.toList
noncomputable abbrev zz53_X2 (kX : St → Option (Bool × Unit)) : Option (Bool × Unit) := kX ([] ++ List.replicate 17 .u)
noncomputable abbrev zz53_E2 (kX : St → Option (Bool × Unit)) (kO : Nat → St → Option (Bool × Unit)) : Ex → St → Option (Bool × Unit) := exK zz53_z 0 ((A_zz53).shape 13) kX kO
theorem zz53_step2 (N : Nat) (m : Nat) (kX : St → Option (Bool × Unit)) (kO : Nat → St → Option (Bool × Unit)) (a2 : (Int × (Int × Unit))) (b3 : (Int × (Int × Unit))) (i5 : Int) : zz53_R2 N (m + 1) (zz53_E2 kX kO) a2 b3 i5 = zz53_b2 (zz53_R2 N m (zz53_E2 kX kO)) (zz53_X2 kX) a2 b3 i5 := by kernel_rfl
theorem zz53_iter2 (N : Nat) (kX : St → Option (Bool × Unit)) (kO : Nat → St → Option (Bool × Unit)) : ∀ (n : Nat) (a2 : (Int × (Int × Unit))) (b3 : (Int × (Int × Unit))) (i5 : Int), zz53_R2 N n (zz53_E2 kX kO) a2 b3 i5 = zz53_l2 N (zz53_X2 kX) n a2 b3 i5
  | 0, _, _, _ => rfl
  | m + 1, a2, b3, i5 => by
    have hrec : zz53_R2 N m (zz53_E2 kX kO) = (zz53_l2 N (zz53_X2 kX) m) := (funext fun a2 => (funext fun b3 => (funext fun i5 => zz53_iter2 N kX kO m a2 b3 i5)))
    refine (zz53_step2 N m kX kO a2 b3 i5).trans ?_
    rw [hrec]
    rfl
noncomputable abbrev zz53_K2 (N : Nat) : Ex → St → Option (Bool × Unit) := (blockK 0 (seqK ((A_zz53).shape 13) (run (A_zz53) N (codeAt Try.f30 [1, 1])) zz53_z))
noncomputable abbrev zz53_k2 (N : Nat) : St → Option (Bool × Unit) := fun st' => run (A_zz53) N (codeAt Try.f30 [1, 1]) st' zz53_z
theorem zz53_after2 (N : Nat) : zz53_X2 (zz53_k2 N) = zz53_a2 := by kernel_rfl
theorem zz53_in2 (N : Nat) (a2 : (Int × (Int × Unit))) (b3 : (Int × (Int × Unit))) (i5 : Int) : zz53_R2 N N (zz53_K2 N) a2 b3 i5 = zz53_F2 N a2 b3 i5 :=
  have h : zz53_X2 (zz53_k2 N) = (zz53_a2) := zz53_after2 N
  ((iter_ex (fun st => by kernel_rfl) (fun st => by kernel_rfl)).trans (zz53_iter2 N (zz53_k2 N) (fun j st => (zz53_K2 N) (.exit j) st) N a2 b3 i5)).trans (congrArg (fun k => zz53_l2 N k N a2 b3 i5) h)
theorem run0_zz53 (N : Nat) (x : (S_zz53).a.den) : runF (A_zz53) N Try.f30 S_zz53 x = (zz53_s (zz53_R2 N N (zz53_K2 N)) x.1 x.2.1) := by kernel_rfl
theorem run_zz53 (N : Nat) (x : (S_zz53).a.den) : runF (A_zz53) N Try.f30 S_zz53 x = zz53 N x.1 x.2.1 := by
  refine (run0_zz53 N x).trans ?_
  rw [(funext fun a2 => (funext fun b3 => (funext fun i5 => zz53_in2 N a2 b3 i5)))]
  rfl
theorem fn_zz53 : FnOk Try.prog 30 := ⟨_, Try.func30, by kernel_rfl, by kernel_rfl⟩
theorem good_zz53 : Gx.Good Try.prog 30 S_zz53 := good_of_run Try.func30 (of_decide_eq_true (by kernel_rfl)) fun x r h => ⟨A_zz53, big, mkCfg_ok tabOk, mkCfg_sigs (show SigsOk Try.prog [] from trivial), (run_zz53 big x).trans h⟩

/-! zz54 -/
def zz54_b4 (rec : (List (Int × (Int × Unit))) → (List (Int × (Int × Unit))) → Int → Option (Bool × Unit)) (k : Option (Bool × Unit)) (a0 : (List (Int × (Int × Unit)))) (b1 : (List (Int × (Int × Unit)))) (i5 : Int) : Option (Bool × Unit) :=
  cond (decide (i5 < (a0.length : Int)))
  ((atI a0 i5).bind fun xq1 =>
  (atI b1 i5).bind fun xq2 =>
  (zz53 big xq1 xq2).bind fun rq3 =>
  cond (!rq3.1)
  (some (false, (())))
  (rec a0 b1 (IntKind.i64.wrap (i5 + (1 : Int)))))
  (k)
def zz54_a4 : Option (Bool × Unit) :=
  some (true, (()))
def zz54_s (L4 : (List (Int × (Int × Unit))) → (List (Int × (Int × Unit))) → Int → Option (Bool × Unit)) (a_0 : (List (Int × (Int × Unit)))) (b_1 : (List (Int × (Int × Unit)))) : Option (Bool × Unit) :=
  cond (decide ((a_0.length : Int) ≠ (b_1.length : Int)))
  (some (false, (())))
  (L4 a_0 b_1 (0 : Int))
def zz54_l4 (N : Nat) (k : Option (Bool × Unit)) : Nat → (List (Int × (Int × Unit))) → (List (Int × (Int × Unit))) → Int → Option (Bool × Unit)
  | 0, _, _, _ => none
  | m + 1, a0, b1, i5 => zz54_b4 (zz54_l4 N k m) k a0 b1 i5
def zz54_F4 (N : Nat) (a0 : (List (Int × (Int × Unit)))) (b1 : (List (Int × (Int × Unit)))) (i5 : Int) : Option (Bool × Unit) := zz54_l4 N (zz54_a4) N a0 b1 i5
def zz54 (N : Nat) (a_0 : (List (Int × (Int × Unit)))) (b_1 : (List (Int × (Int × Unit)))) : Option (Bool × Unit) := zz54_s (zz54_F4 N) a_0 b_1
def S_zz54 : Sig := { a := (.pair (.sl (.pair I (.pair I .unit))) (.pair (.sl (.pair I (.pair I .unit))) .unit)), md := [0, 0], mf := [], m := .unit, r := .bool, rf := .i, f := fun x => zz54 big x.1 x.2.1 }
def A_zz54 : Cfg := mkCfg tab [(30, S_zz53)] [(8, [.as (.sl (.pair I (.pair I .unit))) .i, .as (.sl (.pair I (.pair I .unit))) .i, .drop, .drop, .drop, .as I .i]), (17, [])]
noncomputable def zz54_R4 (N n : Nat) (K : Ex → St → Option (Bool × Unit)) (a0 : (List (Int × (Int × Unit)))) (b1 : (List (Int × (Int × Unit)))) (i5 : Int) : Option (Bool × Unit) := iter ((A_zz54).shape 8) (run (A_zz54) N (codeAt Try.f9 [1, 1, 0, 1, 0, 0])) n ([.val (.sl (.pair I (.pair I .unit))) .i a0, .val (.sl (.pair I (.pair I .unit))) .i b1, .u, .u, .u, .val I .i i5] ++ List.replicate 21 .u) K
noncomputable abbrev zz54_z : Ex → St → Option (Bool × Unit) := finish (A_zz54) S_zz54 Try.f9.results.toList
noncomputable abbrev zz54_X4 (kX : St → Option (Bool × Unit)) : Option (Bool × Unit) := kX ([] ++ List.replicate 27 .u)
noncomputable abbrev zz54_E4 (kX : St → Option (Bool × Unit)) (kO : Nat → St → Option (Bool × Unit)) : Ex → St → Option (Bool × Unit) := exK zz54_z 0 ((A_zz54).shape 17) kX kO
theorem zz54_step4 (N : Nat) (m : Nat) (kX : St → Option (Bool × Unit)) (kO : Nat → St → Option (Bool × Unit)) (a0 : (List (Int × (Int × Unit)))) (b1 : (List (Int × (Int × Unit)))) (i5 : Int) : zz54_R4 N (m + 1) (zz54_E4 kX kO) a0 b1 i5 = zz54_b4 (zz54_R4 N m (zz54_E4 kX kO)) (zz54_X4 kX) a0 b1 i5 := by kernel_rfl
theorem zz54_iter4 (N : Nat) (kX : St → Option (Bool × Unit)) (kO : Nat → St → Option (Bool × Unit)) : ∀ (n : Nat) (a0 : (List (Int × (Int × Unit)))) (b1 : (List (Int × (Int × Unit)))) (i5 : Int), zz54_R4 N n (zz54_E4 kX kO) a0 b1 i5 = zz54_l4 N (zz54_X4 kX) n a0 b1 i5
  | 0, _, _, _ => rfl
  | m + 1, a0, b1, i5 => by
    have hrec : zz54_R4 N m (zz54_E4 kX kO) = (zz54_l4 N (zz54_X4 kX) m) := (funext fun a0 => (funext fun b1 => (funext fun i5 => zz54_iter4 N kX kO m a0 b1 i5)))
    refine (zz54_step4 N m kX kO a0 b1 i5).trans ?_
    rw [hrec]
    rfl
noncomputable abbrev zz54_K4 (N : Nat) : Ex → St → Option (Bool × Unit) := (blockK 0 (seqK ((A_zz54).shape 17) (run (A_zz54) N (codeAt Try.f9 [1, 1, 1])) zz54_z))
noncomputable abbrev zz54_k4 (N : Nat) : St → Option (Bool × Unit) := fun st' => run (A_zz54) N (codeAt Try.f9 [1, 1, 1]) st' zz54_z
theorem zz54_after4 (N : Nat) : zz54_X4 (zz54_k4 N) = zz54_a4 := by kernel_rfl
theorem zz54_in4 (N : Nat) (a0 : (List (Int × (Int × Unit)))) (b1 : (List (Int × (Int × Unit)))) (i5 : Int) : zz54_R4 N N (zz54_K4 N) a0 b1 i5 = zz54_F4 N a0 b1 i5 :=
  have h : zz54_X4 (zz54_k4 N) = (zz54_a4) := zz54_after4 N
  ((iter_ex (fun st => by kernel_rfl) (fun st => by kernel_rfl)).trans (zz54_iter4 N (zz54_k4 N) (fun j st => (zz54_K4 N) (.exit j) st) N a0 b1 i5)).trans (congrArg (fun k => zz54_l4 N k N a0 b1 i5) h)
theorem run0_zz54 (N : Nat) (x : (S_zz54).a.den) : runF (A_zz54) N Try.f9 S_zz54 x = (zz54_s (zz54_R4 N N (zz54_K4 N)) x.1 x.2.1) := by kernel_rfl
theorem run_zz54 (N : Nat) (x : (S_zz54).a.den) : runF (A_zz54) N Try.f9 S_zz54 x = zz54 N x.1 x.2.1 := by
  refine (run0_zz54 N x).trans ?_
  rw [(funext fun a0 => (funext fun b1 => (funext fun i5 => zz54_in4 N a0 b1 i5)))]
  rfl
theorem fn_zz54 : FnOk Try.prog 9 := ⟨_, Try.func9, by kernel_rfl, by kernel_rfl⟩
theorem good_zz54 : Gx.Good Try.prog 9 S_zz54 := good_of_run Try.func9 (of_decide_eq_true (by kernel_rfl)) fun x r h => ⟨A_zz54, big, mkCfg_ok tabOk, mkCfg_sigs (show SigsOk Try.prog [(30, S_zz53)] from ⟨⟨fn_zz53, good_zz53⟩, trivial⟩), (run_zz54 big x).trans h⟩

/-! zz55 -/
def zz55_b4 (rec : Y4 → Y4 → Int → Option (Bool × Unit)) (k : Option (Bool × Unit)) (a0 : Y4) (b1 : Y4) (i5 : Int) : Option (Bool × Unit) :=
  cond (decide (i5 < (a0.length : Int)))
  ((atI a0 i5).bind fun xq1 =>
  (atI b1 i5).bind fun xq2 =>
  cond (decide (xq1 ≠ xq2))
  (some (false, (())))
  (rec a0 b1 (IntKind.i64.wrap (i5 + (1 : Int)))))
  (k)
def zz55_a4 : Option (Bool × Unit) :=
  some (true, (()))
def zz55_s (L4 : Y4 → Y4 → Int → Option (Bool × Unit)) (a_0 : Y4) (b_1 : Y4) : Option (Bool × Unit) :=
  cond (decide ((a_0.length : Int) ≠ (b_1.length : Int)))
  (some (false, (())))
  (L4 a_0 b_1 (0 : Int))
def zz55_l4 (N : Nat) (k : Option (Bool × Unit)) : Nat → Y4 → Y4 → Int → Option (Bool × Unit)
  | 0, _, _, _ => none
  | m + 1, a0, b1, i5 => zz55_b4 (zz55_l4 N k m) k a0 b1 i5
def zz55_F4 (N : Nat) (a0 : Y4) (b1 : Y4) (i5 : Int) : Option (Bool × Unit) := zz55_l4 N (zz55_a4) N a0 b1 i5
def zz55 (N : Nat) (a_0 : Y4) (b_1 : Y4) : Option (Bool × Unit) := zz55_s (zz55_F4 N) a_0 b_1
def S_zz55 : Sig := { a := (.pair (.sl I) (.pair (.sl I) .unit)), md := [0, 0], mf := [], m := .unit, r := .bool, rf := .i, f := fun x => zz55 big x.1 x.2.1 }
def A_zz55 : Cfg := mkCfg tab [] [(8, [.as (.sl I) .i, .as (.sl I) .i, .drop, .drop, .drop, .as I .i]), (17, [])]
noncomputable def zz55_R4 (N n : Nat) (K : Ex → St → Option (Bool × Unit)) (a0 : Y4) (b1 : Y4) (i5 : Int) : Option (Bool × Unit) := iter ((A_zz55).shape 8) (run (A_zz55) N (codeAt Try.f11 [1, 1, 0, 1, 0, 0])) n ([.val (.sl I) .i a0, .val (.sl I) .i b1, .u, .u, .u, .val I .i i5] ++ List.replicate 20 .u) K
noncomputable abbrev zz55_z : Ex → St → Option (Bool × Unit) := finish (A_zz55) S_zz55 Try.f11.results.toList
noncomputable abbrev zz55_X4 (kX : St → Option (Bool × Unit)) : Option (Bool × Unit) := kX ([] ++ List.replicate 26 .u)
noncomputable abbrev zz55_E4 (kX : St → Option (Bool × Unit)) (kO : Nat → St → Option (Bool × Unit)) : Ex → St → Option (Bool × Unit) := exK zz55_z 0 ((A_zz55).shape 17) kX kO
theorem zz55_step4 (N : Nat) (m : Nat) (kX : St → Option (Bool × Unit)) (kO : Nat → St → Option (Bool × Unit)) (a0 : Y4) (b1 : Y4) (i5 : Int) : zz55_R4 N (m + 1) (zz55_E4 kX kO) a0 b1 i5 = zz55_b4 (zz55_R4 N m (zz55_E4 kX kO)) (zz55_X4 kX) a0 b1 i5 := by kernel_rfl
theorem zz55_iter4 (N : Nat) (kX : St → Option (Bool × Unit)) (kO : Nat → St → Option (Bool × Unit)) : ∀ (n : Nat) (a0 : Y4) (b1 : Y4) (i5 : Int), zz55_R4 N n (zz55_E4 kX kO) a0 b1 i5 = zz55_l4 N (zz55_X4 kX) n a0 b1 i5
  | 0, _, _, _ => rfl
  | m + 1, a0, b1, i5 => by
    have hrec : zz55_R4 N m (zz55_E4 kX kO) = (zz55_l4 N (zz55_X4 kX) m) := (funext fun a0 => (funext fun b1 => (funext fun i5 => zz55_iter4 N kX kO m a0 b1 i5)))
    refine (zz55_step4 N m kX kO a0 b1 i5).trans ?_
    rw [hrec]
    rfl
noncomputable abbrev zz55_K4 (N : Nat) : Ex → St → Option (Bool × Unit) := (blockK 0 (seqK ((A_zz55).shape 17) (run (A_zz55) N (codeAt Try.f11 [1, 1, 1])) zz55_z))
noncomputable abbrev zz55_k4 (N : Nat) : St → Option (Bool × Unit) := fun st' => run (A_zz55) N (codeAt Try.f11 [1, 1, 1]) st' zz55_z
theorem zz55_after4 (N : Nat) : zz55_X4 (zz55_k4 N) = zz55_a4 := by kernel_rfl
theorem zz55_in4 (N : Nat) (a0 : Y4) (b1 : Y4) (i5 : Int) : zz55_R4 N N (zz55_K4 N) a0 b1 i5 = zz55_F4 N a0 b1 i5 :=
  have h : zz55_X4 (zz55_k4 N) = (zz55_a4) := zz55_after4 N
  ((iter_ex (fun st => by kernel_rfl) (fun st => by kernel_rfl)).trans (zz55_iter4 N (zz55_k4 N) (fun j st => (zz55_K4 N) (.exit j) st) N a0 b1 i5)).trans (congrArg (fun k => zz55_l4 N k N a0 b1 i5) h)
theorem run0_zz55 (N : Nat) (x : (S_zz55).a.den) : runF (A_zz55) N Try.f11 S_zz55 x = (zz55_s (zz55_R4 N N (zz55_K4 N)) x.1 x.2.1) := by kernel_rfl
theorem run_zz55 (N : Nat) (x : (S_zz55).a.den) : runF (A_zz55) N Try.f11 S_zz55 x = zz55 N x.1 x.2.1 := by
  refine (run0_zz55 N x).trans ?_
  rw [(funext fun a0 => (funext fun b1 => (funext fun i5 => zz55_in4 N a0 b1 i5)))]
  rfl
theorem fn_zz55 : FnOk Try.prog 11 := ⟨_, Try.func11, by kernel_rfl, by kernel_rfl⟩
theorem good_zz55 : Gx.Good Try.prog 11 S_zz55 := good_of_run Try.func11 (of_decide_eq_true (by kernel_rfl)) fun x r h => ⟨A_zz55, big, mkCfg_ok tabOk, mkCfg_sigs (show SigsOk Try.prog [] from trivial), (run_zz55 big x).trans h⟩

/-! zz56 -/
def zz56_b4 (rec : Y3 → Y3 → Int → Option (Bool × Unit)) (k : Option (Bool × Unit)) (a0 : Y3) (b1 : Y3) (i5 : Int) : Option (Bool × Unit) :=
  cond (decide (i5 < (a0.length : Int)))
  ((atI a0 i5).bind fun xq1 =>
  (atI b1 i5).bind fun xq2 =>
  (zz55 big xq1 xq2).bind fun rq3 =>
  cond (!rq3.1)
  (some (false, (())))
  (rec a0 b1 (IntKind.i64.wrap (i5 + (1 : Int)))))
  (k)
def zz56_a4 : Option (Bool × Unit) :=
  some (true, (()))
def zz56_s (L4 : Y3 → Y3 → Int → Option (Bool × Unit)) (a_0 : Y3) (b_1 : Y3) : Option (Bool × Unit) :=
  cond (decide ((a_0.length : Int) ≠ (b_1.length : Int)))
  (some (false, (())))
  (L4 a_0 b_1 (0 : Int))
def zz56_l4 (N : Nat) (k : Option (Bool × Unit)) : Nat → Y3 → Y3 → Int → Option (Bool × Unit)
  | 0, _, _, _ => none
  | m + 1, a0, b1, i5 => zz56_b4 (zz56_l4 N k m) k a0 b1 i5
def zz56_F4 (N : Nat) (a0 : Y3) (b1 : Y3) (i5 : Int) : Option (Bool × Unit) := zz56_l4 N (zz56_a4) N a0 b1 i5
def zz56 (N : Nat) (a_0 : Y3) (b_1 : Y3) : Option (Bool × Unit) := zz56_s (zz56_F4 N) a_0 b_1
def S_zz56 : Sig := { a := (.pair (.sl (.sl I)) (.pair (.sl (.sl I)) .unit)), md := [0, 0], mf := [], m := .unit, r := .bool, rf := .i, f := fun x => zz56 big x.1 x.2.1 }
def A_zz56 : Cfg := mkCfg tab [(11, S_zz55)] [(8, [.as (.sl (.sl I)) .i, .as (.sl (.sl I)) .i, .drop, .drop, .drop, .as I .i]), (17, [])]
noncomputable def zz56_R4 (N n : Nat) (K : Ex → St → Option (Bool × Unit)) (a0 : Y3) (b1 : Y3) (i5 : Int) : Option (Bool × Unit) := iter ((A_zz56).shape 8) (run (A_zz56) N (codeAt Try.f31 [1, 1, 0, 1, 0, 0])) n ([.val (.sl (.sl I)) .i a0, .val (.sl (.sl I)) .i b1, .u, .u, .u, .val I .i i5] ++ List.replicate 21 .u) K
noncomputable abbrev zz56_z : Ex → St → Option (Bool × Unit) := finish (A_zz56) S_zz56 Try.f31.results.toList
noncomputable abbrev zz56_X4 (kX : St → Option (Bool × Unit)) : Option (Bool × Unit) := kX ([] ++ List.replicate 27 .u)
noncomputable abbrev zz56_E4 (kX : St → Option (Bool × Unit)) (kO : Nat → St → Option (Bool × Unit)) : Ex → St → Option (Bool × Unit) := exK zz56_z 0 ((A_zz56).shape 17) kX kO
theorem zz56_step4 (N : Nat) (m : Nat) (kX : St → Option (Bool × Unit)) (kO : Nat → St → Option (Bool × Unit)) (a0 : Y3) (b1 : Y3) (i5 : Int) : zz56_R4 N (m + 1) (zz56_E4 kX kO) a0 b1 i5 = zz56_b4 (zz56_R4 N m (zz56_E4 kX kO)) (zz56_X4 kX) a0 b1 i5 := by kernel_rfl
theorem zz56_iter4 (N : Nat) (kX : St → Option (Bool × Unit)) (kO : Nat → St → Option (Bool × Unit)) : ∀ (n : Nat) (a0 : Y3) (b1 : Y3) (i5 : Int), zz56_R4 N n (zz56_E4 kX kO) a0 b1 i5 = zz56_l4 N (zz56_X4 kX) n a0 b1 i5
  | 0, _, _, _ => rfl
  | m + 1, a0, b1, i5 => by
    have hrec : zz56_R4 N m (zz56_E4 kX kO) = (zz56_l4 N (zz56_X4 kX) m) := (funext fun a0 => (funext fun b1 => (funext fun i5 => zz56_iter4 N kX kO m a0 b1 i5)))
    refine (zz56_step4 N m kX kO a0 b1 i5).trans ?_
    rw [hrec]
    rfl
noncomputable abbrev zz56_K4 (N : Nat) : Ex → St → Option (Bool × Unit) := (blockK 0 (seqK ((A_zz56).shape 17) (run (A_zz56) N (codeAt Try.f31 [1, 1, 1])) zz56_z))
noncomputable abbrev zz56_k4 (N : Nat) : St → Option (Bool × Unit) := fun st' => run (A_zz56) N (codeAt Try.f31 [1, 1, 1]) st' zz56_z
theorem zz56_after4 (N : Nat) : zz56_X4 (zz56_k4 N) = zz56_a4 := by kernel_rfl
theorem zz56_in4 (N : Nat) (a0 : Y3) (b1 : Y3) (i5 : Int) : zz56_R4 N N (zz56_K4 N) a0 b1 i5 = zz56_F4 N a0 b1 i5 :=
  have h : zz56_X4 (zz56_k4 N) = (zz56_a4) := zz56_after4 N
  ((iter_ex (fun st => by kernel_rfl) (fun st => by kernel_rfl)).trans (zz56_iter4 N (zz56_k4 N) (fun j st => (zz56_K4 N) (.exit j) st) N a0 b1 i5)).trans (congrArg (fun k => zz56_l4 N k N a0 b1 i5) h)
theorem run0_zz56 (N : Nat) (x : (S_zz56).a.den) : runF (A_zz56) N Try.f31 S_zz56 x = (zz56_s (zz56_R4 N N (zz56_K4 N)) x.1 x.2.1) := by kernel_rfl
theorem run_zz56 (N : Nat) (x : (S_zz56).a.den) : runF (A_zz56) N Try.f31 S_zz56 x = zz56 N x.1 x.2.1 := by
  refine (run0_zz56 N x).trans ?_
  rw [(funext fun a0 => (funext fun b1 => (funext fun i5 => zz56_in4 N a0 b1 i5)))]
  rfl
theorem fn_zz56 : FnOk Try.prog 31 := ⟨_, Try.func31, by kernel_rfl, by kernel_rfl⟩
theorem good_zz56 : Gx.Good Try.prog 31 S_zz56 := good_of_run Try.func31 (of_decide_eq_true (by kernel_rfl)) fun x r h => ⟨A_zz56, big, mkCfg_ok tabOk, mkCfg_sigs (show SigsOk Try.prog [(11, S_zz55)] from ⟨⟨fn_zz55, good_zz55⟩, trivial⟩), (run_zz56 big x).trans h⟩

/-! zz57 -/
def zz57_s (a_0 : Y2) (b_1 : Y2) : Option (Bool × Unit) :=
  (zz56 big a_0.1 b_1.1).bind fun rq1 =>
  cond (!rq1.1)
  (some (false, (())))
  (some (true, (())))
def zz57 (a_0 : Y2) (b_1 : Y2) : Option (Bool × Unit) := zz57_s a_0 b_1
def S_zz57 : Sig := { a := (.pair (.pair (.sl (.sl I)) .unit) (.pair (.pair (.sl (.sl I)) .unit) .unit)), md := [0, 0], mf := [], m := .unit, r := .bool, rf := .i, f := fun x => zz57 x.1 x.2.1 }
def A_zz57 : Cfg := mkCfg tab [(31, S_zz56)] []
theorem run_zz57 (N : Nat) (x : (S_zz57).a.den) : runF (A_zz57) N Try.f10 S_zz57 x = zz57 x.1 x.2.1 := by kernel_rfl
theorem fn_zz57 : FnOk Try.prog 10 := ⟨_, Try.func10, by kernel_rfl, by kernel_rfl⟩
theorem good_zz57 : Gx.Good Try.prog 10 S_zz57 := good_of_run Try.func10 (of_decide_eq_true (by kernel_rfl)) fun x r h => ⟨A_zz57, big, mkCfg_ok tabOk, mkCfg_sigs (show SigsOk Try.prog [(31, S_zz56)] from ⟨⟨fn_zz56, good_zz56⟩, trivial⟩), (run_zz57 big x).trans h⟩

/-! zz58 -/
def zz58_b2 (rec : Y4 → Int → Int → Option Y6) (k : Y4 → Int → Option Y6) (a0 : Y4) (k1 : Int) (i5 : Int) : Option Y6 :=
  cond (decide (i5 < (a0.length : Int)))
  ((atI a0 i5).bind fun _ =>
  (a0[i5.toNat]?).bind fun xq1 =>
  rec (a0.set i5.toNat k1) (IntKind.i64.wrap (k1 + (1 : Int))) (IntKind.i64.wrap (i5 + (1 : Int))))
  (k a0 k1)
def zz58_a2 (a0 : Y4) (k1 : Int) : Option Y6 :=
  some (k1, (a0, ()))
def zz58_s (L2 : Y4 → Int → Int → Option Y6) (a_0 : Y4) (k_1 : Int) : Option Y6 :=
  L2 a_0 k_1 (0 : Int)
def zz58_l2 (N : Nat) (k : Y4 → Int → Option Y6) : Nat → Y4 → Int → Int → Option Y6
  | 0, _, _, _ => none
  | m + 1, a0, k1, i5 => zz58_b2 (zz58_l2 N k m) k a0 k1 i5
def zz58_F2 (N : Nat) (a0 : Y4) (k1 : Int) (i5 : Int) : Option Y6 := zz58_l2 N (zz58_a2) N a0 k1 i5
def zz58 (N : Nat) (a_0 : Y4) (k_1 : Int) : Option Y6 := zz58_s (zz58_F2 N) a_0 k_1
def S_zz58 : Sig := { a := (.pair (.sl I) (.pair I .unit)), md := [1, 0], mf := [(.o .i)], m := (.pair (.sl I) .unit), r := I, rf := .i, f := fun x => zz58 big x.1 x.2.1 }
def A_zz58 : Cfg := mkCfg tab [] [(4, [.as (.sl I) (.o .i), .as I .i, .drop, .drop, .drop, .as I .i]), (13, [.as (.sl I) (.o .i), .as I .i])]
noncomputable def zz58_R2 (N n : Nat) (K : Ex → St → Option Y6) (a0 : Y4) (k1 : Int) (i5 : Int) : Option Y6 := iter ((A_zz58).shape 4) (run (A_zz58) N (codeAt Try.f13 [1, 0, 1, 0, 0])) n ([.val (.sl I) (.o .i) a0, .val I .i k1, .u, .u, .u, .val I .i i5] ++ List.replicate 13 .u) K
noncomputable abbrev zz58_z : Ex → St → Option Y6 := finish (A_zz58) S_zz58 Try.f13.results.toList
noncomputable abbrev zz58_X2 (kX : St → Option Y6) : Y4 → Int → Option Y6 := fun (a0 : Y4) (k1 : Int) => kX ([.val (.sl I) (.o .i) a0, .val I .i k1] ++ List.replicate 17 .u)
noncomputable abbrev zz58_E2 (kX : St → Option Y6) (kO : Nat → St → Option Y6) : Ex → St → Option Y6 := exK zz58_z 0 ((A_zz58).shape 13) kX kO
theorem zz58_step2 (N : Nat) (m : Nat) (kX : St → Option Y6) (kO : Nat → St → Option Y6) (a0 : Y4) (k1 : Int) (i5 : Int) : zz58_R2 N (m + 1) (zz58_E2 kX kO) a0 k1 i5 = zz58_b2 (zz58_R2 N m (zz58_E2 kX kO)) (zz58_X2 kX) a0 k1 i5 := by kernel_rfl
theorem zz58_iter2 (N : Nat) (kX : St → Option Y6) (kO : Nat → St → Option Y6) : ∀ (n : Nat) (a0 : Y4) (k1 : Int) (i5 : Int), zz58_R2 N n (zz58_E2 kX kO) a0 k1 i5 = zz58_l2 N (zz58_X2 kX) n a0 k1 i5
  | 0, _, _, _ => rfl
  | m + 1, a0, k1, i5 => by
    have hrec : zz58_R2 N m (zz58_E2 kX kO) = (zz58_l2 N (zz58_X2 kX) m) := (funext fun a0 => (funext fun k1 => (funext fun i5 => zz58_iter2 N kX kO m a0 k1 i5)))
    refine (zz58_step2 N m kX kO a0 k1 i5).trans ?_
    rw [hrec]
    rfl
noncomputable abbrev zz58_K2 (N : Nat) : Ex → St → Option Y6 := (blockK 0 (seqK ((A_zz58).shape 13) (run (A_zz58) N (codeAt Try.f13 [1, 1])) zz58_z))
noncomputable abbrev zz58_k2 (N : Nat) : St → Option Y6 := fun st' => run (A_zz58) N (codeAt Try.f13 [1, 1]) st' zz58_z
theorem zz58_after2 (N : Nat) (a0 : Y4) (k1 : Int) : zz58_X2 (zz58_k2 N) a0 k1 = zz58_a2 a0 k1 := by kernel_rfl
theorem zz58_in2 (N : Nat) (a0 : Y4) (k1 : Int) (i5 : Int) : zz58_R2 N N (zz58_K2 N) a0 k1 i5 = zz58_F2 N a0 k1 i5 :=
  have h : zz58_X2 (zz58_k2 N) = (zz58_a2) := (funext fun a0 => (funext fun k1 => zz58_after2 N a0 k1))
  ((iter_ex (fun st => by kernel_rfl) (fun st => by kernel_rfl)).trans (zz58_iter2 N (zz58_k2 N) (fun j st => (zz58_K2 N) (.exit j) st) N a0 k1 i5)).trans (congrArg (fun k => zz58_l2 N k N a0 k1 i5) h)
theorem run0_zz58 (N : Nat) (x : (S_zz58).a.den) : runF (A_zz58) N Try.f13 S_zz58 x = (zz58_s (zz58_R2 N N (zz58_K2 N)) x.1 x.2.1) := by kernel_rfl
theorem run_zz58 (N : Nat) (x : (S_zz58).a.den) : runF (A_zz58) N Try.f13 S_zz58 x = zz58 N x.1 x.2.1 := by
  refine (run0_zz58 N x).trans ?_
  rw [(funext fun a0 => (funext fun k1 => (funext fun i5 => zz58_in2 N a0 k1 i5)))]
  rfl
theorem fn_zz58 : FnOk Try.prog 13 := ⟨_, Try.func13, by kernel_rfl, by kernel_rfl⟩
theorem good_zz58 : Gx.Good Try.prog 13 S_zz58 := good_of_run Try.func13 (of_decide_eq_true (by kernel_rfl)) fun x r h => ⟨A_zz58, big, mkCfg_ok tabOk, mkCfg_sigs (show SigsOk Try.prog [] from trivial), (run_zz58 big x).trans h⟩

/-! zz59 -/
def zz59_b2 (rec : Y3 → Int → Int → Option (Int × Y2)) (k : Y3 → Int → Option (Int × Y2)) (a0 : Y3) (k1 : Int) (i5 : Int) : Option (Int × Y2) :=
  cond (decide (i5 < (a0.length : Int)))
  ((atI a0 i5).bind fun _ =>
  (a0[i5.toNat]?).bind fun xq1 =>
  (a0[i5.toNat]?).bind fun xq2 =>
  (zz58 big xq2 k1).bind fun rq3 =>
  (a0[i5.toNat]?).bind fun xq4 =>
  (a0[i5.toNat]?).bind fun xq5 =>
  rec (a0.set i5.toNat rq3.2.1) rq3.1 (IntKind.i64.wrap (i5 + (1 : Int))))
  (k a0 k1)
def zz59_a2 (a0 : Y3) (k1 : Int) : Option (Int × Y2) :=
  some (k1, (a0, ()))
def zz59_s (L2 : Y3 → Int → Int → Option (Int × Y2)) (a_0 : Y3) (k_1 : Int) : Option (Int × Y2) :=
  L2 a_0 k_1 (0 : Int)
def zz59_l2 (N : Nat) (k : Y3 → Int → Option (Int × Y2)) : Nat → Y3 → Int → Int → Option (Int × Y2)
  | 0, _, _, _ => none
  | m + 1, a0, k1, i5 => zz59_b2 (zz59_l2 N k m) k a0 k1 i5
def zz59_F2 (N : Nat) (a0 : Y3) (k1 : Int) (i5 : Int) : Option (Int × Y2) := zz59_l2 N (zz59_a2) N a0 k1 i5
def zz59 (N : Nat) (a_0 : Y3) (k_1 : Int) : Option (Int × Y2) := zz59_s (zz59_F2 N) a_0 k_1
def S_zz59 : Sig := { a := (.pair (.sl (.sl I)) (.pair I .unit)), md := [1, 0], mf := [(.o (.o .i))], m := (.pair (.sl (.sl I)) .unit), r := I, rf := .i, f := fun x => zz59 big x.1 x.2.1 }
def A_zz59 : Cfg := mkCfg tab [(13, S_zz58)] [(4, [.as (.sl (.sl I)) (.o (.o .i)), .as I .i, .drop, .drop, .drop, .as I .i]), (11, [.as (.sl (.sl I)) (.o (.o .i)), .as I .i])]
noncomputable def zz59_R2 (N n : Nat) (K : Ex → St → Option (Int × Y2)) (a0 : Y3) (k1 : Int) (i5 : Int) : Option (Int × Y2) := iter ((A_zz59).shape 4) (run (A_zz59) N (codeAt Try.f32 [1, 0, 1, 0, 0])) n ([.val (.sl (.sl I)) (.o (.o .i)) a0, .val I .i k1, .u, .u, .u, .val I .i i5] ++ List.replicate 13 .u) K
noncomputable abbrev zz59_z : Ex → St → Option (Int × Y2) := finish (A_zz59) S_zz59 Try.f32.results.toList
noncomputable abbrev zz59_X2 (kX : St → Option (Int × Y2)) : Y3 → Int → Option (Int × Y2) := fun (a0 : Y3) (k1 : Int) => kX ([.val (.sl (.sl I)) (.o (.o .i)) a0, .val I .i k1] ++ List.replicate 17 .u)
noncomputable abbrev zz59_E2 (kX : St → Option (Int × Y2)) (kO : Nat → St → Option (Int × Y2)) : Ex → St → Option (Int × Y2) := exK zz59_z 0 ((A_zz59).shape 11) kX kO
theorem zz59_step2 (N : Nat) (m : Nat) (kX : St → Option (Int × Y2)) (kO : Nat → St → Option (Int × Y2)) (a0 : Y3) (k1 : Int) (i5 : Int) : zz59_R2 N (m + 1) (zz59_E2 kX kO) a0 k1 i5 = zz59_b2 (zz59_R2 N m (zz59_E2 kX kO)) (zz59_X2 kX) a0 k1 i5 := by kernel_rfl
theorem zz59_iter2 (N : Nat) (kX : St → Option (Int × Y2)) (kO : Nat → St → Option (Int × Y2)) : ∀ (n : Nat) (a0 : Y3) (k1 : Int) (i5 : Int), zz59_R2 N n (zz59_E2 kX kO) a0 k1 i5 = zz59_l2 N (zz59_X2 kX) n a0 k1 i5
  | 0, _, _, _ => rfl
  | m + 1, a0, k1, i5 => by
    have hrec : zz59_R2 N m (zz59_E2 kX kO) = (zz59_l2 N (zz59_X2 kX) m) := (funext fun a0 => (funext fun k1 => (funext fun i5 => zz59_iter2 N kX kO m a0 k1 i5)))
    refine (zz59_step2 N m kX kO a0 k1 i5).trans ?_
    rw [hrec]
    rfl
noncomputable abbrev zz59_K2 (N : Nat) : Ex → St → Option (Int × Y2) := (blockK 0 (seqK ((A_zz59).shape 11) (run (A_zz59) N (codeAt Try.f32 [1, 1])) zz59_z))
noncomputable abbrev zz59_k2 (N : Nat) : St → Option (Int × Y2) := fun st' => run (A_zz59) N (codeAt Try.f32 [1, 1]) st' zz59_z
theorem zz59_after2 (N : Nat) (a0 : Y3) (k1 : Int) : zz59_X2 (zz59_k2 N) a0 k1 = zz59_a2 a0 k1 := by kernel_rfl
theorem zz59_in2 (N : Nat) (a0 : Y3) (k1 : Int) (i5 : Int) : zz59_R2 N N (zz59_K2 N) a0 k1 i5 = zz59_F2 N a0 k1 i5 :=
  have h : zz59_X2 (zz59_k2 N) = (zz59_a2) := (funext fun a0 => (funext fun k1 => zz59_after2 N a0 k1))
  ((iter_ex (fun st => by kernel_rfl) (fun st => by kernel_rfl)).trans (zz59_iter2 N (zz59_k2 N) (fun j st => (zz59_K2 N) (.exit j) st) N a0 k1 i5)).trans (congrArg (fun k => zz59_l2 N k N a0 k1 i5) h)
theorem run0_zz59 (N : Nat) (x : (S_zz59).a.den) : runF (A_zz59) N Try.f32 S_zz59 x = (zz59_s (zz59_R2 N N (zz59_K2 N)) x.1 x.2.1) := by kernel_rfl
theorem run_zz59 (N : Nat) (x : (S_zz59).a.den) : runF (A_zz59) N Try.f32 S_zz59 x = zz59 N x.1 x.2.1 := by
  refine (run0_zz59 N x).trans ?_
  rw [(funext fun a0 => (funext fun k1 => (funext fun i5 => zz59_in2 N a0 k1 i5)))]
  rfl
theorem fn_zz59 : FnOk Try.prog 32 := ⟨_, Try.func32, by kernel_rfl, by kernel_rfl⟩
theorem good_zz59 : Gx.Good Try.prog 32 S_zz59 := good_of_run Try.func32 (of_decide_eq_true (by kernel_rfl)) fun x r h => ⟨A_zz59, big, mkCfg_ok tabOk, mkCfg_sigs (show SigsOk Try.prog [(13, S_zz58)] from ⟨⟨fn_zz58, good_zz58⟩, trivial⟩), (run_zz59 big x).trans h⟩

/-! zz60 -/
def zz60 (a_0 : Y2) (k_1 : Int) : Option (Int × (Y2 × Unit)) := (zz59 big a_0.1 k_1).bind fun r => some (r.1, ((r.2.1, ()), ()))
def S_zz60 : Sig := { a := (.pair (.pair (.sl (.sl I)) .unit) (.pair I .unit)), md := [1, 0], mf := [(.p (.o (.o .i)) .i)], m := (.pair (.pair (.sl (.sl I)) .unit) .unit), r := I, rf := .i, f := fun x => zz60 x.1 x.2.1 }
theorem fn_zz60 : FnOk Try.prog 12 := ⟨_, Try.func12, by kernel_rfl, by kernel_rfl⟩
theorem good_zz60 : Gx.Good Try.prog 12 S_zz60   := good_bx1 (A := mkCfg tab [] []) (T := 30) (TS := 22) (mkCfg_ok tabOk) Try.func12 (by kernel_rfl) (by kernel_rfl) fn_zz59 (by kernel_rfl) (by kernel_rfl) good_zz59

/-! zz61 -/
def zz61_b5 (rec : (List (Int × (Int × Unit))) → Int → Int → Int → Option (Int × ((List (Int × (Int × Unit))) × Unit))) (k : (List (Int × (Int × Unit))) → Int → Int → Option (Int × ((List (Int × (Int × Unit))) × Unit))) (a0 : (List (Int × (Int × Unit)))) (k1 : Int) (i5 : Int) (j6 : Int) : Option (Int × ((List (Int × (Int × Unit))) × Unit)) :=
  cond (decide (j6 < (2 : Int)))
  ((atI a0 i5).bind fun _ =>
  cond (decide (j6 = (0 : Int)))
  ((a0[i5.toNat]?).bind fun xq1 =>
  (a0[i5.toNat]?).bind fun xq2 =>
  rec (a0.set i5.toNat (k1, xq2.2)) (IntKind.i64.wrap (k1 + (1 : Int))) i5 (IntKind.i64.wrap (j6 + (1 : Int))))
  (cond (decide (j6 = (1 : Int)))
  ((a0[i5.toNat]?).bind fun xq3 =>
  (a0[i5.toNat]?).bind fun xq4 =>
  rec (a0.set i5.toNat (xq4.1, (k1, xq4.2.2))) (IntKind.i64.wrap (k1 + (1 : Int))) i5 (IntKind.i64.wrap (j6 + (1 : Int))))
  (none)))
  (k a0 k1 i5)
def zz61_a5 (rec : (List (Int × (Int × Unit))) → Int → Int → Option (Int × ((List (Int × (Int × Unit))) × Unit))) (a0 : (List (Int × (Int × Unit)))) (k1 : Int) (i5 : Int) : Option (Int × ((List (Int × (Int × Unit))) × Unit)) :=
  rec a0 k1 (IntKind.i64.wrap (i5 + (1 : Int)))
def zz61_b2 (L5 : (List (Int × (Int × Unit))) → Int → Int → Int → Option (Int × ((List (Int × (Int × Unit))) × Unit))) (k : (List (Int × (Int × Unit))) → Int → Option (Int × ((List (Int × (Int × Unit))) × Unit))) (a0 : (List (Int × (Int × Unit)))) (k1 : Int) (i5 : Int) : Option (Int × ((List (Int × (Int × Unit))) × Unit)) :=
  cond (decide (i5 < (a0.length : Int)))
  (L5 a0 k1 i5 (0 : Int))
  (k a0 k1)
def zz61_a2 (a0 : (List (Int × (Int × Unit)))) (k1 : Int) : Option (Int × ((List (Int × (Int × Unit))) × Unit)) :=
  some (k1, (a0, ()))
def zz61_s (L2 : (List (Int × (Int × Unit))) → Int → Int → Option (Int × ((List (Int × (Int × Unit))) × Unit))) (a_0 : (List (Int × (Int × Unit)))) (k_1 : Int) : Option (Int × ((List (Int × (Int × Unit))) × Unit)) :=
  L2 a_0 k_1 (0 : Int)
def zz61_l5 (N : Nat) (k : (List (Int × (Int × Unit))) → Int → Int → Option (Int × ((List (Int × (Int × Unit))) × Unit))) : Nat → (List (Int × (Int × Unit))) → Int → Int → Int → Option (Int × ((List (Int × (Int × Unit))) × Unit))
  | 0, _, _, _, _ => none
  | m + 1, a0, k1, i5, j6 => zz61_b5 (zz61_l5 N k m) k a0 k1 i5 j6
def zz61_F5 (N : Nat) (rec : (List (Int × (Int × Unit))) → Int → Int → Option (Int × ((List (Int × (Int × Unit))) × Unit))) (k : (List (Int × (Int × Unit))) → Int → Option (Int × ((List (Int × (Int × Unit))) × Unit))) (a0 : (List (Int × (Int × Unit)))) (k1 : Int) (i5 : Int) (j6 : Int) : Option (Int × ((List (Int × (Int × Unit))) × Unit)) := zz61_l5 N (zz61_a5 rec) N a0 k1 i5 j6
def zz61_l2 (N : Nat) (k : (List (Int × (Int × Unit))) → Int → Option (Int × ((List (Int × (Int × Unit))) × Unit))) : Nat → (List (Int × (Int × Unit))) → Int → Int → Option (Int × ((List (Int × (Int × Unit))) × Unit))
  | 0, _, _, _ => none
  | m + 1, a0, k1, i5 => zz61_b2 (zz61_F5 N (zz61_l2 N k m) k) k a0 k1 i5
def zz61_F2 (N : Nat) (a0 : (List (Int × (Int × Unit)))) (k1 : Int) (i5 : Int) : Option (Int × ((List (Int × (Int × Unit))) × Unit)) := zz61_l2 N (zz61_a2) N a0 k1 i5
def zz61 (N : Nat) (a_0 : (List (Int × (Int × Unit)))) (k_1 : Int) : Option (Int × ((List (Int × (Int × Unit))) × Unit)) := zz61_s (zz61_F2 N) a_0 k_1
def S_zz61 : Sig := { a := (.pair (.sl (.pair I (.pair I .unit))) (.pair I .unit)), md := [1, 0], mf := [(.o .i)], m := (.pair (.sl (.pair I (.pair I .unit))) .unit), r := I, rf := .i, f := fun x => zz61 big x.1 x.2.1 }
def A_zz61 : Cfg := mkCfg tab [] [(4, [.as (.sl (.pair I (.pair I .unit))) (.o .i), .as I .i, .drop, .drop, .drop, .as I .i]), (10, [.as (.sl (.pair I (.pair I .unit))) (.o .i), .as I .i, .drop, .drop, .drop, .as I .i, .as I .i]), (19, [.as (.sl (.pair I (.pair I .unit))) (.o .i), .as I .i]), (7, [.as (.sl (.pair I (.pair I .unit))) (.o .i), .as I .i, .drop, .drop, .drop, .as I .i])]
noncomputable def zz61_R2 (N n : Nat) (K : Ex → St → Option (Int × ((List (Int × (Int × Unit))) × Unit))) (a0 : (List (Int × (Int × Unit)))) (k1 : Int) (i5 : Int) : Option (Int × ((List (Int × (Int × Unit))) × Unit)) := iter ((A_zz61).shape 4) (run (A_zz61) N (codeAt Try.f14 [1, 0, 1, 0, 0])) n ([.val (.sl (.pair I (.pair I .unit))) (.o .i) a0, .val I .i k1, .u, .u, .u, .val I .i i5] ++ List.replicate 20 .u) K
noncomputable def zz61_R5 (N n : Nat) (K : Ex → St → Option (Int × ((List (Int × (Int × Unit))) × Unit))) (a0 : (List (Int × (Int × Unit)))) (k1 : Int) (i5 : Int) (j6 : Int) : Option (Int × ((List (Int × (Int × Unit))) × Unit)) := iter ((A_zz61).shape 10) (run (A_zz61) N (codeAt Try.f14 [1, 0, 1, 0, 0, 1, 0, 0, 1, 0, 0])) n ([.val (.sl (.pair I (.pair I .unit))) (.o .i) a0, .val I .i k1, .u, .u, .u, .val I .i i5, .val I .i j6] ++ List.replicate 19 .u) K
noncomputable abbrev zz61_z : Ex → St → Option (Int × ((List (Int × (Int × Unit))) × Unit)) := finish (A_zz61) S_zz61 Try.f14.results.toList
noncomputable abbrev zz61_X2 (kX : St → Option (Int × ((List (Int × (Int × Unit))) × Unit))) : (List (Int × (Int × Unit))) → Int → Option (Int × ((List (Int × (Int × Unit))) × Unit)) := fun (a0 : (List (Int × (Int × Unit)))) (k1 : Int) => kX ([.val (.sl (.pair I (.pair I .unit))) (.o .i) a0, .val I .i k1] ++ List.replicate 24 .u)
noncomputable abbrev zz61_E2 (kX : St → Option (Int × ((List (Int × (Int × Unit))) × Unit))) (kO : Nat → St → Option (Int × ((List (Int × (Int × Unit))) × Unit))) : Ex → St → Option (Int × ((List (Int × (Int × Unit))) × Unit)) := exK zz61_z 0 ((A_zz61).shape 19) kX kO
noncomputable abbrev zz61_X5 (kX : St → Option (Int × ((List (Int × (Int × Unit))) × Unit))) : (List (Int × (Int × Unit))) → Int → Int → Option (Int × ((List (Int × (Int × Unit))) × Unit)) := fun (a0 : (List (Int × (Int × Unit)))) (k1 : Int) (i5 : Int) => kX ([.val (.sl (.pair I (.pair I .unit))) (.o .i) a0, .val I .i k1, .u, .u, .u, .val I .i i5] ++ List.replicate 20 .u)
noncomputable abbrev zz61_E5 (kX : St → Option (Int × ((List (Int × (Int × Unit))) × Unit))) (kO : Nat → St → Option (Int × ((List (Int × (Int × Unit))) × Unit))) : Ex → St → Option (Int × ((List (Int × (Int × Unit))) × Unit)) := exK zz61_z 2 ((A_zz61).shape 7) kX kO
theorem zz61_step5 (N : Nat) (m : Nat) (kX : St → Option (Int × ((List (Int × (Int × Unit))) × Unit))) (kO : Nat → St → Option (Int × ((List (Int × (Int × Unit))) × Unit))) (a0 : (List (Int × (Int × Unit)))) (k1 : Int) (i5 : Int) (j6 : Int) : zz61_R5 N (m + 1) (zz61_E5 kX kO) a0 k1 i5 j6 = zz61_b5 (zz61_R5 N m (zz61_E5 kX kO)) (zz61_X5 kX) a0 k1 i5 j6 := by kernel_rfl
theorem zz61_iter5 (N : Nat) (kX : St → Option (Int × ((List (Int × (Int × Unit))) × Unit))) (kO : Nat → St → Option (Int × ((List (Int × (Int × Unit))) × Unit))) : ∀ (n : Nat) (a0 : (List (Int × (Int × Unit)))) (k1 : Int) (i5 : Int) (j6 : Int), zz61_R5 N n (zz61_E5 kX kO) a0 k1 i5 j6 = zz61_l5 N (zz61_X5 kX) n a0 k1 i5 j6
  | 0, _, _, _, _ => rfl
  | m + 1, a0, k1, i5, j6 => by
    have hrec : zz61_R5 N m (zz61_E5 kX kO) = (zz61_l5 N (zz61_X5 kX) m) := (funext fun a0 => (funext fun k1 => (funext fun i5 => (funext fun j6 => zz61_iter5 N kX kO m a0 k1 i5 j6))))
    refine (zz61_step5 N m kX kO a0 k1 i5 j6).trans ?_
    rw [hrec]
    rfl
noncomputable abbrev zz61_K5 (N : Nat) (m : Nat) (kX : St → Option (Int × ((List (Int × (Int × Unit))) × Unit))) (kO : Nat → St → Option (Int × ((List (Int × (Int × Unit))) × Unit))) : Ex → St → Option (Int × ((List (Int × (Int × Unit))) × Unit)) := (blockK 2 (blockK 1 (seqK ((A_zz61).shape 7) (run (A_zz61) N (codeAt Try.f14 [1, 0, 1, 0, 0, 1, 1])) (iterK ((A_zz61).shape 4) (run (A_zz61) N (codeAt Try.f14 [1, 0, 1, 0, 0])) m (zz61_E2 kX kO)))))
noncomputable abbrev zz61_k5 (N : Nat) (m : Nat) (kX : St → Option (Int × ((List (Int × (Int × Unit))) × Unit))) (kO : Nat → St → Option (Int × ((List (Int × (Int × Unit))) × Unit))) : St → Option (Int × ((List (Int × (Int × Unit))) × Unit)) := fun st' => run (A_zz61) N (codeAt Try.f14 [1, 0, 1, 0, 0, 1, 1]) st' (iterK ((A_zz61).shape 4) (run (A_zz61) N (codeAt Try.f14 [1, 0, 1, 0, 0])) m (zz61_E2 kX kO))
theorem zz61_after5 (N : Nat) (m : Nat) (kX : St → Option (Int × ((List (Int × (Int × Unit))) × Unit))) (kO : Nat → St → Option (Int × ((List (Int × (Int × Unit))) × Unit))) (a0 : (List (Int × (Int × Unit)))) (k1 : Int) (i5 : Int) : zz61_X5 (zz61_k5 N m kX kO) a0 k1 i5 = zz61_a5 (zz61_R2 N m (zz61_E2 kX kO)) a0 k1 i5 := by kernel_rfl
theorem zz61_in5 (N : Nat) (m : Nat) (kX : St → Option (Int × ((List (Int × (Int × Unit))) × Unit))) (kO : Nat → St → Option (Int × ((List (Int × (Int × Unit))) × Unit))) (recF : (List (Int × (Int × Unit))) → Int → Int → Option (Int × ((List (Int × (Int × Unit))) × Unit))) (hrec : zz61_R2 N m (zz61_E2 kX kO) = recF) (a0 : (List (Int × (Int × Unit)))) (k1 : Int) (i5 : Int) (j6 : Int) : zz61_R5 N N (zz61_K5 N m kX kO) a0 k1 i5 j6 = zz61_F5 N recF (zz61_X2 kX) a0 k1 i5 j6 :=
  have h : zz61_X5 (zz61_k5 N m kX kO) = (zz61_a5 recF) := (funext fun a0 => (funext fun k1 => (funext fun i5 => (zz61_after5 N m kX kO a0 k1 i5).trans (by rw [hrec]))))
  ((iter_ex (fun st => by kernel_rfl) (fun st => by kernel_rfl)).trans (zz61_iter5 N (zz61_k5 N m kX kO) (fun j st => (zz61_K5 N m kX kO) (.exit j) st) N a0 k1 i5 j6)).trans (congrArg (fun k => zz61_l5 N k N a0 k1 i5 j6) h)
theorem zz61_step2 (N : Nat) (m : Nat) (kX : St → Option (Int × ((List (Int × (Int × Unit))) × Unit))) (kO : Nat → St → Option (Int × ((List (Int × (Int × Unit))) × Unit))) (a0 : (List (Int × (Int × Unit)))) (k1 : Int) (i5 : Int) : zz61_R2 N (m + 1) (zz61_E2 kX kO) a0 k1 i5 = zz61_b2 (zz61_R5 N N (zz61_K5 N m kX kO)) (zz61_X2 kX) a0 k1 i5 := by kernel_rfl
theorem zz61_iter2 (N : Nat) (kX : St → Option (Int × ((List (Int × (Int × Unit))) × Unit))) (kO : Nat → St → Option (Int × ((List (Int × (Int × Unit))) × Unit))) : ∀ (n : Nat) (a0 : (List (Int × (Int × Unit)))) (k1 : Int) (i5 : Int), zz61_R2 N n (zz61_E2 kX kO) a0 k1 i5 = zz61_l2 N (zz61_X2 kX) n a0 k1 i5
  | 0, _, _, _ => rfl
  | m + 1, a0, k1, i5 => by
    have hrec : zz61_R2 N m (zz61_E2 kX kO) = (zz61_l2 N (zz61_X2 kX) m) := (funext fun a0 => (funext fun k1 => (funext fun i5 => zz61_iter2 N kX kO m a0 k1 i5)))
    refine (zz61_step2 N m kX kO a0 k1 i5).trans ?_
    rw [(funext fun a0 => (funext fun k1 => (funext fun i5 => (funext fun j6 => zz61_in5 N m kX kO (zz61_l2 N (zz61_X2 kX) m) hrec a0 k1 i5 j6))))]
    rfl
noncomputable abbrev zz61_K2 (N : Nat) : Ex → St → Option (Int × ((List (Int × (Int × Unit))) × Unit)) := (blockK 0 (seqK ((A_zz61).shape 19) (run (A_zz61) N (codeAt Try.f14 [1, 1])) zz61_z))
noncomputable abbrev zz61_k2 (N : Nat) : St → Option (Int × ((List (Int × (Int × Unit))) × Unit)) := fun st' => run (A_zz61) N (codeAt Try.f14 [1, 1]) st' zz61_z
theorem zz61_after2 (N : Nat) (a0 : (List (Int × (Int × Unit)))) (k1 : Int) : zz61_X2 (zz61_k2 N) a0 k1 = zz61_a2 a0 k1 := by kernel_rfl
theorem zz61_in2 (N : Nat) (a0 : (List (Int × (Int × Unit)))) (k1 : Int) (i5 : Int) : zz61_R2 N N (zz61_K2 N) a0 k1 i5 = zz61_F2 N a0 k1 i5 :=
  have h : zz61_X2 (zz61_k2 N) = (zz61_a2) := (funext fun a0 => (funext fun k1 => zz61_after2 N a0 k1))
  ((iter_ex (fun st => by kernel_rfl) (fun st => by kernel_rfl)).trans (zz61_iter2 N (zz61_k2 N) (fun j st => (zz61_K2 N) (.exit j) st) N a0 k1 i5)).trans (congrArg (fun k => zz61_l2 N k N a0 k1 i5) h)
theorem run0_zz61 (N : Nat) (x : (S_zz61).a.den) : runF (A_zz61) N Try.f14 S_zz61 x = (zz61_s (zz61_R2 N N (zz61_K2 N)) x.1 x.2.1) := by kernel_rfl
theorem run_zz61 (N : Nat) (x : (S_zz61).a.den) : runF (A_zz61) N Try.f14 S_zz61 x = zz61 N x.1 x.2.1 := by
  refine (run0_zz61 N x).trans ?_
  rw [(funext fun a0 => (funext fun k1 => (funext fun i5 => zz61_in2 N a0 k1 i5)))]
  rfl
theorem fn_zz61 : FnOk Try.prog 14 := ⟨_, Try.func14, by kernel_rfl, by kernel_rfl⟩
theorem good_zz61 : Gx.Good Try.prog 14 S_zz61 := good_of_run Try.func14 (of_decide_eq_true (by kernel_rfl)) fun x r h => ⟨A_zz61, big, mkCfg_ok tabOk, mkCfg_sigs (show SigsOk Try.prog [] from trivial), (run_zz61 big x).trans h⟩

/-! zz62 -/
def zz62_b5 (rec : (List (Int × (Int × Unit))) → Int → Int → Int → Option (Int × Unit)) (k : (List (Int × (Int × Unit))) → Int → Int → Option (Int × Unit)) (a0 : (List (Int × (Int × Unit)))) (k1 : Int) (i5 : Int) (j6 : Int) : Option (Int × Unit) :=
  cond (decide (j6 < (2 : Int)))
  ((atI a0 i5).bind fun xq1 =>
  cond (decide (j6 = (0 : Int)))
  (cond (decide (xq1.1 ≠ k1))
  (some ((-1 : Int), (())))
  (rec a0 (IntKind.i64.wrap (k1 + (1 : Int))) i5 (IntKind.i64.wrap (j6 + (1 : Int)))))
  (cond (decide (j6 = (1 : Int)))
  (cond (decide (xq1.2.1 ≠ k1))
  (some ((-1 : Int), (())))
  (rec a0 (IntKind.i64.wrap (k1 + (1 : Int))) i5 (IntKind.i64.wrap (j6 + (1 : Int)))))
  (none)))
  (k a0 k1 i5)
def zz62_a5 (rec : (List (Int × (Int × Unit))) → Int → Int → Option (Int × Unit)) (a0 : (List (Int × (Int × Unit)))) (k1 : Int) (i5 : Int) : Option (Int × Unit) :=
  rec a0 k1 (IntKind.i64.wrap (i5 + (1 : Int)))
def zz62_b2 (L5 : (List (Int × (Int × Unit))) → Int → Int → Int → Option (Int × Unit)) (k : Int → Option (Int × Unit)) (a0 : (List (Int × (Int × Unit)))) (k1 : Int) (i5 : Int) : Option (Int × Unit) :=
  cond (decide (i5 < (a0.length : Int)))
  (L5 a0 k1 i5 (0 : Int))
  (k k1)
def zz62_a2 (k1 : Int) : Option (Int × Unit) :=
  some (k1, (()))
def zz62_s (L2 : (List (Int × (Int × Unit))) → Int → Int → Option (Int × Unit)) (a_0 : (List (Int × (Int × Unit)))) (k_1 : Int) : Option (Int × Unit) :=
  L2 a_0 k_1 (0 : Int)
def zz62_l5 (N : Nat) (k : (List (Int × (Int × Unit))) → Int → Int → Option (Int × Unit)) : Nat → (List (Int × (Int × Unit))) → Int → Int → Int → Option (Int × Unit)
  | 0, _, _, _, _ => none
  | m + 1, a0, k1, i5, j6 => zz62_b5 (zz62_l5 N k m) k a0 k1 i5 j6
def zz62_F5 (N : Nat) (rec : (List (Int × (Int × Unit))) → Int → Int → Option (Int × Unit)) (k : Int → Option (Int × Unit)) (a0 : (List (Int × (Int × Unit)))) (k1 : Int) (i5 : Int) (j6 : Int) : Option (Int × Unit) := zz62_l5 N (zz62_a5 rec) N a0 k1 i5 j6
def zz62_l2 (N : Nat) (k : Int → Option (Int × Unit)) : Nat → (List (Int × (Int × Unit))) → Int → Int → Option (Int × Unit)
  | 0, _, _, _ => none
  | m + 1, a0, k1, i5 => zz62_b2 (zz62_F5 N (zz62_l2 N k m) k) k a0 k1 i5
def zz62_F2 (N : Nat) (a0 : (List (Int × (Int × Unit)))) (k1 : Int) (i5 : Int) : Option (Int × Unit) := zz62_l2 N (zz62_a2) N a0 k1 i5
def zz62 (N : Nat) (a_0 : (List (Int × (Int × Unit)))) (k_1 : Int) : Option (Int × Unit) := zz62_s (zz62_F2 N) a_0 k_1
def S_zz62 : Sig := { a := (.pair (.sl (.pair I (.pair I .unit))) (.pair I .unit)), md := [0, 0], mf := [], m := .unit, r := I, rf := .i, f := fun x => zz62 big x.1 x.2.1 }
def A_zz62 : Cfg := mkCfg tab [] [(4, [.as (.sl (.pair I (.pair I .unit))) .i, .as I .i, .drop, .drop, .drop, .as I .i]), (10, [.as (.sl (.pair I (.pair I .unit))) .i, .as I .i, .drop, .drop, .drop, .as I .i, .as I .i]), (21, [.drop, .as I .i]), (7, [.as (.sl (.pair I (.pair I .unit))) .i, .as I .i, .drop, .drop, .drop, .as I .i])]
noncomputable def zz62_R2 (N n : Nat) (K : Ex → St → Option (Int × Unit)) (a0 : (List (Int × (Int × Unit)))) (k1 : Int) (i5 : Int) : Option (Int × Unit) := iter ((A_zz62).shape 4) (run (A_zz62) N (codeAt Try.f15 [1, 0, 1, 0, 0])) n ([.val (.sl (.pair I (.pair I .unit))) .i a0, .val I .i k1, .u, .u, .u, .val I .i i5] ++ List.replicate 22 .u) K
noncomputable def zz62_R5 (N n : Nat) (K : Ex → St → Option (Int × Unit)) (a0 : (List (Int × (Int × Unit)))) (k1 : Int) (i5 : Int) (j6 : Int) : Option (Int × Unit) := iter ((A_zz62).shape 10) (run (A_zz62) N (codeAt Try.f15 [1, 0, 1, 0, 0, 1, 0, 0, 1, 0, 0])) n ([.val (.sl (.pair I (.pair I .unit))) .i a0, .val I .i k1, .u, .u, .u, .val I .i i5, .val I .i j6] ++ List.replicate 21 .u) K
noncomputable abbrev zz62_z : Ex → St → Option (Int × Unit) := finish (A_zz62) S_zz62 Try.f15.results.toList
noncomputable abbrev zz62_X2 (kX : St → Option (Int × Unit)) : Int → Option (Int × Unit) := fun (k1 : Int) => kX ([.u, .val I .i k1] ++ List.replicate 26 .u)
noncomputable abbrev zz62_E2 (kX : St → Option (Int × Unit)) (kO : Nat → St → Option (Int × Unit)) : Ex → St → Option (Int × Unit) := exK zz62_z 0 ((A_zz62).shape 21) kX kO
noncomputable abbrev zz62_X5 (kX : St → Option (Int × Unit)) : (List (Int × (Int × Unit))) → Int → Int → Option (Int × Unit) := fun (a0 : (List (Int × (Int × Unit)))) (k1 : Int) (i5 : Int) => kX ([.val (.sl (.pair I (.pair I .unit))) .i a0, .val I .i k1, .u, .u, .u, .val I .i i5] ++ List.replicate 22 .u)
noncomputable abbrev zz62_E5 (kX : St → Option (Int × Unit)) (kO : Nat → St → Option (Int × Unit)) : Ex → St → Option (Int × Unit) := exK zz62_z 2 ((A_zz62).shape 7) kX kO
theorem zz62_step5 (N : Nat) (m : Nat) (kX : St → Option (Int × Unit)) (kO : Nat → St → Option (Int × Unit)) (a0 : (List (Int × (Int × Unit)))) (k1 : Int) (i5 : Int) (j6 : Int) : zz62_R5 N (m + 1) (zz62_E5 kX kO) a0 k1 i5 j6 = zz62_b5 (zz62_R5 N m (zz62_E5 kX kO)) (zz62_X5 kX) a0 k1 i5 j6 := by kernel_rfl
theorem zz62_iter5 (N : Nat) (kX : St → Option (Int × Unit)) (kO : Nat → St → Option (Int × Unit)) : ∀ (n : Nat) (a0 : (List (Int × (Int × Unit)))) (k1 : Int) (i5 : Int) (j6 : Int), zz62_R5 N n (zz62_E5 kX kO) a0 k1 i5 j6 = zz62_l5 N (zz62_X5 kX) n a0 k1 i5 j6
  | 0, _, _, _, _ => rfl
  | m + 1, a0, k1, i5, j6 => by
    have hrec : zz62_R5 N m (zz62_E5 kX kO) = (zz62_l5 N (zz62_X5 kX) m) := (funext fun a0 => (funext fun k1 => (funext fun i5 => (funext fun j6 => zz62_iter5 N kX kO m a0 k1 i5 j6))))
    refine (zz62_step5 N m kX kO a0 k1 i5 j6).trans ?_
    rw [hrec]
    rfl
noncomputable abbrev zz62_K5 (N : Nat) (m : Nat) (kX : St → Option (Int × Unit)) (kO : Nat → St → Option (Int × Unit)) : Ex → St → Option (Int × Unit) := (blockK 2 (blockK 1 (seqK ((A_zz62).shape 7) (run (A_zz62) N (codeAt Try.f15 [1, 0, 1, 0, 0, 1, 1])) (iterK ((A_zz62).shape 4) (run (A_zz62) N (codeAt Try.f15 [1, 0, 1, 0, 0])) m (zz62_E2 kX kO)))))
noncomputable abbrev zz62_k5 (N : Nat) (m : Nat) (kX : St → Option (Int × Unit)) (kO : Nat → St → Option (Int × Unit)) : St → Option (Int × Unit) := fun st' => run (A_zz62) N (codeAt Try.f15 [1, 0, 1, 0, 0, 1, 1]) st' (iterK ((A_zz62).shape 4) (run (A_zz62) N (codeAt Try.f15 [1, 0, 1, 0, 0])) m (zz62_E2 kX kO))
theorem zz62_after5 (N : Nat) (m : Nat) (kX : St → Option (Int × Unit)) (kO : Nat → St → Option (Int × Unit)) (a0 : (List (Int × (Int × Unit)))) (k1 : Int) (i5 : Int) : zz62_X5 (zz62_k5 N m kX kO) a0 k1 i5 = zz62_a5 (zz62_R2 N m (zz62_E2 kX kO)) a0 k1 i5 := by kernel_rfl
theorem zz62_in5 (N : Nat) (m : Nat) (kX : St → Option (Int × Unit)) (kO : Nat → St → Option (Int × Unit)) (recF : (List (Int × (Int × Unit))) → Int → Int → Option (Int × Unit)) (hrec : zz62_R2 N m (zz62_E2 kX kO) = recF) (a0 : (List (Int × (Int × Unit)))) (k1 : Int) (i5 : Int) (j6 : Int) : zz62_R5 N N (zz62_K5 N m kX kO) a0 k1 i5 j6 = zz62_F5 N recF (zz62_X2 kX) a0 k1 i5 j6 :=
  have h : zz62_X5 (zz62_k5 N m kX kO) = (zz62_a5 recF) := (funext fun a0 => (funext fun k1 => (funext fun i5 => (zz62_after5 N m kX kO a0 k1 i5).trans (by rw [hrec]))))
  ((iter_ex (fun st => by kernel_rfl) (fun st => by kernel_rfl)).trans (zz62_iter5 N (zz62_k5 N m kX kO) (fun j st => (zz62_K5 N m kX kO) (.exit j) st) N a0 k1 i5 j6)).trans (congrArg (fun k => zz62_l5 N k N a0 k1 i5 j6) h)
theorem zz62_step2 (N : Nat) (m : Nat) (kX : St → Option (Int × Unit)) (kO : Nat → St → Option (Int × Unit)) (a0 : (List (Int × (Int × Unit)))) (k1 : Int) (i5 : Int) : zz62_R2 N (m + 1) (zz62_E2 kX kO) a0 k1 i5 = zz62_b2 (zz62_R5 N N (zz62_K5 N m kX kO)) (zz62_X2 kX) a0 k1 i5 := by kernel_rfl
theorem zz62_iter2 (N : Nat) (kX : St → Option (Int × Unit)) (kO : Nat → St → Option (Int × Unit)) : ∀ (n : Nat) (a0 : (List (Int × (Int × Unit)))) (k1 : Int) (i5 : Int), zz62_R2 N n (zz62_E2 kX kO) a0 k1 i5 = zz62_l2 N (zz62_X2 kX) n a0 k1 i5
  | 0, _, _, _ => rfl
  | m + 1, a0, k1, i5 => by
    have hrec : zz62_R2 N m (zz62_E2 kX kO) = (zz62_l2 N (zz62_X2 kX) m) := (funext fun a0 => (funext fun k1 => (funext fun i5 => zz62_iter2 N kX kO m a0 k1 i5)))
    refine (zz62_step2 N m kX kO a0 k1 i5).trans ?_
    rw [(funext fun a0 => (funext fun k1 => (funext fun i5 => (funext fun j6 => zz62_in5 N m kX kO (zz62_l2 N (zz62_X2 kX) m) hrec a0 k1 i5 j6))))]
    rfl
noncomputable abbrev zz62_K2 (N : Nat) : Ex → St → Option (Int × Unit) := (blockK 0 (seqK ((A_zz62).shape 21) (run (A_zz62) N (codeAt Try.f15 [1, 1])) zz62_z))
noncomputable abbrev zz62_k2 (N : Nat) : St → Option (Int × Unit) := fun st' => run (A_zz62) N (codeAt Try.f15 [1, 1]) st' zz62_z
theorem zz62_after2 (N : Nat) (k1 : Int) : zz62_X2 (zz62_k2 N) k1 = zz62_a2 k1 := by kernel_rfl
theorem zz62_in2 (N : Nat) (a0 : (List (Int × (Int × Unit)))) (k1 : Int) (i5 : Int) : zz62_R2 N N (zz62_K2 N) a0 k1 i5 = zz62_F2 N a0 k1 i5 :=
  have h : zz62_X2 (zz62_k2 N) = (zz62_a2) := (funext fun k1 => zz62_after2 N k1)
  ((iter_ex (fun st => by kernel_rfl) (fun st => by kernel_rfl)).trans (zz62_iter2 N (zz62_k2 N) (fun j st => (zz62_K2 N) (.exit j) st) N a0 k1 i5)).trans (congrArg (fun k => zz62_l2 N k N a0 k1 i5) h)
theorem run0_zz62 (N : Nat) (x : (S_zz62).a.den) : runF (A_zz62) N Try.f15 S_zz62 x = (zz62_s (zz62_R2 N N (zz62_K2 N)) x.1 x.2.1) := by kernel_rfl
theorem run_zz62 (N : Nat) (x : (S_zz62).a.den) : runF (A_zz62) N Try.f15 S_zz62 x = zz62 N x.1 x.2.1 := by
  refine (run0_zz62 N x).trans ?_
  rw [(funext fun a0 => (funext fun k1 => (funext fun i5 => zz62_in2 N a0 k1 i5)))]
  rfl
theorem fn_zz62 : FnOk Try.prog 15 := ⟨_, Try.func15, by kernel_rfl, by kernel_rfl⟩
theorem good_zz62 : Gx.Good Try.prog 15 S_zz62 := good_of_run Try.func15 (of_decide_eq_true (by kernel_rfl)) fun x r h => ⟨A_zz62, big, mkCfg_ok tabOk, mkCfg_sigs (show SigsOk Try.prog [] from trivial), (run_zz62 big x).trans h⟩

/-! laws_FnExactBlockIntervals -/
def laws_FnExactBlockIntervals_s (aP_0 : Y2) (aC_1 : Y4) : Option (Bool × Unit) :=
  cond (decide ((1048576 : Int) < (aC_1.length : Int)))
  (some (true, (())))
  ((zz2 aP_0 (1048576 : Int)).bind fun rq1 =>
  cond (decide (rq1.1 < (0 : Int)))
  (some (true, (())))
  ((zz5 aP_0).bind fun rq2 =>
  (zz3 big aC_1).bind fun rq3 =>
  (zz28 big rq2.1 rq3.1).bind fun rq4 =>
  (zz5 aP_0).bind fun rq5 =>
  (zz3 big aC_1).bind fun rq6 =>
  (zz52 big rq5.1 rq6.1).bind fun rq7 =>
  (zz54 big rq7.1.1 rq4.1.1).bind fun rq8 =>
  cond (!rq8.1)
  (some (false, (())))
  (cond (((((), rq7.1.2).2).1) != ((((), rq4.1.2).2).1))
  (some (false, (())))
  ((zz5 aP_0).bind fun rq9 =>
  (zz57 rq5.1 rq9.1).bind fun rq10 =>
  cond (!rq10.1)
  (some (false, (())))
  ((zz3 big aC_1).bind fun rq11 =>
  (zz55 big rq6.1 rq11.1).bind fun rq12 =>
  cond (!rq12.1)
  (some (false, (())))
  ((zz60 rq5.1 (1 : Int)).bind fun rq13 =>
  (zz58 big rq6.1 rq13.1).bind fun rq14 =>
  cond (decide (rq14.1 < (0 : Int)))
  (some (false, (())))
  ((zz54 big rq7.1.1 rq4.1.1).bind fun rq15 =>
  cond (!rq15.1)
  (some (false, (())))
  (cond (((((), rq7.1.2).2).1) != ((((), rq4.1.2).2).1))
  (some (false, (())))
  ((zz61 big rq7.1.1 (1 : Int)).bind fun rq16 =>
  (zz62 big rq16.2.1 (1 : Int)).bind fun rq17 =>
  cond (decide (rq17.1 < (0 : Int)))
  (some (false, (())))
  (cond (decide (rq17.1 ≠ rq16.1))
  (some (false, (())))
  ((zz5 aP_0).bind fun rq18 =>
  (zz3 big aC_1).bind fun rq19 =>
  (zz52 big rq18.1 rq19.1).bind fun rq20 =>
  (zz54 big rq20.1.1 rq4.1.1).bind fun rq21 =>
  cond (!rq21.1)
  (some (false, (())))
  (cond (((((), rq20.1.2).2).1) != ((((), rq4.1.2).2).1))
  (some (false, (())))
  ((zz62 big rq16.2.1 (1 : Int)).bind fun rq22 =>
  cond (decide (rq22.1 < (0 : Int)))
  (some (false, (())))
  (cond (decide (rq22.1 ≠ rq16.1))
  (some (false, (())))
  (some (true, (())))))))))))))))))
def laws_FnExactBlockIntervals (aP_0 : Y2) (aC_1 : Y4) : Option (Bool × Unit) := laws_FnExactBlockIntervals_s aP_0 aC_1
def S_laws_FnExactBlockIntervals : Sig := { a := (.pair (.pair (.sl (.sl I)) .unit) (.pair (.sl I) .unit)), md := [0, 0], mf := [], m := .unit, r := .bool, rf := .i, f := fun x => laws_FnExactBlockIntervals x.1 x.2.1 }
def A_laws_FnExactBlockIntervals : Cfg := mkCfg tab [(4, S_zz2), (6, S_zz5), (7, S_zz3), (5, S_zz28), (8, S_zz52), (9, S_zz54), (10, S_zz57), (11, S_zz55), (12, S_zz60), (13, S_zz58), (14, S_zz61), (15, S_zz62)] []
theorem run_laws_FnExactBlockIntervals (N : Nat) (x : (S_laws_FnExactBlockIntervals).a.den) : runF (A_laws_FnExactBlockIntervals) N Try.f3 S_laws_FnExactBlockIntervals x = laws_FnExactBlockIntervals x.1 x.2.1 := by kernel_rfl
theorem fn_laws_FnExactBlockIntervals : FnOk Try.prog 3 := ⟨_, Try.func3, by kernel_rfl, by kernel_rfl⟩
theorem good_laws_FnExactBlockIntervals : Gx.Good Try.prog 3 S_laws_FnExactBlockIntervals := good_of_run Try.func3 (of_decide_eq_true (by kernel_rfl)) fun x r h => ⟨A_laws_FnExactBlockIntervals, big, mkCfg_ok tabOk, mkCfg_sigs (show SigsOk Try.prog [(4, S_zz2), (6, S_zz5), (7, S_zz3), (5, S_zz28), (8, S_zz52), (9, S_zz54), (10, S_zz57), (11, S_zz55), (12, S_zz60), (13, S_zz58), (14, S_zz61), (15, S_zz62)] from ⟨⟨fn_zz2, good_zz2⟩, ⟨fn_zz5, good_zz5⟩, ⟨fn_zz3, good_zz3⟩, ⟨fn_zz28, good_zz28⟩, ⟨fn_zz52, good_zz52⟩, ⟨fn_zz54, good_zz54⟩, ⟨fn_zz57, good_zz57⟩, ⟨fn_zz55, good_zz55⟩, ⟨fn_zz60, good_zz60⟩, ⟨fn_zz58, good_zz58⟩, ⟨fn_zz61, good_zz61⟩, ⟨fn_zz62, good_zz62⟩, trivial⟩), (run_laws_FnExactBlockIntervals big x).trans h⟩
end
end Go.Proofs.Yteamfbmkphjcjaa
