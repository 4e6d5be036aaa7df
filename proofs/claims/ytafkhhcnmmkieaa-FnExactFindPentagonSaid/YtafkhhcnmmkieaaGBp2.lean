import Derived.Test.YtafkhhcnmmkieaaGBp1
set_option maxRecDepth 100000
set_option linter.unusedVariables false
namespace Go.Proofs.Ytafkhhcnmmkieaa
open Go Go.Gx Go.Proofs

/-! zz39 -/
def zz39_s (z_0 : Int) (p_1 : Y1) (p_2 : Int) (p_3 : Int) : Option (Bool × Unit) :=
  (p_1).bind fun xq1 =>
  (p_1).bind fun xq2 =>
  (atI xq2.2.1 z_0).bind fun xq3 =>
  (atI xq3 p_2).bind fun xq4 =>
  (atI xq1.2.2.1 xq4).bind fun xq5 =>
  (p_1).bind fun xq6 =>
  (atI xq6.2.1 z_0).bind fun xq7 =>
  (atI xq7 p_3).bind fun xq8 =>
  (atI xq5 xq8).bind fun xq9 =>
  cond (decide (xq9 ≠ z_0))
  (some (true, (())))
  ((p_1).bind fun xq10 =>
  (p_1).bind fun xq11 =>
  (atI xq11.2.2.1 z_0).bind fun xq12 =>
  (atI xq12 p_2).bind fun xq13 =>
  (atI xq10.2.1 xq13).bind fun xq14 =>
  (p_1).bind fun xq15 =>
  (atI xq15.2.2.1 z_0).bind fun xq16 =>
  (atI xq16 p_3).bind fun xq17 =>
  (atI xq14 xq17).bind fun xq18 =>
  some (decide (xq18 ≠ z_0), (())))
def zz39 (z_0 : Int) (p_1 : Y1) (p_2 : Int) (p_3 : Int) : Option (Bool × Unit) := zz39_s z_0 p_1 p_2 p_3
def S_zz39 : Sig := { a := (.pair I (.pair (.ptr (.opt (.pair (.sl (.sl .bool)) (.pair (.sl (.sl I)) (.pair (.sl (.sl I)) .unit))))) (.pair (.ptr I) (.pair (.ptr I) .unit)))), md := [0, 0, 0, 0], mf := [], m := .unit, r := .bool, rf := .i, f := fun x => zz39 x.1 x.2.1 x.2.2.1 x.2.2.2.1 }
def A_zz39 : Cfg := mkCfg tab [] []
theorem run_zz39 (N : Nat) (x : (S_zz39).a.den) : runF (A_zz39) N Try.f116 S_zz39 x = zz39 x.1 x.2.1 x.2.2.1 x.2.2.2.1 := by kernel_rfl
theorem fn_zz39 : FnOk Try.prog 116 := ⟨_, Try.func116, by kernel_rfl, by kernel_rfl⟩
theorem good_zz39 : Gx.Good Try.prog 116 S_zz39 := good_of_run Try.func116 (of_decide_eq_true (by kernel_rfl)) fun x r h => ⟨A_zz39, big, mkCfg_ok tabOk, mkCfg_sigs (show SigsOk Try.prog [] from trivial), (run_zz39 big x).trans h⟩

/-! zz40 -/
def zz40_b3 (rec : (Y1 × (Int × (Int × Unit))) → Y4 → Int → Int → Option (Y4 × Unit)) (k : Y4 → Option (Y4 × Unit)) (so1 : (Y1 × (Int × (Int × Unit)))) (list5 : Y4) (t9 : Int) (t10 : Int) : Option (Y4 × Unit) :=
  cond (decide (t10 < t9))
  ((zz39 t10 so1.1 so1.2.1 so1.2.2.1).bind fun rq1 =>
  cond rq1.1
  ((appI list5 [t10]).bind fun xq2 =>
  rec so1 xq2 t9 (IntKind.i64.wrap (t10 + (1 : Int))))
  (rec so1 list5 t9 (IntKind.i64.wrap (t10 + (1 : Int)))))
  (k list5)
def zz40_a3 (list5 : Y4) : Option (Y4 × Unit) :=
  some (list5, (()))
def zz40_s (L3 : (Y1 × (Int × (Int × Unit))) → Y4 → Int → Int → Option (Y4 × Unit)) (o_0 : Y5) (so_1 : (Y1 × (Int × (Int × Unit)))) : Option (Y4 × Unit) :=
  L3 so_1 [] (o_0.length : Int) (0 : Int)
def zz40_l3 (N : Nat) (k : Y4 → Option (Y4 × Unit)) : Nat → (Y1 × (Int × (Int × Unit))) → Y4 → Int → Int → Option (Y4 × Unit)
  | 0, _, _, _, _ => none
  | m + 1, so1, list5, t9, t10 => zz40_b3 (zz40_l3 N k m) k so1 list5 t9 t10
def zz40_F3 (N : Nat) (so1 : (Y1 × (Int × (Int × Unit)))) (list5 : Y4) (t9 : Int) (t10 : Int) : Option (Y4 × Unit) := zz40_l3 N (zz40_a3) N so1 list5 t9 t10
def zz40 (N : Nat) (o_0 : Y5) (so_1 : (Y1 × (Int × (Int × Unit)))) : Option (Y4 × Unit) := zz40_s (zz40_F3 N) o_0 so_1
def S_zz40 : Sig := { a := (.pair (.sl (.sl .bool)) (.pair (.clo 116 0 (.pair (.ptr (.opt (.pair (.sl (.sl .bool)) (.pair (.sl (.sl I)) (.pair (.sl (.sl I)) .unit))))) (.pair (.ptr I) (.pair (.ptr I) .unit)))) .unit)), md := [0, 0], mf := [], m := .unit, r := (.sl I), rf := (.o .i), f := fun x => zz40 big x.1 x.2.1 }
def A_zz40 : Cfg := mkCfg tab [(116, S_zz39)] [(6, [.drop, .as (.clo 116 0 (.pair (.ptr (.opt (.pair (.sl (.sl .bool)) (.pair (.sl (.sl I)) (.pair (.sl (.sl I)) .unit))))) (.pair (.ptr I) (.pair (.ptr I) .unit)))) .i, .drop, .drop, .drop, .as (.sl I) (.o .i), .drop, .drop, .drop, .as I .i, .as I .i]), (17, [.drop, .drop, .drop, .drop, .drop, .as (.sl I) (.o .i)])]
noncomputable def zz40_R3 (N n : Nat) (K : Ex → St → Option (Y4 × Unit)) (so1 : (Y1 × (Int × (Int × Unit)))) (list5 : Y4) (t9 : Int) (t10 : Int) : Option (Y4 × Unit) := iter ((A_zz40).shape 6) (run (A_zz40) N (codeAt Try.f65 [1, 1, 0, 1, 0, 0])) n ([.u, .val (.clo 116 0 (.pair (.ptr (.opt (.pair (.sl (.sl .bool)) (.pair (.sl (.sl I)) (.pair (.sl (.sl I)) .unit))))) (.pair (.ptr I) (.pair (.ptr I) .unit)))) .i so1, .u, .u, .u, .val (.sl I) (.o .i) list5, .u, .u, .u, .val I .i t9, .val I .i t10] ++ List.replicate 11 .u) K
noncomputable abbrev zz40_z : Ex → St → Option (Y4 × Unit) := finish (A_zz40) S_zz40 Try.f65.results.toList
noncomputable abbrev zz40_X3 (kX : St → Option (Y4 × Unit)) : Y4 → Option (Y4 × Unit) := fun (list5 : Y4) => kX ([.u, .u, .u, .u, .u, .val (.sl I) (.o .i) list5] ++ List.replicate 16 .u)
noncomputable abbrev zz40_E3 (kX : St → Option (Y4 × Unit)) (kO : Nat → St → Option (Y4 × Unit)) : Ex → St → Option (Y4 × Unit) := exK zz40_z 0 ((A_zz40).shape 17) kX kO
theorem zz40_step3 (N : Nat) (m : Nat) (kX : St → Option (Y4 × Unit)) (kO : Nat → St → Option (Y4 × Unit)) (so1 : (Y1 × (Int × (Int × Unit)))) (list5 : Y4) (t9 : Int) (t10 : Int) : zz40_R3 N (m + 1) (zz40_E3 kX kO) so1 list5 t9 t10 = zz40_b3 (zz40_R3 N m (zz40_E3 kX kO)) (zz40_X3 kX) so1 list5 t9 t10 := by kernel_rfl
theorem zz40_iter3 (N : Nat) (kX : St → Option (Y4 × Unit)) (kO : Nat → St → Option (Y4 × Unit)) : ∀ (n : Nat) (so1 : (Y1 × (Int × (Int × Unit)))) (list5 : Y4) (t9 : Int) (t10 : Int), zz40_R3 N n (zz40_E3 kX kO) so1 list5 t9 t10 = zz40_l3 N (zz40_X3 kX) n so1 list5 t9 t10
  | 0, _, _, _, _ => rfl
  | m + 1, so1, list5, t9, t10 => by
    have hrec : zz40_R3 N m (zz40_E3 kX kO) = (zz40_l3 N (zz40_X3 kX) m) := (funext fun so1 => (funext fun list5 => (funext fun t9 => (funext fun t10 => zz40_iter3 N kX kO m so1 list5 t9 t10))))
    refine (zz40_step3 N m kX kO so1 list5 t9 t10).trans ?_
    rw [hrec]
    rfl
noncomputable abbrev zz40_K3 (N : Nat) : Ex → St → Option (Y4 × Unit) := (blockK 0 (seqK ((A_zz40).shape 17) (run (A_zz40) N (codeAt Try.f65 [1, 1, 1])) zz40_z))
noncomputable abbrev zz40_k3 (N : Nat) : St → Option (Y4 × Unit) := fun st' => run (A_zz40) N (codeAt Try.f65 [1, 1, 1]) st' zz40_z
theorem zz40_after3 (N : Nat) (list5 : Y4) : zz40_X3 (zz40_k3 N) list5 = zz40_a3 list5 := by kernel_rfl
theorem zz40_in3 (N : Nat) (so1 : (Y1 × (Int × (Int × Unit)))) (list5 : Y4) (t9 : Int) (t10 : Int) : zz40_R3 N N (zz40_K3 N) so1 list5 t9 t10 = zz40_F3 N so1 list5 t9 t10 :=
  have h : zz40_X3 (zz40_k3 N) = (zz40_a3) := (funext fun list5 => zz40_after3 N list5)
  ((iter_ex (fun st => by kernel_rfl) (fun st => by kernel_rfl)).trans (zz40_iter3 N (zz40_k3 N) (fun j st => (zz40_K3 N) (.exit j) st) N so1 list5 t9 t10)).trans (congrArg (fun k => zz40_l3 N k N so1 list5 t9 t10) h)
theorem run0_zz40 (N : Nat) (x : (S_zz40).a.den) : runF (A_zz40) N Try.f65 S_zz40 x = (zz40_s (zz40_R3 N N (zz40_K3 N)) x.1 x.2.1) := by kernel_rfl
theorem run_zz40 (N : Nat) (x : (S_zz40).a.den) : runF (A_zz40) N Try.f65 S_zz40 x = zz40 N x.1 x.2.1 := by
  refine (run0_zz40 N x).trans ?_
  rw [(funext fun so1 => (funext fun list5 => (funext fun t9 => (funext fun t10 => zz40_in3 N so1 list5 t9 t10))))]
  rfl
theorem fn_zz40 : FnOk Try.prog 65 := ⟨_, Try.func65, by kernel_rfl, by kernel_rfl⟩
theorem good_zz40 : Gx.Good Try.prog 65 S_zz40 := good_of_run Try.func65 (of_decide_eq_true (by kernel_rfl)) fun x r h => ⟨A_zz40, big, mkCfg_ok tabOk, mkCfg_sigs (show SigsOk Try.prog [(116, S_zz39)] from ⟨⟨fn_zz39, good_zz39⟩, trivial⟩), (run_zz40 big x).trans h⟩

/-! zz41 -/
def zz41_s (o_0 : Y5) (so_1 : (Y1 × (Int × (Int × Unit)))) : Option (Bool × Unit) :=
  (zz40 big o_0 so_1).bind fun rq1 =>
  some (decide ((rq1.1.length : Int) = (0 : Int)), (()))
def zz41 (o_0 : Y5) (so_1 : (Y1 × (Int × (Int × Unit)))) : Option (Bool × Unit) := zz41_s o_0 so_1
def S_zz41 : Sig := { a := (.pair (.sl (.sl .bool)) (.pair (.clo 116 0 (.pair (.ptr (.opt (.pair (.sl (.sl .bool)) (.pair (.sl (.sl I)) (.pair (.sl (.sl I)) .unit))))) (.pair (.ptr I) (.pair (.ptr I) .unit)))) .unit)), md := [0, 0], mf := [], m := .unit, r := .bool, rf := .i, f := fun x => zz41 x.1 x.2.1 }
def A_zz41 : Cfg := mkCfg tab [(65, S_zz40)] []
theorem run_zz41 (N : Nat) (x : (S_zz41).a.den) : runF (A_zz41) N Try.f115 S_zz41 x = zz41 x.1 x.2.1 := by kernel_rfl
theorem fn_zz41 : FnOk Try.prog 115 := ⟨_, Try.func115, by kernel_rfl, by kernel_rfl⟩
theorem good_zz41 : Gx.Good Try.prog 115 S_zz41 := good_of_run Try.func115 (of_decide_eq_true (by kernel_rfl)) fun x r h => ⟨A_zz41, big, mkCfg_ok tabOk, mkCfg_sigs (show SigsOk Try.prog [(65, S_zz40)] from ⟨⟨fn_zz40, good_zz40⟩, trivial⟩), (run_zz41 big x).trans h⟩

/-! zz42 -/
def zz42_b2 (rec : Y1 → Int → Y4 → Int → Int → Option (Bool × Unit)) (k : Option (Bool × Unit)) (l2 : Y1) (x3 : Int) (t9 : Y4) (t10 : Int) (t11 : Int) : Option (Bool × Unit) :=
  cond (decide (t11 < t10))
  ((atI t9 t11).bind fun _ =>
  (t9[t11.toNat]?).bind fun xq2 =>
  (l2).bind fun xq3 =>
  (zz41 xq3.1 (l2, x3, xq2, ())).bind fun rq4 =>
  cond rq4.1
  (some (true, (())))
  (rec l2 x3 t9 t10 (IntKind.i64.wrap (t11 + (1 : Int)))))
  (k)
def zz42_a2 : Option (Bool × Unit) :=
  some (false, (()))
def zz42_s (L2 : Y1 → Int → Y4 → Int → Int → Option (Bool × Unit)) (l_0 : Y1) (x_1 : Int) : Option (Bool × Unit) :=
  (zz38 l_0 x_1).bind fun rq1 =>
  L2 l_0 x_1 rq1.1 (rq1.1.length : Int) (0 : Int)
def zz42_l2 (N : Nat) (k : Option (Bool × Unit)) : Nat → Y1 → Int → Y4 → Int → Int → Option (Bool × Unit)
  | 0, _, _, _, _, _ => none
  | m + 1, l2, x3, t9, t10, t11 => zz42_b2 (zz42_l2 N k m) k l2 x3 t9 t10 t11
def zz42_F2 (N : Nat) (l2 : Y1) (x3 : Int) (t9 : Y4) (t10 : Int) (t11 : Int) : Option (Bool × Unit) := zz42_l2 N (zz42_a2) N l2 x3 t9 t10 t11
def zz42 (N : Nat) (l_0 : Y1) (x_1 : Int) : Option (Bool × Unit) := zz42_s (zz42_F2 N) l_0 x_1
def S_zz42 : Sig := { a := (.pair (.opt (.pair (.sl (.sl .bool)) (.pair (.sl (.sl I)) (.pair (.sl (.sl I)) .unit)))) (.pair I .unit)), md := [0, 0], mf := [], m := .unit, r := .bool, rf := .i, f := fun x => zz42 big x.1 x.2.1 }
def A_zz42 : Cfg := mkCfg tab [(114, S_zz38), (115, S_zz41)] [(4, [.drop, .drop, .as (.ptr (.opt (.pair (.sl (.sl .bool)) (.pair (.sl (.sl I)) (.pair (.sl (.sl I)) .unit))))) .i, .as (.ptr I) .i, .drop, .drop, .drop, .drop, .drop, .as (.sl I) (.o .i), .as I .i, .as I .i]), (9, [.drop, .drop, .as (.ptr (.opt (.pair (.sl (.sl .bool)) (.pair (.sl (.sl I)) (.pair (.sl (.sl I)) .unit))))) .i, .as (.ptr I) .i, .drop, .drop, .as (.ptr I) .i, .drop, .drop, .as (.sl I) (.o .i), .as I .i, .as I .i]), (15, [])]
noncomputable def zz42_R2 (N n : Nat) (K : Ex → St → Option (Bool × Unit)) (l2 : Y1) (x3 : Int) (t9 : Y4) (t10 : Int) (t11 : Int) : Option (Bool × Unit) := iter ((A_zz42).shape 4) (run (A_zz42) N (codeAt Try.f66 [1, 0, 1, 0, 0])) n ([.u, .u, .val (.ptr (.opt (.pair (.sl (.sl .bool)) (.pair (.sl (.sl I)) (.pair (.sl (.sl I)) .unit))))) .i l2, .val (.ptr I) .i x3, .u, .u, .u, .u, .u, .val (.sl I) (.o .i) t9, .val I .i t10, .val I .i t11] ++ List.replicate 10 .u) K
noncomputable abbrev zz42_z : Ex → St → Option (Bool × Unit) := finish (A_zz42) S_zz42 Try.f66.results.toList
noncomputable abbrev zz42_X2 (kX : St → Option (Bool × Unit)) : Option (Bool × Unit) := kX ([] ++ List.replicate 22 .u)
noncomputable abbrev zz42_E2 (kX : St → Option (Bool × Unit)) (kO : Nat → St → Option (Bool × Unit)) : Ex → St → Option (Bool × Unit) := exK zz42_z 0 ((A_zz42).shape 15) kX kO
theorem zz42_step2 (N : Nat) (m : Nat) (kX : St → Option (Bool × Unit)) (kO : Nat → St → Option (Bool × Unit)) (l2 : Y1) (x3 : Int) (t9 : Y4) (t10 : Int) (t11 : Int) : zz42_R2 N (m + 1) (zz42_E2 kX kO) l2 x3 t9 t10 t11 = zz42_b2 (zz42_R2 N m (zz42_E2 kX kO)) (zz42_X2 kX) l2 x3 t9 t10 t11 := by kernel_rfl
theorem zz42_iter2 (N : Nat) (kX : St → Option (Bool × Unit)) (kO : Nat → St → Option (Bool × Unit)) : ∀ (n : Nat) (l2 : Y1) (x3 : Int) (t9 : Y4) (t10 : Int) (t11 : Int), zz42_R2 N n (zz42_E2 kX kO) l2 x3 t9 t10 t11 = zz42_l2 N (zz42_X2 kX) n l2 x3 t9 t10 t11
  | 0, _, _, _, _, _ => rfl
  | m + 1, l2, x3, t9, t10, t11 => by
    have hrec : zz42_R2 N m (zz42_E2 kX kO) = (zz42_l2 N (zz42_X2 kX) m) := (funext fun l2 => (funext fun x3 => (funext fun t9 => (funext fun t10 => (funext fun t11 => zz42_iter2 N kX kO m l2 x3 t9 t10 t11)))))
    refine (zz42_step2 N m kX kO l2 x3 t9 t10 t11).trans ?_
    rw [hrec]
    rfl
noncomputable abbrev zz42_K2 (N : Nat) : Ex → St → Option (Bool × Unit) := (blockK 0 (seqK ((A_zz42).shape 15) (run (A_zz42) N (codeAt Try.f66 [1, 1])) zz42_z))
noncomputable abbrev zz42_k2 (N : Nat) : St → Option (Bool × Unit) := fun st' => run (A_zz42) N (codeAt Try.f66 [1, 1]) st' zz42_z
theorem zz42_after2 (N : Nat) : zz42_X2 (zz42_k2 N) = zz42_a2 := by kernel_rfl
theorem zz42_in2 (N : Nat) (l2 : Y1) (x3 : Int) (t9 : Y4) (t10 : Int) (t11 : Int) : zz42_R2 N N (zz42_K2 N) l2 x3 t9 t10 t11 = zz42_F2 N l2 x3 t9 t10 t11 :=
  have h : zz42_X2 (zz42_k2 N) = (zz42_a2) := zz42_after2 N
  ((iter_ex (fun st => by kernel_rfl) (fun st => by kernel_rfl)).trans (zz42_iter2 N (zz42_k2 N) (fun j st => (zz42_K2 N) (.exit j) st) N l2 x3 t9 t10 t11)).trans (congrArg (fun k => zz42_l2 N k N l2 x3 t9 t10 t11) h)
theorem run0_zz42 (N : Nat) (x : (S_zz42).a.den) : runF (A_zz42) N Try.f66 S_zz42 x = (zz42_s (zz42_R2 N N (zz42_K2 N)) x.1 x.2.1) := by kernel_rfl
theorem run_zz42 (N : Nat) (x : (S_zz42).a.den) : runF (A_zz42) N Try.f66 S_zz42 x = zz42 N x.1 x.2.1 := by
  refine (run0_zz42 N x).trans ?_
  rw [(funext fun l2 => (funext fun x3 => (funext fun t9 => (funext fun t10 => (funext fun t11 => zz42_in2 N l2 x3 t9 t10 t11)))))]
  rfl
theorem fn_zz42 : FnOk Try.prog 66 := ⟨_, Try.func66, by kernel_rfl, by kernel_rfl⟩
theorem good_zz42 : Gx.Good Try.prog 66 S_zz42 := good_of_run Try.func66 (of_decide_eq_true (by kernel_rfl)) fun x r h => ⟨A_zz42, big, mkCfg_ok tabOk, mkCfg_sigs (show SigsOk Try.prog [(114, S_zz38), (115, S_zz41)] from ⟨⟨fn_zz38, good_zz38⟩, ⟨fn_zz41, good_zz41⟩, trivial⟩), (run_zz42 big x).trans h⟩

/-! zz43 -/
def zz43_b3 (rec : (Y1 × Unit) → Y4 → Int → Int → Option (Y4 × Unit)) (k : Y4 → Option (Y4 × Unit)) (so1 : (Y1 × Unit)) (list5 : Y4) (t9 : Int) (t10 : Int) : Option (Y4 × Unit) :=
  cond (decide (t10 < t9))
  ((zz42 big so1.1 t10).bind fun rq1 =>
  cond rq1.1
  ((appI list5 [t10]).bind fun xq2 =>
  rec so1 xq2 t9 (IntKind.i64.wrap (t10 + (1 : Int))))
  (rec so1 list5 t9 (IntKind.i64.wrap (t10 + (1 : Int)))))
  (k list5)
def zz43_a3 (list5 : Y4) : Option (Y4 × Unit) :=
  some (list5, (()))
def zz43_s (L3 : (Y1 × Unit) → Y4 → Int → Int → Option (Y4 × Unit)) (o_0 : Y5) (so_1 : (Y1 × Unit)) : Option (Y4 × Unit) :=
  L3 so_1 [] (o_0.length : Int) (0 : Int)
def zz43_l3 (N : Nat) (k : Y4 → Option (Y4 × Unit)) : Nat → (Y1 × Unit) → Y4 → Int → Int → Option (Y4 × Unit)
  | 0, _, _, _, _ => none
  | m + 1, so1, list5, t9, t10 => zz43_b3 (zz43_l3 N k m) k so1 list5 t9 t10
def zz43_F3 (N : Nat) (so1 : (Y1 × Unit)) (list5 : Y4) (t9 : Int) (t10 : Int) : Option (Y4 × Unit) := zz43_l3 N (zz43_a3) N so1 list5 t9 t10
def zz43 (N : Nat) (o_0 : Y5) (so_1 : (Y1 × Unit)) : Option (Y4 × Unit) := zz43_s (zz43_F3 N) o_0 so_1
def S_zz43 : Sig := { a := (.pair (.sl (.sl .bool)) (.pair (.clo 66 1 (.pair (.opt (.pair (.sl (.sl .bool)) (.pair (.sl (.sl I)) (.pair (.sl (.sl I)) .unit)))) .unit)) .unit)), md := [0, 0], mf := [], m := .unit, r := (.sl I), rf := (.o .i), f := fun x => zz43 big x.1 x.2.1 }
def A_zz43 : Cfg := mkCfg tab [(66, S_zz42)] [(6, [.drop, .as (.clo 66 1 (.pair (.opt (.pair (.sl (.sl .bool)) (.pair (.sl (.sl I)) (.pair (.sl (.sl I)) .unit)))) .unit)) .i, .drop, .drop, .drop, .as (.sl I) (.o .i), .drop, .drop, .drop, .as I .i, .as I .i]), (17, [.drop, .drop, .drop, .drop, .drop, .as (.sl I) (.o .i)])]
noncomputable def zz43_R3 (N n : Nat) (K : Ex → St → Option (Y4 × Unit)) (so1 : (Y1 × Unit)) (list5 : Y4) (t9 : Int) (t10 : Int) : Option (Y4 × Unit) := iter ((A_zz43).shape 6) (run (A_zz43) N (codeAt Try.f65 [1, 1, 0, 1, 0, 0])) n ([.u, .val (.clo 66 1 (.pair (.opt (.pair (.sl (.sl .bool)) (.pair (.sl (.sl I)) (.pair (.sl (.sl I)) .unit)))) .unit)) .i so1, .u, .u, .u, .val (.sl I) (.o .i) list5, .u, .u, .u, .val I .i t9, .val I .i t10] ++ List.replicate 11 .u) K
noncomputable abbrev zz43_z : Ex → St → Option (Y4 × Unit) := finish (A_zz43) S_zz43 Try.f65.results.toList
noncomputable abbrev zz43_X3 (kX : St → Option (Y4 × Unit)) : Y4 → Option (Y4 × Unit) := fun (list5 : Y4) => kX ([.u, .u, .u, .u, .u, .val (.sl I) (.o .i) list5] ++ List.replicate 16 .u)
noncomputable abbrev zz43_E3 (kX : St → Option (Y4 × Unit)) (kO : Nat → St → Option (Y4 × Unit)) : Ex → St → Option (Y4 × Unit) := exK zz43_z 0 ((A_zz43).shape 17) kX kO
theorem zz43_step3 (N : Nat) (m : Nat) (kX : St → Option (Y4 × Unit)) (kO : Nat → St → Option (Y4 × Unit)) (so1 : (Y1 × Unit)) (list5 : Y4) (t9 : Int) (t10 : Int) : zz43_R3 N (m + 1) (zz43_E3 kX kO) so1 list5 t9 t10 = zz43_b3 (zz43_R3 N m (zz43_E3 kX kO)) (zz43_X3 kX) so1 list5 t9 t10 := by kernel_rfl
theorem zz43_iter3 (N : Nat) (kX : St → Option (Y4 × Unit)) (kO : Nat → St → Option (Y4 × Unit)) : ∀ (n : Nat) (so1 : (Y1 × Unit)) (list5 : Y4) (t9 : Int) (t10 : Int), zz43_R3 N n (zz43_E3 kX kO) so1 list5 t9 t10 = zz43_l3 N (zz43_X3 kX) n so1 list5 t9 t10
  | 0, _, _, _, _ => rfl
  | m + 1, so1, list5, t9, t10 => by
    have hrec : zz43_R3 N m (zz43_E3 kX kO) = (zz43_l3 N (zz43_X3 kX) m) := (funext fun so1 => (funext fun list5 => (funext fun t9 => (funext fun t10 => zz43_iter3 N kX kO m so1 list5 t9 t10))))
    refine (zz43_step3 N m kX kO so1 list5 t9 t10).trans ?_
    rw [hrec]
    rfl
noncomputable abbrev zz43_K3 (N : Nat) : Ex → St → Option (Y4 × Unit) := (blockK 0 (seqK ((A_zz43).shape 17) (run (A_zz43) N (codeAt Try.f65 [1, 1, 1])) zz43_z))
noncomputable abbrev zz43_k3 (N : Nat) : St → Option (Y4 × Unit) := fun st' => run (A_zz43) N (codeAt Try.f65 [1, 1, 1]) st' zz43_z
theorem zz43_after3 (N : Nat) (list5 : Y4) : zz43_X3 (zz43_k3 N) list5 = zz43_a3 list5 := by kernel_rfl
theorem zz43_in3 (N : Nat) (so1 : (Y1 × Unit)) (list5 : Y4) (t9 : Int) (t10 : Int) : zz43_R3 N N (zz43_K3 N) so1 list5 t9 t10 = zz43_F3 N so1 list5 t9 t10 :=
  have h : zz43_X3 (zz43_k3 N) = (zz43_a3) := (funext fun list5 => zz43_after3 N list5)
  ((iter_ex (fun st => by kernel_rfl) (fun st => by kernel_rfl)).trans (zz43_iter3 N (zz43_k3 N) (fun j st => (zz43_K3 N) (.exit j) st) N so1 list5 t9 t10)).trans (congrArg (fun k => zz43_l3 N k N so1 list5 t9 t10) h)
theorem run0_zz43 (N : Nat) (x : (S_zz43).a.den) : runF (A_zz43) N Try.f65 S_zz43 x = (zz43_s (zz43_R3 N N (zz43_K3 N)) x.1 x.2.1) := by kernel_rfl
theorem run_zz43 (N : Nat) (x : (S_zz43).a.den) : runF (A_zz43) N Try.f65 S_zz43 x = zz43 N x.1 x.2.1 := by
  refine (run0_zz43 N x).trans ?_
  rw [(funext fun so1 => (funext fun list5 => (funext fun t9 => (funext fun t10 => zz43_in3 N so1 list5 t9 t10))))]
  rfl
theorem fn_zz43 : FnOk Try.prog 65 := ⟨_, Try.func65, by kernel_rfl, by kernel_rfl⟩
theorem good_zz43 : Gx.Good Try.prog 65 S_zz43 := good_of_run Try.func65 (of_decide_eq_true (by kernel_rfl)) fun x r h => ⟨A_zz43, big, mkCfg_ok tabOk, mkCfg_sigs (show SigsOk Try.prog [(66, S_zz42)] from ⟨⟨fn_zz42, good_zz42⟩, trivial⟩), (run_zz43 big x).trans h⟩

/-! zz44 -/
def zz44_s (l_0 : Y1) : Option (Y4 × Unit) :=
  (l_0).bind fun xq1 =>
  (zz43 big xq1.1 (l_0, ())).bind fun rq2 =>
  some (rq2.1, (()))
def zz44 (l_0 : Y1) : Option (Y4 × Unit) := zz44_s l_0
def S_zz44 : Sig := { a := (.pair (.opt (.pair (.sl (.sl .bool)) (.pair (.sl (.sl I)) (.pair (.sl (.sl I)) .unit)))) .unit), md := [0], mf := [], m := .unit, r := (.sl I), rf := (.o .i), f := fun x => zz44 x.1 }
def A_zz44 : Cfg := mkCfg tab [(65, S_zz43)] []
theorem run_zz44 (N : Nat) (x : (S_zz44).a.den) : runF (A_zz44) N Try.f64 S_zz44 x = zz44 x.1 := by kernel_rfl
theorem fn_zz44 : FnOk Try.prog 64 := ⟨_, Try.func64, by kernel_rfl, by kernel_rfl⟩
theorem good_zz44 : Gx.Good Try.prog 64 S_zz44 := good_of_run Try.func64 (of_decide_eq_true (by kernel_rfl)) fun x r h => ⟨A_zz44, big, mkCfg_ok tabOk, mkCfg_sigs (show SigsOk Try.prog [(65, S_zz43)] from ⟨⟨fn_zz43, good_zz43⟩, trivial⟩), (run_zz44 big x).trans h⟩

/-! zz45 -/
def zz45_s (p_0 : Y2) (list_1 : Unit) : Option ((Y4 × (Bool × Unit)) × Unit) :=
  (zz32 p_0).bind fun rq1 =>
  cond (!rq1.1.2.1)
  (some (([], false, ()), (())))
  ((zz44 rq1.1.1).bind fun rq2 =>
  some ((rq2.1, true, ()), (())))
def zz45 (p_0 : Y2) (list_1 : Unit) : Option ((Y4 × (Bool × Unit)) × Unit) := zz45_s p_0 list_1
def S_zz45 : Sig := { a := (.pair (.pair (.sl (.sl I)) .unit) (.pair (.clo 64 0 .unit) .unit)), md := [0, 0], mf := [], m := .unit, r := (.tup (.pair (.sl I) (.pair .bool .unit))), rf := (.p (.o .i) .i), f := fun x => zz45 x.1 x.2.1 }
def A_zz45 : Cfg := mkCfg tab [(68, S_zz32), (64, S_zz44)] []
theorem run_zz45 (N : Nat) (x : (S_zz45).a.den) : runF (A_zz45) N Try.f63 S_zz45 x = zz45 x.1 x.2.1 := by kernel_rfl
theorem fn_zz45 : FnOk Try.prog 63 := ⟨_, Try.func63, by kernel_rfl, by kernel_rfl⟩
theorem good_zz45 : Gx.Good Try.prog 63 S_zz45 := good_of_run Try.func63 (of_decide_eq_true (by kernel_rfl)) fun x r h => ⟨A_zz45, big, mkCfg_ok tabOk, mkCfg_sigs (show SigsOk Try.prog [(68, S_zz32), (64, S_zz44)] from ⟨⟨fn_zz32, good_zz32⟩, ⟨fn_zz44, good_zz44⟩, trivial⟩), (run_zz45 big x).trans h⟩

/-! zz46 -/
def zz46_s (p_0 : Y2) : Option ((Y4 × (Bool × Unit)) × Unit) :=
  (zz45 p_0 ()).bind fun rq1 =>
  some ((rq1.1.1, (((), rq1.1.2).2).1, ()), (()))
def zz46 (p_0 : Y2) : Option ((Y4 × (Bool × Unit)) × Unit) := zz46_s p_0
def S_zz46 : Sig := { a := (.pair (.pair (.sl (.sl I)) .unit) .unit), md := [0], mf := [], m := .unit, r := (.tup (.pair (.sl I) (.pair .bool .unit))), rf := (.p (.o .i) .i), f := fun x => zz46 x.1 }
def A_zz46 : Cfg := mkCfg tab [(63, S_zz45)] []
theorem run_zz46 (N : Nat) (x : (S_zz46).a.den) : runF (A_zz46) N Try.f18 S_zz46 x = zz46 x.1 := by kernel_rfl
theorem fn_zz46 : FnOk Try.prog 18 := ⟨_, Try.func18, by kernel_rfl, by kernel_rfl⟩
theorem good_zz46 : Gx.Good Try.prog 18 S_zz46 := good_of_run Try.func18 (of_decide_eq_true (by kernel_rfl)) fun x r h => ⟨A_zz46, big, mkCfg_ok tabOk, mkCfg_sigs (show SigsOk Try.prog [(63, S_zz45)] from ⟨⟨fn_zz45, good_zz45⟩, trivial⟩), (run_zz46 big x).trans h⟩

/-! zz47 -/
def zz47_b4 (rec : Y4 → Y4 → Int → Option (Bool × Unit)) (k : Option (Bool × Unit)) (a0 : Y4) (b1 : Y4) (i5 : Int) : Option (Bool × Unit) :=
  cond (decide (i5 < (a0.length : Int)))
  ((atI a0 i5).bind fun xq1 =>
  (atI b1 i5).bind fun xq2 =>
  cond (decide (xq1 ≠ xq2))
  (some (false, (())))
  (rec a0 b1 (IntKind.i64.wrap (i5 + (1 : Int)))))
  (k)
def zz47_a4 : Option (Bool × Unit) :=
  some (true, (()))
def zz47_s (L4 : Y4 → Y4 → Int → Option (Bool × Unit)) (a_0 : Y4) (b_1 : Y4) : Option (Bool × Unit) :=
  cond (decide ((a_0.length : Int) ≠ (b_1.length : Int)))
  (some (false, (())))
  (L4 a_0 b_1 (0 : Int))
def zz47_l4 (N : Nat) (k : Option (Bool × Unit)) : Nat → Y4 → Y4 → Int → Option (Bool × Unit)
  | 0, _, _, _ => none
  | m + 1, a0, b1, i5 => zz47_b4 (zz47_l4 N k m) k a0 b1 i5
def zz47_F4 (N : Nat) (a0 : Y4) (b1 : Y4) (i5 : Int) : Option (Bool × Unit) := zz47_l4 N (zz47_a4) N a0 b1 i5
def zz47 (N : Nat) (a_0 : Y4) (b_1 : Y4) : Option (Bool × Unit) := zz47_s (zz47_F4 N) a_0 b_1
def S_zz47 : Sig := { a := (.pair (.sl I) (.pair (.sl I) .unit)), md := [0, 0], mf := [], m := .unit, r := .bool, rf := .i, f := fun x => zz47 big x.1 x.2.1 }
def A_zz47 : Cfg := mkCfg tab [] [(8, [.as (.sl I) .i, .as (.sl I) .i, .drop, .drop, .drop, .as I .i]), (17, [])]
noncomputable def zz47_R4 (N n : Nat) (K : Ex → St → Option (Bool × Unit)) (a0 : Y4) (b1 : Y4) (i5 : Int) : Option (Bool × Unit) := iter ((A_zz47).shape 8) (run (A_zz47) N (codeAt Try.f19 [1, 1, 0, 1, 0, 0])) n ([.val (.sl I) .i a0, .val (.sl I) .i b1, .u, .u, .u, .val I .i i5] ++ List.replicate 20 .u) K
noncomputable abbrev zz47_z : Ex → St → Option (Bool × Unit) := finish (A_zz47) S_zz47 Try.f19.results.toList
noncomputable abbrev zz47_X4 (kX : St → Option (Bool × Unit)) : Option (Bool × Unit) := kX ([] ++ List.replicate 26 .u)
noncomputable abbrev zz47_E4 (kX : St → Option (Bool × Unit)) (kO : Nat → St → Option (Bool × Unit)) : Ex → St → Option (Bool × Unit) := exK zz47_z 0 ((A_zz47).shape 17) kX kO
theorem zz47_step4 (N : Nat) (m : Nat) (kX : St → Option (Bool × Unit)) (kO : Nat → St → Option (Bool × Unit)) (a0 : Y4) (b1 : Y4) (i5 : Int) : zz47_R4 N (m + 1) (zz47_E4 kX kO) a0 b1 i5 = zz47_b4 (zz47_R4 N m (zz47_E4 kX kO)) (zz47_X4 kX) a0 b1 i5 := by kernel_rfl
theorem zz47_iter4 (N : Nat) (kX : St → Option (Bool × Unit)) (kO : Nat → St → Option (Bool × Unit)) : ∀ (n : Nat) (a0 : Y4) (b1 : Y4) (i5 : Int), zz47_R4 N n (zz47_E4 kX kO) a0 b1 i5 = zz47_l4 N (zz47_X4 kX) n a0 b1 i5
  | 0, _, _, _ => rfl
  | m + 1, a0, b1, i5 => by
    have hrec : zz47_R4 N m (zz47_E4 kX kO) = (zz47_l4 N (zz47_X4 kX) m) := (funext fun a0 => (funext fun b1 => (funext fun i5 => zz47_iter4 N kX kO m a0 b1 i5)))
    refine (zz47_step4 N m kX kO a0 b1 i5).trans ?_
    rw [hrec]
    rfl
noncomputable abbrev zz47_K4 (N : Nat) : Ex → St → Option (Bool × Unit) := (blockK 0 (seqK ((A_zz47).shape 17) (run (A_zz47) N (codeAt Try.f19 [1, 1, 1])) zz47_z))
noncomputable abbrev zz47_k4 (N : Nat) : St → Option (Bool × Unit) := fun st' => run (A_zz47) N (codeAt Try.f19 [1, 1, 1]) st' zz47_z
theorem zz47_after4 (N : Nat) : zz47_X4 (zz47_k4 N) = zz47_a4 := by kernel_rfl
theorem zz47_in4 (N : Nat) (a0 : Y4) (b1 : Y4) (i5 : Int) : zz47_R4 N N (zz47_K4 N) a0 b1 i5 = zz47_F4 N a0 b1 i5 :=
  have h : zz47_X4 (zz47_k4 N) = (zz47_a4) := zz47_after4 N
  ((iter_ex (fun st => by kernel_rfl) (fun st => by kernel_rfl)).trans (zz47_iter4 N (zz47_k4 N) (fun j st => (zz47_K4 N) (.exit j) st) N a0 b1 i5)).trans (congrArg (fun k => zz47_l4 N k N a0 b1 i5) h)
theorem run0_zz47 (N : Nat) (x : (S_zz47).a.den) : runF (A_zz47) N Try.f19 S_zz47 x = (zz47_s (zz47_R4 N N (zz47_K4 N)) x.1 x.2.1) := by kernel_rfl
theorem run_zz47 (N : Nat) (x : (S_zz47).a.den) : runF (A_zz47) N Try.f19 S_zz47 x = zz47 N x.1 x.2.1 := by
  refine (run0_zz47 N x).trans ?_
  rw [(funext fun a0 => (funext fun b1 => (funext fun i5 => zz47_in4 N a0 b1 i5)))]
  rfl
theorem fn_zz47 : FnOk Try.prog 19 := ⟨_, Try.func19, by kernel_rfl, by kernel_rfl⟩
theorem good_zz47 : Gx.Good Try.prog 19 S_zz47 := good_of_run Try.func19 (of_decide_eq_true (by kernel_rfl)) fun x r h => ⟨A_zz47, big, mkCfg_ok tabOk, mkCfg_sigs (show SigsOk Try.prog [] from trivial), (run_zz47 big x).trans h⟩

/-! zz48 -/
def zz48_b4 (rec : Y3 → Y3 → Int → Option (Bool × Unit)) (k : Option (Bool × Unit)) (a0 : Y3) (b1 : Y3) (i5 : Int) : Option (Bool × Unit) :=
  cond (decide (i5 < (a0.length : Int)))
  ((atI a0 i5).bind fun xq1 =>
  (atI b1 i5).bind fun xq2 =>
  (zz47 big xq1 xq2).bind fun rq3 =>
  cond (!rq3.1)
  (some (false, (())))
  (rec a0 b1 (IntKind.i64.wrap (i5 + (1 : Int)))))
  (k)
def zz48_a4 : Option (Bool × Unit) :=
  some (true, (()))
def zz48_s (L4 : Y3 → Y3 → Int → Option (Bool × Unit)) (a_0 : Y3) (b_1 : Y3) : Option (Bool × Unit) :=
  cond (decide ((a_0.length : Int) ≠ (b_1.length : Int)))
  (some (false, (())))
  (L4 a_0 b_1 (0 : Int))
def zz48_l4 (N : Nat) (k : Option (Bool × Unit)) : Nat → Y3 → Y3 → Int → Option (Bool × Unit)
  | 0, _, _, _ => none
  | m + 1, a0, b1, i5 => zz48_b4 (zz48_l4 N k m) k a0 b1 i5
def zz48_F4 (N : Nat) (a0 : Y3) (b1 : Y3) (i5 : Int) : Option (Bool × Unit) := zz48_l4 N (zz48_a4) N a0 b1 i5
def zz48 (N : Nat) (a_0 : Y3) (b_1 : Y3) : Option (Bool × Unit) := zz48_s (zz48_F4 N) a_0 b_1
def S_zz48 : Sig := { a := (.pair (.sl (.sl I)) (.pair (.sl (.sl I)) .unit)), md := [0, 0], mf := [], m := .unit, r := .bool, rf := .i, f := fun x => zz48 big x.1 x.2.1 }
def A_zz48 : Cfg := mkCfg tab [(19, S_zz47)] [(8, [.as (.sl (.sl I)) .i, .as (.sl (.sl I)) .i, .drop, .drop, .drop, .as I .i]), (17, [])]
noncomputable def zz48_R4 (N n : Nat) (K : Ex → St → Option (Bool × Unit)) (a0 : Y3) (b1 : Y3) (i5 : Int) : Option (Bool × Unit) := iter ((A_zz48).shape 8) (run (A_zz48) N (codeAt Try.f26 [1, 1, 0, 1, 0, 0])) n ([.val (.sl (.sl I)) .i a0, .val (.sl (.sl I)) .i b1, .u, .u, .u, .val I .i i5] ++ List.replicate 21 .u) K
noncomputable abbrev zz48_z : Ex → St → Option (Bool × Unit) := finish (A_zz48) S_zz48 Try.f26.results.toList
noncomputable abbrev zz48_X4 (kX : St → Option (Bool × Unit)) : Option (Bool × Unit) := kX ([] ++ List.replicate 27 .u)
noncomputable abbrev zz48_E4 (kX : St → Option (Bool × Unit)) (kO : Nat → St → Option (Bool × Unit)) : Ex → St → Option (Bool × Unit) := exK zz48_z 0 ((A_zz48).shape 17) kX kO
theorem zz48_step4 (N : Nat) (m : Nat) (kX : St → Option (Bool × Unit)) (kO : Nat → St → Option (Bool × Unit)) (a0 : Y3) (b1 : Y3) (i5 : Int) : zz48_R4 N (m + 1) (zz48_E4 kX kO) a0 b1 i5 = zz48_b4 (zz48_R4 N m (zz48_E4 kX kO)) (zz48_X4 kX) a0 b1 i5 := by kernel_rfl
theorem zz48_iter4 (N : Nat) (kX : St → Option (Bool × Unit)) (kO : Nat → St → Option (Bool × Unit)) : ∀ (n : Nat) (a0 : Y3) (b1 : Y3) (i5 : Int), zz48_R4 N n (zz48_E4 kX kO) a0 b1 i5 = zz48_l4 N (zz48_X4 kX) n a0 b1 i5
  | 0, _, _, _ => rfl
  | m + 1, a0, b1, i5 => by
    have hrec : zz48_R4 N m (zz48_E4 kX kO) = (zz48_l4 N (zz48_X4 kX) m) := (funext fun a0 => (funext fun b1 => (funext fun i5 => zz48_iter4 N kX kO m a0 b1 i5)))
    refine (zz48_step4 N m kX kO a0 b1 i5).trans ?_
    rw [hrec]
    rfl
noncomputable abbrev zz48_K4 (N : Nat) : Ex → St → Option (Bool × Unit) := (blockK 0 (seqK ((A_zz48).shape 17) (run (A_zz48) N (codeAt Try.f26 [1, 1, 1])) zz48_z))
noncomputable abbrev zz48_k4 (N : Nat) : St → Option (Bool × Unit) := fun st' => run (A_zz48) N (codeAt Try.f26 [1, 1, 1]) st' zz48_z
theorem zz48_after4 (N : Nat) : zz48_X4 (zz48_k4 N) = zz48_a4 := by kernel_rfl
theorem zz48_in4 (N : Nat) (a0 : Y3) (b1 : Y3) (i5 : Int) : zz48_R4 N N (zz48_K4 N) a0 b1 i5 = zz48_F4 N a0 b1 i5 :=
  have h : zz48_X4 (zz48_k4 N) = (zz48_a4) := zz48_after4 N
  ((iter_ex (fun st => by kernel_rfl) (fun st => by kernel_rfl)).trans (zz48_iter4 N (zz48_k4 N) (fun j st => (zz48_K4 N) (.exit j) st) N a0 b1 i5)).trans (congrArg (fun k => zz48_l4 N k N a0 b1 i5) h)
theorem run0_zz48 (N : Nat) (x : (S_zz48).a.den) : runF (A_zz48) N Try.f26 S_zz48 x = (zz48_s (zz48_R4 N N (zz48_K4 N)) x.1 x.2.1) := by kernel_rfl
theorem run_zz48 (N : Nat) (x : (S_zz48).a.den) : runF (A_zz48) N Try.f26 S_zz48 x = zz48 N x.1 x.2.1 := by
  refine (run0_zz48 N x).trans ?_
  rw [(funext fun a0 => (funext fun b1 => (funext fun i5 => zz48_in4 N a0 b1 i5)))]
  rfl
theorem fn_zz48 : FnOk Try.prog 26 := ⟨_, Try.func26, by kernel_rfl, by kernel_rfl⟩
theorem good_zz48 : Gx.Good Try.prog 26 S_zz48 := good_of_run Try.func26 (of_decide_eq_true (by kernel_rfl)) fun x r h => ⟨A_zz48, big, mkCfg_ok tabOk, mkCfg_sigs (show SigsOk Try.prog [(19, S_zz47)] from ⟨⟨fn_zz47, good_zz47⟩, trivial⟩), (run_zz48 big x).trans h⟩

/-! zz49 -/
def zz49_s (a_0 : Y2) (b_1 : Y2) : Option (Bool × Unit) :=
  (zz48 big a_0.1 b_1.1).bind fun rq1 =>
  cond (!rq1.1)
  (some (false, (())))
  (some (true, (())))
def zz49 (a_0 : Y2) (b_1 : Y2) : Option (Bool × Unit) := zz49_s a_0 b_1
def S_zz49 : Sig := { a := (.pair (.pair (.sl (.sl I)) .unit) (.pair (.pair (.sl (.sl I)) .unit) .unit)), md := [0, 0], mf := [], m := .unit, r := .bool, rf := .i, f := fun x => zz49 x.1 x.2.1 }
def A_zz49 : Cfg := mkCfg tab [(26, S_zz48)] []
theorem run_zz49 (N : Nat) (x : (S_zz49).a.den) : runF (A_zz49) N Try.f20 S_zz49 x = zz49 x.1 x.2.1 := by kernel_rfl
theorem fn_zz49 : FnOk Try.prog 20 := ⟨_, Try.func20, by kernel_rfl, by kernel_rfl⟩
theorem good_zz49 : Gx.Good Try.prog 20 S_zz49 := good_of_run Try.func20 (of_decide_eq_true (by kernel_rfl)) fun x r h => ⟨A_zz49, big, mkCfg_ok tabOk, mkCfg_sigs (show SigsOk Try.prog [(26, S_zz48)] from ⟨⟨fn_zz48, good_zz48⟩, trivial⟩), (run_zz49 big x).trans h⟩

/-! zz50 -/
def zz50_b2 (rec : Y4 → Int → Int → Option Y6) (k : Y4 → Int → Option Y6) (a0 : Y4) (k1 : Int) (i5 : Int) : Option Y6 :=
  cond (decide (i5 < (a0.length : Int)))
  ((atI a0 i5).bind fun _ =>
  (a0[i5.toNat]?).bind fun xq1 =>
  rec (a0.set i5.toNat k1) (IntKind.i64.wrap (k1 + (1 : Int))) (IntKind.i64.wrap (i5 + (1 : Int))))
  (k a0 k1)
def zz50_a2 (a0 : Y4) (k1 : Int) : Option Y6 :=
  some (k1, (a0, ()))
def zz50_s (L2 : Y4 → Int → Int → Option Y6) (a_0 : Y4) (k_1 : Int) : Option Y6 :=
  L2 a_0 k_1 (0 : Int)
def zz50_l2 (N : Nat) (k : Y4 → Int → Option Y6) : Nat → Y4 → Int → Int → Option Y6
  | 0, _, _, _ => none
  | m + 1, a0, k1, i5 => zz50_b2 (zz50_l2 N k m) k a0 k1 i5
def zz50_F2 (N : Nat) (a0 : Y4) (k1 : Int) (i5 : Int) : Option Y6 := zz50_l2 N (zz50_a2) N a0 k1 i5
def zz50 (N : Nat) (a_0 : Y4) (k_1 : Int) : Option Y6 := zz50_s (zz50_F2 N) a_0 k_1
def S_zz50 : Sig := { a := (.pair (.sl I) (.pair I .unit)), md := [1, 0], mf := [(.o .i)], m := (.pair (.sl I) .unit), r := I, rf := .i, f := fun x => zz50 big x.1 x.2.1 }
def A_zz50 : Cfg := mkCfg tab [] [(4, [.as (.sl I) (.o .i), .as I .i, .drop, .drop, .drop, .as I .i]), (13, [.as (.sl I) (.o .i), .as I .i])]
noncomputable def zz50_R2 (N n : Nat) (K : Ex → St → Option Y6) (a0 : Y4) (k1 : Int) (i5 : Int) : Option Y6 := iter ((A_zz50).shape 4) (run (A_zz50) N (codeAt Try.f22 [1, 0, 1, 0, 0])) n ([.val (.sl I) (.o .i) a0, .val I .i k1, .u, .u, .u, .val I .i i5] ++ List.replicate 13 .u) K
noncomputable abbrev zz50_z : Ex → St → Option Y6 := finish (A_zz50) S_zz50 Try.f22.results.toList
noncomputable abbrev zz50_X2 (kX : St → Option Y6) : Y4 → Int → Option Y6 := fun (a0 : Y4) (k1 : Int) => kX ([.val (.sl I) (.o .i) a0, .val I .i k1] ++ List.replicate 17 .u)
noncomputable abbrev zz50_E2 (kX : St → Option Y6) (kO : Nat → St → Option Y6) : Ex → St → Option Y6 := exK zz50_z 0 ((A_zz50).shape 13) kX kO
theorem zz50_step2 (N : Nat) (m : Nat) (kX : St → Option Y6) (kO : Nat → St → Option Y6) (a0 : Y4) (k1 : Int) (i5 : Int) : zz50_R2 N (m + 1) (zz50_E2 kX kO) a0 k1 i5 = zz50_b2 (zz50_R2 N m (zz50_E2 kX kO)) (zz50_X2 kX) a0 k1 i5 := by kernel_rfl
theorem zz50_iter2 (N : Nat) (kX : St → Option Y6) (kO : Nat → St → Option Y6) : ∀ (n : Nat) (a0 : Y4) (k1 : Int) (i5 : Int), zz50_R2 N n (zz50_E2 kX kO) a0 k1 i5 = zz50_l2 N (zz50_X2 kX) n a0 k1 i5
  | 0, _, _, _ => rfl
  | m + 1, a0, k1, i5 => by
    have hrec : zz50_R2 N m (zz50_E2 kX kO) = (zz50_l2 N (zz50_X2 kX) m) := (funext fun a0 => (funext fun k1 => (funext fun i5 => zz50_iter2 N kX kO m a0 k1 i5)))
    refine (zz50_step2 N m kX kO a0 k1 i5).trans ?_
    rw [hrec]
    rfl
noncomputable abbrev zz50_K2 (N : Nat) : Ex → St → Option Y6 := (blockK 0 (seqK ((A_zz50).shape 13) (run (A_zz50) N (codeAt Try.f22 [1, 1])) zz50_z))
noncomputable abbrev zz50_k2 (N : Nat) : St → Option Y6 := fun st' => run (A_zz50) N (codeAt Try.f22 [1, 1]) st' zz50_z
theorem zz50_after2 (N : Nat) (a0 : Y4) (k1 : Int) : zz50_X2 (zz50_k2 N) a0 k1 = zz50_a2 a0 k1 := by kernel_rfl
theorem zz50_in2 (N : Nat) (a0 : Y4) (k1 : Int) (i5 : Int) : zz50_R2 N N (zz50_K2 N) a0 k1 i5 = zz50_F2 N a0 k1 i5 :=
  have h : zz50_X2 (zz50_k2 N) = (zz50_a2) := (funext fun a0 => (funext fun k1 => zz50_after2 N a0 k1))
  ((iter_ex (fun st => by kernel_rfl) (fun st => by kernel_rfl)).trans (zz50_iter2 N (zz50_k2 N) (fun j st => (zz50_K2 N) (.exit j) st) N a0 k1 i5)).trans (congrArg (fun k => zz50_l2 N k N a0 k1 i5) h)
theorem run0_zz50 (N : Nat) (x : (S_zz50).a.den) : runF (A_zz50) N Try.f22 S_zz50 x = (zz50_s (zz50_R2 N N (zz50_K2 N)) x.1 x.2.1) := by kernel_rfl
theorem run_zz50 (N : Nat) (x : (S_zz50).a.den) : runF (A_zz50) N Try.f22 S_zz50 x = zz50 N x.1 x.2.1 := by
  refine (run0_zz50 N x).trans ?_
  rw [(funext fun a0 => (funext fun k1 => (funext fun i5 => zz50_in2 N a0 k1 i5)))]
  rfl
theorem fn_zz50 : FnOk Try.prog 22 := ⟨_, Try.func22, by kernel_rfl, by kernel_rfl⟩
theorem good_zz50 : Gx.Good Try.prog 22 S_zz50 := good_of_run Try.func22 (of_decide_eq_true (by kernel_rfl)) fun x r h => ⟨A_zz50, big, mkCfg_ok tabOk, mkCfg_sigs (show SigsOk Try.prog [] from trivial), (run_zz50 big x).trans h⟩

/-! zz51 -/
def zz51_b2 (rec : Y3 → Int → Int → Option (Int × Y2)) (k : Y3 → Int → Option (Int × Y2)) (a0 : Y3) (k1 : Int) (i5 : Int) : Option (Int × Y2) :=
  cond (decide (i5 < (a0.length : Int)))
  ((atI a0 i5).bind fun _ =>
  (a0[i5.toNat]?).bind fun xq1 =>
  (a0[i5.toNat]?).bind fun xq2 =>
  (zz50 big xq2 k1).bind fun rq3 =>
  (a0[i5.toNat]?).bind fun xq4 =>
  (a0[i5.toNat]?).bind fun xq5 =>
  rec (a0.set i5.toNat rq3.2.1) rq3.1 (IntKind.i64.wrap (i5 + (1 : Int))))
  (k a0 k1)
def zz51_a2 (a0 : Y3) (k1 : Int) : Option (Int × Y2) :=
  some (k1, (a0, ()))
def zz51_s (L2 : Y3 → Int → Int → Option (Int × Y2)) (a_0 : Y3) (k_1 : Int) : Option (Int × Y2) :=
  L2 a_0 k_1 (0 : Int)
def zz51_l2 (N : Nat) (k : Y3 → Int → Option (Int × Y2)) : Nat → Y3 → Int → Int → Option (Int × Y2)
  | 0, _, _, _ => none
  | m + 1, a0, k1, i5 => zz51_b2 (zz51_l2 N k m) k a0 k1 i5
def zz51_F2 (N : Nat) (a0 : Y3) (k1 : Int) (i5 : Int) : Option (Int × Y2) := zz51_l2 N (zz51_a2) N a0 k1 i5
def zz51 (N : Nat) (a_0 : Y3) (k_1 : Int) : Option (Int × Y2) := zz51_s (zz51_F2 N) a_0 k_1
def S_zz51 : Sig := { a := (.pair (.sl (.sl I)) (.pair I .unit)), md := [1, 0], mf := [(.o (.o .i))], m := (.pair (.sl (.sl I)) .unit), r := I, rf := .i, f := fun x => zz51 big x.1 x.2.1 }
def A_zz51 : Cfg := mkCfg tab [(22, S_zz50)] [(4, [.as (.sl (.sl I)) (.o (.o .i)), .as I .i, .drop, .drop, .drop, .as I .i]), (11, [.as (.sl (.sl I)) (.o (.o .i)), .as I .i])]
noncomputable def zz51_R2 (N n : Nat) (K : Ex → St → Option (Int × Y2)) (a0 : Y3) (k1 : Int) (i5 : Int) : Option (Int × Y2) := iter ((A_zz51).shape 4) (run (A_zz51) N (codeAt Try.f27 [1, 0, 1, 0, 0])) n ([.val (.sl (.sl I)) (.o (.o .i)) a0, .val I .i k1, .u, .u, .u, .val I .i i5] ++ List.replicate 13 .u) K
noncomputable abbrev zz51_z : Ex → St → Option (Int × Y2) := finish (A_zz51) S_zz51 Try.f27.results.toList
noncomputable abbrev zz51_X2 (kX : St → Option (Int × Y2)) : Y3 → Int → Option (Int × Y2) := fun (a0 : Y3) (k1 : Int) => kX ([.val (.sl (.sl I)) (.o (.o .i)) a0, .val I .i k1] ++ List.replicate 17 .u)
noncomputable abbrev zz51_E2 (kX : St → Option (Int × Y2)) (kO : Nat → St → Option (Int × Y2)) : Ex → St → Option (Int × Y2) := exK zz51_z 0 ((A_zz51).shape 11) kX kO
theorem zz51_step2 (N : Nat) (m : Nat) (kX : St → Option (Int × Y2)) (kO : Nat → St → Option (Int × Y2)) (a0 : Y3) (k1 : Int) (i5 : Int) : zz51_R2 N (m + 1) (zz51_E2 kX kO) a0 k1 i5 = zz51_b2 (zz51_R2 N m (zz51_E2 kX kO)) (zz51_X2 kX) a0 k1 i5 := by kernel_rfl
theorem zz51_iter2 (N : Nat) (kX : St → Option (Int × Y2)) (kO : Nat → St → Option (Int × Y2)) : ∀ (n : Nat) (a0 : Y3) (k1 : Int) (i5 : Int), zz51_R2 N n (zz51_E2 kX kO) a0 k1 i5 = zz51_l2 N (zz51_X2 kX) n a0 k1 i5
  | 0, _, _, _ => rfl
  | m + 1, a0, k1, i5 => by
    have hrec : zz51_R2 N m (zz51_E2 kX kO) = (zz51_l2 N (zz51_X2 kX) m) := (funext fun a0 => (funext fun k1 => (funext fun i5 => zz51_iter2 N kX kO m a0 k1 i5)))
    refine (zz51_step2 N m kX kO a0 k1 i5).trans ?_
    rw [hrec]
    rfl
noncomputable abbrev zz51_K2 (N : Nat) : Ex → St → Option (Int × Y2) := (blockK 0 (seqK ((A_zz51).shape 11) (run (A_zz51) N (codeAt Try.f27 [1, 1])) zz51_z))
noncomputable abbrev zz51_k2 (N : Nat) : St → Option (Int × Y2) := fun st' => run (A_zz51) N (codeAt Try.f27 [1, 1]) st' zz51_z
theorem zz51_after2 (N : Nat) (a0 : Y3) (k1 : Int) : zz51_X2 (zz51_k2 N) a0 k1 = zz51_a2 a0 k1 := by kernel_rfl
theorem zz51_in2 (N : Nat) (a0 : Y3) (k1 : Int) (i5 : Int) : zz51_R2 N N (zz51_K2 N) a0 k1 i5 = zz51_F2 N a0 k1 i5 :=
  have h : zz51_X2 (zz51_k2 N) = (zz51_a2) := (funext fun a0 => (funext fun k1 => zz51_after2 N a0 k1))
  ((iter_ex (fun st => by kernel_rfl) (fun st => by kernel_rfl)).trans (zz51_iter2 N (zz51_k2 N) (fun j st => (zz51_K2 N) (.exit j) st) N a0 k1 i5)).trans (congrArg (fun k => zz51_l2 N k N a0 k1 i5) h)
theorem run0_zz51 (N : Nat) (x : (S_zz51).a.den) : runF (A_zz51) N Try.f27 S_zz51 x = (zz51_s (zz51_R2 N N (zz51_K2 N)) x.1 x.2.1) := by kernel_rfl
theorem run_zz51 (N : Nat) (x : (S_zz51).a.den) : runF (A_zz51) N Try.f27 S_zz51 x = zz51 N x.1 x.2.1 := by
  refine (run0_zz51 N x).trans ?_
  rw [(funext fun a0 => (funext fun k1 => (funext fun i5 => zz51_in2 N a0 k1 i5)))]
  rfl
theorem fn_zz51 : FnOk Try.prog 27 := ⟨_, Try.func27, by kernel_rfl, by kernel_rfl⟩
theorem good_zz51 : Gx.Good Try.prog 27 S_zz51 := good_of_run Try.func27 (of_decide_eq_true (by kernel_rfl)) fun x r h => ⟨A_zz51, big, mkCfg_ok tabOk, mkCfg_sigs (show SigsOk Try.prog [(22, S_zz50)] from ⟨⟨fn_zz50, good_zz50⟩, trivial⟩), (run_zz51 big x).trans h⟩

/-! zz52 -/
def zz52 (a_0 : Y2) (k_1 : Int) : Option (Int × (Y2 × Unit)) := (zz51 big a_0.1 k_1).bind fun r => some (r.1, ((r.2.1, ()), ()))
def S_zz52 : Sig := { a := (.pair (.pair (.sl (.sl I)) .unit) (.pair I .unit)), md := [1, 0], mf := [(.p (.o (.o .i)) .i)], m := (.pair (.pair (.sl (.sl I)) .unit) .unit), r := I, rf := .i, f := fun x => zz52 x.1 x.2.1 }
theorem fn_zz52 : FnOk Try.prog 21 := ⟨_, Try.func21, by kernel_rfl, by kernel_rfl⟩
theorem good_zz52 : Gx.Good Try.prog 21 S_zz52   := good_bx1 (A := mkCfg tab [] []) (T := 29) (TS := 22) (mkCfg_ok tabOk) Try.func21 (by kernel_rfl) (by kernel_rfl) fn_zz51 (by kernel_rfl) (by kernel_rfl) good_zz51

/-! zz53 -/
def zz53_b2 (rec : Y4 → Int → Int → Option (Int × Unit)) (k : Int → Option (Int × Unit)) (a0 : Y4) (k1 : Int) (i5 : Int) : Option (Int × Unit) :=
  cond (decide (i5 < (a0.length : Int)))
  ((atI a0 i5).bind fun xq1 =>
  cond (decide (xq1 ≠ k1))
  (some ((-1 : Int), (())))
  (rec a0 (IntKind.i64.wrap (k1 + (1 : Int))) (IntKind.i64.wrap (i5 + (1 : Int)))))
  (k k1)
def zz53_a2 (k1 : Int) : Option (Int × Unit) :=
  some (k1, (()))
def zz53_s (L2 : Y4 → Int → Int → Option (Int × Unit)) (a_0 : Y4) (k_1 : Int) : Option (Int × Unit) :=
  L2 a_0 k_1 (0 : Int)
def zz53_l2 (N : Nat) (k : Int → Option (Int × Unit)) : Nat → Y4 → Int → Int → Option (Int × Unit)
  | 0, _, _, _ => none
  | m + 1, a0, k1, i5 => zz53_b2 (zz53_l2 N k m) k a0 k1 i5
def zz53_F2 (N : Nat) (a0 : Y4) (k1 : Int) (i5 : Int) : Option (Int × Unit) := zz53_l2 N (zz53_a2) N a0 k1 i5
def zz53 (N : Nat) (a_0 : Y4) (k_1 : Int) : Option (Int × Unit) := zz53_s (zz53_F2 N) a_0 k_1
def S_zz53 : Sig := { a := (.pair (.sl I) (.pair I .unit)), md := [0, 0], mf := [], m := .unit, r := I, rf := .i, f := fun x => zz53 big x.1 x.2.1 }
def A_zz53 : Cfg := mkCfg tab [] [(4, [.as (.sl I) .i, .as I .i, .drop, .drop, .drop, .as I .i]), (15, [.drop, .as I .i])]
noncomputable def zz53_R2 (N n : Nat) (K : Ex → St → Option (Int × Unit)) (a0 : Y4) (k1 : Int) (i5 : Int) : Option (Int × Unit) := iter ((A_zz53).shape 4) (run (A_zz53) N (codeAt Try.f23 [1, 0, 1, 0, 0])) n ([.val (.sl I) .i a0, .val I .i k1, .u, .u, .u, .val I .i i5] ++ List.replicate 15 .u) K
noncomputable abbrev zz53_z : Ex → St → Option (Int × Unit) := finish (A_zz53) S_zz53 Try.f23.results.toList
noncomputable abbrev zz53_X2 (kX : St → Option (Int × Unit)) : Int → Option (Int × Unit) := fun (k1 : Int) => kX ([.u, .val I .i k1] ++ List.replicate 19 .u)
noncomputable abbrev zz53_E2 (kX : St → Option (Int × Unit)) (kO : Nat → St → Option (Int × Unit)) : Ex → St → Option (Int × Unit) := exK zz53_z 0 ((A_zz53).shape 15) kX kO
theorem zz53_step2 (N : Nat) (m : Nat) (kX : St → Option (Int × Unit)) (kO : Nat → St → Option (Int × Unit)) (a0 : Y4) (k1 : Int) (i5 : Int) : zz53_R2 N (m + 1) (zz53_E2 kX kO) a0 k1 i5 = zz53_b2 (zz53_R2 N m (zz53_E2 kX kO)) (zz53_X2 kX) a0 k1 i5 := by kernel_rfl
theorem zz53_iter2 (N : Nat) (kX : St → Option (Int × Unit)) (kO : Nat → St → Option (Int × Unit)) : ∀ (n : Nat) (a0 : Y4) (k1 : Int) (i5 : Int), zz53_R2 N n (zz53_E2 kX kO) a0 k1 i5 = zz53_l2 N (zz53_X2 kX) n a0 k1 i5
  | 0, _, _, _ => rfl
  | m + 1, a0, k1, i5 => by
    have hrec : zz53_R2 N m (zz53_E2 kX kO) = (zz53_l2 N (zz53_X2 kX) m) := (funext fun a0 => (funext fun k1 => (funext fun i5 => zz53_iter2 N kX kO m a0 k1 i5)))
    refine (zz53_step2 N m kX kO a0 k1 i5).trans ?_
    rw [hrec]
    rfl
noncomputable abbrev zz53_K2 (N : Nat) : Ex → St → Option (Int × Unit) := (blockK 0 (seqK ((A_zz53).shape 15) (run (A_zz53) N (codeAt Try.f23 [1, 1])) zz53_z))
noncomputable abbrev zz53_k2 (N : Nat) : St → Option (Int × Unit) := fun st' => run (A_zz53) N (codeAt Try.f23 [1, 1]) st' zz53_z
theorem zz53_after2 (N : Nat) (k1 : Int) : zz53_X2 (zz53_k2 N) k1 = zz53_a2 k1 := by kernel_rfl
theorem zz53_in2 (N : Nat) (a0 : Y4) (k1 : Int) (i5 : Int) : zz53_R2 N N (zz53_K2 N) a0 k1 i5 = zz53_F2 N a0 k1 i5 :=
  have h : zz53_X2 (zz53_k2 N) = (zz53_a2) := (funext fun k1 => zz53_after2 N k1)
  ((iter_ex (fun st => by kernel_rfl) (fun st => by kernel_rfl)).trans (zz53_iter2 N (zz53_k2 N) (fun j st => (zz53_K2 N) (.exit j) st) N a0 k1 i5)).trans (congrArg (fun k => zz53_l2 N k N a0 k1 i5) h)
theorem run0_zz53 (N : Nat) (x : (S_zz53).a.den) : runF (A_zz53) N Try.f23 S_zz53 x = (zz53_s (zz53_R2 N N (zz53_K2 N)) x.1 x.2.1) := by kernel_rfl
theorem run_zz53 (N : Nat) (x : (S_zz53).a.den) : runF (A_zz53) N Try.f23 S_zz53 x = zz53 N x.1 x.2.1 := by
  refine (run0_zz53 N x).trans ?_
  rw [(funext fun a0 => (funext fun k1 => (funext fun i5 => zz53_in2 N a0 k1 i5)))]
  rfl
theorem fn_zz53 : FnOk Try.prog 23 := ⟨_, Try.func23, by kernel_rfl, by kernel_rfl⟩
theorem good_zz53 : Gx.Good Try.prog 23 S_zz53 := good_of_run Try.func23 (of_decide_eq_true (by kernel_rfl)) fun x r h => ⟨A_zz53, big, mkCfg_ok tabOk, mkCfg_sigs (show SigsOk Try.prog [] from trivial), (run_zz53 big x).trans h⟩

/-! laws_FnExactCentralElements -/
def laws_FnExactCentralElements_s (aP_0 : Y2) : Option (Bool × Unit) :=
  (zz2 aP_0 (1048576 : Int)).bind fun rq1 =>
  cond (decide (rq1.1 < (0 : Int)))
  (some (true, (())))
  ((zz5 aP_0).bind fun rq2 =>
  (zz21 big rq2.1).bind fun rq3 =>
  (zz5 aP_0).bind fun rq4 =>
  (zz46 rq4.1).bind fun rq5 =>
  (zz47 big rq5.1.1 rq3.1.1).bind fun rq6 =>
  cond (!rq6.1)
  (some (false, (())))
  (cond (((((), rq5.1.2).2).1) != ((((), rq3.1.2).2).1))
  (some (false, (())))
  ((zz5 aP_0).bind fun rq7 =>
  (zz49 rq4.1 rq7.1).bind fun rq8 =>
  cond (!rq8.1)
  (some (false, (())))
  ((zz52 rq4.1 (1 : Int)).bind fun rq9 =>
  cond (decide (rq9.1 < (0 : Int)))
  (some (false, (())))
  ((zz47 big rq5.1.1 rq3.1.1).bind fun rq10 =>
  cond (!rq10.1)
  (some (false, (())))
  (cond (((((), rq5.1.2).2).1) != ((((), rq3.1.2).2).1))
  (some (false, (())))
  ((zz50 big rq5.1.1 (1 : Int)).bind fun rq11 =>
  (zz53 big rq11.2.1 (1 : Int)).bind fun rq12 =>
  cond (decide (rq12.1 < (0 : Int)))
  (some (false, (())))
  (cond (decide (rq12.1 ≠ rq11.1))
  (some (false, (())))
  ((zz5 aP_0).bind fun rq13 =>
  (zz46 rq13.1).bind fun rq14 =>
  (zz47 big rq14.1.1 rq3.1.1).bind fun rq15 =>
  cond (!rq15.1)
  (some (false, (())))
  (cond (((((), rq14.1.2).2).1) != ((((), rq3.1.2).2).1))
  (some (false, (())))
  ((zz53 big rq11.2.1 (1 : Int)).bind fun rq16 =>
  cond (decide (rq16.1 < (0 : Int)))
  (some (false, (())))
  (cond (decide (rq16.1 ≠ rq11.1))
  (some (false, (())))
  (some (true, (())))))))))))))))
def laws_FnExactCentralElements (aP_0 : Y2) : Option (Bool × Unit) := laws_FnExactCentralElements_s aP_0
def S_laws_FnExactCentralElements : Sig := { a := (.pair (.pair (.sl (.sl I)) .unit) .unit), md := [0], mf := [], m := .unit, r := .bool, rf := .i, f := fun x => laws_FnExactCentralElements x.1 }
def A_laws_FnExactCentralElements : Cfg := mkCfg tab [(15, S_zz2), (17, S_zz5), (16, S_zz21), (18, S_zz46), (19, S_zz47), (20, S_zz49), (21, S_zz52), (22, S_zz50), (23, S_zz53)] []
theorem run_laws_FnExactCentralElements (N : Nat) (x : (S_laws_FnExactCentralElements).a.den) : runF (A_laws_FnExactCentralElements) N Try.f3 S_laws_FnExactCentralElements x = laws_FnExactCentralElements x.1 := by kernel_rfl
theorem fn_laws_FnExactCentralElements : FnOk Try.prog 3 := ⟨_, Try.func3, by kernel_rfl, by kernel_rfl⟩
theorem good_laws_FnExactCentralElements : Gx.Good Try.prog 3 S_laws_FnExactCentralElements := good_of_run Try.func3 (of_decide_eq_true (by kernel_rfl)) fun x r h => ⟨A_laws_FnExactCentralElements, big, mkCfg_ok tabOk, mkCfg_sigs (show SigsOk Try.prog [(15, S_zz2), (17, S_zz5), (16, S_zz21), (18, S_zz46), (19, S_zz47), (20, S_zz49), (21, S_zz52), (22, S_zz50), (23, S_zz53)] from ⟨⟨fn_zz2, good_zz2⟩, ⟨fn_zz5, good_zz5⟩, ⟨fn_zz21, good_zz21⟩, ⟨fn_zz46, good_zz46⟩, ⟨fn_zz47, good_zz47⟩, ⟨fn_zz49, good_zz49⟩, ⟨fn_zz52, good_zz52⟩, ⟨fn_zz50, good_zz50⟩, ⟨fn_zz53, good_zz53⟩, trivial⟩), (run_laws_FnExactCentralElements big x).trans h⟩

/-! zz54 -/
def zz54_s (l_0 : Y4) : Option (Y4 × Unit) :=
  (appI [] l_0).bind fun xq1 =>
  some (xq1, (()))
def zz54 (l_0 : Y4) : Option (Y4 × Unit) := zz54_s l_0
def S_zz54 : Sig := { a := (.pair (.sl I) .unit), md := [0], mf := [], m := .unit, r := (.sl I), rf := (.o .i), f := fun x => zz54 x.1 }
def A_zz54 : Cfg := mkCfg tab [] []
theorem run_zz54 (N : Nat) (x : (S_zz54).a.den) : runF (A_zz54) N Try.f117 S_zz54 x = zz54 x.1 := by kernel_rfl
theorem fn_zz54 : FnOk Try.prog 117 := ⟨_, Try.func117, by kernel_rfl, by kernel_rfl⟩
theorem good_zz54 : Gx.Good Try.prog 117 S_zz54 := good_of_run Try.func117 (of_decide_eq_true (by kernel_rfl)) fun x r h => ⟨A_zz54, big, mkCfg_ok tabOk, mkCfg_sigs (show SigsOk Try.prog [] from trivial), (run_zz54 big x).trans h⟩

/-! zz55 -/
def zz55_s (p_0 : Y2) (x_1 : Int) (y_2 : Int) : Option (Bool × Unit) :=
  cond (decide (x_1 ≠ y_2))
  ((zz11 p_0 x_1 y_2).bind fun rq1 =>
  some (rq1.1, (())))
  (some (false, (())))
def zz55 (p_0 : Y2) (x_1 : Int) (y_2 : Int) : Option (Bool × Unit) := zz55_s p_0 x_1 y_2
def S_zz55 : Sig := { a := (.pair (.pair (.sl (.sl I)) .unit) (.pair I (.pair I .unit))), md := [0, 0, 0], mf := [], m := .unit, r := .bool, rf := .i, f := fun x => zz55 x.1 x.2.1 x.2.2.1 }
def A_zz55 : Cfg := mkCfg tab [(96, S_zz11)] []
theorem run_zz55 (N : Nat) (x : (S_zz55).a.den) : runF (A_zz55) N Try.f82 S_zz55 x = zz55 x.1 x.2.1 x.2.2.1 := by kernel_rfl
theorem fn_zz55 : FnOk Try.prog 82 := ⟨_, Try.func82, by kernel_rfl, by kernel_rfl⟩
theorem good_zz55 : Gx.Good Try.prog 82 S_zz55 := good_of_run Try.func82 (of_decide_eq_true (by kernel_rfl)) fun x r h => ⟨A_zz55, big, mkCfg_ok tabOk, mkCfg_sigs (show SigsOk Try.prog [(96, S_zz11)] from ⟨⟨fn_zz11, good_zz11⟩, trivial⟩), (run_zz55 big x).trans h⟩

/-! zz56 -/
def zz56_b4 (rec : Int → Int → Y2 → Int → Option (Bool × Unit)) (k : Option (Bool × Unit)) (x1 : Int) (y2 : Int) (p3 : Y2) (z7 : Int) : Option (Bool × Unit) :=
  cond (decide (z7 < (p3.1.length : Int)))
  ((zz55 p3 x1 z7).bind fun rq2 =>
  cond rq2.1
  ((zz55 p3 z7 y2).bind fun rq3 =>
  cond rq3.1
  (some (false, (())))
  (rec x1 y2 p3 (IntKind.i64.wrap (z7 + (1 : Int)))))
  (rec x1 y2 p3 (IntKind.i64.wrap (z7 + (1 : Int)))))
  (k)
def zz56_a4 : Option (Bool × Unit) :=
  some (true, (()))
def zz56_s (L4 : Int → Int → Y2 → Int → Option (Bool × Unit)) (p_0 : Y2) (x_1 : Int) (y_2 : Int) : Option (Bool × Unit) :=
  (zz55 p_0 x_1 y_2).bind fun rq1 =>
  cond (!rq1.1)
  (some (false, (())))
  (L4 x_1 y_2 p_0 (0 : Int))
def zz56_l4 (N : Nat) (k : Option (Bool × Unit)) : Nat → Int → Int → Y2 → Int → Option (Bool × Unit)
  | 0, _, _, _, _ => none
  | m + 1, x1, y2, p3, z7 => zz56_b4 (zz56_l4 N k m) k x1 y2 p3 z7
def zz56_F4 (N : Nat) (x1 : Int) (y2 : Int) (p3 : Y2) (z7 : Int) : Option (Bool × Unit) := zz56_l4 N (zz56_a4) N x1 y2 p3 z7
def zz56 (N : Nat) (p_0 : Y2) (x_1 : Int) (y_2 : Int) : Option (Bool × Unit) := zz56_s (zz56_F4 N) p_0 x_1 y_2
def S_zz56 : Sig := { a := (.pair (.pair (.sl (.sl I)) .unit) (.pair I (.pair I .unit))), md := [0, 0, 0], mf := [], m := .unit, r := .bool, rf := .i, f := fun x => zz56 big x.1 x.2.1 x.2.2.1 }
def A_zz56 : Cfg := mkCfg tab [(82, S_zz55)] [(8, [.drop, .as I .i, .as I .i, .as (.ptr (.pair (.sl (.sl I)) .unit)) (.o .i), .drop, .drop, .drop, .as I .i]), (17, [])]
noncomputable def zz56_R4 (N n : Nat) (K : Ex → St → Option (Bool × Unit)) (x1 : Int) (y2 : Int) (p3 : Y2) (z7 : Int) : Option (Bool × Unit) := iter ((A_zz56).shape 8) (run (A_zz56) N (codeAt Try.f118 [1, 1, 0, 1, 0, 0])) n ([.u, .val I .i x1, .val I .i y2, .val (.ptr (.pair (.sl (.sl I)) .unit)) (.o .i) p3, .u, .u, .u, .val I .i z7] ++ List.replicate 22 .u) K
noncomputable abbrev zz56_z : Ex → St → Option (Bool × Unit) := finish (A_zz56) S_zz56 Try.f118.results.toList
noncomputable abbrev zz56_X4 (kX : St → Option (Bool × Unit)) : Option (Bool × Unit) := kX ([] ++ List.replicate 30 .u)
noncomputable abbrev zz56_E4 (kX : St → Option (Bool × Unit)) (kO : Nat → St → Option (Bool × Unit)) : Ex → St → Option (Bool × Unit) := exK zz56_z 0 ((A_zz56).shape 17) kX kO
theorem zz56_step4 (N : Nat) (m : Nat) (kX : St → Option (Bool × Unit)) (kO : Nat → St → Option (Bool × Unit)) (x1 : Int) (y2 : Int) (p3 : Y2) (z7 : Int) : zz56_R4 N (m + 1) (zz56_E4 kX kO) x1 y2 p3 z7 = zz56_b4 (zz56_R4 N m (zz56_E4 kX kO)) (zz56_X4 kX) x1 y2 p3 z7 := by kernel_rfl
theorem zz56_iter4 (N : Nat) (kX : St → Option (Bool × Unit)) (kO : Nat → St → Option (Bool × Unit)) : ∀ (n : Nat) (x1 : Int) (y2 : Int) (p3 : Y2) (z7 : Int), zz56_R4 N n (zz56_E4 kX kO) x1 y2 p3 z7 = zz56_l4 N (zz56_X4 kX) n x1 y2 p3 z7
  | 0, _, _, _, _ => rfl
  | m + 1, x1, y2, p3, z7 => by
    have hrec : zz56_R4 N m (zz56_E4 kX kO) = (zz56_l4 N (zz56_X4 kX) m) := (funext fun x1 => (funext fun y2 => (funext fun p3 => (funext fun z7 => zz56_iter4 N kX kO m x1 y2 p3 z7))))
    refine (zz56_step4 N m kX kO x1 y2 p3 z7).trans ?_
    rw [hrec]
    rfl
noncomputable abbrev zz56_K4 (N : Nat) : Ex → St → Option (Bool × Unit) := (blockK 0 (seqK ((A_zz56).shape 17) (run (A_zz56) N (codeAt Try.f118 [1, 1, 1])) zz56_z))
noncomputable abbrev zz56_k4 (N : Nat) : St → Option (Bool × Unit) := fun st' => run (A_zz56) N (codeAt Try.f118 [1, 1, 1]) st' zz56_z
theorem zz56_after4 (N : Nat) : zz56_X4 (zz56_k4 N) = zz56_a4 := by kernel_rfl
theorem zz56_in4 (N : Nat) (x1 : Int) (y2 : Int) (p3 : Y2) (z7 : Int) : zz56_R4 N N (zz56_K4 N) x1 y2 p3 z7 = zz56_F4 N x1 y2 p3 z7 :=
  have h : zz56_X4 (zz56_k4 N) = (zz56_a4) := zz56_after4 N
  ((iter_ex (fun st => by kernel_rfl) (fun st => by kernel_rfl)).trans (zz56_iter4 N (zz56_k4 N) (fun j st => (zz56_K4 N) (.exit j) st) N x1 y2 p3 z7)).trans (congrArg (fun k => zz56_l4 N k N x1 y2 p3 z7) h)
theorem run0_zz56 (N : Nat) (x : (S_zz56).a.den) : runF (A_zz56) N Try.f118 S_zz56 x = (zz56_s (zz56_R4 N N (zz56_K4 N)) x.1 x.2.1 x.2.2.1) := by kernel_rfl
theorem run_zz56 (N : Nat) (x : (S_zz56).a.den) : runF (A_zz56) N Try.f118 S_zz56 x = zz56 N x.1 x.2.1 x.2.2.1 := by
  refine (run0_zz56 N x).trans ?_
  rw [(funext fun x1 => (funext fun y2 => (funext fun p3 => (funext fun z7 => zz56_in4 N x1 y2 p3 z7))))]
  rfl
theorem fn_zz56 : FnOk Try.prog 118 := ⟨_, Try.func118, by kernel_rfl, by kernel_rfl⟩
theorem good_zz56 : Gx.Good Try.prog 118 S_zz56 := good_of_run Try.func118 (of_decide_eq_true (by kernel_rfl)) fun x r h => ⟨A_zz56, big, mkCfg_ok tabOk, mkCfg_sigs (show SigsOk Try.prog [(82, S_zz55)] from ⟨⟨fn_zz55, good_zz55⟩, trivial⟩), (run_zz56 big x).trans h⟩

/-! types of zz57 -/
def T_zz57 (self : (Y2 × (Y4 × Unit)) → Option Y2) : Sig := { a := (.pair (.pair (.sl (.sl I)) .unit) (.pair (.sl I) .unit)), md := [0, 0], mf := [], m := .unit, r := (.sl (.sl I)), rf := (.o (.o .i)), f := self }

/-! zz57 -/
def zz57_b5 (self_zz57 : (Y2 × (Y4 × Unit)) → Option Y2) (rec : Y4 → Y2 → Int → Y3 → Int → Option Y2) (k : Y3 → Option Y2) (begun1 : Y4) (p2 : Y2) (last5 : Int) (out6 : Y3) (y7 : Int) : Option Y2 :=
  cond (decide (y7 < (p2.1.length : Int)))
  ((zz56 big p2 last5 y7).bind fun rq5 =>
  cond rq5.1
  ((zz54 begun1).bind fun rq6 =>
  (appI rq6.1 [y7]).bind fun xq7 =>
  (self_zz57 (p2, xq7, ())).bind fun rq8 =>
  (appI out6 rq8.1).bind fun xq9 =>
  rec begun1 p2 last5 xq9 (IntKind.i64.wrap (y7 + (1 : Int))))
  (rec begun1 p2 last5 out6 (IntKind.i64.wrap (y7 + (1 : Int)))))
  (k out6)
def zz57_a5 (self_zz57 : (Y2 × (Y4 × Unit)) → Option Y2) (out6 : Y3) : Option Y2 :=
  some (out6, (()))
def zz57_s (self_zz57 : (Y2 × (Y4 × Unit)) → Option Y2) (L5 : Y4 → Y2 → Int → Y3 → Int → Option Y2) (p_0 : Y2) (begun_1 : Y4) : Option Y2 :=
  (atI begun_1 (IntKind.i64.wrap ((begun_1.length : Int) - (1 : Int)))).bind fun xq1 =>
  (zz16 p_0).bind fun rq2 =>
  cond (decide (xq1 = rq2.1))
  ((zz54 begun_1).bind fun rq3 =>
  (appI [] [rq3.1]).bind fun xq4 =>
  some (xq4, (())))
  (L5 begun_1 p_0 xq1 [] (0 : Int))
def zz57_l5 (self_zz57 : (Y2 × (Y4 × Unit)) → Option Y2) (N : Nat) (k : Y3 → Option Y2) : Nat → Y4 → Y2 → Int → Y3 → Int → Option Y2
  | 0, _, _, _, _, _ => none
  | m + 1, begun1, p2, last5, out6, y7 => zz57_b5 self_zz57 (zz57_l5 self_zz57 N k m) k begun1 p2 last5 out6 y7
def zz57_F5 (self_zz57 : (Y2 × (Y4 × Unit)) → Option Y2) (N : Nat) (begun1 : Y4) (p2 : Y2) (last5 : Int) (out6 : Y3) (y7 : Int) : Option Y2 := zz57_l5 self_zz57 N (zz57_a5 self_zz57) N begun1 p2 last5 out6 y7
def zz57 (self_zz57 : (Y2 × (Y4 × Unit)) → Option Y2) (N : Nat) (p_0 : Y2) (begun_1 : Y4) : Option Y2 := zz57_s self_zz57 (zz57_F5 self_zz57 N) p_0 begun_1
def A_zz57 (self_zz57 : (Y2 × (Y4 × Unit)) → Option Y2) : Cfg := mkCfg tab [(60, S_zz16), (117, S_zz54), (118, S_zz56), (67, T_zz57 self_zz57)] [(10, [.drop, .as (.sl I) .i, .as (.ptr (.pair (.sl (.sl I)) .unit)) (.o .i), .drop, .drop, .as I .i, .as (.sl (.sl I)) (.o (.o .i)), .as I .i]), (19, [.drop, .drop, .drop, .drop, .drop, .drop, .as (.sl (.sl I)) (.o (.o .i))])]
noncomputable def zz57_R5 (self_zz57 : (Y2 × (Y4 × Unit)) → Option Y2) (N n : Nat) (K : Ex → St → Option Y2) (begun1 : Y4) (p2 : Y2) (last5 : Int) (out6 : Y3) (y7 : Int) : Option Y2 := iter ((A_zz57 self_zz57).shape 10) (run (A_zz57 self_zz57) N (codeAt Try.f67 [1, 1, 1, 0, 1, 0, 0])) n ([.u, .val (.sl I) .i begun1, .val (.ptr (.pair (.sl (.sl I)) .unit)) (.o .i) p2, .u, .u, .val I .i last5, .val (.sl (.sl I)) (.o (.o .i)) out6, .val I .i y7] ++ List.replicate 37 .u) K
noncomputable abbrev zz57_z (self_zz57 : (Y2 × (Y4 × Unit)) → Option Y2) : Ex → St → Option Y2 := finish (A_zz57 self_zz57) (T_zz57 self_zz57) Try.f67.results.toList
noncomputable abbrev zz57_X5 (kX : St → Option Y2) : Y3 → Option Y2 := fun (out6 : Y3) => kX ([.u, .u, .u, .u, .u, .u, .val (.sl (.sl I)) (.o (.o .i)) out6] ++ List.replicate 38 .u)
noncomputable abbrev zz57_E5 (self_zz57 : (Y2 × (Y4 × Unit)) → Option Y2) (kX : St → Option Y2) (kO : Nat → St → Option Y2) : Ex → St → Option Y2 := exK (zz57_z self_zz57) 0 ((A_zz57 self_zz57).shape 19) kX kO
theorem zz57_step5 (self_zz57 : (Y2 × (Y4 × Unit)) → Option Y2) (N : Nat) (m : Nat) (kX : St → Option Y2) (kO : Nat → St → Option Y2) (begun1 : Y4) (p2 : Y2) (last5 : Int) (out6 : Y3) (y7 : Int) : zz57_R5 self_zz57 N (m + 1) (zz57_E5 self_zz57 kX kO) begun1 p2 last5 out6 y7 = zz57_b5 self_zz57 (zz57_R5 self_zz57 N m (zz57_E5 self_zz57 kX kO)) (zz57_X5 kX) begun1 p2 last5 out6 y7 := by kernel_rfl
theorem zz57_iter5 (self_zz57 : (Y2 × (Y4 × Unit)) → Option Y2) (N : Nat) (kX : St → Option Y2) (kO : Nat → St → Option Y2) : ∀ (n : Nat) (begun1 : Y4) (p2 : Y2) (last5 : Int) (out6 : Y3) (y7 : Int), zz57_R5 self_zz57 N n (zz57_E5 self_zz57 kX kO) begun1 p2 last5 out6 y7 = zz57_l5 self_zz57 N (zz57_X5 kX) n begun1 p2 last5 out6 y7
  | 0, _, _, _, _, _ => rfl
  | m + 1, begun1, p2, last5, out6, y7 => by
    have hrec : zz57_R5 self_zz57 N m (zz57_E5 self_zz57 kX kO) = (zz57_l5 self_zz57 N (zz57_X5 kX) m) := (funext fun begun1 => (funext fun p2 => (funext fun last5 => (funext fun out6 => (funext fun y7 => zz57_iter5 self_zz57 N kX kO m begun1 p2 last5 out6 y7)))))
    refine (zz57_step5 self_zz57 N m kX kO begun1 p2 last5 out6 y7).trans ?_
    rw [hrec]
    rfl
noncomputable abbrev zz57_K5 (self_zz57 : (Y2 × (Y4 × Unit)) → Option Y2) (N : Nat) : Ex → St → Option Y2 := (blockK 0 (seqK ((A_zz57 self_zz57).shape 19) (run (A_zz57 self_zz57) N (codeAt Try.f67 [1, 1, 1, 1])) (zz57_z self_zz57)))
noncomputable abbrev zz57_k5 (self_zz57 : (Y2 × (Y4 × Unit)) → Option Y2) (N : Nat) : St → Option Y2 := fun st' => run (A_zz57 self_zz57) N (codeAt Try.f67 [1, 1, 1, 1]) st' (zz57_z self_zz57)
theorem zz57_after5 (self_zz57 : (Y2 × (Y4 × Unit)) → Option Y2) (N : Nat) (out6 : Y3) : zz57_X5 (zz57_k5 self_zz57 N) out6 = zz57_a5 self_zz57 out6 := by kernel_rfl
theorem zz57_in5 (self_zz57 : (Y2 × (Y4 × Unit)) → Option Y2) (N : Nat) (begun1 : Y4) (p2 : Y2) (last5 : Int) (out6 : Y3) (y7 : Int) : zz57_R5 self_zz57 N N (zz57_K5 self_zz57 N) begun1 p2 last5 out6 y7 = zz57_F5 self_zz57 N begun1 p2 last5 out6 y7 :=
  have h : zz57_X5 (zz57_k5 self_zz57 N) = (zz57_a5 self_zz57) := (funext fun out6 => zz57_after5 self_zz57 N out6)
  ((iter_ex (fun st => by kernel_rfl) (fun st => by kernel_rfl)).trans (zz57_iter5 self_zz57 N (zz57_k5 self_zz57 N) (fun j st => (zz57_K5 self_zz57 N) (.exit j) st) N begun1 p2 last5 out6 y7)).trans (congrArg (fun k => zz57_l5 self_zz57 N k N begun1 p2 last5 out6 y7) h)
theorem run0_zz57 (self_zz57 : (Y2 × (Y4 × Unit)) → Option Y2) (N : Nat) (x : ((T_zz57 self_zz57)).a.den) : runF (A_zz57 self_zz57) N Try.f67 (T_zz57 self_zz57) x = (zz57_s self_zz57 (zz57_R5 self_zz57 N N (zz57_K5 self_zz57 N)) x.1 x.2.1) := by kernel_rfl
theorem run_zz57 (self_zz57 : (Y2 × (Y4 × Unit)) → Option Y2) (N : Nat) (x : ((T_zz57 self_zz57)).a.den) : runF (A_zz57 self_zz57) N Try.f67 (T_zz57 self_zz57) x = zz57 self_zz57 N x.1 x.2.1 := by
  refine (run0_zz57 self_zz57 N x).trans ?_
  rw [(funext fun begun1 => (funext fun p2 => (funext fun last5 => (funext fun out6 => (funext fun y7 => zz57_in5 self_zz57 N begun1 p2 last5 out6 y7)))))]
  rfl
theorem fn_zz57 : FnOk Try.prog 67 := ⟨_, Try.func67, by kernel_rfl, by kernel_rfl⟩

/-! zz66 -/
def R_zz57 : Nat → (Y2 × (Y4 × Unit)) → Option Y2
  | 0, _ => none
  | d + 1, x => zz57 (R_zz57 d) big x.1 x.2.1
def S_zz57 : Sig := T_zz57 (R_zz57 big)
theorem goodR_spec_l26Chains : ∀ d, Gx.Good Try.prog 67 (T_zz57 (R_zz57 d))
  | 0 => fun x r h => by cases h
  | d + 1 => good_of_run Try.func67 (of_decide_eq_true (by kernel_rfl)) fun x r h => ⟨A_zz57 (R_zz57 d), big, mkCfg_ok tabOk, mkCfg_sigs (show SigsOk Try.prog [(60, S_zz16), (117, S_zz54), (118, S_zz56), (67, T_zz57 (R_zz57 d))] from ⟨⟨fn_zz16, good_zz16⟩, ⟨fn_zz54, good_zz54⟩, ⟨fn_zz56, good_zz56⟩, ⟨fn_zz57, goodR_spec_l26Chains d⟩, trivial⟩), (run_zz57 (R_zz57 d) big x).trans h⟩
theorem good_zz57 : Gx.Good Try.prog 67 S_zz57 := goodR_spec_l26Chains big

/-! zz59 -/
def zz59_s (p_0 : Y2) : Option ((Y3 × (Bool × Unit)) × Unit) :=
  (zz14 big p_0).bind fun rq1 =>
  cond (!rq1.1)
  (some (([], false, ()), (())))
  ((zz15 p_0).bind fun rq2 =>
  (R_zz57 big (p_0, [rq2.1], ())).bind fun rq3 =>
  some ((rq3.1, true, ()), (())))
def zz59 (p_0 : Y2) : Option ((Y3 × (Bool × Unit)) × Unit) := zz59_s p_0
def S_zz59 : Sig := { a := (.pair (.pair (.sl (.sl I)) .unit) .unit), md := [0], mf := [], m := .unit, r := (.tup (.pair (.sl (.sl I)) (.pair .bool .unit))), rf := (.p (.o (.o .i)) .i), f := fun x => zz59 x.1 }
def A_zz59 : Cfg := mkCfg tab [(57, S_zz14), (59, S_zz15), (67, S_zz57)] []
theorem run_zz59 (N : Nat) (x : (S_zz59).a.den) : runF (A_zz59) N Try.f24 S_zz59 x = zz59 x.1 := by kernel_rfl
theorem fn_zz59 : FnOk Try.prog 24 := ⟨_, Try.func24, by kernel_rfl, by kernel_rfl⟩
theorem good_zz59 : Gx.Good Try.prog 24 S_zz59 := good_of_run Try.func24 (of_decide_eq_true (by kernel_rfl)) fun x r h => ⟨A_zz59, big, mkCfg_ok tabOk, mkCfg_sigs (show SigsOk Try.prog [(57, S_zz14), (59, S_zz15), (67, S_zz57)] from ⟨⟨fn_zz14, good_zz14⟩, ⟨fn_zz15, good_zz15⟩, ⟨fn_zz57, good_zz57⟩, trivial⟩), (run_zz59 big x).trans h⟩

/-! zz60 -/
def zz60_s (o_0 : Y5) (x_1 : Int) (y_2 : Int) : Option (Bool × Unit) :=
  cond (decide (x_1 ≠ y_2))
  ((atI o_0 x_1).bind fun xq1 =>
  (atI xq1 y_2).bind fun xq2 =>
  some (xq2, (())))
  (some (false, (())))
def zz60 (o_0 : Y5) (x_1 : Int) (y_2 : Int) : Option (Bool × Unit) := zz60_s o_0 x_1 y_2
def S_zz60 : Sig := { a := (.pair (.sl (.sl .bool)) (.pair I (.pair I .unit))), md := [0, 0, 0], mf := [], m := .unit, r := .bool, rf := .i, f := fun x => zz60 x.1 x.2.1 x.2.2.1 }
def A_zz60 : Cfg := mkCfg tab [] []
theorem run_zz60 (N : Nat) (x : (S_zz60).a.den) : runF (A_zz60) N Try.f84 S_zz60 x = zz60 x.1 x.2.1 x.2.2.1 := by kernel_rfl
theorem fn_zz60 : FnOk Try.prog 84 := ⟨_, Try.func84, by kernel_rfl, by kernel_rfl⟩
theorem good_zz60 : Gx.Good Try.prog 84 S_zz60 := good_of_run Try.func84 (of_decide_eq_true (by kernel_rfl)) fun x r h => ⟨A_zz60, big, mkCfg_ok tabOk, mkCfg_sigs (show SigsOk Try.prog [] from trivial), (run_zz60 big x).trans h⟩

/-! zz61 -/
def zz61_b4 (rec : Y5 → Int → Int → Int → Int → Option (Bool × Unit)) (k : Option (Bool × Unit)) (o0 : Y5) (x1 : Int) (y2 : Int) (t14 : Int) (t15 : Int) : Option (Bool × Unit) :=
  cond (decide (t15 < t14))
  ((zz60 o0 x1 t15).bind fun rq2 =>
  cond rq2.1
  ((zz60 o0 t15 y2).bind fun rq3 =>
  cond rq3.1
  (some (false, (())))
  (rec o0 x1 y2 t14 (IntKind.i64.wrap (t15 + (1 : Int)))))
  (rec o0 x1 y2 t14 (IntKind.i64.wrap (t15 + (1 : Int)))))
  (k)
def zz61_a4 : Option (Bool × Unit) :=
  some (true, (()))
def zz61_s (L4 : Y5 → Int → Int → Int → Int → Option (Bool × Unit)) (o_0 : Y5) (x_1 : Int) (y_2 : Int) : Option (Bool × Unit) :=
  (zz60 o_0 x_1 y_2).bind fun rq1 =>
  cond (!rq1.1)
  (some (false, (())))
  (L4 o_0 x_1 y_2 (o_0.length : Int) (0 : Int))
def zz61_l4 (N : Nat) (k : Option (Bool × Unit)) : Nat → Y5 → Int → Int → Int → Int → Option (Bool × Unit)
  | 0, _, _, _, _, _ => none
  | m + 1, o0, x1, y2, t14, t15 => zz61_b4 (zz61_l4 N k m) k o0 x1 y2 t14 t15
def zz61_F4 (N : Nat) (o0 : Y5) (x1 : Int) (y2 : Int) (t14 : Int) (t15 : Int) : Option (Bool × Unit) := zz61_l4 N (zz61_a4) N o0 x1 y2 t14 t15
def zz61 (N : Nat) (o_0 : Y5) (x_1 : Int) (y_2 : Int) : Option (Bool × Unit) := zz61_s (zz61_F4 N) o_0 x_1 y_2
def S_zz61 : Sig := { a := (.pair (.sl (.sl .bool)) (.pair I (.pair I .unit))), md := [0, 0, 0], mf := [], m := .unit, r := .bool, rf := .i, f := fun x => zz61 big x.1 x.2.1 x.2.2.1 }
def A_zz61 : Cfg := mkCfg tab [(84, S_zz60)] [(8, [.as (.sl (.sl .bool)) .i, .as I .i, .as I .i, .drop, .drop, .drop, .drop, .drop, .drop, .drop, .drop, .drop, .drop, .drop, .as I .i, .as I .i]), (19, [])]
noncomputable def zz61_R4 (N n : Nat) (K : Ex → St → Option (Bool × Unit)) (o0 : Y5) (x1 : Int) (y2 : Int) (t14 : Int) (t15 : Int) : Option (Bool × Unit) := iter ((A_zz61).shape 8) (run (A_zz61) N (codeAt Try.f124 [1, 1, 0, 1, 0, 0])) n ([.val (.sl (.sl .bool)) .i o0, .val I .i x1, .val I .i y2, .u, .u, .u, .u, .u, .u, .u, .u, .u, .u, .u, .val I .i t14, .val I .i t15] ++ List.replicate 13 .u) K
noncomputable abbrev zz61_z : Ex → St → Option (Bool × Unit) := finish (A_zz61) S_zz61 Try.f124.results.toList
noncomputable abbrev zz61_X4 (kX : St → Option (Bool × Unit)) : Option (Bool × Unit) := kX ([] ++ List.replicate 29 .u)
noncomputable abbrev zz61_E4 (kX : St → Option (Bool × Unit)) (kO : Nat → St → Option (Bool × Unit)) : Ex → St → Option (Bool × Unit) := exK zz61_z 0 ((A_zz61).shape 19) kX kO
theorem zz61_step4 (N : Nat) (m : Nat) (kX : St → Option (Bool × Unit)) (kO : Nat → St → Option (Bool × Unit)) (o0 : Y5) (x1 : Int) (y2 : Int) (t14 : Int) (t15 : Int) : zz61_R4 N (m + 1) (zz61_E4 kX kO) o0 x1 y2 t14 t15 = zz61_b4 (zz61_R4 N m (zz61_E4 kX kO)) (zz61_X4 kX) o0 x1 y2 t14 t15 := by kernel_rfl
theorem zz61_iter4 (N : Nat) (kX : St → Option (Bool × Unit)) (kO : Nat → St → Option (Bool × Unit)) : ∀ (n : Nat) (o0 : Y5) (x1 : Int) (y2 : Int) (t14 : Int) (t15 : Int), zz61_R4 N n (zz61_E4 kX kO) o0 x1 y2 t14 t15 = zz61_l4 N (zz61_X4 kX) n o0 x1 y2 t14 t15
  | 0, _, _, _, _, _ => rfl
  | m + 1, o0, x1, y2, t14, t15 => by
    have hrec : zz61_R4 N m (zz61_E4 kX kO) = (zz61_l4 N (zz61_X4 kX) m) := (funext fun o0 => (funext fun x1 => (funext fun y2 => (funext fun t14 => (funext fun t15 => zz61_iter4 N kX kO m o0 x1 y2 t14 t15)))))
    refine (zz61_step4 N m kX kO o0 x1 y2 t14 t15).trans ?_
    rw [hrec]
    rfl
noncomputable abbrev zz61_K4 (N : Nat) : Ex → St → Option (Bool × Unit) := (blockK 0 (seqK ((A_zz61).shape 19) (run (A_zz61) N (codeAt Try.f124 [1, 1, 1])) zz61_z))
noncomputable abbrev zz61_k4 (N : Nat) : St → Option (Bool × Unit) := fun st' => run (A_zz61) N (codeAt Try.f124 [1, 1, 1]) st' zz61_z
theorem zz61_after4 (N : Nat) : zz61_X4 (zz61_k4 N) = zz61_a4 := by kernel_rfl
theorem zz61_in4 (N : Nat) (o0 : Y5) (x1 : Int) (y2 : Int) (t14 : Int) (t15 : Int) : zz61_R4 N N (zz61_K4 N) o0 x1 y2 t14 t15 = zz61_F4 N o0 x1 y2 t14 t15 :=
  have h : zz61_X4 (zz61_k4 N) = (zz61_a4) := zz61_after4 N
  ((iter_ex (fun st => by kernel_rfl) (fun st => by kernel_rfl)).trans (zz61_iter4 N (zz61_k4 N) (fun j st => (zz61_K4 N) (.exit j) st) N o0 x1 y2 t14 t15)).trans (congrArg (fun k => zz61_l4 N k N o0 x1 y2 t14 t15) h)
theorem run0_zz61 (N : Nat) (x : (S_zz61).a.den) : runF (A_zz61) N Try.f124 S_zz61 x = (zz61_s (zz61_R4 N N (zz61_K4 N)) x.1 x.2.1 x.2.2.1) := by kernel_rfl
theorem run_zz61 (N : Nat) (x : (S_zz61).a.den) : runF (A_zz61) N Try.f124 S_zz61 x = zz61 N x.1 x.2.1 x.2.2.1 := by
  refine (run0_zz61 N x).trans ?_
  rw [(funext fun o0 => (funext fun x1 => (funext fun y2 => (funext fun t14 => (funext fun t15 => zz61_in4 N o0 x1 y2 t14 t15)))))]
  rfl
theorem fn_zz61 : FnOk Try.prog 124 := ⟨_, Try.func124, by kernel_rfl, by kernel_rfl⟩
theorem good_zz61 : Gx.Good Try.prog 124 S_zz61 := good_of_run Try.func124 (of_decide_eq_true (by kernel_rfl)) fun x r h => ⟨A_zz61, big, mkCfg_ok tabOk, mkCfg_sigs (show SigsOk Try.prog [(84, S_zz60)] from ⟨⟨fn_zz60, good_zz60⟩, trivial⟩), (run_zz61 big x).trans h⟩

/-! zz62 -/
def zz62_s (y_0 : Int) (p_1 : Y5) (p_2 : Int) : Option (Bool × Unit) :=
  (zz61 big p_1 p_2 y_0).bind fun rq1 =>
  some (rq1.1, (()))
def zz62 (y_0 : Int) (p_1 : Y5) (p_2 : Int) : Option (Bool × Unit) := zz62_s y_0 p_1 p_2
def S_zz62 : Sig := { a := (.pair I (.pair (.ptr (.sl (.sl .bool))) (.pair (.ptr I) .unit))), md := [0, 0, 0], mf := [], m := .unit, r := .bool, rf := .i, f := fun x => zz62 x.1 x.2.1 x.2.2.1 }
def A_zz62 : Cfg := mkCfg tab [(124, S_zz61)] []
theorem run_zz62 (N : Nat) (x : (S_zz62).a.den) : runF (A_zz62) N Try.f145 S_zz62 x = zz62 x.1 x.2.1 x.2.2.1 := by kernel_rfl
theorem fn_zz62 : FnOk Try.prog 145 := ⟨_, Try.func145, by kernel_rfl, by kernel_rfl⟩
theorem good_zz62 : Gx.Good Try.prog 145 S_zz62 := good_of_run Try.func145 (of_decide_eq_true (by kernel_rfl)) fun x r h => ⟨A_zz62, big, mkCfg_ok tabOk, mkCfg_sigs (show SigsOk Try.prog [(124, S_zz61)] from ⟨⟨fn_zz61, good_zz61⟩, trivial⟩), (run_zz62 big x).trans h⟩

/-! zz63 -/
def zz63_b3 (rec : (Y5 × (Int × Unit)) → Y4 → Int → Int → Option (Y4 × Unit)) (k : Y4 → Option (Y4 × Unit)) (so1 : (Y5 × (Int × Unit))) (list5 : Y4) (t9 : Int) (t10 : Int) : Option (Y4 × Unit) :=
  cond (decide (t10 < t9))
  ((zz62 t10 so1.1 so1.2.1).bind fun rq1 =>
  cond rq1.1
  ((appI list5 [t10]).bind fun xq2 =>
  rec so1 xq2 t9 (IntKind.i64.wrap (t10 + (1 : Int))))
  (rec so1 list5 t9 (IntKind.i64.wrap (t10 + (1 : Int)))))
  (k list5)
def zz63_a3 (list5 : Y4) : Option (Y4 × Unit) :=
  some (list5, (()))
def zz63_s (L3 : (Y5 × (Int × Unit)) → Y4 → Int → Int → Option (Y4 × Unit)) (o_0 : Y5) (so_1 : (Y5 × (Int × Unit))) : Option (Y4 × Unit) :=
  L3 so_1 [] (o_0.length : Int) (0 : Int)
def zz63_l3 (N : Nat) (k : Y4 → Option (Y4 × Unit)) : Nat → (Y5 × (Int × Unit)) → Y4 → Int → Int → Option (Y4 × Unit)
  | 0, _, _, _, _ => none
  | m + 1, so1, list5, t9, t10 => zz63_b3 (zz63_l3 N k m) k so1 list5 t9 t10
def zz63_F3 (N : Nat) (so1 : (Y5 × (Int × Unit))) (list5 : Y4) (t9 : Int) (t10 : Int) : Option (Y4 × Unit) := zz63_l3 N (zz63_a3) N so1 list5 t9 t10
def zz63 (N : Nat) (o_0 : Y5) (so_1 : (Y5 × (Int × Unit))) : Option (Y4 × Unit) := zz63_s (zz63_F3 N) o_0 so_1
def S_zz63 : Sig := { a := (.pair (.sl (.sl .bool)) (.pair (.clo 145 0 (.pair (.ptr (.sl (.sl .bool))) (.pair (.ptr I) .unit))) .unit)), md := [0, 0], mf := [], m := .unit, r := (.sl I), rf := (.o .i), f := fun x => zz63 big x.1 x.2.1 }
def A_zz63 : Cfg := mkCfg tab [(145, S_zz62)] [(6, [.drop, .as (.clo 145 0 (.pair (.ptr (.sl (.sl .bool))) (.pair (.ptr I) .unit))) .i, .drop, .drop, .drop, .as (.sl I) (.o .i), .drop, .drop, .drop, .as I .i, .as I .i]), (17, [.drop, .drop, .drop, .drop, .drop, .as (.sl I) (.o .i)])]
noncomputable def zz63_R3 (N n : Nat) (K : Ex → St → Option (Y4 × Unit)) (so1 : (Y5 × (Int × Unit))) (list5 : Y4) (t9 : Int) (t10 : Int) : Option (Y4 × Unit) := iter ((A_zz63).shape 6) (run (A_zz63) N (codeAt Try.f65 [1, 1, 0, 1, 0, 0])) n ([.u, .val (.clo 145 0 (.pair (.ptr (.sl (.sl .bool))) (.pair (.ptr I) .unit))) .i so1, .u, .u, .u, .val (.sl I) (.o .i) list5, .u, .u, .u, .val I .i t9, .val I .i t10] ++ List.replicate 11 .u) K
noncomputable abbrev zz63_z : Ex → St → Option (Y4 × Unit) := finish (A_zz63) S_zz63 Try.f65.results.toList
noncomputable abbrev zz63_X3 (kX : St → Option (Y4 × Unit)) : Y4 → Option (Y4 × Unit) := fun (list5 : Y4) => kX ([.u, .u, .u, .u, .u, .val (.sl I) (.o .i) list5] ++ List.replicate 16 .u)
noncomputable abbrev zz63_E3 (kX : St → Option (Y4 × Unit)) (kO : Nat → St → Option (Y4 × Unit)) : Ex → St → Option (Y4 × Unit) := exK zz63_z 0 ((A_zz63).shape 17) kX kO
theorem zz63_step3 (N : Nat) (m : Nat) (kX : St → Option (Y4 × Unit)) (kO : Nat → St → Option (Y4 × Unit)) (so1 : (Y5 × (Int × Unit))) (list5 : Y4) (t9 : Int) (t10 : Int) : zz63_R3 N (m + 1) (zz63_E3 kX kO) so1 list5 t9 t10 = zz63_b3 (zz63_R3 N m (zz63_E3 kX kO)) (zz63_X3 kX) so1 list5 t9 t10 := by kernel_rfl
theorem zz63_iter3 (N : Nat) (kX : St → Option (Y4 × Unit)) (kO : Nat → St → Option (Y4 × Unit)) : ∀ (n : Nat) (so1 : (Y5 × (Int × Unit))) (list5 : Y4) (t9 : Int) (t10 : Int), zz63_R3 N n (zz63_E3 kX kO) so1 list5 t9 t10 = zz63_l3 N (zz63_X3 kX) n so1 list5 t9 t10
  | 0, _, _, _, _ => rfl
  | m + 1, so1, list5, t9, t10 => by
    have hrec : zz63_R3 N m (zz63_E3 kX kO) = (zz63_l3 N (zz63_X3 kX) m) := (funext fun so1 => (funext fun list5 => (funext fun t9 => (funext fun t10 => zz63_iter3 N kX kO m so1 list5 t9 t10))))
    refine (zz63_step3 N m kX kO so1 list5 t9 t10).trans ?_
    rw [hrec]
    rfl
noncomputable abbrev zz63_K3 (N : Nat) : Ex → St → Option (Y4 × Unit) := (blockK 0 (seqK ((A_zz63).shape 17) (run (A_zz63) N (codeAt Try.f65 [1, 1, 1])) zz63_z))
noncomputable abbrev zz63_k3 (N : Nat) : St → Option (Y4 × Unit) := fun st' => run (A_zz63) N (codeAt Try.f65 [1, 1, 1]) st' zz63_z
theorem zz63_after3 (N : Nat) (list5 : Y4) : zz63_X3 (zz63_k3 N) list5 = zz63_a3 list5 := by kernel_rfl
theorem zz63_in3 (N : Nat) (so1 : (Y5 × (Int × Unit))) (list5 : Y4) (t9 : Int) (t10 : Int) : zz63_R3 N N (zz63_K3 N) so1 list5 t9 t10 = zz63_F3 N so1 list5 t9 t10 :=
  have h : zz63_X3 (zz63_k3 N) = (zz63_a3) := (funext fun list5 => zz63_after3 N list5)
  ((iter_ex (fun st => by kernel_rfl) (fun st => by kernel_rfl)).trans (zz63_iter3 N (zz63_k3 N) (fun j st => (zz63_K3 N) (.exit j) st) N so1 list5 t9 t10)).trans (congrArg (fun k => zz63_l3 N k N so1 list5 t9 t10) h)
theorem run0_zz63 (N : Nat) (x : (S_zz63).a.den) : runF (A_zz63) N Try.f65 S_zz63 x = (zz63_s (zz63_R3 N N (zz63_K3 N)) x.1 x.2.1) := by kernel_rfl
theorem run_zz63 (N : Nat) (x : (S_zz63).a.den) : runF (A_zz63) N Try.f65 S_zz63 x = zz63 N x.1 x.2.1 := by
  refine (run0_zz63 N x).trans ?_
  rw [(funext fun so1 => (funext fun list5 => (funext fun t9 => (funext fun t10 => zz63_in3 N so1 list5 t9 t10))))]
  rfl
theorem fn_zz63 : FnOk Try.prog 65 := ⟨_, Try.func65, by kernel_rfl, by kernel_rfl⟩
theorem good_zz63 : Gx.Good Try.prog 65 S_zz63 := good_of_run Try.func65 (of_decide_eq_true (by kernel_rfl)) fun x r h => ⟨A_zz63, big, mkCfg_ok tabOk, mkCfg_sigs (show SigsOk Try.prog [(145, S_zz62)] from ⟨⟨fn_zz62, good_zz62⟩, trivial⟩), (run_zz63 big x).trans h⟩

/-! zz64 -/
def zz64_s (o_0 : Y5) (x_1 : Int) : Option (Y4 × Unit) :=
  (zz63 big o_0 (o_0, x_1, ())).bind fun rq1 =>
  some (rq1.1, (()))
def zz64 (o_0 : Y5) (x_1 : Int) : Option (Y4 × Unit) := zz64_s o_0 x_1
def S_zz64 : Sig := { a := (.pair (.sl (.sl .bool)) (.pair I .unit)), md := [0, 0], mf := [], m := .unit, r := (.sl I), rf := (.o .i), f := fun x => zz64 x.1 x.2.1 }
def A_zz64 : Cfg := mkCfg tab [(65, S_zz63)] [(3, [.drop, .drop, .as (.ptr (.sl (.sl .bool))) .i, .as (.ptr I) .i])]
theorem run_zz64 (N : Nat) (x : (S_zz64).a.den) : runF (A_zz64) N Try.f123 S_zz64 x = zz64 x.1 x.2.1 := by kernel_rfl
theorem fn_zz64 : FnOk Try.prog 123 := ⟨_, Try.func123, by kernel_rfl, by kernel_rfl⟩
theorem good_zz64 : Gx.Good Try.prog 123 S_zz64 := good_of_run Try.func123 (of_decide_eq_true (by kernel_rfl)) fun x r h => ⟨A_zz64, big, mkCfg_ok tabOk, mkCfg_sigs (show SigsOk Try.prog [(65, S_zz63)] from ⟨⟨fn_zz63, good_zz63⟩, trivial⟩), (run_zz64 big x).trans h⟩

/-! types of zz65 -/
def T_zz65 (self : (Y1 × (Int × Unit)) → Option Y2) : Sig := { a := (.pair (.opt (.pair (.sl (.sl .bool)) (.pair (.sl (.sl I)) (.pair (.sl (.sl I)) .unit)))) (.pair I .unit)), md := [0, 0], mf := [], m := .unit, r := (.sl (.sl I)), rf := (.o (.o .i)), f := self }

/-! zz65 -/
def zz65_b8 (self_zz65 : (Y1 × (Int × Unit)) → Option Y2) (rec : Y1 → Int → Y3 → Y4 → Int → Int → Y3 → Int → Int → Option Y2) (k : Y1 → Int → Y3 → Y4 → Int → Int → Option Y2) (l0 : Y1) (x1 : Int) (list5 : Y3) (t23 : Y4) (t24 : Int) (t25 : Int) (t31 : Y3) (t32 : Int) (t33 : Int) : Option Y2 :=
  cond (decide (t33 < t32))
  ((atI t31 t33).bind fun _ =>
  (t31[t33.toNat]?).bind fun xq6 =>
  (t31[t33.toNat]?).bind fun xq8 =>
  (appI [x1] xq8).bind fun xq7 =>
  (appI list5 [xq7]).bind fun xq9 =>
  rec l0 x1 xq9 t23 t24 t25 t31 t32 (IntKind.i64.wrap (t33 + (1 : Int))))
  (k l0 x1 list5 t23 t24 t25)
def zz65_a8 (self_zz65 : (Y1 × (Int × Unit)) → Option Y2) (rec : Y1 → Int → Y3 → Y4 → Int → Int → Option Y2) (l0 : Y1) (x1 : Int) (list5 : Y3) (t23 : Y4) (t24 : Int) (t25 : Int) : Option Y2 :=
  rec l0 x1 list5 t23 t24 (IntKind.i64.wrap (t25 + (1 : Int)))
def zz65_b5 (self_zz65 : (Y1 × (Int × Unit)) → Option Y2) (L8 : Y1 → Int → Y3 → Y4 → Int → Int → Y3 → Int → Int → Option Y2) (k : Y3 → Option Y2) (l0 : Y1) (x1 : Int) (list5 : Y3) (t23 : Y4) (t24 : Int) (t25 : Int) : Option Y2 :=
  cond (decide (t25 < t24))
  ((atI t23 t25).bind fun _ =>
  (t23[t25.toNat]?).bind fun xq4 =>
  (self_zz65 (l0, xq4, ())).bind fun rq5 =>
  L8 l0 x1 list5 t23 t24 t25 rq5.1 (rq5.1.length : Int) (0 : Int))
  (k list5)
def zz65_a5 (self_zz65 : (Y1 × (Int × Unit)) → Option Y2) (list5 : Y3) : Option Y2 :=
  some (list5, (()))
def zz65_s (self_zz65 : (Y1 × (Int × Unit)) → Option Y2) (L5 : Y1 → Int → Y3 → Y4 → Int → Int → Option Y2) (l_0 : Y1) (x_1 : Int) : Option Y2 :=
  (zz34 big l_0).bind fun rq1 =>
  cond (decide (x_1 = rq1.1))
  (some ([[x_1]], (())))
  ((l_0).bind fun xq2 =>
  (zz64 xq2.1 x_1).bind fun rq3 =>
  L5 l_0 x_1 [] rq3.1 (rq3.1.length : Int) (0 : Int))
def zz65_l8 (self_zz65 : (Y1 × (Int × Unit)) → Option Y2) (N : Nat) (k : Y1 → Int → Y3 → Y4 → Int → Int → Option Y2) : Nat → Y1 → Int → Y3 → Y4 → Int → Int → Y3 → Int → Int → Option Y2
  | 0, _, _, _, _, _, _, _, _, _ => none
  | m + 1, l0, x1, list5, t23, t24, t25, t31, t32, t33 => zz65_b8 self_zz65 (zz65_l8 self_zz65 N k m) k l0 x1 list5 t23 t24 t25 t31 t32 t33
def zz65_F8 (self_zz65 : (Y1 × (Int × Unit)) → Option Y2) (N : Nat) (rec : Y1 → Int → Y3 → Y4 → Int → Int → Option Y2) (k : Y3 → Option Y2) (l0 : Y1) (x1 : Int) (list5 : Y3) (t23 : Y4) (t24 : Int) (t25 : Int) (t31 : Y3) (t32 : Int) (t33 : Int) : Option Y2 := zz65_l8 self_zz65 N (zz65_a8 self_zz65 rec) N l0 x1 list5 t23 t24 t25 t31 t32 t33
def zz65_l5 (self_zz65 : (Y1 × (Int × Unit)) → Option Y2) (N : Nat) (k : Y3 → Option Y2) : Nat → Y1 → Int → Y3 → Y4 → Int → Int → Option Y2
  | 0, _, _, _, _, _, _ => none
  | m + 1, l0, x1, list5, t23, t24, t25 => zz65_b5 self_zz65 (zz65_F8 self_zz65 N (zz65_l5 self_zz65 N k m) k) k l0 x1 list5 t23 t24 t25
def zz65_F5 (self_zz65 : (Y1 × (Int × Unit)) → Option Y2) (N : Nat) (l0 : Y1) (x1 : Int) (list5 : Y3) (t23 : Y4) (t24 : Int) (t25 : Int) : Option Y2 := zz65_l5 self_zz65 N (zz65_a5 self_zz65) N l0 x1 list5 t23 t24 t25
def zz65 (self_zz65 : (Y1 × (Int × Unit)) → Option Y2) (N : Nat) (l_0 : Y1) (x_1 : Int) : Option Y2 := zz65_s self_zz65 (zz65_F5 self_zz65 N) l_0 x_1
def A_zz65 (self_zz65 : (Y1 × (Int × Unit)) → Option Y2) : Cfg := mkCfg tab [(122, S_zz34), (123, S_zz64), (69, T_zz65 self_zz65)] [(10, [.as (.opt (.pair (.sl (.sl .bool)) (.pair (.sl (.sl I)) (.pair (.sl (.sl I)) .unit)))) .i, .as I .i, .drop, .drop, .drop, .as (.sl (.sl I)) (.o (.o .i)), .drop, .drop, .drop, .drop, .drop, .drop, .drop, .drop, .drop, .drop, .drop, .drop, .drop, .drop, .drop, .drop, .drop, .as (.sl I) (.o .i), .as I .i, .as I .i]), (16, [.as (.opt (.pair (.sl (.sl .bool)) (.pair (.sl (.sl I)) (.pair (.sl (.sl I)) .unit)))) .i, .as I .i, .drop, .drop, .drop, .as (.sl (.sl I)) (.o (.o .i)), .drop, .drop, .drop, .drop, .drop, .drop, .drop, .drop, .drop, .drop, .drop, .drop, .drop, .drop, .drop, .drop, .drop, .as (.sl I) (.o .i), .as I .i, .as I .i, .drop, .drop, .drop, .drop, .drop, .as (.sl (.sl I)) (.o (.o .i)), .as I .i, .as I .i]), (27, [.drop, .drop, .drop, .drop, .drop, .as (.sl (.sl I)) (.o (.o .i))]), (25, [.as (.opt (.pair (.sl (.sl .bool)) (.pair (.sl (.sl I)) (.pair (.sl (.sl I)) .unit)))) .i, .as I .i, .drop, .drop, .drop, .as (.sl (.sl I)) (.o (.o .i)), .drop, .drop, .drop, .drop, .drop, .drop, .drop, .drop, .drop, .drop, .drop, .drop, .drop, .drop, .drop, .drop, .drop, .as (.sl I) (.o .i), .as I .i, .as I .i])]
noncomputable def zz65_R5 (self_zz65 : (Y1 × (Int × Unit)) → Option Y2) (N n : Nat) (K : Ex → St → Option Y2) (l0 : Y1) (x1 : Int) (list5 : Y3) (t23 : Y4) (t24 : Int) (t25 : Int) : Option Y2 := iter ((A_zz65 self_zz65).shape 10) (run (A_zz65 self_zz65) N (codeAt Try.f69 [1, 1, 1, 0, 1, 0, 0])) n ([.val (.opt (.pair (.sl (.sl .bool)) (.pair (.sl (.sl I)) (.pair (.sl (.sl I)) .unit)))) .i l0, .val I .i x1, .u, .u, .u, .val (.sl (.sl I)) (.o (.o .i)) list5, .u, .u, .u, .u, .u, .u, .u, .u, .u, .u, .u, .u, .u, .u, .u, .u, .u, .val (.sl I) (.o .i) t23, .val I .i t24, .val I .i t25] ++ List.replicate 21 .u) K
noncomputable def zz65_R8 (self_zz65 : (Y1 × (Int × Unit)) → Option Y2) (N n : Nat) (K : Ex → St → Option Y2) (l0 : Y1) (x1 : Int) (list5 : Y3) (t23 : Y4) (t24 : Int) (t25 : Int) (t31 : Y3) (t32 : Int) (t33 : Int) : Option Y2 := iter ((A_zz65 self_zz65).shape 16) (run (A_zz65 self_zz65) N (codeAt Try.f69 [1, 1, 1, 0, 1, 0, 0, 1, 1, 0, 0, 1, 1, 0, 0])) n ([.val (.opt (.pair (.sl (.sl .bool)) (.pair (.sl (.sl I)) (.pair (.sl (.sl I)) .unit)))) .i l0, .val I .i x1, .u, .u, .u, .val (.sl (.sl I)) (.o (.o .i)) list5, .u, .u, .u, .u, .u, .u, .u, .u, .u, .u, .u, .u, .u, .u, .u, .u, .u, .val (.sl I) (.o .i) t23, .val I .i t24, .val I .i t25, .u, .u, .u, .u, .u, .val (.sl (.sl I)) (.o (.o .i)) t31, .val I .i t32, .val I .i t33] ++ List.replicate 13 .u) K
noncomputable abbrev zz65_z (self_zz65 : (Y1 × (Int × Unit)) → Option Y2) : Ex → St → Option Y2 := finish (A_zz65 self_zz65) (T_zz65 self_zz65) Try.f69.results.toList
noncomputable abbrev zz65_X5 (kX : St → Option Y2) : Y3 → Option Y2 := fun (list5 : Y3) => kX ([.u, .u, .u, .u, .u, .val (.sl (.sl I)) (.o (.o .i)) list5] ++ List.replicate 41 .u)
noncomputable abbrev zz65_E5 (self_zz65 : (Y1 × (Int × Unit)) → Option Y2) (kX : St → Option Y2) (kO : Nat → St → Option Y2) : Ex → St → Option Y2 := exK (zz65_z self_zz65) 0 ((A_zz65 self_zz65).shape 27) kX kO
noncomputable abbrev zz65_X8 (kX : St → Option Y2) : Y1 → Int → Y3 → Y4 → Int → Int → Option Y2 := fun (l0 : Y1) (x1 : Int) (list5 : Y3) (t23 : Y4) (t24 : Int) (t25 : Int) => kX ([.val (.opt (.pair (.sl (.sl .bool)) (.pair (.sl (.sl I)) (.pair (.sl (.sl I)) .unit)))) .i l0, .val I .i x1, .u, .u, .u, .val (.sl (.sl I)) (.o (.o .i)) list5, .u, .u, .u, .u, .u, .u, .u, .u, .u, .u, .u, .u, .u, .u, .u, .u, .u, .val (.sl I) (.o .i) t23, .val I .i t24, .val I .i t25] ++ List.replicate 21 .u)
noncomputable abbrev zz65_E8 (self_zz65 : (Y1 × (Int × Unit)) → Option Y2) (kX : St → Option Y2) (kO : Nat → St → Option Y2) : Ex → St → Option Y2 := exK (zz65_z self_zz65) 2 ((A_zz65 self_zz65).shape 25) kX kO
theorem zz65_step8 (self_zz65 : (Y1 × (Int × Unit)) → Option Y2) (N : Nat) (m : Nat) (kX : St → Option Y2) (kO : Nat → St → Option Y2) (l0 : Y1) (x1 : Int) (list5 : Y3) (t23 : Y4) (t24 : Int) (t25 : Int) (t31 : Y3) (t32 : Int) (t33 : Int) : zz65_R8 self_zz65 N (m + 1) (zz65_E8 self_zz65 kX kO) l0 x1 list5 t23 t24 t25 t31 t32 t33 = zz65_b8 self_zz65 (zz65_R8 self_zz65 N m (zz65_E8 self_zz65 kX kO)) (zz65_X8 kX) l0 x1 list5 t23 t24 t25 t31 t32 t33 := by kernel_rfl
theorem zz65_iter8 (self_zz65 : (Y1 × (Int × Unit)) → Option Y2) (N : Nat) (kX : St → Option Y2) (kO : Nat → St → Option Y2) : ∀ (n : Nat) (l0 : Y1) (x1 : Int) (list5 : Y3) (t23 : Y4) (t24 : Int) (t25 : Int) (t31 : Y3) (t32 : Int) (t33 : Int), zz65_R8 self_zz65 N n (zz65_E8 self_zz65 kX kO) l0 x1 list5 t23 t24 t25 t31 t32 t33 = zz65_l8 self_zz65 N (zz65_X8 kX) n l0 x1 list5 t23 t24 t25 t31 t32 t33
  | 0, _, _, _, _, _, _, _, _, _ => rfl
  | m + 1, l0, x1, list5, t23, t24, t25, t31, t32, t33 => by
    have hrec : zz65_R8 self_zz65 N m (zz65_E8 self_zz65 kX kO) = (zz65_l8 self_zz65 N (zz65_X8 kX) m) := (funext fun l0 => (funext fun x1 => (funext fun list5 => (funext fun t23 => (funext fun t24 => (funext fun t25 => (funext fun t31 => (funext fun t32 => (funext fun t33 => zz65_iter8 self_zz65 N kX kO m l0 x1 list5 t23 t24 t25 t31 t32 t33)))))))))
    refine (zz65_step8 self_zz65 N m kX kO l0 x1 list5 t23 t24 t25 t31 t32 t33).trans ?_
    rw [hrec]
    rfl
noncomputable abbrev zz65_K8 (self_zz65 : (Y1 × (Int × Unit)) → Option Y2) (N : Nat) (m : Nat) (kX : St → Option Y2) (kO : Nat → St → Option Y2) : Ex → St → Option Y2 := (blockK 2 (blockK 1 (seqK ((A_zz65 self_zz65).shape 25) (run (A_zz65 self_zz65) N (codeAt Try.f69 [1, 1, 1, 0, 1, 0, 0, 1, 1, 1])) (iterK ((A_zz65 self_zz65).shape 10) (run (A_zz65 self_zz65) N (codeAt Try.f69 [1, 1, 1, 0, 1, 0, 0])) m (zz65_E5 self_zz65 kX kO)))))
noncomputable abbrev zz65_k8 (self_zz65 : (Y1 × (Int × Unit)) → Option Y2) (N : Nat) (m : Nat) (kX : St → Option Y2) (kO : Nat → St → Option Y2) : St → Option Y2 := fun st' => run (A_zz65 self_zz65) N (codeAt Try.f69 [1, 1, 1, 0, 1, 0, 0, 1, 1, 1]) st' (iterK ((A_zz65 self_zz65).shape 10) (run (A_zz65 self_zz65) N (codeAt Try.f69 [1, 1, 1, 0, 1, 0, 0])) m (zz65_E5 self_zz65 kX kO))
theorem zz65_after8 (self_zz65 : (Y1 × (Int × Unit)) → Option Y2) (N : Nat) (m : Nat) (kX : St → Option Y2) (kO : Nat → St → Option Y2) (l0 : Y1) (x1 : Int) (list5 : Y3) (t23 : Y4) (t24 : Int) (t25 : Int) : zz65_X8 (zz65_k8 self_zz65 N m kX kO) l0 x1 list5 t23 t24 t25 = zz65_a8 self_zz65 (zz65_R5 self_zz65 N m (zz65_E5 self_zz65 kX kO)) l0 x1 list5 t23 t24 t25 := by kernel_rfl
theorem zz65_in8 (self_zz65 : (Y1 × (Int × Unit)) → Option Y2) (N : Nat) (m : Nat) (kX : St → Option Y2) (kO : Nat → St → Option Y2) (recF : Y1 → Int → Y3 → Y4 → Int → Int → Option Y2) (hrec : zz65_R5 self_zz65 N m (zz65_E5 self_zz65 kX kO) = recF) (l0 : Y1) (x1 : Int) (list5 : Y3) (t23 : Y4) (t24 : Int) (t25 : Int) (t31 : Y3) (t32 : Int) (t33 : Int) : zz65_R8 self_zz65 N N (zz65_K8 self_zz65 N m kX kO) l0 x1 list5 t23 t24 t25 t31 t32 t33 = zz65_F8 self_zz65 N recF (zz65_X5 kX) l0 x1 list5 t23 t24 t25 t31 t32 t33 :=
  have h : zz65_X8 (zz65_k8 self_zz65 N m kX kO) = (zz65_a8 self_zz65 recF) := (funext fun l0 => (funext fun x1 => (funext fun list5 => (funext fun t23 => (funext fun t24 => (funext fun t25 => (zz65_after8 self_zz65 N m kX kO l0 x1 list5 t23 t24 t25).trans (by rw [hrec])))))))
  ((iter_ex (fun st => by kernel_rfl) (fun st => by kernel_rfl)).trans (zz65_iter8 self_zz65 N (zz65_k8 self_zz65 N m kX kO) (fun j st => (zz65_K8 self_zz65 N m kX kO) (.exit j) st) N l0 x1 list5 t23 t24 t25 t31 t32 t33)).trans (congrArg (fun k => zz65_l8 self_zz65 N k N l0 x1 list5 t23 t24 t25 t31 t32 t33) h)
theorem zz65_step5 (self_zz65 : (Y1 × (Int × Unit)) → Option Y2) (N : Nat) (m : Nat) (kX : St → Option Y2) (kO : Nat → St → Option Y2) (l0 : Y1) (x1 : Int) (list5 : Y3) (t23 : Y4) (t24 : Int) (t25 : Int) : zz65_R5 self_zz65 N (m + 1) (zz65_E5 self_zz65 kX kO) l0 x1 list5 t23 t24 t25 = zz65_b5 self_zz65 (zz65_R8 self_zz65 N N (zz65_K8 self_zz65 N m kX kO)) (zz65_X5 kX) l0 x1 list5 t23 t24 t25 := by kernel_rfl
theorem zz65_iter5 (self_zz65 : (Y1 × (Int × Unit)) → Option Y2) (N : Nat) (kX : St → Option Y2) (kO : Nat → St → Option Y2) : ∀ (n : Nat) (l0 : Y1) (x1 : Int) (list5 : Y3) (t23 : Y4) (t24 : Int) (t25 : Int), zz65_R5 self_zz65 N n (zz65_E5 self_zz65 kX kO) l0 x1 list5 t23 t24 t25 = zz65_l5 self_zz65 N (zz65_X5 kX) n l0 x1 list5 t23 t24 t25
  | 0, _, _, _, _, _, _ => rfl
  | m + 1, l0, x1, list5, t23, t24, t25 => by
    have hrec : zz65_R5 self_zz65 N m (zz65_E5 self_zz65 kX kO) = (zz65_l5 self_zz65 N (zz65_X5 kX) m) := (funext fun l0 => (funext fun x1 => (funext fun list5 => (funext fun t23 => (funext fun t24 => (funext fun t25 => zz65_iter5 self_zz65 N kX kO m l0 x1 list5 t23 t24 t25))))))
    refine (zz65_step5 self_zz65 N m kX kO l0 x1 list5 t23 t24 t25).trans ?_
    rw [(funext fun l0 => (funext fun x1 => (funext fun list5 => (funext fun t23 => (funext fun t24 => (funext fun t25 => (funext fun t31 => (funext fun t32 => (funext fun t33 => zz65_in8 self_zz65 N m kX kO (zz65_l5 self_zz65 N (zz65_X5 kX) m) hrec l0 x1 list5 t23 t24 t25 t31 t32 t33)))))))))]
    rfl
noncomputable abbrev zz65_K5 (self_zz65 : (Y1 × (Int × Unit)) → Option Y2) (N : Nat) : Ex → St → Option Y2 := (blockK 0 (seqK ((A_zz65 self_zz65).shape 27) (run (A_zz65 self_zz65) N (codeAt Try.f69 [1, 1, 1, 1])) (zz65_z self_zz65)))
noncomputable abbrev zz65_k5 (self_zz65 : (Y1 × (Int × Unit)) → Option Y2) (N : Nat) : St → Option Y2 := fun st' => run (A_zz65 self_zz65) N (codeAt Try.f69 [1, 1, 1, 1]) st' (zz65_z self_zz65)
theorem zz65_after5 (self_zz65 : (Y1 × (Int × Unit)) → Option Y2) (N : Nat) (list5 : Y3) : zz65_X5 (zz65_k5 self_zz65 N) list5 = zz65_a5 self_zz65 list5 := by kernel_rfl
theorem zz65_in5 (self_zz65 : (Y1 × (Int × Unit)) → Option Y2) (N : Nat) (l0 : Y1) (x1 : Int) (list5 : Y3) (t23 : Y4) (t24 : Int) (t25 : Int) : zz65_R5 self_zz65 N N (zz65_K5 self_zz65 N) l0 x1 list5 t23 t24 t25 = zz65_F5 self_zz65 N l0 x1 list5 t23 t24 t25 :=
  have h : zz65_X5 (zz65_k5 self_zz65 N) = (zz65_a5 self_zz65) := (funext fun list5 => zz65_after5 self_zz65 N list5)
  ((iter_ex (fun st => by kernel_rfl) (fun st => by kernel_rfl)).trans (zz65_iter5 self_zz65 N (zz65_k5 self_zz65 N) (fun j st => (zz65_K5 self_zz65 N) (.exit j) st) N l0 x1 list5 t23 t24 t25)).trans (congrArg (fun k => zz65_l5 self_zz65 N k N l0 x1 list5 t23 t24 t25) h)
theorem run0_zz65 (self_zz65 : (Y1 × (Int × Unit)) → Option Y2) (N : Nat) (x : ((T_zz65 self_zz65)).a.den) : runF (A_zz65 self_zz65) N Try.f69 (T_zz65 self_zz65) x = (zz65_s self_zz65 (zz65_R5 self_zz65 N N (zz65_K5 self_zz65 N)) x.1 x.2.1) := by kernel_rfl
theorem run_zz65 (self_zz65 : (Y1 × (Int × Unit)) → Option Y2) (N : Nat) (x : ((T_zz65 self_zz65)).a.den) : runF (A_zz65 self_zz65) N Try.f69 (T_zz65 self_zz65) x = zz65 self_zz65 N x.1 x.2.1 := by
  refine (run0_zz65 self_zz65 N x).trans ?_
  rw [(funext fun l0 => (funext fun x1 => (funext fun list5 => (funext fun t23 => (funext fun t24 => (funext fun t25 => zz65_in5 self_zz65 N l0 x1 list5 t23 t24 t25))))))]
  rfl
theorem fn_zz65 : FnOk Try.prog 69 := ⟨_, Try.func69, by kernel_rfl, by kernel_rfl⟩

/-! zz66 -/
def R_zz65 : Nat → (Y1 × (Int × Unit)) → Option Y2
  | 0, _ => none
  | d + 1, x => zz65 (R_zz65 d) big x.1 x.2.1
def S_zz65 : Sig := T_zz65 (R_zz65 big)
theorem goodR_impl_lattice_maximalChains : ∀ d, Gx.Good Try.prog 69 (T_zz65 (R_zz65 d))
  | 0 => fun x r h => by cases h
  | d + 1 => good_of_run Try.func69 (of_decide_eq_true (by kernel_rfl)) fun x r h => ⟨A_zz65 (R_zz65 d), big, mkCfg_ok tabOk, mkCfg_sigs (show SigsOk Try.prog [(122, S_zz34), (123, S_zz64), (69, T_zz65 (R_zz65 d))] from ⟨⟨fn_zz34, good_zz34⟩, ⟨fn_zz64, good_zz64⟩, ⟨fn_zz65, goodR_impl_lattice_maximalChains d⟩, trivial⟩), (run_zz65 (R_zz65 d) big x).trans h⟩
theorem good_zz65 : Gx.Good Try.prog 69 S_zz65 := goodR_impl_lattice_maximalChains big

/-! zz67 -/
def zz67_s (p_0 : Y2) : Option ((Y3 × (Bool × Unit)) × Unit) :=
  (zz32 p_0).bind fun rq1 =>
  cond (!rq1.1.2.1)
  (some (([], false, ()), (())))
  ((zz33 big rq1.1.1).bind fun rq2 =>
  (R_zz65 big (rq1.1.1, rq2.1, ())).bind fun rq3 =>
  some ((rq3.1, true, ()), (())))
def zz67 (p_0 : Y2) : Option ((Y3 × (Bool × Unit)) × Unit) := zz67_s p_0
def S_zz67 : Sig := { a := (.pair (.pair (.sl (.sl I)) .unit) .unit), md := [0], mf := [], m := .unit, r := (.tup (.pair (.sl (.sl I)) (.pair .bool .unit))), rf := (.p (.o (.o .i)) .i), f := fun x => zz67 x.1 }
def A_zz67 : Cfg := mkCfg tab [(68, S_zz32), (70, S_zz33), (69, S_zz65)] []
theorem run_zz67 (N : Nat) (x : (S_zz67).a.den) : runF (A_zz67) N Try.f25 S_zz67 x = zz67 x.1 := by kernel_rfl
theorem fn_zz67 : FnOk Try.prog 25 := ⟨_, Try.func25, by kernel_rfl, by kernel_rfl⟩
theorem good_zz67 : Gx.Good Try.prog 25 S_zz67 := good_of_run Try.func25 (of_decide_eq_true (by kernel_rfl)) fun x r h => ⟨A_zz67, big, mkCfg_ok tabOk, mkCfg_sigs (show SigsOk Try.prog [(68, S_zz32), (70, S_zz33), (69, S_zz65)] from ⟨⟨fn_zz32, good_zz32⟩, ⟨fn_zz33, good_zz33⟩, ⟨fn_zz65, good_zz65⟩, trivial⟩), (run_zz67 big x).trans h⟩

/-! zz68 -/
def zz68_b2 (rec : Y3 → Int → Int → Option (Int × Unit)) (k : Int → Option (Int × Unit)) (a0 : Y3) (k1 : Int) (i5 : Int) : Option (Int × Unit) :=
  cond (decide (i5 < (a0.length : Int)))
  ((atI a0 i5).bind fun xq1 =>
  (zz53 big xq1 k1).bind fun rq2 =>
  cond (decide (rq2.1 < (0 : Int)))
  (some ((-1 : Int), (())))
  (rec a0 rq2.1 (IntKind.i64.wrap (i5 + (1 : Int)))))
  (k k1)
def zz68_a2 (k1 : Int) : Option (Int × Unit) :=
  some (k1, (()))
def zz68_s (L2 : Y3 → Int → Int → Option (Int × Unit)) (a_0 : Y3) (k_1 : Int) : Option (Int × Unit) :=
  L2 a_0 k_1 (0 : Int)
def zz68_l2 (N : Nat) (k : Int → Option (Int × Unit)) : Nat → Y3 → Int → Int → Option (Int × Unit)
  | 0, _, _, _ => none
  | m + 1, a0, k1, i5 => zz68_b2 (zz68_l2 N k m) k a0 k1 i5
def zz68_F2 (N : Nat) (a0 : Y3) (k1 : Int) (i5 : Int) : Option (Int × Unit) := zz68_l2 N (zz68_a2) N a0 k1 i5
def zz68 (N : Nat) (a_0 : Y3) (k_1 : Int) : Option (Int × Unit) := zz68_s (zz68_F2 N) a_0 k_1
def S_zz68 : Sig := { a := (.pair (.sl (.sl I)) (.pair I .unit)), md := [0, 0], mf := [], m := .unit, r := I, rf := .i, f := fun x => zz68 big x.1 x.2.1 }
def A_zz68 : Cfg := mkCfg tab [(23, S_zz53)] [(4, [.as (.sl (.sl I)) .i, .as I .i, .drop, .drop, .drop, .as I .i]), (15, [.drop, .as I .i])]
noncomputable def zz68_R2 (N n : Nat) (K : Ex → St → Option (Int × Unit)) (a0 : Y3) (k1 : Int) (i5 : Int) : Option (Int × Unit) := iter ((A_zz68).shape 4) (run (A_zz68) N (codeAt Try.f28 [1, 0, 1, 0, 0])) n ([.val (.sl (.sl I)) .i a0, .val I .i k1, .u, .u, .u, .val I .i i5] ++ List.replicate 15 .u) K
noncomputable abbrev zz68_z : Ex → St → Option (Int × Unit) := finish (A_zz68) S_zz68 Try.f28.results.toList
noncomputable abbrev zz68_X2 (kX : St → Option (Int × Unit)) : Int → Option (Int × Unit) := fun (k1 : Int) => kX ([.u, .val I .i k1] ++ List.replicate 19 .u)
noncomputable abbrev zz68_E2 (kX : St → Option (Int × Unit)) (kO : Nat → St → Option (Int × Unit)) : Ex → St → Option (Int × Unit) := exK zz68_z 0 ((A_zz68).shape 15) kX kO
theorem zz68_step2 (N : Nat) (m : Nat) (kX : St → Option (Int × Unit)) (kO : Nat → St → Option (Int × Unit)) (a0 : Y3) (k1 : Int) (i5 : Int) : zz68_R2 N (m + 1) (zz68_E2 kX kO) a0 k1 i5 = zz68_b2 (zz68_R2 N m (zz68_E2 kX kO)) (zz68_X2 kX) a0 k1 i5 := by kernel_rfl
theorem zz68_iter2 (N : Nat) (kX : St → Option (Int × Unit)) (kO : Nat → St → Option (Int × Unit)) : ∀ (n : Nat) (a0 : Y3) (k1 : Int) (i5 : Int), zz68_R2 N n (zz68_E2 kX kO) a0 k1 i5 = zz68_l2 N (zz68_X2 kX) n a0 k1 i5
  | 0, _, _, _ => rfl
  | m + 1, a0, k1, i5 => by
    have hrec : zz68_R2 N m (zz68_E2 kX kO) = (zz68_l2 N (zz68_X2 kX) m) := (funext fun a0 => (funext fun k1 => (funext fun i5 => zz68_iter2 N kX kO m a0 k1 i5)))
    refine (zz68_step2 N m kX kO a0 k1 i5).trans ?_
    rw [hrec]
    rfl
noncomputable abbrev zz68_K2 (N : Nat) : Ex → St → Option (Int × Unit) := (blockK 0 (seqK ((A_zz68).shape 15) (run (A_zz68) N (codeAt Try.f28 [1, 1])) zz68_z))
noncomputable abbrev zz68_k2 (N : Nat) : St → Option (Int × Unit) := fun st' => run (A_zz68) N (codeAt Try.f28 [1, 1]) st' zz68_z
theorem zz68_after2 (N : Nat) (k1 : Int) : zz68_X2 (zz68_k2 N) k1 = zz68_a2 k1 := by kernel_rfl
theorem zz68_in2 (N : Nat) (a0 : Y3) (k1 : Int) (i5 : Int) : zz68_R2 N N (zz68_K2 N) a0 k1 i5 = zz68_F2 N a0 k1 i5 :=
  have h : zz68_X2 (zz68_k2 N) = (zz68_a2) := (funext fun k1 => zz68_after2 N k1)
  ((iter_ex (fun st => by kernel_rfl) (fun st => by kernel_rfl)).trans (zz68_iter2 N (zz68_k2 N) (fun j st => (zz68_K2 N) (.exit j) st) N a0 k1 i5)).trans (congrArg (fun k => zz68_l2 N k N a0 k1 i5) h)
theorem run0_zz68 (N : Nat) (x : (S_zz68).a.den) : runF (A_zz68) N Try.f28 S_zz68 x = (zz68_s (zz68_R2 N N (zz68_K2 N)) x.1 x.2.1) := by kernel_rfl
theorem run_zz68 (N : Nat) (x : (S_zz68).a.den) : runF (A_zz68) N Try.f28 S_zz68 x = zz68 N x.1 x.2.1 := by
  refine (run0_zz68 N x).trans ?_
  rw [(funext fun a0 => (funext fun k1 => (funext fun i5 => zz68_in2 N a0 k1 i5)))]
  rfl
theorem fn_zz68 : FnOk Try.prog 28 := ⟨_, Try.func28, by kernel_rfl, by kernel_rfl⟩
theorem good_zz68 : Gx.Good Try.prog 28 S_zz68 := good_of_run Try.func28 (of_decide_eq_true (by kernel_rfl)) fun x r h => ⟨A_zz68, big, mkCfg_ok tabOk, mkCfg_sigs (show SigsOk Try.prog [(23, S_zz53)] from ⟨⟨fn_zz53, good_zz53⟩, trivial⟩), (run_zz68 big x).trans h⟩

/-! laws_FnExactMaximalChains -/
def laws_FnExactMaximalChains_s (aP_0 : Y2) : Option (Bool × Unit) :=
  (zz2 aP_0 (1048576 : Int)).bind fun rq1 =>
  cond (decide (rq1.1 < (0 : Int)))
  (some (true, (())))
  ((zz5 aP_0).bind fun rq2 =>
  (zz59 rq2.1).bind fun rq3 =>
  (zz5 aP_0).bind fun rq4 =>
  (zz67 rq4.1).bind fun rq5 =>
  (zz48 big rq5.1.1 rq3.1.1).bind fun rq6 =>
  cond (!rq6.1)
  (some (false, (())))
  (cond (((((), rq5.1.2).2).1) != ((((), rq3.1.2).2).1))
  (some (false, (())))
  ((zz5 aP_0).bind fun rq7 =>
  (zz49 rq4.1 rq7.1).bind fun rq8 =>
  cond (!rq8.1)
  (some (false, (())))
  ((zz52 rq4.1 (1 : Int)).bind fun rq9 =>
  cond (decide (rq9.1 < (0 : Int)))
  (some (false, (())))
  ((zz48 big rq5.1.1 rq3.1.1).bind fun rq10 =>
  cond (!rq10.1)
  (some (false, (())))
  (cond (((((), rq5.1.2).2).1) != ((((), rq3.1.2).2).1))
  (some (false, (())))
  ((zz51 big rq5.1.1 (1 : Int)).bind fun rq11 =>
  (zz68 big rq11.2.1 (1 : Int)).bind fun rq12 =>
  cond (decide (rq12.1 < (0 : Int)))
  (some (false, (())))
  (cond (decide (rq12.1 ≠ rq11.1))
  (some (false, (())))
  ((zz5 aP_0).bind fun rq13 =>
  (zz67 rq13.1).bind fun rq14 =>
  (zz48 big rq14.1.1 rq3.1.1).bind fun rq15 =>
  cond (!rq15.1)
  (some (false, (())))
  (cond (((((), rq14.1.2).2).1) != ((((), rq3.1.2).2).1))
  (some (false, (())))
  ((zz68 big rq11.2.1 (1 : Int)).bind fun rq16 =>
  cond (decide (rq16.1 < (0 : Int)))
  (some (false, (())))
  (cond (decide (rq16.1 ≠ rq11.1))
  (some (false, (())))
  (some (true, (())))))))))))))))
def laws_FnExactMaximalChains (aP_0 : Y2) : Option (Bool × Unit) := laws_FnExactMaximalChains_s aP_0
def S_laws_FnExactMaximalChains : Sig := { a := (.pair (.pair (.sl (.sl I)) .unit) .unit), md := [0], mf := [], m := .unit, r := .bool, rf := .i, f := fun x => laws_FnExactMaximalChains x.1 }
def A_laws_FnExactMaximalChains : Cfg := mkCfg tab [(15, S_zz2), (17, S_zz5), (24, S_zz59), (25, S_zz67), (26, S_zz48), (20, S_zz49), (21, S_zz52), (27, S_zz51), (28, S_zz68)] []
theorem run_laws_FnExactMaximalChains (N : Nat) (x : (S_laws_FnExactMaximalChains).a.den) : runF (A_laws_FnExactMaximalChains) N Try.f4 S_laws_FnExactMaximalChains x = laws_FnExactMaximalChains x.1 := by kernel_rfl
theorem fn_laws_FnExactMaximalChains : FnOk Try.prog 4 := ⟨_, Try.func4, by kernel_rfl, by kernel_rfl⟩
theorem good_laws_FnExactMaximalChains : Gx.Good Try.prog 4 S_laws_FnExactMaximalChains := good_of_run Try.func4 (of_decide_eq_true (by kernel_rfl)) fun x r h => ⟨A_laws_FnExactMaximalChains, big, mkCfg_ok tabOk, mkCfg_sigs (show SigsOk Try.prog [(15, S_zz2), (17, S_zz5), (24, S_zz59), (25, S_zz67), (26, S_zz48), (20, S_zz49), (21, S_zz52), (27, S_zz51), (28, S_zz68)] from ⟨⟨fn_zz2, good_zz2⟩, ⟨fn_zz5, good_zz5⟩, ⟨fn_zz59, good_zz59⟩, ⟨fn_zz67, good_zz67⟩, ⟨fn_zz48, good_zz48⟩, ⟨fn_zz49, good_zz49⟩, ⟨fn_zz52, good_zz52⟩, ⟨fn_zz51, good_zz51⟩, ⟨fn_zz68, good_zz68⟩, trivial⟩), (run_laws_FnExactMaximalChains big x).trans h⟩

/-! zz69 -/
def zz69_s (p_0 : Y2) : Option (Bool × Unit) :=
  cond (decide ((p_0.1.length : Int) ≤ (8 : Int)))
  ((zz14 big p_0).bind fun rq1 =>
  some (rq1.1, (())))
  (some (false, (())))
def zz69 (p_0 : Y2) : Option (Bool × Unit) := zz69_s p_0
def S_zz69 : Sig := { a := (.pair (.pair (.sl (.sl I)) .unit) .unit), md := [0], mf := [], m := .unit, r := .bool, rf := .i, f := fun x => zz69 x.1 }
def A_zz69 : Cfg := mkCfg tab [(57, S_zz14)] []
theorem run_zz69 (N : Nat) (x : (S_zz69).a.den) : runF (A_zz69) N Try.f71 S_zz69 x = zz69 x.1 := by kernel_rfl
theorem fn_zz69 : FnOk Try.prog 71 := ⟨_, Try.func71, by kernel_rfl, by kernel_rfl⟩
theorem good_zz69 : Gx.Good Try.prog 71 S_zz69 := good_of_run Try.func71 (of_decide_eq_true (by kernel_rfl)) fun x r h => ⟨A_zz69, big, mkCfg_ok tabOk, mkCfg_sigs (show SigsOk Try.prog [(57, S_zz14)] from ⟨⟨fn_zz14, good_zz14⟩, trivial⟩), (run_zz69 big x).trans h⟩

/-! zz70 -/
def zz70_b6 (rec : Y2 → (List (Int × (Int × Unit))) → Int → Int → Option ((List (Int × (Int × Unit))) × Unit)) (k : Y2 → (List (Int × (Int × Unit))) → Int → Option ((List (Int × (Int × Unit))) × Unit)) (p1 : Y2) (out3 : (List (Int × (Int × Unit)))) (x4 : Int) (y5 : Int) : Option ((List (Int × (Int × Unit))) × Unit) :=
  cond (decide (y5 < (p1.1.length : Int)))
  ((zz56 big p1 x4 y5).bind fun rq1 =>
  cond rq1.1
  ((appI out3 [(x4, (y5, ()))]).bind fun xq2 =>
  rec p1 xq2 x4 (IntKind.i64.wrap (y5 + (1 : Int))))
  (rec p1 out3 x4 (IntKind.i64.wrap (y5 + (1 : Int)))))
  (k p1 out3 x4)
def zz70_a6 (rec : Y2 → (List (Int × (Int × Unit))) → Int → Option ((List (Int × (Int × Unit))) × Unit)) (p1 : Y2) (out3 : (List (Int × (Int × Unit)))) (x4 : Int) : Option ((List (Int × (Int × Unit))) × Unit) :=
  rec p1 out3 (IntKind.i64.wrap (x4 + (1 : Int)))
def zz70_b3 (L6 : Y2 → (List (Int × (Int × Unit))) → Int → Int → Option ((List (Int × (Int × Unit))) × Unit)) (k : (List (Int × (Int × Unit))) → Option ((List (Int × (Int × Unit))) × Unit)) (p1 : Y2) (out3 : (List (Int × (Int × Unit)))) (x4 : Int) : Option ((List (Int × (Int × Unit))) × Unit) :=
  cond (decide (x4 < (p1.1.length : Int)))
  (L6 p1 out3 x4 (0 : Int))
  (k out3)
def zz70_a3 (out3 : (List (Int × (Int × Unit)))) : Option ((List (Int × (Int × Unit))) × Unit) :=
  some (out3, (()))
def zz70_s (L3 : Y2 → (List (Int × (Int × Unit))) → Int → Option ((List (Int × (Int × Unit))) × Unit)) (p_0 : Y2) : Option ((List (Int × (Int × Unit))) × Unit) :=
  L3 p_0 [] (0 : Int)
def zz70_l6 (N : Nat) (k : Y2 → (List (Int × (Int × Unit))) → Int → Option ((List (Int × (Int × Unit))) × Unit)) : Nat → Y2 → (List (Int × (Int × Unit))) → Int → Int → Option ((List (Int × (Int × Unit))) × Unit)
  | 0, _, _, _, _ => none
  | m + 1, p1, out3, x4, y5 => zz70_b6 (zz70_l6 N k m) k p1 out3 x4 y5
def zz70_F6 (N : Nat) (rec : Y2 → (List (Int × (Int × Unit))) → Int → Option ((List (Int × (Int × Unit))) × Unit)) (k : (List (Int × (Int × Unit))) → Option ((List (Int × (Int × Unit))) × Unit)) (p1 : Y2) (out3 : (List (Int × (Int × Unit)))) (x4 : Int) (y5 : Int) : Option ((List (Int × (Int × Unit))) × Unit) := zz70_l6 N (zz70_a6 rec) N p1 out3 x4 y5
def zz70_l3 (N : Nat) (k : (List (Int × (Int × Unit))) → Option ((List (Int × (Int × Unit))) × Unit)) : Nat → Y2 → (List (Int × (Int × Unit))) → Int → Option ((List (Int × (Int × Unit))) × Unit)
  | 0, _, _, _ => none
  | m + 1, p1, out3, x4 => zz70_b3 (zz70_F6 N (zz70_l3 N k m) k) k p1 out3 x4
def zz70_F3 (N : Nat) (p1 : Y2) (out3 : (List (Int × (Int × Unit)))) (x4 : Int) : Option ((List (Int × (Int × Unit))) × Unit) := zz70_l3 N (zz70_a3) N p1 out3 x4
def zz70 (N : Nat) (p_0 : Y2) : Option ((List (Int × (Int × Unit))) × Unit) := zz70_s (zz70_F3 N) p_0
def S_zz70 : Sig := { a := (.pair (.pair (.sl (.sl I)) .unit) .unit), md := [0], mf := [], m := .unit, r := (.sl (.pair I (.pair I .unit))), rf := (.o .i), f := fun x => zz70 big x.1 }
def A_zz70 : Cfg := mkCfg tab [(118, S_zz56)] [(6, [.drop, .as (.ptr (.pair (.sl (.sl I)) .unit)) (.o .i), .drop, .as (.sl (.pair I (.pair I .unit))) (.o .i), .as I .i]), (12, [.drop, .as (.ptr (.pair (.sl (.sl I)) .unit)) (.o .i), .drop, .as (.sl (.pair I (.pair I .unit))) (.o .i), .as I .i, .as I .i]), (21, [.drop, .drop, .drop, .as (.sl (.pair I (.pair I .unit))) (.o .i)]), (9, [.drop, .as (.ptr (.pair (.sl (.sl I)) .unit)) (.o .i), .drop, .as (.sl (.pair I (.pair I .unit))) (.o .i), .as I .i])]
noncomputable def zz70_R3 (N n : Nat) (K : Ex → St → Option ((List (Int × (Int × Unit))) × Unit)) (p1 : Y2) (out3 : (List (Int × (Int × Unit)))) (x4 : Int) : Option ((List (Int × (Int × Unit))) × Unit) := iter ((A_zz70).shape 6) (run (A_zz70) N (codeAt Try.f72 [1, 1, 0, 1, 0, 0])) n ([.u, .val (.ptr (.pair (.sl (.sl I)) .unit)) (.o .i) p1, .u, .val (.sl (.pair I (.pair I .unit))) (.o .i) out3, .val I .i x4] ++ List.replicate 27 .u) K
noncomputable def zz70_R6 (N n : Nat) (K : Ex → St → Option ((List (Int × (Int × Unit))) × Unit)) (p1 : Y2) (out3 : (List (Int × (Int × Unit)))) (x4 : Int) (y5 : Int) : Option ((List (Int × (Int × Unit))) × Unit) := iter ((A_zz70).shape 12) (run (A_zz70) N (codeAt Try.f72 [1, 1, 0, 1, 0, 0, 1, 0, 0, 1, 0, 0])) n ([.u, .val (.ptr (.pair (.sl (.sl I)) .unit)) (.o .i) p1, .u, .val (.sl (.pair I (.pair I .unit))) (.o .i) out3, .val I .i x4, .val I .i y5] ++ List.replicate 26 .u) K
noncomputable abbrev zz70_z : Ex → St → Option ((List (Int × (Int × Unit))) × Unit) := finish (A_zz70) S_zz70 Try.f72.results.toList
noncomputable abbrev zz70_X3 (kX : St → Option ((List (Int × (Int × Unit))) × Unit)) : (List (Int × (Int × Unit))) → Option ((List (Int × (Int × Unit))) × Unit) := fun (out3 : (List (Int × (Int × Unit)))) => kX ([.u, .u, .u, .val (.sl (.pair I (.pair I .unit))) (.o .i) out3] ++ List.replicate 28 .u)
noncomputable abbrev zz70_E3 (kX : St → Option ((List (Int × (Int × Unit))) × Unit)) (kO : Nat → St → Option ((List (Int × (Int × Unit))) × Unit)) : Ex → St → Option ((List (Int × (Int × Unit))) × Unit) := exK zz70_z 0 ((A_zz70).shape 21) kX kO
noncomputable abbrev zz70_X6 (kX : St → Option ((List (Int × (Int × Unit))) × Unit)) : Y2 → (List (Int × (Int × Unit))) → Int → Option ((List (Int × (Int × Unit))) × Unit) := fun (p1 : Y2) (out3 : (List (Int × (Int × Unit)))) (x4 : Int) => kX ([.u, .val (.ptr (.pair (.sl (.sl I)) .unit)) (.o .i) p1, .u, .val (.sl (.pair I (.pair I .unit))) (.o .i) out3, .val I .i x4] ++ List.replicate 27 .u)
noncomputable abbrev zz70_E6 (kX : St → Option ((List (Int × (Int × Unit))) × Unit)) (kO : Nat → St → Option ((List (Int × (Int × Unit))) × Unit)) : Ex → St → Option ((List (Int × (Int × Unit))) × Unit) := exK zz70_z 2 ((A_zz70).shape 9) kX kO
theorem zz70_step6 (N : Nat) (m : Nat) (kX : St → Option ((List (Int × (Int × Unit))) × Unit)) (kO : Nat → St → Option ((List (Int × (Int × Unit))) × Unit)) (p1 : Y2) (out3 : (List (Int × (Int × Unit)))) (x4 : Int) (y5 : Int) : zz70_R6 N (m + 1) (zz70_E6 kX kO) p1 out3 x4 y5 = zz70_b6 (zz70_R6 N m (zz70_E6 kX kO)) (zz70_X6 kX) p1 out3 x4 y5 := by kernel_rfl
theorem zz70_iter6 (N : Nat) (kX : St → Option ((List (Int × (Int × Unit))) × Unit)) (kO : Nat → St → Option ((List (Int × (Int × Unit))) × Unit)) : ∀ (n : Nat) (p1 : Y2) (out3 : (List (Int × (Int × Unit)))) (x4 : Int) (y5 : Int), zz70_R6 N n (zz70_E6 kX kO) p1 out3 x4 y5 = zz70_l6 N (zz70_X6 kX) n p1 out3 x4 y5
  | 0, _, _, _, _ => rfl
  | m + 1, p1, out3, x4, y5 => by
    have hrec : zz70_R6 N m (zz70_E6 kX kO) = (zz70_l6 N (zz70_X6 kX) m) := (funext fun p1 => (funext fun out3 => (funext fun x4 => (funext fun y5 => zz70_iter6 N kX kO m p1 out3 x4 y5))))
    refine (zz70_step6 N m kX kO p1 out3 x4 y5).trans ?_
    rw [hrec]
    rfl
noncomputable abbrev zz70_K6 (N : Nat) (m : Nat) (kX : St → Option ((List (Int × (Int × Unit))) × Unit)) (kO : Nat → St → Option ((List (Int × (Int × Unit))) × Unit)) : Ex → St → Option ((List (Int × (Int × Unit))) × Unit) := (blockK 2 (blockK 1 (seqK ((A_zz70).shape 9) (run (A_zz70) N (codeAt Try.f72 [1, 1, 0, 1, 0, 0, 1, 1])) (iterK ((A_zz70).shape 6) (run (A_zz70) N (codeAt Try.f72 [1, 1, 0, 1, 0, 0])) m (zz70_E3 kX kO)))))
noncomputable abbrev zz70_k6 (N : Nat) (m : Nat) (kX : St → Option ((List (Int × (Int × Unit))) × Unit)) (kO : Nat → St → Option ((List (Int × (Int × Unit))) × Unit)) : St → Option ((List (Int × (Int × Unit))) × Unit) := fun st' => run (A_zz70) N (codeAt Try.f72 [1, 1, 0, 1, 0, 0, 1, 1]) st' (iterK ((A_zz70).shape 6) (run (A_zz70) N (codeAt Try.f72 [1, 1, 0, 1, 0, 0])) m (zz70_E3 kX kO))
theorem zz70_after6 (N : Nat) (m : Nat) (kX : St → Option ((List (Int × (Int × Unit))) × Unit)) (kO : Nat → St → Option ((List (Int × (Int × Unit))) × Unit)) (p1 : Y2) (out3 : (List (Int × (Int × Unit)))) (x4 : Int) : zz70_X6 (zz70_k6 N m kX kO) p1 out3 x4 = zz70_a6 (zz70_R3 N m (zz70_E3 kX kO)) p1 out3 x4 := by kernel_rfl
theorem zz70_in6 (N : Nat) (m : Nat) (kX : St → Option ((List (Int × (Int × Unit))) × Unit)) (kO : Nat → St → Option ((List (Int × (Int × Unit))) × Unit)) (recF : Y2 → (List (Int × (Int × Unit))) → Int → Option ((List (Int × (Int × Unit))) × Unit)) (hrec : zz70_R3 N m (zz70_E3 kX kO) = recF) (p1 : Y2) (out3 : (List (Int × (Int × Unit)))) (x4 : Int) (y5 : Int) : zz70_R6 N N (zz70_K6 N m kX kO) p1 out3 x4 y5 = zz70_F6 N recF (zz70_X3 kX) p1 out3 x4 y5 :=
  have h : zz70_X6 (zz70_k6 N m kX kO) = (zz70_a6 recF) := (funext fun p1 => (funext fun out3 => (funext fun x4 => (zz70_after6 N m kX kO p1 out3 x4).trans (by rw [hrec]))))
  ((iter_ex (fun st => by kernel_rfl) (fun st => by kernel_rfl)).trans (zz70_iter6 N (zz70_k6 N m kX kO) (fun j st => (zz70_K6 N m kX kO) (.exit j) st) N p1 out3 x4 y5)).trans (congrArg (fun k => zz70_l6 N k N p1 out3 x4 y5) h)
theorem zz70_step3 (N : Nat) (m : Nat) (kX : St → Option ((List (Int × (Int × Unit))) × Unit)) (kO : Nat → St → Option ((List (Int × (Int × Unit))) × Unit)) (p1 : Y2) (out3 : (List (Int × (Int × Unit)))) (x4 : Int) : zz70_R3 N (m + 1) (zz70_E3 kX kO) p1 out3 x4 = zz70_b3 (zz70_R6 N N (zz70_K6 N m kX kO)) (zz70_X3 kX) p1 out3 x4 := by kernel_rfl
theorem zz70_iter3 (N : Nat) (kX : St → Option ((List (Int × (Int × Unit))) × Unit)) (kO : Nat → St → Option ((List (Int × (Int × Unit))) × Unit)) : ∀ (n : Nat) (p1 : Y2) (out3 : (List (Int × (Int × Unit)))) (x4 : Int), zz70_R3 N n (zz70_E3 kX kO) p1 out3 x4 = zz70_l3 N (zz70_X3 kX) n p1 out3 x4
  | 0, _, _, _ => rfl
  | m + 1, p1, out3, x4 => by
    have hrec : zz70_R3 N m (zz70_E3 kX kO) = (zz70_l3 N (zz70_X3 kX) m) := (funext fun p1 => (funext fun out3 => (funext fun x4 => zz70_iter3 N kX kO m p1 out3 x4)))
    refine (zz70_step3 N m kX kO p1 out3 x4).trans ?_
    rw [(funext fun p1 => (funext fun out3 => (funext fun x4 => (funext fun y5 => zz70_in6 N m kX kO (zz70_l3 N (zz70_X3 kX) m) hrec p1 out3 x4 y5))))]
    rfl
noncomputable abbrev zz70_K3 (N : Nat) : Ex → St → Option ((List (Int × (Int × Unit))) × Unit) := (blockK 0 (seqK ((A_zz70).shape 21) (run (A_zz70) N (codeAt Try.f72 [1, 1, 1])) zz70_z))
noncomputable abbrev zz70_k3 (N : Nat) : St → Option ((List (Int × (Int × Unit))) × Unit) := fun st' => run (A_zz70) N (codeAt Try.f72 [1, 1, 1]) st' zz70_z
theorem zz70_after3 (N : Nat) (out3 : (List (Int × (Int × Unit)))) : zz70_X3 (zz70_k3 N) out3 = zz70_a3 out3 := by kernel_rfl
theorem zz70_in3 (N : Nat) (p1 : Y2) (out3 : (List (Int × (Int × Unit)))) (x4 : Int) : zz70_R3 N N (zz70_K3 N) p1 out3 x4 = zz70_F3 N p1 out3 x4 :=
  have h : zz70_X3 (zz70_k3 N) = (zz70_a3) := (funext fun out3 => zz70_after3 N out3)
  ((iter_ex (fun st => by kernel_rfl) (fun st => by kernel_rfl)).trans (zz70_iter3 N (zz70_k3 N) (fun j st => (zz70_K3 N) (.exit j) st) N p1 out3 x4)).trans (congrArg (fun k => zz70_l3 N k N p1 out3 x4) h)
theorem run0_zz70 (N : Nat) (x : (S_zz70).a.den) : runF (A_zz70) N Try.f72 S_zz70 x = (zz70_s (zz70_R3 N N (zz70_K3 N)) x.1) := by kernel_rfl
theorem run_zz70 (N : Nat) (x : (S_zz70).a.den) : runF (A_zz70) N Try.f72 S_zz70 x = zz70 N x.1 := by
  refine (run0_zz70 N x).trans ?_
  rw [(funext fun p1 => (funext fun out3 => (funext fun x4 => zz70_in3 N p1 out3 x4)))]
  rfl
theorem fn_zz70 : FnOk Try.prog 72 := ⟨_, Try.func72, by kernel_rfl, by kernel_rfl⟩
theorem good_zz70 : Gx.Good Try.prog 72 S_zz70 := good_of_run Try.func72 (of_decide_eq_true (by kernel_rfl)) fun x r h => ⟨A_zz70, big, mkCfg_ok tabOk, mkCfg_sigs (show SigsOk Try.prog [(118, S_zz56)] from ⟨⟨fn_zz56, good_zz56⟩, trivial⟩), (run_zz70 big x).trans h⟩

/-! zz71 -/
def zz71_s (p_0 : Y2) : Option (((List (Int × (Int × Unit))) × (Bool × Unit)) × Unit) :=
  (zz69 p_0).bind fun rq1 =>
  cond (!rq1.1)
  (some (([], false, ()), (())))
  ((zz70 big p_0).bind fun rq2 =>
  some ((rq2.1, true, ()), (())))
def zz71 (p_0 : Y2) : Option (((List (Int × (Int × Unit))) × (Bool × Unit)) × Unit) := zz71_s p_0
def S_zz71 : Sig := { a := (.pair (.pair (.sl (.sl I)) .unit) .unit), md := [0], mf := [], m := .unit, r := (.tup (.pair (.sl (.pair I (.pair I .unit))) (.pair .bool .unit))), rf := (.p (.o .i) .i), f := fun x => zz71 x.1 }
def A_zz71 : Cfg := mkCfg tab [(71, S_zz69), (72, S_zz70)] []
theorem run_zz71 (N : Nat) (x : (S_zz71).a.den) : runF (A_zz71) N Try.f29 S_zz71 x = zz71 x.1 := by kernel_rfl
theorem fn_zz71 : FnOk Try.prog 29 := ⟨_, Try.func29, by kernel_rfl, by kernel_rfl⟩
theorem good_zz71 : Gx.Good Try.prog 29 S_zz71 := good_of_run Try.func29 (of_decide_eq_true (by kernel_rfl)) fun x r h => ⟨A_zz71, big, mkCfg_ok tabOk, mkCfg_sigs (show SigsOk Try.prog [(71, S_zz69), (72, S_zz70)] from ⟨⟨fn_zz69, good_zz69⟩, ⟨fn_zz70, good_zz70⟩, trivial⟩), (run_zz71 big x).trans h⟩

/-! zz72 -/
def zz72_s (p_0 : Y2) : Option ((Y1 × (Bool × Unit)) × Unit) :=
  (zz32 p_0).bind fun rq1 =>
  cond rq1.1.2.1
  ((rq1.1.1).bind fun xq2 =>
  some ((rq1.1.1, decide ((xq2.1.length : Int) ≤ (8 : Int)), ()), (())))
  (some ((rq1.1.1, false, ()), (())))
def zz72 (p_0 : Y2) : Option ((Y1 × (Bool × Unit)) × Unit) := zz72_s p_0
def S_zz72 : Sig := { a := (.pair (.pair (.sl (.sl I)) .unit) .unit), md := [0], mf := [], m := .unit, r := (.tup (.pair (.opt (.pair (.sl (.sl .bool)) (.pair (.sl (.sl I)) (.pair (.sl (.sl I)) .unit)))) (.pair .bool .unit))), rf := .i, f := fun x => zz72 x.1 }
def A_zz72 : Cfg := mkCfg tab [(68, S_zz32)] []
theorem run_zz72 (N : Nat) (x : (S_zz72).a.den) : runF (A_zz72) N Try.f73 S_zz72 x = zz72 x.1 := by kernel_rfl
theorem fn_zz72 : FnOk Try.prog 73 := ⟨_, Try.func73, by kernel_rfl, by kernel_rfl⟩
theorem good_zz72 : Gx.Good Try.prog 73 S_zz72 := good_of_run Try.func73 (of_decide_eq_true (by kernel_rfl)) fun x r h => ⟨A_zz72, big, mkCfg_ok tabOk, mkCfg_sigs (show SigsOk Try.prog [(68, S_zz32)] from ⟨⟨fn_zz32, good_zz32⟩, trivial⟩), (run_zz72 big x).trans h⟩

/-! zz73 -/
def zz73_b6 (rec : Y5 → (List (Int × (Int × Unit))) → Int → Int → Int → Int → Int → Option ((List (Int × (Int × Unit))) × Unit)) (k : Y5 → (List (Int × (Int × Unit))) → Int → Int → Option ((List (Int × (Int × Unit))) × Unit)) (o0 : Y5) (list3 : (List (Int × (Int × Unit)))) (x4 : Int) (t8 : Int) (t9 : Int) (t13 : Int) (t14 : Int) : Option ((List (Int × (Int × Unit))) × Unit) :=
  cond (decide (t14 < t13))
  ((zz61 big o0 x4 t14).bind fun rq1 =>
  cond rq1.1
  ((appI list3 [(x4, (t14, ()))]).bind fun xq2 =>
  rec o0 xq2 x4 t8 t9 t13 (IntKind.i64.wrap (t14 + (1 : Int))))
  (rec o0 list3 x4 t8 t9 t13 (IntKind.i64.wrap (t14 + (1 : Int)))))
  (k o0 list3 t8 t9)
def zz73_a6 (rec : Y5 → (List (Int × (Int × Unit))) → Int → Int → Option ((List (Int × (Int × Unit))) × Unit)) (o0 : Y5) (list3 : (List (Int × (Int × Unit)))) (t8 : Int) (t9 : Int) : Option ((List (Int × (Int × Unit))) × Unit) :=
  rec o0 list3 t8 (IntKind.i64.wrap (t9 + (1 : Int)))
def zz73_b3 (L6 : Y5 → (List (Int × (Int × Unit))) → Int → Int → Int → Int → Int → Option ((List (Int × (Int × Unit))) × Unit)) (k : (List (Int × (Int × Unit))) → Option ((List (Int × (Int × Unit))) × Unit)) (o0 : Y5) (list3 : (List (Int × (Int × Unit)))) (t8 : Int) (t9 : Int) : Option ((List (Int × (Int × Unit))) × Unit) :=
  cond (decide (t9 < t8))
  (L6 o0 list3 t9 t8 t9 (o0.length : Int) (0 : Int))
  (k list3)
def zz73_a3 (list3 : (List (Int × (Int × Unit)))) : Option ((List (Int × (Int × Unit))) × Unit) :=
  some (list3, (()))
def zz73_s (L3 : Y5 → (List (Int × (Int × Unit))) → Int → Int → Option ((List (Int × (Int × Unit))) × Unit)) (o_0 : Y5) : Option ((List (Int × (Int × Unit))) × Unit) :=
  L3 o_0 [] (o_0.length : Int) (0 : Int)
def zz73_l6 (N : Nat) (k : Y5 → (List (Int × (Int × Unit))) → Int → Int → Option ((List (Int × (Int × Unit))) × Unit)) : Nat → Y5 → (List (Int × (Int × Unit))) → Int → Int → Int → Int → Int → Option ((List (Int × (Int × Unit))) × Unit)
  | 0, _, _, _, _, _, _, _ => none
  | m + 1, o0, list3, x4, t8, t9, t13, t14 => zz73_b6 (zz73_l6 N k m) k o0 list3 x4 t8 t9 t13 t14
def zz73_F6 (N : Nat) (rec : Y5 → (List (Int × (Int × Unit))) → Int → Int → Option ((List (Int × (Int × Unit))) × Unit)) (k : (List (Int × (Int × Unit))) → Option ((List (Int × (Int × Unit))) × Unit)) (o0 : Y5) (list3 : (List (Int × (Int × Unit)))) (x4 : Int) (t8 : Int) (t9 : Int) (t13 : Int) (t14 : Int) : Option ((List (Int × (Int × Unit))) × Unit) := zz73_l6 N (zz73_a6 rec) N o0 list3 x4 t8 t9 t13 t14
def zz73_l3 (N : Nat) (k : (List (Int × (Int × Unit))) → Option ((List (Int × (Int × Unit))) × Unit)) : Nat → Y5 → (List (Int × (Int × Unit))) → Int → Int → Option ((List (Int × (Int × Unit))) × Unit)
  | 0, _, _, _, _ => none
  | m + 1, o0, list3, t8, t9 => zz73_b3 (zz73_F6 N (zz73_l3 N k m) k) k o0 list3 t8 t9
def zz73_F3 (N : Nat) (o0 : Y5) (list3 : (List (Int × (Int × Unit)))) (t8 : Int) (t9 : Int) : Option ((List (Int × (Int × Unit))) × Unit) := zz73_l3 N (zz73_a3) N o0 list3 t8 t9
def zz73 (N : Nat) (o_0 : Y5) : Option ((List (Int × (Int × Unit))) × Unit) := zz73_s (zz73_F3 N) o_0
def S_zz73 : Sig := { a := (.pair (.sl (.sl .bool)) .unit), md := [0], mf := [], m := .unit, r := (.sl (.pair I (.pair I .unit))), rf := (.o .i), f := fun x => zz73 big x.1 }
def A_zz73 : Cfg := mkCfg tab [(124, S_zz61)] [(6, [.as (.sl (.sl .bool)) .i, .drop, .drop, .as (.sl (.pair I (.pair I .unit))) (.o .i), .drop, .drop, .drop, .drop, .as I .i, .as I .i]), (12, [.as (.sl (.sl .bool)) .i, .drop, .drop, .as (.sl (.pair I (.pair I .unit))) (.o .i), .as I .i, .drop, .drop, .drop, .as I .i, .as I .i, .drop, .drop, .drop, .as I .i, .as I .i]), (25, [.drop, .drop, .drop, .as (.sl (.pair I (.pair I .unit))) (.o .i)]), (23, [.as (.sl (.sl .bool)) .i, .drop, .drop, .as (.sl (.pair I (.pair I .unit))) (.o .i), .drop, .drop, .drop, .drop, .as I .i, .as I .i])]
noncomputable def zz73_R3 (N n : Nat) (K : Ex → St → Option ((List (Int × (Int × Unit))) × Unit)) (o0 : Y5) (list3 : (List (Int × (Int × Unit)))) (t8 : Int) (t9 : Int) : Option ((List (Int × (Int × Unit))) × Unit) := iter ((A_zz73).shape 6) (run (A_zz73) N (codeAt Try.f74 [1, 1, 0, 1, 0, 0])) n ([.val (.sl (.sl .bool)) .i o0, .u, .u, .val (.sl (.pair I (.pair I .unit))) (.o .i) list3, .u, .u, .u, .u, .val I .i t8, .val I .i t9] ++ List.replicate 20 .u) K
noncomputable def zz73_R6 (N n : Nat) (K : Ex → St → Option ((List (Int × (Int × Unit))) × Unit)) (o0 : Y5) (list3 : (List (Int × (Int × Unit)))) (x4 : Int) (t8 : Int) (t9 : Int) (t13 : Int) (t14 : Int) : Option ((List (Int × (Int × Unit))) × Unit) := iter ((A_zz73).shape 12) (run (A_zz73) N (codeAt Try.f74 [1, 1, 0, 1, 0, 0, 1, 1, 0, 0, 1, 1, 0, 0])) n ([.val (.sl (.sl .bool)) .i o0, .u, .u, .val (.sl (.pair I (.pair I .unit))) (.o .i) list3, .val I .i x4, .u, .u, .u, .val I .i t8, .val I .i t9, .u, .u, .u, .val I .i t13, .val I .i t14] ++ List.replicate 15 .u) K
noncomputable abbrev zz73_z : Ex → St → Option ((List (Int × (Int × Unit))) × Unit) := finish (A_zz73) S_zz73 Try.f74.results.toList
noncomputable abbrev zz73_X3 (kX : St → Option ((List (Int × (Int × Unit))) × Unit)) : (List (Int × (Int × Unit))) → Option ((List (Int × (Int × Unit))) × Unit) := fun (list3 : (List (Int × (Int × Unit)))) => kX ([.u, .u, .u, .val (.sl (.pair I (.pair I .unit))) (.o .i) list3] ++ List.replicate 26 .u)
noncomputable abbrev zz73_E3 (kX : St → Option ((List (Int × (Int × Unit))) × Unit)) (kO : Nat → St → Option ((List (Int × (Int × Unit))) × Unit)) : Ex → St → Option ((List (Int × (Int × Unit))) × Unit) := exK zz73_z 0 ((A_zz73).shape 25) kX kO
noncomputable abbrev zz73_X6 (kX : St → Option ((List (Int × (Int × Unit))) × Unit)) : Y5 → (List (Int × (Int × Unit))) → Int → Int → Option ((List (Int × (Int × Unit))) × Unit) := fun (o0 : Y5) (list3 : (List (Int × (Int × Unit)))) (t8 : Int) (t9 : Int) => kX ([.val (.sl (.sl .bool)) .i o0, .u, .u, .val (.sl (.pair I (.pair I .unit))) (.o .i) list3, .u, .u, .u, .u, .val I .i t8, .val I .i t9] ++ List.replicate 20 .u)
noncomputable abbrev zz73_E6 (kX : St → Option ((List (Int × (Int × Unit))) × Unit)) (kO : Nat → St → Option ((List (Int × (Int × Unit))) × Unit)) : Ex → St → Option ((List (Int × (Int × Unit))) × Unit) := exK zz73_z 2 ((A_zz73).shape 23) kX kO
theorem zz73_step6 (N : Nat) (m : Nat) (kX : St → Option ((List (Int × (Int × Unit))) × Unit)) (kO : Nat → St → Option ((List (Int × (Int × Unit))) × Unit)) (o0 : Y5) (list3 : (List (Int × (Int × Unit)))) (x4 : Int) (t8 : Int) (t9 : Int) (t13 : Int) (t14 : Int) : zz73_R6 N (m + 1) (zz73_E6 kX kO) o0 list3 x4 t8 t9 t13 t14 = zz73_b6 (zz73_R6 N m (zz73_E6 kX kO)) (zz73_X6 kX) o0 list3 x4 t8 t9 t13 t14 := by kernel_rfl
theorem zz73_iter6 (N : Nat) (kX : St → Option ((List (Int × (Int × Unit))) × Unit)) (kO : Nat → St → Option ((List (Int × (Int × Unit))) × Unit)) : ∀ (n : Nat) (o0 : Y5) (list3 : (List (Int × (Int × Unit)))) (x4 : Int) (t8 : Int) (t9 : Int) (t13 : Int) (t14 : Int), zz73_R6 N n (zz73_E6 kX kO) o0 list3 x4 t8 t9 t13 t14 = zz73_l6 N (zz73_X6 kX) n o0 list3 x4 t8 t9 t13 t14
  | 0, _, _, _, _, _, _, _ => rfl
  | m + 1, o0, list3, x4, t8, t9, t13, t14 => by
    have hrec : zz73_R6 N m (zz73_E6 kX kO) = (zz73_l6 N (zz73_X6 kX) m) := (funext fun o0 => (funext fun list3 => (funext fun x4 => (funext fun t8 => (funext fun t9 => (funext fun t13 => (funext fun t14 => zz73_iter6 N kX kO m o0 list3 x4 t8 t9 t13 t14)))))))
    refine (zz73_step6 N m kX kO o0 list3 x4 t8 t9 t13 t14).trans ?_
    rw [hrec]
    rfl
noncomputable abbrev zz73_K6 (N : Nat) (m : Nat) (kX : St → Option ((List (Int × (Int × Unit))) × Unit)) (kO : Nat → St → Option ((List (Int × (Int × Unit))) × Unit)) : Ex → St → Option ((List (Int × (Int × Unit))) × Unit) := (blockK 2 (blockK 1 (seqK ((A_zz73).shape 23) (run (A_zz73) N (codeAt Try.f74 [1, 1, 0, 1, 0, 0, 1, 1, 1])) (iterK ((A_zz73).shape 6) (run (A_zz73) N (codeAt Try.f74 [1, 1, 0, 1, 0, 0])) m (zz73_E3 kX kO)))))
noncomputable abbrev zz73_k6 (N : Nat) (m : Nat) (kX : St → Option ((List (Int × (Int × Unit))) × Unit)) (kO : Nat → St → Option ((List (Int × (Int × Unit))) × Unit)) : St → Option ((List (Int × (Int × Unit))) × Unit) := fun st' => run (A_zz73) N (codeAt Try.f74 [1, 1, 0, 1, 0, 0, 1, 1, 1]) st' (iterK ((A_zz73).shape 6) (run (A_zz73) N (codeAt Try.f74 [1, 1, 0, 1, 0, 0])) m (zz73_E3 kX kO))
theorem zz73_after6 (N : Nat) (m : Nat) (kX : St → Option ((List (Int × (Int × Unit))) × Unit)) (kO : Nat → St → Option ((List (Int × (Int × Unit))) × Unit)) (o0 : Y5) (list3 : (List (Int × (Int × Unit)))) (t8 : Int) (t9 : Int) : zz73_X6 (zz73_k6 N m kX kO) o0 list3 t8 t9 = zz73_a6 (zz73_R3 N m (zz73_E3 kX kO)) o0 list3 t8 t9 := by kernel_rfl
theorem zz73_in6 (N : Nat) (m : Nat) (kX : St → Option ((List (Int × (Int × Unit))) × Unit)) (kO : Nat → St → Option ((List (Int × (Int × Unit))) × Unit)) (recF : Y5 → (List (Int × (Int × Unit))) → Int → Int → Option ((List (Int × (Int × Unit))) × Unit)) (hrec : zz73_R3 N m (zz73_E3 kX kO) = recF) (o0 : Y5) (list3 : (List (Int × (Int × Unit)))) (x4 : Int) (t8 : Int) (t9 : Int) (t13 : Int) (t14 : Int) : zz73_R6 N N (zz73_K6 N m kX kO) o0 list3 x4 t8 t9 t13 t14 = zz73_F6 N recF (zz73_X3 kX) o0 list3 x4 t8 t9 t13 t14 :=
  have h : zz73_X6 (zz73_k6 N m kX kO) = (zz73_a6 recF) := (funext fun o0 => (funext fun list3 => (funext fun t8 => (funext fun t9 => (zz73_after6 N m kX kO o0 list3 t8 t9).trans (by rw [hrec])))))
  ((iter_ex (fun st => by kernel_rfl) (fun st => by kernel_rfl)).trans (zz73_iter6 N (zz73_k6 N m kX kO) (fun j st => (zz73_K6 N m kX kO) (.exit j) st) N o0 list3 x4 t8 t9 t13 t14)).trans (congrArg (fun k => zz73_l6 N k N o0 list3 x4 t8 t9 t13 t14) h)
theorem zz73_step3 (N : Nat) (m : Nat) (kX : St → Option ((List (Int × (Int × Unit))) × Unit)) (kO : Nat → St → Option ((List (Int × (Int × Unit))) × Unit)) (o0 : Y5) (list3 : (List (Int × (Int × Unit)))) (t8 : Int) (t9 : Int) : zz73_R3 N (m + 1) (zz73_E3 kX kO) o0 list3 t8 t9 = zz73_b3 (zz73_R6 N N (zz73_K6 N m kX kO)) (zz73_X3 kX) o0 list3 t8 t9 := by kernel_rfl
theorem zz73_iter3 (N : Nat) (kX : St → Option ((List (Int × (Int × Unit))) × Unit)) (kO : Nat → St → Option ((List (Int × (Int × Unit))) × Unit)) : ∀ (n : Nat) (o0 : Y5) (list3 : (List (Int × (Int × Unit)))) (t8 : Int) (t9 : Int), zz73_R3 N n (zz73_E3 kX kO) o0 list3 t8 t9 = zz73_l3 N (zz73_X3 kX) n o0 list3 t8 t9
  | 0, _, _, _, _ => rfl
  | m + 1, o0, list3, t8, t9 => by
    have hrec : zz73_R3 N m (zz73_E3 kX kO) = (zz73_l3 N (zz73_X3 kX) m) := (funext fun o0 => (funext fun list3 => (funext fun t8 => (funext fun t9 => zz73_iter3 N kX kO m o0 list3 t8 t9))))
    refine (zz73_step3 N m kX kO o0 list3 t8 t9).trans ?_
    rw [(funext fun o0 => (funext fun list3 => (funext fun x4 => (funext fun t8 => (funext fun t9 => (funext fun t13 => (funext fun t14 => zz73_in6 N m kX kO (zz73_l3 N (zz73_X3 kX) m) hrec o0 list3 x4 t8 t9 t13 t14)))))))]
    rfl
noncomputable abbrev zz73_K3 (N : Nat) : Ex → St → Option ((List (Int × (Int × Unit))) × Unit) := (blockK 0 (seqK ((A_zz73).shape 25) (run (A_zz73) N (codeAt Try.f74 [1, 1, 1])) zz73_z))
noncomputable abbrev zz73_k3 (N : Nat) : St → Option ((List (Int × (Int × Unit))) × Unit) := fun st' => run (A_zz73) N (codeAt Try.f74 [1, 1, 1]) st' zz73_z
theorem zz73_after3 (N : Nat) (list3 : (List (Int × (Int × Unit)))) : zz73_X3 (zz73_k3 N) list3 = zz73_a3 list3 := by kernel_rfl
theorem zz73_in3 (N : Nat) (o0 : Y5) (list3 : (List (Int × (Int × Unit)))) (t8 : Int) (t9 : Int) : zz73_R3 N N (zz73_K3 N) o0 list3 t8 t9 = zz73_F3 N o0 list3 t8 t9 :=
  have h : zz73_X3 (zz73_k3 N) = (zz73_a3) := (funext fun list3 => zz73_after3 N list3)
  ((iter_ex (fun st => by kernel_rfl) (fun st => by kernel_rfl)).trans (zz73_iter3 N (zz73_k3 N) (fun j st => (zz73_K3 N) (.exit j) st) N o0 list3 t8 t9)).trans (congrArg (fun k => zz73_l3 N k N o0 list3 t8 t9) h)
theorem run0_zz73 (N : Nat) (x : (S_zz73).a.den) : runF (A_zz73) N Try.f74 S_zz73 x = (zz73_s (zz73_R3 N N (zz73_K3 N)) x.1) := by kernel_rfl
theorem run_zz73 (N : Nat) (x : (S_zz73).a.den) : runF (A_zz73) N Try.f74 S_zz73 x = zz73 N x.1 := by
  refine (run0_zz73 N x).trans ?_
  rw [(funext fun o0 => (funext fun list3 => (funext fun t8 => (funext fun t9 => zz73_in3 N o0 list3 t8 t9))))]
  rfl
theorem fn_zz73 : FnOk Try.prog 74 := ⟨_, Try.func74, by kernel_rfl, by kernel_rfl⟩
theorem good_zz73 : Gx.Good Try.prog 74 S_zz73 := good_of_run Try.func74 (of_decide_eq_true (by kernel_rfl)) fun x r h => ⟨A_zz73, big, mkCfg_ok tabOk, mkCfg_sigs (show SigsOk Try.prog [(124, S_zz61)] from ⟨⟨fn_zz61, good_zz61⟩, trivial⟩), (run_zz73 big x).trans h⟩

/-! zz74 -/
def zz74_s (p_0 : Y2) : Option (((List (Int × (Int × Unit))) × (Bool × Unit)) × Unit) :=
  (zz72 p_0).bind fun rq1 =>
  cond (!rq1.1.2.1)
  (some (([], false, ()), (())))
  ((rq1.1.1).bind fun xq2 =>
  (zz73 big xq2.1).bind fun rq3 =>
  some ((rq3.1, true, ()), (())))
def zz74 (p_0 : Y2) : Option (((List (Int × (Int × Unit))) × (Bool × Unit)) × Unit) := zz74_s p_0
def S_zz74 : Sig := { a := (.pair (.pair (.sl (.sl I)) .unit) .unit), md := [0], mf := [], m := .unit, r := (.tup (.pair (.sl (.pair I (.pair I .unit))) (.pair .bool .unit))), rf := (.p (.o .i) .i), f := fun x => zz74 x.1 }
def A_zz74 : Cfg := mkCfg tab [(73, S_zz72), (74, S_zz73)] []
theorem run_zz74 (N : Nat) (x : (S_zz74).a.den) : runF (A_zz74) N Try.f30 S_zz74 x = zz74 x.1 := by kernel_rfl
theorem fn_zz74 : FnOk Try.prog 30 := ⟨_, Try.func30, by kernel_rfl, by kernel_rfl⟩
theorem good_zz74 : Gx.Good Try.prog 30 S_zz74 := good_of_run Try.func30 (of_decide_eq_true (by kernel_rfl)) fun x r h => ⟨A_zz74, big, mkCfg_ok tabOk, mkCfg_sigs (show SigsOk Try.prog [(73, S_zz72), (74, S_zz73)] from ⟨⟨fn_zz72, good_zz72⟩, ⟨fn_zz73, good_zz73⟩, trivial⟩), (run_zz74 big x).trans h⟩

/-! zz75 -/
def zz75_b2 (rec : (Int × (Int × Unit)) → (Int × (Int × Unit)) → Int → Option (Bool × Unit)) (k : Option (Bool × Unit)) (a2 : (Int × (Int × Unit))) (b3 : (Int × (Int × Unit))) (i5 : Int) : Option (Bool × Unit) :=
  cond (decide (i5 < (2 : Int)))
  (cond (decide (i5 = (0 : Int)))
  (cond (decide (i5 = (0 : Int)))
  (cond (decide (a2.1 ≠ b3.1))
  (some (false, (())))
  (rec a2 b3 (IntKind.i64.wrap (i5 + (1 : Int)))))
  (cond (decide (i5 = (1 : Int)))
  (cond (decide (a2.1 ≠ b3.2.1))
  (some (false, (())))
  (rec a2 b3 (IntKind.i64.wrap (i5 + (1 : Int)))))
  (none)))
  (cond (decide (i5 = (1 : Int)))
  (cond (decide (i5 = (0 : Int)))
  (cond (decide (a2.2.1 ≠ b3.1))
  (some (false, (())))
  (rec a2 b3 (IntKind.i64.wrap (i5 + (1 : Int)))))
  (cond (decide (i5 = (1 : Int)))
  (cond (decide (a2.2.1 ≠ b3.2.1))
  (some (false, (())))
  (rec a2 b3 (IntKind.i64.wrap (i5 + (1 : Int)))))
  (none)))
  (none)))
  (k)
def zz75_a2 : Option (Bool × Unit) :=
  some (true, (()))
def zz75_s (L2 : (Int × (Int × Unit)) → (Int × (Int × Unit)) → Int → Option (Bool × Unit)) (a_0 : (Int × (Int × Unit))) (b_1 : (Int × (Int × Unit))) : Option (Bool × Unit) :=
  L2 a_0 b_1 (0 : Int)
def zz75_l2 (N : Nat) (k : Option (Bool × Unit)) : Nat → (Int × (Int × Unit)) → (Int × (Int × Unit)) → Int → Option (Bool × Unit)
  | 0, _, _, _ => none
  | m + 1, a2, b3, i5 => zz75_b2 (zz75_l2 N k m) k a2 b3 i5
def zz75_F2 (N : Nat) (a2 : (Int × (Int × Unit))) (b3 : (Int × (Int × Unit))) (i5 : Int) : Option (Bool × Unit) := zz75_l2 N (zz75_a2) N a2 b3 i5
def zz75 (N : Nat) (a_0 : (Int × (Int × Unit))) (b_1 : (Int × (Int × Unit))) : Option (Bool × Unit) := zz75_s (zz75_F2 N) a_0 b_1
def S_zz75 : Sig := { a := (.pair (.pair I (.pair I .unit)) (.pair (.pair I (.pair I .unit)) .unit)), md := [0, 0], mf := [], m := .unit, r := .bool, rf := .i, f := fun x => zz75 big x.1 x.2.1 }
def A_zz75 : Cfg := mkCfg tab [] [(4, [.drop, .drop, .as (.ptr (.pair I (.pair I .unit))) (.o .i), .as (.ptr (.pair I (.pair I .unit))) (.o .i), .drop, .as I .i]), (13, [])]
noncomputable def zz75_R2 (N n : Nat) (K : Ex → St → Option (Bool × Unit)) (a2 : (Int × (Int × Unit))) (b3 : (Int × (Int × Unit))) (i5 : Int) : Option (Bool × Unit) := iter ((A_zz75).shape 4) (run (A_zz75) N (codeAt Try.f75 [1, 0, 1, 0, 0])) n ([.u, .u, .val (.ptr (.pair I (.pair I .unit))) (.o .i) a2, .val (.ptr (.pair I (.pair I .unit))) (.o .i) b3, .u, .val I .i i5] ++ List.replicate 11 .u) K
noncomputable abbrev zz75_z : Ex → St → Option (Bool × Unit) := finish (A_zz75) S_zz75 Try.f75.results.toList
noncomputable abbrev zz75_X2 (kX : St → Option (Bool × Unit)) : Option (Bool × Unit) := kX ([] ++ List.replicate 17 .u)
noncomputable abbrev zz75_E2 (kX : St → Option (Bool × Unit)) (kO : Nat → St → Option (Bool × Unit)) : Ex → St → Option (Bool × Unit) := exK zz75_z 0 ((A_zz75).shape 13) kX kO
theorem zz75_step2 (N : Nat) (m : Nat) (kX : St → Option (Bool × Unit)) (kO : Nat → St → Option (Bool × Unit)) (a2 : (Int × (Int × Unit))) (b3 : (Int × (Int × Unit))) (i5 : Int) : zz75_R2 N (m + 1) (zz75_E2 kX kO) a2 b3 i5 = zz75_b2 (zz75_R2 N m (zz75_E2 kX kO)) (zz75_X2 kX) a2 b3 i5 := by kernel_rfl
theorem zz75_iter2 (N : Nat) (kX : St → Option (Bool × Unit)) (kO : Nat → St → Option (Bool × Unit)) : ∀ (n : Nat) (a2 : (Int × (Int × Unit))) (b3 : (Int × (Int × Unit))) (i5 : Int), zz75_R2 N n (zz75_E2 kX kO) a2 b3 i5 = zz75_l2 N (zz75_X2 kX) n a2 b3 i5
  | 0, _, _, _ => rfl
  | m + 1, a2, b3, i5 => by
    have hrec : zz75_R2 N m (zz75_E2 kX kO) = (zz75_l2 N (zz75_X2 kX) m) := (funext fun a2 => (funext fun b3 => (funext fun i5 => zz75_iter2 N kX kO m a2 b3 i5)))
    refine (zz75_step2 N m kX kO a2 b3 i5).trans ?_
    rw [hrec]
    rfl
noncomputable abbrev zz75_K2 (N : Nat) : Ex → St → Option (Bool × Unit) := (blockK 0 (seqK ((A_zz75).shape 13) (run (A_zz75) N (codeAt Try.f75 [1, 1])) zz75_z))
noncomputable abbrev zz75_k2 (N : Nat) : St → Option (Bool × Unit) := fun st' => run (A_zz75) N (codeAt Try.f75 [1, 1]) st' zz75_z
theorem zz75_after2 (N : Nat) : zz75_X2 (zz75_k2 N) = zz75_a2 := by kernel_rfl
theorem zz75_in2 (N : Nat) (a2 : (Int × (Int × Unit))) (b3 : (Int × (Int × Unit))) (i5 : Int) : zz75_R2 N N (zz75_K2 N) a2 b3 i5 = zz75_F2 N a2 b3 i5 :=
  have h : zz75_X2 (zz75_k2 N) = (zz75_a2) := zz75_after2 N
  ((iter_ex (fun st => by kernel_rfl) (fun st => by kernel_rfl)).trans (zz75_iter2 N (zz75_k2 N) (fun j st => (zz75_K2 N) (.exit j) st) N a2 b3 i5)).trans (congrArg (fun k => zz75_l2 N k N a2 b3 i5) h)
theorem run0_zz75 (N : Nat) (x : (S_zz75).a.den) : runF (A_zz75) N Try.f75 S_zz75 x = (zz75_s (zz75_R2 N N (zz75_K2 N)) x.1 x.2.1) := by kernel_rfl
theorem run_zz75 (N : Nat) (x : (S_zz75).a.den) : runF (A_zz75) N Try.f75 S_zz75 x = zz75 N x.1 x.2.1 := by
  refine (run0_zz75 N x).trans ?_
  rw [(funext fun a2 => (funext fun b3 => (funext fun i5 => zz75_in2 N a2 b3 i5)))]
  rfl
theorem fn_zz75 : FnOk Try.prog 75 := ⟨_, Try.func75, by kernel_rfl, by kernel_rfl⟩
theorem good_zz75 : Gx.Good Try.prog 75 S_zz75 := good_of_run Try.func75 (of_decide_eq_true (by kernel_rfl)) fun x r h => ⟨A_zz75, big, mkCfg_ok tabOk, mkCfg_sigs (show SigsOk Try.prog [] from trivial), (run_zz75 big x).trans h⟩

/-! zz76 -/
def zz76_b4 (rec : (List (Int × (Int × Unit))) → (List (Int × (Int × Unit))) → Int → Option (Bool × Unit)) (k : Option (Bool × Unit)) (a0 : (List (Int × (Int × Unit)))) (b1 : (List (Int × (Int × Unit)))) (i5 : Int) : Option (Bool × Unit) :=
  cond (decide (i5 < (a0.length : Int)))
  ((atI a0 i5).bind fun xq1 =>
  (atI b1 i5).bind fun xq2 =>
  (zz75 big xq1 xq2).bind fun rq3 =>
  cond (!rq3.1)
  (some (false, (())))
  (rec a0 b1 (IntKind.i64.wrap (i5 + (1 : Int)))))
  (k)
def zz76_a4 : Option (Bool × Unit) :=
  some (true, (()))
def zz76_s (L4 : (List (Int × (Int × Unit))) → (List (Int × (Int × Unit))) → Int → Option (Bool × Unit)) (a_0 : (List (Int × (Int × Unit)))) (b_1 : (List (Int × (Int × Unit)))) : Option (Bool × Unit) :=
  cond (decide ((a_0.length : Int) ≠ (b_1.length : Int)))
  (some (false, (())))
  (L4 a_0 b_1 (0 : Int))
def zz76_l4 (N : Nat) (k : Option (Bool × Unit)) : Nat → (List (Int × (Int × Unit))) → (List (Int × (Int × Unit))) → Int → Option (Bool × Unit)
  | 0, _, _, _ => none
  | m + 1, a0, b1, i5 => zz76_b4 (zz76_l4 N k m) k a0 b1 i5
def zz76_F4 (N : Nat) (a0 : (List (Int × (Int × Unit)))) (b1 : (List (Int × (Int × Unit)))) (i5 : Int) : Option (Bool × Unit) := zz76_l4 N (zz76_a4) N a0 b1 i5
def zz76 (N : Nat) (a_0 : (List (Int × (Int × Unit)))) (b_1 : (List (Int × (Int × Unit)))) : Option (Bool × Unit) := zz76_s (zz76_F4 N) a_0 b_1
def S_zz76 : Sig := { a := (.pair (.sl (.pair I (.pair I .unit))) (.pair (.sl (.pair I (.pair I .unit))) .unit)), md := [0, 0], mf := [], m := .unit, r := .bool, rf := .i, f := fun x => zz76 big x.1 x.2.1 }
def A_zz76 : Cfg := mkCfg tab [(75, S_zz75)] [(8, [.as (.sl (.pair I (.pair I .unit))) .i, .as (.sl (.pair I (.pair I .unit))) .i, .drop, .drop, .drop, .as I .i]), (17, [])]
noncomputable def zz76_R4 (N n : Nat) (K : Ex → St → Option (Bool × Unit)) (a0 : (List (Int × (Int × Unit)))) (b1 : (List (Int × (Int × Unit)))) (i5 : Int) : Option (Bool × Unit) := iter ((A_zz76).shape 8) (run (A_zz76) N (codeAt Try.f31 [1, 1, 0, 1, 0, 0])) n ([.val (.sl (.pair I (.pair I .unit))) .i a0, .val (.sl (.pair I (.pair I .unit))) .i b1, .u, .u, .u, .val I .i i5] ++ List.replicate 21 .u) K
noncomputable abbrev zz76_z : Ex → St → Option (Bool × Unit) := finish (A_zz76) S_zz76 Try.f31.results.toList
noncomputable abbrev zz76_X4 (kX : St → Option (Bool × Unit)) : Option (Bool × Unit) := kX ([] ++ List.replicate 27 .u)
noncomputable abbrev zz76_E4 (kX : St → Option (Bool × Unit)) (kO : Nat → St → Option (Bool × Unit)) : Ex → St → Option (Bool × Unit) := exK zz76_z 0 ((A_zz76).shape 17) kX kO
theorem zz76_step4 (N : Nat) (m : Nat) (kX : St → Option (Bool × Unit)) (kO : Nat → St → Option (Bool × Unit)) (a0 : (List (Int × (Int × Unit)))) (b1 : (List (Int × (Int × Unit)))) (i5 : Int) : zz76_R4 N (m + 1) (zz76_E4 kX kO) a0 b1 i5 = zz76_b4 (zz76_R4 N m (zz76_E4 kX kO)) (zz76_X4 kX) a0 b1 i5 := by kernel_rfl
theorem zz76_iter4 (N : Nat) (kX : St → Option (Bool × Unit)) (kO : Nat → St → Option (Bool × Unit)) : ∀ (n : Nat) (a0 : (List (Int × (Int × Unit)))) (b1 : (List (Int × (Int × Unit)))) (i5 : Int), zz76_R4 N n (zz76_E4 kX kO) a0 b1 i5 = zz76_l4 N (zz76_X4 kX) n a0 b1 i5
  | 0, _, _, _ => rfl
  | m + 1, a0, b1, i5 => by
    have hrec : zz76_R4 N m (zz76_E4 kX kO) = (zz76_l4 N (zz76_X4 kX) m) := (funext fun a0 => (funext fun b1 => (funext fun i5 => zz76_iter4 N kX kO m a0 b1 i5)))
    refine (zz76_step4 N m kX kO a0 b1 i5).trans ?_
    rw [hrec]
    rfl
noncomputable abbrev zz76_K4 (N : Nat) : Ex → St → Option (Bool × Unit) := (blockK 0 (seqK ((A_zz76).shape 17) (run (A_zz76) N (codeAt Try.f31 [1, 1, 1])) zz76_z))
noncomputable abbrev zz76_k4 (N : Nat) : St → Option (Bool × Unit) := fun st' => run (A_zz76) N (codeAt Try.f31 [1, 1, 1]) st' zz76_z
theorem zz76_after4 (N : Nat) : zz76_X4 (zz76_k4 N) = zz76_a4 := by kernel_rfl
theorem zz76_in4 (N : Nat) (a0 : (List (Int × (Int × Unit)))) (b1 : (List (Int × (Int × Unit)))) (i5 : Int) : zz76_R4 N N (zz76_K4 N) a0 b1 i5 = zz76_F4 N a0 b1 i5 :=
  have h : zz76_X4 (zz76_k4 N) = (zz76_a4) := zz76_after4 N
  ((iter_ex (fun st => by kernel_rfl) (fun st => by kernel_rfl)).trans (zz76_iter4 N (zz76_k4 N) (fun j st => (zz76_K4 N) (.exit j) st) N a0 b1 i5)).trans (congrArg (fun k => zz76_l4 N k N a0 b1 i5) h)
theorem run0_zz76 (N : Nat) (x : (S_zz76).a.den) : runF (A_zz76) N Try.f31 S_zz76 x = (zz76_s (zz76_R4 N N (zz76_K4 N)) x.1 x.2.1) := by kernel_rfl
theorem run_zz76 (N : Nat) (x : (S_zz76).a.den) : runF (A_zz76) N Try.f31 S_zz76 x = zz76 N x.1 x.2.1 := by
  refine (run0_zz76 N x).trans ?_
  rw [(funext fun a0 => (funext fun b1 => (funext fun i5 => zz76_in4 N a0 b1 i5)))]
  rfl
theorem fn_zz76 : FnOk Try.prog 31 := ⟨_, Try.func31, by kernel_rfl, by kernel_rfl⟩
theorem good_zz76 : Gx.Good Try.prog 31 S_zz76 := good_of_run Try.func31 (of_decide_eq_true (by kernel_rfl)) fun x r h => ⟨A_zz76, big, mkCfg_ok tabOk, mkCfg_sigs (show SigsOk Try.prog [(75, S_zz75)] from ⟨⟨fn_zz75, good_zz75⟩, trivial⟩), (run_zz76 big x).trans h⟩

/-! zz77 -/
def zz77_b5 (rec : (List (Int × (Int × Unit))) → Int → Int → Int → Option (Int × ((List (Int × (Int × Unit))) × Unit))) (k : (List (Int × (Int × Unit))) → Int → Int → Option (Int × ((List (Int × (Int × Unit))) × Unit))) (a0 : (List (Int × (Int × Unit)))) (k1 : Int) (i5 : Int) (j6 : Int) : Option (Int × ((List (Int × (Int × Unit))) × Unit)) :=
  cond (decide (j6 < (2 : Int)))
  ((atI a0 i5).bind fun _ =>
  cond (decide (j6 = (0 : Int)))
  ((a0[i5.toNat]?).bind fun xq1 =>
  (a0[i5.toNat]?).bind fun xq2 =>
  rec (a0.set i5.toNat (k1, xq2.2)) (IntKind.i64.wrap (k1 + (1 : Int))) i5 (IntKind.i64.wrap (j6 + (1 : Int))))
  (cond (decide (j6 = (1 : Int)))
  ((a0[i5.toNat]?).bind fun xq3 =>
  (a0[i5.toNat]?).bind fun xq4 =>
  rec (a0.set i5.toNat (xq4.1, (k1, xq4.2.2))) (IntKind.i64.wrap (k1 + (1 : Int))) i5 (IntKind.i64.wrap (j6 + (1 : Int))))
  (none)))
  (k a0 k1 i5)
def zz77_a5 (rec : (List (Int × (Int × Unit))) → Int → Int → Option (Int × ((List (Int × (Int × Unit))) × Unit))) (a0 : (List (Int × (Int × Unit)))) (k1 : Int) (i5 : Int) : Option (Int × ((List (Int × (Int × Unit))) × Unit)) :=
  rec a0 k1 (IntKind.i64.wrap (i5 + (1 : Int)))
def zz77_b2 (L5 : (List (Int × (Int × Unit))) → Int → Int → Int → Option (Int × ((List (Int × (Int × Unit))) × Unit))) (k : (List (Int × (Int × Unit))) → Int → Option (Int × ((List (Int × (Int × Unit))) × Unit))) (a0 : (List (Int × (Int × Unit)))) (k1 : Int) (i5 : Int) : Option (Int × ((List (Int × (Int × Unit))) × Unit)) :=
  cond (decide (i5 < (a0.length : Int)))
  (L5 a0 k1 i5 (0 : Int))
  (k a0 k1)
def zz77_a2 (a0 : (List (Int × (Int × Unit)))) (k1 : Int) : Option (Int × ((List (Int × (Int × Unit))) × Unit)) :=
  some (k1, (a0, ()))
def zz77_s (L2 : (List (Int × (Int × Unit))) → Int → Int → Option (Int × ((List (Int × (Int × Unit))) × Unit))) (a_0 : (List (Int × (Int × Unit)))) (k_1 : Int) : Option (Int × ((List (Int × (Int × Unit))) × Unit)) :=
  L2 a_0 k_1 (0 : Int)
def zz77_l5 (N : Nat) (k : (List (Int × (Int × Unit))) → Int → Int → Option (Int × ((List (Int × (Int × Unit))) × Unit))) : Nat → (List (Int × (Int × Unit))) → Int → Int → Int → Option (Int × ((List (Int × (Int × Unit))) × Unit))
  | 0, _, _, _, _ => none
  | m + 1, a0, k1, i5, j6 => zz77_b5 (zz77_l5 N k m) k a0 k1 i5 j6
def zz77_F5 (N : Nat) (rec : (List (Int × (Int × Unit))) → Int → Int → Option (Int × ((List (Int × (Int × Unit))) × Unit))) (k : (List (Int × (Int × Unit))) → Int → Option (Int × ((List (Int × (Int × Unit))) × Unit))) (a0 : (List (Int × (Int × Unit)))) (k1 : Int) (i5 : Int) (j6 : Int) : Option (Int × ((List (Int × (Int × Unit))) × Unit)) := zz77_l5 N (zz77_a5 rec) N a0 k1 i5 j6
def zz77_l2 (N : Nat) (k : (List (Int × (Int × Unit))) → Int → Option (Int × ((List (Int × (Int × Unit))) × Unit))) : Nat → (List (Int × (Int × Unit))) → Int → Int → Option (Int × ((List (Int × (Int × Unit))) × Unit))
  | 0, _, _, _ => none
  | m + 1, a0, k1, i5 => zz77_b2 (zz77_F5 N (zz77_l2 N k m) k) k a0 k1 i5
def zz77_F2 (N : Nat) (a0 : (List (Int × (Int × Unit)))) (k1 : Int) (i5 : Int) : Option (Int × ((List (Int × (Int × Unit))) × Unit)) := zz77_l2 N (zz77_a2) N a0 k1 i5
def zz77 (N : Nat) (a_0 : (List (Int × (Int × Unit)))) (k_1 : Int) : Option (Int × ((List (Int × (Int × Unit))) × Unit)) := zz77_s (zz77_F2 N) a_0 k_1
def S_zz77 : Sig := { a := (.pair (.sl (.pair I (.pair I .unit))) (.pair I .unit)), md := [1, 0], mf := [(.o .i)], m := (.pair (.sl (.pair I (.pair I .unit))) .unit), r := I, rf := .i, f := fun x => zz77 big x.1 x.2.1 }
def A_zz77 : Cfg := mkCfg tab [] [(4, [.as (.sl (.pair I (.pair I .unit))) (.o .i), .as I .i, .drop, .drop, .drop, .as I .i]), (10, [.as (.sl (.pair I (.pair I .unit))) (.o .i), .as I .i, .drop, .drop, .drop, .as I .i, .as I .i]), (19, [.as (.sl (.pair I (.pair I .unit))) (.o .i), .as I .i]), (7, [.as (.sl (.pair I (.pair I .unit))) (.o .i), .as I .i, .drop, .drop, .drop, .as I .i])]
noncomputable def zz77_R2 (N n : Nat) (K : Ex → St → Option (Int × ((List (Int × (Int × Unit))) × Unit))) (a0 : (List (Int × (Int × Unit)))) (k1 : Int) (i5 : Int) : Option (Int × ((List (Int × (Int × Unit))) × Unit)) := iter ((A_zz77).shape 4) (run (A_zz77) N (codeAt Try.f32 [1, 0, 1, 0, 0])) n ([.val (.sl (.pair I (.pair I .unit))) (.o .i) a0, .val I .i k1, .u, .u, .u, .val I .i i5] ++ List.replicate 20 .u) K
noncomputable def zz77_R5 (N n : Nat) (K : Ex → St → Option (Int × ((List (Int × (Int × Unit))) × Unit))) (a0 : (List (Int × (Int × Unit)))) (k1 : Int) (i5 : Int) (j6 : Int) : Option (Int × ((List (Int × (Int × Unit))) × Unit)) := iter ((A_zz77).shape 10) (run (A_zz77) N (codeAt Try.f32 [1, 0, 1, 0, 0, 1, 0, 0, 1, 0, 0])) n ([.val (.sl (.pair I (.pair I .unit))) (.o .i) a0, .val I .i k1, .u, .u, .u, .val I .i i5, .val I .i j6] ++ List.replicate 19 .u) K
noncomputable abbrev zz77_z : Ex → St → Option (Int × ((List (Int × (Int × Unit))) × Unit)) := finish (A_zz77) S_zz77 Try.f32.results.toList
noncomputable abbrev zz77_X2 (kX : St → Option (Int × ((List (Int × (Int × Unit))) × Unit))) : (List (Int × (Int × Unit))) → Int → Option (Int × ((List (Int × (Int × Unit))) × Unit)) := fun (a0 : (List (Int × (Int × Unit)))) (k1 : Int) => kX ([.val (.sl (.pair I (.pair I .unit))) (.o .i) a0, .val I .i k1] ++ List.replicate 24 .u)
noncomputable abbrev zz77_E2 (kX : St → Option (Int × ((List (Int × (Int × Unit))) × Unit))) (kO : Nat → St → Option (Int × ((List (Int × (Int × Unit))) × Unit))) : Ex → St → Option (Int × ((List (Int × (Int × Unit))) × Unit)) := exK zz77_z 0 ((A_zz77).shape 19) kX kO
noncomputable abbrev zz77_X5 (kX : St → Option (Int × ((List (Int × (Int × Unit))) × Unit))) : (List (Int × (Int × Unit))) → Int → Int → Option (Int × ((List (Int × (Int × Unit))) × Unit)) := fun (a0 : (List (Int × (Int × Unit)))) (k1 : Int) (i5 : Int) => kX ([.val (.sl (.pair I (.pair I .unit))) (.o .i) a0, .val I .i k1, .u, .u, .u, .val I .i i5] ++ List.replicate 20 .u)
noncomputable abbrev zz77_E5 (kX : St → Option (Int × ((List (Int × (Int × Unit))) × Unit))) (kO : Nat → St → Option (Int × ((List (Int × (Int × Unit))) × Unit))) : Ex → St → Option (Int × ((List (Int × (Int × Unit))) × Unit)) := exK zz77_z 2 ((A_zz77).shape 7) kX kO
theorem zz77_step5 (N : Nat) (m : Nat) (kX : St → Option (Int × ((List (Int × (Int × Unit))) × Unit))) (kO : Nat → St → Option (Int × ((List (Int × (Int × Unit))) × Unit))) (a0 : (List (Int × (Int × Unit)))) (k1 : Int) (i5 : Int) (j6 : Int) : zz77_R5 N (m + 1) (zz77_E5 kX kO) a0 k1 i5 j6 = zz77_b5 (zz77_R5 N m (zz77_E5 kX kO)) (zz77_X5 kX) a0 k1 i5 j6 := by kernel_rfl
theorem zz77_iter5 (N : Nat) (kX : St → Option (Int × ((List (Int × (Int × Unit))) × Unit))) (kO : Nat → St → Option (Int × ((List (Int × (Int × Unit))) × Unit))) : ∀ (n : Nat) (a0 : (List (Int × (Int × Unit)))) (k1 : Int) (i5 : Int) (j6 : Int), zz77_R5 N n (zz77_E5 kX kO) a0 k1 i5 j6 = zz77_l5 N (zz77_X5 kX) n a0 k1 i5 j6
  | 0, _, _, _, _ => rfl
  | m + 1, a0, k1, i5, j6 => by
    have hrec : zz77_R5 N m (zz77_E5 kX kO) = (zz77_l5 N (zz77_X5 kX) m) := (funext fun a0 => (funext fun k1 => (funext fun i5 => (funext fun j6 => zz77_iter5 N kX kO m a0 k1 i5 j6))))
    refine (zz77_step5 N m kX kO a0 k1 i5 j6).trans ?_
    rw [hrec]
    rfl
noncomputable abbrev zz77_K5 (N : Nat) (m : Nat) (kX : St → Option (Int × ((List (Int × (Int × Unit))) × Unit))) (kO : Nat → St → Option (Int × ((List (Int × (Int × Unit))) × Unit))) : Ex → St → Option (Int × ((List (Int × (Int × Unit))) × Unit)) := (blockK 2 (blockK 1 (seqK ((A_zz77).shape 7) (run (A_zz77) N (codeAt Try.f32 [1, 0, 1, 0, 0, 1, 1])) (iterK ((A_zz77).shape 4) (run (A_zz77) N (codeAt Try.f32 [1, 0, 1, 0, 0])) m (zz77_E2 kX kO)))))
noncomputable abbrev zz77_k5 (N : Nat) (m : Nat) (kX : St → Option (Int × ((List (Int × (Int × Unit))) × Unit))) (kO : Nat → St → Option (Int × ((List (Int × (Int × Unit))) × Unit))) : St → Option (Int × ((List (Int × (Int × Unit))) × Unit)) := fun st' => run (A_zz77) N (codeAt Try.f32 [1, 0, 1, 0, 0, 1, 1]) st' (iterK ((A_zz77).shape 4) (run (A_zz77) N (codeAt Try.f32 [1, 0, 1, 0, 0])) m (zz77_E2 kX kO))
theorem zz77_after5 (N : Nat) (m : Nat) (kX : St → Option (Int × ((List (Int × (Int × Unit))) × Unit))) (kO : Nat → St → Option (Int × ((List (Int × (Int × Unit))) × Unit))) (a0 : (List (Int × (Int × Unit)))) (k1 : Int) (i5 : Int) : zz77_X5 (zz77_k5 N m kX kO) a0 k1 i5 = zz77_a5 (zz77_R2 N m (zz77_E2 kX kO)) a0 k1 i5 := by kernel_rfl
theorem zz77_in5 (N : Nat) (m : Nat) (kX : St → Option (Int × ((List (Int × (Int × Unit))) × Unit))) (kO : Nat → St → Option (Int × ((List (Int × (Int × Unit))) × Unit))) (recF : (List (Int × (Int × Unit))) → Int → Int → Option (Int × ((List (Int × (Int × Unit))) × Unit))) (hrec : zz77_R2 N m (zz77_E2 kX kO) = recF) (a0 : (List (Int × (Int × Unit)))) (k1 : Int) (i5 : Int) (j6 : Int) : zz77_R5 N N (zz77_K5 N m kX kO) a0 k1 i5 j6 = zz77_F5 N recF (zz77_X2 kX) a0 k1 i5 j6 :=
  have h : zz77_X5 (zz77_k5 N m kX kO) = (zz77_a5 recF) := (funext fun a0 => (funext fun k1 => (funext fun i5 => (zz77_after5 N m kX kO a0 k1 i5).trans (by rw [hrec]))))
  ((iter_ex (fun st => by kernel_rfl) (fun st => by kernel_rfl)).trans (zz77_iter5 N (zz77_k5 N m kX kO) (fun j st => (zz77_K5 N m kX kO) (.exit j) st) N a0 k1 i5 j6)).trans (congrArg (fun k => zz77_l5 N k N a0 k1 i5 j6) h)
theorem zz77_step2 (N : Nat) (m : Nat) (kX : St → Option (Int × ((List (Int × (Int × Unit))) × Unit))) (kO : Nat → St → Option (Int × ((List (Int × (Int × Unit))) × Unit))) (a0 : (List (Int × (Int × Unit)))) (k1 : Int) (i5 : Int) : zz77_R2 N (m + 1) (zz77_E2 kX kO) a0 k1 i5 = zz77_b2 (zz77_R5 N N (zz77_K5 N m kX kO)) (zz77_X2 kX) a0 k1 i5 := by kernel_rfl
theorem zz77_iter2 (N : Nat) (kX : St → Option (Int × ((List (Int × (Int × Unit))) × Unit))) (kO : Nat → St → Option (Int × ((List (Int × (Int × Unit))) × Unit))) : ∀ (n : Nat) (a0 : (List (Int × (Int × Unit)))) (k1 : Int) (i5 : Int), zz77_R2 N n (zz77_E2 kX kO) a0 k1 i5 = zz77_l2 N (zz77_X2 kX) n a0 k1 i5
  | 0, _, _, _ => rfl
  | m + 1, a0, k1, i5 => by
    have hrec : zz77_R2 N m (zz77_E2 kX kO) = (zz77_l2 N (zz77_X2 kX) m) := (funext fun a0 => (funext fun k1 => (funext fun i5 => zz77_iter2 N kX kO m a0 k1 i5)))
    refine (zz77_step2 N m kX kO a0 k1 i5).trans ?_
    rw [(funext fun a0 => (funext fun k1 => (funext fun i5 => (funext fun j6 => zz77_in5 N m kX kO (zz77_l2 N (zz77_X2 kX) m) hrec a0 k1 i5 j6))))]
    rfl
noncomputable abbrev zz77_K2 (N : Nat) : Ex → St → Option (Int × ((List (Int × (Int × Unit))) × Unit)) := (blockK 0 (seqK ((A_zz77).shape 19) (run (A_zz77) N (codeAt Try.f32 [1, 1])) zz77_z))
noncomputable abbrev zz77_k2 (N : Nat) : St → Option (Int × ((List (Int × (Int × Unit))) × Unit)) := fun st' => run (A_zz77) N (codeAt Try.f32 [1, 1]) st' zz77_z
theorem zz77_after2 (N : Nat) (a0 : (List (Int × (Int × Unit)))) (k1 : Int) : zz77_X2 (zz77_k2 N) a0 k1 = zz77_a2 a0 k1 := by kernel_rfl
theorem zz77_in2 (N : Nat) (a0 : (List (Int × (Int × Unit)))) (k1 : Int) (i5 : Int) : zz77_R2 N N (zz77_K2 N) a0 k1 i5 = zz77_F2 N a0 k1 i5 :=
  have h : zz77_X2 (zz77_k2 N) = (zz77_a2) := (funext fun a0 => (funext fun k1 => zz77_after2 N a0 k1))
  ((iter_ex (fun st => by kernel_rfl) (fun st => by kernel_rfl)).trans (zz77_iter2 N (zz77_k2 N) (fun j st => (zz77_K2 N) (.exit j) st) N a0 k1 i5)).trans (congrArg (fun k => zz77_l2 N k N a0 k1 i5) h)
theorem run0_zz77 (N : Nat) (x : (S_zz77).a.den) : runF (A_zz77) N Try.f32 S_zz77 x = (zz77_s (zz77_R2 N N (zz77_K2 N)) x.1 x.2.1) := by kernel_rfl
theorem run_zz77 (N : Nat) (x : (S_zz77).a.den) : runF (A_zz77) N Try.f32 S_zz77 x = zz77 N x.1 x.2.1 := by
  refine (run0_zz77 N x).trans ?_
  rw [(funext fun a0 => (funext fun k1 => (funext fun i5 => zz77_in2 N a0 k1 i5)))]
  rfl
theorem fn_zz77 : FnOk Try.prog 32 := ⟨_, Try.func32, by kernel_rfl, by kernel_rfl⟩
theorem good_zz77 : Gx.Good Try.prog 32 S_zz77 := good_of_run Try.func32 (of_decide_eq_true (by kernel_rfl)) fun x r h => ⟨A_zz77, big, mkCfg_ok tabOk, mkCfg_sigs (show SigsOk Try.prog [] from trivial), (run_zz77 big x).trans h⟩

/-! zz78 -/
def zz78_b5 (rec : (List (Int × (Int × Unit))) → Int → Int → Int → Option (Int × Unit)) (k : (List (Int × (Int × Unit))) → Int → Int → Option (Int × Unit)) (a0 : (List (Int × (Int × Unit)))) (k1 : Int) (i5 : Int) (j6 : Int) : Option (Int × Unit) :=
  cond (decide (j6 < (2 : Int)))
  ((atI a0 i5).bind fun xq1 =>
  cond (decide (j6 = (0 : Int)))
  (cond (decide (xq1.1 ≠ k1))
  (some ((-1 : Int), (())))
  (rec a0 (IntKind.i64.wrap (k1 + (1 : Int))) i5 (IntKind.i64.wrap (j6 + (1 : Int)))))
  (cond (decide (j6 = (1 : Int)))
  (cond (decide (xq1.2.1 ≠ k1))
  (some ((-1 : Int), (())))
  (rec a0 (IntKind.i64.wrap (k1 + (1 : Int))) i5 (IntKind.i64.wrap (j6 + (1 : Int)))))
  (none)))
  (k a0 k1 i5)
def zz78_a5 (rec : (List (Int × (Int × Unit))) → Int → Int → Option (Int × Unit)) (a0 : (List (Int × (Int × Unit)))) (k1 : Int) (i5 : Int) : Option (Int × Unit) :=
  rec a0 k1 (IntKind.i64.wrap (i5 + (1 : Int)))
def zz78_b2 (L5 : (List (Int × (Int × Unit))) → Int → Int → Int → Option (Int × Unit)) (k : Int → Option (Int × Unit)) (a0 : (List (Int × (Int × Unit)))) (k1 : Int) (i5 : Int) : Option (Int × Unit) :=
  cond (decide (i5 < (a0.length : Int)))
  (L5 a0 k1 i5 (0 : Int))
  (k k1)
def zz78_a2 (k1 : Int) : Option (Int × Unit) :=
  some (k1, (()))
def zz78_s (L2 : (List (Int × (Int × Unit))) → Int → Int → Option (Int × Unit)) (a_0 : (List (Int × (Int × Unit)))) (k_1 : Int) : Option (Int × Unit) :=
  L2 a_0 k_1 (0 : Int)
def zz78_l5 (N : Nat) (k : (List (Int × (Int × Unit))) → Int → Int → Option (Int × Unit)) : Nat → (List (Int × (Int × Unit))) → Int → Int → Int → Option (Int × Unit)
  | 0, _, _, _, _ => none
  | m + 1, a0, k1, i5, j6 => zz78_b5 (zz78_l5 N k m) k a0 k1 i5 j6
def zz78_F5 (N : Nat) (rec : (List (Int × (Int × Unit))) → Int → Int → Option (Int × Unit)) (k : Int → Option (Int × Unit)) (a0 : (List (Int × (Int × Unit)))) (k1 : Int) (i5 : Int) (j6 : Int) : Option (Int × Unit) := zz78_l5 N (zz78_a5 rec) N a0 k1 i5 j6
def zz78_l2 (N : Nat) (k : Int → Option (Int × Unit)) : Nat → (List (Int × (Int × Unit))) → Int → Int → Option (Int × Unit)
  | 0, _, _, _ => none
  | m + 1, a0, k1, i5 => zz78_b2 (zz78_F5 N (zz78_l2 N k m) k) k a0 k1 i5
def zz78_F2 (N : Nat) (a0 : (List (Int × (Int × Unit)))) (k1 : Int) (i5 : Int) : Option (Int × Unit) := zz78_l2 N (zz78_a2) N a0 k1 i5
def zz78 (N : Nat) (a_0 : (List (Int × (Int × Unit)))) (k_1 : Int) : Option (Int × Unit) := zz78_s (zz78_F2 N) a_0 k_1
def S_zz78 : Sig := { a := (.pair (.sl (.pair I (.pair I .unit))) (.pair I .unit)), md := [0, 0], mf := [], m := .unit, r := I, rf := .i, f := fun x => zz78 big x.1 x.2.1 }
def A_zz78 : Cfg := mkCfg tab [] [(4, [.as (.sl (.pair I (.pair I .unit))) .i, .as I .i, .drop, .drop, .drop, .as I .i]), (10, [.as (.sl (.pair I (.pair I .unit))) .i, .as I .i, .drop, .drop, .drop, .as I .i, .as I .i]), (21, [.drop, .as I .i]), (7, [.as (.sl (.pair I (.pair I .unit))) .i, .as I .i, .drop, .drop, .drop, .as I .i])]
noncomputable def zz78_R2 (N n : Nat) (K : Ex → St → Option (Int × Unit)) (a0 : (List (Int × (Int × Unit)))) (k1 : Int) (i5 : Int) : Option (Int × Unit) := iter ((A_zz78).shape 4) (run (A_zz78) N (codeAt Try.f33 [1, 0, 1, 0, 0])) n ([.val (.sl (.pair I (.pair I .unit))) .i a0, .val I .i k1, .u, .u, .u, .val I .i i5] ++ List.replicate 22 .u) K
noncomputable def zz78_R5 (N n : Nat) (K : Ex → St → Option (Int × Unit)) (a0 : (List (Int × (Int × Unit)))) (k1 : Int) (i5 : Int) (j6 : Int) : Option (Int × Unit) := iter ((A_zz78).shape 10) (run (A_zz78) N (codeAt Try.f33 [1, 0, 1, 0, 0, 1, 0, 0, 1, 0, 0])) n ([.val (.sl (.pair I (.pair I .unit))) .i a0, .val I .i k1, .u, .u, .u, .val I .i i5, .val I .i j6] ++ List.replicate 21 .u) K
noncomputable abbrev zz78_z : Ex → St → Option (Int × Unit) := finish (A_zz78) S_zz78 Try.f33.results.toList
noncomputable abbrev zz78_X2 (kX : St → Option (Int × Unit)) : Int → Option (Int × Unit) := fun (k1 : Int) => kX ([.u, .val I .i k1] ++ List.replicate 26 .u)
noncomputable abbrev zz78_E2 (kX : St → Option (Int × Unit)) (kO : Nat → St → Option (Int × Unit)) : Ex → St → Option (Int × Unit) := exK zz78_z 0 ((A_zz78).shape 21) kX kO
noncomputable abbrev zz78_X5 (kX : St → Option (Int × Unit)) : (List (Int × (Int × Unit))) → Int → Int → Option (Int × Unit) := fun (a0 : (List (Int × (Int × Unit)))) (k1 : Int) (i5 : Int) => kX ([.val (.sl (.pair I (.pair I .unit))) .i a0, .val I .i k1, .u, .u, .u, .val I .i i5] ++ List.replicate 22 .u)
noncomputable abbrev zz78_E5 (kX : St → Option (Int × Unit)) (kO : Nat → St → Option (Int × Unit)) : Ex → St → Option (Int × Unit) := exK zz78_z 2 ((A_zz78).shape 7) kX kO
theorem zz78_step5 (N : Nat) (m : Nat) (kX : St → Option (Int × Unit)) (kO : Nat → St → Option (Int × Unit)) (a0 : (List (Int × (Int × Unit)))) (k1 : Int) (i5 : Int) (j6 : Int) : zz78_R5 N (m + 1) (zz78_E5 kX kO) a0 k1 i5 j6 = zz78_b5 (zz78_R5 N m (zz78_E5 kX kO)) (zz78_X5 kX) a0 k1 i5 j6 := by kernel_rfl
theorem zz78_iter5 (N : Nat) (kX : St → Option (Int × Unit)) (kO : Nat → St → Option (Int × Unit)) : ∀ (n : Nat) (a0 : (List (Int × (Int × Unit)))) (k1 : Int) (i5 : Int) (j6 : Int), zz78_R5 N n (zz78_E5 kX kO) a0 k1 i5 j6 = zz78_l5 N (zz78_X5 kX) n a0 k1 i5 j6
  | 0, _, _, _, _ => rfl
  | m + 1, a0, k1, i5, j6 => by
    have hrec : zz78_R5 N m (zz78_E5 kX kO) = (zz78_l5 N (zz78_X5 kX) m) := (funext fun a0 => (funext fun k1 => (funext fun i5 => (funext fun j6 => zz78_iter5 N kX kO m a0 k1 i5 j6))))
    refine (zz78_step5 N m kX kO a0 k1 i5 j6).trans ?_
    rw [hrec]
    rfl
noncomputable abbrev zz78_K5 (N : Nat) (m : Nat) (kX : St → Option (Int × Unit)) (kO : Nat → St → Option (Int × Unit)) : Ex → St → Option (Int × Unit) := (blockK 2 (blockK 1 (seqK ((A_zz78).shape 7) (run (A_zz78) N (codeAt Try.f33 [1, 0, 1, 0, 0, 1, 1])) (iterK ((A_zz78).shape 4) (run (A_zz78) N (codeAt Try.f33 [1, 0, 1, 0, 0])) m (zz78_E2 kX kO)))))
noncomputable abbrev zz78_k5 (N : Nat) (m : Nat) (kX : St → Option (Int × Unit)) (kO : Nat → St → Option (Int × Unit)) : St → Option (Int × Unit) := fun st' => run (A_zz78) N (codeAt Try.f33 [1, 0, 1, 0, 0, 1, 1]) st' (iterK ((A_zz78).shape 4) (run (A_zz78) N (codeAt Try.f33 [1, 0, 1, 0, 0])) m (zz78_E2 kX kO))
theorem zz78_after5 (N : Nat) (m : Nat) (kX : St → Option (Int × Unit)) (kO : Nat → St → Option (Int × Unit)) (a0 : (List (Int × (Int × Unit)))) (k1 : Int) (i5 : Int) : zz78_X5 (zz78_k5 N m kX kO) a0 k1 i5 = zz78_a5 (zz78_R2 N m (zz78_E2 kX kO)) a0 k1 i5 := by kernel_rfl
theorem zz78_in5 (N : Nat) (m : Nat) (kX : St → Option (Int × Unit)) (kO : Nat → St → Option (Int × Unit)) (recF : (List (Int × (Int × Unit))) → Int → Int → Option (Int × Unit)) (hrec : zz78_R2 N m (zz78_E2 kX kO) = recF) (a0 : (List (Int × (Int × Unit)))) (k1 : Int) (i5 : Int) (j6 : Int) : zz78_R5 N N (zz78_K5 N m kX kO) a0 k1 i5 j6 = zz78_F5 N recF (zz78_X2 kX) a0 k1 i5 j6 :=
  have h : zz78_X5 (zz78_k5 N m kX kO) = (zz78_a5 recF) := (funext fun a0 => (funext fun k1 => (funext fun i5 => (zz78_after5 N m kX kO a0 k1 i5).trans (by rw [hrec]))))
  ((iter_ex (fun st => by kernel_rfl) (fun st => by kernel_rfl)).trans (zz78_iter5 N (zz78_k5 N m kX kO) (fun j st => (zz78_K5 N m kX kO) (.exit j) st) N a0 k1 i5 j6)).trans (congrArg (fun k => zz78_l5 N k N a0 k1 i5 j6) h)
theorem zz78_step2 (N : Nat) (m : Nat) (kX : St → Option (Int × Unit)) (kO : Nat → St → Option (Int × Unit)) (a0 : (List (Int × (Int × Unit)))) (k1 : Int) (i5 : Int) : zz78_R2 N (m + 1) (zz78_E2 kX kO) a0 k1 i5 = zz78_b2 (zz78_R5 N N (zz78_K5 N m kX kO)) (zz78_X2 kX) a0 k1 i5 := by kernel_rfl
theorem zz78_iter2 (N : Nat) (kX : St → Option (Int × Unit)) (kO : Nat → St → Option (Int × Unit)) : ∀ (n : Nat) (a0 : (List (Int × (Int × Unit)))) (k1 : Int) (i5 : Int), zz78_R2 N n (zz78_E2 kX kO) a0 k1 i5 = zz78_l2 N (zz78_X2 kX) n a0 k1 i5
  | 0, _, _, _ => rfl
  | m + 1, a0, k1, i5 => by
    have hrec : zz78_R2 N m (zz78_E2 kX kO) = (zz78_l2 N (zz78_X2 kX) m) := (funext fun a0 => (funext fun k1 => (funext fun i5 => zz78_iter2 N kX kO m a0 k1 i5)))
    refine (zz78_step2 N m kX kO a0 k1 i5).trans ?_
    rw [(funext fun a0 => (funext fun k1 => (funext fun i5 => (funext fun j6 => zz78_in5 N m kX kO (zz78_l2 N (zz78_X2 kX) m) hrec a0 k1 i5 j6))))]
    rfl
noncomputable abbrev zz78_K2 (N : Nat) : Ex → St → Option (Int × Unit) := (blockK 0 (seqK ((A_zz78).shape 21) (run (A_zz78) N (codeAt Try.f33 [1, 1])) zz78_z))
noncomputable abbrev zz78_k2 (N : Nat) : St → Option (Int × Unit) := fun st' => run (A_zz78) N (codeAt Try.f33 [1, 1]) st' zz78_z
theorem zz78_after2 (N : Nat) (k1 : Int) : zz78_X2 (zz78_k2 N) k1 = zz78_a2 k1 := by kernel_rfl
theorem zz78_in2 (N : Nat) (a0 : (List (Int × (Int × Unit)))) (k1 : Int) (i5 : Int) : zz78_R2 N N (zz78_K2 N) a0 k1 i5 = zz78_F2 N a0 k1 i5 :=
  have h : zz78_X2 (zz78_k2 N) = (zz78_a2) := (funext fun k1 => zz78_after2 N k1)
  ((iter_ex (fun st => by kernel_rfl) (fun st => by kernel_rfl)).trans (zz78_iter2 N (zz78_k2 N) (fun j st => (zz78_K2 N) (.exit j) st) N a0 k1 i5)).trans (congrArg (fun k => zz78_l2 N k N a0 k1 i5) h)
theorem run0_zz78 (N : Nat) (x : (S_zz78).a.den) : runF (A_zz78) N Try.f33 S_zz78 x = (zz78_s (zz78_R2 N N (zz78_K2 N)) x.1 x.2.1) := by kernel_rfl
theorem run_zz78 (N : Nat) (x : (S_zz78).a.den) : runF (A_zz78) N Try.f33 S_zz78 x = zz78 N x.1 x.2.1 := by
  refine (run0_zz78 N x).trans ?_
  rw [(funext fun a0 => (funext fun k1 => (funext fun i5 => zz78_in2 N a0 k1 i5)))]
  rfl
theorem fn_zz78 : FnOk Try.prog 33 := ⟨_, Try.func33, by kernel_rfl, by kernel_rfl⟩
theorem good_zz78 : Gx.Good Try.prog 33 S_zz78 := good_of_run Try.func33 (of_decide_eq_true (by kernel_rfl)) fun x r h => ⟨A_zz78, big, mkCfg_ok tabOk, mkCfg_sigs (show SigsOk Try.prog [] from trivial), (run_zz78 big x).trans h⟩

/-! laws_FnExactEdgesOf -/
def laws_FnExactEdgesOf_s (aP_0 : Y2) : Option (Bool × Unit) :=
  (zz2 aP_0 (1048576 : Int)).bind fun rq1 =>
  cond (decide (rq1.1 < (0 : Int)))
  (some (true, (())))
  ((zz5 aP_0).bind fun rq2 =>
  (zz71 rq2.1).bind fun rq3 =>
  (zz5 aP_0).bind fun rq4 =>
  (zz74 rq4.1).bind fun rq5 =>
  (zz76 big rq5.1.1 rq3.1.1).bind fun rq6 =>
  cond (!rq6.1)
  (some (false, (())))
  (cond (((((), rq5.1.2).2).1) != ((((), rq3.1.2).2).1))
  (some (false, (())))
  ((zz5 aP_0).bind fun rq7 =>
  (zz49 rq4.1 rq7.1).bind fun rq8 =>
  cond (!rq8.1)
  (some (false, (())))
  ((zz52 rq4.1 (1 : Int)).bind fun rq9 =>
  cond (decide (rq9.1 < (0 : Int)))
  (some (false, (())))
  ((zz76 big rq5.1.1 rq3.1.1).bind fun rq10 =>
  cond (!rq10.1)
  (some (false, (())))
  (cond (((((), rq5.1.2).2).1) != ((((), rq3.1.2).2).1))
  (some (false, (())))
  ((zz77 big rq5.1.1 (1 : Int)).bind fun rq11 =>
  (zz78 big rq11.2.1 (1 : Int)).bind fun rq12 =>
  cond (decide (rq12.1 < (0 : Int)))
  (some (false, (())))
  (cond (decide (rq12.1 ≠ rq11.1))
  (some (false, (())))
  ((zz5 aP_0).bind fun rq13 =>
  (zz74 rq13.1).bind fun rq14 =>
  (zz76 big rq14.1.1 rq3.1.1).bind fun rq15 =>
  cond (!rq15.1)
  (some (false, (())))
  (cond (((((), rq14.1.2).2).1) != ((((), rq3.1.2).2).1))
  (some (false, (())))
  ((zz78 big rq11.2.1 (1 : Int)).bind fun rq16 =>
  cond (decide (rq16.1 < (0 : Int)))
  (some (false, (())))
  (cond (decide (rq16.1 ≠ rq11.1))
  (some (false, (())))
  (some (true, (())))))))))))))))
def laws_FnExactEdgesOf (aP_0 : Y2) : Option (Bool × Unit) := laws_FnExactEdgesOf_s aP_0
def S_laws_FnExactEdgesOf : Sig := { a := (.pair (.pair (.sl (.sl I)) .unit) .unit), md := [0], mf := [], m := .unit, r := .bool, rf := .i, f := fun x => laws_FnExactEdgesOf x.1 }
def A_laws_FnExactEdgesOf : Cfg := mkCfg tab [(15, S_zz2), (17, S_zz5), (29, S_zz71), (30, S_zz74), (31, S_zz76), (20, S_zz49), (21, S_zz52), (32, S_zz77), (33, S_zz78)] []
theorem run_laws_FnExactEdgesOf (N : Nat) (x : (S_laws_FnExactEdgesOf).a.den) : runF (A_laws_FnExactEdgesOf) N Try.f5 S_laws_FnExactEdgesOf x = laws_FnExactEdgesOf x.1 := by kernel_rfl
theorem fn_laws_FnExactEdgesOf : FnOk Try.prog 5 := ⟨_, Try.func5, by kernel_rfl, by kernel_rfl⟩
theorem good_laws_FnExactEdgesOf : Gx.Good Try.prog 5 S_laws_FnExactEdgesOf := good_of_run Try.func5 (of_decide_eq_true (by kernel_rfl)) fun x r h => ⟨A_laws_FnExactEdgesOf, big, mkCfg_ok tabOk, mkCfg_sigs (show SigsOk Try.prog [(15, S_zz2), (17, S_zz5), (29, S_zz71), (30, S_zz74), (31, S_zz76), (20, S_zz49), (21, S_zz52), (32, S_zz77), (33, S_zz78)] from ⟨⟨fn_zz2, good_zz2⟩, ⟨fn_zz5, good_zz5⟩, ⟨fn_zz71, good_zz71⟩, ⟨fn_zz74, good_zz74⟩, ⟨fn_zz76, good_zz76⟩, ⟨fn_zz49, good_zz49⟩, ⟨fn_zz52, good_zz52⟩, ⟨fn_zz77, good_zz77⟩, ⟨fn_zz78, good_zz78⟩, trivial⟩), (run_laws_FnExactEdgesOf big x).trans h⟩

/-! zz79 -/
def zz79_b2 (rec : Y4 → Int → Option (Bool × Unit)) (k : Option (Bool × Unit)) (list0 : Y4) (i3 : Int) : Option (Bool × Unit) :=
  cond (decide (i3 < (list0.length : Int)))
  ((slI list0 0 i3).bind fun xq1 =>
  (atI list0 i3).bind fun xq2 =>
  (zz8 big xq1 xq2).bind fun rq3 =>
  cond rq3.1
  (some (false, (())))
  (rec list0 (IntKind.i64.wrap (i3 + (1 : Int)))))
  (k)
def zz79_a2 : Option (Bool × Unit) :=
  some (true, (()))
def zz79_s (L2 : Y4 → Int → Option (Bool × Unit)) (list_0 : Y4) : Option (Bool × Unit) :=
  L2 list_0 (0 : Int)
def zz79_l2 (N : Nat) (k : Option (Bool × Unit)) : Nat → Y4 → Int → Option (Bool × Unit)
  | 0, _, _ => none
  | m + 1, list0, i3 => zz79_b2 (zz79_l2 N k m) k list0 i3
def zz79_F2 (N : Nat) (list0 : Y4) (i3 : Int) : Option (Bool × Unit) := zz79_l2 N (zz79_a2) N list0 i3
def zz79 (N : Nat) (list_0 : Y4) : Option (Bool × Unit) := zz79_s (zz79_F2 N) list_0
def S_zz79 : Sig := { a := (.pair (.sl I) .unit), md := [0], mf := [], m := .unit, r := .bool, rf := .i, f := fun x => zz79 big x.1 }
def A_zz79 : Cfg := mkCfg tab [(125, S_zz8)] [(4, [.as (.sl I) .i, .drop, .drop, .as I .i]), (13, [])]
noncomputable def zz79_R2 (N n : Nat) (K : Ex → St → Option (Bool × Unit)) (list0 : Y4) (i3 : Int) : Option (Bool × Unit) := iter ((A_zz79).shape 4) (run (A_zz79) N (codeAt Try.f78 [1, 0, 1, 0, 0])) n ([.val (.sl I) .i list0, .u, .u, .val I .i i3] ++ List.replicate 14 .u) K
noncomputable abbrev zz79_z : Ex → St → Option (Bool × Unit) := finish (A_zz79) S_zz79 Try.f78.results.toList
noncomputable abbrev zz79_X2 (kX : St → Option (Bool × Unit)) : Option (Bool × Unit) := kX ([] ++ List.replicate 18 .u)
noncomputable abbrev zz79_E2 (kX : St → Option (Bool × Unit)) (kO : Nat → St → Option (Bool × Unit)) : Ex → St → Option (Bool × Unit) := exK zz79_z 0 ((A_zz79).shape 13) kX kO
theorem zz79_step2 (N : Nat) (m : Nat) (kX : St → Option (Bool × Unit)) (kO : Nat → St → Option (Bool × Unit)) (list0 : Y4) (i3 : Int) : zz79_R2 N (m + 1) (zz79_E2 kX kO) list0 i3 = zz79_b2 (zz79_R2 N m (zz79_E2 kX kO)) (zz79_X2 kX) list0 i3 := by kernel_rfl
theorem zz79_iter2 (N : Nat) (kX : St → Option (Bool × Unit)) (kO : Nat → St → Option (Bool × Unit)) : ∀ (n : Nat) (list0 : Y4) (i3 : Int), zz79_R2 N n (zz79_E2 kX kO) list0 i3 = zz79_l2 N (zz79_X2 kX) n list0 i3
  | 0, _, _ => rfl
  | m + 1, list0, i3 => by
    have hrec : zz79_R2 N m (zz79_E2 kX kO) = (zz79_l2 N (zz79_X2 kX) m) := (funext fun list0 => (funext fun i3 => zz79_iter2 N kX kO m list0 i3))
    refine (zz79_step2 N m kX kO list0 i3).trans ?_
    rw [hrec]
    rfl
noncomputable abbrev zz79_K2 (N : Nat) : Ex → St → Option (Bool × Unit) := (blockK 0 (seqK ((A_zz79).shape 13) (run (A_zz79) N (codeAt Try.f78 [1, 1])) zz79_z))
noncomputable abbrev zz79_k2 (N : Nat) : St → Option (Bool × Unit) := fun st' => run (A_zz79) N (codeAt Try.f78 [1, 1]) st' zz79_z
theorem zz79_after2 (N : Nat) : zz79_X2 (zz79_k2 N) = zz79_a2 := by kernel_rfl
theorem zz79_in2 (N : Nat) (list0 : Y4) (i3 : Int) : zz79_R2 N N (zz79_K2 N) list0 i3 = zz79_F2 N list0 i3 :=
  have h : zz79_X2 (zz79_k2 N) = (zz79_a2) := zz79_after2 N
  ((iter_ex (fun st => by kernel_rfl) (fun st => by kernel_rfl)).trans (zz79_iter2 N (zz79_k2 N) (fun j st => (zz79_K2 N) (.exit j) st) N list0 i3)).trans (congrArg (fun k => zz79_l2 N k N list0 i3) h)
theorem run0_zz79 (N : Nat) (x : (S_zz79).a.den) : runF (A_zz79) N Try.f78 S_zz79 x = (zz79_s (zz79_R2 N N (zz79_K2 N)) x.1) := by kernel_rfl
theorem run_zz79 (N : Nat) (x : (S_zz79).a.den) : runF (A_zz79) N Try.f78 S_zz79 x = zz79 N x.1 := by
  refine (run0_zz79 N x).trans ?_
  rw [(funext fun list0 => (funext fun i3 => zz79_in2 N list0 i3))]
  rfl
theorem fn_zz79 : FnOk Try.prog 78 := ⟨_, Try.func78, by kernel_rfl, by kernel_rfl⟩
theorem good_zz79 : Gx.Good Try.prog 78 S_zz79 := good_of_run Try.func78 (of_decide_eq_true (by kernel_rfl)) fun x r h => ⟨A_zz79, big, mkCfg_ok tabOk, mkCfg_sigs (show SigsOk Try.prog [(125, S_zz8)] from ⟨⟨fn_zz8, good_zz8⟩, trivial⟩), (run_zz79 big x).trans h⟩

/-! zz80 -/
def zz80_b2 (rec : Y4 → Y4 → Int → Option (Bool × Unit)) (k : Option (Bool × Unit)) (a0 : Y4) (b1 : Y4) (i5 : Int) : Option (Bool × Unit) :=
  cond (decide (i5 < (a0.length : Int)))
  ((atI a0 i5).bind fun xq1 =>
  (atI b1 i5).bind fun xq2 =>
  cond (decide (xq1 ≠ xq2))
  ((atI a0 i5).bind fun xq3 =>
  (atI b1 i5).bind fun xq4 =>
  some (decide (xq3 < xq4), (())))
  (rec a0 b1 (IntKind.i64.wrap (i5 + (1 : Int)))))
  (k)
def zz80_a2 : Option (Bool × Unit) :=
  some (false, (()))
def zz80_s (L2 : Y4 → Y4 → Int → Option (Bool × Unit)) (a_0 : Y4) (b_1 : Y4) : Option (Bool × Unit) :=
  L2 a_0 b_1 (0 : Int)
def zz80_l2 (N : Nat) (k : Option (Bool × Unit)) : Nat → Y4 → Y4 → Int → Option (Bool × Unit)
  | 0, _, _, _ => none
  | m + 1, a0, b1, i5 => zz80_b2 (zz80_l2 N k m) k a0 b1 i5
def zz80_F2 (N : Nat) (a0 : Y4) (b1 : Y4) (i5 : Int) : Option (Bool × Unit) := zz80_l2 N (zz80_a2) N a0 b1 i5
def zz80 (N : Nat) (a_0 : Y4) (b_1 : Y4) : Option (Bool × Unit) := zz80_s (zz80_F2 N) a_0 b_1
def S_zz80 : Sig := { a := (.pair (.sl I) (.pair (.sl I) .unit)), md := [0, 0], mf := [], m := .unit, r := .bool, rf := .i, f := fun x => zz80 big x.1 x.2.1 }
def A_zz80 : Cfg := mkCfg tab [] [(4, [.as (.sl I) .i, .as (.sl I) .i, .drop, .drop, .drop, .as I .i]), (13, [])]
noncomputable def zz80_R2 (N n : Nat) (K : Ex → St → Option (Bool × Unit)) (a0 : Y4) (b1 : Y4) (i5 : Int) : Option (Bool × Unit) := iter ((A_zz80).shape 4) (run (A_zz80) N (codeAt Try.f79 [1, 0, 1, 0, 0])) n ([.val (.sl I) .i a0, .val (.sl I) .i b1, .u, .u, .u, .val I .i i5] ++ List.replicate 24 .u) K
noncomputable abbrev zz80_z : Ex → St → Option (Bool × Unit) := finish (A_zz80) S_zz80 Try.f79.results.toList
noncomputable abbrev zz80_X2 (kX : St → Option (Bool × Unit)) : Option (Bool × Unit) := kX ([] ++ List.replicate 30 .u)
noncomputable abbrev zz80_E2 (kX : St → Option (Bool × Unit)) (kO : Nat → St → Option (Bool × Unit)) : Ex → St → Option (Bool × Unit) := exK zz80_z 0 ((A_zz80).shape 13) kX kO
theorem zz80_step2 (N : Nat) (m : Nat) (kX : St → Option (Bool × Unit)) (kO : Nat → St → Option (Bool × Unit)) (a0 : Y4) (b1 : Y4) (i5 : Int) : zz80_R2 N (m + 1) (zz80_E2 kX kO) a0 b1 i5 = zz80_b2 (zz80_R2 N m (zz80_E2 kX kO)) (zz80_X2 kX) a0 b1 i5 := by kernel_rfl
theorem zz80_iter2 (N : Nat) (kX : St → Option (Bool × Unit)) (kO : Nat → St → Option (Bool × Unit)) : ∀ (n : Nat) (a0 : Y4) (b1 : Y4) (i5 : Int), zz80_R2 N n (zz80_E2 kX kO) a0 b1 i5 = zz80_l2 N (zz80_X2 kX) n a0 b1 i5
  | 0, _, _, _ => rfl
  | m + 1, a0, b1, i5 => by
    have hrec : zz80_R2 N m (zz80_E2 kX kO) = (zz80_l2 N (zz80_X2 kX) m) := (funext fun a0 => (funext fun b1 => (funext fun i5 => zz80_iter2 N kX kO m a0 b1 i5)))
    refine (zz80_step2 N m kX kO a0 b1 i5).trans ?_
    rw [hrec]
    rfl
noncomputable abbrev zz80_K2 (N : Nat) : Ex → St → Option (Bool × Unit) := (blockK 0 (seqK ((A_zz80).shape 13) (run (A_zz80) N (codeAt Try.f79 [1, 1])) zz80_z))
noncomputable abbrev zz80_k2 (N : Nat) : St → Option (Bool × Unit) := fun st' => run (A_zz80) N (codeAt Try.f79 [1, 1]) st' zz80_z
theorem zz80_after2 (N : Nat) : zz80_X2 (zz80_k2 N) = zz80_a2 := by kernel_rfl
theorem zz80_in2 (N : Nat) (a0 : Y4) (b1 : Y4) (i5 : Int) : zz80_R2 N N (zz80_K2 N) a0 b1 i5 = zz80_F2 N a0 b1 i5 :=
  have h : zz80_X2 (zz80_k2 N) = (zz80_a2) := zz80_after2 N
  ((iter_ex (fun st => by kernel_rfl) (fun st => by kernel_rfl)).trans (zz80_iter2 N (zz80_k2 N) (fun j st => (zz80_K2 N) (.exit j) st) N a0 b1 i5)).trans (congrArg (fun k => zz80_l2 N k N a0 b1 i5) h)
theorem run0_zz80 (N : Nat) (x : (S_zz80).a.den) : runF (A_zz80) N Try.f79 S_zz80 x = (zz80_s (zz80_R2 N N (zz80_K2 N)) x.1 x.2.1) := by kernel_rfl
theorem run_zz80 (N : Nat) (x : (S_zz80).a.den) : runF (A_zz80) N Try.f79 S_zz80 x = zz80 N x.1 x.2.1 := by
  refine (run0_zz80 N x).trans ?_
  rw [(funext fun a0 => (funext fun b1 => (funext fun i5 => zz80_in2 N a0 b1 i5)))]
  rfl
theorem fn_zz80 : FnOk Try.prog 79 := ⟨_, Try.func79, by kernel_rfl, by kernel_rfl⟩
theorem good_zz80 : Gx.Good Try.prog 79 S_zz80 := good_of_run Try.func79 (of_decide_eq_true (by kernel_rfl)) fun x r h => ⟨A_zz80, big, mkCfg_ok tabOk, mkCfg_sigs (show SigsOk Try.prog [] from trivial), (run_zz80 big x).trans h⟩

/-! zz81 -/
def zz81_b12 (rec : Y2 → Int → Y4 → Int → Int → Int → Option ((Y4 × (Bool × Unit)) × Unit)) (k : Y2 → Int → Y4 → Int → Int → Option ((Y4 × (Bool × Unit)) × Unit)) (p1 : Y2) (n4 : Int) (best5 : Y4) (x6 : Int) (y7 : Int) (z8 : Int) : Option ((Y4 × (Bool × Unit)) × Unit) :=
  cond (decide (z8 < n4))
  ((zz17 p1 x6 y7).bind fun rq2 =>
  (zz18 p1 x6 y7).bind fun rq3 =>
  (zz17 p1 x6 z8).bind fun rq4 =>
  cond (decide (rq4.1 ≠ rq2.1))
  (rec p1 n4 best5 x6 y7 (IntKind.i64.wrap (z8 + (1 : Int))))
  ((zz17 p1 y7 z8).bind fun rq5 =>
  cond (decide (rq5.1 ≠ rq2.1))
  (rec p1 n4 best5 x6 y7 (IntKind.i64.wrap (z8 + (1 : Int))))
  ((zz18 p1 x6 z8).bind fun rq6 =>
  cond (decide (rq6.1 ≠ rq3.1))
  (rec p1 n4 best5 x6 y7 (IntKind.i64.wrap (z8 + (1 : Int))))
  ((zz18 p1 y7 z8).bind fun rq7 =>
  cond (decide (rq7.1 ≠ rq3.1))
  (rec p1 n4 best5 x6 y7 (IntKind.i64.wrap (z8 + (1 : Int))))
  ((zz79 big [rq2.1, x6, y7, z8, rq3.1]).bind fun rq8 =>
  cond rq8.1
  (cond (decide ((best5.length : Int) = (0 : Int)))
  (rec p1 n4 [rq2.1, x6, y7, z8, rq3.1] x6 y7 (IntKind.i64.wrap (z8 + (1 : Int))))
  ((zz80 big [rq2.1, x6, y7, z8, rq3.1] best5).bind fun rq9 =>
  cond rq9.1
  (rec p1 n4 [rq2.1, x6, y7, z8, rq3.1] x6 y7 (IntKind.i64.wrap (z8 + (1 : Int))))
  (rec p1 n4 best5 x6 y7 (IntKind.i64.wrap (z8 + (1 : Int))))))
  (rec p1 n4 best5 x6 y7 (IntKind.i64.wrap (z8 + (1 : Int)))))))))
  (k p1 n4 best5 x6 y7)
def zz81_a12 (rec : Y2 → Int → Y4 → Int → Int → Option ((Y4 × (Bool × Unit)) × Unit)) (p1 : Y2) (n4 : Int) (best5 : Y4) (x6 : Int) (y7 : Int) : Option ((Y4 × (Bool × Unit)) × Unit) :=
  rec p1 n4 best5 x6 (IntKind.i64.wrap (y7 + (1 : Int)))
def zz81_b9 (L12 : Y2 → Int → Y4 → Int → Int → Int → Option ((Y4 × (Bool × Unit)) × Unit)) (k : Y2 → Int → Y4 → Int → Option ((Y4 × (Bool × Unit)) × Unit)) (p1 : Y2) (n4 : Int) (best5 : Y4) (x6 : Int) (y7 : Int) : Option ((Y4 × (Bool × Unit)) × Unit) :=
  cond (decide (y7 < n4))
  (L12 p1 n4 best5 x6 y7 (0 : Int))
  (k p1 n4 best5 x6)
def zz81_a9 (rec : Y2 → Int → Y4 → Int → Option ((Y4 × (Bool × Unit)) × Unit)) (p1 : Y2) (n4 : Int) (best5 : Y4) (x6 : Int) : Option ((Y4 × (Bool × Unit)) × Unit) :=
  rec p1 n4 best5 (IntKind.i64.wrap (x6 + (1 : Int)))
def zz81_b6 (L9 : Y2 → Int → Y4 → Int → Int → Option ((Y4 × (Bool × Unit)) × Unit)) (k : Y4 → Option ((Y4 × (Bool × Unit)) × Unit)) (p1 : Y2) (n4 : Int) (best5 : Y4) (x6 : Int) : Option ((Y4 × (Bool × Unit)) × Unit) :=
  cond (decide (x6 < n4))
  (L9 p1 n4 best5 x6 (0 : Int))
  (k best5)
def zz81_a6 (best5 : Y4) : Option ((Y4 × (Bool × Unit)) × Unit) :=
  some ((best5, decide ((0 : Int) < (best5.length : Int)), ()), (()))
def zz81_s (L6 : Y2 → Int → Y4 → Int → Option ((Y4 × (Bool × Unit)) × Unit)) (p_0 : Y2) : Option ((Y4 × (Bool × Unit)) × Unit) :=
  (zz14 big p_0).bind fun rq1 =>
  cond (!rq1.1)
  (some (([], false, ()), (())))
  (L6 p_0 (p_0.1.length : Int) [] (0 : Int))
def zz81_l12 (N : Nat) (k : Y2 → Int → Y4 → Int → Int → Option ((Y4 × (Bool × Unit)) × Unit)) : Nat → Y2 → Int → Y4 → Int → Int → Int → Option ((Y4 × (Bool × Unit)) × Unit)
  | 0, _, _, _, _, _, _ => none
  | m + 1, p1, n4, best5, x6, y7, z8 => zz81_b12 (zz81_l12 N k m) k p1 n4 best5 x6 y7 z8
def zz81_F12 (N : Nat) (rec : Y2 → Int → Y4 → Int → Int → Option ((Y4 × (Bool × Unit)) × Unit)) (k : Y2 → Int → Y4 → Int → Option ((Y4 × (Bool × Unit)) × Unit)) (p1 : Y2) (n4 : Int) (best5 : Y4) (x6 : Int) (y7 : Int) (z8 : Int) : Option ((Y4 × (Bool × Unit)) × Unit) := zz81_l12 N (zz81_a12 rec) N p1 n4 best5 x6 y7 z8
def zz81_l9 (N : Nat) (k : Y2 → Int → Y4 → Int → Option ((Y4 × (Bool × Unit)) × Unit)) : Nat → Y2 → Int → Y4 → Int → Int → Option ((Y4 × (Bool × Unit)) × Unit)
  | 0, _, _, _, _, _ => none
  | m + 1, p1, n4, best5, x6, y7 => zz81_b9 (zz81_F12 N (zz81_l9 N k m) k) k p1 n4 best5 x6 y7
def zz81_F9 (N : Nat) (rec : Y2 → Int → Y4 → Int → Option ((Y4 × (Bool × Unit)) × Unit)) (k : Y4 → Option ((Y4 × (Bool × Unit)) × Unit)) (p1 : Y2) (n4 : Int) (best5 : Y4) (x6 : Int) (y7 : Int) : Option ((Y4 × (Bool × Unit)) × Unit) := zz81_l9 N (zz81_a9 rec) N p1 n4 best5 x6 y7
def zz81_l6 (N : Nat) (k : Y4 → Option ((Y4 × (Bool × Unit)) × Unit)) : Nat → Y2 → Int → Y4 → Int → Option ((Y4 × (Bool × Unit)) × Unit)
  | 0, _, _, _, _ => none
  | m + 1, p1, n4, best5, x6 => zz81_b6 (zz81_F9 N (zz81_l6 N k m) k) k p1 n4 best5 x6
def zz81_F6 (N : Nat) (p1 : Y2) (n4 : Int) (best5 : Y4) (x6 : Int) : Option ((Y4 × (Bool × Unit)) × Unit) := zz81_l6 N (zz81_a6) N p1 n4 best5 x6
def zz81 (N : Nat) (p_0 : Y2) : Option ((Y4 × (Bool × Unit)) × Unit) := zz81_s (zz81_F6 N) p_0
def S_zz81 : Sig := { a := (.pair (.pair (.sl (.sl I)) .unit) .unit), md := [0], mf := [], m := .unit, r := (.tup (.pair (.sl I) (.pair .bool .unit))), rf := (.p (.o .i) .i), f := fun x => zz81 big x.1 }
def A_zz81 : Cfg := mkCfg tab [(57, S_zz14), (76, S_zz17), (77, S_zz18), (78, S_zz79), (79, S_zz80)] [(12, [.drop, .as (.ptr (.pair (.sl (.sl I)) .unit)) (.o .i), .drop, .drop, .as I .i, .as (.sl I) (.o .i), .as I .i]), (18, [.drop, .as (.ptr (.pair (.sl (.sl I)) .unit)) (.o .i), .drop, .drop, .as I .i, .as (.sl I) (.o .i), .as I .i, .as I .i]), (39, [.drop, .drop, .drop, .drop, .drop, .as (.sl I) (.o .i)]), (24, [.drop, .as (.ptr (.pair (.sl (.sl I)) .unit)) (.o .i), .drop, .drop, .as I .i, .as (.sl I) (.o .i), .as I .i, .as I .i, .as I .i]), (15, [.drop, .as (.ptr (.pair (.sl (.sl I)) .unit)) (.o .i), .drop, .drop, .as I .i, .as (.sl I) (.o .i), .as I .i]), (21, [.drop, .as (.ptr (.pair (.sl (.sl I)) .unit)) (.o .i), .drop, .drop, .as I .i, .as (.sl I) (.o .i), .as I .i, .as I .i])]
noncomputable def zz81_R6 (N n : Nat) (K : Ex → St → Option ((Y4 × (Bool × Unit)) × Unit)) (p1 : Y2) (n4 : Int) (best5 : Y4) (x6 : Int) : Option ((Y4 × (Bool × Unit)) × Unit) := iter ((A_zz81).shape 12) (run (A_zz81) N (codeAt Try.f34 [1, 1, 1, 1, 0, 1, 0, 0])) n ([.u, .val (.ptr (.pair (.sl (.sl I)) .unit)) (.o .i) p1, .u, .u, .val I .i n4, .val (.sl I) (.o .i) best5, .val I .i x6] ++ List.replicate 89 .u) K
noncomputable def zz81_R9 (N n : Nat) (K : Ex → St → Option ((Y4 × (Bool × Unit)) × Unit)) (p1 : Y2) (n4 : Int) (best5 : Y4) (x6 : Int) (y7 : Int) : Option ((Y4 × (Bool × Unit)) × Unit) := iter ((A_zz81).shape 18) (run (A_zz81) N (codeAt Try.f34 [1, 1, 1, 1, 0, 1, 0, 0, 1, 0, 0, 1, 0, 0])) n ([.u, .val (.ptr (.pair (.sl (.sl I)) .unit)) (.o .i) p1, .u, .u, .val I .i n4, .val (.sl I) (.o .i) best5, .val I .i x6, .val I .i y7] ++ List.replicate 88 .u) K
noncomputable def zz81_R12 (N n : Nat) (K : Ex → St → Option ((Y4 × (Bool × Unit)) × Unit)) (p1 : Y2) (n4 : Int) (best5 : Y4) (x6 : Int) (y7 : Int) (z8 : Int) : Option ((Y4 × (Bool × Unit)) × Unit) := iter ((A_zz81).shape 24) (run (A_zz81) N (codeAt Try.f34 [1, 1, 1, 1, 0, 1, 0, 0, 1, 0, 0, 1, 0, 0, 1, 0, 0, 1, 0, 0])) n ([.u, .val (.ptr (.pair (.sl (.sl I)) .unit)) (.o .i) p1, .u, .u, .val I .i n4, .val (.sl I) (.o .i) best5, .val I .i x6, .val I .i y7, .val I .i z8] ++ List.replicate 87 .u) K
noncomputable abbrev zz81_z : Ex → St → Option ((Y4 × (Bool × Unit)) × Unit) := finish (A_zz81) S_zz81 Try.f34.results.toList
noncomputable abbrev zz81_X6 (kX : St → Option ((Y4 × (Bool × Unit)) × Unit)) : Y4 → Option ((Y4 × (Bool × Unit)) × Unit) := fun (best5 : Y4) => kX ([.u, .u, .u, .u, .u, .val (.sl I) (.o .i) best5] ++ List.replicate 90 .u)
noncomputable abbrev zz81_E6 (kX : St → Option ((Y4 × (Bool × Unit)) × Unit)) (kO : Nat → St → Option ((Y4 × (Bool × Unit)) × Unit)) : Ex → St → Option ((Y4 × (Bool × Unit)) × Unit) := exK zz81_z 0 ((A_zz81).shape 39) kX kO
noncomputable abbrev zz81_X9 (kX : St → Option ((Y4 × (Bool × Unit)) × Unit)) : Y2 → Int → Y4 → Int → Option ((Y4 × (Bool × Unit)) × Unit) := fun (p1 : Y2) (n4 : Int) (best5 : Y4) (x6 : Int) => kX ([.u, .val (.ptr (.pair (.sl (.sl I)) .unit)) (.o .i) p1, .u, .u, .val I .i n4, .val (.sl I) (.o .i) best5, .val I .i x6] ++ List.replicate 89 .u)
noncomputable abbrev zz81_E9 (kX : St → Option ((Y4 × (Bool × Unit)) × Unit)) (kO : Nat → St → Option ((Y4 × (Bool × Unit)) × Unit)) : Ex → St → Option ((Y4 × (Bool × Unit)) × Unit) := exK zz81_z 2 ((A_zz81).shape 15) kX kO
noncomputable abbrev zz81_X12 (kX : St → Option ((Y4 × (Bool × Unit)) × Unit)) : Y2 → Int → Y4 → Int → Int → Option ((Y4 × (Bool × Unit)) × Unit) := fun (p1 : Y2) (n4 : Int) (best5 : Y4) (x6 : Int) (y7 : Int) => kX ([.u, .val (.ptr (.pair (.sl (.sl I)) .unit)) (.o .i) p1, .u, .u, .val I .i n4, .val (.sl I) (.o .i) best5, .val I .i x6, .val I .i y7] ++ List.replicate 88 .u)
noncomputable abbrev zz81_E12 (kX : St → Option ((Y4 × (Bool × Unit)) × Unit)) (kO : Nat → St → Option ((Y4 × (Bool × Unit)) × Unit)) : Ex → St → Option ((Y4 × (Bool × Unit)) × Unit) := exK zz81_z 4 ((A_zz81).shape 21) kX kO
theorem zz81_step12 (N : Nat) (m : Nat) (kX : St → Option ((Y4 × (Bool × Unit)) × Unit)) (kO : Nat → St → Option ((Y4 × (Bool × Unit)) × Unit)) (p1 : Y2) (n4 : Int) (best5 : Y4) (x6 : Int) (y7 : Int) (z8 : Int) : zz81_R12 N (m + 1) (zz81_E12 kX kO) p1 n4 best5 x6 y7 z8 = zz81_b12 (zz81_R12 N m (zz81_E12 kX kO)) (zz81_X12 kX) p1 n4 best5 x6 y7 z8 := by kernel_rfl
theorem zz81_iter12 (N : Nat) (kX : St → Option ((Y4 × (Bool × Unit)) × Unit)) (kO : Nat → St → Option ((Y4 × (Bool × Unit)) × Unit)) : ∀ (n : Nat) (p1 : Y2) (n4 : Int) (best5 : Y4) (x6 : Int) (y7 : Int) (z8 : Int), zz81_R12 N n (zz81_E12 kX kO) p1 n4 best5 x6 y7 z8 = zz81_l12 N (zz81_X12 kX) n p1 n4 best5 x6 y7 z8
  | 0, _, _, _, _, _, _ => rfl
  | m + 1, p1, n4, best5, x6, y7, z8 => by
    have hrec : zz81_R12 N m (zz81_E12 kX kO) = (zz81_l12 N (zz81_X12 kX) m) := (funext fun p1 => (funext fun n4 => (funext fun best5 => (funext fun x6 => (funext fun y7 => (funext fun z8 => zz81_iter12 N kX kO m p1 n4 best5 x6 y7 z8))))))
    refine (zz81_step12 N m kX kO p1 n4 best5 x6 y7 z8).trans ?_
    rw [hrec]
    rfl
noncomputable abbrev zz81_K12 (N : Nat) (m : Nat) (kX : St → Option ((Y4 × (Bool × Unit)) × Unit)) (kO : Nat → St → Option ((Y4 × (Bool × Unit)) × Unit)) : Ex → St → Option ((Y4 × (Bool × Unit)) × Unit) := (blockK 4 (blockK 3 (seqK ((A_zz81).shape 21) (run (A_zz81) N (codeAt Try.f34 [1, 1, 1, 1, 0, 1, 0, 0, 1, 0, 0, 1, 0, 0, 1, 1])) (iterK ((A_zz81).shape 18) (run (A_zz81) N (codeAt Try.f34 [1, 1, 1, 1, 0, 1, 0, 0, 1, 0, 0, 1, 0, 0])) m (zz81_E9 kX kO)))))
noncomputable abbrev zz81_k12 (N : Nat) (m : Nat) (kX : St → Option ((Y4 × (Bool × Unit)) × Unit)) (kO : Nat → St → Option ((Y4 × (Bool × Unit)) × Unit)) : St → Option ((Y4 × (Bool × Unit)) × Unit) := fun st' => run (A_zz81) N (codeAt Try.f34 [1, 1, 1, 1, 0, 1, 0, 0, 1, 0, 0, 1, 0, 0, 1, 1]) st' (iterK ((A_zz81).shape 18) (run (A_zz81) N (codeAt Try.f34 [1, 1, 1, 1, 0, 1, 0, 0, 1, 0, 0, 1, 0, 0])) m (zz81_E9 kX kO))
theorem zz81_after12 (N : Nat) (m : Nat) (kX : St → Option ((Y4 × (Bool × Unit)) × Unit)) (kO : Nat → St → Option ((Y4 × (Bool × Unit)) × Unit)) (p1 : Y2) (n4 : Int) (best5 : Y4) (x6 : Int) (y7 : Int) : zz81_X12 (zz81_k12 N m kX kO) p1 n4 best5 x6 y7 = zz81_a12 (zz81_R9 N m (zz81_E9 kX kO)) p1 n4 best5 x6 y7 := by kernel_rfl
theorem zz81_in12 (N : Nat) (m : Nat) (kX : St → Option ((Y4 × (Bool × Unit)) × Unit)) (kO : Nat → St → Option ((Y4 × (Bool × Unit)) × Unit)) (recF : Y2 → Int → Y4 → Int → Int → Option ((Y4 × (Bool × Unit)) × Unit)) (hrec : zz81_R9 N m (zz81_E9 kX kO) = recF) (p1 : Y2) (n4 : Int) (best5 : Y4) (x6 : Int) (y7 : Int) (z8 : Int) : zz81_R12 N N (zz81_K12 N m kX kO) p1 n4 best5 x6 y7 z8 = zz81_F12 N recF (zz81_X9 kX) p1 n4 best5 x6 y7 z8 :=
  have h : zz81_X12 (zz81_k12 N m kX kO) = (zz81_a12 recF) := (funext fun p1 => (funext fun n4 => (funext fun best5 => (funext fun x6 => (funext fun y7 => (zz81_after12 N m kX kO p1 n4 best5 x6 y7).trans (by rw [hrec]))))))
  ((iter_ex (fun st => by kernel_rfl) (fun st => by kernel_rfl)).trans (zz81_iter12 N (zz81_k12 N m kX kO) (fun j st => (zz81_K12 N m kX kO) (.exit j) st) N p1 n4 best5 x6 y7 z8)).trans (congrArg (fun k => zz81_l12 N k N p1 n4 best5 x6 y7 z8) h)
theorem zz81_step9 (N : Nat) (m : Nat) (kX : St → Option ((Y4 × (Bool × Unit)) × Unit)) (kO : Nat → St → Option ((Y4 × (Bool × Unit)) × Unit)) (p1 : Y2) (n4 : Int) (best5 : Y4) (x6 : Int) (y7 : Int) : zz81_R9 N (m + 1) (zz81_E9 kX kO) p1 n4 best5 x6 y7 = zz81_b9 (zz81_R12 N N (zz81_K12 N m kX kO)) (zz81_X9 kX) p1 n4 best5 x6 y7 := by kernel_rfl
theorem zz81_iter9 (N : Nat) (kX : St → Option ((Y4 × (Bool × Unit)) × Unit)) (kO : Nat → St → Option ((Y4 × (Bool × Unit)) × Unit)) : ∀ (n : Nat) (p1 : Y2) (n4 : Int) (best5 : Y4) (x6 : Int) (y7 : Int), zz81_R9 N n (zz81_E9 kX kO) p1 n4 best5 x6 y7 = zz81_l9 N (zz81_X9 kX) n p1 n4 best5 x6 y7
  | 0, _, _, _, _, _ => rfl
  | m + 1, p1, n4, best5, x6, y7 => by
    have hrec : zz81_R9 N m (zz81_E9 kX kO) = (zz81_l9 N (zz81_X9 kX) m) := (funext fun p1 => (funext fun n4 => (funext fun best5 => (funext fun x6 => (funext fun y7 => zz81_iter9 N kX kO m p1 n4 best5 x6 y7)))))
    refine (zz81_step9 N m kX kO p1 n4 best5 x6 y7).trans ?_
    rw [(funext fun p1 => (funext fun n4 => (funext fun best5 => (funext fun x6 => (funext fun y7 => (funext fun z8 => zz81_in12 N m kX kO (zz81_l9 N (zz81_X9 kX) m) hrec p1 n4 best5 x6 y7 z8))))))]
    rfl
noncomputable abbrev zz81_K9 (N : Nat) (m : Nat) (kX : St → Option ((Y4 × (Bool × Unit)) × Unit)) (kO : Nat → St → Option ((Y4 × (Bool × Unit)) × Unit)) : Ex → St → Option ((Y4 × (Bool × Unit)) × Unit) := (blockK 2 (blockK 1 (seqK ((A_zz81).shape 15) (run (A_zz81) N (codeAt Try.f34 [1, 1, 1, 1, 0, 1, 0, 0, 1, 1])) (iterK ((A_zz81).shape 12) (run (A_zz81) N (codeAt Try.f34 [1, 1, 1, 1, 0, 1, 0, 0])) m (zz81_E6 kX kO)))))
noncomputable abbrev zz81_k9 (N : Nat) (m : Nat) (kX : St → Option ((Y4 × (Bool × Unit)) × Unit)) (kO : Nat → St → Option ((Y4 × (Bool × Unit)) × Unit)) : St → Option ((Y4 × (Bool × Unit)) × Unit) := fun st' => run (A_zz81) N (codeAt Try.f34 [1, 1, 1, 1, 0, 1, 0, 0, 1, 1]) st' (iterK ((A_zz81).shape 12) (run (A_zz81) N (codeAt Try.f34 [1, 1, 1, 1, 0, 1, 0, 0])) m (zz81_E6 kX kO))
theorem zz81_after9 (N : Nat) (m : Nat) (kX : St → Option ((Y4 × (Bool × Unit)) × Unit)) (kO : Nat → St → Option ((Y4 × (Bool × Unit)) × Unit)) (p1 : Y2) (n4 : Int) (best5 : Y4) (x6 : Int) : zz81_X9 (zz81_k9 N m kX kO) p1 n4 best5 x6 = zz81_a9 (zz81_R6 N m (zz81_E6 kX kO)) p1 n4 best5 x6 := by kernel_rfl
theorem zz81_in9 (N : Nat) (m : Nat) (kX : St → Option ((Y4 × (Bool × Unit)) × Unit)) (kO : Nat → St → Option ((Y4 × (Bool × Unit)) × Unit)) (recF : Y2 → Int → Y4 → Int → Option ((Y4 × (Bool × Unit)) × Unit)) (hrec : zz81_R6 N m (zz81_E6 kX kO) = recF) (p1 : Y2) (n4 : Int) (best5 : Y4) (x6 : Int) (y7 : Int) : zz81_R9 N N (zz81_K9 N m kX kO) p1 n4 best5 x6 y7 = zz81_F9 N recF (zz81_X6 kX) p1 n4 best5 x6 y7 :=
  have h : zz81_X9 (zz81_k9 N m kX kO) = (zz81_a9 recF) := (funext fun p1 => (funext fun n4 => (funext fun best5 => (funext fun x6 => (zz81_after9 N m kX kO p1 n4 best5 x6).trans (by rw [hrec])))))
  ((iter_ex (fun st => by kernel_rfl) (fun st => by kernel_rfl)).trans (zz81_iter9 N (zz81_k9 N m kX kO) (fun j st => (zz81_K9 N m kX kO) (.exit j) st) N p1 n4 best5 x6 y7)).trans (congrArg (fun k => zz81_l9 N k N p1 n4 best5 x6 y7) h)
theorem zz81_step6 (N : Nat) (m : Nat) (kX : St → Option ((Y4 × (Bool × Unit)) × Unit)) (kO : Nat → St → Option ((Y4 × (Bool × Unit)) × Unit)) (p1 : Y2) (n4 : Int) (best5 : Y4) (x6 : Int) : zz81_R6 N (m + 1) (zz81_E6 kX kO) p1 n4 best5 x6 = zz81_b6 (zz81_R9 N N (zz81_K9 N m kX kO)) (zz81_X6 kX) p1 n4 best5 x6 := by kernel_rfl
theorem zz81_iter6 (N : Nat) (kX : St → Option ((Y4 × (Bool × Unit)) × Unit)) (kO : Nat → St → Option ((Y4 × (Bool × Unit)) × Unit)) : ∀ (n : Nat) (p1 : Y2) (n4 : Int) (best5 : Y4) (x6 : Int), zz81_R6 N n (zz81_E6 kX kO) p1 n4 best5 x6 = zz81_l6 N (zz81_X6 kX) n p1 n4 best5 x6
  | 0, _, _, _, _ => rfl
  | m + 1, p1, n4, best5, x6 => by
    have hrec : zz81_R6 N m (zz81_E6 kX kO) = (zz81_l6 N (zz81_X6 kX) m) := (funext fun p1 => (funext fun n4 => (funext fun best5 => (funext fun x6 => zz81_iter6 N kX kO m p1 n4 best5 x6))))
    refine (zz81_step6 N m kX kO p1 n4 best5 x6).trans ?_
    rw [(funext fun p1 => (funext fun n4 => (funext fun best5 => (funext fun x6 => (funext fun y7 => zz81_in9 N m kX kO (zz81_l6 N (zz81_X6 kX) m) hrec p1 n4 best5 x6 y7)))))]
    rfl
noncomputable abbrev zz81_K6 (N : Nat) : Ex → St → Option ((Y4 × (Bool × Unit)) × Unit) := (blockK 0 (seqK ((A_zz81).shape 39) (run (A_zz81) N (codeAt Try.f34 [1, 1, 1, 1, 1])) zz81_z))
noncomputable abbrev zz81_k6 (N : Nat) : St → Option ((Y4 × (Bool × Unit)) × Unit) := fun st' => run (A_zz81) N (codeAt Try.f34 [1, 1, 1, 1, 1]) st' zz81_z
theorem zz81_after6 (N : Nat) (best5 : Y4) : zz81_X6 (zz81_k6 N) best5 = zz81_a6 best5 := by kernel_rfl
theorem zz81_in6 (N : Nat) (p1 : Y2) (n4 : Int) (best5 : Y4) (x6 : Int) : zz81_R6 N N (zz81_K6 N) p1 n4 best5 x6 = zz81_F6 N p1 n4 best5 x6 :=
  have h : zz81_X6 (zz81_k6 N) = (zz81_a6) := (funext fun best5 => zz81_after6 N best5)
  ((iter_ex (fun st => by kernel_rfl) (fun st => by kernel_rfl)).trans (zz81_iter6 N (zz81_k6 N) (fun j st => (zz81_K6 N) (.exit j) st) N p1 n4 best5 x6)).trans (congrArg (fun k => zz81_l6 N k N p1 n4 best5 x6) h)
theorem run0_zz81 (N : Nat) (x : (S_zz81).a.den) : runF (A_zz81) N Try.f34 S_zz81 x = (zz81_s (zz81_R6 N N (zz81_K6 N)) x.1) := by kernel_rfl
theorem run_zz81 (N : Nat) (x : (S_zz81).a.den) : runF (A_zz81) N Try.f34 S_zz81 x = zz81 N x.1 := by
  refine (run0_zz81 N x).trans ?_
  rw [(funext fun p1 => (funext fun n4 => (funext fun best5 => (funext fun x6 => zz81_in6 N p1 n4 best5 x6))))]
  rfl
theorem fn_zz81 : FnOk Try.prog 34 := ⟨_, Try.func34, by kernel_rfl, by kernel_rfl⟩
theorem good_zz81 : Gx.Good Try.prog 34 S_zz81 := good_of_run Try.func34 (of_decide_eq_true (by kernel_rfl)) fun x r h => ⟨A_zz81, big, mkCfg_ok tabOk, mkCfg_sigs (show SigsOk Try.prog [(57, S_zz14), (76, S_zz17), (77, S_zz18), (78, S_zz79), (79, S_zz80)] from ⟨⟨fn_zz14, good_zz14⟩, ⟨fn_zz17, good_zz17⟩, ⟨fn_zz18, good_zz18⟩, ⟨fn_zz79, good_zz79⟩, ⟨fn_zz80, good_zz80⟩, trivial⟩), (run_zz81 big x).trans h⟩

/-! zz82 -/
def zz82_b2 (rec : Int → Y4 → Int → Int → Option (Bool × Unit)) (k : Option (Bool × Unit)) (x1 : Int) (t7 : Y4) (t8 : Int) (t9 : Int) : Option (Bool × Unit) :=
  cond (decide (t9 < t8))
  ((atI t7 t9).bind fun xq1 =>
  cond (decide (x1 = xq1))
  (some (false, (())))
  (rec x1 t7 t8 (IntKind.i64.wrap (t9 + (1 : Int)))))
  (k)
def zz82_a2 : Option (Bool × Unit) :=
  some (true, (()))
def zz82_s (L2 : Int → Y4 → Int → Int → Option (Bool × Unit)) (list_0 : Y4) (x_1 : Int) : Option (Bool × Unit) :=
  L2 x_1 list_0 (list_0.length : Int) (0 : Int)
def zz82_l2 (N : Nat) (k : Option (Bool × Unit)) : Nat → Int → Y4 → Int → Int → Option (Bool × Unit)
  | 0, _, _, _, _ => none
  | m + 1, x1, t7, t8, t9 => zz82_b2 (zz82_l2 N k m) k x1 t7 t8 t9
def zz82_F2 (N : Nat) (x1 : Int) (t7 : Y4) (t8 : Int) (t9 : Int) : Option (Bool × Unit) := zz82_l2 N (zz82_a2) N x1 t7 t8 t9
def zz82 (N : Nat) (list_0 : Y4) (x_1 : Int) : Option (Bool × Unit) := zz82_s (zz82_F2 N) list_0 x_1
def S_zz82 : Sig := { a := (.pair (.sl I) (.pair I .unit)), md := [0, 0], mf := [], m := .unit, r := .bool, rf := .i, f := fun x => zz82 big x.1 x.2.1 }
def A_zz82 : Cfg := mkCfg tab [] [(4, [.drop, .as I .i, .drop, .drop, .drop, .drop, .drop, .as (.sl I) .i, .as I .i, .as I .i]), (15, [])]
noncomputable def zz82_R2 (N n : Nat) (K : Ex → St → Option (Bool × Unit)) (x1 : Int) (t7 : Y4) (t8 : Int) (t9 : Int) : Option (Bool × Unit) := iter ((A_zz82).shape 4) (run (A_zz82) N (codeAt Try.f146 [1, 0, 1, 0, 0])) n ([.u, .val I .i x1, .u, .u, .u, .u, .u, .val (.sl I) .i t7, .val I .i t8, .val I .i t9] ++ List.replicate 7 .u) K
noncomputable abbrev zz82_z : Ex → St → Option (Bool × Unit) := finish (A_zz82) S_zz82 Try.f146.results.toList
noncomputable abbrev zz82_X2 (kX : St → Option (Bool × Unit)) : Option (Bool × Unit) := kX ([] ++ List.replicate 17 .u)
noncomputable abbrev zz82_E2 (kX : St → Option (Bool × Unit)) (kO : Nat → St → Option (Bool × Unit)) : Ex → St → Option (Bool × Unit) := exK zz82_z 0 ((A_zz82).shape 15) kX kO
theorem zz82_step2 (N : Nat) (m : Nat) (kX : St → Option (Bool × Unit)) (kO : Nat → St → Option (Bool × Unit)) (x1 : Int) (t7 : Y4) (t8 : Int) (t9 : Int) : zz82_R2 N (m + 1) (zz82_E2 kX kO) x1 t7 t8 t9 = zz82_b2 (zz82_R2 N m (zz82_E2 kX kO)) (zz82_X2 kX) x1 t7 t8 t9 := by kernel_rfl
theorem zz82_iter2 (N : Nat) (kX : St → Option (Bool × Unit)) (kO : Nat → St → Option (Bool × Unit)) : ∀ (n : Nat) (x1 : Int) (t7 : Y4) (t8 : Int) (t9 : Int), zz82_R2 N n (zz82_E2 kX kO) x1 t7 t8 t9 = zz82_l2 N (zz82_X2 kX) n x1 t7 t8 t9
  | 0, _, _, _, _ => rfl
  | m + 1, x1, t7, t8, t9 => by
    have hrec : zz82_R2 N m (zz82_E2 kX kO) = (zz82_l2 N (zz82_X2 kX) m) := (funext fun x1 => (funext fun t7 => (funext fun t8 => (funext fun t9 => zz82_iter2 N kX kO m x1 t7 t8 t9))))
    refine (zz82_step2 N m kX kO x1 t7 t8 t9).trans ?_
    rw [hrec]
    rfl
noncomputable abbrev zz82_K2 (N : Nat) : Ex → St → Option (Bool × Unit) := (blockK 0 (seqK ((A_zz82).shape 15) (run (A_zz82) N (codeAt Try.f146 [1, 1])) zz82_z))
noncomputable abbrev zz82_k2 (N : Nat) : St → Option (Bool × Unit) := fun st' => run (A_zz82) N (codeAt Try.f146 [1, 1]) st' zz82_z
theorem zz82_after2 (N : Nat) : zz82_X2 (zz82_k2 N) = zz82_a2 := by kernel_rfl
theorem zz82_in2 (N : Nat) (x1 : Int) (t7 : Y4) (t8 : Int) (t9 : Int) : zz82_R2 N N (zz82_K2 N) x1 t7 t8 t9 = zz82_F2 N x1 t7 t8 t9 :=
  have h : zz82_X2 (zz82_k2 N) = (zz82_a2) := zz82_after2 N
  ((iter_ex (fun st => by kernel_rfl) (fun st => by kernel_rfl)).trans (zz82_iter2 N (zz82_k2 N) (fun j st => (zz82_K2 N) (.exit j) st) N x1 t7 t8 t9)).trans (congrArg (fun k => zz82_l2 N k N x1 t7 t8 t9) h)
theorem run0_zz82 (N : Nat) (x : (S_zz82).a.den) : runF (A_zz82) N Try.f146 S_zz82 x = (zz82_s (zz82_R2 N N (zz82_K2 N)) x.1 x.2.1) := by kernel_rfl
theorem run_zz82 (N : Nat) (x : (S_zz82).a.den) : runF (A_zz82) N Try.f146 S_zz82 x = zz82 N x.1 x.2.1 := by
  refine (run0_zz82 N x).trans ?_
  rw [(funext fun x1 => (funext fun t7 => (funext fun t8 => (funext fun t9 => zz82_in2 N x1 t7 t8 t9))))]
  rfl
theorem fn_zz82 : FnOk Try.prog 146 := ⟨_, Try.func146, by kernel_rfl, by kernel_rfl⟩
theorem good_zz82 : Gx.Good Try.prog 146 S_zz82 := good_of_run Try.func146 (of_decide_eq_true (by kernel_rfl)) fun x r h => ⟨A_zz82, big, mkCfg_ok tabOk, mkCfg_sigs (show SigsOk Try.prog [] from trivial), (run_zz82 big x).trans h⟩

/-! zz83 -/
def zz83_b2 (rec : Y4 → Y4 → Int → Int → Option (Bool × Unit)) (k : Option (Bool × Unit)) (list0 : Y4) (t5 : Y4) (t6 : Int) (t7 : Int) : Option (Bool × Unit) :=
  cond (decide (t7 < t6))
  ((atI t5 t7).bind fun xq1 =>
  (slI list0 0 t7).bind fun xq2 =>
  (zz82 big xq2 xq1).bind fun rq3 =>
  cond (!rq3.1)
  (some (false, (())))
  (rec list0 t5 t6 (IntKind.i64.wrap (t7 + (1 : Int)))))
  (k)
def zz83_a2 : Option (Bool × Unit) :=
  some (true, (()))
def zz83_s (L2 : Y4 → Y4 → Int → Int → Option (Bool × Unit)) (list_0 : Y4) : Option (Bool × Unit) :=
  L2 list_0 list_0 (list_0.length : Int) (0 : Int)
def zz83_l2 (N : Nat) (k : Option (Bool × Unit)) : Nat → Y4 → Y4 → Int → Int → Option (Bool × Unit)
  | 0, _, _, _, _ => none
  | m + 1, list0, t5, t6, t7 => zz83_b2 (zz83_l2 N k m) k list0 t5 t6 t7
def zz83_F2 (N : Nat) (list0 : Y4) (t5 : Y4) (t6 : Int) (t7 : Int) : Option (Bool × Unit) := zz83_l2 N (zz83_a2) N list0 t5 t6 t7
def zz83 (N : Nat) (list_0 : Y4) : Option (Bool × Unit) := zz83_s (zz83_F2 N) list_0
def S_zz83 : Sig := { a := (.pair (.sl I) .unit), md := [0], mf := [], m := .unit, r := .bool, rf := .i, f := fun x => zz83 big x.1 }
def A_zz83 : Cfg := mkCfg tab [(146, S_zz82)] [(4, [.as (.sl I) .i, .drop, .drop, .drop, .drop, .as (.sl I) .i, .as I .i, .as I .i]), (15, [])]
noncomputable def zz83_R2 (N n : Nat) (K : Ex → St → Option (Bool × Unit)) (list0 : Y4) (t5 : Y4) (t6 : Int) (t7 : Int) : Option (Bool × Unit) := iter ((A_zz83).shape 4) (run (A_zz83) N (codeAt Try.f126 [1, 0, 1, 0, 0])) n ([.val (.sl I) .i list0, .u, .u, .u, .u, .val (.sl I) .i t5, .val I .i t6, .val I .i t7] ++ List.replicate 11 .u) K
noncomputable abbrev zz83_z : Ex → St → Option (Bool × Unit) := finish (A_zz83) S_zz83 Try.f126.results.toList
noncomputable abbrev zz83_X2 (kX : St → Option (Bool × Unit)) : Option (Bool × Unit) := kX ([] ++ List.replicate 19 .u)
noncomputable abbrev zz83_E2 (kX : St → Option (Bool × Unit)) (kO : Nat → St → Option (Bool × Unit)) : Ex → St → Option (Bool × Unit) := exK zz83_z 0 ((A_zz83).shape 15) kX kO
theorem zz83_step2 (N : Nat) (m : Nat) (kX : St → Option (Bool × Unit)) (kO : Nat → St → Option (Bool × Unit)) (list0 : Y4) (t5 : Y4) (t6 : Int) (t7 : Int) : zz83_R2 N (m + 1) (zz83_E2 kX kO) list0 t5 t6 t7 = zz83_b2 (zz83_R2 N m (zz83_E2 kX kO)) (zz83_X2 kX) list0 t5 t6 t7 := by kernel_rfl
theorem zz83_iter2 (N : Nat) (kX : St → Option (Bool × Unit)) (kO : Nat → St → Option (Bool × Unit)) : ∀ (n : Nat) (list0 : Y4) (t5 : Y4) (t6 : Int) (t7 : Int), zz83_R2 N n (zz83_E2 kX kO) list0 t5 t6 t7 = zz83_l2 N (zz83_X2 kX) n list0 t5 t6 t7
  | 0, _, _, _, _ => rfl
  | m + 1, list0, t5, t6, t7 => by
    have hrec : zz83_R2 N m (zz83_E2 kX kO) = (zz83_l2 N (zz83_X2 kX) m) := (funext fun list0 => (funext fun t5 => (funext fun t6 => (funext fun t7 => zz83_iter2 N kX kO m list0 t5 t6 t7))))
    refine (zz83_step2 N m kX kO list0 t5 t6 t7).trans ?_
    rw [hrec]
    rfl
noncomputable abbrev zz83_K2 (N : Nat) : Ex → St → Option (Bool × Unit) := (blockK 0 (seqK ((A_zz83).shape 15) (run (A_zz83) N (codeAt Try.f126 [1, 1])) zz83_z))
noncomputable abbrev zz83_k2 (N : Nat) : St → Option (Bool × Unit) := fun st' => run (A_zz83) N (codeAt Try.f126 [1, 1]) st' zz83_z
theorem zz83_after2 (N : Nat) : zz83_X2 (zz83_k2 N) = zz83_a2 := by kernel_rfl
theorem zz83_in2 (N : Nat) (list0 : Y4) (t5 : Y4) (t6 : Int) (t7 : Int) : zz83_R2 N N (zz83_K2 N) list0 t5 t6 t7 = zz83_F2 N list0 t5 t6 t7 :=
  have h : zz83_X2 (zz83_k2 N) = (zz83_a2) := zz83_after2 N
  ((iter_ex (fun st => by kernel_rfl) (fun st => by kernel_rfl)).trans (zz83_iter2 N (zz83_k2 N) (fun j st => (zz83_K2 N) (.exit j) st) N list0 t5 t6 t7)).trans (congrArg (fun k => zz83_l2 N k N list0 t5 t6 t7) h)
theorem run0_zz83 (N : Nat) (x : (S_zz83).a.den) : runF (A_zz83) N Try.f126 S_zz83 x = (zz83_s (zz83_R2 N N (zz83_K2 N)) x.1) := by kernel_rfl
theorem run_zz83 (N : Nat) (x : (S_zz83).a.den) : runF (A_zz83) N Try.f126 S_zz83 x = zz83 N x.1 := by
  refine (run0_zz83 N x).trans ?_
  rw [(funext fun list0 => (funext fun t5 => (funext fun t6 => (funext fun t7 => zz83_in2 N list0 t5 t6 t7))))]
  rfl
theorem fn_zz83 : FnOk Try.prog 126 := ⟨_, Try.func126, by kernel_rfl, by kernel_rfl⟩
theorem good_zz83 : Gx.Good Try.prog 126 S_zz83 := good_of_run Try.func126 (of_decide_eq_true (by kernel_rfl)) fun x r h => ⟨A_zz83, big, mkCfg_ok tabOk, mkCfg_sigs (show SigsOk Try.prog [(146, S_zz82)] from ⟨⟨fn_zz82, good_zz82⟩, trivial⟩), (run_zz83 big x).trans h⟩

/-! zz84 -/
def zz84_b2 (rec : Y4 → Y4 → Int → Option (Int × Unit)) (k : Y4 → Y4 → Option (Int × Unit)) (s0 : Y4) (t1 : Y4) (i5 : Int) : Option (Int × Unit) :=
  cond (decide (i5 < (s0.length : Int)))
  (cond (decide (i5 < (t1.length : Int)))
  ((atI s0 i5).bind fun xq1 =>
  (atI t1 i5).bind fun xq2 =>
  cond (decide (xq1 ≠ xq2))
  ((atI s0 i5).bind fun xq3 =>
  (atI t1 i5).bind fun xq4 =>
  cond (decide (xq3 < xq4))
  (some ((-1 : Int), (())))
  (some ((1 : Int), (()))))
  (rec s0 t1 (IntKind.i64.wrap (i5 + (1 : Int)))))
  (k s0 t1))
  (k s0 t1)
def zz84_a2 (s0 : Y4) (t1 : Y4) : Option (Int × Unit) :=
  cond (decide ((s0.length : Int) < (t1.length : Int)))
  (some ((-1 : Int), (())))
  (cond (decide ((t1.length : Int) < (s0.length : Int)))
  (some ((1 : Int), (())))
  (some ((0 : Int), (()))))
def zz84_s (L2 : Y4 → Y4 → Int → Option (Int × Unit)) (s_0 : Y4) (t_1 : Y4) : Option (Int × Unit) :=
  L2 s_0 t_1 (0 : Int)
def zz84_l2 (N : Nat) (k : Y4 → Y4 → Option (Int × Unit)) : Nat → Y4 → Y4 → Int → Option (Int × Unit)
  | 0, _, _, _ => none
  | m + 1, s0, t1, i5 => zz84_b2 (zz84_l2 N k m) k s0 t1 i5
def zz84_F2 (N : Nat) (s0 : Y4) (t1 : Y4) (i5 : Int) : Option (Int × Unit) := zz84_l2 N (zz84_a2) N s0 t1 i5
def zz84 (N : Nat) (s_0 : Y4) (t_1 : Y4) : Option (Int × Unit) := zz84_s (zz84_F2 N) s_0 t_1
def S_zz84 : Sig := { a := (.pair (.sl I) (.pair (.sl I) .unit)), md := [0, 0], mf := [], m := .unit, r := I, rf := .i, f := fun x => zz84 big x.1 x.2.1 }
def A_zz84 : Cfg := mkCfg tab [] [(4, [.as (.sl I) .i, .as (.sl I) .i, .drop, .drop, .drop, .as I .i]), (17, [.as (.sl I) .i, .as (.sl I) .i])]
noncomputable def zz84_R2 (N n : Nat) (K : Ex → St → Option (Int × Unit)) (s0 : Y4) (t1 : Y4) (i5 : Int) : Option (Int × Unit) := iter ((A_zz84).shape 4) (run (A_zz84) N (codeAt Try.f127 [1, 0, 1, 0, 0])) n ([.val (.sl I) .i s0, .val (.sl I) .i t1, .u, .u, .u, .val I .i i5] ++ List.replicate 42 .u) K
noncomputable abbrev zz84_z : Ex → St → Option (Int × Unit) := finish (A_zz84) S_zz84 Try.f127.results.toList
noncomputable abbrev zz84_X2 (kX : St → Option (Int × Unit)) : Y4 → Y4 → Option (Int × Unit) := fun (s0 : Y4) (t1 : Y4) => kX ([.val (.sl I) .i s0, .val (.sl I) .i t1] ++ List.replicate 46 .u)
noncomputable abbrev zz84_E2 (kX : St → Option (Int × Unit)) (kO : Nat → St → Option (Int × Unit)) : Ex → St → Option (Int × Unit) := exK zz84_z 0 ((A_zz84).shape 17) kX kO
theorem zz84_step2 (N : Nat) (m : Nat) (kX : St → Option (Int × Unit)) (kO : Nat → St → Option (Int × Unit)) (s0 : Y4) (t1 : Y4) (i5 : Int) : zz84_R2 N (m + 1) (zz84_E2 kX kO) s0 t1 i5 = zz84_b2 (zz84_R2 N m (zz84_E2 kX kO)) (zz84_X2 kX) s0 t1 i5 := by kernel_rfl
theorem zz84_iter2 (N : Nat) (kX : St → Option (Int × Unit)) (kO : Nat → St → Option (Int × Unit)) : ∀ (n : Nat) (s0 : Y4) (t1 : Y4) (i5 : Int), zz84_R2 N n (zz84_E2 kX kO) s0 t1 i5 = zz84_l2 N (zz84_X2 kX) n s0 t1 i5
  | 0, _, _, _ => rfl
  | m + 1, s0, t1, i5 => by
    have hrec : zz84_R2 N m (zz84_E2 kX kO) = (zz84_l2 N (zz84_X2 kX) m) := (funext fun s0 => (funext fun t1 => (funext fun i5 => zz84_iter2 N kX kO m s0 t1 i5)))
    refine (zz84_step2 N m kX kO s0 t1 i5).trans ?_
    rw [hrec]
    rfl
noncomputable abbrev zz84_K2 (N : Nat) : Ex → St → Option (Int × Unit) := (blockK 0 (seqK ((A_zz84).shape 17) (run (A_zz84) N (codeAt Try.f127 [1, 1])) zz84_z))
noncomputable abbrev zz84_k2 (N : Nat) : St → Option (Int × Unit) := fun st' => run (A_zz84) N (codeAt Try.f127 [1, 1]) st' zz84_z
theorem zz84_after2 (N : Nat) (s0 : Y4) (t1 : Y4) : zz84_X2 (zz84_k2 N) s0 t1 = zz84_a2 s0 t1 := by kernel_rfl
theorem zz84_in2 (N : Nat) (s0 : Y4) (t1 : Y4) (i5 : Int) : zz84_R2 N N (zz84_K2 N) s0 t1 i5 = zz84_F2 N s0 t1 i5 :=
  have h : zz84_X2 (zz84_k2 N) = (zz84_a2) := (funext fun s0 => (funext fun t1 => zz84_after2 N s0 t1))
  ((iter_ex (fun st => by kernel_rfl) (fun st => by kernel_rfl)).trans (zz84_iter2 N (zz84_k2 N) (fun j st => (zz84_K2 N) (.exit j) st) N s0 t1 i5)).trans (congrArg (fun k => zz84_l2 N k N s0 t1 i5) h)
theorem run0_zz84 (N : Nat) (x : (S_zz84).a.den) : runF (A_zz84) N Try.f127 S_zz84 x = (zz84_s (zz84_R2 N N (zz84_K2 N)) x.1 x.2.1) := by kernel_rfl
theorem run_zz84 (N : Nat) (x : (S_zz84).a.den) : runF (A_zz84) N Try.f127 S_zz84 x = zz84 N x.1 x.2.1 := by
  refine (run0_zz84 N x).trans ?_
  rw [(funext fun s0 => (funext fun t1 => (funext fun i5 => zz84_in2 N s0 t1 i5)))]
  rfl
theorem fn_zz84 : FnOk Try.prog 127 := ⟨_, Try.func127, by kernel_rfl, by kernel_rfl⟩
theorem good_zz84 : Gx.Good Try.prog 127 S_zz84 := good_of_run Try.func127 (of_decide_eq_true (by kernel_rfl)) fun x r h => ⟨A_zz84, big, mkCfg_ok tabOk, mkCfg_sigs (show SigsOk Try.prog [] from trivial), (run_zz84 big x).trans h⟩

/-! zz85 -/
def zz85_s (l_0 : Y1) (o_1 : Int) (x_2 : Int) (y_3 : Int) (z_4 : Int) (i_5 : Int) : Option (Bool × Unit) :=
  (l_0).bind fun xq1 =>
  (atI xq1.2.1 x_2).bind fun xq2 =>
  (atI xq2 y_3).bind fun xq3 =>
  cond (decide (xq3 = o_1))
  ((l_0).bind fun xq4 =>
  (atI xq4.2.1 y_3).bind fun xq5 =>
  (atI xq5 z_4).bind fun xq6 =>
  cond (decide (xq6 = o_1))
  ((l_0).bind fun xq7 =>
  (atI xq7.2.2.1 x_2).bind fun xq8 =>
  (atI xq8 y_3).bind fun xq9 =>
  cond (decide (xq9 = i_5))
  ((l_0).bind fun xq10 =>
  (atI xq10.2.2.1 y_3).bind fun xq11 =>
  (atI xq11 z_4).bind fun xq12 =>
  some (decide (xq12 = i_5), (())))
  (some (false, (()))))
  (some (false, (()))))
  (some (false, (())))
def zz85 (l_0 : Y1) (o_1 : Int) (x_2 : Int) (y_3 : Int) (z_4 : Int) (i_5 : Int) : Option (Bool × Unit) := zz85_s l_0 o_1 x_2 y_3 z_4 i_5
def S_zz85 : Sig := { a := (.pair (.opt (.pair (.sl (.sl .bool)) (.pair (.sl (.sl I)) (.pair (.sl (.sl I)) .unit)))) (.pair I (.pair I (.pair I (.pair I (.pair I .unit)))))), md := [0, 0, 0, 0, 0, 0], mf := [], m := .unit, r := .bool, rf := .i, f := fun x => zz85 x.1 x.2.1 x.2.2.1 x.2.2.2.1 x.2.2.2.2.1 x.2.2.2.2.2.1 }
def A_zz85 : Cfg := mkCfg tab [] []
theorem run_zz85 (N : Nat) (x : (S_zz85).a.den) : runF (A_zz85) N Try.f81 S_zz85 x = zz85 x.1 x.2.1 x.2.2.1 x.2.2.2.1 x.2.2.2.2.1 x.2.2.2.2.2.1 := by kernel_rfl
theorem fn_zz85 : FnOk Try.prog 81 := ⟨_, Try.func81, by kernel_rfl, by kernel_rfl⟩
theorem good_zz85 : Gx.Good Try.prog 81 S_zz85 := good_of_run Try.func81 (of_decide_eq_true (by kernel_rfl)) fun x r h => ⟨A_zz85, big, mkCfg_ok tabOk, mkCfg_sigs (show SigsOk Try.prog [] from trivial), (run_zz85 big x).trans h⟩
end Go.Proofs.Ytafkhhcnmmkieaa
