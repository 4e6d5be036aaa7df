import Derived.Test.YtlndlclemhfekaaGk11p1
set_option maxRecDepth 100000
set_option linter.unusedVariables false
namespace Go.Proofs.Ytlndlclemhfekaa
open Go Go.Gx Go.Proofs

/-! zz38 -/
def zz38_b3 (rec : (Y5 × (Int × Unit)) → Y4 → Int → Int → Option (Y4 × Unit)) (k : Y4 → Option (Y4 × Unit)) (so1 : (Y5 × (Int × Unit))) (list5 : Y4) (t9 : Int) (t10 : Int) : Option (Y4 × Unit) :=
  cond (decide (t10 < t9))
  ((zz37 t10 so1.1 so1.2.1).bind fun rq1 =>
  cond rq1.1
  ((appI list5 [t10]).bind fun xq2 =>
  rec so1 xq2 t9 (IntKind.i64.wrap (t10 + (1 : Int))))
  (rec so1 list5 t9 (IntKind.i64.wrap (t10 + (1 : Int)))))
  (k list5)
def zz38_a3 (list5 : Y4) : Option (Y4 × Unit) :=
  some (list5, (()))
def zz38_s (L3 : (Y5 × (Int × Unit)) → Y4 → Int → Int → Option (Y4 × Unit)) (o_0 : Y5) (so_1 : (Y5 × (Int × Unit))) : Option (Y4 × Unit) :=
  L3 so_1 [] (o_0.length : Int) (0 : Int)
def zz38_l3 (N : Nat) (k : Y4 → Option (Y4 × Unit)) : Nat → (Y5 × (Int × Unit)) → Y4 → Int → Int → Option (Y4 × Unit)
  | 0, _, _, _, _ => none
  | m + 1, so1, list5, t9, t10 => zz38_b3 (zz38_l3 N k m) k so1 list5 t9 t10
def zz38_F3 (N : Nat) (so1 : (Y5 × (Int × Unit))) (list5 : Y4) (t9 : Int) (t10 : Int) : Option (Y4 × Unit) := zz38_l3 N (zz38_a3) N so1 list5 t9 t10
def zz38 (N : Nat) (o_0 : Y5) (so_1 : (Y5 × (Int × Unit))) : Option (Y4 × Unit) := zz38_s (zz38_F3 N) o_0 so_1
def S_zz38 : Sig := { a := (.pair (.sl (.sl .bool)) (.pair (.clo 97 0 (.pair (.ptr (.sl (.sl .bool))) (.pair (.ptr I) .unit))) .unit)), md := [0, 0], mf := [], m := .unit, r := (.sl I), rf := (.o .i), f := fun x => zz38 big x.1 x.2.1 }
def A_zz38 : Cfg := mkCfg tab [(97, S_zz37)] [(6, [.drop, .as (.clo 97 0 (.pair (.ptr (.sl (.sl .bool))) (.pair (.ptr I) .unit))) .i, .drop, .drop, .drop, .as (.sl I) (.o .i), .drop, .drop, .drop, .as I .i, .as I .i]), (17, [.drop, .drop, .drop, .drop, .drop, .as (.sl I) (.o .i)])]
noncomputable def zz38_R3 (N n : Nat) (K : Ex → St → Option (Y4 × Unit)) (so1 : (Y5 × (Int × Unit))) (list5 : Y4) (t9 : Int) (t10 : Int) : Option (Y4 × Unit) := iter ((A_zz38).shape 6) (run (A_zz38) N (codeAt Try.f68 [1, 1, 0, 1, 0, 0])) n ([.u, .val (.clo 97 0 (.pair (.ptr (.sl (.sl .bool))) (.pair (.ptr I) .unit))) .i so1, .u, .u, .u, .val (.sl I) (.o .i) list5, .u, .u, .u, .val I .i t9, .val I .i t10] ++ List.replicate 11 .u) K
noncomputable abbrev zz38_z : Ex → St → Option (Y4 × Unit) := finish (A_zz38) S_zz38 Try.f68.results.toList
noncomputable abbrev zz38_X3 (kX : St → Option (Y4 × Unit)) : Y4 → Option (Y4 × Unit) := fun (list5 : Y4) => kX ([.u, .u, .u, .u, .u, .val (.sl I) (.o .i) list5] ++ List.replicate 16 .u)
noncomputable abbrev zz38_E3 (kX : St → Option (Y4 × Unit)) (kO : Nat → St → Option (Y4 × Unit)) : Ex → St → Option (Y4 × Unit) := exK zz38_z 0 ((A_zz38).shape 17) kX kO
theorem zz38_step3 (N : Nat) (m : Nat) (kX : St → Option (Y4 × Unit)) (kO : Nat → St → Option (Y4 × Unit)) (so1 : (Y5 × (Int × Unit))) (list5 : Y4) (t9 : Int) (t10 : Int) : zz38_R3 N (m + 1) (zz38_E3 kX kO) so1 list5 t9 t10 = zz38_b3 (zz38_R3 N m (zz38_E3 kX kO)) (zz38_X3 kX) so1 list5 t9 t10 := by kernel_rfl
theorem zz38_iter3 (N : Nat) (kX : St → Option (Y4 × Unit)) (kO : Nat → St → Option (Y4 × Unit)) : ∀ (n : Nat) (so1 : (Y5 × (Int × Unit))) (list5 : Y4) (t9 : Int) (t10 : Int), zz38_R3 N n (zz38_E3 kX kO) so1 list5 t9 t10 = zz38_l3 N (zz38_X3 kX) n so1 list5 t9 t10
  | 0, _, _, _, _ => rfl
  | m + 1, so1, list5, t9, t10 => by
    have hrec : zz38_R3 N m (zz38_E3 kX kO) = (zz38_l3 N (zz38_X3 kX) m) := (funext fun so1 => (funext fun list5 => (funext fun t9 => (funext fun t10 => zz38_iter3 N kX kO m so1 list5 t9 t10))))
    refine (zz38_step3 N m kX kO so1 list5 t9 t10).trans ?_
    rw [hrec]
    rfl
noncomputable abbrev zz38_K3 (N : Nat) : Ex → St → Option (Y4 × Unit) := (blockK 0 (seqK ((A_zz38).shape 17) (run (A_zz38) N (codeAt Try.f68 [1, 1, 1])) zz38_z))
noncomputable abbrev zz38_k3 (N : Nat) : St → Option (Y4 × Unit) := fun st' => run (A_zz38) N (codeAt Try.f68 [1, 1, 1]) st' zz38_z
theorem zz38_after3 (N : Nat) (list5 : Y4) : zz38_X3 (zz38_k3 N) list5 = zz38_a3 list5 := by kernel_rfl
theorem zz38_in3 (N : Nat) (so1 : (Y5 × (Int × Unit))) (list5 : Y4) (t9 : Int) (t10 : Int) : zz38_R3 N N (zz38_K3 N) so1 list5 t9 t10 = zz38_F3 N so1 list5 t9 t10 :=
  have h : zz38_X3 (zz38_k3 N) = (zz38_a3) := (funext fun list5 => zz38_after3 N list5)
  ((iter_ex (fun st => by kernel_rfl) (fun st => by kernel_rfl)).trans (zz38_iter3 N (zz38_k3 N) (fun j st => (zz38_K3 N) (.exit j) st) N so1 list5 t9 t10)).trans (congrArg (fun k => zz38_l3 N k N so1 list5 t9 t10) h)
theorem run0_zz38 (N : Nat) (x : (S_zz38).a.den) : runF (A_zz38) N Try.f68 S_zz38 x = (zz38_s (zz38_R3 N N (zz38_K3 N)) x.1 x.2.1) := by kernel_rfl
theorem run_zz38 (N : Nat) (x : (S_zz38).a.den) : runF (A_zz38) N Try.f68 S_zz38 x = zz38 N x.1 x.2.1 := by
  refine (run0_zz38 N x).trans ?_
  rw [(funext fun so1 => (funext fun list5 => (funext fun t9 => (funext fun t10 => zz38_in3 N so1 list5 t9 t10))))]
  rfl
theorem fn_zz38 : FnOk Try.prog 68 := ⟨_, Try.func68, by kernel_rfl, by kernel_rfl⟩
theorem good_zz38 : Gx.Good Try.prog 68 S_zz38 := good_of_run Try.func68 (of_decide_eq_true (by kernel_rfl)) fun x r h => ⟨A_zz38, big, mkCfg_ok tabOk, mkCfg_sigs (show SigsOk Try.prog [(97, S_zz37)] from ⟨⟨fn_zz37, good_zz37⟩, trivial⟩), (run_zz38 big x).trans h⟩

/-! zz39 -/
def zz39_s (o_0 : Y5) (x_1 : Int) : Option (Y4 × Unit) :=
  (zz38 big o_0 (o_0, x_1, ())).bind fun rq1 =>
  some (rq1.1, (()))
def zz39 (o_0 : Y5) (x_1 : Int) : Option (Y4 × Unit) := zz39_s o_0 x_1
def S_zz39 : Sig := { a := (.pair (.sl (.sl .bool)) (.pair I .unit)), md := [0, 0], mf := [], m := .unit, r := (.sl I), rf := (.o .i), f := fun x => zz39 x.1 x.2.1 }
def A_zz39 : Cfg := mkCfg tab [(68, S_zz38)] [(3, [.drop, .drop, .as (.ptr (.sl (.sl .bool))) .i, .as (.ptr I) .i])]
theorem run_zz39 (N : Nat) (x : (S_zz39).a.den) : runF (A_zz39) N Try.f67 S_zz39 x = zz39 x.1 x.2.1 := by kernel_rfl
theorem fn_zz39 : FnOk Try.prog 67 := ⟨_, Try.func67, by kernel_rfl, by kernel_rfl⟩
theorem good_zz39 : Gx.Good Try.prog 67 S_zz39 := good_of_run Try.func67 (of_decide_eq_true (by kernel_rfl)) fun x r h => ⟨A_zz39, big, mkCfg_ok tabOk, mkCfg_sigs (show SigsOk Try.prog [(68, S_zz38)] from ⟨⟨fn_zz38, good_zz38⟩, trivial⟩), (run_zz39 big x).trans h⟩

/-! zz40 -/
def zz40_s (l_0 : Y1) : Option (Y4 × Unit) :=
  (l_0).bind fun xq1 =>
  (zz34 big l_0).bind fun rq2 =>
  (zz39 xq1.1 rq2.1).bind fun rq3 =>
  some (rq3.1, (()))
def zz40 (l_0 : Y1) : Option (Y4 × Unit) := zz40_s l_0
def S_zz40 : Sig := { a := (.pair (.opt (.pair (.sl (.sl .bool)) (.pair (.sl (.sl I)) (.pair (.sl (.sl I)) .unit)))) .unit), md := [0], mf := [], m := .unit, r := (.sl I), rf := (.o .i), f := fun x => zz40 x.1 }
def A_zz40 : Cfg := mkCfg tab [(45, S_zz34), (67, S_zz39)] []
theorem run_zz40 (N : Nat) (x : (S_zz40).a.den) : runF (A_zz40) N Try.f29 S_zz40 x = zz40 x.1 := by kernel_rfl
theorem fn_zz40 : FnOk Try.prog 29 := ⟨_, Try.func29, by kernel_rfl, by kernel_rfl⟩
theorem good_zz40 : Gx.Good Try.prog 29 S_zz40 := good_of_run Try.func29 (of_decide_eq_true (by kernel_rfl)) fun x r h => ⟨A_zz40, big, mkCfg_ok tabOk, mkCfg_sigs (show SigsOk Try.prog [(45, S_zz34), (67, S_zz39)] from ⟨⟨fn_zz34, good_zz34⟩, ⟨fn_zz39, good_zz39⟩, trivial⟩), (run_zz40 big x).trans h⟩

/-! zz41 -/
def zz41_s (y_0 : Int) (p_1 : Y5) (p_2 : Int) : Option (Bool × Unit) :=
  (atI p_1 p_2).bind fun xq1 =>
  (atI xq1 y_0).bind fun xq2 =>
  some (xq2, (()))
def zz41 (y_0 : Int) (p_1 : Y5) (p_2 : Int) : Option (Bool × Unit) := zz41_s y_0 p_1 p_2
def S_zz41 : Sig := { a := (.pair I (.pair (.ptr (.sl (.sl .bool))) (.pair (.ptr I) .unit))), md := [0, 0, 0], mf := [], m := .unit, r := .bool, rf := .i, f := fun x => zz41 x.1 x.2.1 x.2.2.1 }
def A_zz41 : Cfg := mkCfg tab [] []
theorem run_zz41 (N : Nat) (x : (S_zz41).a.den) : runF (A_zz41) N Try.f69 S_zz41 x = zz41 x.1 x.2.1 x.2.2.1 := by kernel_rfl
theorem fn_zz41 : FnOk Try.prog 69 := ⟨_, Try.func69, by kernel_rfl, by kernel_rfl⟩
theorem good_zz41 : Gx.Good Try.prog 69 S_zz41 := good_of_run Try.func69 (of_decide_eq_true (by kernel_rfl)) fun x r h => ⟨A_zz41, big, mkCfg_ok tabOk, mkCfg_sigs (show SigsOk Try.prog [] from trivial), (run_zz41 big x).trans h⟩

/-! zz42 -/
def zz42_b3 (rec : (Y5 × (Int × Unit)) → Y4 → Int → Int → Option (Y4 × Unit)) (k : Y4 → Option (Y4 × Unit)) (so1 : (Y5 × (Int × Unit))) (list5 : Y4) (t9 : Int) (t10 : Int) : Option (Y4 × Unit) :=
  cond (decide (t10 < t9))
  ((zz41 t10 so1.1 so1.2.1).bind fun rq1 =>
  cond rq1.1
  ((appI list5 [t10]).bind fun xq2 =>
  rec so1 xq2 t9 (IntKind.i64.wrap (t10 + (1 : Int))))
  (rec so1 list5 t9 (IntKind.i64.wrap (t10 + (1 : Int)))))
  (k list5)
def zz42_a3 (list5 : Y4) : Option (Y4 × Unit) :=
  some (list5, (()))
def zz42_s (L3 : (Y5 × (Int × Unit)) → Y4 → Int → Int → Option (Y4 × Unit)) (o_0 : Y5) (so_1 : (Y5 × (Int × Unit))) : Option (Y4 × Unit) :=
  L3 so_1 [] (o_0.length : Int) (0 : Int)
def zz42_l3 (N : Nat) (k : Y4 → Option (Y4 × Unit)) : Nat → (Y5 × (Int × Unit)) → Y4 → Int → Int → Option (Y4 × Unit)
  | 0, _, _, _, _ => none
  | m + 1, so1, list5, t9, t10 => zz42_b3 (zz42_l3 N k m) k so1 list5 t9 t10
def zz42_F3 (N : Nat) (so1 : (Y5 × (Int × Unit))) (list5 : Y4) (t9 : Int) (t10 : Int) : Option (Y4 × Unit) := zz42_l3 N (zz42_a3) N so1 list5 t9 t10
def zz42 (N : Nat) (o_0 : Y5) (so_1 : (Y5 × (Int × Unit))) : Option (Y4 × Unit) := zz42_s (zz42_F3 N) o_0 so_1
def S_zz42 : Sig := { a := (.pair (.sl (.sl .bool)) (.pair (.clo 69 0 (.pair (.ptr (.sl (.sl .bool))) (.pair (.ptr I) .unit))) .unit)), md := [0, 0], mf := [], m := .unit, r := (.sl I), rf := (.o .i), f := fun x => zz42 big x.1 x.2.1 }
def A_zz42 : Cfg := mkCfg tab [(69, S_zz41)] [(6, [.drop, .as (.clo 69 0 (.pair (.ptr (.sl (.sl .bool))) (.pair (.ptr I) .unit))) .i, .drop, .drop, .drop, .as (.sl I) (.o .i), .drop, .drop, .drop, .as I .i, .as I .i]), (17, [.drop, .drop, .drop, .drop, .drop, .as (.sl I) (.o .i)])]
noncomputable def zz42_R3 (N n : Nat) (K : Ex → St → Option (Y4 × Unit)) (so1 : (Y5 × (Int × Unit))) (list5 : Y4) (t9 : Int) (t10 : Int) : Option (Y4 × Unit) := iter ((A_zz42).shape 6) (run (A_zz42) N (codeAt Try.f68 [1, 1, 0, 1, 0, 0])) n ([.u, .val (.clo 69 0 (.pair (.ptr (.sl (.sl .bool))) (.pair (.ptr I) .unit))) .i so1, .u, .u, .u, .val (.sl I) (.o .i) list5, .u, .u, .u, .val I .i t9, .val I .i t10] ++ List.replicate 11 .u) K
noncomputable abbrev zz42_z : Ex → St → Option (Y4 × Unit) := finish (A_zz42) S_zz42 Try.f68.results.toList
noncomputable abbrev zz42_X3 (kX : St → Option (Y4 × Unit)) : Y4 → Option (Y4 × Unit) := fun (list5 : Y4) => kX ([.u, .u, .u, .u, .u, .val (.sl I) (.o .i) list5] ++ List.replicate 16 .u)
noncomputable abbrev zz42_E3 (kX : St → Option (Y4 × Unit)) (kO : Nat → St → Option (Y4 × Unit)) : Ex → St → Option (Y4 × Unit) := exK zz42_z 0 ((A_zz42).shape 17) kX kO
theorem zz42_step3 (N : Nat) (m : Nat) (kX : St → Option (Y4 × Unit)) (kO : Nat → St → Option (Y4 × Unit)) (so1 : (Y5 × (Int × Unit))) (list5 : Y4) (t9 : Int) (t10 : Int) : zz42_R3 N (m + 1) (zz42_E3 kX kO) so1 list5 t9 t10 = zz42_b3 (zz42_R3 N m (zz42_E3 kX kO)) (zz42_X3 kX) so1 list5 t9 t10 := by kernel_rfl
theorem zz42_iter3 (N : Nat) (kX : St → Option (Y4 × Unit)) (kO : Nat → St → Option (Y4 × Unit)) : ∀ (n : Nat) (so1 : (Y5 × (Int × Unit))) (list5 : Y4) (t9 : Int) (t10 : Int), zz42_R3 N n (zz42_E3 kX kO) so1 list5 t9 t10 = zz42_l3 N (zz42_X3 kX) n so1 list5 t9 t10
  | 0, _, _, _, _ => rfl
  | m + 1, so1, list5, t9, t10 => by
    have hrec : zz42_R3 N m (zz42_E3 kX kO) = (zz42_l3 N (zz42_X3 kX) m) := (funext fun so1 => (funext fun list5 => (funext fun t9 => (funext fun t10 => zz42_iter3 N kX kO m so1 list5 t9 t10))))
    refine (zz42_step3 N m kX kO so1 list5 t9 t10).trans ?_
    rw [hrec]
    rfl
noncomputable abbrev zz42_K3 (N : Nat) : Ex → St → Option (Y4 × Unit) := (blockK 0 (seqK ((A_zz42).shape 17) (run (A_zz42) N (codeAt Try.f68 [1, 1, 1])) zz42_z))
noncomputable abbrev zz42_k3 (N : Nat) : St → Option (Y4 × Unit) := fun st' => run (A_zz42) N (codeAt Try.f68 [1, 1, 1]) st' zz42_z
theorem zz42_after3 (N : Nat) (list5 : Y4) : zz42_X3 (zz42_k3 N) list5 = zz42_a3 list5 := by kernel_rfl
theorem zz42_in3 (N : Nat) (so1 : (Y5 × (Int × Unit))) (list5 : Y4) (t9 : Int) (t10 : Int) : zz42_R3 N N (zz42_K3 N) so1 list5 t9 t10 = zz42_F3 N so1 list5 t9 t10 :=
  have h : zz42_X3 (zz42_k3 N) = (zz42_a3) := (funext fun list5 => zz42_after3 N list5)
  ((iter_ex (fun st => by kernel_rfl) (fun st => by kernel_rfl)).trans (zz42_iter3 N (zz42_k3 N) (fun j st => (zz42_K3 N) (.exit j) st) N so1 list5 t9 t10)).trans (congrArg (fun k => zz42_l3 N k N so1 list5 t9 t10) h)
theorem run0_zz42 (N : Nat) (x : (S_zz42).a.den) : runF (A_zz42) N Try.f68 S_zz42 x = (zz42_s (zz42_R3 N N (zz42_K3 N)) x.1 x.2.1) := by kernel_rfl
theorem run_zz42 (N : Nat) (x : (S_zz42).a.den) : runF (A_zz42) N Try.f68 S_zz42 x = zz42 N x.1 x.2.1 := by
  refine (run0_zz42 N x).trans ?_
  rw [(funext fun so1 => (funext fun list5 => (funext fun t9 => (funext fun t10 => zz42_in3 N so1 list5 t9 t10))))]
  rfl
theorem fn_zz42 : FnOk Try.prog 68 := ⟨_, Try.func68, by kernel_rfl, by kernel_rfl⟩
theorem good_zz42 : Gx.Good Try.prog 68 S_zz42 := good_of_run Try.func68 (of_decide_eq_true (by kernel_rfl)) fun x r h => ⟨A_zz42, big, mkCfg_ok tabOk, mkCfg_sigs (show SigsOk Try.prog [(69, S_zz41)] from ⟨⟨fn_zz41, good_zz41⟩, trivial⟩), (run_zz42 big x).trans h⟩

/-! zz43 -/
def zz43_s (o_0 : Y5) (x_1 : Int) : Option (Y4 × Unit) :=
  (zz42 big o_0 (o_0, x_1, ())).bind fun rq1 =>
  some (rq1.1, (()))
def zz43 (o_0 : Y5) (x_1 : Int) : Option (Y4 × Unit) := zz43_s o_0 x_1
def S_zz43 : Sig := { a := (.pair (.sl (.sl .bool)) (.pair I .unit)), md := [0, 0], mf := [], m := .unit, r := (.sl I), rf := (.o .i), f := fun x => zz43 x.1 x.2.1 }
def A_zz43 : Cfg := mkCfg tab [(68, S_zz42)] [(3, [.drop, .drop, .as (.ptr (.sl (.sl .bool))) .i, .as (.ptr I) .i])]
theorem run_zz43 (N : Nat) (x : (S_zz43).a.den) : runF (A_zz43) N Try.f30 S_zz43 x = zz43 x.1 x.2.1 := by kernel_rfl
theorem fn_zz43 : FnOk Try.prog 30 := ⟨_, Try.func30, by kernel_rfl, by kernel_rfl⟩
theorem good_zz43 : Gx.Good Try.prog 30 S_zz43 := good_of_run Try.func30 (of_decide_eq_true (by kernel_rfl)) fun x r h => ⟨A_zz43, big, mkCfg_ok tabOk, mkCfg_sigs (show SigsOk Try.prog [(68, S_zz42)] from ⟨⟨fn_zz42, good_zz42⟩, trivial⟩), (run_zz43 big x).trans h⟩
end Go.Proofs.Ytlndlclemhfekaa
