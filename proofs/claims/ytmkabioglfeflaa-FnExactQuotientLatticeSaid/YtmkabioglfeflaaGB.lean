import Derived.Test.YtmkabioglfeflaaGBp1
set_option maxRecDepth 100000
set_option linter.unusedVariables false
namespace Go.Proofs.Ytmkabioglfeflaa
open Go Go.Gx Go.Proofs

/-! zz35 -/
def zz35_s (p_0 : Y2) (c_1 : Y4) : Option ((Y2 × (Bool × Unit)) × Unit) :=
  (zz15 p_0).bind fun rq1 =>
  cond (!rq1.1)
  (some (((([] : Y3), ()), false, ()), (())))
  ((zz16 big p_0).bind fun rq2 =>
  (zz26 rq2.1 c_1).bind fun rq3 =>
  cond (!rq3.1)
  (some (((([] : Y3), ()), false, ()), (())))
  ((zz16 big p_0).bind fun rq4 =>
  (zz30 big rq4.1 c_1).bind fun rq5 =>
  (zz34 big rq5.1).bind fun rq6 =>
  some ((rq6.1.1, (((), rq6.1.2).2).1, ()), (()))))
def zz35 (p_0 : Y2) (c_1 : Y4) : Option ((Y2 × (Bool × Unit)) × Unit) := zz35_s p_0 c_1
def S_zz35 : Sig := { a := (.pair (.pair (.sl (.sl I)) .unit) (.pair (.sl I) .unit)), md := [0, 0], mf := [], m := .unit, r := (.tup (.pair (.pair (.sl (.sl I)) .unit) (.pair .bool .unit))), rf := (.p (.p (.o (.o .i)) .i) .i), f := fun x => zz35 x.1 x.2.1 }
def A_zz35 : Cfg := mkCfg tab [(47, S_zz15), (56, S_zz16), (55, S_zz26), (65, S_zz30), (64, S_zz34)] []
theorem run_zz35 (N : Nat) (x : (S_zz35).a.den) : runF (A_zz35) N Try.f31 S_zz35 x = zz35 x.1 x.2.1 := by kernel_rfl
theorem fn_zz35 : FnOk Try.prog 31 := ⟨_, Try.func31, by kernel_rfl, by kernel_rfl⟩
theorem good_zz35 : Gx.Good Try.prog 31 S_zz35 := good_of_run Try.func31 (of_decide_eq_true (by kernel_rfl)) fun x r h => ⟨A_zz35, big, mkCfg_ok tabOk, mkCfg_sigs (show SigsOk Try.prog [(47, S_zz15), (56, S_zz16), (55, S_zz26), (65, S_zz30), (64, S_zz34)] from ⟨⟨fn_zz15, good_zz15⟩, ⟨fn_zz16, good_zz16⟩, ⟨fn_zz26, good_zz26⟩, ⟨fn_zz30, good_zz30⟩, ⟨fn_zz34, good_zz34⟩, trivial⟩), (run_zz35 big x).trans h⟩

/-! zz36 -/
def zz36_b3 (rec : Int → Y5 → Int → Int → Option (Y5 × Unit)) (k : Y5 → Option (Y5 × Unit)) (n0 : Int) (o3 : Y5) (t8 : Int) (t9 : Int) : Option (Y5 × Unit) :=
  cond (decide (t9 < t8))
  ((mkI false n0).bind fun xq3 => (mkI false n0).bind fun xq4 => cond (decide (n0 ≤ n0))
  ((atI o3 t9).bind fun _ =>
  (o3[t9.toNat]?).bind fun xq5 =>
  rec n0 (o3.set t9.toNat xq4) t8 (IntKind.i64.wrap (t9 + (1 : Int))))
  none)
  (k o3)
def zz36_a3 (o3 : Y5) : Option (Y5 × Unit) :=
  some (o3, (()))
def zz36_s (L3 : Int → Y5 → Int → Int → Option (Y5 × Unit)) (n_0 : Int) : Option (Y5 × Unit) :=
  (mkI ([] : (List Bool)) n_0).bind fun xq1 => (mkI ([] : (List Bool)) n_0).bind fun xq2 => cond (decide (n_0 ≤ n_0))
  (L3 n_0 xq2 (xq2.length : Int) (0 : Int))
  none
def zz36_l3 (N : Nat) (k : Y5 → Option (Y5 × Unit)) : Nat → Int → Y5 → Int → Int → Option (Y5 × Unit)
  | 0, _, _, _, _ => none
  | m + 1, n0, o3, t8, t9 => zz36_b3 (zz36_l3 N k m) k n0 o3 t8 t9
def zz36_F3 (N : Nat) (n0 : Int) (o3 : Y5) (t8 : Int) (t9 : Int) : Option (Y5 × Unit) := zz36_l3 N (zz36_a3) N n0 o3 t8 t9
def zz36 (N : Nat) (n_0 : Int) : Option (Y5 × Unit) := zz36_s (zz36_F3 N) n_0
def S_zz36 : Sig := { a := (.pair I .unit), md := [0], mf := [], m := .unit, r := (.sl (.sl .bool)), rf := (.o (.o .i)), f := fun x => zz36 big x.1 }
def A_zz36 : Cfg := mkCfg tab [] [(6, [.as I .i, .drop, .drop, .as (.sl (.sl .bool)) (.o (.o .i)), .drop, .drop, .drop, .drop, .as I .i, .as I .i]), (15, [.drop, .drop, .drop, .as (.sl (.sl .bool)) (.o (.o .i))])]
noncomputable def zz36_R3 (N n : Nat) (K : Ex → St → Option (Y5 × Unit)) (n0 : Int) (o3 : Y5) (t8 : Int) (t9 : Int) : Option (Y5 × Unit) := iter ((A_zz36).shape 6) (run (A_zz36) N (codeAt Try.f67 [1, 1, 0, 1, 0, 0])) n ([.val I .i n0, .u, .u, .val (.sl (.sl .bool)) (.o (.o .i)) o3, .u, .u, .u, .u, .val I .i t8, .val I .i t9] ++ List.replicate 9 .u) K
noncomputable abbrev zz36_z : Ex → St → Option (Y5 × Unit) := finish (A_zz36) S_zz36 Try.f67.results.toList
noncomputable abbrev zz36_X3 (kX : St → Option (Y5 × Unit)) : Y5 → Option (Y5 × Unit) := fun (o3 : Y5) => kX ([.u, .u, .u, .val (.sl (.sl .bool)) (.o (.o .i)) o3] ++ List.replicate 15 .u)
noncomputable abbrev zz36_E3 (kX : St → Option (Y5 × Unit)) (kO : Nat → St → Option (Y5 × Unit)) : Ex → St → Option (Y5 × Unit) := exK zz36_z 0 ((A_zz36).shape 15) kX kO
theorem zz36_step3 (N : Nat) (m : Nat) (kX : St → Option (Y5 × Unit)) (kO : Nat → St → Option (Y5 × Unit)) (n0 : Int) (o3 : Y5) (t8 : Int) (t9 : Int) : zz36_R3 N (m + 1) (zz36_E3 kX kO) n0 o3 t8 t9 = zz36_b3 (zz36_R3 N m (zz36_E3 kX kO)) (zz36_X3 kX) n0 o3 t8 t9 := by kernel_rfl
theorem zz36_iter3 (N : Nat) (kX : St → Option (Y5 × Unit)) (kO : Nat → St → Option (Y5 × Unit)) : ∀ (n : Nat) (n0 : Int) (o3 : Y5) (t8 : Int) (t9 : Int), zz36_R3 N n (zz36_E3 kX kO) n0 o3 t8 t9 = zz36_l3 N (zz36_X3 kX) n n0 o3 t8 t9
  | 0, _, _, _, _ => rfl
  | m + 1, n0, o3, t8, t9 => by
    have hrec : zz36_R3 N m (zz36_E3 kX kO) = (zz36_l3 N (zz36_X3 kX) m) := (funext fun n0 => (funext fun o3 => (funext fun t8 => (funext fun t9 => zz36_iter3 N kX kO m n0 o3 t8 t9))))
    refine (zz36_step3 N m kX kO n0 o3 t8 t9).trans ?_
    rw [hrec]
    rfl
noncomputable abbrev zz36_K3 (N : Nat) : Ex → St → Option (Y5 × Unit) := (blockK 0 (seqK ((A_zz36).shape 15) (run (A_zz36) N (codeAt Try.f67 [1, 1, 1])) zz36_z))
noncomputable abbrev zz36_k3 (N : Nat) : St → Option (Y5 × Unit) := fun st' => run (A_zz36) N (codeAt Try.f67 [1, 1, 1]) st' zz36_z
theorem zz36_after3 (N : Nat) (o3 : Y5) : zz36_X3 (zz36_k3 N) o3 = zz36_a3 o3 := by kernel_rfl
theorem zz36_in3 (N : Nat) (n0 : Int) (o3 : Y5) (t8 : Int) (t9 : Int) : zz36_R3 N N (zz36_K3 N) n0 o3 t8 t9 = zz36_F3 N n0 o3 t8 t9 :=
  have h : zz36_X3 (zz36_k3 N) = (zz36_a3) := (funext fun o3 => zz36_after3 N o3)
  ((iter_ex (fun st => by kernel_rfl) (fun st => by kernel_rfl)).trans (zz36_iter3 N (zz36_k3 N) (fun j st => (zz36_K3 N) (.exit j) st) N n0 o3 t8 t9)).trans (congrArg (fun k => zz36_l3 N k N n0 o3 t8 t9) h)
theorem run0_zz36 (N : Nat) (x : (S_zz36).a.den) : runF (A_zz36) N Try.f67 S_zz36 x = (zz36_s (zz36_R3 N N (zz36_K3 N)) x.1) := by kernel_rfl
theorem run_zz36 (N : Nat) (x : (S_zz36).a.den) : runF (A_zz36) N Try.f67 S_zz36 x = zz36 N x.1 := by
  refine (run0_zz36 N x).trans ?_
  rw [(funext fun n0 => (funext fun o3 => (funext fun t8 => (funext fun t9 => zz36_in3 N n0 o3 t8 t9))))]
  rfl
theorem fn_zz36 : FnOk Try.prog 67 := ⟨_, Try.func67, by kernel_rfl, by kernel_rfl⟩
theorem good_zz36 : Gx.Good Try.prog 67 S_zz36 := good_of_run Try.func67 (of_decide_eq_true (by kernel_rfl)) fun x r h => ⟨A_zz36, big, mkCfg_ok tabOk, mkCfg_sigs (show SigsOk Try.prog [] from trivial), (run_zz36 big x).trans h⟩

/-! zz37 -/
def zz37_b2 (rec : Y4 → Int → Option (Bool × Unit)) (k : Option (Bool × Unit)) (list0 : Y4) (i3 : Int) : Option (Bool × Unit) :=
  cond (decide (i3 < (list0.length : Int)))
  ((atI list0 (IntKind.i64.wrap (i3 - (1 : Int)))).bind fun xq1 =>
  (atI list0 i3).bind fun xq2 =>
  cond (decide (xq2 ≤ xq1))
  (some (false, (())))
  (rec list0 (IntKind.i64.wrap (i3 + (1 : Int)))))
  (k)
def zz37_a2 : Option (Bool × Unit) :=
  some (true, (()))
def zz37_s (L2 : Y4 → Int → Option (Bool × Unit)) (list_0 : Y4) : Option (Bool × Unit) :=
  L2 list_0 (1 : Int)
def zz37_l2 (N : Nat) (k : Option (Bool × Unit)) : Nat → Y4 → Int → Option (Bool × Unit)
  | 0, _, _ => none
  | m + 1, list0, i3 => zz37_b2 (zz37_l2 N k m) k list0 i3
def zz37_F2 (N : Nat) (list0 : Y4) (i3 : Int) : Option (Bool × Unit) := zz37_l2 N (zz37_a2) N list0 i3
def zz37 (N : Nat) (list_0 : Y4) : Option (Bool × Unit) := zz37_s (zz37_F2 N) list_0
def S_zz37 : Sig := { a := (.pair (.sl I) .unit), md := [0], mf := [], m := .unit, r := .bool, rf := .i, f := fun x => zz37 big x.1 }
def A_zz37 : Cfg := mkCfg tab [] [(4, [.as (.sl I) .i, .drop, .drop, .as I .i]), (13, [])]
noncomputable def zz37_R2 (N n : Nat) (K : Ex → St → Option (Bool × Unit)) (list0 : Y4) (i3 : Int) : Option (Bool × Unit) := iter ((A_zz37).shape 4) (run (A_zz37) N (codeAt Try.f118 [1, 0, 1, 0, 0])) n ([.val (.sl I) .i list0, .u, .u, .val I .i i3] ++ List.replicate 16 .u) K
noncomputable abbrev zz37_z : Ex → St → Option (Bool × Unit) := finish (A_zz37) S_zz37 Try.f118.results.toList
noncomputable abbrev zz37_X2 (kX : St → Option (Bool × Unit)) : Option (Bool × Unit) := kX ([] ++ List.replicate 20 .u)
noncomputable abbrev zz37_E2 (kX : St → Option (Bool × Unit)) (kO : Nat → St → Option (Bool × Unit)) : Ex → St → Option (Bool × Unit) := exK zz37_z 0 ((A_zz37).shape 13) kX kO
theorem zz37_step2 (N : Nat) (m : Nat) (kX : St → Option (Bool × Unit)) (kO : Nat → St → Option (Bool × Unit)) (list0 : Y4) (i3 : Int) : zz37_R2 N (m + 1) (zz37_E2 kX kO) list0 i3 = zz37_b2 (zz37_R2 N m (zz37_E2 kX kO)) (zz37_X2 kX) list0 i3 := by kernel_rfl
theorem zz37_iter2 (N : Nat) (kX : St → Option (Bool × Unit)) (kO : Nat → St → Option (Bool × Unit)) : ∀ (n : Nat) (list0 : Y4) (i3 : Int), zz37_R2 N n (zz37_E2 kX kO) list0 i3 = zz37_l2 N (zz37_X2 kX) n list0 i3
  | 0, _, _ => rfl
  | m + 1, list0, i3 => by
    have hrec : zz37_R2 N m (zz37_E2 kX kO) = (zz37_l2 N (zz37_X2 kX) m) := (funext fun list0 => (funext fun i3 => zz37_iter2 N kX kO m list0 i3))
    refine (zz37_step2 N m kX kO list0 i3).trans ?_
    rw [hrec]
    rfl
noncomputable abbrev zz37_K2 (N : Nat) : Ex → St → Option (Bool × Unit) := (blockK 0 (seqK ((A_zz37).shape 13) (run (A_zz37) N (codeAt Try.f118 [1, 1])) zz37_z))
noncomputable abbrev zz37_k2 (N : Nat) : St → Option (Bool × Unit) := fun st' => run (A_zz37) N (codeAt Try.f118 [1, 1]) st' zz37_z
theorem zz37_after2 (N : Nat) : zz37_X2 (zz37_k2 N) = zz37_a2 := by kernel_rfl
theorem zz37_in2 (N : Nat) (list0 : Y4) (i3 : Int) : zz37_R2 N N (zz37_K2 N) list0 i3 = zz37_F2 N list0 i3 :=
  have h : zz37_X2 (zz37_k2 N) = (zz37_a2) := zz37_after2 N
  ((iter_ex (fun st => by kernel_rfl) (fun st => by kernel_rfl)).trans (zz37_iter2 N (zz37_k2 N) (fun j st => (zz37_K2 N) (.exit j) st) N list0 i3)).trans (congrArg (fun k => zz37_l2 N k N list0 i3) h)
theorem run0_zz37 (N : Nat) (x : (S_zz37).a.den) : runF (A_zz37) N Try.f118 S_zz37 x = (zz37_s (zz37_R2 N N (zz37_K2 N)) x.1) := by kernel_rfl
theorem run_zz37 (N : Nat) (x : (S_zz37).a.den) : runF (A_zz37) N Try.f118 S_zz37 x = zz37 N x.1 := by
  refine (run0_zz37 N x).trans ?_
  rw [(funext fun list0 => (funext fun i3 => zz37_in2 N list0 i3))]
  rfl
theorem fn_zz37 : FnOk Try.prog 118 := ⟨_, Try.func118, by kernel_rfl, by kernel_rfl⟩
theorem good_zz37 : Gx.Good Try.prog 118 S_zz37 := good_of_run Try.func118 (of_decide_eq_true (by kernel_rfl)) fun x r h => ⟨A_zz37, big, mkCfg_ok tabOk, mkCfg_sigs (show SigsOk Try.prog [] from trivial), (run_zz37 big x).trans h⟩

/-! zz38 -/
def zz38_b2 (rec : Int → Y4 → Int → Int → Option (Bool × Unit)) (k : Option (Bool × Unit)) (n1 : Int) (t7 : Y4) (t8 : Int) (t9 : Int) : Option (Bool × Unit) :=
  cond (decide (t9 < t8))
  ((atI t7 t9).bind fun xq1 =>
  cond (decide (xq1 < (0 : Int)))
  (some (false, (())))
  (cond (decide (n1 ≤ xq1))
  (some (false, (())))
  (rec n1 t7 t8 (IntKind.i64.wrap (t9 + (1 : Int))))))
  (k)
def zz38_a2 : Option (Bool × Unit) :=
  some (true, (()))
def zz38_s (L2 : Int → Y4 → Int → Int → Option (Bool × Unit)) (list_0 : Y4) (n_1 : Int) : Option (Bool × Unit) :=
  L2 n_1 list_0 (list_0.length : Int) (0 : Int)
def zz38_l2 (N : Nat) (k : Option (Bool × Unit)) : Nat → Int → Y4 → Int → Int → Option (Bool × Unit)
  | 0, _, _, _, _ => none
  | m + 1, n1, t7, t8, t9 => zz38_b2 (zz38_l2 N k m) k n1 t7 t8 t9
def zz38_F2 (N : Nat) (n1 : Int) (t7 : Y4) (t8 : Int) (t9 : Int) : Option (Bool × Unit) := zz38_l2 N (zz38_a2) N n1 t7 t8 t9
def zz38 (N : Nat) (list_0 : Y4) (n_1 : Int) : Option (Bool × Unit) := zz38_s (zz38_F2 N) list_0 n_1
def S_zz38 : Sig := { a := (.pair (.sl I) (.pair I .unit)), md := [0, 0], mf := [], m := .unit, r := .bool, rf := .i, f := fun x => zz38 big x.1 x.2.1 }
def A_zz38 : Cfg := mkCfg tab [] [(4, [.drop, .as I .i, .drop, .drop, .drop, .drop, .drop, .as (.sl I) .i, .as I .i, .as I .i]), (15, [])]
noncomputable def zz38_R2 (N n : Nat) (K : Ex → St → Option (Bool × Unit)) (n1 : Int) (t7 : Y4) (t8 : Int) (t9 : Int) : Option (Bool × Unit) := iter ((A_zz38).shape 4) (run (A_zz38) N (codeAt Try.f134 [1, 0, 1, 0, 0])) n ([.u, .val I .i n1, .u, .u, .u, .u, .u, .val (.sl I) .i t7, .val I .i t8, .val I .i t9] ++ List.replicate 11 .u) K
noncomputable abbrev zz38_z : Ex → St → Option (Bool × Unit) := finish (A_zz38) S_zz38 Try.f134.results.toList
noncomputable abbrev zz38_X2 (kX : St → Option (Bool × Unit)) : Option (Bool × Unit) := kX ([] ++ List.replicate 21 .u)
noncomputable abbrev zz38_E2 (kX : St → Option (Bool × Unit)) (kO : Nat → St → Option (Bool × Unit)) : Ex → St → Option (Bool × Unit) := exK zz38_z 0 ((A_zz38).shape 15) kX kO
theorem zz38_step2 (N : Nat) (m : Nat) (kX : St → Option (Bool × Unit)) (kO : Nat → St → Option (Bool × Unit)) (n1 : Int) (t7 : Y4) (t8 : Int) (t9 : Int) : zz38_R2 N (m + 1) (zz38_E2 kX kO) n1 t7 t8 t9 = zz38_b2 (zz38_R2 N m (zz38_E2 kX kO)) (zz38_X2 kX) n1 t7 t8 t9 := by kernel_rfl
theorem zz38_iter2 (N : Nat) (kX : St → Option (Bool × Unit)) (kO : Nat → St → Option (Bool × Unit)) : ∀ (n : Nat) (n1 : Int) (t7 : Y4) (t8 : Int) (t9 : Int), zz38_R2 N n (zz38_E2 kX kO) n1 t7 t8 t9 = zz38_l2 N (zz38_X2 kX) n n1 t7 t8 t9
  | 0, _, _, _, _ => rfl
  | m + 1, n1, t7, t8, t9 => by
    have hrec : zz38_R2 N m (zz38_E2 kX kO) = (zz38_l2 N (zz38_X2 kX) m) := (funext fun n1 => (funext fun t7 => (funext fun t8 => (funext fun t9 => zz38_iter2 N kX kO m n1 t7 t8 t9))))
    refine (zz38_step2 N m kX kO n1 t7 t8 t9).trans ?_
    rw [hrec]
    rfl
noncomputable abbrev zz38_K2 (N : Nat) : Ex → St → Option (Bool × Unit) := (blockK 0 (seqK ((A_zz38).shape 15) (run (A_zz38) N (codeAt Try.f134 [1, 1])) zz38_z))
noncomputable abbrev zz38_k2 (N : Nat) : St → Option (Bool × Unit) := fun st' => run (A_zz38) N (codeAt Try.f134 [1, 1]) st' zz38_z
theorem zz38_after2 (N : Nat) : zz38_X2 (zz38_k2 N) = zz38_a2 := by kernel_rfl
theorem zz38_in2 (N : Nat) (n1 : Int) (t7 : Y4) (t8 : Int) (t9 : Int) : zz38_R2 N N (zz38_K2 N) n1 t7 t8 t9 = zz38_F2 N n1 t7 t8 t9 :=
  have h : zz38_X2 (zz38_k2 N) = (zz38_a2) := zz38_after2 N
  ((iter_ex (fun st => by kernel_rfl) (fun st => by kernel_rfl)).trans (zz38_iter2 N (zz38_k2 N) (fun j st => (zz38_K2 N) (.exit j) st) N n1 t7 t8 t9)).trans (congrArg (fun k => zz38_l2 N k N n1 t7 t8 t9) h)
theorem run0_zz38 (N : Nat) (x : (S_zz38).a.den) : runF (A_zz38) N Try.f134 S_zz38 x = (zz38_s (zz38_R2 N N (zz38_K2 N)) x.1 x.2.1) := by kernel_rfl
theorem run_zz38 (N : Nat) (x : (S_zz38).a.den) : runF (A_zz38) N Try.f134 S_zz38 x = zz38 N x.1 x.2.1 := by
  refine (run0_zz38 N x).trans ?_
  rw [(funext fun n1 => (funext fun t7 => (funext fun t8 => (funext fun t9 => zz38_in2 N n1 t7 t8 t9))))]
  rfl
theorem fn_zz38 : FnOk Try.prog 134 := ⟨_, Try.func134, by kernel_rfl, by kernel_rfl⟩
theorem good_zz38 : Gx.Good Try.prog 134 S_zz38 := good_of_run Try.func134 (of_decide_eq_true (by kernel_rfl)) fun x r h => ⟨A_zz38, big, mkCfg_ok tabOk, mkCfg_sigs (show SigsOk Try.prog [] from trivial), (run_zz38 big x).trans h⟩

/-! zz39 -/
def zz39_b12 (rec : Y5 → Int → Int → Int → Int → Int → Int → Int → Int → Option (Bool × Unit)) (k : Y5 → Int → Int → Int → Int → Int → Option (Bool × Unit)) (o0 : Y5) (x3 : Int) (y4 : Int) (t7 : Int) (t8 : Int) (t20 : Int) (t21 : Int) (t46 : Int) (t47 : Int) : Option (Bool × Unit) :=
  cond (decide (t47 < t46))
  ((atI o0 x3).bind fun xq7 =>
  (atI xq7 y4).bind fun xq8 =>
  cond xq8
  ((atI o0 y4).bind fun xq9 =>
  (atI xq9 t47).bind fun xq10 =>
  cond xq10
  ((atI o0 x3).bind fun xq11 =>
  (atI xq11 t47).bind fun xq12 =>
  cond (!xq12)
  (some (false, (())))
  (rec o0 x3 y4 t7 t8 t20 t21 t46 (IntKind.i64.wrap (t47 + (1 : Int)))))
  (rec o0 x3 y4 t7 t8 t20 t21 t46 (IntKind.i64.wrap (t47 + (1 : Int)))))
  (rec o0 x3 y4 t7 t8 t20 t21 t46 (IntKind.i64.wrap (t47 + (1 : Int)))))
  (k o0 x3 t7 t8 t20 t21)
def zz39_a12 (rec : Y5 → Int → Int → Int → Int → Int → Option (Bool × Unit)) (o0 : Y5) (x3 : Int) (t7 : Int) (t8 : Int) (t20 : Int) (t21 : Int) : Option (Bool × Unit) :=
  rec o0 x3 t7 t8 t20 (IntKind.i64.wrap (t21 + (1 : Int)))
def zz39_b7 (L12 : Y5 → Int → Int → Int → Int → Int → Int → Int → Int → Option (Bool × Unit)) (k : Y5 → Int → Int → Option (Bool × Unit)) (o0 : Y5) (x3 : Int) (t7 : Int) (t8 : Int) (t20 : Int) (t21 : Int) : Option (Bool × Unit) :=
  cond (decide (t21 < t20))
  (cond (decide (x3 ≠ t21))
  ((atI o0 x3).bind fun xq3 =>
  (atI xq3 t21).bind fun xq4 =>
  cond xq4
  ((atI o0 t21).bind fun xq5 =>
  (atI xq5 x3).bind fun xq6 =>
  cond xq6
  (some (false, (())))
  (L12 o0 x3 t21 t7 t8 t20 t21 (o0.length : Int) (0 : Int)))
  (L12 o0 x3 t21 t7 t8 t20 t21 (o0.length : Int) (0 : Int)))
  (L12 o0 x3 t21 t7 t8 t20 t21 (o0.length : Int) (0 : Int)))
  (k o0 t7 t8)
def zz39_a7 (rec : Y5 → Int → Int → Option (Bool × Unit)) (o0 : Y5) (t7 : Int) (t8 : Int) : Option (Bool × Unit) :=
  rec o0 t7 (IntKind.i64.wrap (t8 + (1 : Int)))
def zz39_b2 (L7 : Y5 → Int → Int → Int → Int → Int → Option (Bool × Unit)) (k : Option (Bool × Unit)) (o0 : Y5) (t7 : Int) (t8 : Int) : Option (Bool × Unit) :=
  cond (decide (t8 < t7))
  ((atI o0 t8).bind fun xq1 =>
  (atI xq1 t8).bind fun xq2 =>
  cond (!xq2)
  (some (false, (())))
  (L7 o0 t8 t7 t8 (o0.length : Int) (0 : Int)))
  (k)
def zz39_a2 : Option (Bool × Unit) :=
  some (true, (()))
def zz39_s (L2 : Y5 → Int → Int → Option (Bool × Unit)) (o_0 : Y5) : Option (Bool × Unit) :=
  L2 o_0 (o_0.length : Int) (0 : Int)
def zz39_l12 (N : Nat) (k : Y5 → Int → Int → Int → Int → Int → Option (Bool × Unit)) : Nat → Y5 → Int → Int → Int → Int → Int → Int → Int → Int → Option (Bool × Unit)
  | 0, _, _, _, _, _, _, _, _, _ => none
  | m + 1, o0, x3, y4, t7, t8, t20, t21, t46, t47 => zz39_b12 (zz39_l12 N k m) k o0 x3 y4 t7 t8 t20 t21 t46 t47
def zz39_F12 (N : Nat) (rec : Y5 → Int → Int → Int → Int → Int → Option (Bool × Unit)) (k : Y5 → Int → Int → Option (Bool × Unit)) (o0 : Y5) (x3 : Int) (y4 : Int) (t7 : Int) (t8 : Int) (t20 : Int) (t21 : Int) (t46 : Int) (t47 : Int) : Option (Bool × Unit) := zz39_l12 N (zz39_a12 rec) N o0 x3 y4 t7 t8 t20 t21 t46 t47
def zz39_l7 (N : Nat) (k : Y5 → Int → Int → Option (Bool × Unit)) : Nat → Y5 → Int → Int → Int → Int → Int → Option (Bool × Unit)
  | 0, _, _, _, _, _, _ => none
  | m + 1, o0, x3, t7, t8, t20, t21 => zz39_b7 (zz39_F12 N (zz39_l7 N k m) k) k o0 x3 t7 t8 t20 t21
def zz39_F7 (N : Nat) (rec : Y5 → Int → Int → Option (Bool × Unit)) (k : Option (Bool × Unit)) (o0 : Y5) (x3 : Int) (t7 : Int) (t8 : Int) (t20 : Int) (t21 : Int) : Option (Bool × Unit) := zz39_l7 N (zz39_a7 rec) N o0 x3 t7 t8 t20 t21
def zz39_l2 (N : Nat) (k : Option (Bool × Unit)) : Nat → Y5 → Int → Int → Option (Bool × Unit)
  | 0, _, _, _ => none
  | m + 1, o0, t7, t8 => zz39_b2 (zz39_F7 N (zz39_l2 N k m) k) k o0 t7 t8
def zz39_F2 (N : Nat) (o0 : Y5) (t7 : Int) (t8 : Int) : Option (Bool × Unit) := zz39_l2 N (zz39_a2) N o0 t7 t8
def zz39 (N : Nat) (o_0 : Y5) : Option (Bool × Unit) := zz39_s (zz39_F2 N) o_0
def S_zz39 : Sig := { a := (.pair (.sl (.sl .bool)) .unit), md := [0], mf := [], m := .unit, r := .bool, rf := .i, f := fun x => zz39 big x.1 }
def A_zz39 : Cfg := mkCfg tab [] [(4, [.as (.sl (.sl .bool)) .i, .drop, .drop, .drop, .drop, .drop, .drop, .as I .i, .as I .i]), (14, [.as (.sl (.sl .bool)) .i, .drop, .drop, .as I .i, .drop, .drop, .drop, .as I .i, .as I .i, .drop, .drop, .drop, .drop, .drop, .drop, .drop, .drop, .drop, .drop, .drop, .as I .i, .as I .i]), (39, []), (24, [.as (.sl (.sl .bool)) .i, .drop, .drop, .as I .i, .as I .i, .drop, .drop, .as I .i, .as I .i, .drop, .drop, .drop, .drop, .drop, .drop, .drop, .drop, .drop, .drop, .drop, .as I .i, .as I .i, .drop, .drop, .drop, .drop, .drop, .drop, .drop, .drop, .drop, .drop, .drop, .drop, .drop, .drop, .drop, .drop, .drop, .drop, .drop, .drop, .drop, .drop, .drop, .drop, .as I .i, .as I .i]), (37, [.as (.sl (.sl .bool)) .i, .drop, .drop, .drop, .drop, .drop, .drop, .as I .i, .as I .i]), (35, [.as (.sl (.sl .bool)) .i, .drop, .drop, .as I .i, .drop, .drop, .drop, .as I .i, .as I .i, .drop, .drop, .drop, .drop, .drop, .drop, .drop, .drop, .drop, .drop, .drop, .as I .i, .as I .i])]
noncomputable def zz39_R2 (N n : Nat) (K : Ex → St → Option (Bool × Unit)) (o0 : Y5) (t7 : Int) (t8 : Int) : Option (Bool × Unit) := iter ((A_zz39).shape 4) (run (A_zz39) N (codeAt Try.f149 [1, 0, 1, 0, 0])) n ([.val (.sl (.sl .bool)) .i o0, .u, .u, .u, .u, .u, .u, .val I .i t7, .val I .i t8] ++ List.replicate 70 .u) K
noncomputable def zz39_R7 (N n : Nat) (K : Ex → St → Option (Bool × Unit)) (o0 : Y5) (x3 : Int) (t7 : Int) (t8 : Int) (t20 : Int) (t21 : Int) : Option (Bool × Unit) := iter ((A_zz39).shape 14) (run (A_zz39) N (codeAt Try.f149 [1, 0, 1, 0, 0, 1, 1, 0, 0, 1, 1, 1, 0, 0])) n ([.val (.sl (.sl .bool)) .i o0, .u, .u, .val I .i x3, .u, .u, .u, .val I .i t7, .val I .i t8, .u, .u, .u, .u, .u, .u, .u, .u, .u, .u, .u, .val I .i t20, .val I .i t21] ++ List.replicate 57 .u) K
noncomputable def zz39_R12 (N n : Nat) (K : Ex → St → Option (Bool × Unit)) (o0 : Y5) (x3 : Int) (y4 : Int) (t7 : Int) (t8 : Int) (t20 : Int) (t21 : Int) (t46 : Int) (t47 : Int) : Option (Bool × Unit) := iter ((A_zz39).shape 24) (run (A_zz39) N (codeAt Try.f149 [1, 0, 1, 0, 0, 1, 1, 0, 0, 1, 1, 1, 0, 0, 1, 1, 0, 0, 1, 1, 1, 0, 0])) n ([.val (.sl (.sl .bool)) .i o0, .u, .u, .val I .i x3, .val I .i y4, .u, .u, .val I .i t7, .val I .i t8, .u, .u, .u, .u, .u, .u, .u, .u, .u, .u, .u, .val I .i t20, .val I .i t21, .u, .u, .u, .u, .u, .u, .u, .u, .u, .u, .u, .u, .u, .u, .u, .u, .u, .u, .u, .u, .u, .u, .u, .u, .val I .i t46, .val I .i t47] ++ List.replicate 31 .u) K
noncomputable abbrev zz39_z : Ex → St → Option (Bool × Unit) := finish (A_zz39) S_zz39 Try.f149.results.toList
noncomputable abbrev zz39_X2 (kX : St → Option (Bool × Unit)) : Option (Bool × Unit) := kX ([] ++ List.replicate 79 .u)
noncomputable abbrev zz39_E2 (kX : St → Option (Bool × Unit)) (kO : Nat → St → Option (Bool × Unit)) : Ex → St → Option (Bool × Unit) := exK zz39_z 0 ((A_zz39).shape 39) kX kO
noncomputable abbrev zz39_X7 (kX : St → Option (Bool × Unit)) : Y5 → Int → Int → Option (Bool × Unit) := fun (o0 : Y5) (t7 : Int) (t8 : Int) => kX ([.val (.sl (.sl .bool)) .i o0, .u, .u, .u, .u, .u, .u, .val I .i t7, .val I .i t8] ++ List.replicate 70 .u)
noncomputable abbrev zz39_E7 (kX : St → Option (Bool × Unit)) (kO : Nat → St → Option (Bool × Unit)) : Ex → St → Option (Bool × Unit) := exK zz39_z 2 ((A_zz39).shape 37) kX kO
noncomputable abbrev zz39_X12 (kX : St → Option (Bool × Unit)) : Y5 → Int → Int → Int → Int → Int → Option (Bool × Unit) := fun (o0 : Y5) (x3 : Int) (t7 : Int) (t8 : Int) (t20 : Int) (t21 : Int) => kX ([.val (.sl (.sl .bool)) .i o0, .u, .u, .val I .i x3, .u, .u, .u, .val I .i t7, .val I .i t8, .u, .u, .u, .u, .u, .u, .u, .u, .u, .u, .u, .val I .i t20, .val I .i t21] ++ List.replicate 57 .u)
noncomputable abbrev zz39_E12 (kX : St → Option (Bool × Unit)) (kO : Nat → St → Option (Bool × Unit)) : Ex → St → Option (Bool × Unit) := exK zz39_z 4 ((A_zz39).shape 35) kX kO
theorem zz39_step12 (N : Nat) (m : Nat) (kX : St → Option (Bool × Unit)) (kO : Nat → St → Option (Bool × Unit)) (o0 : Y5) (x3 : Int) (y4 : Int) (t7 : Int) (t8 : Int) (t20 : Int) (t21 : Int) (t46 : Int) (t47 : Int) : zz39_R12 N (m + 1) (zz39_E12 kX kO) o0 x3 y4 t7 t8 t20 t21 t46 t47 = zz39_b12 (zz39_R12 N m (zz39_E12 kX kO)) (zz39_X12 kX) o0 x3 y4 t7 t8 t20 t21 t46 t47 := by kernel_rfl
theorem zz39_iter12 (N : Nat) (kX : St → Option (Bool × Unit)) (kO : Nat → St → Option (Bool × Unit)) : ∀ (n : Nat) (o0 : Y5) (x3 : Int) (y4 : Int) (t7 : Int) (t8 : Int) (t20 : Int) (t21 : Int) (t46 : Int) (t47 : Int), zz39_R12 N n (zz39_E12 kX kO) o0 x3 y4 t7 t8 t20 t21 t46 t47 = zz39_l12 N (zz39_X12 kX) n o0 x3 y4 t7 t8 t20 t21 t46 t47
  | 0, _, _, _, _, _, _, _, _, _ => rfl
  | m + 1, o0, x3, y4, t7, t8, t20, t21, t46, t47 => by
    have hrec : zz39_R12 N m (zz39_E12 kX kO) = (zz39_l12 N (zz39_X12 kX) m) := (funext fun o0 => (funext fun x3 => (funext fun y4 => (funext fun t7 => (funext fun t8 => (funext fun t20 => (funext fun t21 => (funext fun t46 => (funext fun t47 => zz39_iter12 N kX kO m o0 x3 y4 t7 t8 t20 t21 t46 t47)))))))))
    refine (zz39_step12 N m kX kO o0 x3 y4 t7 t8 t20 t21 t46 t47).trans ?_
    rw [hrec]
    rfl
noncomputable abbrev zz39_K12 (N : Nat) (m : Nat) (kX : St → Option (Bool × Unit)) (kO : Nat → St → Option (Bool × Unit)) : Ex → St → Option (Bool × Unit) := (blockK 4 (blockK 3 (seqK ((A_zz39).shape 35) (run (A_zz39) N (codeAt Try.f149 [1, 0, 1, 0, 0, 1, 1, 0, 0, 1, 1, 1, 0, 0, 1, 1, 1])) (iterK ((A_zz39).shape 14) (run (A_zz39) N (codeAt Try.f149 [1, 0, 1, 0, 0, 1, 1, 0, 0, 1, 1, 1, 0, 0])) m (zz39_E7 kX kO)))))
noncomputable abbrev zz39_k12 (N : Nat) (m : Nat) (kX : St → Option (Bool × Unit)) (kO : Nat → St → Option (Bool × Unit)) : St → Option (Bool × Unit) := fun st' => run (A_zz39) N (codeAt Try.f149 [1, 0, 1, 0, 0, 1, 1, 0, 0, 1, 1, 1, 0, 0, 1, 1, 1]) st' (iterK ((A_zz39).shape 14) (run (A_zz39) N (codeAt Try.f149 [1, 0, 1, 0, 0, 1, 1, 0, 0, 1, 1, 1, 0, 0])) m (zz39_E7 kX kO))
theorem zz39_after12 (N : Nat) (m : Nat) (kX : St → Option (Bool × Unit)) (kO : Nat → St → Option (Bool × Unit)) (o0 : Y5) (x3 : Int) (t7 : Int) (t8 : Int) (t20 : Int) (t21 : Int) : zz39_X12 (zz39_k12 N m kX kO) o0 x3 t7 t8 t20 t21 = zz39_a12 (zz39_R7 N m (zz39_E7 kX kO)) o0 x3 t7 t8 t20 t21 := by kernel_rfl
theorem zz39_in12 (N : Nat) (m : Nat) (kX : St → Option (Bool × Unit)) (kO : Nat → St → Option (Bool × Unit)) (recF : Y5 → Int → Int → Int → Int → Int → Option (Bool × Unit)) (hrec : zz39_R7 N m (zz39_E7 kX kO) = recF) (o0 : Y5) (x3 : Int) (y4 : Int) (t7 : Int) (t8 : Int) (t20 : Int) (t21 : Int) (t46 : Int) (t47 : Int) : zz39_R12 N N (zz39_K12 N m kX kO) o0 x3 y4 t7 t8 t20 t21 t46 t47 = zz39_F12 N recF (zz39_X7 kX) o0 x3 y4 t7 t8 t20 t21 t46 t47 :=
  have h : zz39_X12 (zz39_k12 N m kX kO) = (zz39_a12 recF) := (funext fun o0 => (funext fun x3 => (funext fun t7 => (funext fun t8 => (funext fun t20 => (funext fun t21 => (zz39_after12 N m kX kO o0 x3 t7 t8 t20 t21).trans (by rw [hrec])))))))
  ((iter_ex (fun st => by kernel_rfl) (fun st => by kernel_rfl)).trans (zz39_iter12 N (zz39_k12 N m kX kO) (fun j st => (zz39_K12 N m kX kO) (.exit j) st) N o0 x3 y4 t7 t8 t20 t21 t46 t47)).trans (congrArg (fun k => zz39_l12 N k N o0 x3 y4 t7 t8 t20 t21 t46 t47) h)
theorem zz39_step7 (N : Nat) (m : Nat) (kX : St → Option (Bool × Unit)) (kO : Nat → St → Option (Bool × Unit)) (o0 : Y5) (x3 : Int) (t7 : Int) (t8 : Int) (t20 : Int) (t21 : Int) : zz39_R7 N (m + 1) (zz39_E7 kX kO) o0 x3 t7 t8 t20 t21 = zz39_b7 (zz39_R12 N N (zz39_K12 N m kX kO)) (zz39_X7 kX) o0 x3 t7 t8 t20 t21 := by kernel_rfl
theorem zz39_iter7 (N : Nat) (kX : St → Option (Bool × Unit)) (kO : Nat → St → Option (Bool × Unit)) : ∀ (n : Nat) (o0 : Y5) (x3 : Int) (t7 : Int) (t8 : Int) (t20 : Int) (t21 : Int), zz39_R7 N n (zz39_E7 kX kO) o0 x3 t7 t8 t20 t21 = zz39_l7 N (zz39_X7 kX) n o0 x3 t7 t8 t20 t21
  | 0, _, _, _, _, _, _ => rfl
  | m + 1, o0, x3, t7, t8, t20, t21 => by
    have hrec : zz39_R7 N m (zz39_E7 kX kO) = (zz39_l7 N (zz39_X7 kX) m) := (funext fun o0 => (funext fun x3 => (funext fun t7 => (funext fun t8 => (funext fun t20 => (funext fun t21 => zz39_iter7 N kX kO m o0 x3 t7 t8 t20 t21))))))
    refine (zz39_step7 N m kX kO o0 x3 t7 t8 t20 t21).trans ?_
    rw [(funext fun o0 => (funext fun x3 => (funext fun y4 => (funext fun t7 => (funext fun t8 => (funext fun t20 => (funext fun t21 => (funext fun t46 => (funext fun t47 => zz39_in12 N m kX kO (zz39_l7 N (zz39_X7 kX) m) hrec o0 x3 y4 t7 t8 t20 t21 t46 t47)))))))))]
    rfl
noncomputable abbrev zz39_K7 (N : Nat) (m : Nat) (kX : St → Option (Bool × Unit)) (kO : Nat → St → Option (Bool × Unit)) : Ex → St → Option (Bool × Unit) := (blockK 2 (blockK 1 (seqK ((A_zz39).shape 37) (run (A_zz39) N (codeAt Try.f149 [1, 0, 1, 0, 0, 1, 1, 1])) (iterK ((A_zz39).shape 4) (run (A_zz39) N (codeAt Try.f149 [1, 0, 1, 0, 0])) m (zz39_E2 kX kO)))))
noncomputable abbrev zz39_k7 (N : Nat) (m : Nat) (kX : St → Option (Bool × Unit)) (kO : Nat → St → Option (Bool × Unit)) : St → Option (Bool × Unit) := fun st' => run (A_zz39) N (codeAt Try.f149 [1, 0, 1, 0, 0, 1, 1, 1]) st' (iterK ((A_zz39).shape 4) (run (A_zz39) N (codeAt Try.f149 [1, 0, 1, 0, 0])) m (zz39_E2 kX kO))
theorem zz39_after7 (N : Nat) (m : Nat) (kX : St → Option (Bool × Unit)) (kO : Nat → St → Option (Bool × Unit)) (o0 : Y5) (t7 : Int) (t8 : Int) : zz39_X7 (zz39_k7 N m kX kO) o0 t7 t8 = zz39_a7 (zz39_R2 N m (zz39_E2 kX kO)) o0 t7 t8 := by kernel_rfl
theorem zz39_in7 (N : Nat) (m : Nat) (kX : St → Option (Bool × Unit)) (kO : Nat → St → Option (Bool × Unit)) (recF : Y5 → Int → Int → Option (Bool × Unit)) (hrec : zz39_R2 N m (zz39_E2 kX kO) = recF) (o0 : Y5) (x3 : Int) (t7 : Int) (t8 : Int) (t20 : Int) (t21 : Int) : zz39_R7 N N (zz39_K7 N m kX kO) o0 x3 t7 t8 t20 t21 = zz39_F7 N recF (zz39_X2 kX) o0 x3 t7 t8 t20 t21 :=
  have h : zz39_X7 (zz39_k7 N m kX kO) = (zz39_a7 recF) := (funext fun o0 => (funext fun t7 => (funext fun t8 => (zz39_after7 N m kX kO o0 t7 t8).trans (by rw [hrec]))))
  ((iter_ex (fun st => by kernel_rfl) (fun st => by kernel_rfl)).trans (zz39_iter7 N (zz39_k7 N m kX kO) (fun j st => (zz39_K7 N m kX kO) (.exit j) st) N o0 x3 t7 t8 t20 t21)).trans (congrArg (fun k => zz39_l7 N k N o0 x3 t7 t8 t20 t21) h)
theorem zz39_step2 (N : Nat) (m : Nat) (kX : St → Option (Bool × Unit)) (kO : Nat → St → Option (Bool × Unit)) (o0 : Y5) (t7 : Int) (t8 : Int) : zz39_R2 N (m + 1) (zz39_E2 kX kO) o0 t7 t8 = zz39_b2 (zz39_R7 N N (zz39_K7 N m kX kO)) (zz39_X2 kX) o0 t7 t8 := by kernel_rfl
theorem zz39_iter2 (N : Nat) (kX : St → Option (Bool × Unit)) (kO : Nat → St → Option (Bool × Unit)) : ∀ (n : Nat) (o0 : Y5) (t7 : Int) (t8 : Int), zz39_R2 N n (zz39_E2 kX kO) o0 t7 t8 = zz39_l2 N (zz39_X2 kX) n o0 t7 t8
  | 0, _, _, _ => rfl
  | m + 1, o0, t7, t8 => by
    have hrec : zz39_R2 N m (zz39_E2 kX kO) = (zz39_l2 N (zz39_X2 kX) m) := (funext fun o0 => (funext fun t7 => (funext fun t8 => zz39_iter2 N kX kO m o0 t7 t8)))
    refine (zz39_step2 N m kX kO o0 t7 t8).trans ?_
    rw [(funext fun o0 => (funext fun x3 => (funext fun t7 => (funext fun t8 => (funext fun t20 => (funext fun t21 => zz39_in7 N m kX kO (zz39_l2 N (zz39_X2 kX) m) hrec o0 x3 t7 t8 t20 t21))))))]
    rfl
noncomputable abbrev zz39_K2 (N : Nat) : Ex → St → Option (Bool × Unit) := (blockK 0 (seqK ((A_zz39).shape 39) (run (A_zz39) N (codeAt Try.f149 [1, 1])) zz39_z))
noncomputable abbrev zz39_k2 (N : Nat) : St → Option (Bool × Unit) := fun st' => run (A_zz39) N (codeAt Try.f149 [1, 1]) st' zz39_z
theorem zz39_after2 (N : Nat) : zz39_X2 (zz39_k2 N) = zz39_a2 := by kernel_rfl
theorem zz39_in2 (N : Nat) (o0 : Y5) (t7 : Int) (t8 : Int) : zz39_R2 N N (zz39_K2 N) o0 t7 t8 = zz39_F2 N o0 t7 t8 :=
  have h : zz39_X2 (zz39_k2 N) = (zz39_a2) := zz39_after2 N
  ((iter_ex (fun st => by kernel_rfl) (fun st => by kernel_rfl)).trans (zz39_iter2 N (zz39_k2 N) (fun j st => (zz39_K2 N) (.exit j) st) N o0 t7 t8)).trans (congrArg (fun k => zz39_l2 N k N o0 t7 t8) h)
theorem run0_zz39 (N : Nat) (x : (S_zz39).a.den) : runF (A_zz39) N Try.f149 S_zz39 x = (zz39_s (zz39_R2 N N (zz39_K2 N)) x.1) := by kernel_rfl
theorem run_zz39 (N : Nat) (x : (S_zz39).a.den) : runF (A_zz39) N Try.f149 S_zz39 x = zz39 N x.1 := by
  refine (run0_zz39 N x).trans ?_
  rw [(funext fun o0 => (funext fun t7 => (funext fun t8 => zz39_in2 N o0 t7 t8)))]
  rfl
theorem fn_zz39 : FnOk Try.prog 149 := ⟨_, Try.func149, by kernel_rfl, by kernel_rfl⟩
theorem good_zz39 : Gx.Good Try.prog 149 S_zz39 := good_of_run Try.func149 (of_decide_eq_true (by kernel_rfl)) fun x r h => ⟨A_zz39, big, mkCfg_ok tabOk, mkCfg_sigs (show SigsOk Try.prog [] from trivial), (run_zz39 big x).trans h⟩

/-! zz40 -/
def zz40_b11 (rec : Int → Y5 → Int → Y3 → Int → Int → Y4 → Int → Bool → Bool → Y4 → Int → Int → Option ((Y5 × (Bool × Unit)) × Unit)) (k : Int → Y5 → Y3 → Int → Int → Y4 → Int → Bool → Bool → Option ((Y5 × (Bool × Unit)) × Unit)) (n4 : Int) (o5 : Y5) (x6 : Int) (t18 : Y3) (t19 : Int) (t20 : Int) (t29 : Y4) (t30 : Int) (t31 : Bool) (t32 : Bool) (t34 : Y4) (t35 : Int) (t36 : Int) : Option ((Y5 × (Bool × Unit)) × Unit) :=
  cond (decide (t36 < t35))
  ((atI t34 t36).bind fun xq6 =>
  (atI o5 xq6).bind fun _ =>
  (o5[xq6.toNat]?).bind fun xq7 =>
  (o5[xq6.toNat]?).bind fun xq8 =>
  (atI xq8 x6).bind fun _ =>
  (o5[xq6.toNat]?).bind fun xq9 =>
  (xq9[x6.toNat]?).bind fun xq10 =>
  rec n4 (o5.set xq6.toNat (xq9.set x6.toNat true)) x6 t18 t19 t20 t29 t30 t31 t32 t34 t35 (IntKind.i64.wrap (t36 + (1 : Int))))
  (k n4 o5 t18 t19 t20 t29 t30 t31 t32)
def zz40_a11 (rec : Int → Y5 → Y3 → Int → Int → Option ((Y5 × (Bool × Unit)) × Unit)) (n4 : Int) (o5 : Y5) (t18 : Y3) (t19 : Int) (t20 : Int) (t29 : Y4) (t30 : Int) (t31 : Bool) (t32 : Bool) : Option ((Y5 × (Bool × Unit)) × Unit) :=
  rec n4 o5 t18 t19 (IntKind.i64.wrap (t20 + (1 : Int)))
def zz40_b6 (L11 : Int → Y5 → Int → Y3 → Int → Int → Y4 → Int → Bool → Bool → Y4 → Int → Int → Option ((Y5 × (Bool × Unit)) × Unit)) (k : Y5 → Option ((Y5 × (Bool × Unit)) × Unit)) (n4 : Int) (o5 : Y5) (t18 : Y3) (t19 : Int) (t20 : Int) : Option ((Y5 × (Bool × Unit)) × Unit) :=
  cond (decide (t20 < t19))
  ((atI t18 t20).bind fun xq2 =>
  (zz37 big xq2).bind fun rq3 =>
  cond (!rq3.1)
  (some (([], false, ()), (())))
  ((zz38 big xq2 n4).bind fun rq4 =>
  cond (!rq4.1)
  (some (([], false, ()), (())))
  (L11 n4 o5 t20 t18 t19 t20 xq2 n4 rq4.1 (!rq4.1) xq2 (xq2.length : Int) (0 : Int))))
  (k o5)
def zz40_a6 (o5 : Y5) : Option ((Y5 × (Bool × Unit)) × Unit) :=
  (zz39 big o5).bind fun rq5 =>
  some ((o5, rq5.1, ()), (()))
def zz40_s (L6 : Int → Y5 → Y3 → Int → Int → Option ((Y5 × (Bool × Unit)) × Unit)) (p_0 : Y2) : Option ((Y5 × (Bool × Unit)) × Unit) :=
  cond (decide ((10 : Int) < (p_0.1.length : Int)))
  (some (([], false, ()), (())))
  ((zz36 big (p_0.1.length : Int)).bind fun rq1 =>
  L6 (p_0.1.length : Int) rq1.1 p_0.1 (p_0.1.length : Int) (0 : Int))
def zz40_l11 (N : Nat) (k : Int → Y5 → Y3 → Int → Int → Y4 → Int → Bool → Bool → Option ((Y5 × (Bool × Unit)) × Unit)) : Nat → Int → Y5 → Int → Y3 → Int → Int → Y4 → Int → Bool → Bool → Y4 → Int → Int → Option ((Y5 × (Bool × Unit)) × Unit)
  | 0, _, _, _, _, _, _, _, _, _, _, _, _, _ => none
  | m + 1, n4, o5, x6, t18, t19, t20, t29, t30, t31, t32, t34, t35, t36 => zz40_b11 (zz40_l11 N k m) k n4 o5 x6 t18 t19 t20 t29 t30 t31 t32 t34 t35 t36
def zz40_F11 (N : Nat) (rec : Int → Y5 → Y3 → Int → Int → Option ((Y5 × (Bool × Unit)) × Unit)) (k : Y5 → Option ((Y5 × (Bool × Unit)) × Unit)) (n4 : Int) (o5 : Y5) (x6 : Int) (t18 : Y3) (t19 : Int) (t20 : Int) (t29 : Y4) (t30 : Int) (t31 : Bool) (t32 : Bool) (t34 : Y4) (t35 : Int) (t36 : Int) : Option ((Y5 × (Bool × Unit)) × Unit) := zz40_l11 N (zz40_a11 rec) N n4 o5 x6 t18 t19 t20 t29 t30 t31 t32 t34 t35 t36
def zz40_l6 (N : Nat) (k : Y5 → Option ((Y5 × (Bool × Unit)) × Unit)) : Nat → Int → Y5 → Y3 → Int → Int → Option ((Y5 × (Bool × Unit)) × Unit)
  | 0, _, _, _, _, _ => none
  | m + 1, n4, o5, t18, t19, t20 => zz40_b6 (zz40_F11 N (zz40_l6 N k m) k) k n4 o5 t18 t19 t20
def zz40_F6 (N : Nat) (n4 : Int) (o5 : Y5) (t18 : Y3) (t19 : Int) (t20 : Int) : Option ((Y5 × (Bool × Unit)) × Unit) := zz40_l6 N (zz40_a6) N n4 o5 t18 t19 t20
def zz40 (N : Nat) (p_0 : Y2) : Option ((Y5 × (Bool × Unit)) × Unit) := zz40_s (zz40_F6 N) p_0
def S_zz40 : Sig := { a := (.pair (.pair (.sl (.sl I)) .unit) .unit), md := [0], mf := [], m := .unit, r := (.tup (.pair (.sl (.sl .bool)) (.pair .bool .unit))), rf := (.p (.o (.o .i)) .i), f := fun x => zz40 big x.1 }
def A_zz40 : Cfg := mkCfg tab [(67, S_zz36), (118, S_zz37), (134, S_zz38), (149, S_zz39)] [(12, [.drop, .drop, .drop, .drop, .as I .i, .as (.sl (.sl .bool)) (.o (.o .i)), .drop, .drop, .drop, .drop, .drop, .drop, .drop, .drop, .drop, .drop, .drop, .drop, .as (.sl (.sl I)) .i, .as I .i, .as I .i]), (22, [.drop, .drop, .drop, .drop, .as I .i, .as (.sl (.sl .bool)) (.o (.o .i)), .as I .i, .drop, .drop, .drop, .drop, .drop, .drop, .drop, .drop, .drop, .drop, .drop, .as (.sl (.sl I)) .i, .as I .i, .as I .i, .drop, .drop, .drop, .drop, .drop, .drop, .drop, .drop, .as (.sl I) .i, .as I .i, .as .bool .i, .as .bool .i, .drop, .as (.sl I) .i, .as I .i, .as I .i]), (33, [.drop, .drop, .drop, .drop, .drop, .as (.sl (.sl .bool)) (.o (.o .i))]), (31, [.drop, .drop, .drop, .drop, .as I .i, .as (.sl (.sl .bool)) (.o (.o .i)), .drop, .drop, .drop, .drop, .drop, .drop, .drop, .drop, .drop, .drop, .drop, .drop, .as (.sl (.sl I)) .i, .as I .i, .as I .i, .drop, .drop, .drop, .drop, .drop, .drop, .drop, .drop, .as (.sl I) .i, .as I .i, .as .bool .i, .as .bool .i])]
noncomputable def zz40_R6 (N n : Nat) (K : Ex → St → Option ((Y5 × (Bool × Unit)) × Unit)) (n4 : Int) (o5 : Y5) (t18 : Y3) (t19 : Int) (t20 : Int) : Option ((Y5 × (Bool × Unit)) × Unit) := iter ((A_zz40).shape 12) (run (A_zz40) N (codeAt Try.f131 [1, 1, 1, 1, 0, 1, 0, 0])) n ([.u, .u, .u, .u, .val I .i n4, .val (.sl (.sl .bool)) (.o (.o .i)) o5, .u, .u, .u, .u, .u, .u, .u, .u, .u, .u, .u, .u, .val (.sl (.sl I)) .i t18, .val I .i t19, .val I .i t20] ++ List.replicate 30 .u) K
noncomputable def zz40_R11 (N n : Nat) (K : Ex → St → Option ((Y5 × (Bool × Unit)) × Unit)) (n4 : Int) (o5 : Y5) (x6 : Int) (t18 : Y3) (t19 : Int) (t20 : Int) (t29 : Y4) (t30 : Int) (t31 : Bool) (t32 : Bool) (t34 : Y4) (t35 : Int) (t36 : Int) : Option ((Y5 × (Bool × Unit)) × Unit) := iter ((A_zz40).shape 22) (run (A_zz40) N (codeAt Try.f131 [1, 1, 1, 1, 0, 1, 0, 0, 1, 1, 0, 0, 1, 1, 1, 0, 0])) n ([.u, .u, .u, .u, .val I .i n4, .val (.sl (.sl .bool)) (.o (.o .i)) o5, .val I .i x6, .u, .u, .u, .u, .u, .u, .u, .u, .u, .u, .u, .val (.sl (.sl I)) .i t18, .val I .i t19, .val I .i t20, .u, .u, .u, .u, .u, .u, .u, .u, .val (.sl I) .i t29, .val I .i t30, .val .bool .i t31, .val .bool .i t32, .u, .val (.sl I) .i t34, .val I .i t35, .val I .i t36] ++ List.replicate 14 .u) K
noncomputable abbrev zz40_z : Ex → St → Option ((Y5 × (Bool × Unit)) × Unit) := finish (A_zz40) S_zz40 Try.f131.results.toList
noncomputable abbrev zz40_X6 (kX : St → Option ((Y5 × (Bool × Unit)) × Unit)) : Y5 → Option ((Y5 × (Bool × Unit)) × Unit) := fun (o5 : Y5) => kX ([.u, .u, .u, .u, .u, .val (.sl (.sl .bool)) (.o (.o .i)) o5] ++ List.replicate 45 .u)
noncomputable abbrev zz40_E6 (kX : St → Option ((Y5 × (Bool × Unit)) × Unit)) (kO : Nat → St → Option ((Y5 × (Bool × Unit)) × Unit)) : Ex → St → Option ((Y5 × (Bool × Unit)) × Unit) := exK zz40_z 0 ((A_zz40).shape 33) kX kO
noncomputable abbrev zz40_X11 (kX : St → Option ((Y5 × (Bool × Unit)) × Unit)) : Int → Y5 → Y3 → Int → Int → Y4 → Int → Bool → Bool → Option ((Y5 × (Bool × Unit)) × Unit) := fun (n4 : Int) (o5 : Y5) (t18 : Y3) (t19 : Int) (t20 : Int) (t29 : Y4) (t30 : Int) (t31 : Bool) (t32 : Bool) => kX ([.u, .u, .u, .u, .val I .i n4, .val (.sl (.sl .bool)) (.o (.o .i)) o5, .u, .u, .u, .u, .u, .u, .u, .u, .u, .u, .u, .u, .val (.sl (.sl I)) .i t18, .val I .i t19, .val I .i t20, .u, .u, .u, .u, .u, .u, .u, .u, .val (.sl I) .i t29, .val I .i t30, .val .bool .i t31, .val .bool .i t32] ++ List.replicate 18 .u)
noncomputable abbrev zz40_E11 (kX : St → Option ((Y5 × (Bool × Unit)) × Unit)) (kO : Nat → St → Option ((Y5 × (Bool × Unit)) × Unit)) : Ex → St → Option ((Y5 × (Bool × Unit)) × Unit) := exK zz40_z 2 ((A_zz40).shape 31) kX kO
theorem zz40_step11 (N : Nat) (m : Nat) (kX : St → Option ((Y5 × (Bool × Unit)) × Unit)) (kO : Nat → St → Option ((Y5 × (Bool × Unit)) × Unit)) (n4 : Int) (o5 : Y5) (x6 : Int) (t18 : Y3) (t19 : Int) (t20 : Int) (t29 : Y4) (t30 : Int) (t31 : Bool) (t32 : Bool) (t34 : Y4) (t35 : Int) (t36 : Int) : zz40_R11 N (m + 1) (zz40_E11 kX kO) n4 o5 x6 t18 t19 t20 t29 t30 t31 t32 t34 t35 t36 = zz40_b11 (zz40_R11 N m (zz40_E11 kX kO)) (zz40_X11 kX) n4 o5 x6 t18 t19 t20 t29 t30 t31 t32 t34 t35 t36 := by kernel_rfl
theorem zz40_iter11 (N : Nat) (kX : St → Option ((Y5 × (Bool × Unit)) × Unit)) (kO : Nat → St → Option ((Y5 × (Bool × Unit)) × Unit)) : ∀ (n : Nat) (n4 : Int) (o5 : Y5) (x6 : Int) (t18 : Y3) (t19 : Int) (t20 : Int) (t29 : Y4) (t30 : Int) (t31 : Bool) (t32 : Bool) (t34 : Y4) (t35 : Int) (t36 : Int), zz40_R11 N n (zz40_E11 kX kO) n4 o5 x6 t18 t19 t20 t29 t30 t31 t32 t34 t35 t36 = zz40_l11 N (zz40_X11 kX) n n4 o5 x6 t18 t19 t20 t29 t30 t31 t32 t34 t35 t36
  | 0, _, _, _, _, _, _, _, _, _, _, _, _, _ => rfl
  | m + 1, n4, o5, x6, t18, t19, t20, t29, t30, t31, t32, t34, t35, t36 => by
    have hrec : zz40_R11 N m (zz40_E11 kX kO) = (zz40_l11 N (zz40_X11 kX) m) := (funext fun n4 => (funext fun o5 => (funext fun x6 => (funext fun t18 => (funext fun t19 => (funext fun t20 => (funext fun t29 => (funext fun t30 => (funext fun t31 => (funext fun t32 => (funext fun t34 => (funext fun t35 => (funext fun t36 => zz40_iter11 N kX kO m n4 o5 x6 t18 t19 t20 t29 t30 t31 t32 t34 t35 t36)))))))))))))
    refine (zz40_step11 N m kX kO n4 o5 x6 t18 t19 t20 t29 t30 t31 t32 t34 t35 t36).trans ?_
    rw [hrec]
    rfl
noncomputable abbrev zz40_K11 (N : Nat) (m : Nat) (kX : St → Option ((Y5 × (Bool × Unit)) × Unit)) (kO : Nat → St → Option ((Y5 × (Bool × Unit)) × Unit)) : Ex → St → Option ((Y5 × (Bool × Unit)) × Unit) := (blockK 2 (blockK 1 (seqK ((A_zz40).shape 31) (run (A_zz40) N (codeAt Try.f131 [1, 1, 1, 1, 0, 1, 0, 0, 1, 1, 1])) (iterK ((A_zz40).shape 12) (run (A_zz40) N (codeAt Try.f131 [1, 1, 1, 1, 0, 1, 0, 0])) m (zz40_E6 kX kO)))))
noncomputable abbrev zz40_k11 (N : Nat) (m : Nat) (kX : St → Option ((Y5 × (Bool × Unit)) × Unit)) (kO : Nat → St → Option ((Y5 × (Bool × Unit)) × Unit)) : St → Option ((Y5 × (Bool × Unit)) × Unit) := fun st' => run (A_zz40) N (codeAt Try.f131 [1, 1, 1, 1, 0, 1, 0, 0, 1, 1, 1]) st' (iterK ((A_zz40).shape 12) (run (A_zz40) N (codeAt Try.f131 [1, 1, 1, 1, 0, 1, 0, 0])) m (zz40_E6 kX kO))
theorem zz40_after11 (N : Nat) (m : Nat) (kX : St → Option ((Y5 × (Bool × Unit)) × Unit)) (kO : Nat → St → Option ((Y5 × (Bool × Unit)) × Unit)) (n4 : Int) (o5 : Y5) (t18 : Y3) (t19 : Int) (t20 : Int) (t29 : Y4) (t30 : Int) (t31 : Bool) (t32 : Bool) : zz40_X11 (zz40_k11 N m kX kO) n4 o5 t18 t19 t20 t29 t30 t31 t32 = zz40_a11 (zz40_R6 N m (zz40_E6 kX kO)) n4 o5 t18 t19 t20 t29 t30 t31 t32 := by kernel_rfl
theorem zz40_in11 (N : Nat) (m : Nat) (kX : St → Option ((Y5 × (Bool × Unit)) × Unit)) (kO : Nat → St → Option ((Y5 × (Bool × Unit)) × Unit)) (recF : Int → Y5 → Y3 → Int → Int → Option ((Y5 × (Bool × Unit)) × Unit)) (hrec : zz40_R6 N m (zz40_E6 kX kO) = recF) (n4 : Int) (o5 : Y5) (x6 : Int) (t18 : Y3) (t19 : Int) (t20 : Int) (t29 : Y4) (t30 : Int) (t31 : Bool) (t32 : Bool) (t34 : Y4) (t35 : Int) (t36 : Int) : zz40_R11 N N (zz40_K11 N m kX kO) n4 o5 x6 t18 t19 t20 t29 t30 t31 t32 t34 t35 t36 = zz40_F11 N recF (zz40_X6 kX) n4 o5 x6 t18 t19 t20 t29 t30 t31 t32 t34 t35 t36 :=
  have h : zz40_X11 (zz40_k11 N m kX kO) = (zz40_a11 recF) := (funext fun n4 => (funext fun o5 => (funext fun t18 => (funext fun t19 => (funext fun t20 => (funext fun t29 => (funext fun t30 => (funext fun t31 => (funext fun t32 => (zz40_after11 N m kX kO n4 o5 t18 t19 t20 t29 t30 t31 t32).trans (by rw [hrec]))))))))))
  ((iter_ex (fun st => by kernel_rfl) (fun st => by kernel_rfl)).trans (zz40_iter11 N (zz40_k11 N m kX kO) (fun j st => (zz40_K11 N m kX kO) (.exit j) st) N n4 o5 x6 t18 t19 t20 t29 t30 t31 t32 t34 t35 t36)).trans (congrArg (fun k => zz40_l11 N k N n4 o5 x6 t18 t19 t20 t29 t30 t31 t32 t34 t35 t36) h)
theorem zz40_step6 (N : Nat) (m : Nat) (kX : St → Option ((Y5 × (Bool × Unit)) × Unit)) (kO : Nat → St → Option ((Y5 × (Bool × Unit)) × Unit)) (n4 : Int) (o5 : Y5) (t18 : Y3) (t19 : Int) (t20 : Int) : zz40_R6 N (m + 1) (zz40_E6 kX kO) n4 o5 t18 t19 t20 = zz40_b6 (zz40_R11 N N (zz40_K11 N m kX kO)) (zz40_X6 kX) n4 o5 t18 t19 t20 := by kernel_rfl
theorem zz40_iter6 (N : Nat) (kX : St → Option ((Y5 × (Bool × Unit)) × Unit)) (kO : Nat → St → Option ((Y5 × (Bool × Unit)) × Unit)) : ∀ (n : Nat) (n4 : Int) (o5 : Y5) (t18 : Y3) (t19 : Int) (t20 : Int), zz40_R6 N n (zz40_E6 kX kO) n4 o5 t18 t19 t20 = zz40_l6 N (zz40_X6 kX) n n4 o5 t18 t19 t20
  | 0, _, _, _, _, _ => rfl
  | m + 1, n4, o5, t18, t19, t20 => by
    have hrec : zz40_R6 N m (zz40_E6 kX kO) = (zz40_l6 N (zz40_X6 kX) m) := (funext fun n4 => (funext fun o5 => (funext fun t18 => (funext fun t19 => (funext fun t20 => zz40_iter6 N kX kO m n4 o5 t18 t19 t20)))))
    refine (zz40_step6 N m kX kO n4 o5 t18 t19 t20).trans ?_
    rw [(funext fun n4 => (funext fun o5 => (funext fun x6 => (funext fun t18 => (funext fun t19 => (funext fun t20 => (funext fun t29 => (funext fun t30 => (funext fun t31 => (funext fun t32 => (funext fun t34 => (funext fun t35 => (funext fun t36 => zz40_in11 N m kX kO (zz40_l6 N (zz40_X6 kX) m) hrec n4 o5 x6 t18 t19 t20 t29 t30 t31 t32 t34 t35 t36)))))))))))))]
    rfl
noncomputable abbrev zz40_K6 (N : Nat) : Ex → St → Option ((Y5 × (Bool × Unit)) × Unit) := (blockK 0 (seqK ((A_zz40).shape 33) (run (A_zz40) N (codeAt Try.f131 [1, 1, 1, 1, 1])) zz40_z))
noncomputable abbrev zz40_k6 (N : Nat) : St → Option ((Y5 × (Bool × Unit)) × Unit) := fun st' => run (A_zz40) N (codeAt Try.f131 [1, 1, 1, 1, 1]) st' zz40_z
theorem zz40_after6 (N : Nat) (o5 : Y5) : zz40_X6 (zz40_k6 N) o5 = zz40_a6 o5 := by kernel_rfl
theorem zz40_in6 (N : Nat) (n4 : Int) (o5 : Y5) (t18 : Y3) (t19 : Int) (t20 : Int) : zz40_R6 N N (zz40_K6 N) n4 o5 t18 t19 t20 = zz40_F6 N n4 o5 t18 t19 t20 :=
  have h : zz40_X6 (zz40_k6 N) = (zz40_a6) := (funext fun o5 => zz40_after6 N o5)
  ((iter_ex (fun st => by kernel_rfl) (fun st => by kernel_rfl)).trans (zz40_iter6 N (zz40_k6 N) (fun j st => (zz40_K6 N) (.exit j) st) N n4 o5 t18 t19 t20)).trans (congrArg (fun k => zz40_l6 N k N n4 o5 t18 t19 t20) h)
theorem run0_zz40 (N : Nat) (x : (S_zz40).a.den) : runF (A_zz40) N Try.f131 S_zz40 x = (zz40_s (zz40_R6 N N (zz40_K6 N)) x.1) := by kernel_rfl
theorem run_zz40 (N : Nat) (x : (S_zz40).a.den) : runF (A_zz40) N Try.f131 S_zz40 x = zz40 N x.1 := by
  refine (run0_zz40 N x).trans ?_
  rw [(funext fun n4 => (funext fun o5 => (funext fun t18 => (funext fun t19 => (funext fun t20 => zz40_in6 N n4 o5 t18 t19 t20)))))]
  rfl
theorem fn_zz40 : FnOk Try.prog 131 := ⟨_, Try.func131, by kernel_rfl, by kernel_rfl⟩
theorem good_zz40 : Gx.Good Try.prog 131 S_zz40 := good_of_run Try.func131 (of_decide_eq_true (by kernel_rfl)) fun x r h => ⟨A_zz40, big, mkCfg_ok tabOk, mkCfg_sigs (show SigsOk Try.prog [(67, S_zz36), (118, S_zz37), (134, S_zz38), (149, S_zz39)] from ⟨⟨fn_zz36, good_zz36⟩, ⟨fn_zz37, good_zz37⟩, ⟨fn_zz38, good_zz38⟩, ⟨fn_zz39, good_zz39⟩, trivial⟩), (run_zz40 big x).trans h⟩

/-! zz41 -/
def zz41_b6 (rec : Y5 → Y4 → Int → Bool → Y4 → Int → Int → Y4 → Int → Int → Option (Int × Unit)) (k : Y5 → Y4 → Int → Bool → Y4 → Int → Int → Option (Int × Unit)) (o0 : Y5) (list1 : Y4) (x6 : Int) (top7 : Bool) (t10 : Y4) (t11 : Int) (t12 : Int) (t16 : Y4) (t17 : Int) (t18 : Int) : Option (Int × Unit) :=
  cond (decide (t18 < t17))
  ((atI t16 t18).bind fun xq2 =>
  cond top7
  ((atI o0 xq2).bind fun xq3 =>
  (atI xq3 x6).bind fun xq4 =>
  rec o0 list1 x6 xq4 t10 t11 t12 t16 t17 (IntKind.i64.wrap (t18 + (1 : Int))))
  (rec o0 list1 x6 false t10 t11 t12 t16 t17 (IntKind.i64.wrap (t18 + (1 : Int)))))
  (k o0 list1 x6 top7 t10 t11 t12)
def zz41_a6 (rec : Y5 → Y4 → Y4 → Int → Int → Option (Int × Unit)) (o0 : Y5) (list1 : Y4) (x6 : Int) (top7 : Bool) (t10 : Y4) (t11 : Int) (t12 : Int) : Option (Int × Unit) :=
  cond top7
  (some (x6, (())))
  (rec o0 list1 t10 t11 (IntKind.i64.wrap (t12 + (1 : Int))))
def zz41_b2 (L6 : Y5 → Y4 → Int → Bool → Y4 → Int → Int → Y4 → Int → Int → Option (Int × Unit)) (k : Option (Int × Unit)) (o0 : Y5) (list1 : Y4) (t10 : Y4) (t11 : Int) (t12 : Int) : Option (Int × Unit) :=
  cond (decide (t12 < t11))
  ((atI t10 t12).bind fun xq1 =>
  L6 o0 list1 xq1 true t10 t11 t12 list1 (list1.length : Int) (0 : Int))
  (k)
def zz41_a2 : Option (Int × Unit) :=
  some ((-1 : Int), (()))
def zz41_s (L2 : Y5 → Y4 → Y4 → Int → Int → Option (Int × Unit)) (o_0 : Y5) (list_1 : Y4) : Option (Int × Unit) :=
  L2 o_0 list_1 list_1 (list_1.length : Int) (0 : Int)
def zz41_l6 (N : Nat) (k : Y5 → Y4 → Int → Bool → Y4 → Int → Int → Option (Int × Unit)) : Nat → Y5 → Y4 → Int → Bool → Y4 → Int → Int → Y4 → Int → Int → Option (Int × Unit)
  | 0, _, _, _, _, _, _, _, _, _, _ => none
  | m + 1, o0, list1, x6, top7, t10, t11, t12, t16, t17, t18 => zz41_b6 (zz41_l6 N k m) k o0 list1 x6 top7 t10 t11 t12 t16 t17 t18
def zz41_F6 (N : Nat) (rec : Y5 → Y4 → Y4 → Int → Int → Option (Int × Unit)) (k : Option (Int × Unit)) (o0 : Y5) (list1 : Y4) (x6 : Int) (top7 : Bool) (t10 : Y4) (t11 : Int) (t12 : Int) (t16 : Y4) (t17 : Int) (t18 : Int) : Option (Int × Unit) := zz41_l6 N (zz41_a6 rec) N o0 list1 x6 top7 t10 t11 t12 t16 t17 t18
def zz41_l2 (N : Nat) (k : Option (Int × Unit)) : Nat → Y5 → Y4 → Y4 → Int → Int → Option (Int × Unit)
  | 0, _, _, _, _, _ => none
  | m + 1, o0, list1, t10, t11, t12 => zz41_b2 (zz41_F6 N (zz41_l2 N k m) k) k o0 list1 t10 t11 t12
def zz41_F2 (N : Nat) (o0 : Y5) (list1 : Y4) (t10 : Y4) (t11 : Int) (t12 : Int) : Option (Int × Unit) := zz41_l2 N (zz41_a2) N o0 list1 t10 t11 t12
def zz41 (N : Nat) (o_0 : Y5) (list_1 : Y4) : Option (Int × Unit) := zz41_s (zz41_F2 N) o_0 list_1
def S_zz41 : Sig := { a := (.pair (.sl (.sl .bool)) (.pair (.sl I) .unit)), md := [0, 0], mf := [], m := .unit, r := I, rf := .i, f := fun x => zz41 big x.1 x.2.1 }
def A_zz41 : Cfg := mkCfg tab [] [(4, [.as (.sl (.sl .bool)) .i, .as (.sl I) .i, .drop, .drop, .drop, .drop, .drop, .drop, .drop, .drop, .as (.sl I) .i, .as I .i, .as I .i]), (12, [.as (.sl (.sl .bool)) .i, .as (.sl I) .i, .drop, .drop, .drop, .drop, .as I .i, .as .bool .i, .drop, .drop, .as (.sl I) .i, .as I .i, .as I .i, .drop, .drop, .drop, .as (.sl I) .i, .as I .i, .as I .i]), (27, []), (21, [.as (.sl (.sl .bool)) .i, .as (.sl I) .i, .drop, .drop, .drop, .drop, .as I .i, .as .bool .i, .drop, .drop, .as (.sl I) .i, .as I .i, .as I .i])]
noncomputable def zz41_R2 (N n : Nat) (K : Ex → St → Option (Int × Unit)) (o0 : Y5) (list1 : Y4) (t10 : Y4) (t11 : Int) (t12 : Int) : Option (Int × Unit) := iter ((A_zz41).shape 4) (run (A_zz41) N (codeAt Try.f150 [1, 0, 1, 0, 0])) n ([.val (.sl (.sl .bool)) .i o0, .val (.sl I) .i list1, .u, .u, .u, .u, .u, .u, .u, .u, .val (.sl I) .i t10, .val I .i t11, .val I .i t12] ++ List.replicate 23 .u) K
noncomputable def zz41_R6 (N n : Nat) (K : Ex → St → Option (Int × Unit)) (o0 : Y5) (list1 : Y4) (x6 : Int) (top7 : Bool) (t10 : Y4) (t11 : Int) (t12 : Int) (t16 : Y4) (t17 : Int) (t18 : Int) : Option (Int × Unit) := iter ((A_zz41).shape 12) (run (A_zz41) N (codeAt Try.f150 [1, 0, 1, 0, 0, 1, 1, 0, 0, 1, 1, 0, 1, 0, 0])) n ([.val (.sl (.sl .bool)) .i o0, .val (.sl I) .i list1, .u, .u, .u, .u, .val I .i x6, .val .bool .i top7, .u, .u, .val (.sl I) .i t10, .val I .i t11, .val I .i t12, .u, .u, .u, .val (.sl I) .i t16, .val I .i t17, .val I .i t18] ++ List.replicate 17 .u) K
noncomputable abbrev zz41_z : Ex → St → Option (Int × Unit) := finish (A_zz41) S_zz41 Try.f150.results.toList
noncomputable abbrev zz41_X2 (kX : St → Option (Int × Unit)) : Option (Int × Unit) := kX ([] ++ List.replicate 36 .u)
noncomputable abbrev zz41_E2 (kX : St → Option (Int × Unit)) (kO : Nat → St → Option (Int × Unit)) : Ex → St → Option (Int × Unit) := exK zz41_z 0 ((A_zz41).shape 27) kX kO
noncomputable abbrev zz41_X6 (kX : St → Option (Int × Unit)) : Y5 → Y4 → Int → Bool → Y4 → Int → Int → Option (Int × Unit) := fun (o0 : Y5) (list1 : Y4) (x6 : Int) (top7 : Bool) (t10 : Y4) (t11 : Int) (t12 : Int) => kX ([.val (.sl (.sl .bool)) .i o0, .val (.sl I) .i list1, .u, .u, .u, .u, .val I .i x6, .val .bool .i top7, .u, .u, .val (.sl I) .i t10, .val I .i t11, .val I .i t12] ++ List.replicate 23 .u)
noncomputable abbrev zz41_E6 (kX : St → Option (Int × Unit)) (kO : Nat → St → Option (Int × Unit)) : Ex → St → Option (Int × Unit) := exK zz41_z 2 ((A_zz41).shape 21) kX kO
theorem zz41_step6 (N : Nat) (m : Nat) (kX : St → Option (Int × Unit)) (kO : Nat → St → Option (Int × Unit)) (o0 : Y5) (list1 : Y4) (x6 : Int) (top7 : Bool) (t10 : Y4) (t11 : Int) (t12 : Int) (t16 : Y4) (t17 : Int) (t18 : Int) : zz41_R6 N (m + 1) (zz41_E6 kX kO) o0 list1 x6 top7 t10 t11 t12 t16 t17 t18 = zz41_b6 (zz41_R6 N m (zz41_E6 kX kO)) (zz41_X6 kX) o0 list1 x6 top7 t10 t11 t12 t16 t17 t18 := by kernel_rfl
theorem zz41_iter6 (N : Nat) (kX : St → Option (Int × Unit)) (kO : Nat → St → Option (Int × Unit)) : ∀ (n : Nat) (o0 : Y5) (list1 : Y4) (x6 : Int) (top7 : Bool) (t10 : Y4) (t11 : Int) (t12 : Int) (t16 : Y4) (t17 : Int) (t18 : Int), zz41_R6 N n (zz41_E6 kX kO) o0 list1 x6 top7 t10 t11 t12 t16 t17 t18 = zz41_l6 N (zz41_X6 kX) n o0 list1 x6 top7 t10 t11 t12 t16 t17 t18
  | 0, _, _, _, _, _, _, _, _, _, _ => rfl
  | m + 1, o0, list1, x6, top7, t10, t11, t12, t16, t17, t18 => by
    have hrec : zz41_R6 N m (zz41_E6 kX kO) = (zz41_l6 N (zz41_X6 kX) m) := (funext fun o0 => (funext fun list1 => (funext fun x6 => (funext fun top7 => (funext fun t10 => (funext fun t11 => (funext fun t12 => (funext fun t16 => (funext fun t17 => (funext fun t18 => zz41_iter6 N kX kO m o0 list1 x6 top7 t10 t11 t12 t16 t17 t18))))))))))
    refine (zz41_step6 N m kX kO o0 list1 x6 top7 t10 t11 t12 t16 t17 t18).trans ?_
    rw [hrec]
    rfl
noncomputable abbrev zz41_K6 (N : Nat) (m : Nat) (kX : St → Option (Int × Unit)) (kO : Nat → St → Option (Int × Unit)) : Ex → St → Option (Int × Unit) := (blockK 2 (seqK ((A_zz41).shape 21) (run (A_zz41) N (codeAt Try.f150 [1, 0, 1, 0, 0, 1, 1, 0, 0, 1, 1, 1])) (blockK 1 (seqK ((A_zz41).shape 25) (run (A_zz41) N (codeAt Try.f150 [1, 0, 1, 0, 0, 1, 1, 1])) (iterK ((A_zz41).shape 4) (run (A_zz41) N (codeAt Try.f150 [1, 0, 1, 0, 0])) m (zz41_E2 kX kO))))))
noncomputable abbrev zz41_k6 (N : Nat) (m : Nat) (kX : St → Option (Int × Unit)) (kO : Nat → St → Option (Int × Unit)) : St → Option (Int × Unit) := fun st' => run (A_zz41) N (codeAt Try.f150 [1, 0, 1, 0, 0, 1, 1, 0, 0, 1, 1, 1]) st' (blockK 1 (seqK ((A_zz41).shape 25) (run (A_zz41) N (codeAt Try.f150 [1, 0, 1, 0, 0, 1, 1, 1])) (iterK ((A_zz41).shape 4) (run (A_zz41) N (codeAt Try.f150 [1, 0, 1, 0, 0])) m (zz41_E2 kX kO))))
theorem zz41_after6 (N : Nat) (m : Nat) (kX : St → Option (Int × Unit)) (kO : Nat → St → Option (Int × Unit)) (o0 : Y5) (list1 : Y4) (x6 : Int) (top7 : Bool) (t10 : Y4) (t11 : Int) (t12 : Int) : zz41_X6 (zz41_k6 N m kX kO) o0 list1 x6 top7 t10 t11 t12 = zz41_a6 (zz41_R2 N m (zz41_E2 kX kO)) o0 list1 x6 top7 t10 t11 t12 := by kernel_rfl
theorem zz41_in6 (N : Nat) (m : Nat) (kX : St → Option (Int × Unit)) (kO : Nat → St → Option (Int × Unit)) (recF : Y5 → Y4 → Y4 → Int → Int → Option (Int × Unit)) (hrec : zz41_R2 N m (zz41_E2 kX kO) = recF) (o0 : Y5) (list1 : Y4) (x6 : Int) (top7 : Bool) (t10 : Y4) (t11 : Int) (t12 : Int) (t16 : Y4) (t17 : Int) (t18 : Int) : zz41_R6 N N (zz41_K6 N m kX kO) o0 list1 x6 top7 t10 t11 t12 t16 t17 t18 = zz41_F6 N recF (zz41_X2 kX) o0 list1 x6 top7 t10 t11 t12 t16 t17 t18 :=
  have h : zz41_X6 (zz41_k6 N m kX kO) = (zz41_a6 recF) := (funext fun o0 => (funext fun list1 => (funext fun x6 => (funext fun top7 => (funext fun t10 => (funext fun t11 => (funext fun t12 => (zz41_after6 N m kX kO o0 list1 x6 top7 t10 t11 t12).trans (by rw [hrec]))))))))
  ((iter_ex (fun st => by kernel_rfl) (fun st => by kernel_rfl)).trans (zz41_iter6 N (zz41_k6 N m kX kO) (fun j st => (zz41_K6 N m kX kO) (.exit j) st) N o0 list1 x6 top7 t10 t11 t12 t16 t17 t18)).trans (congrArg (fun k => zz41_l6 N k N o0 list1 x6 top7 t10 t11 t12 t16 t17 t18) h)
theorem zz41_step2 (N : Nat) (m : Nat) (kX : St → Option (Int × Unit)) (kO : Nat → St → Option (Int × Unit)) (o0 : Y5) (list1 : Y4) (t10 : Y4) (t11 : Int) (t12 : Int) : zz41_R2 N (m + 1) (zz41_E2 kX kO) o0 list1 t10 t11 t12 = zz41_b2 (zz41_R6 N N (zz41_K6 N m kX kO)) (zz41_X2 kX) o0 list1 t10 t11 t12 := by kernel_rfl
theorem zz41_iter2 (N : Nat) (kX : St → Option (Int × Unit)) (kO : Nat → St → Option (Int × Unit)) : ∀ (n : Nat) (o0 : Y5) (list1 : Y4) (t10 : Y4) (t11 : Int) (t12 : Int), zz41_R2 N n (zz41_E2 kX kO) o0 list1 t10 t11 t12 = zz41_l2 N (zz41_X2 kX) n o0 list1 t10 t11 t12
  | 0, _, _, _, _, _ => rfl
  | m + 1, o0, list1, t10, t11, t12 => by
    have hrec : zz41_R2 N m (zz41_E2 kX kO) = (zz41_l2 N (zz41_X2 kX) m) := (funext fun o0 => (funext fun list1 => (funext fun t10 => (funext fun t11 => (funext fun t12 => zz41_iter2 N kX kO m o0 list1 t10 t11 t12)))))
    refine (zz41_step2 N m kX kO o0 list1 t10 t11 t12).trans ?_
    rw [(funext fun o0 => (funext fun list1 => (funext fun x6 => (funext fun top7 => (funext fun t10 => (funext fun t11 => (funext fun t12 => (funext fun t16 => (funext fun t17 => (funext fun t18 => zz41_in6 N m kX kO (zz41_l2 N (zz41_X2 kX) m) hrec o0 list1 x6 top7 t10 t11 t12 t16 t17 t18))))))))))]
    rfl
noncomputable abbrev zz41_K2 (N : Nat) : Ex → St → Option (Int × Unit) := (blockK 0 (seqK ((A_zz41).shape 27) (run (A_zz41) N (codeAt Try.f150 [1, 1])) zz41_z))
noncomputable abbrev zz41_k2 (N : Nat) : St → Option (Int × Unit) := fun st' => run (A_zz41) N (codeAt Try.f150 [1, 1]) st' zz41_z
theorem zz41_after2 (N : Nat) : zz41_X2 (zz41_k2 N) = zz41_a2 := by kernel_rfl
theorem zz41_in2 (N : Nat) (o0 : Y5) (list1 : Y4) (t10 : Y4) (t11 : Int) (t12 : Int) : zz41_R2 N N (zz41_K2 N) o0 list1 t10 t11 t12 = zz41_F2 N o0 list1 t10 t11 t12 :=
  have h : zz41_X2 (zz41_k2 N) = (zz41_a2) := zz41_after2 N
  ((iter_ex (fun st => by kernel_rfl) (fun st => by kernel_rfl)).trans (zz41_iter2 N (zz41_k2 N) (fun j st => (zz41_K2 N) (.exit j) st) N o0 list1 t10 t11 t12)).trans (congrArg (fun k => zz41_l2 N k N o0 list1 t10 t11 t12) h)
theorem run0_zz41 (N : Nat) (x : (S_zz41).a.den) : runF (A_zz41) N Try.f150 S_zz41 x = (zz41_s (zz41_R2 N N (zz41_K2 N)) x.1 x.2.1) := by kernel_rfl
theorem run_zz41 (N : Nat) (x : (S_zz41).a.den) : runF (A_zz41) N Try.f150 S_zz41 x = zz41 N x.1 x.2.1 := by
  refine (run0_zz41 N x).trans ?_
  rw [(funext fun o0 => (funext fun list1 => (funext fun t10 => (funext fun t11 => (funext fun t12 => zz41_in2 N o0 list1 t10 t11 t12)))))]
  rfl
theorem fn_zz41 : FnOk Try.prog 150 := ⟨_, Try.func150, by kernel_rfl, by kernel_rfl⟩
theorem good_zz41 : Gx.Good Try.prog 150 S_zz41 := good_of_run Try.func150 (of_decide_eq_true (by kernel_rfl)) fun x r h => ⟨A_zz41, big, mkCfg_ok tabOk, mkCfg_sigs (show SigsOk Try.prog [] from trivial), (run_zz41 big x).trans h⟩

/-! zz42 -/
def zz42_s (z_0 : Int) (p_1 : Y5) (p_2 : Int) (p_3 : Int) : Option (Bool × Unit) :=
  (atI p_1 z_0).bind fun xq1 =>
  (atI xq1 p_2).bind fun xq2 =>
  cond xq2
  ((atI p_1 z_0).bind fun xq3 =>
  (atI xq3 p_3).bind fun xq4 =>
  some (xq4, (())))
  (some (false, (())))
def zz42 (z_0 : Int) (p_1 : Y5) (p_2 : Int) (p_3 : Int) : Option (Bool × Unit) := zz42_s z_0 p_1 p_2 p_3
def S_zz42 : Sig := { a := (.pair I (.pair (.ptr (.sl (.sl .bool))) (.pair (.ptr I) (.pair (.ptr I) .unit)))), md := [0, 0, 0, 0], mf := [], m := .unit, r := .bool, rf := .i, f := fun x => zz42 x.1 x.2.1 x.2.2.1 x.2.2.2.1 }
def A_zz42 : Cfg := mkCfg tab [] []
theorem run_zz42 (N : Nat) (x : (S_zz42).a.den) : runF (A_zz42) N Try.f151 S_zz42 x = zz42 x.1 x.2.1 x.2.2.1 x.2.2.2.1 := by kernel_rfl
theorem fn_zz42 : FnOk Try.prog 151 := ⟨_, Try.func151, by kernel_rfl, by kernel_rfl⟩
theorem good_zz42 : Gx.Good Try.prog 151 S_zz42 := good_of_run Try.func151 (of_decide_eq_true (by kernel_rfl)) fun x r h => ⟨A_zz42, big, mkCfg_ok tabOk, mkCfg_sigs (show SigsOk Try.prog [] from trivial), (run_zz42 big x).trans h⟩

/-! zz43 -/
def zz43_b3 (rec : (Y5 × (Int × (Int × Unit))) → Y4 → Int → Int → Option (Y4 × Unit)) (k : Y4 → Option (Y4 × Unit)) (so1 : (Y5 × (Int × (Int × Unit)))) (list5 : Y4) (t9 : Int) (t10 : Int) : Option (Y4 × Unit) :=
  cond (decide (t10 < t9))
  ((zz42 t10 so1.1 so1.2.1 so1.2.2.1).bind fun rq1 =>
  cond rq1.1
  ((appI list5 [t10]).bind fun xq2 =>
  rec so1 xq2 t9 (IntKind.i64.wrap (t10 + (1 : Int))))
  (rec so1 list5 t9 (IntKind.i64.wrap (t10 + (1 : Int)))))
  (k list5)
def zz43_a3 (list5 : Y4) : Option (Y4 × Unit) :=
  some (list5, (()))
def zz43_s (L3 : (Y5 × (Int × (Int × Unit))) → Y4 → Int → Int → Option (Y4 × Unit)) (o_0 : Y5) (so_1 : (Y5 × (Int × (Int × Unit)))) : Option (Y4 × Unit) :=
  L3 so_1 [] (o_0.length : Int) (0 : Int)
def zz43_l3 (N : Nat) (k : Y4 → Option (Y4 × Unit)) : Nat → (Y5 × (Int × (Int × Unit))) → Y4 → Int → Int → Option (Y4 × Unit)
  | 0, _, _, _, _ => none
  | m + 1, so1, list5, t9, t10 => zz43_b3 (zz43_l3 N k m) k so1 list5 t9 t10
def zz43_F3 (N : Nat) (so1 : (Y5 × (Int × (Int × Unit)))) (list5 : Y4) (t9 : Int) (t10 : Int) : Option (Y4 × Unit) := zz43_l3 N (zz43_a3) N so1 list5 t9 t10
def zz43 (N : Nat) (o_0 : Y5) (so_1 : (Y5 × (Int × (Int × Unit)))) : Option (Y4 × Unit) := zz43_s (zz43_F3 N) o_0 so_1
def S_zz43 : Sig := { a := (.pair (.sl (.sl .bool)) (.pair (.clo 151 0 (.pair (.ptr (.sl (.sl .bool))) (.pair (.ptr I) (.pair (.ptr I) .unit)))) .unit)), md := [0, 0], mf := [], m := .unit, r := (.sl I), rf := (.o .i), f := fun x => zz43 big x.1 x.2.1 }
def A_zz43 : Cfg := mkCfg tab [(151, S_zz42)] [(6, [.drop, .as (.clo 151 0 (.pair (.ptr (.sl (.sl .bool))) (.pair (.ptr I) (.pair (.ptr I) .unit)))) .i, .drop, .drop, .drop, .as (.sl I) (.o .i), .drop, .drop, .drop, .as I .i, .as I .i]), (17, [.drop, .drop, .drop, .drop, .drop, .as (.sl I) (.o .i)])]
noncomputable def zz43_R3 (N n : Nat) (K : Ex → St → Option (Y4 × Unit)) (so1 : (Y5 × (Int × (Int × Unit)))) (list5 : Y4) (t9 : Int) (t10 : Int) : Option (Y4 × Unit) := iter ((A_zz43).shape 6) (run (A_zz43) N (codeAt Try.f104 [1, 1, 0, 1, 0, 0])) n ([.u, .val (.clo 151 0 (.pair (.ptr (.sl (.sl .bool))) (.pair (.ptr I) (.pair (.ptr I) .unit)))) .i so1, .u, .u, .u, .val (.sl I) (.o .i) list5, .u, .u, .u, .val I .i t9, .val I .i t10] ++ List.replicate 11 .u) K
noncomputable abbrev zz43_z : Ex → St → Option (Y4 × Unit) := finish (A_zz43) S_zz43 Try.f104.results.toList
noncomputable abbrev zz43_X3 (kX : St → Option (Y4 × Unit)) : Y4 → Option (Y4 × Unit) := fun (list5 : Y4) => kX ([.u, .u, .u, .u, .u, .val (.sl I) (.o .i) list5] ++ List.replicate 16 .u)
noncomputable abbrev zz43_E3 (kX : St → Option (Y4 × Unit)) (kO : Nat → St → Option (Y4 × Unit)) : Ex → St → Option (Y4 × Unit) := exK zz43_z 0 ((A_zz43).shape 17) kX kO
theorem zz43_step3 (N : Nat) (m : Nat) (kX : St → Option (Y4 × Unit)) (kO : Nat → St → Option (Y4 × Unit)) (so1 : (Y5 × (Int × (Int × Unit)))) (list5 : Y4) (t9 : Int) (t10 : Int) : zz43_R3 N (m + 1) (zz43_E3 kX kO) so1 list5 t9 t10 = zz43_b3 (zz43_R3 N m (zz43_E3 kX kO)) (zz43_X3 kX) so1 list5 t9 t10 := by kernel_rfl
theorem zz43_iter3 (N : Nat) (kX : St → Option (Y4 × Unit)) (kO : Nat → St → Option (Y4 × Unit)) : ∀ (n : Nat) (so1 : (Y5 × (Int × (Int × Unit)))) (list5 : Y4) (t9 : Int) (t10 : Int), zz43_R3 N n (zz43_E3 kX kO) so1 list5 t9 t10 = zz43_l3 N (zz43_X3 kX) n so1 list5 t9 t10
  | 0, _, _, _, _ => rfl
  | m + 1, so1, list5, t9, t10 => by
    have hrec : zz43_R3 N m (zz43_E3 kX kO) = (zz43_l3 N (zz43_X3 kX) m) := (funext fun so1 => (funext fun list5 => (funext fun t9 => (funext fun t10 => zz43_iter3 N kX kO m so1 list5 t9 t10))))
    refine (zz43_step3 N m kX kO so1 list5 t9 t10).trans ?_
    rw [hrec]
    rfl
noncomputable abbrev zz43_K3 (N : Nat) : Ex → St → Option (Y4 × Unit) := (blockK 0 (seqK ((A_zz43).shape 17) (run (A_zz43) N (codeAt Try.f104 [1, 1, 1])) zz43_z))
noncomputable abbrev zz43_k3 (N : Nat) : St → Option (Y4 × Unit) := fun st' => run (A_zz43) N (codeAt Try.f104 [1, 1, 1]) st' zz43_z
theorem zz43_after3 (N : Nat) (list5 : Y4) : zz43_X3 (zz43_k3 N) list5 = zz43_a3 list5 := by kernel_rfl
theorem zz43_in3 (N : Nat) (so1 : (Y5 × (Int × (Int × Unit)))) (list5 : Y4) (t9 : Int) (t10 : Int) : zz43_R3 N N (zz43_K3 N) so1 list5 t9 t10 = zz43_F3 N so1 list5 t9 t10 :=
  have h : zz43_X3 (zz43_k3 N) = (zz43_a3) := (funext fun list5 => zz43_after3 N list5)
  ((iter_ex (fun st => by kernel_rfl) (fun st => by kernel_rfl)).trans (zz43_iter3 N (zz43_k3 N) (fun j st => (zz43_K3 N) (.exit j) st) N so1 list5 t9 t10)).trans (congrArg (fun k => zz43_l3 N k N so1 list5 t9 t10) h)
theorem run0_zz43 (N : Nat) (x : (S_zz43).a.den) : runF (A_zz43) N Try.f104 S_zz43 x = (zz43_s (zz43_R3 N N (zz43_K3 N)) x.1 x.2.1) := by kernel_rfl
theorem run_zz43 (N : Nat) (x : (S_zz43).a.den) : runF (A_zz43) N Try.f104 S_zz43 x = zz43 N x.1 x.2.1 := by
  refine (run0_zz43 N x).trans ?_
  rw [(funext fun so1 => (funext fun list5 => (funext fun t9 => (funext fun t10 => zz43_in3 N so1 list5 t9 t10))))]
  rfl
theorem fn_zz43 : FnOk Try.prog 104 := ⟨_, Try.func104, by kernel_rfl, by kernel_rfl⟩
theorem good_zz43 : Gx.Good Try.prog 104 S_zz43 := good_of_run Try.func104 (of_decide_eq_true (by kernel_rfl)) fun x r h => ⟨A_zz43, big, mkCfg_ok tabOk, mkCfg_sigs (show SigsOk Try.prog [(151, S_zz42)] from ⟨⟨fn_zz42, good_zz42⟩, trivial⟩), (run_zz43 big x).trans h⟩

/-! zz44 -/
def zz44_b7 (rec : Y5 → Y3 → Int → Y4 → Int → Int → Int → Int → Option ((Y3 × (Bool × Unit)) × Unit)) (k : Y5 → Y3 → Y4 → Int → Int → Option ((Y3 × (Bool × Unit)) × Unit)) (o1 : Y5) (table4 : Y3) (x5 : Int) (row6 : Y4) (t11 : Int) (t12 : Int) (t17 : Int) (t18 : Int) : Option ((Y3 × (Bool × Unit)) × Unit) :=
  cond (decide (t18 < t17))
  ((zz43 big o1 (o1, x5, t18, ())).bind fun rq1 =>
  (zz41 big o1 rq1.1).bind fun rq2 =>
  cond (decide (rq2.1 < (0 : Int)))
  (some (([], false, ()), (())))
  ((appI row6 [rq2.1]).bind fun xq3 =>
  rec o1 table4 x5 xq3 t11 t12 t17 (IntKind.i64.wrap (t18 + (1 : Int)))))
  (k o1 table4 row6 t11 t12)
def zz44_a7 (rec : Y5 → Y3 → Int → Int → Option ((Y3 × (Bool × Unit)) × Unit)) (o1 : Y5) (table4 : Y3) (row6 : Y4) (t11 : Int) (t12 : Int) : Option ((Y3 × (Bool × Unit)) × Unit) :=
  (appI table4 [row6]).bind fun xq4 =>
  rec o1 xq4 t11 (IntKind.i64.wrap (t12 + (1 : Int)))
def zz44_b3 (L7 : Y5 → Y3 → Int → Y4 → Int → Int → Int → Int → Option ((Y3 × (Bool × Unit)) × Unit)) (k : Y3 → Option ((Y3 × (Bool × Unit)) × Unit)) (o1 : Y5) (table4 : Y3) (t11 : Int) (t12 : Int) : Option ((Y3 × (Bool × Unit)) × Unit) :=
  cond (decide (t12 < t11))
  (L7 o1 table4 t12 [] t11 t12 (o1.length : Int) (0 : Int))
  (k table4)
def zz44_a3 (table4 : Y3) : Option ((Y3 × (Bool × Unit)) × Unit) :=
  some ((table4, true, ()), (()))
def zz44_s (L3 : Y5 → Y3 → Int → Int → Option ((Y3 × (Bool × Unit)) × Unit)) (o_0 : Y5) : Option ((Y3 × (Bool × Unit)) × Unit) :=
  L3 o_0 [] (o_0.length : Int) (0 : Int)
def zz44_l7 (N : Nat) (k : Y5 → Y3 → Y4 → Int → Int → Option ((Y3 × (Bool × Unit)) × Unit)) : Nat → Y5 → Y3 → Int → Y4 → Int → Int → Int → Int → Option ((Y3 × (Bool × Unit)) × Unit)
  | 0, _, _, _, _, _, _, _, _ => none
  | m + 1, o1, table4, x5, row6, t11, t12, t17, t18 => zz44_b7 (zz44_l7 N k m) k o1 table4 x5 row6 t11 t12 t17 t18
def zz44_F7 (N : Nat) (rec : Y5 → Y3 → Int → Int → Option ((Y3 × (Bool × Unit)) × Unit)) (k : Y3 → Option ((Y3 × (Bool × Unit)) × Unit)) (o1 : Y5) (table4 : Y3) (x5 : Int) (row6 : Y4) (t11 : Int) (t12 : Int) (t17 : Int) (t18 : Int) : Option ((Y3 × (Bool × Unit)) × Unit) := zz44_l7 N (zz44_a7 rec) N o1 table4 x5 row6 t11 t12 t17 t18
def zz44_l3 (N : Nat) (k : Y3 → Option ((Y3 × (Bool × Unit)) × Unit)) : Nat → Y5 → Y3 → Int → Int → Option ((Y3 × (Bool × Unit)) × Unit)
  | 0, _, _, _, _ => none
  | m + 1, o1, table4, t11, t12 => zz44_b3 (zz44_F7 N (zz44_l3 N k m) k) k o1 table4 t11 t12
def zz44_F3 (N : Nat) (o1 : Y5) (table4 : Y3) (t11 : Int) (t12 : Int) : Option ((Y3 × (Bool × Unit)) × Unit) := zz44_l3 N (zz44_a3) N o1 table4 t11 t12
def zz44 (N : Nat) (o_0 : Y5) : Option ((Y3 × (Bool × Unit)) × Unit) := zz44_s (zz44_F3 N) o_0
def S_zz44 : Sig := { a := (.pair (.sl (.sl .bool)) .unit), md := [0], mf := [], m := .unit, r := (.tup (.pair (.sl (.sl I)) (.pair .bool .unit))), rf := (.p (.o (.o .i)) .i), f := fun x => zz44 big x.1 }
def A_zz44 : Cfg := mkCfg tab [(104, S_zz43), (150, S_zz41)] [(6, [.drop, .as (.ptr (.sl (.sl .bool))) .i, .drop, .drop, .as (.sl (.sl I)) (.o (.o .i)), .drop, .drop, .drop, .drop, .drop, .drop, .as I .i, .as I .i]), (14, [.drop, .as (.ptr (.sl (.sl .bool))) .i, .drop, .drop, .as (.sl (.sl I)) (.o (.o .i)), .as (.ptr I) .i, .as (.sl I) (.o .i), .drop, .drop, .drop, .drop, .as I .i, .as I .i, .drop, .drop, .drop, .drop, .as I .i, .as I .i]), (33, [.drop, .drop, .drop, .drop, .as (.sl (.sl I)) (.o (.o .i))]), (19, [.drop, .as (.ptr (.sl (.sl .bool))) .i, .drop, .drop, .as (.sl (.sl I)) (.o (.o .i)), .as (.ptr I) .i, .as (.sl I) (.o .i), .as (.ptr I) .i, .drop, .drop, .drop, .as I .i, .as I .i, .drop, .drop, .drop, .drop, .as I .i, .as I .i]), (29, [.drop, .as (.ptr (.sl (.sl .bool))) .i, .drop, .drop, .as (.sl (.sl I)) (.o (.o .i)), .drop, .as (.sl I) (.o .i), .drop, .drop, .drop, .drop, .as I .i, .as I .i])]
noncomputable def zz44_R3 (N n : Nat) (K : Ex → St → Option ((Y3 × (Bool × Unit)) × Unit)) (o1 : Y5) (table4 : Y3) (t11 : Int) (t12 : Int) : Option ((Y3 × (Bool × Unit)) × Unit) := iter ((A_zz44).shape 6) (run (A_zz44) N (codeAt Try.f132 [1, 1, 0, 1, 0, 0])) n ([.u, .val (.ptr (.sl (.sl .bool))) .i o1, .u, .u, .val (.sl (.sl I)) (.o (.o .i)) table4, .u, .u, .u, .u, .u, .u, .val I .i t11, .val I .i t12] ++ List.replicate 26 .u) K
noncomputable def zz44_R7 (N n : Nat) (K : Ex → St → Option ((Y3 × (Bool × Unit)) × Unit)) (o1 : Y5) (table4 : Y3) (x5 : Int) (row6 : Y4) (t11 : Int) (t12 : Int) (t17 : Int) (t18 : Int) : Option ((Y3 × (Bool × Unit)) × Unit) := iter ((A_zz44).shape 14) (run (A_zz44) N (codeAt Try.f132 [1, 1, 0, 1, 0, 0, 1, 1, 0, 0, 1, 1, 0, 1, 0, 0])) n ([.u, .val (.ptr (.sl (.sl .bool))) .i o1, .u, .u, .val (.sl (.sl I)) (.o (.o .i)) table4, .val (.ptr I) .i x5, .val (.sl I) (.o .i) row6, .u, .u, .u, .u, .val I .i t11, .val I .i t12, .u, .u, .u, .u, .val I .i t17, .val I .i t18] ++ List.replicate 20 .u) K
noncomputable abbrev zz44_z : Ex → St → Option ((Y3 × (Bool × Unit)) × Unit) := finish (A_zz44) S_zz44 Try.f132.results.toList
noncomputable abbrev zz44_X3 (kX : St → Option ((Y3 × (Bool × Unit)) × Unit)) : Y3 → Option ((Y3 × (Bool × Unit)) × Unit) := fun (table4 : Y3) => kX ([.u, .u, .u, .u, .val (.sl (.sl I)) (.o (.o .i)) table4] ++ List.replicate 34 .u)
noncomputable abbrev zz44_E3 (kX : St → Option ((Y3 × (Bool × Unit)) × Unit)) (kO : Nat → St → Option ((Y3 × (Bool × Unit)) × Unit)) : Ex → St → Option ((Y3 × (Bool × Unit)) × Unit) := exK zz44_z 0 ((A_zz44).shape 33) kX kO
noncomputable abbrev zz44_X7 (kX : St → Option ((Y3 × (Bool × Unit)) × Unit)) : Y5 → Y3 → Y4 → Int → Int → Option ((Y3 × (Bool × Unit)) × Unit) := fun (o1 : Y5) (table4 : Y3) (row6 : Y4) (t11 : Int) (t12 : Int) => kX ([.u, .val (.ptr (.sl (.sl .bool))) .i o1, .u, .u, .val (.sl (.sl I)) (.o (.o .i)) table4, .u, .val (.sl I) (.o .i) row6, .u, .u, .u, .u, .val I .i t11, .val I .i t12] ++ List.replicate 26 .u)
noncomputable abbrev zz44_E7 (kX : St → Option ((Y3 × (Bool × Unit)) × Unit)) (kO : Nat → St → Option ((Y3 × (Bool × Unit)) × Unit)) : Ex → St → Option ((Y3 × (Bool × Unit)) × Unit) := exK zz44_z 2 ((A_zz44).shape 29) kX kO
theorem zz44_step7 (N : Nat) (m : Nat) (kX : St → Option ((Y3 × (Bool × Unit)) × Unit)) (kO : Nat → St → Option ((Y3 × (Bool × Unit)) × Unit)) (o1 : Y5) (table4 : Y3) (x5 : Int) (row6 : Y4) (t11 : Int) (t12 : Int) (t17 : Int) (t18 : Int) : zz44_R7 N (m + 1) (zz44_E7 kX kO) o1 table4 x5 row6 t11 t12 t17 t18 = zz44_b7 (zz44_R7 N m (zz44_E7 kX kO)) (zz44_X7 kX) o1 table4 x5 row6 t11 t12 t17 t18 := by kernel_rfl
theorem zz44_iter7 (N : Nat) (kX : St → Option ((Y3 × (Bool × Unit)) × Unit)) (kO : Nat → St → Option ((Y3 × (Bool × Unit)) × Unit)) : ∀ (n : Nat) (o1 : Y5) (table4 : Y3) (x5 : Int) (row6 : Y4) (t11 : Int) (t12 : Int) (t17 : Int) (t18 : Int), zz44_R7 N n (zz44_E7 kX kO) o1 table4 x5 row6 t11 t12 t17 t18 = zz44_l7 N (zz44_X7 kX) n o1 table4 x5 row6 t11 t12 t17 t18
  | 0, _, _, _, _, _, _, _, _ => rfl
  | m + 1, o1, table4, x5, row6, t11, t12, t17, t18 => by
    have hrec : zz44_R7 N m (zz44_E7 kX kO) = (zz44_l7 N (zz44_X7 kX) m) := (funext fun o1 => (funext fun table4 => (funext fun x5 => (funext fun row6 => (funext fun t11 => (funext fun t12 => (funext fun t17 => (funext fun t18 => zz44_iter7 N kX kO m o1 table4 x5 row6 t11 t12 t17 t18))))))))
    refine (zz44_step7 N m kX kO o1 table4 x5 row6 t11 t12 t17 t18).trans ?_
    rw [hrec]
    rfl
noncomputable abbrev zz44_K7 (N : Nat) (m : Nat) (kX : St → Option ((Y3 × (Bool × Unit)) × Unit)) (kO : Nat → St → Option ((Y3 × (Bool × Unit)) × Unit)) : Ex → St → Option ((Y3 × (Bool × Unit)) × Unit) := (blockK 2 (seqK ((A_zz44).shape 29) (run (A_zz44) N (codeAt Try.f132 [1, 1, 0, 1, 0, 0, 1, 1, 0, 0, 1, 1, 1])) (blockK 1 (seqK ((A_zz44).shape 31) (run (A_zz44) N (codeAt Try.f132 [1, 1, 0, 1, 0, 0, 1, 1, 1])) (iterK ((A_zz44).shape 6) (run (A_zz44) N (codeAt Try.f132 [1, 1, 0, 1, 0, 0])) m (zz44_E3 kX kO))))))
noncomputable abbrev zz44_k7 (N : Nat) (m : Nat) (kX : St → Option ((Y3 × (Bool × Unit)) × Unit)) (kO : Nat → St → Option ((Y3 × (Bool × Unit)) × Unit)) : St → Option ((Y3 × (Bool × Unit)) × Unit) := fun st' => run (A_zz44) N (codeAt Try.f132 [1, 1, 0, 1, 0, 0, 1, 1, 0, 0, 1, 1, 1]) st' (blockK 1 (seqK ((A_zz44).shape 31) (run (A_zz44) N (codeAt Try.f132 [1, 1, 0, 1, 0, 0, 1, 1, 1])) (iterK ((A_zz44).shape 6) (run (A_zz44) N (codeAt Try.f132 [1, 1, 0, 1, 0, 0])) m (zz44_E3 kX kO))))
theorem zz44_after7 (N : Nat) (m : Nat) (kX : St → Option ((Y3 × (Bool × Unit)) × Unit)) (kO : Nat → St → Option ((Y3 × (Bool × Unit)) × Unit)) (o1 : Y5) (table4 : Y3) (row6 : Y4) (t11 : Int) (t12 : Int) : zz44_X7 (zz44_k7 N m kX kO) o1 table4 row6 t11 t12 = zz44_a7 (zz44_R3 N m (zz44_E3 kX kO)) o1 table4 row6 t11 t12 := by kernel_rfl
theorem zz44_in7 (N : Nat) (m : Nat) (kX : St → Option ((Y3 × (Bool × Unit)) × Unit)) (kO : Nat → St → Option ((Y3 × (Bool × Unit)) × Unit)) (recF : Y5 → Y3 → Int → Int → Option ((Y3 × (Bool × Unit)) × Unit)) (hrec : zz44_R3 N m (zz44_E3 kX kO) = recF) (o1 : Y5) (table4 : Y3) (x5 : Int) (row6 : Y4) (t11 : Int) (t12 : Int) (t17 : Int) (t18 : Int) : zz44_R7 N N (zz44_K7 N m kX kO) o1 table4 x5 row6 t11 t12 t17 t18 = zz44_F7 N recF (zz44_X3 kX) o1 table4 x5 row6 t11 t12 t17 t18 :=
  have h : zz44_X7 (zz44_k7 N m kX kO) = (zz44_a7 recF) := (funext fun o1 => (funext fun table4 => (funext fun row6 => (funext fun t11 => (funext fun t12 => (zz44_after7 N m kX kO o1 table4 row6 t11 t12).trans (by rw [hrec]))))))
  ((iter_ex (fun st => by kernel_rfl) (fun st => by kernel_rfl)).trans (zz44_iter7 N (zz44_k7 N m kX kO) (fun j st => (zz44_K7 N m kX kO) (.exit j) st) N o1 table4 x5 row6 t11 t12 t17 t18)).trans (congrArg (fun k => zz44_l7 N k N o1 table4 x5 row6 t11 t12 t17 t18) h)
theorem zz44_step3 (N : Nat) (m : Nat) (kX : St → Option ((Y3 × (Bool × Unit)) × Unit)) (kO : Nat → St → Option ((Y3 × (Bool × Unit)) × Unit)) (o1 : Y5) (table4 : Y3) (t11 : Int) (t12 : Int) : zz44_R3 N (m + 1) (zz44_E3 kX kO) o1 table4 t11 t12 = zz44_b3 (zz44_R7 N N (zz44_K7 N m kX kO)) (zz44_X3 kX) o1 table4 t11 t12 := by kernel_rfl
theorem zz44_iter3 (N : Nat) (kX : St → Option ((Y3 × (Bool × Unit)) × Unit)) (kO : Nat → St → Option ((Y3 × (Bool × Unit)) × Unit)) : ∀ (n : Nat) (o1 : Y5) (table4 : Y3) (t11 : Int) (t12 : Int), zz44_R3 N n (zz44_E3 kX kO) o1 table4 t11 t12 = zz44_l3 N (zz44_X3 kX) n o1 table4 t11 t12
  | 0, _, _, _, _ => rfl
  | m + 1, o1, table4, t11, t12 => by
    have hrec : zz44_R3 N m (zz44_E3 kX kO) = (zz44_l3 N (zz44_X3 kX) m) := (funext fun o1 => (funext fun table4 => (funext fun t11 => (funext fun t12 => zz44_iter3 N kX kO m o1 table4 t11 t12))))
    refine (zz44_step3 N m kX kO o1 table4 t11 t12).trans ?_
    rw [(funext fun o1 => (funext fun table4 => (funext fun x5 => (funext fun row6 => (funext fun t11 => (funext fun t12 => (funext fun t17 => (funext fun t18 => zz44_in7 N m kX kO (zz44_l3 N (zz44_X3 kX) m) hrec o1 table4 x5 row6 t11 t12 t17 t18))))))))]
    rfl
noncomputable abbrev zz44_K3 (N : Nat) : Ex → St → Option ((Y3 × (Bool × Unit)) × Unit) := (blockK 0 (seqK ((A_zz44).shape 33) (run (A_zz44) N (codeAt Try.f132 [1, 1, 1])) zz44_z))
noncomputable abbrev zz44_k3 (N : Nat) : St → Option ((Y3 × (Bool × Unit)) × Unit) := fun st' => run (A_zz44) N (codeAt Try.f132 [1, 1, 1]) st' zz44_z
theorem zz44_after3 (N : Nat) (table4 : Y3) : zz44_X3 (zz44_k3 N) table4 = zz44_a3 table4 := by kernel_rfl
theorem zz44_in3 (N : Nat) (o1 : Y5) (table4 : Y3) (t11 : Int) (t12 : Int) : zz44_R3 N N (zz44_K3 N) o1 table4 t11 t12 = zz44_F3 N o1 table4 t11 t12 :=
  have h : zz44_X3 (zz44_k3 N) = (zz44_a3) := (funext fun table4 => zz44_after3 N table4)
  ((iter_ex (fun st => by kernel_rfl) (fun st => by kernel_rfl)).trans (zz44_iter3 N (zz44_k3 N) (fun j st => (zz44_K3 N) (.exit j) st) N o1 table4 t11 t12)).trans (congrArg (fun k => zz44_l3 N k N o1 table4 t11 t12) h)
theorem run0_zz44 (N : Nat) (x : (S_zz44).a.den) : runF (A_zz44) N Try.f132 S_zz44 x = (zz44_s (zz44_R3 N N (zz44_K3 N)) x.1) := by kernel_rfl
theorem run_zz44 (N : Nat) (x : (S_zz44).a.den) : runF (A_zz44) N Try.f132 S_zz44 x = zz44 N x.1 := by
  refine (run0_zz44 N x).trans ?_
  rw [(funext fun o1 => (funext fun table4 => (funext fun t11 => (funext fun t12 => zz44_in3 N o1 table4 t11 t12))))]
  rfl
theorem fn_zz44 : FnOk Try.prog 132 := ⟨_, Try.func132, by kernel_rfl, by kernel_rfl⟩
theorem good_zz44 : Gx.Good Try.prog 132 S_zz44 := good_of_run Try.func132 (of_decide_eq_true (by kernel_rfl)) fun x r h => ⟨A_zz44, big, mkCfg_ok tabOk, mkCfg_sigs (show SigsOk Try.prog [(104, S_zz43), (150, S_zz41)] from ⟨⟨fn_zz43, good_zz43⟩, ⟨fn_zz41, good_zz41⟩, trivial⟩), (run_zz44 big x).trans h⟩

/-! zz45 -/
def zz45_b6 (rec : Y5 → Y5 → Int → Int → Int → Int → Int → Option (Y5 × Unit)) (k : Y5 → Y5 → Int → Int → Option (Y5 × Unit)) (o0 : Y5) (d3 : Y5) (x4 : Int) (t10 : Int) (t11 : Int) (t15 : Int) (t16 : Int) : Option (Y5 × Unit) :=
  cond (decide (t16 < t15))
  ((atI d3 x4).bind fun _ =>
  (d3[x4.toNat]?).bind fun xq2 =>
  (atI o0 t16).bind fun xq3 =>
  (atI xq3 x4).bind fun xq4 =>
  (d3[x4.toNat]?).bind fun xq5 =>
  (atI xq5 t16).bind fun _ =>
  (d3[x4.toNat]?).bind fun xq6 =>
  (xq6[t16.toNat]?).bind fun xq7 =>
  rec o0 (d3.set x4.toNat (xq6.set t16.toNat xq4)) x4 t10 t11 t15 (IntKind.i64.wrap (t16 + (1 : Int))))
  (k o0 d3 t10 t11)
def zz45_a6 (rec : Y5 → Y5 → Int → Int → Option (Y5 × Unit)) (o0 : Y5) (d3 : Y5) (t10 : Int) (t11 : Int) : Option (Y5 × Unit) :=
  rec o0 d3 t10 (IntKind.i64.wrap (t11 + (1 : Int)))
def zz45_b3 (L6 : Y5 → Y5 → Int → Int → Int → Int → Int → Option (Y5 × Unit)) (k : Y5 → Option (Y5 × Unit)) (o0 : Y5) (d3 : Y5) (t10 : Int) (t11 : Int) : Option (Y5 × Unit) :=
  cond (decide (t11 < t10))
  (L6 o0 d3 t11 t10 t11 (o0.length : Int) (0 : Int))
  (k d3)
def zz45_a3 (d3 : Y5) : Option (Y5 × Unit) :=
  some (d3, (()))
def zz45_s (L3 : Y5 → Y5 → Int → Int → Option (Y5 × Unit)) (o_0 : Y5) : Option (Y5 × Unit) :=
  (zz36 big (o_0.length : Int)).bind fun rq1 =>
  L3 o_0 rq1.1 (o_0.length : Int) (0 : Int)
def zz45_l6 (N : Nat) (k : Y5 → Y5 → Int → Int → Option (Y5 × Unit)) : Nat → Y5 → Y5 → Int → Int → Int → Int → Int → Option (Y5 × Unit)
  | 0, _, _, _, _, _, _, _ => none
  | m + 1, o0, d3, x4, t10, t11, t15, t16 => zz45_b6 (zz45_l6 N k m) k o0 d3 x4 t10 t11 t15 t16
def zz45_F6 (N : Nat) (rec : Y5 → Y5 → Int → Int → Option (Y5 × Unit)) (k : Y5 → Option (Y5 × Unit)) (o0 : Y5) (d3 : Y5) (x4 : Int) (t10 : Int) (t11 : Int) (t15 : Int) (t16 : Int) : Option (Y5 × Unit) := zz45_l6 N (zz45_a6 rec) N o0 d3 x4 t10 t11 t15 t16
def zz45_l3 (N : Nat) (k : Y5 → Option (Y5 × Unit)) : Nat → Y5 → Y5 → Int → Int → Option (Y5 × Unit)
  | 0, _, _, _, _ => none
  | m + 1, o0, d3, t10, t11 => zz45_b3 (zz45_F6 N (zz45_l3 N k m) k) k o0 d3 t10 t11
def zz45_F3 (N : Nat) (o0 : Y5) (d3 : Y5) (t10 : Int) (t11 : Int) : Option (Y5 × Unit) := zz45_l3 N (zz45_a3) N o0 d3 t10 t11
def zz45 (N : Nat) (o_0 : Y5) : Option (Y5 × Unit) := zz45_s (zz45_F3 N) o_0
def S_zz45 : Sig := { a := (.pair (.sl (.sl .bool)) .unit), md := [0], mf := [], m := .unit, r := (.sl (.sl .bool)), rf := (.o (.o .i)), f := fun x => zz45 big x.1 }
def A_zz45 : Cfg := mkCfg tab [(67, S_zz36)] [(6, [.as (.sl (.sl .bool)) .i, .drop, .drop, .as (.sl (.sl .bool)) (.o (.o .i)), .drop, .drop, .drop, .drop, .drop, .drop, .as I .i, .as I .i]), (12, [.as (.sl (.sl .bool)) .i, .drop, .drop, .as (.sl (.sl .bool)) (.o (.o .i)), .as I .i, .drop, .drop, .drop, .drop, .drop, .as I .i, .as I .i, .drop, .drop, .drop, .as I .i, .as I .i]), (23, [.drop, .drop, .drop, .as (.sl (.sl .bool)) (.o (.o .i))]), (21, [.as (.sl (.sl .bool)) .i, .drop, .drop, .as (.sl (.sl .bool)) (.o (.o .i)), .drop, .drop, .drop, .drop, .drop, .drop, .as I .i, .as I .i])]
noncomputable def zz45_R3 (N n : Nat) (K : Ex → St → Option (Y5 × Unit)) (o0 : Y5) (d3 : Y5) (t10 : Int) (t11 : Int) : Option (Y5 × Unit) := iter ((A_zz45).shape 6) (run (A_zz45) N (codeAt Try.f133 [1, 1, 0, 1, 0, 0])) n ([.val (.sl (.sl .bool)) .i o0, .u, .u, .val (.sl (.sl .bool)) (.o (.o .i)) d3, .u, .u, .u, .u, .u, .u, .val I .i t10, .val I .i t11] ++ List.replicate 23 .u) K
noncomputable def zz45_R6 (N n : Nat) (K : Ex → St → Option (Y5 × Unit)) (o0 : Y5) (d3 : Y5) (x4 : Int) (t10 : Int) (t11 : Int) (t15 : Int) (t16 : Int) : Option (Y5 × Unit) := iter ((A_zz45).shape 12) (run (A_zz45) N (codeAt Try.f133 [1, 1, 0, 1, 0, 0, 1, 1, 0, 0, 1, 1, 0, 0])) n ([.val (.sl (.sl .bool)) .i o0, .u, .u, .val (.sl (.sl .bool)) (.o (.o .i)) d3, .val I .i x4, .u, .u, .u, .u, .u, .val I .i t10, .val I .i t11, .u, .u, .u, .val I .i t15, .val I .i t16] ++ List.replicate 18 .u) K
noncomputable abbrev zz45_z : Ex → St → Option (Y5 × Unit) := finish (A_zz45) S_zz45 Try.f133.results.toList
noncomputable abbrev zz45_X3 (kX : St → Option (Y5 × Unit)) : Y5 → Option (Y5 × Unit) := fun (d3 : Y5) => kX ([.u, .u, .u, .val (.sl (.sl .bool)) (.o (.o .i)) d3] ++ List.replicate 31 .u)
noncomputable abbrev zz45_E3 (kX : St → Option (Y5 × Unit)) (kO : Nat → St → Option (Y5 × Unit)) : Ex → St → Option (Y5 × Unit) := exK zz45_z 0 ((A_zz45).shape 23) kX kO
noncomputable abbrev zz45_X6 (kX : St → Option (Y5 × Unit)) : Y5 → Y5 → Int → Int → Option (Y5 × Unit) := fun (o0 : Y5) (d3 : Y5) (t10 : Int) (t11 : Int) => kX ([.val (.sl (.sl .bool)) .i o0, .u, .u, .val (.sl (.sl .bool)) (.o (.o .i)) d3, .u, .u, .u, .u, .u, .u, .val I .i t10, .val I .i t11] ++ List.replicate 23 .u)
noncomputable abbrev zz45_E6 (kX : St → Option (Y5 × Unit)) (kO : Nat → St → Option (Y5 × Unit)) : Ex → St → Option (Y5 × Unit) := exK zz45_z 2 ((A_zz45).shape 21) kX kO
theorem zz45_step6 (N : Nat) (m : Nat) (kX : St → Option (Y5 × Unit)) (kO : Nat → St → Option (Y5 × Unit)) (o0 : Y5) (d3 : Y5) (x4 : Int) (t10 : Int) (t11 : Int) (t15 : Int) (t16 : Int) : zz45_R6 N (m + 1) (zz45_E6 kX kO) o0 d3 x4 t10 t11 t15 t16 = zz45_b6 (zz45_R6 N m (zz45_E6 kX kO)) (zz45_X6 kX) o0 d3 x4 t10 t11 t15 t16 := by kernel_rfl
theorem zz45_iter6 (N : Nat) (kX : St → Option (Y5 × Unit)) (kO : Nat → St → Option (Y5 × Unit)) : ∀ (n : Nat) (o0 : Y5) (d3 : Y5) (x4 : Int) (t10 : Int) (t11 : Int) (t15 : Int) (t16 : Int), zz45_R6 N n (zz45_E6 kX kO) o0 d3 x4 t10 t11 t15 t16 = zz45_l6 N (zz45_X6 kX) n o0 d3 x4 t10 t11 t15 t16
  | 0, _, _, _, _, _, _, _ => rfl
  | m + 1, o0, d3, x4, t10, t11, t15, t16 => by
    have hrec : zz45_R6 N m (zz45_E6 kX kO) = (zz45_l6 N (zz45_X6 kX) m) := (funext fun o0 => (funext fun d3 => (funext fun x4 => (funext fun t10 => (funext fun t11 => (funext fun t15 => (funext fun t16 => zz45_iter6 N kX kO m o0 d3 x4 t10 t11 t15 t16)))))))
    refine (zz45_step6 N m kX kO o0 d3 x4 t10 t11 t15 t16).trans ?_
    rw [hrec]
    rfl
noncomputable abbrev zz45_K6 (N : Nat) (m : Nat) (kX : St → Option (Y5 × Unit)) (kO : Nat → St → Option (Y5 × Unit)) : Ex → St → Option (Y5 × Unit) := (blockK 2 (blockK 1 (seqK ((A_zz45).shape 21) (run (A_zz45) N (codeAt Try.f133 [1, 1, 0, 1, 0, 0, 1, 1, 1])) (iterK ((A_zz45).shape 6) (run (A_zz45) N (codeAt Try.f133 [1, 1, 0, 1, 0, 0])) m (zz45_E3 kX kO)))))
noncomputable abbrev zz45_k6 (N : Nat) (m : Nat) (kX : St → Option (Y5 × Unit)) (kO : Nat → St → Option (Y5 × Unit)) : St → Option (Y5 × Unit) := fun st' => run (A_zz45) N (codeAt Try.f133 [1, 1, 0, 1, 0, 0, 1, 1, 1]) st' (iterK ((A_zz45).shape 6) (run (A_zz45) N (codeAt Try.f133 [1, 1, 0, 1, 0, 0])) m (zz45_E3 kX kO))
theorem zz45_after6 (N : Nat) (m : Nat) (kX : St → Option (Y5 × Unit)) (kO : Nat → St → Option (Y5 × Unit)) (o0 : Y5) (d3 : Y5) (t10 : Int) (t11 : Int) : zz45_X6 (zz45_k6 N m kX kO) o0 d3 t10 t11 = zz45_a6 (zz45_R3 N m (zz45_E3 kX kO)) o0 d3 t10 t11 := by kernel_rfl
theorem zz45_in6 (N : Nat) (m : Nat) (kX : St → Option (Y5 × Unit)) (kO : Nat → St → Option (Y5 × Unit)) (recF : Y5 → Y5 → Int → Int → Option (Y5 × Unit)) (hrec : zz45_R3 N m (zz45_E3 kX kO) = recF) (o0 : Y5) (d3 : Y5) (x4 : Int) (t10 : Int) (t11 : Int) (t15 : Int) (t16 : Int) : zz45_R6 N N (zz45_K6 N m kX kO) o0 d3 x4 t10 t11 t15 t16 = zz45_F6 N recF (zz45_X3 kX) o0 d3 x4 t10 t11 t15 t16 :=
  have h : zz45_X6 (zz45_k6 N m kX kO) = (zz45_a6 recF) := (funext fun o0 => (funext fun d3 => (funext fun t10 => (funext fun t11 => (zz45_after6 N m kX kO o0 d3 t10 t11).trans (by rw [hrec])))))
  ((iter_ex (fun st => by kernel_rfl) (fun st => by kernel_rfl)).trans (zz45_iter6 N (zz45_k6 N m kX kO) (fun j st => (zz45_K6 N m kX kO) (.exit j) st) N o0 d3 x4 t10 t11 t15 t16)).trans (congrArg (fun k => zz45_l6 N k N o0 d3 x4 t10 t11 t15 t16) h)
theorem zz45_step3 (N : Nat) (m : Nat) (kX : St → Option (Y5 × Unit)) (kO : Nat → St → Option (Y5 × Unit)) (o0 : Y5) (d3 : Y5) (t10 : Int) (t11 : Int) : zz45_R3 N (m + 1) (zz45_E3 kX kO) o0 d3 t10 t11 = zz45_b3 (zz45_R6 N N (zz45_K6 N m kX kO)) (zz45_X3 kX) o0 d3 t10 t11 := by kernel_rfl
theorem zz45_iter3 (N : Nat) (kX : St → Option (Y5 × Unit)) (kO : Nat → St → Option (Y5 × Unit)) : ∀ (n : Nat) (o0 : Y5) (d3 : Y5) (t10 : Int) (t11 : Int), zz45_R3 N n (zz45_E3 kX kO) o0 d3 t10 t11 = zz45_l3 N (zz45_X3 kX) n o0 d3 t10 t11
  | 0, _, _, _, _ => rfl
  | m + 1, o0, d3, t10, t11 => by
    have hrec : zz45_R3 N m (zz45_E3 kX kO) = (zz45_l3 N (zz45_X3 kX) m) := (funext fun o0 => (funext fun d3 => (funext fun t10 => (funext fun t11 => zz45_iter3 N kX kO m o0 d3 t10 t11))))
    refine (zz45_step3 N m kX kO o0 d3 t10 t11).trans ?_
    rw [(funext fun o0 => (funext fun d3 => (funext fun x4 => (funext fun t10 => (funext fun t11 => (funext fun t15 => (funext fun t16 => zz45_in6 N m kX kO (zz45_l3 N (zz45_X3 kX) m) hrec o0 d3 x4 t10 t11 t15 t16)))))))]
    rfl
noncomputable abbrev zz45_K3 (N : Nat) : Ex → St → Option (Y5 × Unit) := (blockK 0 (seqK ((A_zz45).shape 23) (run (A_zz45) N (codeAt Try.f133 [1, 1, 1])) zz45_z))
noncomputable abbrev zz45_k3 (N : Nat) : St → Option (Y5 × Unit) := fun st' => run (A_zz45) N (codeAt Try.f133 [1, 1, 1]) st' zz45_z
theorem zz45_after3 (N : Nat) (d3 : Y5) : zz45_X3 (zz45_k3 N) d3 = zz45_a3 d3 := by kernel_rfl
theorem zz45_in3 (N : Nat) (o0 : Y5) (d3 : Y5) (t10 : Int) (t11 : Int) : zz45_R3 N N (zz45_K3 N) o0 d3 t10 t11 = zz45_F3 N o0 d3 t10 t11 :=
  have h : zz45_X3 (zz45_k3 N) = (zz45_a3) := (funext fun d3 => zz45_after3 N d3)
  ((iter_ex (fun st => by kernel_rfl) (fun st => by kernel_rfl)).trans (zz45_iter3 N (zz45_k3 N) (fun j st => (zz45_K3 N) (.exit j) st) N o0 d3 t10 t11)).trans (congrArg (fun k => zz45_l3 N k N o0 d3 t10 t11) h)
theorem run0_zz45 (N : Nat) (x : (S_zz45).a.den) : runF (A_zz45) N Try.f133 S_zz45 x = (zz45_s (zz45_R3 N N (zz45_K3 N)) x.1) := by kernel_rfl
theorem run_zz45 (N : Nat) (x : (S_zz45).a.den) : runF (A_zz45) N Try.f133 S_zz45 x = zz45 N x.1 := by
  refine (run0_zz45 N x).trans ?_
  rw [(funext fun o0 => (funext fun d3 => (funext fun t10 => (funext fun t11 => zz45_in3 N o0 d3 t10 t11))))]
  rfl
theorem fn_zz45 : FnOk Try.prog 133 := ⟨_, Try.func133, by kernel_rfl, by kernel_rfl⟩
theorem good_zz45 : Gx.Good Try.prog 133 S_zz45 := good_of_run Try.func133 (of_decide_eq_true (by kernel_rfl)) fun x r h => ⟨A_zz45, big, mkCfg_ok tabOk, mkCfg_sigs (show SigsOk Try.prog [(67, S_zz36)] from ⟨⟨fn_zz36, good_zz36⟩, trivial⟩), (run_zz45 big x).trans h⟩

/-! zz46 -/
def zz46_s (p_0 : Y2) : Option ((Y1 × (Bool × Unit)) × Unit) :=
  (zz40 big p_0).bind fun rq1 =>
  cond (!((((), rq1.1.2).2).1))
  (some ((none, false, ()), (())))
  (cond (decide ((rq1.1.1.length : Int) = (0 : Int)))
  (some ((none, false, ()), (())))
  ((zz44 big rq1.1.1).bind fun rq2 =>
  (zz45 big rq1.1.1).bind fun rq3 =>
  (zz44 big rq3.1).bind fun rq4 =>
  cond ((((), rq2.1.2).2).1)
  (some ((some (rq1.1.1, (rq2.1.1, (rq4.1.1, ()))), (((), rq4.1.2).2).1, ()), (())))
  (some ((some (rq1.1.1, (rq2.1.1, (rq4.1.1, ()))), false, ()), (())))))
def zz46 (p_0 : Y2) : Option ((Y1 × (Bool × Unit)) × Unit) := zz46_s p_0
def S_zz46 : Sig := { a := (.pair (.pair (.sl (.sl I)) .unit) .unit), md := [0], mf := [], m := .unit, r := (.tup (.pair (.opt (.pair (.sl (.sl .bool)) (.pair (.sl (.sl I)) (.pair (.sl (.sl I)) .unit)))) (.pair .bool .unit))), rf := .i, f := fun x => zz46 x.1 }
def A_zz46 : Cfg := mkCfg tab [(131, S_zz40), (132, S_zz44), (133, S_zz45)] []
theorem run_zz46 (N : Nat) (x : (S_zz46).a.den) : runF (A_zz46) N Try.f91 S_zz46 x = zz46 x.1 := by kernel_rfl
theorem fn_zz46 : FnOk Try.prog 91 := ⟨_, Try.func91, by kernel_rfl, by kernel_rfl⟩
theorem good_zz46 : Gx.Good Try.prog 91 S_zz46 := good_of_run Try.func91 (of_decide_eq_true (by kernel_rfl)) fun x r h => ⟨A_zz46, big, mkCfg_ok tabOk, mkCfg_sigs (show SigsOk Try.prog [(131, S_zz40), (132, S_zz44), (133, S_zz45)] from ⟨⟨fn_zz40, good_zz40⟩, ⟨fn_zz44, good_zz44⟩, ⟨fn_zz45, good_zz45⟩, trivial⟩), (run_zz46 big x).trans h⟩

/-! zz47 -/
def zz47_s (p_0 : Y2) : Option ((Y1 × (Bool × Unit)) × Unit) :=
  (zz46 p_0).bind fun rq1 =>
  cond rq1.1.2.1
  ((rq1.1.1).bind fun xq2 =>
  some ((rq1.1.1, decide ((xq2.1.length : Int) ≤ (8 : Int)), ()), (())))
  (some ((rq1.1.1, false, ()), (())))
def zz47 (p_0 : Y2) : Option ((Y1 × (Bool × Unit)) × Unit) := zz47_s p_0
def S_zz47 : Sig := { a := (.pair (.pair (.sl (.sl I)) .unit) .unit), md := [0], mf := [], m := .unit, r := (.tup (.pair (.opt (.pair (.sl (.sl .bool)) (.pair (.sl (.sl I)) (.pair (.sl (.sl I)) .unit)))) (.pair .bool .unit))), rf := .i, f := fun x => zz47 x.1 }
def A_zz47 : Cfg := mkCfg tab [(91, S_zz46)] []
theorem run_zz47 (N : Nat) (x : (S_zz47).a.den) : runF (A_zz47) N Try.f51 S_zz47 x = zz47 x.1 := by kernel_rfl
theorem fn_zz47 : FnOk Try.prog 51 := ⟨_, Try.func51, by kernel_rfl, by kernel_rfl⟩
theorem good_zz47 : Gx.Good Try.prog 51 S_zz47 := good_of_run Try.func51 (of_decide_eq_true (by kernel_rfl)) fun x r h => ⟨A_zz47, big, mkCfg_ok tabOk, mkCfg_sigs (show SigsOk Try.prog [(91, S_zz46)] from ⟨⟨fn_zz46, good_zz46⟩, trivial⟩), (run_zz47 big x).trans h⟩

/-! zz48 -/
def zz48_b3 (rec : Y6 → Y6 → Y3 → Int → Int → Option (Y6 × Unit)) (k : Y6 → Y6 → Option (Y6 × Unit)) (t2 : Y6) (f3 : Y6) (t7 : Y3) (t8 : Int) (t9 : Int) : Option (Y6 × Unit) :=
  cond (decide (t9 < t8))
  ((atI t7 t9).bind fun xq1 =>
  (appI f3.2.1 xq1).bind fun xq2 =>
  rec t2 ((f3.1, ((), f3.2.2)).1, (xq2, ((f3.1, ((), f3.2.2)).2).2)) t7 t8 (IntKind.i64.wrap (t9 + (1 : Int))))
  (k t2 f3)
def zz48_a3 (t2 : Y6) (f3 : Y6) : Option (Y6 × Unit) :=
  some (f3, (()))
def zz48_s (L3 : Y6 → Y6 → Y3 → Int → Int → Option (Y6 × Unit)) (table_0 : Y3) : Option (Y6 × Unit) :=
  L3 ((0 : Int), (([] : Y4), ())) ((2 : Int), (([] : Y4), ())) table_0 (table_0.length : Int) (0 : Int)
def zz48_l3 (N : Nat) (k : Y6 → Y6 → Option (Y6 × Unit)) : Nat → Y6 → Y6 → Y3 → Int → Int → Option (Y6 × Unit)
  | 0, _, _, _, _, _ => none
  | m + 1, t2, f3, t7, t8, t9 => zz48_b3 (zz48_l3 N k m) k t2 f3 t7 t8 t9
def zz48_F3 (N : Nat) (t2 : Y6) (f3 : Y6) (t7 : Y3) (t8 : Int) (t9 : Int) : Option (Y6 × Unit) := zz48_l3 N (zz48_a3) N t2 f3 t7 t8 t9
def zz48 (N : Nat) (table_0 : Y3) : Option (Y6 × Unit) := zz48_s (zz48_F3 N) table_0
def S_zz48 : Sig := { a := (.pair (.sl (.sl I)) .unit), md := [0], mf := [], m := .unit, r := (.pair I (.pair (.sl I) .unit)), rf := (.p .i (.p (.o .i) .i)), f := fun x => zz48 big x.1 }
def A_zz48 : Cfg := mkCfg tab [] [(6, [.drop, .drop, .as (.ptr (.pair I (.pair (.sl I) .unit))) (.o (.p .i (.p (.o .i) .i))), .as (.ptr (.pair I (.pair (.sl I) .unit))) (.o (.p .i (.p (.o .i) .i))), .drop, .drop, .drop, .as (.sl (.sl I)) .i, .as I .i, .as I .i]), (15, [.drop, .drop, .as (.ptr (.pair I (.pair (.sl I) .unit))) (.o (.p .i (.p (.o .i) .i))), .as (.ptr (.pair I (.pair (.sl I) .unit))) (.o (.p .i (.p (.o .i) .i)))])]
noncomputable def zz48_R3 (N n : Nat) (K : Ex → St → Option (Y6 × Unit)) (t2 : Y6) (f3 : Y6) (t7 : Y3) (t8 : Int) (t9 : Int) : Option (Y6 × Unit) := iter ((A_zz48).shape 6) (run (A_zz48) N (codeAt Try.f86 [1, 1, 0, 1, 0, 0])) n ([.u, .u, .val (.ptr (.pair I (.pair (.sl I) .unit))) (.o (.p .i (.p (.o .i) .i))) t2, .val (.ptr (.pair I (.pair (.sl I) .unit))) (.o (.p .i (.p (.o .i) .i))) f3, .u, .u, .u, .val (.sl (.sl I)) .i t7, .val I .i t8, .val I .i t9] ++ List.replicate 10 .u) K
noncomputable abbrev zz48_z : Ex → St → Option (Y6 × Unit) := finish (A_zz48) S_zz48 Try.f86.results.toList
noncomputable abbrev zz48_X3 (kX : St → Option (Y6 × Unit)) : Y6 → Y6 → Option (Y6 × Unit) := fun (t2 : Y6) (f3 : Y6) => kX ([.u, .u, .val (.ptr (.pair I (.pair (.sl I) .unit))) (.o (.p .i (.p (.o .i) .i))) t2, .val (.ptr (.pair I (.pair (.sl I) .unit))) (.o (.p .i (.p (.o .i) .i))) f3] ++ List.replicate 16 .u)
noncomputable abbrev zz48_E3 (kX : St → Option (Y6 × Unit)) (kO : Nat → St → Option (Y6 × Unit)) : Ex → St → Option (Y6 × Unit) := exK zz48_z 0 ((A_zz48).shape 15) kX kO
theorem zz48_step3 (N : Nat) (m : Nat) (kX : St → Option (Y6 × Unit)) (kO : Nat → St → Option (Y6 × Unit)) (t2 : Y6) (f3 : Y6) (t7 : Y3) (t8 : Int) (t9 : Int) : zz48_R3 N (m + 1) (zz48_E3 kX kO) t2 f3 t7 t8 t9 = zz48_b3 (zz48_R3 N m (zz48_E3 kX kO)) (zz48_X3 kX) t2 f3 t7 t8 t9 := by kernel_rfl
theorem zz48_iter3 (N : Nat) (kX : St → Option (Y6 × Unit)) (kO : Nat → St → Option (Y6 × Unit)) : ∀ (n : Nat) (t2 : Y6) (f3 : Y6) (t7 : Y3) (t8 : Int) (t9 : Int), zz48_R3 N n (zz48_E3 kX kO) t2 f3 t7 t8 t9 = zz48_l3 N (zz48_X3 kX) n t2 f3 t7 t8 t9
  | 0, _, _, _, _, _ => rfl
  | m + 1, t2, f3, t7, t8, t9 => by
    have hrec : zz48_R3 N m (zz48_E3 kX kO) = (zz48_l3 N (zz48_X3 kX) m) := (funext fun t2 => (funext fun f3 => (funext fun t7 => (funext fun t8 => (funext fun t9 => zz48_iter3 N kX kO m t2 f3 t7 t8 t9)))))
    refine (zz48_step3 N m kX kO t2 f3 t7 t8 t9).trans ?_
    rw [hrec]
    rfl
noncomputable abbrev zz48_K3 (N : Nat) : Ex → St → Option (Y6 × Unit) := (blockK 0 (seqK ((A_zz48).shape 15) (run (A_zz48) N (codeAt Try.f86 [1, 1, 1])) zz48_z))
noncomputable abbrev zz48_k3 (N : Nat) : St → Option (Y6 × Unit) := fun st' => run (A_zz48) N (codeAt Try.f86 [1, 1, 1]) st' zz48_z
theorem zz48_after3 (N : Nat) (t2 : Y6) (f3 : Y6) : zz48_X3 (zz48_k3 N) t2 f3 = zz48_a3 t2 f3 := by kernel_rfl
theorem zz48_in3 (N : Nat) (t2 : Y6) (f3 : Y6) (t7 : Y3) (t8 : Int) (t9 : Int) : zz48_R3 N N (zz48_K3 N) t2 f3 t7 t8 t9 = zz48_F3 N t2 f3 t7 t8 t9 :=
  have h : zz48_X3 (zz48_k3 N) = (zz48_a3) := (funext fun t2 => (funext fun f3 => zz48_after3 N t2 f3))
  ((iter_ex (fun st => by kernel_rfl) (fun st => by kernel_rfl)).trans (zz48_iter3 N (zz48_k3 N) (fun j st => (zz48_K3 N) (.exit j) st) N t2 f3 t7 t8 t9)).trans (congrArg (fun k => zz48_l3 N k N t2 f3 t7 t8 t9) h)
theorem run0_zz48 (N : Nat) (x : (S_zz48).a.den) : runF (A_zz48) N Try.f86 S_zz48 x = (zz48_s (zz48_R3 N N (zz48_K3 N)) x.1) := by kernel_rfl
theorem run_zz48 (N : Nat) (x : (S_zz48).a.den) : runF (A_zz48) N Try.f86 S_zz48 x = zz48 N x.1 := by
  refine (run0_zz48 N x).trans ?_
  rw [(funext fun t2 => (funext fun f3 => (funext fun t7 => (funext fun t8 => (funext fun t9 => zz48_in3 N t2 f3 t7 t8 t9)))))]
  rfl
theorem fn_zz48 : FnOk Try.prog 86 := ⟨_, Try.func86, by kernel_rfl, by kernel_rfl⟩
theorem good_zz48 : Gx.Good Try.prog 86 S_zz48 := good_of_run Try.func86 (of_decide_eq_true (by kernel_rfl)) fun x r h => ⟨A_zz48, big, mkCfg_ok tabOk, mkCfg_sigs (show SigsOk Try.prog [] from trivial), (run_zz48 big x).trans h⟩

/-! zz49 -/
def zz49_s (l_0 : Y1) : Option (Y7 × Unit) :=
  (l_0).bind fun xq1 =>
  (l_0).bind fun xq2 =>
  (zz48 big xq2.2.1).bind fun rq3 =>
  (l_0).bind fun xq4 =>
  (zz48 big xq4.2.2.1).bind fun rq5 =>
  some (((xq1.1.length : Int), ([rq3.1, rq5.1], ())), (()))
def zz49 (l_0 : Y1) : Option (Y7 × Unit) := zz49_s l_0
def S_zz49 : Sig := { a := (.pair (.opt (.pair (.sl (.sl .bool)) (.pair (.sl (.sl I)) (.pair (.sl (.sl I)) .unit)))) .unit), md := [0], mf := [], m := .unit, r := (.pair I (.pair (.sl (.pair I (.pair (.sl I) .unit))) .unit)), rf := (.p .i (.p (.o (.p .i (.p (.o .i) .i))) .i)), f := fun x => zz49 x.1 }
def A_zz49 : Cfg := mkCfg tab [(86, S_zz48)] []
theorem run_zz49 (N : Nat) (x : (S_zz49).a.den) : runF (A_zz49) N Try.f59 S_zz49 x = zz49 x.1 := by kernel_rfl
theorem fn_zz49 : FnOk Try.prog 59 := ⟨_, Try.func59, by kernel_rfl, by kernel_rfl⟩
theorem good_zz49 : Gx.Good Try.prog 59 S_zz49 := good_of_run Try.func59 (of_decide_eq_true (by kernel_rfl)) fun x r h => ⟨A_zz49, big, mkCfg_ok tabOk, mkCfg_sigs (show SigsOk Try.prog [(86, S_zz48)] from ⟨⟨fn_zz48, good_zz48⟩, trivial⟩), (run_zz49 big x).trans h⟩

/-! zz50 -/
def zz50_b4 (rec : Y4 → Y4 → Int → Int → Option (Bool × Unit)) (k : Option (Bool × Unit)) (p1 : Y4) (t11 : Y4) (t12 : Int) (t13 : Int) : Option (Bool × Unit) :=
  cond (decide (t13 < t12))
  ((atI t11 t13).bind fun xq1 =>
  cond (decide (xq1 < (0 : Int)))
  (some (false, (())))
  (cond (decide (t13 < xq1))
  (some (false, (())))
  ((atI p1 xq1).bind fun xq2 =>
  cond (decide (xq2 ≠ xq1))
  (some (false, (())))
  (rec p1 t11 t12 (IntKind.i64.wrap (t13 + (1 : Int)))))))
  (k)
def zz50_a4 : Option (Bool × Unit) :=
  some (true, (()))
def zz50_s (L4 : Y4 → Y4 → Int → Int → Option (Bool × Unit)) (n_0 : Int) (p_1 : Y4) : Option (Bool × Unit) :=
  cond (decide ((p_1.length : Int) ≠ n_0))
  (some (false, (())))
  (L4 p_1 p_1 (p_1.length : Int) (0 : Int))
def zz50_l4 (N : Nat) (k : Option (Bool × Unit)) : Nat → Y4 → Y4 → Int → Int → Option (Bool × Unit)
  | 0, _, _, _, _ => none
  | m + 1, p1, t11, t12, t13 => zz50_b4 (zz50_l4 N k m) k p1 t11 t12 t13
def zz50_F4 (N : Nat) (p1 : Y4) (t11 : Y4) (t12 : Int) (t13 : Int) : Option (Bool × Unit) := zz50_l4 N (zz50_a4) N p1 t11 t12 t13
def zz50 (N : Nat) (n_0 : Int) (p_1 : Y4) : Option (Bool × Unit) := zz50_s (zz50_F4 N) n_0 p_1
def S_zz50 : Sig := { a := (.pair I (.pair (.sl I) .unit)), md := [0, 0], mf := [], m := .unit, r := .bool, rf := .i, f := fun x => zz50 big x.1 x.2.1 }
def A_zz50 : Cfg := mkCfg tab [] [(8, [.drop, .as (.sl I) .i, .drop, .drop, .drop, .drop, .drop, .drop, .drop, .drop, .drop, .as (.sl I) .i, .as I .i, .as I .i]), (19, [])]
noncomputable def zz50_R4 (N n : Nat) (K : Ex → St → Option (Bool × Unit)) (p1 : Y4) (t11 : Y4) (t12 : Int) (t13 : Int) : Option (Bool × Unit) := iter ((A_zz50).shape 8) (run (A_zz50) N (codeAt Try.f99 [1, 1, 0, 1, 0, 0])) n ([.u, .val (.sl I) .i p1, .u, .u, .u, .u, .u, .u, .u, .u, .u, .val (.sl I) .i t11, .val I .i t12, .val I .i t13] ++ List.replicate 20 .u) K
noncomputable abbrev zz50_z : Ex → St → Option (Bool × Unit) := finish (A_zz50) S_zz50 Try.f99.results.toList
noncomputable abbrev zz50_X4 (kX : St → Option (Bool × Unit)) : Option (Bool × Unit) := kX ([] ++ List.replicate 34 .u)
noncomputable abbrev zz50_E4 (kX : St → Option (Bool × Unit)) (kO : Nat → St → Option (Bool × Unit)) : Ex → St → Option (Bool × Unit) := exK zz50_z 0 ((A_zz50).shape 19) kX kO
theorem zz50_step4 (N : Nat) (m : Nat) (kX : St → Option (Bool × Unit)) (kO : Nat → St → Option (Bool × Unit)) (p1 : Y4) (t11 : Y4) (t12 : Int) (t13 : Int) : zz50_R4 N (m + 1) (zz50_E4 kX kO) p1 t11 t12 t13 = zz50_b4 (zz50_R4 N m (zz50_E4 kX kO)) (zz50_X4 kX) p1 t11 t12 t13 := by kernel_rfl
theorem zz50_iter4 (N : Nat) (kX : St → Option (Bool × Unit)) (kO : Nat → St → Option (Bool × Unit)) : ∀ (n : Nat) (p1 : Y4) (t11 : Y4) (t12 : Int) (t13 : Int), zz50_R4 N n (zz50_E4 kX kO) p1 t11 t12 t13 = zz50_l4 N (zz50_X4 kX) n p1 t11 t12 t13
  | 0, _, _, _, _ => rfl
  | m + 1, p1, t11, t12, t13 => by
    have hrec : zz50_R4 N m (zz50_E4 kX kO) = (zz50_l4 N (zz50_X4 kX) m) := (funext fun p1 => (funext fun t11 => (funext fun t12 => (funext fun t13 => zz50_iter4 N kX kO m p1 t11 t12 t13))))
    refine (zz50_step4 N m kX kO p1 t11 t12 t13).trans ?_
    rw [hrec]
    rfl
noncomputable abbrev zz50_K4 (N : Nat) : Ex → St → Option (Bool × Unit) := (blockK 0 (seqK ((A_zz50).shape 19) (run (A_zz50) N (codeAt Try.f99 [1, 1, 1])) zz50_z))
noncomputable abbrev zz50_k4 (N : Nat) : St → Option (Bool × Unit) := fun st' => run (A_zz50) N (codeAt Try.f99 [1, 1, 1]) st' zz50_z
theorem zz50_after4 (N : Nat) : zz50_X4 (zz50_k4 N) = zz50_a4 := by kernel_rfl
theorem zz50_in4 (N : Nat) (p1 : Y4) (t11 : Y4) (t12 : Int) (t13 : Int) : zz50_R4 N N (zz50_K4 N) p1 t11 t12 t13 = zz50_F4 N p1 t11 t12 t13 :=
  have h : zz50_X4 (zz50_k4 N) = (zz50_a4) := zz50_after4 N
  ((iter_ex (fun st => by kernel_rfl) (fun st => by kernel_rfl)).trans (zz50_iter4 N (zz50_k4 N) (fun j st => (zz50_K4 N) (.exit j) st) N p1 t11 t12 t13)).trans (congrArg (fun k => zz50_l4 N k N p1 t11 t12 t13) h)
theorem run0_zz50 (N : Nat) (x : (S_zz50).a.den) : runF (A_zz50) N Try.f99 S_zz50 x = (zz50_s (zz50_R4 N N (zz50_K4 N)) x.1 x.2.1) := by kernel_rfl
theorem run_zz50 (N : Nat) (x : (S_zz50).a.den) : runF (A_zz50) N Try.f99 S_zz50 x = zz50 N x.1 x.2.1 := by
  refine (run0_zz50 N x).trans ?_
  rw [(funext fun p1 => (funext fun t11 => (funext fun t12 => (funext fun t13 => zz50_in4 N p1 t11 t12 t13))))]
  rfl
theorem fn_zz50 : FnOk Try.prog 99 := ⟨_, Try.func99, by kernel_rfl, by kernel_rfl⟩
theorem good_zz50 : Gx.Good Try.prog 99 S_zz50 := good_of_run Try.func99 (of_decide_eq_true (by kernel_rfl)) fun x r h => ⟨A_zz50, big, mkCfg_ok tabOk, mkCfg_sigs (show SigsOk Try.prog [] from trivial), (run_zz50 big x).trans h⟩

/-! zz51 -/
def zz51_s (list_0 : Y4) : Option (Y4 × Unit) :=
  (appI [] list_0).bind fun xq1 =>
  some (xq1, (()))
def zz51 (list_0 : Y4) : Option (Y4 × Unit) := zz51_s list_0
def S_zz51 : Sig := { a := (.pair (.sl I) .unit), md := [0], mf := [], m := .unit, r := (.sl I), rf := (.o .i), f := fun x => zz51 x.1 }
def A_zz51 : Cfg := mkCfg tab [] []
theorem run_zz51 (N : Nat) (x : (S_zz51).a.den) : runF (A_zz51) N Try.f101 S_zz51 x = zz51 x.1 := by kernel_rfl
theorem fn_zz51 : FnOk Try.prog 101 := ⟨_, Try.func101, by kernel_rfl, by kernel_rfl⟩
theorem good_zz51 : Gx.Good Try.prog 101 S_zz51 := good_of_run Try.func101 (of_decide_eq_true (by kernel_rfl)) fun x r h => ⟨A_zz51, big, mkCfg_ok tabOk, mkCfg_sigs (show SigsOk Try.prog [] from trivial), (run_zz51 big x).trans h⟩

/-! zz52 -/
def zz52_b7 (rec : Y4 → Int → Int → Int → Int → Option (Bool × (Y4 × Unit))) (k : Y4 → Option (Bool × (Y4 × Unit))) (p0 : Y4) (x1 : Int) (y2 : Int) (t25 : Int) (t26 : Int) : Option (Bool × (Y4 × Unit)) :=
  cond (decide (t26 < t25))
  ((atI p0 t26).bind fun _ =>
  (p0[t26.toNat]?).bind fun xq3 =>
  cond (decide (xq3 = y2))
  ((atI p0 t26).bind fun _ =>
  (p0[t26.toNat]?).bind fun xq4 =>
  rec (p0.set t26.toNat x1) x1 y2 t25 (IntKind.i64.wrap (t26 + (1 : Int))))
  (rec p0 x1 y2 t25 (IntKind.i64.wrap (t26 + (1 : Int)))))
  (k p0)
def zz52_a7 (p0 : Y4) : Option (Bool × (Y4 × Unit)) :=
  some (true, (p0, ()))
def zz52_s (L7 : Y4 → Int → Int → Int → Int → Option (Bool × (Y4 × Unit))) (p_0 : Y4) (x_1 : Int) (y_2 : Int) : Option (Bool × (Y4 × Unit)) :=
  (atI p_0 x_1).bind fun _ =>
  (p_0[x_1.toNat]?).bind fun xq1 =>
  (atI p_0 y_2).bind fun _ =>
  (p_0[y_2.toNat]?).bind fun xq2 =>
  cond (decide (xq1 = xq2))
  (some (false, (p_0, ())))
  (cond (decide (xq2 < xq1))
  (L7 p_0 xq2 xq1 (p_0.length : Int) (0 : Int))
  (L7 p_0 xq1 xq2 (p_0.length : Int) (0 : Int)))
def zz52_l7 (N : Nat) (k : Y4 → Option (Bool × (Y4 × Unit))) : Nat → Y4 → Int → Int → Int → Int → Option (Bool × (Y4 × Unit))
  | 0, _, _, _, _, _ => none
  | m + 1, p0, x1, y2, t25, t26 => zz52_b7 (zz52_l7 N k m) k p0 x1 y2 t25 t26
def zz52_F7 (N : Nat) (p0 : Y4) (x1 : Int) (y2 : Int) (t25 : Int) (t26 : Int) : Option (Bool × (Y4 × Unit)) := zz52_l7 N (zz52_a7) N p0 x1 y2 t25 t26
def zz52 (N : Nat) (p_0 : Y4) (x_1 : Int) (y_2 : Int) : Option (Bool × (Y4 × Unit)) := zz52_s (zz52_F7 N) p_0 x_1 y_2
def S_zz52 : Sig := { a := (.pair (.sl I) (.pair I (.pair I .unit))), md := [1, 0, 0], mf := [(.o .i)], m := (.pair (.sl I) .unit), r := .bool, rf := .i, f := fun x => zz52 big x.1 x.2.1 x.2.2.1 }
def A_zz52 : Cfg := mkCfg tab [] [(14, [.as (.sl I) (.o .i), .as I .i, .as I .i, .drop, .drop, .drop, .drop, .drop, .drop, .drop, .drop, .drop, .drop, .drop, .drop, .drop, .drop, .drop, .drop, .drop, .drop, .drop, .drop, .drop, .drop, .as I .i, .as I .i]), (25, [.as (.sl I) (.o .i)])]
noncomputable def zz52_R7 (N n : Nat) (K : Ex → St → Option (Bool × (Y4 × Unit))) (p0 : Y4) (x1 : Int) (y2 : Int) (t25 : Int) (t26 : Int) : Option (Bool × (Y4 × Unit)) := iter ((A_zz52).shape 14) (run (A_zz52) N (codeAt Try.f140 [1, 1, 1, 1, 0, 1, 0, 0])) n ([.val (.sl I) (.o .i) p0, .val I .i x1, .val I .i y2, .u, .u, .u, .u, .u, .u, .u, .u, .u, .u, .u, .u, .u, .u, .u, .u, .u, .u, .u, .u, .u, .u, .val I .i t25, .val I .i t26] ++ List.replicate 13 .u) K
noncomputable abbrev zz52_z : Ex → St → Option (Bool × (Y4 × Unit)) := finish (A_zz52) S_zz52 Try.f140.results.toList
noncomputable abbrev zz52_X7 (kX : St → Option (Bool × (Y4 × Unit))) : Y4 → Option (Bool × (Y4 × Unit)) := fun (p0 : Y4) => kX ([.val (.sl I) (.o .i) p0] ++ List.replicate 39 .u)
noncomputable abbrev zz52_E7 (kX : St → Option (Bool × (Y4 × Unit))) (kO : Nat → St → Option (Bool × (Y4 × Unit))) : Ex → St → Option (Bool × (Y4 × Unit)) := exK zz52_z 0 ((A_zz52).shape 25) kX kO
theorem zz52_step7 (N : Nat) (m : Nat) (kX : St → Option (Bool × (Y4 × Unit))) (kO : Nat → St → Option (Bool × (Y4 × Unit))) (p0 : Y4) (x1 : Int) (y2 : Int) (t25 : Int) (t26 : Int) : zz52_R7 N (m + 1) (zz52_E7 kX kO) p0 x1 y2 t25 t26 = zz52_b7 (zz52_R7 N m (zz52_E7 kX kO)) (zz52_X7 kX) p0 x1 y2 t25 t26 := by kernel_rfl
theorem zz52_iter7 (N : Nat) (kX : St → Option (Bool × (Y4 × Unit))) (kO : Nat → St → Option (Bool × (Y4 × Unit))) : ∀ (n : Nat) (p0 : Y4) (x1 : Int) (y2 : Int) (t25 : Int) (t26 : Int), zz52_R7 N n (zz52_E7 kX kO) p0 x1 y2 t25 t26 = zz52_l7 N (zz52_X7 kX) n p0 x1 y2 t25 t26
  | 0, _, _, _, _, _ => rfl
  | m + 1, p0, x1, y2, t25, t26 => by
    have hrec : zz52_R7 N m (zz52_E7 kX kO) = (zz52_l7 N (zz52_X7 kX) m) := (funext fun p0 => (funext fun x1 => (funext fun y2 => (funext fun t25 => (funext fun t26 => zz52_iter7 N kX kO m p0 x1 y2 t25 t26)))))
    refine (zz52_step7 N m kX kO p0 x1 y2 t25 t26).trans ?_
    rw [hrec]
    rfl
noncomputable abbrev zz52_K7 (N : Nat) : Ex → St → Option (Bool × (Y4 × Unit)) := (blockK 0 (seqK ((A_zz52).shape 25) (run (A_zz52) N (codeAt Try.f140 [1, 1, 1, 1, 1])) zz52_z))
noncomputable abbrev zz52_k7 (N : Nat) : St → Option (Bool × (Y4 × Unit)) := fun st' => run (A_zz52) N (codeAt Try.f140 [1, 1, 1, 1, 1]) st' zz52_z
theorem zz52_after7 (N : Nat) (p0 : Y4) : zz52_X7 (zz52_k7 N) p0 = zz52_a7 p0 := by kernel_rfl
theorem zz52_in7 (N : Nat) (p0 : Y4) (x1 : Int) (y2 : Int) (t25 : Int) (t26 : Int) : zz52_R7 N N (zz52_K7 N) p0 x1 y2 t25 t26 = zz52_F7 N p0 x1 y2 t25 t26 :=
  have h : zz52_X7 (zz52_k7 N) = (zz52_a7) := (funext fun p0 => zz52_after7 N p0)
  ((iter_ex (fun st => by kernel_rfl) (fun st => by kernel_rfl)).trans (zz52_iter7 N (zz52_k7 N) (fun j st => (zz52_K7 N) (.exit j) st) N p0 x1 y2 t25 t26)).trans (congrArg (fun k => zz52_l7 N k N p0 x1 y2 t25 t26) h)
theorem run0_zz52 (N : Nat) (x : (S_zz52).a.den) : runF (A_zz52) N Try.f140 S_zz52 x = (zz52_s (zz52_R7 N N (zz52_K7 N)) x.1 x.2.1 x.2.2.1) := by kernel_rfl
theorem run_zz52 (N : Nat) (x : (S_zz52).a.den) : runF (A_zz52) N Try.f140 S_zz52 x = zz52 N x.1 x.2.1 x.2.2.1 := by
  refine (run0_zz52 N x).trans ?_
  rw [(funext fun p0 => (funext fun x1 => (funext fun y2 => (funext fun t25 => (funext fun t26 => zz52_in7 N p0 x1 y2 t25 t26)))))]
  rfl
theorem fn_zz52 : FnOk Try.prog 140 := ⟨_, Try.func140, by kernel_rfl, by kernel_rfl⟩
theorem good_zz52 : Gx.Good Try.prog 140 S_zz52 := good_of_run Try.func140 (of_decide_eq_true (by kernel_rfl)) fun x r h => ⟨A_zz52, big, mkCfg_ok tabOk, mkCfg_sigs (show SigsOk Try.prog [] from trivial), (run_zz52 big x).trans h⟩

/-! zz53 -/
def zz53_b13 (rec : Y4 → Y7 → Bool → Bool → Y6 → Int → Int → (List Y6) → Int → Int → Y4 → Int → Int → Option (Bool × (Y4 × Unit))) (k : Y4 → Y7 → Bool → Bool → Y6 → Int → Int → (List Y6) → Int → Int → Option (Bool × (Y4 × Unit))) (p1 : Y4) (a2 : Y7) (was5 : Bool) (changed6 : Bool) (f8 : Y6) (step9 : Int) (k10 : Int) (t16 : (List Y6)) (t17 : Int) (t18 : Int) (t29 : Y4) (t30 : Int) (t31 : Int) : Option (Bool × (Y4 × Unit)) :=
  cond (decide (t31 < t30))
  ((atI t29 t31).bind fun xq2 =>
  (quoI IntKind.i64 t31 step9).bind fun xq3 =>
  (remI xq3 a2.1).bind fun xq4 =>
  (atI p1 xq4).bind fun _ =>
  (p1[xq4.toNat]?).bind fun xq5 =>
  (atI f8.2.1 (IntKind.i64.wrap (t31 + (IntKind.i64.wrap ((IntKind.i64.wrap (xq5 - xq4)) * step9))))).bind fun xq6 =>
  (zz52 big p1 xq2 xq6).bind fun rq7 =>
  cond rq7.1
  (rec rq7.2.1 a2 true true f8 step9 k10 t16 t17 t18 t29 t30 (IntKind.i64.wrap (t31 + (1 : Int))))
  (rec rq7.2.1 a2 was5 changed6 f8 step9 k10 t16 t17 t18 t29 t30 (IntKind.i64.wrap (t31 + (1 : Int)))))
  (k p1 a2 was5 changed6 f8 step9 k10 t16 t17 t18)
def zz53_a13 (rec : Y4 → Y7 → Bool → Bool → Y6 → Int → Int → (List Y6) → Int → Int → Option (Bool × (Y4 × Unit))) (p1 : Y4) (a2 : Y7) (was5 : Bool) (changed6 : Bool) (f8 : Y6) (step9 : Int) (k10 : Int) (t16 : (List Y6)) (t17 : Int) (t18 : Int) : Option (Bool × (Y4 × Unit)) :=
  rec p1 a2 was5 changed6 f8 (IntKind.i64.wrap (step9 * a2.1)) (IntKind.i64.wrap (k10 + (1 : Int))) t16 t17 t18
def zz53_b10 (L13 : Y4 → Y7 → Bool → Bool → Y6 → Int → Int → (List Y6) → Int → Int → Y4 → Int → Int → Option (Bool × (Y4 × Unit))) (k : Y4 → Y7 → Bool → Bool → (List Y6) → Int → Int → Option (Bool × (Y4 × Unit))) (p1 : Y4) (a2 : Y7) (was5 : Bool) (changed6 : Bool) (f8 : Y6) (step9 : Int) (k10 : Int) (t16 : (List Y6)) (t17 : Int) (t18 : Int) : Option (Bool × (Y4 × Unit)) :=
  cond (decide (k10 < f8.1))
  (L13 p1 a2 was5 changed6 f8 step9 k10 t16 t17 t18 f8.2.1 (f8.2.1.length : Int) (0 : Int))
  (k p1 a2 was5 changed6 t16 t17 t18)
def zz53_a10 (rec : Y4 → Y7 → Bool → Bool → (List Y6) → Int → Int → Option (Bool × (Y4 × Unit))) (p1 : Y4) (a2 : Y7) (was5 : Bool) (changed6 : Bool) (t16 : (List Y6)) (t17 : Int) (t18 : Int) : Option (Bool × (Y4 × Unit)) :=
  rec p1 a2 was5 changed6 t16 t17 (IntKind.i64.wrap (t18 + (1 : Int)))
def zz53_b6 (L10 : Y4 → Y7 → Bool → Bool → Y6 → Int → Int → (List Y6) → Int → Int → Option (Bool × (Y4 × Unit))) (k : Y4 → Y7 → Bool → Bool → Option (Bool × (Y4 × Unit))) (p1 : Y4) (a2 : Y7) (was5 : Bool) (changed6 : Bool) (t16 : (List Y6)) (t17 : Int) (t18 : Int) : Option (Bool × (Y4 × Unit)) :=
  cond (decide (t18 < t17))
  ((atI t16 t18).bind fun xq1 =>
  L10 p1 a2 was5 changed6 xq1 (1 : Int) (0 : Int) t16 t17 t18)
  (k p1 a2 was5 changed6)
def zz53_a6 (rec : Y4 → Y7 → Bool → Bool → Option (Bool × (Y4 × Unit))) (p1 : Y4) (a2 : Y7) (was5 : Bool) (changed6 : Bool) : Option (Bool × (Y4 × Unit)) :=
  rec p1 a2 was5 changed6
def zz53_b3 (L6 : Y4 → Y7 → Bool → Bool → (List Y6) → Int → Int → Option (Bool × (Y4 × Unit))) (k : Y4 → Bool → Option (Bool × (Y4 × Unit))) (p1 : Y4) (a2 : Y7) (was5 : Bool) (changed6 : Bool) : Option (Bool × (Y4 × Unit)) :=
  cond changed6
  (L6 p1 a2 was5 false a2.2.1 (a2.2.1.length : Int) (0 : Int))
  (k p1 was5)
def zz53_a3 (p1 : Y4) (was5 : Bool) : Option (Bool × (Y4 × Unit)) :=
  some (was5, (p1, ()))
def zz53_s (L3 : Y4 → Y7 → Bool → Bool → Option (Bool × (Y4 × Unit))) (a_0 : Y7) (p_1 : Y4) : Option (Bool × (Y4 × Unit)) :=
  L3 p_1 a_0 false true
def zz53_l13 (N : Nat) (k : Y4 → Y7 → Bool → Bool → Y6 → Int → Int → (List Y6) → Int → Int → Option (Bool × (Y4 × Unit))) : Nat → Y4 → Y7 → Bool → Bool → Y6 → Int → Int → (List Y6) → Int → Int → Y4 → Int → Int → Option (Bool × (Y4 × Unit))
  | 0, _, _, _, _, _, _, _, _, _, _, _, _, _ => none
  | m + 1, p1, a2, was5, changed6, f8, step9, k10, t16, t17, t18, t29, t30, t31 => zz53_b13 (zz53_l13 N k m) k p1 a2 was5 changed6 f8 step9 k10 t16 t17 t18 t29 t30 t31
def zz53_F13 (N : Nat) (rec : Y4 → Y7 → Bool → Bool → Y6 → Int → Int → (List Y6) → Int → Int → Option (Bool × (Y4 × Unit))) (k : Y4 → Y7 → Bool → Bool → (List Y6) → Int → Int → Option (Bool × (Y4 × Unit))) (p1 : Y4) (a2 : Y7) (was5 : Bool) (changed6 : Bool) (f8 : Y6) (step9 : Int) (k10 : Int) (t16 : (List Y6)) (t17 : Int) (t18 : Int) (t29 : Y4) (t30 : Int) (t31 : Int) : Option (Bool × (Y4 × Unit)) := zz53_l13 N (zz53_a13 rec) N p1 a2 was5 changed6 f8 step9 k10 t16 t17 t18 t29 t30 t31
def zz53_l10 (N : Nat) (k : Y4 → Y7 → Bool → Bool → (List Y6) → Int → Int → Option (Bool × (Y4 × Unit))) : Nat → Y4 → Y7 → Bool → Bool → Y6 → Int → Int → (List Y6) → Int → Int → Option (Bool × (Y4 × Unit))
  | 0, _, _, _, _, _, _, _, _, _, _ => none
  | m + 1, p1, a2, was5, changed6, f8, step9, k10, t16, t17, t18 => zz53_b10 (zz53_F13 N (zz53_l10 N k m) k) k p1 a2 was5 changed6 f8 step9 k10 t16 t17 t18
def zz53_F10 (N : Nat) (rec : Y4 → Y7 → Bool → Bool → (List Y6) → Int → Int → Option (Bool × (Y4 × Unit))) (k : Y4 → Y7 → Bool → Bool → Option (Bool × (Y4 × Unit))) (p1 : Y4) (a2 : Y7) (was5 : Bool) (changed6 : Bool) (f8 : Y6) (step9 : Int) (k10 : Int) (t16 : (List Y6)) (t17 : Int) (t18 : Int) : Option (Bool × (Y4 × Unit)) := zz53_l10 N (zz53_a10 rec) N p1 a2 was5 changed6 f8 step9 k10 t16 t17 t18
def zz53_l6 (N : Nat) (k : Y4 → Y7 → Bool → Bool → Option (Bool × (Y4 × Unit))) : Nat → Y4 → Y7 → Bool → Bool → (List Y6) → Int → Int → Option (Bool × (Y4 × Unit))
  | 0, _, _, _, _, _, _, _ => none
  | m + 1, p1, a2, was5, changed6, t16, t17, t18 => zz53_b6 (zz53_F10 N (zz53_l6 N k m) k) k p1 a2 was5 changed6 t16 t17 t18
def zz53_F6 (N : Nat) (rec : Y4 → Y7 → Bool → Bool → Option (Bool × (Y4 × Unit))) (k : Y4 → Bool → Option (Bool × (Y4 × Unit))) (p1 : Y4) (a2 : Y7) (was5 : Bool) (changed6 : Bool) (t16 : (List Y6)) (t17 : Int) (t18 : Int) : Option (Bool × (Y4 × Unit)) := zz53_l6 N (zz53_a6 rec) N p1 a2 was5 changed6 t16 t17 t18
def zz53_l3 (N : Nat) (k : Y4 → Bool → Option (Bool × (Y4 × Unit))) : Nat → Y4 → Y7 → Bool → Bool → Option (Bool × (Y4 × Unit))
  | 0, _, _, _, _ => none
  | m + 1, p1, a2, was5, changed6 => zz53_b3 (zz53_F6 N (zz53_l3 N k m) k) k p1 a2 was5 changed6
def zz53_F3 (N : Nat) (p1 : Y4) (a2 : Y7) (was5 : Bool) (changed6 : Bool) : Option (Bool × (Y4 × Unit)) := zz53_l3 N (zz53_a3) N p1 a2 was5 changed6
def zz53 (N : Nat) (a_0 : Y7) (p_1 : Y4) : Option (Bool × (Y4 × Unit)) := zz53_s (zz53_F3 N) a_0 p_1
def S_zz53 : Sig := { a := (.pair (.pair I (.pair (.sl (.pair I (.pair (.sl I) .unit))) .unit)) (.pair (.sl I) .unit)), md := [0, 1], mf := [(.o .i)], m := (.pair (.sl I) .unit), r := .bool, rf := .i, f := fun x => zz53 big x.1 x.2.1 }
def A_zz53 : Cfg := mkCfg tab [(140, S_zz52)] [(6, [.drop, .as (.sl I) (.o .i), .as (.ptr (.pair I (.pair (.sl (.pair I (.pair (.sl I) .unit))) .unit))) (.o .i), .drop, .drop, .as .bool .i, .as .bool .i]), (12, [.drop, .as (.sl I) (.o .i), .as (.ptr (.pair I (.pair (.sl (.pair I (.pair (.sl I) .unit))) .unit))) (.o .i), .drop, .drop, .as .bool .i, .as .bool .i, .drop, .drop, .drop, .drop, .drop, .drop, .drop, .drop, .drop, .as (.sl (.pair I (.pair (.sl I) .unit))) .i, .as I .i, .as I .i]), (43, [.drop, .as (.sl I) (.o .i), .drop, .drop, .drop, .as .bool .i]), (20, [.drop, .as (.sl I) (.o .i), .as (.ptr (.pair I (.pair (.sl (.pair I (.pair (.sl I) .unit))) .unit))) (.o .i), .drop, .drop, .as .bool .i, .as .bool .i, .drop, .as (.ptr (.pair I (.pair (.sl I) .unit))) (.o .i), .as I .i, .as I .i, .drop, .drop, .drop, .drop, .drop, .as (.sl (.pair I (.pair (.sl I) .unit))) .i, .as I .i, .as I .i]), (26, [.drop, .as (.sl I) (.o .i), .as (.ptr (.pair I (.pair (.sl (.pair I (.pair (.sl I) .unit))) .unit))) (.o .i), .drop, .drop, .as .bool .i, .as .bool .i, .drop, .as (.ptr (.pair I (.pair (.sl I) .unit))) (.o .i), .as I .i, .as I .i, .drop, .drop, .drop, .drop, .drop, .as (.sl (.pair I (.pair (.sl I) .unit))) .i, .as I .i, .as I .i, .drop, .drop, .drop, .drop, .drop, .drop, .drop, .drop, .drop, .drop, .as (.sl I) .i, .as I .i, .as I .i]), (41, [.drop, .as (.sl I) (.o .i), .as (.ptr (.pair I (.pair (.sl (.pair I (.pair (.sl I) .unit))) .unit))) (.o .i), .drop, .drop, .as .bool .i, .as .bool .i, .drop, .drop, .drop, .drop, .drop, .drop, .drop, .drop, .drop, .as (.sl (.pair I (.pair (.sl I) .unit))) .i, .as I .i, .as I .i]), (39, [.drop, .as (.sl I) (.o .i), .as (.ptr (.pair I (.pair (.sl (.pair I (.pair (.sl I) .unit))) .unit))) (.o .i), .drop, .drop, .as .bool .i, .as .bool .i, .drop, .as (.ptr (.pair I (.pair (.sl I) .unit))) (.o .i), .as I .i, .as I .i, .drop, .drop, .drop, .drop, .drop, .as (.sl (.pair I (.pair (.sl I) .unit))) .i, .as I .i, .as I .i])]
noncomputable def zz53_R3 (N n : Nat) (K : Ex → St → Option (Bool × (Y4 × Unit))) (p1 : Y4) (a2 : Y7) (was5 : Bool) (changed6 : Bool) : Option (Bool × (Y4 × Unit)) := iter ((A_zz53).shape 6) (run (A_zz53) N (codeAt Try.f100 [1, 1, 0, 1, 0, 0])) n ([.u, .val (.sl I) (.o .i) p1, .val (.ptr (.pair I (.pair (.sl (.pair I (.pair (.sl I) .unit))) .unit))) (.o .i) a2, .u, .u, .val .bool .i was5, .val .bool .i changed6] ++ List.replicate 59 .u) K
noncomputable def zz53_R6 (N n : Nat) (K : Ex → St → Option (Bool × (Y4 × Unit))) (p1 : Y4) (a2 : Y7) (was5 : Bool) (changed6 : Bool) (t16 : (List Y6)) (t17 : Int) (t18 : Int) : Option (Bool × (Y4 × Unit)) := iter ((A_zz53).shape 12) (run (A_zz53) N (codeAt Try.f100 [1, 1, 0, 1, 0, 0, 1, 0, 1, 1, 0, 0])) n ([.u, .val (.sl I) (.o .i) p1, .val (.ptr (.pair I (.pair (.sl (.pair I (.pair (.sl I) .unit))) .unit))) (.o .i) a2, .u, .u, .val .bool .i was5, .val .bool .i changed6, .u, .u, .u, .u, .u, .u, .u, .u, .u, .val (.sl (.pair I (.pair (.sl I) .unit))) .i t16, .val I .i t17, .val I .i t18] ++ List.replicate 47 .u) K
noncomputable def zz53_R10 (N n : Nat) (K : Ex → St → Option (Bool × (Y4 × Unit))) (p1 : Y4) (a2 : Y7) (was5 : Bool) (changed6 : Bool) (f8 : Y6) (step9 : Int) (k10 : Int) (t16 : (List Y6)) (t17 : Int) (t18 : Int) : Option (Bool × (Y4 × Unit)) := iter ((A_zz53).shape 20) (run (A_zz53) N (codeAt Try.f100 [1, 1, 0, 1, 0, 0, 1, 0, 1, 1, 0, 0, 1, 1, 0, 0, 1, 1, 1, 0, 0])) n ([.u, .val (.sl I) (.o .i) p1, .val (.ptr (.pair I (.pair (.sl (.pair I (.pair (.sl I) .unit))) .unit))) (.o .i) a2, .u, .u, .val .bool .i was5, .val .bool .i changed6, .u, .val (.ptr (.pair I (.pair (.sl I) .unit))) (.o .i) f8, .val I .i step9, .val I .i k10, .u, .u, .u, .u, .u, .val (.sl (.pair I (.pair (.sl I) .unit))) .i t16, .val I .i t17, .val I .i t18] ++ List.replicate 47 .u) K
noncomputable def zz53_R13 (N n : Nat) (K : Ex → St → Option (Bool × (Y4 × Unit))) (p1 : Y4) (a2 : Y7) (was5 : Bool) (changed6 : Bool) (f8 : Y6) (step9 : Int) (k10 : Int) (t16 : (List Y6)) (t17 : Int) (t18 : Int) (t29 : Y4) (t30 : Int) (t31 : Int) : Option (Bool × (Y4 × Unit)) := iter ((A_zz53).shape 26) (run (A_zz53) N (codeAt Try.f100 [1, 1, 0, 1, 0, 0, 1, 0, 1, 1, 0, 0, 1, 1, 0, 0, 1, 1, 1, 0, 0, 1, 0, 0, 0, 1, 0, 0])) n ([.u, .val (.sl I) (.o .i) p1, .val (.ptr (.pair I (.pair (.sl (.pair I (.pair (.sl I) .unit))) .unit))) (.o .i) a2, .u, .u, .val .bool .i was5, .val .bool .i changed6, .u, .val (.ptr (.pair I (.pair (.sl I) .unit))) (.o .i) f8, .val I .i step9, .val I .i k10, .u, .u, .u, .u, .u, .val (.sl (.pair I (.pair (.sl I) .unit))) .i t16, .val I .i t17, .val I .i t18, .u, .u, .u, .u, .u, .u, .u, .u, .u, .u, .val (.sl I) .i t29, .val I .i t30, .val I .i t31] ++ List.replicate 34 .u) K
noncomputable abbrev zz53_z : Ex → St → Option (Bool × (Y4 × Unit)) := finish (A_zz53) S_zz53 Try.f100.results.toList
noncomputable abbrev zz53_X3 (kX : St → Option (Bool × (Y4 × Unit))) : Y4 → Bool → Option (Bool × (Y4 × Unit)) := fun (p1 : Y4) (was5 : Bool) => kX ([.u, .val (.sl I) (.o .i) p1, .u, .u, .u, .val .bool .i was5] ++ List.replicate 60 .u)
noncomputable abbrev zz53_E3 (kX : St → Option (Bool × (Y4 × Unit))) (kO : Nat → St → Option (Bool × (Y4 × Unit))) : Ex → St → Option (Bool × (Y4 × Unit)) := exK zz53_z 0 ((A_zz53).shape 43) kX kO
noncomputable abbrev zz53_X6 (kX : St → Option (Bool × (Y4 × Unit))) : Y4 → Y7 → Bool → Bool → Option (Bool × (Y4 × Unit)) := fun (p1 : Y4) (a2 : Y7) (was5 : Bool) (changed6 : Bool) => kX ([.u, .val (.sl I) (.o .i) p1, .val (.ptr (.pair I (.pair (.sl (.pair I (.pair (.sl I) .unit))) .unit))) (.o .i) a2, .u, .u, .val .bool .i was5, .val .bool .i changed6] ++ List.replicate 59 .u)
noncomputable abbrev zz53_E6 (kX : St → Option (Bool × (Y4 × Unit))) (kO : Nat → St → Option (Bool × (Y4 × Unit))) : Ex → St → Option (Bool × (Y4 × Unit)) := exK zz53_z 2 ((A_zz53).shape 6) kX kO
noncomputable abbrev zz53_X10 (kX : St → Option (Bool × (Y4 × Unit))) : Y4 → Y7 → Bool → Bool → (List Y6) → Int → Int → Option (Bool × (Y4 × Unit)) := fun (p1 : Y4) (a2 : Y7) (was5 : Bool) (changed6 : Bool) (t16 : (List Y6)) (t17 : Int) (t18 : Int) => kX ([.u, .val (.sl I) (.o .i) p1, .val (.ptr (.pair I (.pair (.sl (.pair I (.pair (.sl I) .unit))) .unit))) (.o .i) a2, .u, .u, .val .bool .i was5, .val .bool .i changed6, .u, .u, .u, .u, .u, .u, .u, .u, .u, .val (.sl (.pair I (.pair (.sl I) .unit))) .i t16, .val I .i t17, .val I .i t18] ++ List.replicate 47 .u)
noncomputable abbrev zz53_E10 (kX : St → Option (Bool × (Y4 × Unit))) (kO : Nat → St → Option (Bool × (Y4 × Unit))) : Ex → St → Option (Bool × (Y4 × Unit)) := exK zz53_z 4 ((A_zz53).shape 41) kX kO
noncomputable abbrev zz53_X13 (kX : St → Option (Bool × (Y4 × Unit))) : Y4 → Y7 → Bool → Bool → Y6 → Int → Int → (List Y6) → Int → Int → Option (Bool × (Y4 × Unit)) := fun (p1 : Y4) (a2 : Y7) (was5 : Bool) (changed6 : Bool) (f8 : Y6) (step9 : Int) (k10 : Int) (t16 : (List Y6)) (t17 : Int) (t18 : Int) => kX ([.u, .val (.sl I) (.o .i) p1, .val (.ptr (.pair I (.pair (.sl (.pair I (.pair (.sl I) .unit))) .unit))) (.o .i) a2, .u, .u, .val .bool .i was5, .val .bool .i changed6, .u, .val (.ptr (.pair I (.pair (.sl I) .unit))) (.o .i) f8, .val I .i step9, .val I .i k10, .u, .u, .u, .u, .u, .val (.sl (.pair I (.pair (.sl I) .unit))) .i t16, .val I .i t17, .val I .i t18] ++ List.replicate 47 .u)
noncomputable abbrev zz53_E13 (kX : St → Option (Bool × (Y4 × Unit))) (kO : Nat → St → Option (Bool × (Y4 × Unit))) : Ex → St → Option (Bool × (Y4 × Unit)) := exK zz53_z 6 ((A_zz53).shape 39) kX kO
theorem zz53_step13 (N : Nat) (m : Nat) (kX : St → Option (Bool × (Y4 × Unit))) (kO : Nat → St → Option (Bool × (Y4 × Unit))) (p1 : Y4) (a2 : Y7) (was5 : Bool) (changed6 : Bool) (f8 : Y6) (step9 : Int) (k10 : Int) (t16 : (List Y6)) (t17 : Int) (t18 : Int) (t29 : Y4) (t30 : Int) (t31 : Int) : zz53_R13 N (m + 1) (zz53_E13 kX kO) p1 a2 was5 changed6 f8 step9 k10 t16 t17 t18 t29 t30 t31 = zz53_b13 (zz53_R13 N m (zz53_E13 kX kO)) (zz53_X13 kX) p1 a2 was5 changed6 f8 step9 k10 t16 t17 t18 t29 t30 t31 := by kernel_rfl
theorem zz53_iter13 (N : Nat) (kX : St → Option (Bool × (Y4 × Unit))) (kO : Nat → St → Option (Bool × (Y4 × Unit))) : ∀ (n : Nat) (p1 : Y4) (a2 : Y7) (was5 : Bool) (changed6 : Bool) (f8 : Y6) (step9 : Int) (k10 : Int) (t16 : (List Y6)) (t17 : Int) (t18 : Int) (t29 : Y4) (t30 : Int) (t31 : Int), zz53_R13 N n (zz53_E13 kX kO) p1 a2 was5 changed6 f8 step9 k10 t16 t17 t18 t29 t30 t31 = zz53_l13 N (zz53_X13 kX) n p1 a2 was5 changed6 f8 step9 k10 t16 t17 t18 t29 t30 t31
  | 0, _, _, _, _, _, _, _, _, _, _, _, _, _ => rfl
  | m + 1, p1, a2, was5, changed6, f8, step9, k10, t16, t17, t18, t29, t30, t31 => by
    have hrec : zz53_R13 N m (zz53_E13 kX kO) = (zz53_l13 N (zz53_X13 kX) m) := (funext fun p1 => (funext fun a2 => (funext fun was5 => (funext fun changed6 => (funext fun f8 => (funext fun step9 => (funext fun k10 => (funext fun t16 => (funext fun t17 => (funext fun t18 => (funext fun t29 => (funext fun t30 => (funext fun t31 => zz53_iter13 N kX kO m p1 a2 was5 changed6 f8 step9 k10 t16 t17 t18 t29 t30 t31)))))))))))))
    refine (zz53_step13 N m kX kO p1 a2 was5 changed6 f8 step9 k10 t16 t17 t18 t29 t30 t31).trans ?_
    rw [hrec]
    rfl
noncomputable abbrev zz53_K13 (N : Nat) (m : Nat) (kX : St → Option (Bool × (Y4 × Unit))) (kO : Nat → St → Option (Bool × (Y4 × Unit))) : Ex → St → Option (Bool × (Y4 × Unit)) := (blockK 6 (seqK ((A_zz53).shape 39) (run (A_zz53) N (codeAt Try.f100 [1, 1, 0, 1, 0, 0, 1, 0, 1, 1, 0, 0, 1, 1, 0, 0, 1, 1, 1, 0, 0, 1, 0, 0, 1])) (blockK 5 (seqK ((A_zz53).shape 23) (run (A_zz53) N (codeAt Try.f100 [1, 1, 0, 1, 0, 0, 1, 0, 1, 1, 0, 0, 1, 1, 0, 0, 1, 1, 1, 0, 0, 1, 1])) (iterK ((A_zz53).shape 20) (run (A_zz53) N (codeAt Try.f100 [1, 1, 0, 1, 0, 0, 1, 0, 1, 1, 0, 0, 1, 1, 0, 0, 1, 1, 1, 0, 0])) m (zz53_E10 kX kO))))))
noncomputable abbrev zz53_k13 (N : Nat) (m : Nat) (kX : St → Option (Bool × (Y4 × Unit))) (kO : Nat → St → Option (Bool × (Y4 × Unit))) : St → Option (Bool × (Y4 × Unit)) := fun st' => run (A_zz53) N (codeAt Try.f100 [1, 1, 0, 1, 0, 0, 1, 0, 1, 1, 0, 0, 1, 1, 0, 0, 1, 1, 1, 0, 0, 1, 0, 0, 1]) st' (blockK 5 (seqK ((A_zz53).shape 23) (run (A_zz53) N (codeAt Try.f100 [1, 1, 0, 1, 0, 0, 1, 0, 1, 1, 0, 0, 1, 1, 0, 0, 1, 1, 1, 0, 0, 1, 1])) (iterK ((A_zz53).shape 20) (run (A_zz53) N (codeAt Try.f100 [1, 1, 0, 1, 0, 0, 1, 0, 1, 1, 0, 0, 1, 1, 0, 0, 1, 1, 1, 0, 0])) m (zz53_E10 kX kO))))
theorem zz53_after13 (N : Nat) (m : Nat) (kX : St → Option (Bool × (Y4 × Unit))) (kO : Nat → St → Option (Bool × (Y4 × Unit))) (p1 : Y4) (a2 : Y7) (was5 : Bool) (changed6 : Bool) (f8 : Y6) (step9 : Int) (k10 : Int) (t16 : (List Y6)) (t17 : Int) (t18 : Int) : zz53_X13 (zz53_k13 N m kX kO) p1 a2 was5 changed6 f8 step9 k10 t16 t17 t18 = zz53_a13 (zz53_R10 N m (zz53_E10 kX kO)) p1 a2 was5 changed6 f8 step9 k10 t16 t17 t18 := by kernel_rfl
theorem zz53_in13 (N : Nat) (m : Nat) (kX : St → Option (Bool × (Y4 × Unit))) (kO : Nat → St → Option (Bool × (Y4 × Unit))) (recF : Y4 → Y7 → Bool → Bool → Y6 → Int → Int → (List Y6) → Int → Int → Option (Bool × (Y4 × Unit))) (hrec : zz53_R10 N m (zz53_E10 kX kO) = recF) (p1 : Y4) (a2 : Y7) (was5 : Bool) (changed6 : Bool) (f8 : Y6) (step9 : Int) (k10 : Int) (t16 : (List Y6)) (t17 : Int) (t18 : Int) (t29 : Y4) (t30 : Int) (t31 : Int) : zz53_R13 N N (zz53_K13 N m kX kO) p1 a2 was5 changed6 f8 step9 k10 t16 t17 t18 t29 t30 t31 = zz53_F13 N recF (zz53_X10 kX) p1 a2 was5 changed6 f8 step9 k10 t16 t17 t18 t29 t30 t31 :=
  have h : zz53_X13 (zz53_k13 N m kX kO) = (zz53_a13 recF) := (funext fun p1 => (funext fun a2 => (funext fun was5 => (funext fun changed6 => (funext fun f8 => (funext fun step9 => (funext fun k10 => (funext fun t16 => (funext fun t17 => (funext fun t18 => (zz53_after13 N m kX kO p1 a2 was5 changed6 f8 step9 k10 t16 t17 t18).trans (by rw [hrec])))))))))))
  ((iter_ex (fun st => by kernel_rfl) (fun st => by kernel_rfl)).trans (zz53_iter13 N (zz53_k13 N m kX kO) (fun j st => (zz53_K13 N m kX kO) (.exit j) st) N p1 a2 was5 changed6 f8 step9 k10 t16 t17 t18 t29 t30 t31)).trans (congrArg (fun k => zz53_l13 N k N p1 a2 was5 changed6 f8 step9 k10 t16 t17 t18 t29 t30 t31) h)
theorem zz53_step10 (N : Nat) (m : Nat) (kX : St → Option (Bool × (Y4 × Unit))) (kO : Nat → St → Option (Bool × (Y4 × Unit))) (p1 : Y4) (a2 : Y7) (was5 : Bool) (changed6 : Bool) (f8 : Y6) (step9 : Int) (k10 : Int) (t16 : (List Y6)) (t17 : Int) (t18 : Int) : zz53_R10 N (m + 1) (zz53_E10 kX kO) p1 a2 was5 changed6 f8 step9 k10 t16 t17 t18 = zz53_b10 (zz53_R13 N N (zz53_K13 N m kX kO)) (zz53_X10 kX) p1 a2 was5 changed6 f8 step9 k10 t16 t17 t18 := by kernel_rfl
theorem zz53_iter10 (N : Nat) (kX : St → Option (Bool × (Y4 × Unit))) (kO : Nat → St → Option (Bool × (Y4 × Unit))) : ∀ (n : Nat) (p1 : Y4) (a2 : Y7) (was5 : Bool) (changed6 : Bool) (f8 : Y6) (step9 : Int) (k10 : Int) (t16 : (List Y6)) (t17 : Int) (t18 : Int), zz53_R10 N n (zz53_E10 kX kO) p1 a2 was5 changed6 f8 step9 k10 t16 t17 t18 = zz53_l10 N (zz53_X10 kX) n p1 a2 was5 changed6 f8 step9 k10 t16 t17 t18
  | 0, _, _, _, _, _, _, _, _, _, _ => rfl
  | m + 1, p1, a2, was5, changed6, f8, step9, k10, t16, t17, t18 => by
    have hrec : zz53_R10 N m (zz53_E10 kX kO) = (zz53_l10 N (zz53_X10 kX) m) := (funext fun p1 => (funext fun a2 => (funext fun was5 => (funext fun changed6 => (funext fun f8 => (funext fun step9 => (funext fun k10 => (funext fun t16 => (funext fun t17 => (funext fun t18 => zz53_iter10 N kX kO m p1 a2 was5 changed6 f8 step9 k10 t16 t17 t18))))))))))
    refine (zz53_step10 N m kX kO p1 a2 was5 changed6 f8 step9 k10 t16 t17 t18).trans ?_
    rw [(funext fun p1 => (funext fun a2 => (funext fun was5 => (funext fun changed6 => (funext fun f8 => (funext fun step9 => (funext fun k10 => (funext fun t16 => (funext fun t17 => (funext fun t18 => (funext fun t29 => (funext fun t30 => (funext fun t31 => zz53_in13 N m kX kO (zz53_l10 N (zz53_X10 kX) m) hrec p1 a2 was5 changed6 f8 step9 k10 t16 t17 t18 t29 t30 t31)))))))))))))]
    rfl
noncomputable abbrev zz53_K10 (N : Nat) (m : Nat) (kX : St → Option (Bool × (Y4 × Unit))) (kO : Nat → St → Option (Bool × (Y4 × Unit))) : Ex → St → Option (Bool × (Y4 × Unit)) := (blockK 4 (blockK 3 (seqK ((A_zz53).shape 41) (run (A_zz53) N (codeAt Try.f100 [1, 1, 0, 1, 0, 0, 1, 0, 1, 1, 0, 0, 1, 1, 1])) (iterK ((A_zz53).shape 12) (run (A_zz53) N (codeAt Try.f100 [1, 1, 0, 1, 0, 0, 1, 0, 1, 1, 0, 0])) m (zz53_E6 kX kO)))))
noncomputable abbrev zz53_k10 (N : Nat) (m : Nat) (kX : St → Option (Bool × (Y4 × Unit))) (kO : Nat → St → Option (Bool × (Y4 × Unit))) : St → Option (Bool × (Y4 × Unit)) := fun st' => run (A_zz53) N (codeAt Try.f100 [1, 1, 0, 1, 0, 0, 1, 0, 1, 1, 0, 0, 1, 1, 1]) st' (iterK ((A_zz53).shape 12) (run (A_zz53) N (codeAt Try.f100 [1, 1, 0, 1, 0, 0, 1, 0, 1, 1, 0, 0])) m (zz53_E6 kX kO))
theorem zz53_after10 (N : Nat) (m : Nat) (kX : St → Option (Bool × (Y4 × Unit))) (kO : Nat → St → Option (Bool × (Y4 × Unit))) (p1 : Y4) (a2 : Y7) (was5 : Bool) (changed6 : Bool) (t16 : (List Y6)) (t17 : Int) (t18 : Int) : zz53_X10 (zz53_k10 N m kX kO) p1 a2 was5 changed6 t16 t17 t18 = zz53_a10 (zz53_R6 N m (zz53_E6 kX kO)) p1 a2 was5 changed6 t16 t17 t18 := by kernel_rfl
theorem zz53_in10 (N : Nat) (m : Nat) (kX : St → Option (Bool × (Y4 × Unit))) (kO : Nat → St → Option (Bool × (Y4 × Unit))) (recF : Y4 → Y7 → Bool → Bool → (List Y6) → Int → Int → Option (Bool × (Y4 × Unit))) (hrec : zz53_R6 N m (zz53_E6 kX kO) = recF) (p1 : Y4) (a2 : Y7) (was5 : Bool) (changed6 : Bool) (f8 : Y6) (step9 : Int) (k10 : Int) (t16 : (List Y6)) (t17 : Int) (t18 : Int) : zz53_R10 N N (zz53_K10 N m kX kO) p1 a2 was5 changed6 f8 step9 k10 t16 t17 t18 = zz53_F10 N recF (zz53_X6 kX) p1 a2 was5 changed6 f8 step9 k10 t16 t17 t18 :=
  have h : zz53_X10 (zz53_k10 N m kX kO) = (zz53_a10 recF) := (funext fun p1 => (funext fun a2 => (funext fun was5 => (funext fun changed6 => (funext fun t16 => (funext fun t17 => (funext fun t18 => (zz53_after10 N m kX kO p1 a2 was5 changed6 t16 t17 t18).trans (by rw [hrec]))))))))
  ((iter_ex (fun st => by kernel_rfl) (fun st => by kernel_rfl)).trans (zz53_iter10 N (zz53_k10 N m kX kO) (fun j st => (zz53_K10 N m kX kO) (.exit j) st) N p1 a2 was5 changed6 f8 step9 k10 t16 t17 t18)).trans (congrArg (fun k => zz53_l10 N k N p1 a2 was5 changed6 f8 step9 k10 t16 t17 t18) h)
theorem zz53_step6 (N : Nat) (m : Nat) (kX : St → Option (Bool × (Y4 × Unit))) (kO : Nat → St → Option (Bool × (Y4 × Unit))) (p1 : Y4) (a2 : Y7) (was5 : Bool) (changed6 : Bool) (t16 : (List Y6)) (t17 : Int) (t18 : Int) : zz53_R6 N (m + 1) (zz53_E6 kX kO) p1 a2 was5 changed6 t16 t17 t18 = zz53_b6 (zz53_R10 N N (zz53_K10 N m kX kO)) (zz53_X6 kX) p1 a2 was5 changed6 t16 t17 t18 := by kernel_rfl
theorem zz53_iter6 (N : Nat) (kX : St → Option (Bool × (Y4 × Unit))) (kO : Nat → St → Option (Bool × (Y4 × Unit))) : ∀ (n : Nat) (p1 : Y4) (a2 : Y7) (was5 : Bool) (changed6 : Bool) (t16 : (List Y6)) (t17 : Int) (t18 : Int), zz53_R6 N n (zz53_E6 kX kO) p1 a2 was5 changed6 t16 t17 t18 = zz53_l6 N (zz53_X6 kX) n p1 a2 was5 changed6 t16 t17 t18
  | 0, _, _, _, _, _, _, _ => rfl
  | m + 1, p1, a2, was5, changed6, t16, t17, t18 => by
    have hrec : zz53_R6 N m (zz53_E6 kX kO) = (zz53_l6 N (zz53_X6 kX) m) := (funext fun p1 => (funext fun a2 => (funext fun was5 => (funext fun changed6 => (funext fun t16 => (funext fun t17 => (funext fun t18 => zz53_iter6 N kX kO m p1 a2 was5 changed6 t16 t17 t18)))))))
    refine (zz53_step6 N m kX kO p1 a2 was5 changed6 t16 t17 t18).trans ?_
    rw [(funext fun p1 => (funext fun a2 => (funext fun was5 => (funext fun changed6 => (funext fun f8 => (funext fun step9 => (funext fun k10 => (funext fun t16 => (funext fun t17 => (funext fun t18 => zz53_in10 N m kX kO (zz53_l6 N (zz53_X6 kX) m) hrec p1 a2 was5 changed6 f8 step9 k10 t16 t17 t18))))))))))]
    rfl
noncomputable abbrev zz53_K6 (N : Nat) (m : Nat) (kX : St → Option (Bool × (Y4 × Unit))) (kO : Nat → St → Option (Bool × (Y4 × Unit))) : Ex → St → Option (Bool × (Y4 × Unit)) := (blockK 2 (blockK 1 (iterK ((A_zz53).shape 6) (run (A_zz53) N (codeAt Try.f100 [1, 1, 0, 1, 0, 0])) m (zz53_E3 kX kO))))
noncomputable abbrev zz53_k6 (N : Nat) (m : Nat) (kX : St → Option (Bool × (Y4 × Unit))) (kO : Nat → St → Option (Bool × (Y4 × Unit))) : St → Option (Bool × (Y4 × Unit)) := fun st' => iter ((A_zz53).shape 6) (run (A_zz53) N (codeAt Try.f100 [1, 1, 0, 1, 0, 0])) m st' (zz53_E3 kX kO)
theorem zz53_after6 (N : Nat) (m : Nat) (kX : St → Option (Bool × (Y4 × Unit))) (kO : Nat → St → Option (Bool × (Y4 × Unit))) (p1 : Y4) (a2 : Y7) (was5 : Bool) (changed6 : Bool) : zz53_X6 (zz53_k6 N m kX kO) p1 a2 was5 changed6 = zz53_a6 (zz53_R3 N m (zz53_E3 kX kO)) p1 a2 was5 changed6 := by kernel_rfl
theorem zz53_in6 (N : Nat) (m : Nat) (kX : St → Option (Bool × (Y4 × Unit))) (kO : Nat → St → Option (Bool × (Y4 × Unit))) (recF : Y4 → Y7 → Bool → Bool → Option (Bool × (Y4 × Unit))) (hrec : zz53_R3 N m (zz53_E3 kX kO) = recF) (p1 : Y4) (a2 : Y7) (was5 : Bool) (changed6 : Bool) (t16 : (List Y6)) (t17 : Int) (t18 : Int) : zz53_R6 N N (zz53_K6 N m kX kO) p1 a2 was5 changed6 t16 t17 t18 = zz53_F6 N recF (zz53_X3 kX) p1 a2 was5 changed6 t16 t17 t18 :=
  have h : zz53_X6 (zz53_k6 N m kX kO) = (zz53_a6 recF) := (funext fun p1 => (funext fun a2 => (funext fun was5 => (funext fun changed6 => (zz53_after6 N m kX kO p1 a2 was5 changed6).trans (by rw [hrec])))))
  ((iter_ex (fun st => by kernel_rfl) (fun st => by kernel_rfl)).trans (zz53_iter6 N (zz53_k6 N m kX kO) (fun j st => (zz53_K6 N m kX kO) (.exit j) st) N p1 a2 was5 changed6 t16 t17 t18)).trans (congrArg (fun k => zz53_l6 N k N p1 a2 was5 changed6 t16 t17 t18) h)
theorem zz53_step3 (N : Nat) (m : Nat) (kX : St → Option (Bool × (Y4 × Unit))) (kO : Nat → St → Option (Bool × (Y4 × Unit))) (p1 : Y4) (a2 : Y7) (was5 : Bool) (changed6 : Bool) : zz53_R3 N (m + 1) (zz53_E3 kX kO) p1 a2 was5 changed6 = zz53_b3 (zz53_R6 N N (zz53_K6 N m kX kO)) (zz53_X3 kX) p1 a2 was5 changed6 := by kernel_rfl
theorem zz53_iter3 (N : Nat) (kX : St → Option (Bool × (Y4 × Unit))) (kO : Nat → St → Option (Bool × (Y4 × Unit))) : ∀ (n : Nat) (p1 : Y4) (a2 : Y7) (was5 : Bool) (changed6 : Bool), zz53_R3 N n (zz53_E3 kX kO) p1 a2 was5 changed6 = zz53_l3 N (zz53_X3 kX) n p1 a2 was5 changed6
  | 0, _, _, _, _ => rfl
  | m + 1, p1, a2, was5, changed6 => by
    have hrec : zz53_R3 N m (zz53_E3 kX kO) = (zz53_l3 N (zz53_X3 kX) m) := (funext fun p1 => (funext fun a2 => (funext fun was5 => (funext fun changed6 => zz53_iter3 N kX kO m p1 a2 was5 changed6))))
    refine (zz53_step3 N m kX kO p1 a2 was5 changed6).trans ?_
    rw [(funext fun p1 => (funext fun a2 => (funext fun was5 => (funext fun changed6 => (funext fun t16 => (funext fun t17 => (funext fun t18 => zz53_in6 N m kX kO (zz53_l3 N (zz53_X3 kX) m) hrec p1 a2 was5 changed6 t16 t17 t18)))))))]
    rfl
noncomputable abbrev zz53_K3 (N : Nat) : Ex → St → Option (Bool × (Y4 × Unit)) := (blockK 0 (seqK ((A_zz53).shape 43) (run (A_zz53) N (codeAt Try.f100 [1, 1, 1])) zz53_z))
noncomputable abbrev zz53_k3 (N : Nat) : St → Option (Bool × (Y4 × Unit)) := fun st' => run (A_zz53) N (codeAt Try.f100 [1, 1, 1]) st' zz53_z
theorem zz53_after3 (N : Nat) (p1 : Y4) (was5 : Bool) : zz53_X3 (zz53_k3 N) p1 was5 = zz53_a3 p1 was5 := by kernel_rfl
theorem zz53_in3 (N : Nat) (p1 : Y4) (a2 : Y7) (was5 : Bool) (changed6 : Bool) : zz53_R3 N N (zz53_K3 N) p1 a2 was5 changed6 = zz53_F3 N p1 a2 was5 changed6 :=
  have h : zz53_X3 (zz53_k3 N) = (zz53_a3) := (funext fun p1 => (funext fun was5 => zz53_after3 N p1 was5))
  ((iter_ex (fun st => by kernel_rfl) (fun st => by kernel_rfl)).trans (zz53_iter3 N (zz53_k3 N) (fun j st => (zz53_K3 N) (.exit j) st) N p1 a2 was5 changed6)).trans (congrArg (fun k => zz53_l3 N k N p1 a2 was5 changed6) h)
theorem run0_zz53 (N : Nat) (x : (S_zz53).a.den) : runF (A_zz53) N Try.f100 S_zz53 x = (zz53_s (zz53_R3 N N (zz53_K3 N)) x.1 x.2.1) := by kernel_rfl
theorem run_zz53 (N : Nat) (x : (S_zz53).a.den) : runF (A_zz53) N Try.f100 S_zz53 x = zz53 N x.1 x.2.1 := by
  refine (run0_zz53 N x).trans ?_
  rw [(funext fun p1 => (funext fun a2 => (funext fun was5 => (funext fun changed6 => zz53_in3 N p1 a2 was5 changed6))))]
  rfl
theorem fn_zz53 : FnOk Try.prog 100 := ⟨_, Try.func100, by kernel_rfl, by kernel_rfl⟩
theorem good_zz53 : Gx.Good Try.prog 100 S_zz53 := good_of_run Try.func100 (of_decide_eq_true (by kernel_rfl)) fun x r h => ⟨A_zz53, big, mkCfg_ok tabOk, mkCfg_sigs (show SigsOk Try.prog [(140, S_zz52)] from ⟨⟨fn_zz52, good_zz52⟩, trivial⟩), (run_zz53 big x).trans h⟩

/-! zz54 -/
def zz54_s (a_0 : Y7) (p_1 : Y4) : Option (Bool × Unit) :=
  (zz50 big a_0.1 p_1).bind fun rq1 =>
  cond rq1.1
  ((zz51 p_1).bind fun rq2 =>
  (zz53 big a_0 rq2.1).bind fun rq3 =>
  some (!rq3.1, (())))
  (some (false, (())))
def zz54 (a_0 : Y7) (p_1 : Y4) : Option (Bool × Unit) := zz54_s a_0 p_1
def S_zz54 : Sig := { a := (.pair (.pair I (.pair (.sl (.pair I (.pair (.sl I) .unit))) .unit)) (.pair (.sl I) .unit)), md := [0, 0], mf := [], m := .unit, r := .bool, rf := .i, f := fun x => zz54 x.1 x.2.1 }
def A_zz54 : Cfg := mkCfg tab [(99, S_zz50), (101, S_zz51), (100, S_zz53)] []
theorem run_zz54 (N : Nat) (x : (S_zz54).a.den) : runF (A_zz54) N Try.f58 S_zz54 x = zz54 x.1 x.2.1 := by kernel_rfl
theorem fn_zz54 : FnOk Try.prog 58 := ⟨_, Try.func58, by kernel_rfl, by kernel_rfl⟩
theorem good_zz54 : Gx.Good Try.prog 58 S_zz54 := good_of_run Try.func58 (of_decide_eq_true (by kernel_rfl)) fun x r h => ⟨A_zz54, big, mkCfg_ok tabOk, mkCfg_sigs (show SigsOk Try.prog [(99, S_zz50), (101, S_zz51), (100, S_zz53)] from ⟨⟨fn_zz50, good_zz50⟩, ⟨fn_zz51, good_zz51⟩, ⟨fn_zz53, good_zz53⟩, trivial⟩), (run_zz54 big x).trans h⟩

/-! zz55 -/
def zz55_b3 (rec : Y4 → Y4 → Int → Int → Option (Y4 × Unit)) (k : Y4 → Option (Y4 × Unit)) (list3 : Y4) (t7 : Y4) (t8 : Int) (t9 : Int) : Option (Y4 × Unit) :=
  cond (decide (t9 < t8))
  ((atI t7 t9).bind fun xq1 =>
  cond (decide (xq1 = t9))
  ((appI list3 [xq1]).bind fun xq2 =>
  rec xq2 t7 t8 (IntKind.i64.wrap (t9 + (1 : Int))))
  (rec list3 t7 t8 (IntKind.i64.wrap (t9 + (1 : Int)))))
  (k list3)
def zz55_a3 (list3 : Y4) : Option (Y4 × Unit) :=
  some (list3, (()))
def zz55_s (L3 : Y4 → Y4 → Int → Int → Option (Y4 × Unit)) (p_0 : Y4) : Option (Y4 × Unit) :=
  L3 [] p_0 (p_0.length : Int) (0 : Int)
def zz55_l3 (N : Nat) (k : Y4 → Option (Y4 × Unit)) : Nat → Y4 → Y4 → Int → Int → Option (Y4 × Unit)
  | 0, _, _, _, _ => none
  | m + 1, list3, t7, t8, t9 => zz55_b3 (zz55_l3 N k m) k list3 t7 t8 t9
def zz55_F3 (N : Nat) (list3 : Y4) (t7 : Y4) (t8 : Int) (t9 : Int) : Option (Y4 × Unit) := zz55_l3 N (zz55_a3) N list3 t7 t8 t9
def zz55 (N : Nat) (p_0 : Y4) : Option (Y4 × Unit) := zz55_s (zz55_F3 N) p_0
def S_zz55 : Sig := { a := (.pair (.sl I) .unit), md := [0], mf := [], m := .unit, r := (.sl I), rf := (.o .i), f := fun x => zz55 big x.1 }
def A_zz55 : Cfg := mkCfg tab [] [(6, [.drop, .drop, .drop, .as (.sl I) (.o .i), .drop, .drop, .drop, .as (.sl I) .i, .as I .i, .as I .i]), (17, [.drop, .drop, .drop, .as (.sl I) (.o .i)])]
noncomputable def zz55_R3 (N n : Nat) (K : Ex → St → Option (Y4 × Unit)) (list3 : Y4) (t7 : Y4) (t8 : Int) (t9 : Int) : Option (Y4 × Unit) := iter ((A_zz55).shape 6) (run (A_zz55) N (codeAt Try.f66 [1, 1, 0, 1, 0, 0])) n ([.u, .u, .u, .val (.sl I) (.o .i) list3, .u, .u, .u, .val (.sl I) .i t7, .val I .i t8, .val I .i t9] ++ List.replicate 13 .u) K
noncomputable abbrev zz55_z : Ex → St → Option (Y4 × Unit) := finish (A_zz55) S_zz55 Try.f66.results.toList
noncomputable abbrev zz55_X3 (kX : St → Option (Y4 × Unit)) : Y4 → Option (Y4 × Unit) := fun (list3 : Y4) => kX ([.u, .u, .u, .val (.sl I) (.o .i) list3] ++ List.replicate 19 .u)
noncomputable abbrev zz55_E3 (kX : St → Option (Y4 × Unit)) (kO : Nat → St → Option (Y4 × Unit)) : Ex → St → Option (Y4 × Unit) := exK zz55_z 0 ((A_zz55).shape 17) kX kO
theorem zz55_step3 (N : Nat) (m : Nat) (kX : St → Option (Y4 × Unit)) (kO : Nat → St → Option (Y4 × Unit)) (list3 : Y4) (t7 : Y4) (t8 : Int) (t9 : Int) : zz55_R3 N (m + 1) (zz55_E3 kX kO) list3 t7 t8 t9 = zz55_b3 (zz55_R3 N m (zz55_E3 kX kO)) (zz55_X3 kX) list3 t7 t8 t9 := by kernel_rfl
theorem zz55_iter3 (N : Nat) (kX : St → Option (Y4 × Unit)) (kO : Nat → St → Option (Y4 × Unit)) : ∀ (n : Nat) (list3 : Y4) (t7 : Y4) (t8 : Int) (t9 : Int), zz55_R3 N n (zz55_E3 kX kO) list3 t7 t8 t9 = zz55_l3 N (zz55_X3 kX) n list3 t7 t8 t9
  | 0, _, _, _, _ => rfl
  | m + 1, list3, t7, t8, t9 => by
    have hrec : zz55_R3 N m (zz55_E3 kX kO) = (zz55_l3 N (zz55_X3 kX) m) := (funext fun list3 => (funext fun t7 => (funext fun t8 => (funext fun t9 => zz55_iter3 N kX kO m list3 t7 t8 t9))))
    refine (zz55_step3 N m kX kO list3 t7 t8 t9).trans ?_
    rw [hrec]
    rfl
noncomputable abbrev zz55_K3 (N : Nat) : Ex → St → Option (Y4 × Unit) := (blockK 0 (seqK ((A_zz55).shape 17) (run (A_zz55) N (codeAt Try.f66 [1, 1, 1])) zz55_z))
noncomputable abbrev zz55_k3 (N : Nat) : St → Option (Y4 × Unit) := fun st' => run (A_zz55) N (codeAt Try.f66 [1, 1, 1]) st' zz55_z
theorem zz55_after3 (N : Nat) (list3 : Y4) : zz55_X3 (zz55_k3 N) list3 = zz55_a3 list3 := by kernel_rfl
theorem zz55_in3 (N : Nat) (list3 : Y4) (t7 : Y4) (t8 : Int) (t9 : Int) : zz55_R3 N N (zz55_K3 N) list3 t7 t8 t9 = zz55_F3 N list3 t7 t8 t9 :=
  have h : zz55_X3 (zz55_k3 N) = (zz55_a3) := (funext fun list3 => zz55_after3 N list3)
  ((iter_ex (fun st => by kernel_rfl) (fun st => by kernel_rfl)).trans (zz55_iter3 N (zz55_k3 N) (fun j st => (zz55_K3 N) (.exit j) st) N list3 t7 t8 t9)).trans (congrArg (fun k => zz55_l3 N k N list3 t7 t8 t9) h)
theorem run0_zz55 (N : Nat) (x : (S_zz55).a.den) : runF (A_zz55) N Try.f66 S_zz55 x = (zz55_s (zz55_R3 N N (zz55_K3 N)) x.1) := by kernel_rfl
theorem run_zz55 (N : Nat) (x : (S_zz55).a.den) : runF (A_zz55) N Try.f66 S_zz55 x = zz55 N x.1 := by
  refine (run0_zz55 N x).trans ?_
  rw [(funext fun list3 => (funext fun t7 => (funext fun t8 => (funext fun t9 => zz55_in3 N list3 t7 t8 t9))))]
  rfl
theorem fn_zz55 : FnOk Try.prog 66 := ⟨_, Try.func66, by kernel_rfl, by kernel_rfl⟩
theorem good_zz55 : Gx.Good Try.prog 66 S_zz55 := good_of_run Try.func66 (of_decide_eq_true (by kernel_rfl)) fun x r h => ⟨A_zz55, big, mkCfg_ok tabOk, mkCfg_sigs (show SigsOk Try.prog [] from trivial), (run_zz55 big x).trans h⟩

/-! zz56 -/
def zz56_b7 (rec : Y5 → Y2 → Y2 → Int → Y4 → Int → Int → Int → Int → Option (Y2 × Unit)) (k : Y5 → Y2 → Y2 → Y4 → Int → Int → Option (Y2 × Unit)) (o0 : Y5) (t2 : Y2) (p3 : Y2) (x4 : Int) (list5 : Y4) (t10 : Int) (t11 : Int) (t16 : Int) (t17 : Int) : Option (Y2 × Unit) :=
  cond (decide (t17 < t16))
  ((atI o0 t17).bind fun xq1 =>
  (atI xq1 x4).bind fun xq2 =>
  cond xq2
  ((appI list5 [t17]).bind fun xq3 =>
  rec o0 t2 p3 x4 xq3 t10 t11 t16 (IntKind.i64.wrap (t17 + (1 : Int))))
  (rec o0 t2 p3 x4 list5 t10 t11 t16 (IntKind.i64.wrap (t17 + (1 : Int)))))
  (k o0 t2 p3 list5 t10 t11)
def zz56_a7 (rec : Y5 → Y2 → Y2 → Int → Int → Option (Y2 × Unit)) (o0 : Y5) (t2 : Y2) (p3 : Y2) (list5 : Y4) (t10 : Int) (t11 : Int) : Option (Y2 × Unit) :=
  (appI p3.1 [list5]).bind fun xq4 =>
  rec o0 t2 (xq4, ((), p3.2).2) t10 (IntKind.i64.wrap (t11 + (1 : Int)))
def zz56_b3 (L7 : Y5 → Y2 → Y2 → Int → Y4 → Int → Int → Int → Int → Option (Y2 × Unit)) (k : Y2 → Y2 → Option (Y2 × Unit)) (o0 : Y5) (t2 : Y2) (p3 : Y2) (t10 : Int) (t11 : Int) : Option (Y2 × Unit) :=
  cond (decide (t11 < t10))
  (L7 o0 t2 p3 t11 [] t10 t11 (o0.length : Int) (0 : Int))
  (k t2 p3)
def zz56_a3 (t2 : Y2) (p3 : Y2) : Option (Y2 × Unit) :=
  some (p3, (()))
def zz56_s (L3 : Y5 → Y2 → Y2 → Int → Int → Option (Y2 × Unit)) (o_0 : Y5) : Option (Y2 × Unit) :=
  L3 o_0 (([] : Y3), ()) ([], ()) (o_0.length : Int) (0 : Int)
def zz56_l7 (N : Nat) (k : Y5 → Y2 → Y2 → Y4 → Int → Int → Option (Y2 × Unit)) : Nat → Y5 → Y2 → Y2 → Int → Y4 → Int → Int → Int → Int → Option (Y2 × Unit)
  | 0, _, _, _, _, _, _, _, _, _ => none
  | m + 1, o0, t2, p3, x4, list5, t10, t11, t16, t17 => zz56_b7 (zz56_l7 N k m) k o0 t2 p3 x4 list5 t10 t11 t16 t17
def zz56_F7 (N : Nat) (rec : Y5 → Y2 → Y2 → Int → Int → Option (Y2 × Unit)) (k : Y2 → Y2 → Option (Y2 × Unit)) (o0 : Y5) (t2 : Y2) (p3 : Y2) (x4 : Int) (list5 : Y4) (t10 : Int) (t11 : Int) (t16 : Int) (t17 : Int) : Option (Y2 × Unit) := zz56_l7 N (zz56_a7 rec) N o0 t2 p3 x4 list5 t10 t11 t16 t17
def zz56_l3 (N : Nat) (k : Y2 → Y2 → Option (Y2 × Unit)) : Nat → Y5 → Y2 → Y2 → Int → Int → Option (Y2 × Unit)
  | 0, _, _, _, _, _ => none
  | m + 1, o0, t2, p3, t10, t11 => zz56_b3 (zz56_F7 N (zz56_l3 N k m) k) k o0 t2 p3 t10 t11
def zz56_F3 (N : Nat) (o0 : Y5) (t2 : Y2) (p3 : Y2) (t10 : Int) (t11 : Int) : Option (Y2 × Unit) := zz56_l3 N (zz56_a3) N o0 t2 p3 t10 t11
def zz56 (N : Nat) (o_0 : Y5) : Option (Y2 × Unit) := zz56_s (zz56_F3 N) o_0
def S_zz56 : Sig := { a := (.pair (.sl (.sl .bool)) .unit), md := [0], mf := [], m := .unit, r := (.pair (.sl (.sl I)) .unit), rf := (.p (.o (.o .i)) .i), f := fun x => zz56 big x.1 }
def A_zz56 : Cfg := mkCfg tab [] [(6, [.as (.sl (.sl .bool)) .i, .drop, .as (.ptr (.pair (.sl (.sl I)) .unit)) (.o (.p (.o (.o .i)) .i)), .as (.ptr (.pair (.sl (.sl I)) .unit)) (.o (.p (.o (.o .i)) .i)), .drop, .drop, .drop, .drop, .drop, .drop, .as I .i, .as I .i]), (14, [.as (.sl (.sl .bool)) .i, .drop, .as (.ptr (.pair (.sl (.sl I)) .unit)) (.o (.p (.o (.o .i)) .i)), .as (.ptr (.pair (.sl (.sl I)) .unit)) (.o (.p (.o (.o .i)) .i)), .as I .i, .as (.sl I) (.o .i), .drop, .drop, .drop, .drop, .as I .i, .as I .i, .drop, .drop, .drop, .drop, .as I .i, .as I .i]), (29, [.drop, .drop, .as (.ptr (.pair (.sl (.sl I)) .unit)) (.o (.p (.o (.o .i)) .i)), .as (.ptr (.pair (.sl (.sl I)) .unit)) (.o (.p (.o (.o .i)) .i))]), (25, [.as (.sl (.sl .bool)) .i, .drop, .as (.ptr (.pair (.sl (.sl I)) .unit)) (.o (.p (.o (.o .i)) .i)), .as (.ptr (.pair (.sl (.sl I)) .unit)) (.o (.p (.o (.o .i)) .i)), .drop, .as (.sl I) (.o .i), .drop, .drop, .drop, .drop, .as I .i, .as I .i])]
noncomputable def zz56_R3 (N n : Nat) (K : Ex → St → Option (Y2 × Unit)) (o0 : Y5) (t2 : Y2) (p3 : Y2) (t10 : Int) (t11 : Int) : Option (Y2 × Unit) := iter ((A_zz56).shape 6) (run (A_zz56) N (codeAt Try.f68 [1, 1, 0, 1, 0, 0])) n ([.val (.sl (.sl .bool)) .i o0, .u, .val (.ptr (.pair (.sl (.sl I)) .unit)) (.o (.p (.o (.o .i)) .i)) t2, .val (.ptr (.pair (.sl (.sl I)) .unit)) (.o (.p (.o (.o .i)) .i)) p3, .u, .u, .u, .u, .u, .u, .val I .i t10, .val I .i t11] ++ List.replicate 28 .u) K
noncomputable def zz56_R7 (N n : Nat) (K : Ex → St → Option (Y2 × Unit)) (o0 : Y5) (t2 : Y2) (p3 : Y2) (x4 : Int) (list5 : Y4) (t10 : Int) (t11 : Int) (t16 : Int) (t17 : Int) : Option (Y2 × Unit) := iter ((A_zz56).shape 14) (run (A_zz56) N (codeAt Try.f68 [1, 1, 0, 1, 0, 0, 1, 1, 0, 0, 1, 1, 0, 1, 0, 0])) n ([.val (.sl (.sl .bool)) .i o0, .u, .val (.ptr (.pair (.sl (.sl I)) .unit)) (.o (.p (.o (.o .i)) .i)) t2, .val (.ptr (.pair (.sl (.sl I)) .unit)) (.o (.p (.o (.o .i)) .i)) p3, .val I .i x4, .val (.sl I) (.o .i) list5, .u, .u, .u, .u, .val I .i t10, .val I .i t11, .u, .u, .u, .u, .val I .i t16, .val I .i t17] ++ List.replicate 22 .u) K
noncomputable abbrev zz56_z : Ex → St → Option (Y2 × Unit) := finish (A_zz56) S_zz56 Try.f68.results.toList
noncomputable abbrev zz56_X3 (kX : St → Option (Y2 × Unit)) : Y2 → Y2 → Option (Y2 × Unit) := fun (t2 : Y2) (p3 : Y2) => kX ([.u, .u, .val (.ptr (.pair (.sl (.sl I)) .unit)) (.o (.p (.o (.o .i)) .i)) t2, .val (.ptr (.pair (.sl (.sl I)) .unit)) (.o (.p (.o (.o .i)) .i)) p3] ++ List.replicate 36 .u)
noncomputable abbrev zz56_E3 (kX : St → Option (Y2 × Unit)) (kO : Nat → St → Option (Y2 × Unit)) : Ex → St → Option (Y2 × Unit) := exK zz56_z 0 ((A_zz56).shape 29) kX kO
noncomputable abbrev zz56_X7 (kX : St → Option (Y2 × Unit)) : Y5 → Y2 → Y2 → Y4 → Int → Int → Option (Y2 × Unit) := fun (o0 : Y5) (t2 : Y2) (p3 : Y2) (list5 : Y4) (t10 : Int) (t11 : Int) => kX ([.val (.sl (.sl .bool)) .i o0, .u, .val (.ptr (.pair (.sl (.sl I)) .unit)) (.o (.p (.o (.o .i)) .i)) t2, .val (.ptr (.pair (.sl (.sl I)) .unit)) (.o (.p (.o (.o .i)) .i)) p3, .u, .val (.sl I) (.o .i) list5, .u, .u, .u, .u, .val I .i t10, .val I .i t11] ++ List.replicate 28 .u)
noncomputable abbrev zz56_E7 (kX : St → Option (Y2 × Unit)) (kO : Nat → St → Option (Y2 × Unit)) : Ex → St → Option (Y2 × Unit) := exK zz56_z 2 ((A_zz56).shape 25) kX kO
theorem zz56_step7 (N : Nat) (m : Nat) (kX : St → Option (Y2 × Unit)) (kO : Nat → St → Option (Y2 × Unit)) (o0 : Y5) (t2 : Y2) (p3 : Y2) (x4 : Int) (list5 : Y4) (t10 : Int) (t11 : Int) (t16 : Int) (t17 : Int) : zz56_R7 N (m + 1) (zz56_E7 kX kO) o0 t2 p3 x4 list5 t10 t11 t16 t17 = zz56_b7 (zz56_R7 N m (zz56_E7 kX kO)) (zz56_X7 kX) o0 t2 p3 x4 list5 t10 t11 t16 t17 := by kernel_rfl
theorem zz56_iter7 (N : Nat) (kX : St → Option (Y2 × Unit)) (kO : Nat → St → Option (Y2 × Unit)) : ∀ (n : Nat) (o0 : Y5) (t2 : Y2) (p3 : Y2) (x4 : Int) (list5 : Y4) (t10 : Int) (t11 : Int) (t16 : Int) (t17 : Int), zz56_R7 N n (zz56_E7 kX kO) o0 t2 p3 x4 list5 t10 t11 t16 t17 = zz56_l7 N (zz56_X7 kX) n o0 t2 p3 x4 list5 t10 t11 t16 t17
  | 0, _, _, _, _, _, _, _, _, _ => rfl
  | m + 1, o0, t2, p3, x4, list5, t10, t11, t16, t17 => by
    have hrec : zz56_R7 N m (zz56_E7 kX kO) = (zz56_l7 N (zz56_X7 kX) m) := (funext fun o0 => (funext fun t2 => (funext fun p3 => (funext fun x4 => (funext fun list5 => (funext fun t10 => (funext fun t11 => (funext fun t16 => (funext fun t17 => zz56_iter7 N kX kO m o0 t2 p3 x4 list5 t10 t11 t16 t17)))))))))
    refine (zz56_step7 N m kX kO o0 t2 p3 x4 list5 t10 t11 t16 t17).trans ?_
    rw [hrec]
    rfl
noncomputable abbrev zz56_K7 (N : Nat) (m : Nat) (kX : St → Option (Y2 × Unit)) (kO : Nat → St → Option (Y2 × Unit)) : Ex → St → Option (Y2 × Unit) := (blockK 2 (seqK ((A_zz56).shape 25) (run (A_zz56) N (codeAt Try.f68 [1, 1, 0, 1, 0, 0, 1, 1, 0, 0, 1, 1, 1])) (blockK 1 (seqK ((A_zz56).shape 27) (run (A_zz56) N (codeAt Try.f68 [1, 1, 0, 1, 0, 0, 1, 1, 1])) (iterK ((A_zz56).shape 6) (run (A_zz56) N (codeAt Try.f68 [1, 1, 0, 1, 0, 0])) m (zz56_E3 kX kO))))))
noncomputable abbrev zz56_k7 (N : Nat) (m : Nat) (kX : St → Option (Y2 × Unit)) (kO : Nat → St → Option (Y2 × Unit)) : St → Option (Y2 × Unit) := fun st' => run (A_zz56) N (codeAt Try.f68 [1, 1, 0, 1, 0, 0, 1, 1, 0, 0, 1, 1, 1]) st' (blockK 1 (seqK ((A_zz56).shape 27) (run (A_zz56) N (codeAt Try.f68 [1, 1, 0, 1, 0, 0, 1, 1, 1])) (iterK ((A_zz56).shape 6) (run (A_zz56) N (codeAt Try.f68 [1, 1, 0, 1, 0, 0])) m (zz56_E3 kX kO))))
theorem zz56_after7 (N : Nat) (m : Nat) (kX : St → Option (Y2 × Unit)) (kO : Nat → St → Option (Y2 × Unit)) (o0 : Y5) (t2 : Y2) (p3 : Y2) (list5 : Y4) (t10 : Int) (t11 : Int) : zz56_X7 (zz56_k7 N m kX kO) o0 t2 p3 list5 t10 t11 = zz56_a7 (zz56_R3 N m (zz56_E3 kX kO)) o0 t2 p3 list5 t10 t11 := by kernel_rfl
theorem zz56_in7 (N : Nat) (m : Nat) (kX : St → Option (Y2 × Unit)) (kO : Nat → St → Option (Y2 × Unit)) (recF : Y5 → Y2 → Y2 → Int → Int → Option (Y2 × Unit)) (hrec : zz56_R3 N m (zz56_E3 kX kO) = recF) (o0 : Y5) (t2 : Y2) (p3 : Y2) (x4 : Int) (list5 : Y4) (t10 : Int) (t11 : Int) (t16 : Int) (t17 : Int) : zz56_R7 N N (zz56_K7 N m kX kO) o0 t2 p3 x4 list5 t10 t11 t16 t17 = zz56_F7 N recF (zz56_X3 kX) o0 t2 p3 x4 list5 t10 t11 t16 t17 :=
  have h : zz56_X7 (zz56_k7 N m kX kO) = (zz56_a7 recF) := (funext fun o0 => (funext fun t2 => (funext fun p3 => (funext fun list5 => (funext fun t10 => (funext fun t11 => (zz56_after7 N m kX kO o0 t2 p3 list5 t10 t11).trans (by rw [hrec])))))))
  ((iter_ex (fun st => by kernel_rfl) (fun st => by kernel_rfl)).trans (zz56_iter7 N (zz56_k7 N m kX kO) (fun j st => (zz56_K7 N m kX kO) (.exit j) st) N o0 t2 p3 x4 list5 t10 t11 t16 t17)).trans (congrArg (fun k => zz56_l7 N k N o0 t2 p3 x4 list5 t10 t11 t16 t17) h)
theorem zz56_step3 (N : Nat) (m : Nat) (kX : St → Option (Y2 × Unit)) (kO : Nat → St → Option (Y2 × Unit)) (o0 : Y5) (t2 : Y2) (p3 : Y2) (t10 : Int) (t11 : Int) : zz56_R3 N (m + 1) (zz56_E3 kX kO) o0 t2 p3 t10 t11 = zz56_b3 (zz56_R7 N N (zz56_K7 N m kX kO)) (zz56_X3 kX) o0 t2 p3 t10 t11 := by kernel_rfl
theorem zz56_iter3 (N : Nat) (kX : St → Option (Y2 × Unit)) (kO : Nat → St → Option (Y2 × Unit)) : ∀ (n : Nat) (o0 : Y5) (t2 : Y2) (p3 : Y2) (t10 : Int) (t11 : Int), zz56_R3 N n (zz56_E3 kX kO) o0 t2 p3 t10 t11 = zz56_l3 N (zz56_X3 kX) n o0 t2 p3 t10 t11
  | 0, _, _, _, _, _ => rfl
  | m + 1, o0, t2, p3, t10, t11 => by
    have hrec : zz56_R3 N m (zz56_E3 kX kO) = (zz56_l3 N (zz56_X3 kX) m) := (funext fun o0 => (funext fun t2 => (funext fun p3 => (funext fun t10 => (funext fun t11 => zz56_iter3 N kX kO m o0 t2 p3 t10 t11)))))
    refine (zz56_step3 N m kX kO o0 t2 p3 t10 t11).trans ?_
    rw [(funext fun o0 => (funext fun t2 => (funext fun p3 => (funext fun x4 => (funext fun list5 => (funext fun t10 => (funext fun t11 => (funext fun t16 => (funext fun t17 => zz56_in7 N m kX kO (zz56_l3 N (zz56_X3 kX) m) hrec o0 t2 p3 x4 list5 t10 t11 t16 t17)))))))))]
    rfl
noncomputable abbrev zz56_K3 (N : Nat) : Ex → St → Option (Y2 × Unit) := (blockK 0 (seqK ((A_zz56).shape 29) (run (A_zz56) N (codeAt Try.f68 [1, 1, 1])) zz56_z))
noncomputable abbrev zz56_k3 (N : Nat) : St → Option (Y2 × Unit) := fun st' => run (A_zz56) N (codeAt Try.f68 [1, 1, 1]) st' zz56_z
theorem zz56_after3 (N : Nat) (t2 : Y2) (p3 : Y2) : zz56_X3 (zz56_k3 N) t2 p3 = zz56_a3 t2 p3 := by kernel_rfl
theorem zz56_in3 (N : Nat) (o0 : Y5) (t2 : Y2) (p3 : Y2) (t10 : Int) (t11 : Int) : zz56_R3 N N (zz56_K3 N) o0 t2 p3 t10 t11 = zz56_F3 N o0 t2 p3 t10 t11 :=
  have h : zz56_X3 (zz56_k3 N) = (zz56_a3) := (funext fun t2 => (funext fun p3 => zz56_after3 N t2 p3))
  ((iter_ex (fun st => by kernel_rfl) (fun st => by kernel_rfl)).trans (zz56_iter3 N (zz56_k3 N) (fun j st => (zz56_K3 N) (.exit j) st) N o0 t2 p3 t10 t11)).trans (congrArg (fun k => zz56_l3 N k N o0 t2 p3 t10 t11) h)
theorem run0_zz56 (N : Nat) (x : (S_zz56).a.den) : runF (A_zz56) N Try.f68 S_zz56 x = (zz56_s (zz56_R3 N N (zz56_K3 N)) x.1) := by kernel_rfl
theorem run_zz56 (N : Nat) (x : (S_zz56).a.den) : runF (A_zz56) N Try.f68 S_zz56 x = zz56 N x.1 := by
  refine (run0_zz56 N x).trans ?_
  rw [(funext fun o0 => (funext fun t2 => (funext fun p3 => (funext fun t10 => (funext fun t11 => zz56_in3 N o0 t2 p3 t10 t11)))))]
  rfl
theorem fn_zz56 : FnOk Try.prog 68 := ⟨_, Try.func68, by kernel_rfl, by kernel_rfl⟩
theorem good_zz56 : Gx.Good Try.prog 68 S_zz56 := good_of_run Try.func68 (of_decide_eq_true (by kernel_rfl)) fun x r h => ⟨A_zz56, big, mkCfg_ok tabOk, mkCfg_sigs (show SigsOk Try.prog [] from trivial), (run_zz56 big x).trans h⟩

/-! zz57 -/
def zz57_b10 (rec : Y4 → Y2 → Y1 → Y4 → Y5 → Int → Int → Int → Int → Int → Int → Option ((Y2 × (Bool × Unit)) × Unit)) (k : Y4 → Y2 → Y1 → Y4 → Y5 → Int → Int → Option ((Y2 × (Bool × Unit)) × Unit)) (c1 : Y4) (t4 : Y2) (l6 : Y1) (least8 : Y4) (o9 : Y5) (i10 : Int) (x11 : Int) (t35 : Int) (t36 : Int) (t42 : Int) (t43 : Int) : Option ((Y2 × (Bool × Unit)) × Unit) :=
  cond (decide (t43 < t42))
  ((atI least8 t43).bind fun _ =>
  (least8[t43.toNat]?).bind fun xq8 =>
  (atI o9 i10).bind fun _ =>
  (o9[i10.toNat]?).bind fun xq9 =>
  (l6).bind fun xq10 =>
  (atI xq10.2.1 x11).bind fun xq11 =>
  (atI xq11 xq8).bind fun xq12 =>
  (atI c1 xq12).bind fun xq13 =>
  (o9[i10.toNat]?).bind fun xq14 =>
  (atI xq14 t43).bind fun _ =>
  (o9[i10.toNat]?).bind fun xq15 =>
  (xq15[t43.toNat]?).bind fun xq16 =>
  rec c1 t4 l6 least8 (o9.set i10.toNat (xq15.set t43.toNat (decide (xq13 = x11)))) i10 x11 t35 t36 t42 (IntKind.i64.wrap (t43 + (1 : Int))))
  (k c1 t4 l6 least8 o9 t35 t36)
def zz57_a10 (rec : Y4 → Y2 → Y1 → Y4 → Y5 → Int → Int → Option ((Y2 × (Bool × Unit)) × Unit)) (c1 : Y4) (t4 : Y2) (l6 : Y1) (least8 : Y4) (o9 : Y5) (t35 : Int) (t36 : Int) : Option ((Y2 × (Bool × Unit)) × Unit) :=
  rec c1 t4 l6 least8 o9 t35 (IntKind.i64.wrap (t36 + (1 : Int)))
def zz57_b7 (L10 : Y4 → Y2 → Y1 → Y4 → Y5 → Int → Int → Int → Int → Int → Int → Option ((Y2 × (Bool × Unit)) × Unit)) (k : Y2 → Y5 → Option ((Y2 × (Bool × Unit)) × Unit)) (c1 : Y4) (t4 : Y2) (l6 : Y1) (least8 : Y4) (o9 : Y5) (t35 : Int) (t36 : Int) : Option ((Y2 × (Bool × Unit)) × Unit) :=
  cond (decide (t36 < t35))
  ((atI least8 t36).bind fun _ =>
  (least8[t36.toNat]?).bind fun xq6 =>
  L10 c1 t4 l6 least8 o9 t36 xq6 t35 t36 (least8.length : Int) (0 : Int))
  (k t4 o9)
def zz57_a7 (t4 : Y2) (o9 : Y5) : Option ((Y2 × (Bool × Unit)) × Unit) :=
  (zz56 big o9).bind fun rq7 =>
  some ((rq7.1, true, ()), (()))
def zz57_s (L7 : Y4 → Y2 → Y1 → Y4 → Y5 → Int → Int → Option ((Y2 × (Bool × Unit)) × Unit)) (p_0 : Y2) (c_1 : Y4) : Option ((Y2 × (Bool × Unit)) × Unit) :=
  (zz47 p_0).bind fun rq1 =>
  cond (!rq1.1.2.1)
  (some (((([] : Y3), ()), false, ()), (())))
  ((zz49 rq1.1.1).bind fun rq2 =>
  (zz54 rq2.1 c_1).bind fun rq3 =>
  cond (!rq3.1)
  (some (((([] : Y3), ()), false, ()), (())))
  ((zz55 big c_1).bind fun rq4 =>
  (zz36 big (rq4.1.length : Int)).bind fun rq5 =>
  L7 c_1 (([] : Y3), ()) rq1.1.1 rq4.1 rq5.1 (rq4.1.length : Int) (0 : Int)))
def zz57_l10 (N : Nat) (k : Y4 → Y2 → Y1 → Y4 → Y5 → Int → Int → Option ((Y2 × (Bool × Unit)) × Unit)) : Nat → Y4 → Y2 → Y1 → Y4 → Y5 → Int → Int → Int → Int → Int → Int → Option ((Y2 × (Bool × Unit)) × Unit)
  | 0, _, _, _, _, _, _, _, _, _, _, _ => none
  | m + 1, c1, t4, l6, least8, o9, i10, x11, t35, t36, t42, t43 => zz57_b10 (zz57_l10 N k m) k c1 t4 l6 least8 o9 i10 x11 t35 t36 t42 t43
def zz57_F10 (N : Nat) (rec : Y4 → Y2 → Y1 → Y4 → Y5 → Int → Int → Option ((Y2 × (Bool × Unit)) × Unit)) (k : Y2 → Y5 → Option ((Y2 × (Bool × Unit)) × Unit)) (c1 : Y4) (t4 : Y2) (l6 : Y1) (least8 : Y4) (o9 : Y5) (i10 : Int) (x11 : Int) (t35 : Int) (t36 : Int) (t42 : Int) (t43 : Int) : Option ((Y2 × (Bool × Unit)) × Unit) := zz57_l10 N (zz57_a10 rec) N c1 t4 l6 least8 o9 i10 x11 t35 t36 t42 t43
def zz57_l7 (N : Nat) (k : Y2 → Y5 → Option ((Y2 × (Bool × Unit)) × Unit)) : Nat → Y4 → Y2 → Y1 → Y4 → Y5 → Int → Int → Option ((Y2 × (Bool × Unit)) × Unit)
  | 0, _, _, _, _, _, _, _ => none
  | m + 1, c1, t4, l6, least8, o9, t35, t36 => zz57_b7 (zz57_F10 N (zz57_l7 N k m) k) k c1 t4 l6 least8 o9 t35 t36
def zz57_F7 (N : Nat) (c1 : Y4) (t4 : Y2) (l6 : Y1) (least8 : Y4) (o9 : Y5) (t35 : Int) (t36 : Int) : Option ((Y2 × (Bool × Unit)) × Unit) := zz57_l7 N (zz57_a7) N c1 t4 l6 least8 o9 t35 t36
def zz57 (N : Nat) (p_0 : Y2) (c_1 : Y4) : Option ((Y2 × (Bool × Unit)) × Unit) := zz57_s (zz57_F7 N) p_0 c_1
def S_zz57 : Sig := { a := (.pair (.pair (.sl (.sl I)) .unit) (.pair (.sl I) .unit)), md := [0, 0], mf := [], m := .unit, r := (.tup (.pair (.pair (.sl (.sl I)) .unit) (.pair .bool .unit))), rf := (.p (.p (.o (.o .i)) .i) .i), f := fun x => zz57 big x.1 x.2.1 }
def A_zz57 : Cfg := mkCfg tab [(51, S_zz47), (59, S_zz49), (58, S_zz54), (66, S_zz55), (67, S_zz36), (68, S_zz56)] [(14, [.drop, .as (.sl I) .i, .drop, .drop, .as (.ptr (.pair (.sl (.sl I)) .unit)) (.o (.p (.o (.o .i)) .i)), .drop, .as (.opt (.pair (.sl (.sl .bool)) (.pair (.sl (.sl I)) (.pair (.sl (.sl I)) .unit)))) .i, .drop, .as (.sl I) (.o .i), .as (.sl (.sl .bool)) (.o (.o .i)), .drop, .drop, .drop, .drop, .drop, .drop, .drop, .drop, .drop, .drop, .drop, .drop, .drop, .drop, .drop, .drop, .drop, .drop, .drop, .drop, .drop, .drop, .drop, .drop, .keep, .as I .i, .as I .i]), (20, [.drop, .as (.sl I) .i, .drop, .drop, .as (.ptr (.pair (.sl (.sl I)) .unit)) (.o (.p (.o (.o .i)) .i)), .drop, .as (.opt (.pair (.sl (.sl .bool)) (.pair (.sl (.sl I)) (.pair (.sl (.sl I)) .unit)))) .i, .drop, .as (.sl I) (.o .i), .as (.sl (.sl .bool)) (.o (.o .i)), .as I .i, .as I .i, .drop, .drop, .drop, .drop, .drop, .drop, .drop, .drop, .drop, .drop, .drop, .drop, .drop, .drop, .drop, .drop, .drop, .drop, .drop, .drop, .drop, .drop, .keep, .as I .i, .as I .i, .drop, .drop, .drop, .drop, .keep, .as I .i, .as I .i]), (31, [.drop, .drop, .drop, .drop, .as (.ptr (.pair (.sl (.sl I)) .unit)) (.o (.p (.o (.o .i)) .i)), .drop, .drop, .drop, .drop, .as (.sl (.sl .bool)) (.o (.o .i))]), (29, [.drop, .as (.sl I) .i, .drop, .drop, .as (.ptr (.pair (.sl (.sl I)) .unit)) (.o (.p (.o (.o .i)) .i)), .drop, .as (.opt (.pair (.sl (.sl .bool)) (.pair (.sl (.sl I)) (.pair (.sl (.sl I)) .unit)))) .i, .drop, .as (.sl I) (.o .i), .as (.sl (.sl .bool)) (.o (.o .i)), .drop, .drop, .drop, .drop, .drop, .drop, .drop, .drop, .drop, .drop, .drop, .drop, .drop, .drop, .drop, .drop, .drop, .drop, .drop, .drop, .drop, .drop, .drop, .drop, .keep, .as I .i, .as I .i])]
noncomputable def zz57_R7 (N n : Nat) (K : Ex → St → Option ((Y2 × (Bool × Unit)) × Unit)) (c1 : Y4) (t4 : Y2) (l6 : Y1) (least8 : Y4) (o9 : Y5) (t35 : Int) (t36 : Int) : Option ((Y2 × (Bool × Unit)) × Unit) := iter ((A_zz57).shape 14) (run (A_zz57) N (codeAt Try.f32 [1, 1, 1, 1, 1, 0, 1, 0, 0])) n ([.u, .val (.sl I) .i c1, .u, .u, .val (.ptr (.pair (.sl (.sl I)) .unit)) (.o (.p (.o (.o .i)) .i)) t4, .u, .val (.opt (.pair (.sl (.sl .bool)) (.pair (.sl (.sl I)) (.pair (.sl (.sl I)) .unit)))) .i l6, .u, .val (.sl I) (.o .i) least8, .val (.sl (.sl .bool)) (.o (.o .i)) o9, .u, .u, .u, .u, .u, .u, .u, .u, .u, .u, .u, .u, .u, .u, .u, .u, .u, .u, .u, .u, .u, .u, .u, .u, .ref 8 [] .val, .val I .i t35, .val I .i t36] ++ List.replicate 36 .u) K
noncomputable def zz57_R10 (N n : Nat) (K : Ex → St → Option ((Y2 × (Bool × Unit)) × Unit)) (c1 : Y4) (t4 : Y2) (l6 : Y1) (least8 : Y4) (o9 : Y5) (i10 : Int) (x11 : Int) (t35 : Int) (t36 : Int) (t42 : Int) (t43 : Int) : Option ((Y2 × (Bool × Unit)) × Unit) := iter ((A_zz57).shape 20) (run (A_zz57) N (codeAt Try.f32 [1, 1, 1, 1, 1, 0, 1, 0, 0, 1, 1, 0, 0, 1, 1, 0, 0])) n ([.u, .val (.sl I) .i c1, .u, .u, .val (.ptr (.pair (.sl (.sl I)) .unit)) (.o (.p (.o (.o .i)) .i)) t4, .u, .val (.opt (.pair (.sl (.sl .bool)) (.pair (.sl (.sl I)) (.pair (.sl (.sl I)) .unit)))) .i l6, .u, .val (.sl I) (.o .i) least8, .val (.sl (.sl .bool)) (.o (.o .i)) o9, .val I .i i10, .val I .i x11, .u, .u, .u, .u, .u, .u, .u, .u, .u, .u, .u, .u, .u, .u, .u, .u, .u, .u, .u, .u, .u, .u, .ref 8 [] .val, .val I .i t35, .val I .i t36, .u, .u, .u, .u, .ref 8 [] .val, .val I .i t42, .val I .i t43] ++ List.replicate 29 .u) K
noncomputable abbrev zz57_z : Ex → St → Option ((Y2 × (Bool × Unit)) × Unit) := finish (A_zz57) S_zz57 Try.f32.results.toList
noncomputable abbrev zz57_X7 (kX : St → Option ((Y2 × (Bool × Unit)) × Unit)) : Y2 → Y5 → Option ((Y2 × (Bool × Unit)) × Unit) := fun (t4 : Y2) (o9 : Y5) => kX ([.u, .u, .u, .u, .val (.ptr (.pair (.sl (.sl I)) .unit)) (.o (.p (.o (.o .i)) .i)) t4, .u, .u, .u, .u, .val (.sl (.sl .bool)) (.o (.o .i)) o9] ++ List.replicate 63 .u)
noncomputable abbrev zz57_E7 (kX : St → Option ((Y2 × (Bool × Unit)) × Unit)) (kO : Nat → St → Option ((Y2 × (Bool × Unit)) × Unit)) : Ex → St → Option ((Y2 × (Bool × Unit)) × Unit) := exK zz57_z 0 ((A_zz57).shape 31) kX kO
noncomputable abbrev zz57_X10 (kX : St → Option ((Y2 × (Bool × Unit)) × Unit)) : Y4 → Y2 → Y1 → Y4 → Y5 → Int → Int → Option ((Y2 × (Bool × Unit)) × Unit) := fun (c1 : Y4) (t4 : Y2) (l6 : Y1) (least8 : Y4) (o9 : Y5) (t35 : Int) (t36 : Int) => kX ([.u, .val (.sl I) .i c1, .u, .u, .val (.ptr (.pair (.sl (.sl I)) .unit)) (.o (.p (.o (.o .i)) .i)) t4, .u, .val (.opt (.pair (.sl (.sl .bool)) (.pair (.sl (.sl I)) (.pair (.sl (.sl I)) .unit)))) .i l6, .u, .val (.sl I) (.o .i) least8, .val (.sl (.sl .bool)) (.o (.o .i)) o9, .u, .u, .u, .u, .u, .u, .u, .u, .u, .u, .u, .u, .u, .u, .u, .u, .u, .u, .u, .u, .u, .u, .u, .u, .ref 8 [] .val, .val I .i t35, .val I .i t36] ++ List.replicate 36 .u)
noncomputable abbrev zz57_E10 (kX : St → Option ((Y2 × (Bool × Unit)) × Unit)) (kO : Nat → St → Option ((Y2 × (Bool × Unit)) × Unit)) : Ex → St → Option ((Y2 × (Bool × Unit)) × Unit) := exK zz57_z 2 ((A_zz57).shape 29) kX kO
theorem zz57_step10 (N : Nat) (m : Nat) (kX : St → Option ((Y2 × (Bool × Unit)) × Unit)) (kO : Nat → St → Option ((Y2 × (Bool × Unit)) × Unit)) (c1 : Y4) (t4 : Y2) (l6 : Y1) (least8 : Y4) (o9 : Y5) (i10 : Int) (x11 : Int) (t35 : Int) (t36 : Int) (t42 : Int) (t43 : Int) : zz57_R10 N (m + 1) (zz57_E10 kX kO) c1 t4 l6 least8 o9 i10 x11 t35 t36 t42 t43 = zz57_b10 (zz57_R10 N m (zz57_E10 kX kO)) (zz57_X10 kX) c1 t4 l6 least8 o9 i10 x11 t35 t36 t42 t43 := by kernel_rfl
theorem zz57_iter10 (N : Nat) (kX : St → Option ((Y2 × (Bool × Unit)) × Unit)) (kO : Nat → St → Option ((Y2 × (Bool × Unit)) × Unit)) : ∀ (n : Nat) (c1 : Y4) (t4 : Y2) (l6 : Y1) (least8 : Y4) (o9 : Y5) (i10 : Int) (x11 : Int) (t35 : Int) (t36 : Int) (t42 : Int) (t43 : Int), zz57_R10 N n (zz57_E10 kX kO) c1 t4 l6 least8 o9 i10 x11 t35 t36 t42 t43 = zz57_l10 N (zz57_X10 kX) n c1 t4 l6 least8 o9 i10 x11 t35 t36 t42 t43
  | 0, _, _, _, _, _, _, _, _, _, _, _ => rfl
  | m + 1, c1, t4, l6, least8, o9, i10, x11, t35, t36, t42, t43 => by
    have hrec : zz57_R10 N m (zz57_E10 kX kO) = (zz57_l10 N (zz57_X10 kX) m) := (funext fun c1 => (funext fun t4 => (funext fun l6 => (funext fun least8 => (funext fun o9 => (funext fun i10 => (funext fun x11 => (funext fun t35 => (funext fun t36 => (funext fun t42 => (funext fun t43 => zz57_iter10 N kX kO m c1 t4 l6 least8 o9 i10 x11 t35 t36 t42 t43)))))))))))
    refine (zz57_step10 N m kX kO c1 t4 l6 least8 o9 i10 x11 t35 t36 t42 t43).trans ?_
    rw [hrec]
    rfl
noncomputable abbrev zz57_K10 (N : Nat) (m : Nat) (kX : St → Option ((Y2 × (Bool × Unit)) × Unit)) (kO : Nat → St → Option ((Y2 × (Bool × Unit)) × Unit)) : Ex → St → Option ((Y2 × (Bool × Unit)) × Unit) := (blockK 2 (blockK 1 (seqK ((A_zz57).shape 29) (run (A_zz57) N (codeAt Try.f32 [1, 1, 1, 1, 1, 0, 1, 0, 0, 1, 1, 1])) (iterK ((A_zz57).shape 14) (run (A_zz57) N (codeAt Try.f32 [1, 1, 1, 1, 1, 0, 1, 0, 0])) m (zz57_E7 kX kO)))))
noncomputable abbrev zz57_k10 (N : Nat) (m : Nat) (kX : St → Option ((Y2 × (Bool × Unit)) × Unit)) (kO : Nat → St → Option ((Y2 × (Bool × Unit)) × Unit)) : St → Option ((Y2 × (Bool × Unit)) × Unit) := fun st' => run (A_zz57) N (codeAt Try.f32 [1, 1, 1, 1, 1, 0, 1, 0, 0, 1, 1, 1]) st' (iterK ((A_zz57).shape 14) (run (A_zz57) N (codeAt Try.f32 [1, 1, 1, 1, 1, 0, 1, 0, 0])) m (zz57_E7 kX kO))
theorem zz57_after10 (N : Nat) (m : Nat) (kX : St → Option ((Y2 × (Bool × Unit)) × Unit)) (kO : Nat → St → Option ((Y2 × (Bool × Unit)) × Unit)) (c1 : Y4) (t4 : Y2) (l6 : Y1) (least8 : Y4) (o9 : Y5) (t35 : Int) (t36 : Int) : zz57_X10 (zz57_k10 N m kX kO) c1 t4 l6 least8 o9 t35 t36 = zz57_a10 (zz57_R7 N m (zz57_E7 kX kO)) c1 t4 l6 least8 o9 t35 t36 := by kernel_rfl
theorem zz57_in10 (N : Nat) (m : Nat) (kX : St → Option ((Y2 × (Bool × Unit)) × Unit)) (kO : Nat → St → Option ((Y2 × (Bool × Unit)) × Unit)) (recF : Y4 → Y2 → Y1 → Y4 → Y5 → Int → Int → Option ((Y2 × (Bool × Unit)) × Unit)) (hrec : zz57_R7 N m (zz57_E7 kX kO) = recF) (c1 : Y4) (t4 : Y2) (l6 : Y1) (least8 : Y4) (o9 : Y5) (i10 : Int) (x11 : Int) (t35 : Int) (t36 : Int) (t42 : Int) (t43 : Int) : zz57_R10 N N (zz57_K10 N m kX kO) c1 t4 l6 least8 o9 i10 x11 t35 t36 t42 t43 = zz57_F10 N recF (zz57_X7 kX) c1 t4 l6 least8 o9 i10 x11 t35 t36 t42 t43 :=
  have h : zz57_X10 (zz57_k10 N m kX kO) = (zz57_a10 recF) := (funext fun c1 => (funext fun t4 => (funext fun l6 => (funext fun least8 => (funext fun o9 => (funext fun t35 => (funext fun t36 => (zz57_after10 N m kX kO c1 t4 l6 least8 o9 t35 t36).trans (by rw [hrec]))))))))
  ((iter_ex (fun st => by kernel_rfl) (fun st => by kernel_rfl)).trans (zz57_iter10 N (zz57_k10 N m kX kO) (fun j st => (zz57_K10 N m kX kO) (.exit j) st) N c1 t4 l6 least8 o9 i10 x11 t35 t36 t42 t43)).trans (congrArg (fun k => zz57_l10 N k N c1 t4 l6 least8 o9 i10 x11 t35 t36 t42 t43) h)
theorem zz57_step7 (N : Nat) (m : Nat) (kX : St → Option ((Y2 × (Bool × Unit)) × Unit)) (kO : Nat → St → Option ((Y2 × (Bool × Unit)) × Unit)) (c1 : Y4) (t4 : Y2) (l6 : Y1) (least8 : Y4) (o9 : Y5) (t35 : Int) (t36 : Int) : zz57_R7 N (m + 1) (zz57_E7 kX kO) c1 t4 l6 least8 o9 t35 t36 = zz57_b7 (zz57_R10 N N (zz57_K10 N m kX kO)) (zz57_X7 kX) c1 t4 l6 least8 o9 t35 t36 := by kernel_rfl
theorem zz57_iter7 (N : Nat) (kX : St → Option ((Y2 × (Bool × Unit)) × Unit)) (kO : Nat → St → Option ((Y2 × (Bool × Unit)) × Unit)) : ∀ (n : Nat) (c1 : Y4) (t4 : Y2) (l6 : Y1) (least8 : Y4) (o9 : Y5) (t35 : Int) (t36 : Int), zz57_R7 N n (zz57_E7 kX kO) c1 t4 l6 least8 o9 t35 t36 = zz57_l7 N (zz57_X7 kX) n c1 t4 l6 least8 o9 t35 t36
  | 0, _, _, _, _, _, _, _ => rfl
  | m + 1, c1, t4, l6, least8, o9, t35, t36 => by
    have hrec : zz57_R7 N m (zz57_E7 kX kO) = (zz57_l7 N (zz57_X7 kX) m) := (funext fun c1 => (funext fun t4 => (funext fun l6 => (funext fun least8 => (funext fun o9 => (funext fun t35 => (funext fun t36 => zz57_iter7 N kX kO m c1 t4 l6 least8 o9 t35 t36)))))))
    refine (zz57_step7 N m kX kO c1 t4 l6 least8 o9 t35 t36).trans ?_
    rw [(funext fun c1 => (funext fun t4 => (funext fun l6 => (funext fun least8 => (funext fun o9 => (funext fun i10 => (funext fun x11 => (funext fun t35 => (funext fun t36 => (funext fun t42 => (funext fun t43 => zz57_in10 N m kX kO (zz57_l7 N (zz57_X7 kX) m) hrec c1 t4 l6 least8 o9 i10 x11 t35 t36 t42 t43)))))))))))]
    rfl
noncomputable abbrev zz57_K7 (N : Nat) : Ex → St → Option ((Y2 × (Bool × Unit)) × Unit) := (blockK 0 (seqK ((A_zz57).shape 31) (run (A_zz57) N (codeAt Try.f32 [1, 1, 1, 1, 1, 1])) zz57_z))
noncomputable abbrev zz57_k7 (N : Nat) : St → Option ((Y2 × (Bool × Unit)) × Unit) := fun st' => run (A_zz57) N (codeAt Try.f32 [1, 1, 1, 1, 1, 1]) st' zz57_z
theorem zz57_after7 (N : Nat) (t4 : Y2) (o9 : Y5) : zz57_X7 (zz57_k7 N) t4 o9 = zz57_a7 t4 o9 := by kernel_rfl
theorem zz57_in7 (N : Nat) (c1 : Y4) (t4 : Y2) (l6 : Y1) (least8 : Y4) (o9 : Y5) (t35 : Int) (t36 : Int) : zz57_R7 N N (zz57_K7 N) c1 t4 l6 least8 o9 t35 t36 = zz57_F7 N c1 t4 l6 least8 o9 t35 t36 :=
  have h : zz57_X7 (zz57_k7 N) = (zz57_a7) := (funext fun t4 => (funext fun o9 => zz57_after7 N t4 o9))
  ((iter_ex (fun st => by kernel_rfl) (fun st => by kernel_rfl)).trans (zz57_iter7 N (zz57_k7 N) (fun j st => (zz57_K7 N) (.exit j) st) N c1 t4 l6 least8 o9 t35 t36)).trans (congrArg (fun k => zz57_l7 N k N c1 t4 l6 least8 o9 t35 t36) h)
theorem run0_zz57 (N : Nat) (x : (S_zz57).a.den) : runF (A_zz57) N Try.f32 S_zz57 x = (zz57_s (zz57_R7 N N (zz57_K7 N)) x.1 x.2.1) := by kernel_rfl
theorem run_zz57 (N : Nat) (x : (S_zz57).a.den) : runF (A_zz57) N Try.f32 S_zz57 x = zz57 N x.1 x.2.1 := by
  refine (run0_zz57 N x).trans ?_
  rw [(funext fun c1 => (funext fun t4 => (funext fun l6 => (funext fun least8 => (funext fun o9 => (funext fun t35 => (funext fun t36 => zz57_in7 N c1 t4 l6 least8 o9 t35 t36)))))))]
  rfl
theorem fn_zz57 : FnOk Try.prog 32 := ⟨_, Try.func32, by kernel_rfl, by kernel_rfl⟩
theorem good_zz57 : Gx.Good Try.prog 32 S_zz57 := good_of_run Try.func32 (of_decide_eq_true (by kernel_rfl)) fun x r h => ⟨A_zz57, big, mkCfg_ok tabOk, mkCfg_sigs (show SigsOk Try.prog [(51, S_zz47), (59, S_zz49), (58, S_zz54), (66, S_zz55), (67, S_zz36), (68, S_zz56)] from ⟨⟨fn_zz47, good_zz47⟩, ⟨fn_zz49, good_zz49⟩, ⟨fn_zz54, good_zz54⟩, ⟨fn_zz55, good_zz55⟩, ⟨fn_zz36, good_zz36⟩, ⟨fn_zz56, good_zz56⟩, trivial⟩), (run_zz57 big x).trans h⟩

/-! zz58 -/
def zz58_b4 (rec : Y4 → Y4 → Int → Option (Bool × Unit)) (k : Option (Bool × Unit)) (a0 : Y4) (b1 : Y4) (i5 : Int) : Option (Bool × Unit) :=
  cond (decide (i5 < (a0.length : Int)))
  ((atI a0 i5).bind fun xq1 =>
  (atI b1 i5).bind fun xq2 =>
  cond (decide (xq1 ≠ xq2))
  (some (false, (())))
  (rec a0 b1 (IntKind.i64.wrap (i5 + (1 : Int)))))
  (k)
def zz58_a4 : Option (Bool × Unit) :=
  some (true, (()))
def zz58_s (L4 : Y4 → Y4 → Int → Option (Bool × Unit)) (a_0 : Y4) (b_1 : Y4) : Option (Bool × Unit) :=
  cond (decide ((a_0.length : Int) ≠ (b_1.length : Int)))
  (some (false, (())))
  (L4 a_0 b_1 (0 : Int))
def zz58_l4 (N : Nat) (k : Option (Bool × Unit)) : Nat → Y4 → Y4 → Int → Option (Bool × Unit)
  | 0, _, _, _ => none
  | m + 1, a0, b1, i5 => zz58_b4 (zz58_l4 N k m) k a0 b1 i5
def zz58_F4 (N : Nat) (a0 : Y4) (b1 : Y4) (i5 : Int) : Option (Bool × Unit) := zz58_l4 N (zz58_a4) N a0 b1 i5
def zz58 (N : Nat) (a_0 : Y4) (b_1 : Y4) : Option (Bool × Unit) := zz58_s (zz58_F4 N) a_0 b_1
def S_zz58 : Sig := { a := (.pair (.sl I) (.pair (.sl I) .unit)), md := [0, 0], mf := [], m := .unit, r := .bool, rf := .i, f := fun x => zz58 big x.1 x.2.1 }
def A_zz58 : Cfg := mkCfg tab [] [(8, [.as (.sl I) .i, .as (.sl I) .i, .drop, .drop, .drop, .as I .i]), (17, [])]
noncomputable def zz58_R4 (N n : Nat) (K : Ex → St → Option (Bool × Unit)) (a0 : Y4) (b1 : Y4) (i5 : Int) : Option (Bool × Unit) := iter ((A_zz58).shape 8) (run (A_zz58) N (codeAt Try.f23 [1, 1, 0, 1, 0, 0])) n ([.val (.sl I) .i a0, .val (.sl I) .i b1, .u, .u, .u, .val I .i i5] ++ List.replicate 20 .u) K
noncomputable abbrev zz58_z : Ex → St → Option (Bool × Unit) := finish (A_zz58) S_zz58 Try.f23.results.toList
noncomputable abbrev zz58_X4 (kX : St → Option (Bool × Unit)) : Option (Bool × Unit) := kX ([] ++ List.replicate 26 .u)
noncomputable abbrev zz58_E4 (kX : St → Option (Bool × Unit)) (kO : Nat → St → Option (Bool × Unit)) : Ex → St → Option (Bool × Unit) := exK zz58_z 0 ((A_zz58).shape 17) kX kO
theorem zz58_step4 (N : Nat) (m : Nat) (kX : St → Option (Bool × Unit)) (kO : Nat → St → Option (Bool × Unit)) (a0 : Y4) (b1 : Y4) (i5 : Int) : zz58_R4 N (m + 1) (zz58_E4 kX kO) a0 b1 i5 = zz58_b4 (zz58_R4 N m (zz58_E4 kX kO)) (zz58_X4 kX) a0 b1 i5 := by kernel_rfl
theorem zz58_iter4 (N : Nat) (kX : St → Option (Bool × Unit)) (kO : Nat → St → Option (Bool × Unit)) : ∀ (n : Nat) (a0 : Y4) (b1 : Y4) (i5 : Int), zz58_R4 N n (zz58_E4 kX kO) a0 b1 i5 = zz58_l4 N (zz58_X4 kX) n a0 b1 i5
  | 0, _, _, _ => rfl
  | m + 1, a0, b1, i5 => by
    have hrec : zz58_R4 N m (zz58_E4 kX kO) = (zz58_l4 N (zz58_X4 kX) m) := (funext fun a0 => (funext fun b1 => (funext fun i5 => zz58_iter4 N kX kO m a0 b1 i5)))
    refine (zz58_step4 N m kX kO a0 b1 i5).trans ?_
    rw [hrec]
    rfl
noncomputable abbrev zz58_K4 (N : Nat) : Ex → St → Option (Bool × Unit) := (blockK 0 (seqK ((A_zz58).shape 17) (run (A_zz58) N (codeAt Try.f23 [1, 1, 1])) zz58_z))
noncomputable abbrev zz58_k4 (N : Nat) : St → Option (Bool × Unit) := fun st' => run (A_zz58) N (codeAt Try.f23 [1, 1, 1]) st' zz58_z
theorem zz58_after4 (N : Nat) : zz58_X4 (zz58_k4 N) = zz58_a4 := by kernel_rfl
theorem zz58_in4 (N : Nat) (a0 : Y4) (b1 : Y4) (i5 : Int) : zz58_R4 N N (zz58_K4 N) a0 b1 i5 = zz58_F4 N a0 b1 i5 :=
  have h : zz58_X4 (zz58_k4 N) = (zz58_a4) := zz58_after4 N
  ((iter_ex (fun st => by kernel_rfl) (fun st => by kernel_rfl)).trans (zz58_iter4 N (zz58_k4 N) (fun j st => (zz58_K4 N) (.exit j) st) N a0 b1 i5)).trans (congrArg (fun k => zz58_l4 N k N a0 b1 i5) h)
theorem run0_zz58 (N : Nat) (x : (S_zz58).a.den) : runF (A_zz58) N Try.f23 S_zz58 x = (zz58_s (zz58_R4 N N (zz58_K4 N)) x.1 x.2.1) := by kernel_rfl
theorem run_zz58 (N : Nat) (x : (S_zz58).a.den) : runF (A_zz58) N Try.f23 S_zz58 x = zz58 N x.1 x.2.1 := by
  refine (run0_zz58 N x).trans ?_
  rw [(funext fun a0 => (funext fun b1 => (funext fun i5 => zz58_in4 N a0 b1 i5)))]
  rfl
theorem fn_zz58 : FnOk Try.prog 23 := ⟨_, Try.func23, by kernel_rfl, by kernel_rfl⟩
theorem good_zz58 : Gx.Good Try.prog 23 S_zz58 := good_of_run Try.func23 (of_decide_eq_true (by kernel_rfl)) fun x r h => ⟨A_zz58, big, mkCfg_ok tabOk, mkCfg_sigs (show SigsOk Try.prog [] from trivial), (run_zz58 big x).trans h⟩

/-! zz59 -/
def zz59_b4 (rec : Y3 → Y3 → Int → Option (Bool × Unit)) (k : Option (Bool × Unit)) (a0 : Y3) (b1 : Y3) (i5 : Int) : Option (Bool × Unit) :=
  cond (decide (i5 < (a0.length : Int)))
  ((atI a0 i5).bind fun xq1 =>
  (atI b1 i5).bind fun xq2 =>
  (zz58 big xq1 xq2).bind fun rq3 =>
  cond (!rq3.1)
  (some (false, (())))
  (rec a0 b1 (IntKind.i64.wrap (i5 + (1 : Int)))))
  (k)
def zz59_a4 : Option (Bool × Unit) :=
  some (true, (()))
def zz59_s (L4 : Y3 → Y3 → Int → Option (Bool × Unit)) (a_0 : Y3) (b_1 : Y3) : Option (Bool × Unit) :=
  cond (decide ((a_0.length : Int) ≠ (b_1.length : Int)))
  (some (false, (())))
  (L4 a_0 b_1 (0 : Int))
def zz59_l4 (N : Nat) (k : Option (Bool × Unit)) : Nat → Y3 → Y3 → Int → Option (Bool × Unit)
  | 0, _, _, _ => none
  | m + 1, a0, b1, i5 => zz59_b4 (zz59_l4 N k m) k a0 b1 i5
def zz59_F4 (N : Nat) (a0 : Y3) (b1 : Y3) (i5 : Int) : Option (Bool × Unit) := zz59_l4 N (zz59_a4) N a0 b1 i5
def zz59 (N : Nat) (a_0 : Y3) (b_1 : Y3) : Option (Bool × Unit) := zz59_s (zz59_F4 N) a_0 b_1
def S_zz59 : Sig := { a := (.pair (.sl (.sl I)) (.pair (.sl (.sl I)) .unit)), md := [0, 0], mf := [], m := .unit, r := .bool, rf := .i, f := fun x => zz59 big x.1 x.2.1 }
def A_zz59 : Cfg := mkCfg tab [(23, S_zz58)] [(8, [.as (.sl (.sl I)) .i, .as (.sl (.sl I)) .i, .drop, .drop, .drop, .as I .i]), (17, [])]
noncomputable def zz59_R4 (N n : Nat) (K : Ex → St → Option (Bool × Unit)) (a0 : Y3) (b1 : Y3) (i5 : Int) : Option (Bool × Unit) := iter ((A_zz59).shape 8) (run (A_zz59) N (codeAt Try.f43 [1, 1, 0, 1, 0, 0])) n ([.val (.sl (.sl I)) .i a0, .val (.sl (.sl I)) .i b1, .u, .u, .u, .val I .i i5] ++ List.replicate 21 .u) K
noncomputable abbrev zz59_z : Ex → St → Option (Bool × Unit) := finish (A_zz59) S_zz59 Try.f43.results.toList
noncomputable abbrev zz59_X4 (kX : St → Option (Bool × Unit)) : Option (Bool × Unit) := kX ([] ++ List.replicate 27 .u)
noncomputable abbrev zz59_E4 (kX : St → Option (Bool × Unit)) (kO : Nat → St → Option (Bool × Unit)) : Ex → St → Option (Bool × Unit) := exK zz59_z 0 ((A_zz59).shape 17) kX kO
theorem zz59_step4 (N : Nat) (m : Nat) (kX : St → Option (Bool × Unit)) (kO : Nat → St → Option (Bool × Unit)) (a0 : Y3) (b1 : Y3) (i5 : Int) : zz59_R4 N (m + 1) (zz59_E4 kX kO) a0 b1 i5 = zz59_b4 (zz59_R4 N m (zz59_E4 kX kO)) (zz59_X4 kX) a0 b1 i5 := by kernel_rfl
theorem zz59_iter4 (N : Nat) (kX : St → Option (Bool × Unit)) (kO : Nat → St → Option (Bool × Unit)) : ∀ (n : Nat) (a0 : Y3) (b1 : Y3) (i5 : Int), zz59_R4 N n (zz59_E4 kX kO) a0 b1 i5 = zz59_l4 N (zz59_X4 kX) n a0 b1 i5
  | 0, _, _, _ => rfl
  | m + 1, a0, b1, i5 => by
    have hrec : zz59_R4 N m (zz59_E4 kX kO) = (zz59_l4 N (zz59_X4 kX) m) := (funext fun a0 => (funext fun b1 => (funext fun i5 => zz59_iter4 N kX kO m a0 b1 i5)))
    refine (zz59_step4 N m kX kO a0 b1 i5).trans ?_
    rw [hrec]
    rfl
noncomputable abbrev zz59_K4 (N : Nat) : Ex → St → Option (Bool × Unit) := (blockK 0 (seqK ((A_zz59).shape 17) (run (A_zz59) N (codeAt Try.f43 [1, 1, 1])) zz59_z))
noncomputable abbrev zz59_k4 (N : Nat) : St → Option (Bool × Unit) := fun st' => run (A_zz59) N (codeAt Try.f43 [1, 1, 1]) st' zz59_z
theorem zz59_after4 (N : Nat) : zz59_X4 (zz59_k4 N) = zz59_a4 := by kernel_rfl
theorem zz59_in4 (N : Nat) (a0 : Y3) (b1 : Y3) (i5 : Int) : zz59_R4 N N (zz59_K4 N) a0 b1 i5 = zz59_F4 N a0 b1 i5 :=
  have h : zz59_X4 (zz59_k4 N) = (zz59_a4) := zz59_after4 N
  ((iter_ex (fun st => by kernel_rfl) (fun st => by kernel_rfl)).trans (zz59_iter4 N (zz59_k4 N) (fun j st => (zz59_K4 N) (.exit j) st) N a0 b1 i5)).trans (congrArg (fun k => zz59_l4 N k N a0 b1 i5) h)
theorem run0_zz59 (N : Nat) (x : (S_zz59).a.den) : runF (A_zz59) N Try.f43 S_zz59 x = (zz59_s (zz59_R4 N N (zz59_K4 N)) x.1 x.2.1) := by kernel_rfl
theorem run_zz59 (N : Nat) (x : (S_zz59).a.den) : runF (A_zz59) N Try.f43 S_zz59 x = zz59 N x.1 x.2.1 := by
  refine (run0_zz59 N x).trans ?_
  rw [(funext fun a0 => (funext fun b1 => (funext fun i5 => zz59_in4 N a0 b1 i5)))]
  rfl
theorem fn_zz59 : FnOk Try.prog 43 := ⟨_, Try.func43, by kernel_rfl, by kernel_rfl⟩
theorem good_zz59 : Gx.Good Try.prog 43 S_zz59 := good_of_run Try.func43 (of_decide_eq_true (by kernel_rfl)) fun x r h => ⟨A_zz59, big, mkCfg_ok tabOk, mkCfg_sigs (show SigsOk Try.prog [(23, S_zz58)] from ⟨⟨fn_zz58, good_zz58⟩, trivial⟩), (run_zz59 big x).trans h⟩

/-! zz60 -/
def zz60_s (a_0 : Y2) (b_1 : Y2) : Option (Bool × Unit) :=
  (zz59 big a_0.1 b_1.1).bind fun rq1 =>
  cond (!rq1.1)
  (some (false, (())))
  (some (true, (())))
def zz60 (a_0 : Y2) (b_1 : Y2) : Option (Bool × Unit) := zz60_s a_0 b_1
def S_zz60 : Sig := { a := (.pair (.pair (.sl (.sl I)) .unit) (.pair (.pair (.sl (.sl I)) .unit) .unit)), md := [0, 0], mf := [], m := .unit, r := .bool, rf := .i, f := fun x => zz60 x.1 x.2.1 }
def A_zz60 : Cfg := mkCfg tab [(43, S_zz59)] []
theorem run_zz60 (N : Nat) (x : (S_zz60).a.den) : runF (A_zz60) N Try.f14 S_zz60 x = zz60 x.1 x.2.1 := by kernel_rfl
theorem fn_zz60 : FnOk Try.prog 14 := ⟨_, Try.func14, by kernel_rfl, by kernel_rfl⟩
theorem good_zz60 : Gx.Good Try.prog 14 S_zz60 := good_of_run Try.func14 (of_decide_eq_true (by kernel_rfl)) fun x r h => ⟨A_zz60, big, mkCfg_ok tabOk, mkCfg_sigs (show SigsOk Try.prog [(43, S_zz59)] from ⟨⟨fn_zz59, good_zz59⟩, trivial⟩), (run_zz60 big x).trans h⟩

/-! zz61 -/
def zz61_b2 (rec : Y4 → Int → Int → Option Y6) (k : Y4 → Int → Option Y6) (a0 : Y4) (k1 : Int) (i5 : Int) : Option Y6 :=
  cond (decide (i5 < (a0.length : Int)))
  ((atI a0 i5).bind fun _ =>
  (a0[i5.toNat]?).bind fun xq1 =>
  rec (a0.set i5.toNat k1) (IntKind.i64.wrap (k1 + (1 : Int))) (IntKind.i64.wrap (i5 + (1 : Int))))
  (k a0 k1)
def zz61_a2 (a0 : Y4) (k1 : Int) : Option Y6 :=
  some (k1, (a0, ()))
def zz61_s (L2 : Y4 → Int → Int → Option Y6) (a_0 : Y4) (k_1 : Int) : Option Y6 :=
  L2 a_0 k_1 (0 : Int)
def zz61_l2 (N : Nat) (k : Y4 → Int → Option Y6) : Nat → Y4 → Int → Int → Option Y6
  | 0, _, _, _ => none
  | m + 1, a0, k1, i5 => zz61_b2 (zz61_l2 N k m) k a0 k1 i5
def zz61_F2 (N : Nat) (a0 : Y4) (k1 : Int) (i5 : Int) : Option Y6 := zz61_l2 N (zz61_a2) N a0 k1 i5
def zz61 (N : Nat) (a_0 : Y4) (k_1 : Int) : Option Y6 := zz61_s (zz61_F2 N) a_0 k_1
def S_zz61 : Sig := { a := (.pair (.sl I) (.pair I .unit)), md := [1, 0], mf := [(.o .i)], m := (.pair (.sl I) .unit), r := I, rf := .i, f := fun x => zz61 big x.1 x.2.1 }
def A_zz61 : Cfg := mkCfg tab [] [(4, [.as (.sl I) (.o .i), .as I .i, .drop, .drop, .drop, .as I .i]), (13, [.as (.sl I) (.o .i), .as I .i])]
noncomputable def zz61_R2 (N n : Nat) (K : Ex → St → Option Y6) (a0 : Y4) (k1 : Int) (i5 : Int) : Option Y6 := iter ((A_zz61).shape 4) (run (A_zz61) N (codeAt Try.f24 [1, 0, 1, 0, 0])) n ([.val (.sl I) (.o .i) a0, .val I .i k1, .u, .u, .u, .val I .i i5] ++ List.replicate 13 .u) K
noncomputable abbrev zz61_z : Ex → St → Option Y6 := finish (A_zz61) S_zz61 Try.f24.results.toList
noncomputable abbrev zz61_X2 (kX : St → Option Y6) : Y4 → Int → Option Y6 := fun (a0 : Y4) (k1 : Int) => kX ([.val (.sl I) (.o .i) a0, .val I .i k1] ++ List.replicate 17 .u)
noncomputable abbrev zz61_E2 (kX : St → Option Y6) (kO : Nat → St → Option Y6) : Ex → St → Option Y6 := exK zz61_z 0 ((A_zz61).shape 13) kX kO
theorem zz61_step2 (N : Nat) (m : Nat) (kX : St → Option Y6) (kO : Nat → St → Option Y6) (a0 : Y4) (k1 : Int) (i5 : Int) : zz61_R2 N (m + 1) (zz61_E2 kX kO) a0 k1 i5 = zz61_b2 (zz61_R2 N m (zz61_E2 kX kO)) (zz61_X2 kX) a0 k1 i5 := by kernel_rfl
theorem zz61_iter2 (N : Nat) (kX : St → Option Y6) (kO : Nat → St → Option Y6) : ∀ (n : Nat) (a0 : Y4) (k1 : Int) (i5 : Int), zz61_R2 N n (zz61_E2 kX kO) a0 k1 i5 = zz61_l2 N (zz61_X2 kX) n a0 k1 i5
  | 0, _, _, _ => rfl
  | m + 1, a0, k1, i5 => by
    have hrec : zz61_R2 N m (zz61_E2 kX kO) = (zz61_l2 N (zz61_X2 kX) m) := (funext fun a0 => (funext fun k1 => (funext fun i5 => zz61_iter2 N kX kO m a0 k1 i5)))
    refine (zz61_step2 N m kX kO a0 k1 i5).trans ?_
    rw [hrec]
    rfl
noncomputable abbrev zz61_K2 (N : Nat) : Ex → St → Option Y6 := (blockK 0 (seqK ((A_zz61).shape 13) (run (A_zz61) N (codeAt Try.f24 [1, 1])) zz61_z))
noncomputable abbrev zz61_k2 (N : Nat) : St → Option Y6 := fun st' => run (A_zz61) N (codeAt Try.f24 [1, 1]) st' zz61_z
theorem zz61_after2 (N : Nat) (a0 : Y4) (k1 : Int) : zz61_X2 (zz61_k2 N) a0 k1 = zz61_a2 a0 k1 := by kernel_rfl
theorem zz61_in2 (N : Nat) (a0 : Y4) (k1 : Int) (i5 : Int) : zz61_R2 N N (zz61_K2 N) a0 k1 i5 = zz61_F2 N a0 k1 i5 :=
  have h : zz61_X2 (zz61_k2 N) = (zz61_a2) := (funext fun a0 => (funext fun k1 => zz61_after2 N a0 k1))
  ((iter_ex (fun st => by kernel_rfl) (fun st => by kernel_rfl)).trans (zz61_iter2 N (zz61_k2 N) (fun j st => (zz61_K2 N) (.exit j) st) N a0 k1 i5)).trans (congrArg (fun k => zz61_l2 N k N a0 k1 i5) h)
theorem run0_zz61 (N : Nat) (x : (S_zz61).a.den) : runF (A_zz61) N Try.f24 S_zz61 x = (zz61_s (zz61_R2 N N (zz61_K2 N)) x.1 x.2.1) := by kernel_rfl
theorem run_zz61 (N : Nat) (x : (S_zz61).a.den) : runF (A_zz61) N Try.f24 S_zz61 x = zz61 N x.1 x.2.1 := by
  refine (run0_zz61 N x).trans ?_
  rw [(funext fun a0 => (funext fun k1 => (funext fun i5 => zz61_in2 N a0 k1 i5)))]
  rfl
theorem fn_zz61 : FnOk Try.prog 24 := ⟨_, Try.func24, by kernel_rfl, by kernel_rfl⟩
theorem good_zz61 : Gx.Good Try.prog 24 S_zz61 := good_of_run Try.func24 (of_decide_eq_true (by kernel_rfl)) fun x r h => ⟨A_zz61, big, mkCfg_ok tabOk, mkCfg_sigs (show SigsOk Try.prog [] from trivial), (run_zz61 big x).trans h⟩

/-! zz62 -/
def zz62_b2 (rec : Y3 → Int → Int → Option (Int × Y2)) (k : Y3 → Int → Option (Int × Y2)) (a0 : Y3) (k1 : Int) (i5 : Int) : Option (Int × Y2) :=
  cond (decide (i5 < (a0.length : Int)))
  ((atI a0 i5).bind fun _ =>
  (a0[i5.toNat]?).bind fun xq1 =>
  (a0[i5.toNat]?).bind fun xq2 =>
  (zz61 big xq2 k1).bind fun rq3 =>
  (a0[i5.toNat]?).bind fun xq4 =>
  (a0[i5.toNat]?).bind fun xq5 =>
  rec (a0.set i5.toNat rq3.2.1) rq3.1 (IntKind.i64.wrap (i5 + (1 : Int))))
  (k a0 k1)
def zz62_a2 (a0 : Y3) (k1 : Int) : Option (Int × Y2) :=
  some (k1, (a0, ()))
def zz62_s (L2 : Y3 → Int → Int → Option (Int × Y2)) (a_0 : Y3) (k_1 : Int) : Option (Int × Y2) :=
  L2 a_0 k_1 (0 : Int)
def zz62_l2 (N : Nat) (k : Y3 → Int → Option (Int × Y2)) : Nat → Y3 → Int → Int → Option (Int × Y2)
  | 0, _, _, _ => none
  | m + 1, a0, k1, i5 => zz62_b2 (zz62_l2 N k m) k a0 k1 i5
def zz62_F2 (N : Nat) (a0 : Y3) (k1 : Int) (i5 : Int) : Option (Int × Y2) := zz62_l2 N (zz62_a2) N a0 k1 i5
def zz62 (N : Nat) (a_0 : Y3) (k_1 : Int) : Option (Int × Y2) := zz62_s (zz62_F2 N) a_0 k_1
def S_zz62 : Sig := { a := (.pair (.sl (.sl I)) (.pair I .unit)), md := [1, 0], mf := [(.o (.o .i))], m := (.pair (.sl (.sl I)) .unit), r := I, rf := .i, f := fun x => zz62 big x.1 x.2.1 }
def A_zz62 : Cfg := mkCfg tab [(24, S_zz61)] [(4, [.as (.sl (.sl I)) (.o (.o .i)), .as I .i, .drop, .drop, .drop, .as I .i]), (11, [.as (.sl (.sl I)) (.o (.o .i)), .as I .i])]
noncomputable def zz62_R2 (N n : Nat) (K : Ex → St → Option (Int × Y2)) (a0 : Y3) (k1 : Int) (i5 : Int) : Option (Int × Y2) := iter ((A_zz62).shape 4) (run (A_zz62) N (codeAt Try.f44 [1, 0, 1, 0, 0])) n ([.val (.sl (.sl I)) (.o (.o .i)) a0, .val I .i k1, .u, .u, .u, .val I .i i5] ++ List.replicate 13 .u) K
noncomputable abbrev zz62_z : Ex → St → Option (Int × Y2) := finish (A_zz62) S_zz62 Try.f44.results.toList
noncomputable abbrev zz62_X2 (kX : St → Option (Int × Y2)) : Y3 → Int → Option (Int × Y2) := fun (a0 : Y3) (k1 : Int) => kX ([.val (.sl (.sl I)) (.o (.o .i)) a0, .val I .i k1] ++ List.replicate 17 .u)
noncomputable abbrev zz62_E2 (kX : St → Option (Int × Y2)) (kO : Nat → St → Option (Int × Y2)) : Ex → St → Option (Int × Y2) := exK zz62_z 0 ((A_zz62).shape 11) kX kO
theorem zz62_step2 (N : Nat) (m : Nat) (kX : St → Option (Int × Y2)) (kO : Nat → St → Option (Int × Y2)) (a0 : Y3) (k1 : Int) (i5 : Int) : zz62_R2 N (m + 1) (zz62_E2 kX kO) a0 k1 i5 = zz62_b2 (zz62_R2 N m (zz62_E2 kX kO)) (zz62_X2 kX) a0 k1 i5 := by kernel_rfl
theorem zz62_iter2 (N : Nat) (kX : St → Option (Int × Y2)) (kO : Nat → St → Option (Int × Y2)) : ∀ (n : Nat) (a0 : Y3) (k1 : Int) (i5 : Int), zz62_R2 N n (zz62_E2 kX kO) a0 k1 i5 = zz62_l2 N (zz62_X2 kX) n a0 k1 i5
  | 0, _, _, _ => rfl
  | m + 1, a0, k1, i5 => by
    have hrec : zz62_R2 N m (zz62_E2 kX kO) = (zz62_l2 N (zz62_X2 kX) m) := (funext fun a0 => (funext fun k1 => (funext fun i5 => zz62_iter2 N kX kO m a0 k1 i5)))
    refine (zz62_step2 N m kX kO a0 k1 i5).trans ?_
    rw [hrec]
    rfl
noncomputable abbrev zz62_K2 (N : Nat) : Ex → St → Option (Int × Y2) := (blockK 0 (seqK ((A_zz62).shape 11) (run (A_zz62) N (codeAt Try.f44 [1, 1])) zz62_z))
noncomputable abbrev zz62_k2 (N : Nat) : St → Option (Int × Y2) := fun st' => run (A_zz62) N (codeAt Try.f44 [1, 1]) st' zz62_z
theorem zz62_after2 (N : Nat) (a0 : Y3) (k1 : Int) : zz62_X2 (zz62_k2 N) a0 k1 = zz62_a2 a0 k1 := by kernel_rfl
theorem zz62_in2 (N : Nat) (a0 : Y3) (k1 : Int) (i5 : Int) : zz62_R2 N N (zz62_K2 N) a0 k1 i5 = zz62_F2 N a0 k1 i5 :=
  have h : zz62_X2 (zz62_k2 N) = (zz62_a2) := (funext fun a0 => (funext fun k1 => zz62_after2 N a0 k1))
  ((iter_ex (fun st => by kernel_rfl) (fun st => by kernel_rfl)).trans (zz62_iter2 N (zz62_k2 N) (fun j st => (zz62_K2 N) (.exit j) st) N a0 k1 i5)).trans (congrArg (fun k => zz62_l2 N k N a0 k1 i5) h)
theorem run0_zz62 (N : Nat) (x : (S_zz62).a.den) : runF (A_zz62) N Try.f44 S_zz62 x = (zz62_s (zz62_R2 N N (zz62_K2 N)) x.1 x.2.1) := by kernel_rfl
theorem run_zz62 (N : Nat) (x : (S_zz62).a.den) : runF (A_zz62) N Try.f44 S_zz62 x = zz62 N x.1 x.2.1 := by
  refine (run0_zz62 N x).trans ?_
  rw [(funext fun a0 => (funext fun k1 => (funext fun i5 => zz62_in2 N a0 k1 i5)))]
  rfl
theorem fn_zz62 : FnOk Try.prog 44 := ⟨_, Try.func44, by kernel_rfl, by kernel_rfl⟩
theorem good_zz62 : Gx.Good Try.prog 44 S_zz62 := good_of_run Try.func44 (of_decide_eq_true (by kernel_rfl)) fun x r h => ⟨A_zz62, big, mkCfg_ok tabOk, mkCfg_sigs (show SigsOk Try.prog [(24, S_zz61)] from ⟨⟨fn_zz61, good_zz61⟩, trivial⟩), (run_zz62 big x).trans h⟩

/-! zz63 -/
def zz63 (a_0 : Y2) (k_1 : Int) : Option (Int × (Y2 × Unit)) := (zz62 big a_0.1 k_1).bind fun r => some (r.1, ((r.2.1, ()), ()))
def S_zz63 : Sig := { a := (.pair (.pair (.sl (.sl I)) .unit) (.pair I .unit)), md := [1, 0], mf := [(.p (.o (.o .i)) .i)], m := (.pair (.pair (.sl (.sl I)) .unit) .unit), r := I, rf := .i, f := fun x => zz63 x.1 x.2.1 }
theorem fn_zz63 : FnOk Try.prog 15 := ⟨_, Try.func15, by kernel_rfl, by kernel_rfl⟩
theorem good_zz63 : Gx.Good Try.prog 15 S_zz63   := good_bx1 (A := mkCfg tab [] []) (T := 31) (TS := 22) (mkCfg_ok tabOk) Try.func15 (by kernel_rfl) (by kernel_rfl) fn_zz62 (by kernel_rfl) (by kernel_rfl) good_zz62

/-! zz64 -/
def zz64_b2 (rec : Y4 → Int → Int → Option (Int × Unit)) (k : Int → Option (Int × Unit)) (a0 : Y4) (k1 : Int) (i5 : Int) : Option (Int × Unit) :=
  cond (decide (i5 < (a0.length : Int)))
  ((atI a0 i5).bind fun xq1 =>
  cond (decide (xq1 ≠ k1))
  (some ((-1 : Int), (())))
  (rec a0 (IntKind.i64.wrap (k1 + (1 : Int))) (IntKind.i64.wrap (i5 + (1 : Int)))))
  (k k1)
def zz64_a2 (k1 : Int) : Option (Int × Unit) :=
  some (k1, (()))
def zz64_s (L2 : Y4 → Int → Int → Option (Int × Unit)) (a_0 : Y4) (k_1 : Int) : Option (Int × Unit) :=
  L2 a_0 k_1 (0 : Int)
def zz64_l2 (N : Nat) (k : Int → Option (Int × Unit)) : Nat → Y4 → Int → Int → Option (Int × Unit)
  | 0, _, _, _ => none
  | m + 1, a0, k1, i5 => zz64_b2 (zz64_l2 N k m) k a0 k1 i5
def zz64_F2 (N : Nat) (a0 : Y4) (k1 : Int) (i5 : Int) : Option (Int × Unit) := zz64_l2 N (zz64_a2) N a0 k1 i5
def zz64 (N : Nat) (a_0 : Y4) (k_1 : Int) : Option (Int × Unit) := zz64_s (zz64_F2 N) a_0 k_1
def S_zz64 : Sig := { a := (.pair (.sl I) (.pair I .unit)), md := [0, 0], mf := [], m := .unit, r := I, rf := .i, f := fun x => zz64 big x.1 x.2.1 }
def A_zz64 : Cfg := mkCfg tab [] [(4, [.as (.sl I) .i, .as I .i, .drop, .drop, .drop, .as I .i]), (15, [.drop, .as I .i])]
noncomputable def zz64_R2 (N n : Nat) (K : Ex → St → Option (Int × Unit)) (a0 : Y4) (k1 : Int) (i5 : Int) : Option (Int × Unit) := iter ((A_zz64).shape 4) (run (A_zz64) N (codeAt Try.f25 [1, 0, 1, 0, 0])) n ([.val (.sl I) .i a0, .val I .i k1, .u, .u, .u, .val I .i i5] ++ List.replicate 15 .u) K
noncomputable abbrev zz64_z : Ex → St → Option (Int × Unit) := finish (A_zz64) S_zz64 Try.f25.results.toList
noncomputable abbrev zz64_X2 (kX : St → Option (Int × Unit)) : Int → Option (Int × Unit) := fun (k1 : Int) => kX ([.u, .val I .i k1] ++ List.replicate 19 .u)
noncomputable abbrev zz64_E2 (kX : St → Option (Int × Unit)) (kO : Nat → St → Option (Int × Unit)) : Ex → St → Option (Int × Unit) := exK zz64_z 0 ((A_zz64).shape 15) kX kO
theorem zz64_step2 (N : Nat) (m : Nat) (kX : St → Option (Int × Unit)) (kO : Nat → St → Option (Int × Unit)) (a0 : Y4) (k1 : Int) (i5 : Int) : zz64_R2 N (m + 1) (zz64_E2 kX kO) a0 k1 i5 = zz64_b2 (zz64_R2 N m (zz64_E2 kX kO)) (zz64_X2 kX) a0 k1 i5 := by kernel_rfl
theorem zz64_iter2 (N : Nat) (kX : St → Option (Int × Unit)) (kO : Nat → St → Option (Int × Unit)) : ∀ (n : Nat) (a0 : Y4) (k1 : Int) (i5 : Int), zz64_R2 N n (zz64_E2 kX kO) a0 k1 i5 = zz64_l2 N (zz64_X2 kX) n a0 k1 i5
  | 0, _, _, _ => rfl
  | m + 1, a0, k1, i5 => by
    have hrec : zz64_R2 N m (zz64_E2 kX kO) = (zz64_l2 N (zz64_X2 kX) m) := (funext fun a0 => (funext fun k1 => (funext fun i5 => zz64_iter2 N kX kO m a0 k1 i5)))
    refine (zz64_step2 N m kX kO a0 k1 i5).trans ?_
    rw [hrec]
    rfl
noncomputable abbrev zz64_K2 (N : Nat) : Ex → St → Option (Int × Unit) := (blockK 0 (seqK ((A_zz64).shape 15) (run (A_zz64) N (codeAt Try.f25 [1, 1])) zz64_z))
noncomputable abbrev zz64_k2 (N : Nat) : St → Option (Int × Unit) := fun st' => run (A_zz64) N (codeAt Try.f25 [1, 1]) st' zz64_z
theorem zz64_after2 (N : Nat) (k1 : Int) : zz64_X2 (zz64_k2 N) k1 = zz64_a2 k1 := by kernel_rfl
theorem zz64_in2 (N : Nat) (a0 : Y4) (k1 : Int) (i5 : Int) : zz64_R2 N N (zz64_K2 N) a0 k1 i5 = zz64_F2 N a0 k1 i5 :=
  have h : zz64_X2 (zz64_k2 N) = (zz64_a2) := (funext fun k1 => zz64_after2 N k1)
  ((iter_ex (fun st => by kernel_rfl) (fun st => by kernel_rfl)).trans (zz64_iter2 N (zz64_k2 N) (fun j st => (zz64_K2 N) (.exit j) st) N a0 k1 i5)).trans (congrArg (fun k => zz64_l2 N k N a0 k1 i5) h)
theorem run0_zz64 (N : Nat) (x : (S_zz64).a.den) : runF (A_zz64) N Try.f25 S_zz64 x = (zz64_s (zz64_R2 N N (zz64_K2 N)) x.1 x.2.1) := by kernel_rfl
theorem run_zz64 (N : Nat) (x : (S_zz64).a.den) : runF (A_zz64) N Try.f25 S_zz64 x = zz64 N x.1 x.2.1 := by
  refine (run0_zz64 N x).trans ?_
  rw [(funext fun a0 => (funext fun k1 => (funext fun i5 => zz64_in2 N a0 k1 i5)))]
  rfl
theorem fn_zz64 : FnOk Try.prog 25 := ⟨_, Try.func25, by kernel_rfl, by kernel_rfl⟩
theorem good_zz64 : Gx.Good Try.prog 25 S_zz64 := good_of_run Try.func25 (of_decide_eq_true (by kernel_rfl)) fun x r h => ⟨A_zz64, big, mkCfg_ok tabOk, mkCfg_sigs (show SigsOk Try.prog [] from trivial), (run_zz64 big x).trans h⟩

/-! zz65 -/
def zz65_b2 (rec : Y3 → Int → Int → Option (Int × Unit)) (k : Int → Option (Int × Unit)) (a0 : Y3) (k1 : Int) (i5 : Int) : Option (Int × Unit) :=
  cond (decide (i5 < (a0.length : Int)))
  ((atI a0 i5).bind fun xq1 =>
  (zz64 big xq1 k1).bind fun rq2 =>
  cond (decide (rq2.1 < (0 : Int)))
  (some ((-1 : Int), (())))
  (rec a0 rq2.1 (IntKind.i64.wrap (i5 + (1 : Int)))))
  (k k1)
def zz65_a2 (k1 : Int) : Option (Int × Unit) :=
  some (k1, (()))
def zz65_s (L2 : Y3 → Int → Int → Option (Int × Unit)) (a_0 : Y3) (k_1 : Int) : Option (Int × Unit) :=
  L2 a_0 k_1 (0 : Int)
def zz65_l2 (N : Nat) (k : Int → Option (Int × Unit)) : Nat → Y3 → Int → Int → Option (Int × Unit)
  | 0, _, _, _ => none
  | m + 1, a0, k1, i5 => zz65_b2 (zz65_l2 N k m) k a0 k1 i5
def zz65_F2 (N : Nat) (a0 : Y3) (k1 : Int) (i5 : Int) : Option (Int × Unit) := zz65_l2 N (zz65_a2) N a0 k1 i5
def zz65 (N : Nat) (a_0 : Y3) (k_1 : Int) : Option (Int × Unit) := zz65_s (zz65_F2 N) a_0 k_1
def S_zz65 : Sig := { a := (.pair (.sl (.sl I)) (.pair I .unit)), md := [0, 0], mf := [], m := .unit, r := I, rf := .i, f := fun x => zz65 big x.1 x.2.1 }
def A_zz65 : Cfg := mkCfg tab [(25, S_zz64)] [(4, [.as (.sl (.sl I)) .i, .as I .i, .drop, .drop, .drop, .as I .i]), (15, [.drop, .as I .i])]
noncomputable def zz65_R2 (N n : Nat) (K : Ex → St → Option (Int × Unit)) (a0 : Y3) (k1 : Int) (i5 : Int) : Option (Int × Unit) := iter ((A_zz65).shape 4) (run (A_zz65) N (codeAt Try.f69 [1, 0, 1, 0, 0])) n ([.val (.sl (.sl I)) .i a0, .val I .i k1, .u, .u, .u, .val I .i i5] ++ List.replicate 15 .u) K
noncomputable abbrev zz65_z : Ex → St → Option (Int × Unit) := finish (A_zz65) S_zz65 Try.f69.results.toList
noncomputable abbrev zz65_X2 (kX : St → Option (Int × Unit)) : Int → Option (Int × Unit) := fun (k1 : Int) => kX ([.u, .val I .i k1] ++ List.replicate 19 .u)
noncomputable abbrev zz65_E2 (kX : St → Option (Int × Unit)) (kO : Nat → St → Option (Int × Unit)) : Ex → St → Option (Int × Unit) := exK zz65_z 0 ((A_zz65).shape 15) kX kO
theorem zz65_step2 (N : Nat) (m : Nat) (kX : St → Option (Int × Unit)) (kO : Nat → St → Option (Int × Unit)) (a0 : Y3) (k1 : Int) (i5 : Int) : zz65_R2 N (m + 1) (zz65_E2 kX kO) a0 k1 i5 = zz65_b2 (zz65_R2 N m (zz65_E2 kX kO)) (zz65_X2 kX) a0 k1 i5 := by kernel_rfl
theorem zz65_iter2 (N : Nat) (kX : St → Option (Int × Unit)) (kO : Nat → St → Option (Int × Unit)) : ∀ (n : Nat) (a0 : Y3) (k1 : Int) (i5 : Int), zz65_R2 N n (zz65_E2 kX kO) a0 k1 i5 = zz65_l2 N (zz65_X2 kX) n a0 k1 i5
  | 0, _, _, _ => rfl
  | m + 1, a0, k1, i5 => by
    have hrec : zz65_R2 N m (zz65_E2 kX kO) = (zz65_l2 N (zz65_X2 kX) m) := (funext fun a0 => (funext fun k1 => (funext fun i5 => zz65_iter2 N kX kO m a0 k1 i5)))
    refine (zz65_step2 N m kX kO a0 k1 i5).trans ?_
    rw [hrec]
    rfl
noncomputable abbrev zz65_K2 (N : Nat) : Ex → St → Option (Int × Unit) := (blockK 0 (seqK ((A_zz65).shape 15) (run (A_zz65) N (codeAt Try.f69 [1, 1])) zz65_z))
noncomputable abbrev zz65_k2 (N : Nat) : St → Option (Int × Unit) := fun st' => run (A_zz65) N (codeAt Try.f69 [1, 1]) st' zz65_z
theorem zz65_after2 (N : Nat) (k1 : Int) : zz65_X2 (zz65_k2 N) k1 = zz65_a2 k1 := by kernel_rfl
theorem zz65_in2 (N : Nat) (a0 : Y3) (k1 : Int) (i5 : Int) : zz65_R2 N N (zz65_K2 N) a0 k1 i5 = zz65_F2 N a0 k1 i5 :=
  have h : zz65_X2 (zz65_k2 N) = (zz65_a2) := (funext fun k1 => zz65_after2 N k1)
  ((iter_ex (fun st => by kernel_rfl) (fun st => by kernel_rfl)).trans (zz65_iter2 N (zz65_k2 N) (fun j st => (zz65_K2 N) (.exit j) st) N a0 k1 i5)).trans (congrArg (fun k => zz65_l2 N k N a0 k1 i5) h)
theorem run0_zz65 (N : Nat) (x : (S_zz65).a.den) : runF (A_zz65) N Try.f69 S_zz65 x = (zz65_s (zz65_R2 N N (zz65_K2 N)) x.1 x.2.1) := by kernel_rfl
theorem run_zz65 (N : Nat) (x : (S_zz65).a.den) : runF (A_zz65) N Try.f69 S_zz65 x = zz65 N x.1 x.2.1 := by
  refine (run0_zz65 N x).trans ?_
  rw [(funext fun a0 => (funext fun k1 => (funext fun i5 => zz65_in2 N a0 k1 i5)))]
  rfl
theorem fn_zz65 : FnOk Try.prog 69 := ⟨_, Try.func69, by kernel_rfl, by kernel_rfl⟩
theorem good_zz65 : Gx.Good Try.prog 69 S_zz65 := good_of_run Try.func69 (of_decide_eq_true (by kernel_rfl)) fun x r h => ⟨A_zz65, big, mkCfg_ok tabOk, mkCfg_sigs (show SigsOk Try.prog [(25, S_zz64)] from ⟨⟨fn_zz64, good_zz64⟩, trivial⟩), (run_zz65 big x).trans h⟩

/-! zz66 -/
def zz66_s (a_0 : Y2) (k_1 : Int) : Option (Int × Unit) :=
  (zz65 big a_0.1 k_1).bind fun rq1 =>
  cond (decide (rq1.1 < (0 : Int)))
  (some ((-1 : Int), (())))
  (some (rq1.1, (())))
def zz66 (a_0 : Y2) (k_1 : Int) : Option (Int × Unit) := zz66_s a_0 k_1
def S_zz66 : Sig := { a := (.pair (.pair (.sl (.sl I)) .unit) (.pair I .unit)), md := [0, 0], mf := [], m := .unit, r := I, rf := .i, f := fun x => zz66 x.1 x.2.1 }
def A_zz66 : Cfg := mkCfg tab [(69, S_zz65)] []
theorem run_zz66 (N : Nat) (x : (S_zz66).a.den) : runF (A_zz66) N Try.f33 S_zz66 x = zz66 x.1 x.2.1 := by kernel_rfl
theorem fn_zz66 : FnOk Try.prog 33 := ⟨_, Try.func33, by kernel_rfl, by kernel_rfl⟩
theorem good_zz66 : Gx.Good Try.prog 33 S_zz66 := good_of_run Try.func33 (of_decide_eq_true (by kernel_rfl)) fun x r h => ⟨A_zz66, big, mkCfg_ok tabOk, mkCfg_sigs (show SigsOk Try.prog [(69, S_zz65)] from ⟨⟨fn_zz65, good_zz65⟩, trivial⟩), (run_zz66 big x).trans h⟩

/-! laws_FnExactQuotientLattice -/
def laws_FnExactQuotientLattice_s (aP_0 : Y2) (aC_1 : Y4) : Option (Bool × Unit) :=
  cond (decide ((1048576 : Int) < (aC_1.length : Int)))
  (some (true, (())))
  ((zz2 aP_0 (1048576 : Int)).bind fun rq1 =>
  cond (decide (rq1.1 < (0 : Int)))
  (some (true, (())))
  ((zz5 aP_0).bind fun rq2 =>
  (zz3 big aC_1).bind fun rq3 =>
  (zz35 rq2.1 rq3.1).bind fun rq4 =>
  (zz5 aP_0).bind fun rq5 =>
  (zz3 big aC_1).bind fun rq6 =>
  (zz57 big rq5.1 rq6.1).bind fun rq7 =>
  (zz60 rq7.1.1 rq4.1.1).bind fun rq8 =>
  cond (!rq8.1)
  (some (false, (())))
  (cond (((((), rq7.1.2).2).1) != ((((), rq4.1.2).2).1))
  (some (false, (())))
  ((zz5 aP_0).bind fun rq9 =>
  (zz60 rq5.1 rq9.1).bind fun rq10 =>
  cond (!rq10.1)
  (some (false, (())))
  ((zz3 big aC_1).bind fun rq11 =>
  (zz58 big rq6.1 rq11.1).bind fun rq12 =>
  cond (!rq12.1)
  (some (false, (())))
  ((zz63 rq5.1 (1 : Int)).bind fun rq13 =>
  (zz61 big rq6.1 rq13.1).bind fun rq14 =>
  cond (decide (rq14.1 < (0 : Int)))
  (some (false, (())))
  ((zz60 rq7.1.1 rq4.1.1).bind fun rq15 =>
  cond (!rq15.1)
  (some (false, (())))
  (cond (((((), rq7.1.2).2).1) != ((((), rq4.1.2).2).1))
  (some (false, (())))
  ((zz63 rq7.1.1 (1 : Int)).bind fun rq16 =>
  (zz66 rq16.2.1 (1 : Int)).bind fun rq17 =>
  cond (decide (rq17.1 < (0 : Int)))
  (some (false, (())))
  (cond (decide (rq17.1 ≠ rq16.1))
  (some (false, (())))
  ((zz5 aP_0).bind fun rq18 =>
  (zz3 big aC_1).bind fun rq19 =>
  (zz57 big rq18.1 rq19.1).bind fun rq20 =>
  (zz60 rq20.1.1 rq4.1.1).bind fun rq21 =>
  cond (!rq21.1)
  (some (false, (())))
  (cond (((((), rq20.1.2).2).1) != ((((), rq4.1.2).2).1))
  (some (false, (())))
  ((zz66 rq16.2.1 (1 : Int)).bind fun rq22 =>
  cond (decide (rq22.1 < (0 : Int)))
  (some (false, (())))
  (cond (decide (rq22.1 ≠ rq16.1))
  (some (false, (())))
  (some (true, (())))))))))))))))))
def laws_FnExactQuotientLattice (aP_0 : Y2) (aC_1 : Y4) : Option (Bool × Unit) := laws_FnExactQuotientLattice_s aP_0 aC_1
def S_laws_FnExactQuotientLattice : Sig := { a := (.pair (.pair (.sl (.sl I)) .unit) (.pair (.sl I) .unit)), md := [0, 0], mf := [], m := .unit, r := .bool, rf := .i, f := fun x => laws_FnExactQuotientLattice x.1 x.2.1 }
def A_laws_FnExactQuotientLattice : Cfg := mkCfg tab [(9, S_zz2), (11, S_zz5), (21, S_zz3), (31, S_zz35), (32, S_zz57), (14, S_zz60), (23, S_zz58), (15, S_zz63), (24, S_zz61), (33, S_zz66)] []
theorem run_laws_FnExactQuotientLattice (N : Nat) (x : (S_laws_FnExactQuotientLattice).a.den) : runF (A_laws_FnExactQuotientLattice) N Try.f7 S_laws_FnExactQuotientLattice x = laws_FnExactQuotientLattice x.1 x.2.1 := by kernel_rfl
theorem fn_laws_FnExactQuotientLattice : FnOk Try.prog 7 := ⟨_, Try.func7, by kernel_rfl, by kernel_rfl⟩
theorem good_laws_FnExactQuotientLattice : Gx.Good Try.prog 7 S_laws_FnExactQuotientLattice := good_of_run Try.func7 (of_decide_eq_true (by kernel_rfl)) fun x r h => ⟨A_laws_FnExactQuotientLattice, big, mkCfg_ok tabOk, mkCfg_sigs (show SigsOk Try.prog [(9, S_zz2), (11, S_zz5), (21, S_zz3), (31, S_zz35), (32, S_zz57), (14, S_zz60), (23, S_zz58), (15, S_zz63), (24, S_zz61), (33, S_zz66)] from ⟨⟨fn_zz2, good_zz2⟩, ⟨fn_zz5, good_zz5⟩, ⟨fn_zz3, good_zz3⟩, ⟨fn_zz35, good_zz35⟩, ⟨fn_zz57, good_zz57⟩, ⟨fn_zz60, good_zz60⟩, ⟨fn_zz58, good_zz58⟩, ⟨fn_zz63, good_zz63⟩, ⟨fn_zz61, good_zz61⟩, ⟨fn_zz66, good_zz66⟩, trivial⟩), (run_laws_FnExactQuotientLattice big x).trans h⟩
end Go.Proofs.Ytmkabioglfeflaa
