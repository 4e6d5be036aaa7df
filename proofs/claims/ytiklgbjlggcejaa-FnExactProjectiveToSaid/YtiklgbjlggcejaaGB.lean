import Derived.Test.YtiklgbjlggcejaaGBp1
set_option maxRecDepth 100000
set_option linter.unusedVariables false
namespace Go.Proofs.Ytiklgbjlggcejaa
open Go Go.Gx Go.Proofs

/-! zz34 -/
def zz34_b6 (rec : Y5 → Y5 → Int → Int → Int → Int → Int → Option (Y5 × Unit)) (k : Y5 → Y5 → Int → Int → Option (Y5 × Unit)) (o0 : Y5) (d3 : Y5) (x4 : Int) (t10 : Int) (t11 : Int) (t15 : Int) (t16 : Int) : Option (Y5 × Unit) :=
  cond (decide (t16 < t15))
  ((atI d3 x4).bind fun _ =>
  (d3[x4.toNat]?).bind fun xq2 =>
  (atI o0 t16).bind fun xq3 =>
  (atI xq3 x4).bind fun xq4 =>
  (d3[x4.toNat]?).bind fun xq5 =>
  (atI xq5 t16).bind fun _ =>
  (d3[x4.toNat]?).bind fun xq6 =>
  (xq6[t16.toNat]?).bind fun xq7 =>
  rec o0 (d3.set x4.toNat (xq6.set t16.toNat xq4)) x4 t10 t11 t15 (IntKind.i64.wrap (t16 + (1 : Int))))
  (k o0 d3 t10 t11)
def zz34_a6 (rec : Y5 → Y5 → Int → Int → Option (Y5 × Unit)) (o0 : Y5) (d3 : Y5) (t10 : Int) (t11 : Int) : Option (Y5 × Unit) :=
  rec o0 d3 t10 (IntKind.i64.wrap (t11 + (1 : Int)))
def zz34_b3 (L6 : Y5 → Y5 → Int → Int → Int → Int → Int → Option (Y5 × Unit)) (k : Y5 → Option (Y5 × Unit)) (o0 : Y5) (d3 : Y5) (t10 : Int) (t11 : Int) : Option (Y5 × Unit) :=
  cond (decide (t11 < t10))
  (L6 o0 d3 t11 t10 t11 (o0.length : Int) (0 : Int))
  (k d3)
def zz34_a3 (d3 : Y5) : Option (Y5 × Unit) :=
  some (d3, (()))
def zz34_s (L3 : Y5 → Y5 → Int → Int → Option (Y5 × Unit)) (o_0 : Y5) : Option (Y5 × Unit) :=
  (zz25 big (o_0.length : Int)).bind fun rq1 =>
  L3 o_0 rq1.1 (o_0.length : Int) (0 : Int)
def zz34_l6 (N : Nat) (k : Y5 → Y5 → Int → Int → Option (Y5 × Unit)) : Nat → Y5 → Y5 → Int → Int → Int → Int → Int → Option (Y5 × Unit)
  | 0, _, _, _, _, _, _, _ => none
  | m + 1, o0, d3, x4, t10, t11, t15, t16 => zz34_b6 (zz34_l6 N k m) k o0 d3 x4 t10 t11 t15 t16
def zz34_F6 (N : Nat) (rec : Y5 → Y5 → Int → Int → Option (Y5 × Unit)) (k : Y5 → Option (Y5 × Unit)) (o0 : Y5) (d3 : Y5) (x4 : Int) (t10 : Int) (t11 : Int) (t15 : Int) (t16 : Int) : Option (Y5 × Unit) := zz34_l6 N (zz34_a6 rec) N o0 d3 x4 t10 t11 t15 t16
def zz34_l3 (N : Nat) (k : Y5 → Option (Y5 × Unit)) : Nat → Y5 → Y5 → Int → Int → Option (Y5 × Unit)
  | 0, _, _, _, _ => none
  | m + 1, o0, d3, t10, t11 => zz34_b3 (zz34_F6 N (zz34_l3 N k m) k) k o0 d3 t10 t11
def zz34_F3 (N : Nat) (o0 : Y5) (d3 : Y5) (t10 : Int) (t11 : Int) : Option (Y5 × Unit) := zz34_l3 N (zz34_a3) N o0 d3 t10 t11
def zz34 (N : Nat) (o_0 : Y5) : Option (Y5 × Unit) := zz34_s (zz34_F3 N) o_0
def S_zz34 : Sig := { a := (.pair (.sl (.sl .bool)) .unit), md := [0], mf := [], m := .unit, r := (.sl (.sl .bool)), rf := (.o (.o .i)), f := fun x => zz34 big x.1 }
def A_zz34 : Cfg := mkCfg tab [(98, S_zz25)] [(6, [.as (.sl (.sl .bool)) .i, .drop, .drop, .as (.sl (.sl .bool)) (.o (.o .i)), .drop, .drop, .drop, .drop, .drop, .drop, .as I .i, .as I .i]), (12, [.as (.sl (.sl .bool)) .i, .drop, .drop, .as (.sl (.sl .bool)) (.o (.o .i)), .as I .i, .drop, .drop, .drop, .drop, .drop, .as I .i, .as I .i, .drop, .drop, .drop, .as I .i, .as I .i]), (23, [.drop, .drop, .drop, .as (.sl (.sl .bool)) (.o (.o .i))]), (21, [.as (.sl (.sl .bool)) .i, .drop, .drop, .as (.sl (.sl .bool)) (.o (.o .i)), .drop, .drop, .drop, .drop, .drop, .drop, .as I .i, .as I .i])]
noncomputable def zz34_R3 (N n : Nat) (K : Ex → St → Option (Y5 × Unit)) (o0 : Y5) (d3 : Y5) (t10 : Int) (t11 : Int) : Option (Y5 × Unit) := iter ((A_zz34).shape 6) (run (A_zz34) N (codeAt Try.f112 [1, 1, 0, 1, 0, 0])) n ([.val (.sl (.sl .bool)) .i o0, .u, .u, .val (.sl (.sl .bool)) (.o (.o .i)) d3, .u, .u, .u, .u, .u, .u, .val I .i t10, .val I .i t11] ++ List.replicate 23 .u) K
noncomputable def zz34_R6 (N n : Nat) (K : Ex → St → Option (Y5 × Unit)) (o0 : Y5) (d3 : Y5) (x4 : Int) (t10 : Int) (t11 : Int) (t15 : Int) (t16 : Int) : Option (Y5 × Unit) := iter ((A_zz34).shape 12) (run (A_zz34) N (codeAt Try.f112 [1, 1, 0, 1, 0, 0, 1, 1, 0, 0, 1, 1, 0, 0])) n ([.val (.sl (.sl .bool)) .i o0, .u, .u, .val (.sl (.sl .bool)) (.o (.o .i)) d3, .val I .i x4, .u, .u, .u, .u, .u, .val I .i t10, .val I .i t11, .u, .u, .u, .val I .i t15, .val I .i t16] ++ List.replicate 18 .u) K
noncomputable abbrev zz34_z : Ex → St → Option (Y5 × Unit) := finish (A_zz34) S_zz34 Try.f112.results.toList
noncomputable abbrev zz34_X3 (kX : St → Option (Y5 × Unit)) : Y5 → Option (Y5 × Unit) := fun (d3 : Y5) => kX ([.u, .u, .u, .val (.sl (.sl .bool)) (.o (.o .i)) d3] ++ List.replicate 31 .u)
noncomputable abbrev zz34_E3 (kX : St → Option (Y5 × Unit)) (kO : Nat → St → Option (Y5 × Unit)) : Ex → St → Option (Y5 × Unit) := exK zz34_z 0 ((A_zz34).shape 23) kX kO
noncomputable abbrev zz34_X6 (kX : St → Option (Y5 × Unit)) : Y5 → Y5 → Int → Int → Option (Y5 × Unit) := fun (o0 : Y5) (d3 : Y5) (t10 : Int) (t11 : Int) => kX ([.val (.sl (.sl .bool)) .i o0, .u, .u, .val (.sl (.sl .bool)) (.o (.o .i)) d3, .u, .u, .u, .u, .u, .u, .val I .i t10, .val I .i t11] ++ List.replicate 23 .u)
noncomputable abbrev zz34_E6 (kX : St → Option (Y5 × Unit)) (kO : Nat → St → Option (Y5 × Unit)) : Ex → St → Option (Y5 × Unit) := exK zz34_z 2 ((A_zz34).shape 21) kX kO
theorem zz34_step6 (N : Nat) (m : Nat) (kX : St → Option (Y5 × Unit)) (kO : Nat → St → Option (Y5 × Unit)) (o0 : Y5) (d3 : Y5) (x4 : Int) (t10 : Int) (t11 : Int) (t15 : Int) (t16 : Int) : zz34_R6 N (m + 1) (zz34_E6 kX kO) o0 d3 x4 t10 t11 t15 t16 = zz34_b6 (zz34_R6 N m (zz34_E6 kX kO)) (zz34_X6 kX) o0 d3 x4 t10 t11 t15 t16 := by kernel_rfl
theorem zz34_iter6 (N : Nat) (kX : St → Option (Y5 × Unit)) (kO : Nat → St → Option (Y5 × Unit)) : ∀ (n : Nat) (o0 : Y5) (d3 : Y5) (x4 : Int) (t10 : Int) (t11 : Int) (t15 : Int) (t16 : Int), zz34_R6 N n (zz34_E6 kX kO) o0 d3 x4 t10 t11 t15 t16 = zz34_l6 N (zz34_X6 kX) n o0 d3 x4 t10 t11 t15 t16
  | 0, _, _, _, _, _, _, _ => rfl
  | m + 1, o0, d3, x4, t10, t11, t15, t16 => by
    have hrec : zz34_R6 N m (zz34_E6 kX kO) = (zz34_l6 N (zz34_X6 kX) m) := (funext fun o0 => (funext fun d3 => (funext fun x4 => (funext fun t10 => (funext fun t11 => (funext fun t15 => (funext fun t16 => zz34_iter6 N kX kO m o0 d3 x4 t10 t11 t15 t16)))))))
    refine (zz34_step6 N m kX kO o0 d3 x4 t10 t11 t15 t16).trans ?_
    rw [hrec]
    rfl
noncomputable abbrev zz34_K6 (N : Nat) (m : Nat) (kX : St → Option (Y5 × Unit)) (kO : Nat → St → Option (Y5 × Unit)) : Ex → St → Option (Y5 × Unit) := (blockK 2 (blockK 1 (seqK ((A_zz34).shape 21) (run (A_zz34) N (codeAt Try.f112 [1, 1, 0, 1, 0, 0, 1, 1, 1])) (iterK ((A_zz34).shape 6) (run (A_zz34) N (codeAt Try.f112 [1, 1, 0, 1, 0, 0])) m (zz34_E3 kX kO)))))
noncomputable abbrev zz34_k6 (N : Nat) (m : Nat) (kX : St → Option (Y5 × Unit)) (kO : Nat → St → Option (Y5 × Unit)) : St → Option (Y5 × Unit) := fun st' => run (A_zz34) N (codeAt Try.f112 [1, 1, 0, 1, 0, 0, 1, 1, 1]) st' (iterK ((A_zz34).shape 6) (run (A_zz34) N (codeAt Try.f112 [1, 1, 0, 1, 0, 0])) m (zz34_E3 kX kO))
theorem zz34_after6 (N : Nat) (m : Nat) (kX : St → Option (Y5 × Unit)) (kO : Nat → St → Option (Y5 × Unit)) (o0 : Y5) (d3 : Y5) (t10 : Int) (t11 : Int) : zz34_X6 (zz34_k6 N m kX kO) o0 d3 t10 t11 = zz34_a6 (zz34_R3 N m (zz34_E3 kX kO)) o0 d3 t10 t11 := by kernel_rfl
theorem zz34_in6 (N : Nat) (m : Nat) (kX : St → Option (Y5 × Unit)) (kO : Nat → St → Option (Y5 × Unit)) (recF : Y5 → Y5 → Int → Int → Option (Y5 × Unit)) (hrec : zz34_R3 N m (zz34_E3 kX kO) = recF) (o0 : Y5) (d3 : Y5) (x4 : Int) (t10 : Int) (t11 : Int) (t15 : Int) (t16 : Int) : zz34_R6 N N (zz34_K6 N m kX kO) o0 d3 x4 t10 t11 t15 t16 = zz34_F6 N recF (zz34_X3 kX) o0 d3 x4 t10 t11 t15 t16 :=
  have h : zz34_X6 (zz34_k6 N m kX kO) = (zz34_a6 recF) := (funext fun o0 => (funext fun d3 => (funext fun t10 => (funext fun t11 => (zz34_after6 N m kX kO o0 d3 t10 t11).trans (by rw [hrec])))))
  ((iter_ex (fun st => by kernel_rfl) (fun st => by kernel_rfl)).trans (zz34_iter6 N (zz34_k6 N m kX kO) (fun j st => (zz34_K6 N m kX kO) (.exit j) st) N o0 d3 x4 t10 t11 t15 t16)).trans (congrArg (fun k => zz34_l6 N k N o0 d3 x4 t10 t11 t15 t16) h)
theorem zz34_step3 (N : Nat) (m : Nat) (kX : St → Option (Y5 × Unit)) (kO : Nat → St → Option (Y5 × Unit)) (o0 : Y5) (d3 : Y5) (t10 : Int) (t11 : Int) : zz34_R3 N (m + 1) (zz34_E3 kX kO) o0 d3 t10 t11 = zz34_b3 (zz34_R6 N N (zz34_K6 N m kX kO)) (zz34_X3 kX) o0 d3 t10 t11 := by kernel_rfl
theorem zz34_iter3 (N : Nat) (kX : St → Option (Y5 × Unit)) (kO : Nat → St → Option (Y5 × Unit)) : ∀ (n : Nat) (o0 : Y5) (d3 : Y5) (t10 : Int) (t11 : Int), zz34_R3 N n (zz34_E3 kX kO) o0 d3 t10 t11 = zz34_l3 N (zz34_X3 kX) n o0 d3 t10 t11
  | 0, _, _, _, _ => rfl
  | m + 1, o0, d3, t10, t11 => by
    have hrec : zz34_R3 N m (zz34_E3 kX kO) = (zz34_l3 N (zz34_X3 kX) m) := (funext fun o0 => (funext fun d3 => (funext fun t10 => (funext fun t11 => zz34_iter3 N kX kO m o0 d3 t10 t11))))
    refine (zz34_step3 N m kX kO o0 d3 t10 t11).trans ?_
    rw [(funext fun o0 => (funext fun d3 => (funext fun x4 => (funext fun t10 => (funext fun t11 => (funext fun t15 => (funext fun t16 => zz34_in6 N m kX kO (zz34_l3 N (zz34_X3 kX) m) hrec o0 d3 x4 t10 t11 t15 t16)))))))]
    rfl
noncomputable abbrev zz34_K3 (N : Nat) : Ex → St → Option (Y5 × Unit) := (blockK 0 (seqK ((A_zz34).shape 23) (run (A_zz34) N (codeAt Try.f112 [1, 1, 1])) zz34_z))
noncomputable abbrev zz34_k3 (N : Nat) : St → Option (Y5 × Unit) := fun st' => run (A_zz34) N (codeAt Try.f112 [1, 1, 1]) st' zz34_z
theorem zz34_after3 (N : Nat) (d3 : Y5) : zz34_X3 (zz34_k3 N) d3 = zz34_a3 d3 := by kernel_rfl
theorem zz34_in3 (N : Nat) (o0 : Y5) (d3 : Y5) (t10 : Int) (t11 : Int) : zz34_R3 N N (zz34_K3 N) o0 d3 t10 t11 = zz34_F3 N o0 d3 t10 t11 :=
  have h : zz34_X3 (zz34_k3 N) = (zz34_a3) := (funext fun d3 => zz34_after3 N d3)
  ((iter_ex (fun st => by kernel_rfl) (fun st => by kernel_rfl)).trans (zz34_iter3 N (zz34_k3 N) (fun j st => (zz34_K3 N) (.exit j) st) N o0 d3 t10 t11)).trans (congrArg (fun k => zz34_l3 N k N o0 d3 t10 t11) h)
theorem run0_zz34 (N : Nat) (x : (S_zz34).a.den) : runF (A_zz34) N Try.f112 S_zz34 x = (zz34_s (zz34_R3 N N (zz34_K3 N)) x.1) := by kernel_rfl
theorem run_zz34 (N : Nat) (x : (S_zz34).a.den) : runF (A_zz34) N Try.f112 S_zz34 x = zz34 N x.1 := by
  refine (run0_zz34 N x).trans ?_
  rw [(funext fun o0 => (funext fun d3 => (funext fun t10 => (funext fun t11 => zz34_in3 N o0 d3 t10 t11))))]
  rfl
theorem fn_zz34 : FnOk Try.prog 112 := ⟨_, Try.func112, by kernel_rfl, by kernel_rfl⟩
theorem good_zz34 : Gx.Good Try.prog 112 S_zz34 := good_of_run Try.func112 (of_decide_eq_true (by kernel_rfl)) fun x r h => ⟨A_zz34, big, mkCfg_ok tabOk, mkCfg_sigs (show SigsOk Try.prog [(98, S_zz25)] from ⟨⟨fn_zz25, good_zz25⟩, trivial⟩), (run_zz34 big x).trans h⟩

/-! zz35 -/
def zz35_s (p_0 : Y2) : Option ((Y1 × (Bool × Unit)) × Unit) :=
  (zz29 big p_0).bind fun rq1 =>
  cond (!((((), rq1.1.2).2).1))
  (some ((none, false, ()), (())))
  (cond (decide ((rq1.1.1.length : Int) = (0 : Int)))
  (some ((none, false, ()), (())))
  ((zz33 big rq1.1.1).bind fun rq2 =>
  (zz34 big rq1.1.1).bind fun rq3 =>
  (zz33 big rq3.1).bind fun rq4 =>
  cond ((((), rq2.1.2).2).1)
  (some ((some (rq1.1.1, (rq2.1.1, (rq4.1.1, ()))), (((), rq4.1.2).2).1, ()), (())))
  (some ((some (rq1.1.1, (rq2.1.1, (rq4.1.1, ()))), false, ()), (())))))
def zz35 (p_0 : Y2) : Option ((Y1 × (Bool × Unit)) × Unit) := zz35_s p_0
def S_zz35 : Sig := { a := (.pair (.pair (.sl (.sl I)) .unit) .unit), md := [0], mf := [], m := .unit, r := (.tup (.pair (.opt (.pair (.sl (.sl .bool)) (.pair (.sl (.sl I)) (.pair (.sl (.sl I)) .unit)))) (.pair .bool .unit))), rf := .i, f := fun x => zz35 x.1 }
def A_zz35 : Cfg := mkCfg tab [(110, S_zz29), (111, S_zz33), (112, S_zz34)] []
theorem run_zz35 (N : Nat) (x : (S_zz35).a.den) : runF (A_zz35) N Try.f86 S_zz35 x = zz35 x.1 := by kernel_rfl
theorem fn_zz35 : FnOk Try.prog 86 := ⟨_, Try.func86, by kernel_rfl, by kernel_rfl⟩
theorem good_zz35 : Gx.Good Try.prog 86 S_zz35 := good_of_run Try.func86 (of_decide_eq_true (by kernel_rfl)) fun x r h => ⟨A_zz35, big, mkCfg_ok tabOk, mkCfg_sigs (show SigsOk Try.prog [(110, S_zz29), (111, S_zz33), (112, S_zz34)] from ⟨⟨fn_zz29, good_zz29⟩, ⟨fn_zz33, good_zz33⟩, ⟨fn_zz34, good_zz34⟩, trivial⟩), (run_zz35 big x).trans h⟩

/-! zz36 -/
def zz36_s (p_0 : Y2) : Option ((Y1 × (Bool × Unit)) × Unit) :=
  (zz35 p_0).bind fun rq1 =>
  cond rq1.1.2.1
  ((rq1.1.1).bind fun xq2 =>
  some ((rq1.1.1, decide ((xq2.1.length : Int) ≤ (8 : Int)), ()), (())))
  (some ((rq1.1.1, false, ()), (())))
def zz36 (p_0 : Y2) : Option ((Y1 × (Bool × Unit)) × Unit) := zz36_s p_0
def S_zz36 : Sig := { a := (.pair (.pair (.sl (.sl I)) .unit) .unit), md := [0], mf := [], m := .unit, r := (.tup (.pair (.opt (.pair (.sl (.sl .bool)) (.pair (.sl (.sl I)) (.pair (.sl (.sl I)) .unit)))) (.pair .bool .unit))), rf := .i, f := fun x => zz36 x.1 }
def A_zz36 : Cfg := mkCfg tab [(86, S_zz35)] []
theorem run_zz36 (N : Nat) (x : (S_zz36).a.den) : runF (A_zz36) N Try.f49 S_zz36 x = zz36 x.1 := by kernel_rfl
theorem fn_zz36 : FnOk Try.prog 49 := ⟨_, Try.func49, by kernel_rfl, by kernel_rfl⟩
theorem good_zz36 : Gx.Good Try.prog 49 S_zz36 := good_of_run Try.func49 (of_decide_eq_true (by kernel_rfl)) fun x r h => ⟨A_zz36, big, mkCfg_ok tabOk, mkCfg_sigs (show SigsOk Try.prog [(86, S_zz35)] from ⟨⟨fn_zz35, good_zz35⟩, trivial⟩), (run_zz36 big x).trans h⟩

/-! zz37 -/
def zz37_s (o_0 : Y5) (list_1 : Y4) : Option (Bool × Unit) :=
  (zz27 big list_1 (o_0.length : Int)).bind fun rq1 =>
  some (rq1.1, (()))
def zz37 (o_0 : Y5) (list_1 : Y4) : Option (Bool × Unit) := zz37_s o_0 list_1
def S_zz37 : Sig := { a := (.pair (.sl (.sl .bool)) (.pair (.sl I) .unit)), md := [0, 0], mf := [], m := .unit, r := .bool, rf := .i, f := fun x => zz37 x.1 x.2.1 }
def A_zz37 : Cfg := mkCfg tab [(113, S_zz27)] []
theorem run_zz37 (N : Nat) (x : (S_zz37).a.den) : runF (A_zz37) N Try.f87 S_zz37 x = zz37 x.1 x.2.1 := by kernel_rfl
theorem fn_zz37 : FnOk Try.prog 87 := ⟨_, Try.func87, by kernel_rfl, by kernel_rfl⟩
theorem good_zz37 : Gx.Good Try.prog 87 S_zz37 := good_of_run Try.func87 (of_decide_eq_true (by kernel_rfl)) fun x r h => ⟨A_zz37, big, mkCfg_ok tabOk, mkCfg_sigs (show SigsOk Try.prog [(113, S_zz27)] from ⟨⟨fn_zz27, good_zz27⟩, trivial⟩), (run_zz37 big x).trans h⟩

/-! zz38 -/
def zz38_s (o_0 : Y5) (x_1 : Int) (y_2 : Int) : Option (Bool × Unit) :=
  cond (decide (x_1 ≠ y_2))
  ((atI o_0 x_1).bind fun xq1 =>
  (atI xq1 y_2).bind fun xq2 =>
  some (xq2, (())))
  (some (false, (())))
def zz38 (o_0 : Y5) (x_1 : Int) (y_2 : Int) : Option (Bool × Unit) := zz38_s o_0 x_1 y_2
def S_zz38 : Sig := { a := (.pair (.sl (.sl .bool)) (.pair I (.pair I .unit))), md := [0, 0, 0], mf := [], m := .unit, r := .bool, rf := .i, f := fun x => zz38 x.1 x.2.1 x.2.2.1 }
def A_zz38 : Cfg := mkCfg tab [] []
theorem run_zz38 (N : Nat) (x : (S_zz38).a.den) : runF (A_zz38) N Try.f114 S_zz38 x = zz38 x.1 x.2.1 x.2.2.1 := by kernel_rfl
theorem fn_zz38 : FnOk Try.prog 114 := ⟨_, Try.func114, by kernel_rfl, by kernel_rfl⟩
theorem good_zz38 : Gx.Good Try.prog 114 S_zz38 := good_of_run Try.func114 (of_decide_eq_true (by kernel_rfl)) fun x r h => ⟨A_zz38, big, mkCfg_ok tabOk, mkCfg_sigs (show SigsOk Try.prog [] from trivial), (run_zz38 big x).trans h⟩

/-! zz39 -/
def zz39_b4 (rec : Y5 → Int → Int → Int → Int → Option (Bool × Unit)) (k : Option (Bool × Unit)) (o0 : Y5) (x1 : Int) (y2 : Int) (t14 : Int) (t15 : Int) : Option (Bool × Unit) :=
  cond (decide (t15 < t14))
  ((zz38 o0 x1 t15).bind fun rq2 =>
  cond rq2.1
  ((zz38 o0 t15 y2).bind fun rq3 =>
  cond rq3.1
  (some (false, (())))
  (rec o0 x1 y2 t14 (IntKind.i64.wrap (t15 + (1 : Int)))))
  (rec o0 x1 y2 t14 (IntKind.i64.wrap (t15 + (1 : Int)))))
  (k)
def zz39_a4 : Option (Bool × Unit) :=
  some (true, (()))
def zz39_s (L4 : Y5 → Int → Int → Int → Int → Option (Bool × Unit)) (o_0 : Y5) (x_1 : Int) (y_2 : Int) : Option (Bool × Unit) :=
  (zz38 o_0 x_1 y_2).bind fun rq1 =>
  cond (!rq1.1)
  (some (false, (())))
  (L4 o_0 x_1 y_2 (o_0.length : Int) (0 : Int))
def zz39_l4 (N : Nat) (k : Option (Bool × Unit)) : Nat → Y5 → Int → Int → Int → Int → Option (Bool × Unit)
  | 0, _, _, _, _, _ => none
  | m + 1, o0, x1, y2, t14, t15 => zz39_b4 (zz39_l4 N k m) k o0 x1 y2 t14 t15
def zz39_F4 (N : Nat) (o0 : Y5) (x1 : Int) (y2 : Int) (t14 : Int) (t15 : Int) : Option (Bool × Unit) := zz39_l4 N (zz39_a4) N o0 x1 y2 t14 t15
def zz39 (N : Nat) (o_0 : Y5) (x_1 : Int) (y_2 : Int) : Option (Bool × Unit) := zz39_s (zz39_F4 N) o_0 x_1 y_2
def S_zz39 : Sig := { a := (.pair (.sl (.sl .bool)) (.pair I (.pair I .unit))), md := [0, 0, 0], mf := [], m := .unit, r := .bool, rf := .i, f := fun x => zz39 big x.1 x.2.1 x.2.2.1 }
def A_zz39 : Cfg := mkCfg tab [(114, S_zz38)] [(8, [.as (.sl (.sl .bool)) .i, .as I .i, .as I .i, .drop, .drop, .drop, .drop, .drop, .drop, .drop, .drop, .drop, .drop, .drop, .as I .i, .as I .i]), (19, [])]
noncomputable def zz39_R4 (N n : Nat) (K : Ex → St → Option (Bool × Unit)) (o0 : Y5) (x1 : Int) (y2 : Int) (t14 : Int) (t15 : Int) : Option (Bool × Unit) := iter ((A_zz39).shape 8) (run (A_zz39) N (codeAt Try.f88 [1, 1, 0, 1, 0, 0])) n ([.val (.sl (.sl .bool)) .i o0, .val I .i x1, .val I .i y2, .u, .u, .u, .u, .u, .u, .u, .u, .u, .u, .u, .val I .i t14, .val I .i t15] ++ List.replicate 13 .u) K
noncomputable abbrev zz39_z : Ex → St → Option (Bool × Unit) := finish (A_zz39) S_zz39 Try.f88.results.toList
noncomputable abbrev zz39_X4 (kX : St → Option (Bool × Unit)) : Option (Bool × Unit) := kX ([] ++ List.replicate 29 .u)
noncomputable abbrev zz39_E4 (kX : St → Option (Bool × Unit)) (kO : Nat → St → Option (Bool × Unit)) : Ex → St → Option (Bool × Unit) := exK zz39_z 0 ((A_zz39).shape 19) kX kO
theorem zz39_step4 (N : Nat) (m : Nat) (kX : St → Option (Bool × Unit)) (kO : Nat → St → Option (Bool × Unit)) (o0 : Y5) (x1 : Int) (y2 : Int) (t14 : Int) (t15 : Int) : zz39_R4 N (m + 1) (zz39_E4 kX kO) o0 x1 y2 t14 t15 = zz39_b4 (zz39_R4 N m (zz39_E4 kX kO)) (zz39_X4 kX) o0 x1 y2 t14 t15 := by kernel_rfl
theorem zz39_iter4 (N : Nat) (kX : St → Option (Bool × Unit)) (kO : Nat → St → Option (Bool × Unit)) : ∀ (n : Nat) (o0 : Y5) (x1 : Int) (y2 : Int) (t14 : Int) (t15 : Int), zz39_R4 N n (zz39_E4 kX kO) o0 x1 y2 t14 t15 = zz39_l4 N (zz39_X4 kX) n o0 x1 y2 t14 t15
  | 0, _, _, _, _, _ => rfl
  | m + 1, o0, x1, y2, t14, t15 => by
    have hrec : zz39_R4 N m (zz39_E4 kX kO) = (zz39_l4 N (zz39_X4 kX) m) := (funext fun o0 => (funext fun x1 => (funext fun y2 => (funext fun t14 => (funext fun t15 => zz39_iter4 N kX kO m o0 x1 y2 t14 t15)))))
    refine (zz39_step4 N m kX kO o0 x1 y2 t14 t15).trans ?_
    rw [hrec]
    rfl
noncomputable abbrev zz39_K4 (N : Nat) : Ex → St → Option (Bool × Unit) := (blockK 0 (seqK ((A_zz39).shape 19) (run (A_zz39) N (codeAt Try.f88 [1, 1, 1])) zz39_z))
noncomputable abbrev zz39_k4 (N : Nat) : St → Option (Bool × Unit) := fun st' => run (A_zz39) N (codeAt Try.f88 [1, 1, 1]) st' zz39_z
theorem zz39_after4 (N : Nat) : zz39_X4 (zz39_k4 N) = zz39_a4 := by kernel_rfl
theorem zz39_in4 (N : Nat) (o0 : Y5) (x1 : Int) (y2 : Int) (t14 : Int) (t15 : Int) : zz39_R4 N N (zz39_K4 N) o0 x1 y2 t14 t15 = zz39_F4 N o0 x1 y2 t14 t15 :=
  have h : zz39_X4 (zz39_k4 N) = (zz39_a4) := zz39_after4 N
  ((iter_ex (fun st => by kernel_rfl) (fun st => by kernel_rfl)).trans (zz39_iter4 N (zz39_k4 N) (fun j st => (zz39_K4 N) (.exit j) st) N o0 x1 y2 t14 t15)).trans (congrArg (fun k => zz39_l4 N k N o0 x1 y2 t14 t15) h)
theorem run0_zz39 (N : Nat) (x : (S_zz39).a.den) : runF (A_zz39) N Try.f88 S_zz39 x = (zz39_s (zz39_R4 N N (zz39_K4 N)) x.1 x.2.1 x.2.2.1) := by kernel_rfl
theorem run_zz39 (N : Nat) (x : (S_zz39).a.den) : runF (A_zz39) N Try.f88 S_zz39 x = zz39 N x.1 x.2.1 x.2.2.1 := by
  refine (run0_zz39 N x).trans ?_
  rw [(funext fun o0 => (funext fun x1 => (funext fun y2 => (funext fun t14 => (funext fun t15 => zz39_in4 N o0 x1 y2 t14 t15)))))]
  rfl
theorem fn_zz39 : FnOk Try.prog 88 := ⟨_, Try.func88, by kernel_rfl, by kernel_rfl⟩
theorem good_zz39 : Gx.Good Try.prog 88 S_zz39 := good_of_run Try.func88 (of_decide_eq_true (by kernel_rfl)) fun x r h => ⟨A_zz39, big, mkCfg_ok tabOk, mkCfg_sigs (show SigsOk Try.prog [(114, S_zz38)] from ⟨⟨fn_zz38, good_zz38⟩, trivial⟩), (run_zz39 big x).trans h⟩

/-! zz40 -/
def zz40_s (l_0 : Y1) (x_1 : Int) (y_2 : Int) : Option (Bool × Unit) :=
  (l_0).bind fun xq1 =>
  (zz37 xq1.1 [x_1, y_2]).bind fun rq2 =>
  cond rq2.1
  ((l_0).bind fun xq3 =>
  (zz39 big xq3.1 x_1 y_2).bind fun rq4 =>
  some (rq4.1, (())))
  (some (false, (())))
def zz40 (l_0 : Y1) (x_1 : Int) (y_2 : Int) : Option (Bool × Unit) := zz40_s l_0 x_1 y_2
def S_zz40 : Sig := { a := (.pair (.opt (.pair (.sl (.sl .bool)) (.pair (.sl (.sl I)) (.pair (.sl (.sl I)) .unit)))) (.pair I (.pair I .unit))), md := [0, 0, 0], mf := [], m := .unit, r := .bool, rf := .i, f := fun x => zz40 x.1 x.2.1 x.2.2.1 }
def A_zz40 : Cfg := mkCfg tab [(87, S_zz37), (88, S_zz39)] []
theorem run_zz40 (N : Nat) (x : (S_zz40).a.den) : runF (A_zz40) N Try.f50 S_zz40 x = zz40 x.1 x.2.1 x.2.2.1 := by kernel_rfl
theorem fn_zz40 : FnOk Try.prog 50 := ⟨_, Try.func50, by kernel_rfl, by kernel_rfl⟩
theorem good_zz40 : Gx.Good Try.prog 50 S_zz40 := good_of_run Try.func50 (of_decide_eq_true (by kernel_rfl)) fun x r h => ⟨A_zz40, big, mkCfg_ok tabOk, mkCfg_sigs (show SigsOk Try.prog [(87, S_zz37), (88, S_zz39)] from ⟨⟨fn_zz37, good_zz37⟩, ⟨fn_zz39, good_zz39⟩, trivial⟩), (run_zz40 big x).trans h⟩

/-! zz41 -/
def zz41_b6 (rec : Y5 → (List (Int × (Int × Unit))) → Int → Int → Int → Int → Int → Option ((List (Int × (Int × Unit))) × Unit)) (k : Y5 → (List (Int × (Int × Unit))) → Int → Int → Option ((List (Int × (Int × Unit))) × Unit)) (o0 : Y5) (list3 : (List (Int × (Int × Unit)))) (x4 : Int) (t8 : Int) (t9 : Int) (t13 : Int) (t14 : Int) : Option ((List (Int × (Int × Unit))) × Unit) :=
  cond (decide (t14 < t13))
  ((zz39 big o0 x4 t14).bind fun rq1 =>
  cond rq1.1
  ((appI list3 [(x4, (t14, ()))]).bind fun xq2 =>
  rec o0 xq2 x4 t8 t9 t13 (IntKind.i64.wrap (t14 + (1 : Int))))
  (rec o0 list3 x4 t8 t9 t13 (IntKind.i64.wrap (t14 + (1 : Int)))))
  (k o0 list3 t8 t9)
def zz41_a6 (rec : Y5 → (List (Int × (Int × Unit))) → Int → Int → Option ((List (Int × (Int × Unit))) × Unit)) (o0 : Y5) (list3 : (List (Int × (Int × Unit)))) (t8 : Int) (t9 : Int) : Option ((List (Int × (Int × Unit))) × Unit) :=
  rec o0 list3 t8 (IntKind.i64.wrap (t9 + (1 : Int)))
def zz41_b3 (L6 : Y5 → (List (Int × (Int × Unit))) → Int → Int → Int → Int → Int → Option ((List (Int × (Int × Unit))) × Unit)) (k : (List (Int × (Int × Unit))) → Option ((List (Int × (Int × Unit))) × Unit)) (o0 : Y5) (list3 : (List (Int × (Int × Unit)))) (t8 : Int) (t9 : Int) : Option ((List (Int × (Int × Unit))) × Unit) :=
  cond (decide (t9 < t8))
  (L6 o0 list3 t9 t8 t9 (o0.length : Int) (0 : Int))
  (k list3)
def zz41_a3 (list3 : (List (Int × (Int × Unit)))) : Option ((List (Int × (Int × Unit))) × Unit) :=
  some (list3, (()))
def zz41_s (L3 : Y5 → (List (Int × (Int × Unit))) → Int → Int → Option ((List (Int × (Int × Unit))) × Unit)) (o_0 : Y5) : Option ((List (Int × (Int × Unit))) × Unit) :=
  L3 o_0 [] (o_0.length : Int) (0 : Int)
def zz41_l6 (N : Nat) (k : Y5 → (List (Int × (Int × Unit))) → Int → Int → Option ((List (Int × (Int × Unit))) × Unit)) : Nat → Y5 → (List (Int × (Int × Unit))) → Int → Int → Int → Int → Int → Option ((List (Int × (Int × Unit))) × Unit)
  | 0, _, _, _, _, _, _, _ => none
  | m + 1, o0, list3, x4, t8, t9, t13, t14 => zz41_b6 (zz41_l6 N k m) k o0 list3 x4 t8 t9 t13 t14
def zz41_F6 (N : Nat) (rec : Y5 → (List (Int × (Int × Unit))) → Int → Int → Option ((List (Int × (Int × Unit))) × Unit)) (k : (List (Int × (Int × Unit))) → Option ((List (Int × (Int × Unit))) × Unit)) (o0 : Y5) (list3 : (List (Int × (Int × Unit)))) (x4 : Int) (t8 : Int) (t9 : Int) (t13 : Int) (t14 : Int) : Option ((List (Int × (Int × Unit))) × Unit) := zz41_l6 N (zz41_a6 rec) N o0 list3 x4 t8 t9 t13 t14
def zz41_l3 (N : Nat) (k : (List (Int × (Int × Unit))) → Option ((List (Int × (Int × Unit))) × Unit)) : Nat → Y5 → (List (Int × (Int × Unit))) → Int → Int → Option ((List (Int × (Int × Unit))) × Unit)
  | 0, _, _, _, _ => none
  | m + 1, o0, list3, t8, t9 => zz41_b3 (zz41_F6 N (zz41_l3 N k m) k) k o0 list3 t8 t9
def zz41_F3 (N : Nat) (o0 : Y5) (list3 : (List (Int × (Int × Unit)))) (t8 : Int) (t9 : Int) : Option ((List (Int × (Int × Unit))) × Unit) := zz41_l3 N (zz41_a3) N o0 list3 t8 t9
def zz41 (N : Nat) (o_0 : Y5) : Option ((List (Int × (Int × Unit))) × Unit) := zz41_s (zz41_F3 N) o_0
def S_zz41 : Sig := { a := (.pair (.sl (.sl .bool)) .unit), md := [0], mf := [], m := .unit, r := (.sl (.pair I (.pair I .unit))), rf := (.o .i), f := fun x => zz41 big x.1 }
def A_zz41 : Cfg := mkCfg tab [(88, S_zz39)] [(6, [.as (.sl (.sl .bool)) .i, .drop, .drop, .as (.sl (.pair I (.pair I .unit))) (.o .i), .drop, .drop, .drop, .drop, .as I .i, .as I .i]), (12, [.as (.sl (.sl .bool)) .i, .drop, .drop, .as (.sl (.pair I (.pair I .unit))) (.o .i), .as I .i, .drop, .drop, .drop, .as I .i, .as I .i, .drop, .drop, .drop, .as I .i, .as I .i]), (25, [.drop, .drop, .drop, .as (.sl (.pair I (.pair I .unit))) (.o .i)]), (23, [.as (.sl (.sl .bool)) .i, .drop, .drop, .as (.sl (.pair I (.pair I .unit))) (.o .i), .drop, .drop, .drop, .drop, .as I .i, .as I .i])]
noncomputable def zz41_R3 (N n : Nat) (K : Ex → St → Option ((List (Int × (Int × Unit))) × Unit)) (o0 : Y5) (list3 : (List (Int × (Int × Unit)))) (t8 : Int) (t9 : Int) : Option ((List (Int × (Int × Unit))) × Unit) := iter ((A_zz41).shape 6) (run (A_zz41) N (codeAt Try.f51 [1, 1, 0, 1, 0, 0])) n ([.val (.sl (.sl .bool)) .i o0, .u, .u, .val (.sl (.pair I (.pair I .unit))) (.o .i) list3, .u, .u, .u, .u, .val I .i t8, .val I .i t9] ++ List.replicate 20 .u) K
noncomputable def zz41_R6 (N n : Nat) (K : Ex → St → Option ((List (Int × (Int × Unit))) × Unit)) (o0 : Y5) (list3 : (List (Int × (Int × Unit)))) (x4 : Int) (t8 : Int) (t9 : Int) (t13 : Int) (t14 : Int) : Option ((List (Int × (Int × Unit))) × Unit) := iter ((A_zz41).shape 12) (run (A_zz41) N (codeAt Try.f51 [1, 1, 0, 1, 0, 0, 1, 1, 0, 0, 1, 1, 0, 0])) n ([.val (.sl (.sl .bool)) .i o0, .u, .u, .val (.sl (.pair I (.pair I .unit))) (.o .i) list3, .val I .i x4, .u, .u, .u, .val I .i t8, .val I .i t9, .u, .u, .u, .val I .i t13, .val I .i t14] ++ List.replicate 15 .u) K
noncomputable abbrev zz41_z : Ex → St → Option ((List (Int × (Int × Unit))) × Unit) := finish (A_zz41) S_zz41 Try.f51.results.toList
noncomputable abbrev zz41_X3 (kX : St → Option ((List (Int × (Int × Unit))) × Unit)) : (List (Int × (Int × Unit))) → Option ((List (Int × (Int × Unit))) × Unit) := fun (list3 : (List (Int × (Int × Unit)))) => kX ([.u, .u, .u, .val (.sl (.pair I (.pair I .unit))) (.o .i) list3] ++ List.replicate 26 .u)
noncomputable abbrev zz41_E3 (kX : St → Option ((List (Int × (Int × Unit))) × Unit)) (kO : Nat → St → Option ((List (Int × (Int × Unit))) × Unit)) : Ex → St → Option ((List (Int × (Int × Unit))) × Unit) := exK zz41_z 0 ((A_zz41).shape 25) kX kO
noncomputable abbrev zz41_X6 (kX : St → Option ((List (Int × (Int × Unit))) × Unit)) : Y5 → (List (Int × (Int × Unit))) → Int → Int → Option ((List (Int × (Int × Unit))) × Unit) := fun (o0 : Y5) (list3 : (List (Int × (Int × Unit)))) (t8 : Int) (t9 : Int) => kX ([.val (.sl (.sl .bool)) .i o0, .u, .u, .val (.sl (.pair I (.pair I .unit))) (.o .i) list3, .u, .u, .u, .u, .val I .i t8, .val I .i t9] ++ List.replicate 20 .u)
noncomputable abbrev zz41_E6 (kX : St → Option ((List (Int × (Int × Unit))) × Unit)) (kO : Nat → St → Option ((List (Int × (Int × Unit))) × Unit)) : Ex → St → Option ((List (Int × (Int × Unit))) × Unit) := exK zz41_z 2 ((A_zz41).shape 23) kX kO
theorem zz41_step6 (N : Nat) (m : Nat) (kX : St → Option ((List (Int × (Int × Unit))) × Unit)) (kO : Nat → St → Option ((List (Int × (Int × Unit))) × Unit)) (o0 : Y5) (list3 : (List (Int × (Int × Unit)))) (x4 : Int) (t8 : Int) (t9 : Int) (t13 : Int) (t14 : Int) : zz41_R6 N (m + 1) (zz41_E6 kX kO) o0 list3 x4 t8 t9 t13 t14 = zz41_b6 (zz41_R6 N m (zz41_E6 kX kO)) (zz41_X6 kX) o0 list3 x4 t8 t9 t13 t14 := by kernel_rfl
theorem zz41_iter6 (N : Nat) (kX : St → Option ((List (Int × (Int × Unit))) × Unit)) (kO : Nat → St → Option ((List (Int × (Int × Unit))) × Unit)) : ∀ (n : Nat) (o0 : Y5) (list3 : (List (Int × (Int × Unit)))) (x4 : Int) (t8 : Int) (t9 : Int) (t13 : Int) (t14 : Int), zz41_R6 N n (zz41_E6 kX kO) o0 list3 x4 t8 t9 t13 t14 = zz41_l6 N (zz41_X6 kX) n o0 list3 x4 t8 t9 t13 t14
  | 0, _, _, _, _, _, _, _ => rfl
  | m + 1, o0, list3, x4, t8, t9, t13, t14 => by
    have hrec : zz41_R6 N m (zz41_E6 kX kO) = (zz41_l6 N (zz41_X6 kX) m) := (funext fun o0 => (funext fun list3 => (funext fun x4 => (funext fun t8 => (funext fun t9 => (funext fun t13 => (funext fun t14 => zz41_iter6 N kX kO m o0 list3 x4 t8 t9 t13 t14)))))))
    refine (zz41_step6 N m kX kO o0 list3 x4 t8 t9 t13 t14).trans ?_
    rw [hrec]
    rfl
noncomputable abbrev zz41_K6 (N : Nat) (m : Nat) (kX : St → Option ((List (Int × (Int × Unit))) × Unit)) (kO : Nat → St → Option ((List (Int × (Int × Unit))) × Unit)) : Ex → St → Option ((List (Int × (Int × Unit))) × Unit) := (blockK 2 (blockK 1 (seqK ((A_zz41).shape 23) (run (A_zz41) N (codeAt Try.f51 [1, 1, 0, 1, 0, 0, 1, 1, 1])) (iterK ((A_zz41).shape 6) (run (A_zz41) N (codeAt Try.f51 [1, 1, 0, 1, 0, 0])) m (zz41_E3 kX kO)))))
noncomputable abbrev zz41_k6 (N : Nat) (m : Nat) (kX : St → Option ((List (Int × (Int × Unit))) × Unit)) (kO : Nat → St → Option ((List (Int × (Int × Unit))) × Unit)) : St → Option ((List (Int × (Int × Unit))) × Unit) := fun st' => run (A_zz41) N (codeAt Try.f51 [1, 1, 0, 1, 0, 0, 1, 1, 1]) st' (iterK ((A_zz41).shape 6) (run (A_zz41) N (codeAt Try.f51 [1, 1, 0, 1, 0, 0])) m (zz41_E3 kX kO))
theorem zz41_after6 (N : Nat) (m : Nat) (kX : St → Option ((List (Int × (Int × Unit))) × Unit)) (kO : Nat → St → Option ((List (Int × (Int × Unit))) × Unit)) (o0 : Y5) (list3 : (List (Int × (Int × Unit)))) (t8 : Int) (t9 : Int) : zz41_X6 (zz41_k6 N m kX kO) o0 list3 t8 t9 = zz41_a6 (zz41_R3 N m (zz41_E3 kX kO)) o0 list3 t8 t9 := by kernel_rfl
theorem zz41_in6 (N : Nat) (m : Nat) (kX : St → Option ((List (Int × (Int × Unit))) × Unit)) (kO : Nat → St → Option ((List (Int × (Int × Unit))) × Unit)) (recF : Y5 → (List (Int × (Int × Unit))) → Int → Int → Option ((List (Int × (Int × Unit))) × Unit)) (hrec : zz41_R3 N m (zz41_E3 kX kO) = recF) (o0 : Y5) (list3 : (List (Int × (Int × Unit)))) (x4 : Int) (t8 : Int) (t9 : Int) (t13 : Int) (t14 : Int) : zz41_R6 N N (zz41_K6 N m kX kO) o0 list3 x4 t8 t9 t13 t14 = zz41_F6 N recF (zz41_X3 kX) o0 list3 x4 t8 t9 t13 t14 :=
  have h : zz41_X6 (zz41_k6 N m kX kO) = (zz41_a6 recF) := (funext fun o0 => (funext fun list3 => (funext fun t8 => (funext fun t9 => (zz41_after6 N m kX kO o0 list3 t8 t9).trans (by rw [hrec])))))
  ((iter_ex (fun st => by kernel_rfl) (fun st => by kernel_rfl)).trans (zz41_iter6 N (zz41_k6 N m kX kO) (fun j st => (zz41_K6 N m kX kO) (.exit j) st) N o0 list3 x4 t8 t9 t13 t14)).trans (congrArg (fun k => zz41_l6 N k N o0 list3 x4 t8 t9 t13 t14) h)
theorem zz41_step3 (N : Nat) (m : Nat) (kX : St → Option ((List (Int × (Int × Unit))) × Unit)) (kO : Nat → St → Option ((List (Int × (Int × Unit))) × Unit)) (o0 : Y5) (list3 : (List (Int × (Int × Unit)))) (t8 : Int) (t9 : Int) : zz41_R3 N (m + 1) (zz41_E3 kX kO) o0 list3 t8 t9 = zz41_b3 (zz41_R6 N N (zz41_K6 N m kX kO)) (zz41_X3 kX) o0 list3 t8 t9 := by kernel_rfl
theorem zz41_iter3 (N : Nat) (kX : St → Option ((List (Int × (Int × Unit))) × Unit)) (kO : Nat → St → Option ((List (Int × (Int × Unit))) × Unit)) : ∀ (n : Nat) (o0 : Y5) (list3 : (List (Int × (Int × Unit)))) (t8 : Int) (t9 : Int), zz41_R3 N n (zz41_E3 kX kO) o0 list3 t8 t9 = zz41_l3 N (zz41_X3 kX) n o0 list3 t8 t9
  | 0, _, _, _, _ => rfl
  | m + 1, o0, list3, t8, t9 => by
    have hrec : zz41_R3 N m (zz41_E3 kX kO) = (zz41_l3 N (zz41_X3 kX) m) := (funext fun o0 => (funext fun list3 => (funext fun t8 => (funext fun t9 => zz41_iter3 N kX kO m o0 list3 t8 t9))))
    refine (zz41_step3 N m kX kO o0 list3 t8 t9).trans ?_
    rw [(funext fun o0 => (funext fun list3 => (funext fun x4 => (funext fun t8 => (funext fun t9 => (funext fun t13 => (funext fun t14 => zz41_in6 N m kX kO (zz41_l3 N (zz41_X3 kX) m) hrec o0 list3 x4 t8 t9 t13 t14)))))))]
    rfl
noncomputable abbrev zz41_K3 (N : Nat) : Ex → St → Option ((List (Int × (Int × Unit))) × Unit) := (blockK 0 (seqK ((A_zz41).shape 25) (run (A_zz41) N (codeAt Try.f51 [1, 1, 1])) zz41_z))
noncomputable abbrev zz41_k3 (N : Nat) : St → Option ((List (Int × (Int × Unit))) × Unit) := fun st' => run (A_zz41) N (codeAt Try.f51 [1, 1, 1]) st' zz41_z
theorem zz41_after3 (N : Nat) (list3 : (List (Int × (Int × Unit)))) : zz41_X3 (zz41_k3 N) list3 = zz41_a3 list3 := by kernel_rfl
theorem zz41_in3 (N : Nat) (o0 : Y5) (list3 : (List (Int × (Int × Unit)))) (t8 : Int) (t9 : Int) : zz41_R3 N N (zz41_K3 N) o0 list3 t8 t9 = zz41_F3 N o0 list3 t8 t9 :=
  have h : zz41_X3 (zz41_k3 N) = (zz41_a3) := (funext fun list3 => zz41_after3 N list3)
  ((iter_ex (fun st => by kernel_rfl) (fun st => by kernel_rfl)).trans (zz41_iter3 N (zz41_k3 N) (fun j st => (zz41_K3 N) (.exit j) st) N o0 list3 t8 t9)).trans (congrArg (fun k => zz41_l3 N k N o0 list3 t8 t9) h)
theorem run0_zz41 (N : Nat) (x : (S_zz41).a.den) : runF (A_zz41) N Try.f51 S_zz41 x = (zz41_s (zz41_R3 N N (zz41_K3 N)) x.1) := by kernel_rfl
theorem run_zz41 (N : Nat) (x : (S_zz41).a.den) : runF (A_zz41) N Try.f51 S_zz41 x = zz41 N x.1 := by
  refine (run0_zz41 N x).trans ?_
  rw [(funext fun o0 => (funext fun list3 => (funext fun t8 => (funext fun t9 => zz41_in3 N o0 list3 t8 t9))))]
  rfl
theorem fn_zz41 : FnOk Try.prog 51 := ⟨_, Try.func51, by kernel_rfl, by kernel_rfl⟩
theorem good_zz41 : Gx.Good Try.prog 51 S_zz41 := good_of_run Try.func51 (of_decide_eq_true (by kernel_rfl)) fun x r h => ⟨A_zz41, big, mkCfg_ok tabOk, mkCfg_sigs (show SigsOk Try.prog [(88, S_zz39)] from ⟨⟨fn_zz39, good_zz39⟩, trivial⟩), (run_zz41 big x).trans h⟩

/-! zz42 -/
def zz42_s (l_0 : Y1) (e_1 : (Int × (Int × Unit))) (f_2 : (Int × (Int × Unit))) : Option (Bool × Unit) :=
  (l_0).bind fun xq1 =>
  (atI xq1.2.2.1 e_1.2.1).bind fun xq2 =>
  (atI xq2 f_2.1).bind fun xq3 =>
  cond (decide (xq3 = f_2.2.1))
  ((l_0).bind fun xq4 =>
  (atI xq4.2.1 e_1.2.1).bind fun xq5 =>
  (atI xq5 f_2.1).bind fun xq6 =>
  some (decide (xq6 = e_1.1), (())))
  (some (false, (())))
def zz42 (l_0 : Y1) (e_1 : (Int × (Int × Unit))) (f_2 : (Int × (Int × Unit))) : Option (Bool × Unit) := zz42_s l_0 e_1 f_2
def S_zz42 : Sig := { a := (.pair (.opt (.pair (.sl (.sl .bool)) (.pair (.sl (.sl I)) (.pair (.sl (.sl I)) .unit)))) (.pair (.pair I (.pair I .unit)) (.pair (.pair I (.pair I .unit)) .unit))), md := [0, 0, 0], mf := [], m := .unit, r := .bool, rf := .i, f := fun x => zz42 x.1 x.2.1 x.2.2.1 }
def A_zz42 : Cfg := mkCfg tab [] []
theorem run_zz42 (N : Nat) (x : (S_zz42).a.den) : runF (A_zz42) N Try.f52 S_zz42 x = zz42 x.1 x.2.1 x.2.2.1 := by kernel_rfl
theorem fn_zz42 : FnOk Try.prog 52 := ⟨_, Try.func52, by kernel_rfl, by kernel_rfl⟩
theorem good_zz42 : Gx.Good Try.prog 52 S_zz42 := good_of_run Try.func52 (of_decide_eq_true (by kernel_rfl)) fun x r h => ⟨A_zz42, big, mkCfg_ok tabOk, mkCfg_sigs (show SigsOk Try.prog [] from trivial), (run_zz42 big x).trans h⟩

/-! zz43 -/
def zz43_b18 (rec : (List ((Int × (Int × Unit)) × Bool)) → (List (Int × (Int × Unit))) → (List (Int × (Int × Unit))) → Int → Int → Option (((List (Int × (Int × Unit))) × (Bool × Unit)) × Unit)) (k : (List (Int × (Int × Unit))) → Option (((List (Int × (Int × Unit))) × (Bool × Unit)) × Unit)) (reached10 : (List ((Int × (Int × Unit)) × Bool))) (list15 : (List (Int × (Int × Unit)))) (t92 : (List (Int × (Int × Unit)))) (t93 : Int) (t94 : Int) : Option (((List (Int × (Int × Unit))) × (Bool × Unit)) × Unit) :=
  cond (decide (t94 < t93))
  ((atI t92 t94).bind fun _ =>
  (t92[t94.toNat]?).bind fun xq14 =>
  cond (Option.getD (mget (.pair I (.pair I .unit)) .bool reached10 xq14) false)
  ((appI list15 [xq14]).bind fun xq15 =>
  rec reached10 xq15 t92 t93 (IntKind.i64.wrap (t94 + (1 : Int))))
  (rec reached10 list15 t92 t93 (IntKind.i64.wrap (t94 + (1 : Int)))))
  (k list15)
def zz43_a18 (list15 : (List (Int × (Int × Unit)))) : Option (((List (Int × (Int × Unit))) × (Bool × Unit)) × Unit) :=
  some ((list15, true, ()), (()))
def zz43_b10 (rec : Y1 → (List ((Int × (Int × Unit)) × Bool)) → (List (Int × (Int × Unit))) → Int → (List (Int × (Int × Unit))) → Int → Int → Option (((List (Int × (Int × Unit))) × (Bool × Unit)) × Unit)) (k : Y1 → (List ((Int × (Int × Unit)) × Bool)) → (List (Int × (Int × Unit))) → Int → Option (((List (Int × (Int × Unit))) × (Bool × Unit)) × Unit)) (l8 : Y1) (reached10 : (List ((Int × (Int × Unit)) × Bool))) (line11 : (List (Int × (Int × Unit)))) (i12 : Int) (t52 : (List (Int × (Int × Unit)))) (t53 : Int) (t54 : Int) : Option (((List (Int × (Int × Unit))) × (Bool × Unit)) × Unit) :=
  cond (decide (t54 < t53))
  ((atI t52 t54).bind fun _ =>
  (t52[t54.toNat]?).bind fun xq7 =>
  cond (!(Option.getD (mget (.pair I (.pair I .unit)) .bool reached10 xq7) false))
  ((atI line11 i12).bind fun _ =>
  (line11[i12.toNat]?).bind fun xq8 =>
  (zz42 l8 xq8 xq7).bind fun rq9 =>
  cond rq9.1
  ((appI line11 [xq7]).bind fun xq10 =>
  rec l8 (mput (.pair I (.pair I .unit)) .bool reached10 xq7 true) xq10 i12 t52 t53 (IntKind.i64.wrap (t54 + (1 : Int))))
  ((atI line11 i12).bind fun _ =>
  (line11[i12.toNat]?).bind fun xq11 =>
  (zz42 l8 xq7 xq11).bind fun rq12 =>
  cond rq12.1
  ((appI line11 [xq7]).bind fun xq13 =>
  rec l8 (mput (.pair I (.pair I .unit)) .bool reached10 xq7 true) xq13 i12 t52 t53 (IntKind.i64.wrap (t54 + (1 : Int))))
  (rec l8 reached10 line11 i12 t52 t53 (IntKind.i64.wrap (t54 + (1 : Int))))))
  (rec l8 reached10 line11 i12 t52 t53 (IntKind.i64.wrap (t54 + (1 : Int)))))
  (k l8 reached10 line11 i12)
def zz43_a10 (rec : Y1 → (List ((Int × (Int × Unit)) × Bool)) → (List (Int × (Int × Unit))) → Int → Option (((List (Int × (Int × Unit))) × (Bool × Unit)) × Unit)) (l8 : Y1) (reached10 : (List ((Int × (Int × Unit)) × Bool))) (line11 : (List (Int × (Int × Unit)))) (i12 : Int) : Option (((List (Int × (Int × Unit))) × (Bool × Unit)) × Unit) :=
  rec l8 reached10 line11 (IntKind.i64.wrap (i12 + (1 : Int)))
def zz43_b7 (L10 : Y1 → (List ((Int × (Int × Unit)) × Bool)) → (List (Int × (Int × Unit))) → Int → (List (Int × (Int × Unit))) → Int → Int → Option (((List (Int × (Int × Unit))) × (Bool × Unit)) × Unit)) (k : Y1 → (List ((Int × (Int × Unit)) × Bool)) → Option (((List (Int × (Int × Unit))) × (Bool × Unit)) × Unit)) (l8 : Y1) (reached10 : (List ((Int × (Int × Unit)) × Bool))) (line11 : (List (Int × (Int × Unit)))) (i12 : Int) : Option (((List (Int × (Int × Unit))) × (Bool × Unit)) × Unit) :=
  cond (decide (i12 < (line11.length : Int)))
  ((l8).bind fun xq3 =>
  (zz41 big xq3.1).bind fun rq4 =>
  L10 l8 reached10 line11 i12 rq4.1 (rq4.1.length : Int) (0 : Int))
  (k l8 reached10)
def zz43_a7 (L18 : (List ((Int × (Int × Unit)) × Bool)) → (List (Int × (Int × Unit))) → (List (Int × (Int × Unit))) → Int → Int → Option (((List (Int × (Int × Unit))) × (Bool × Unit)) × Unit)) (l8 : Y1) (reached10 : (List ((Int × (Int × Unit)) × Bool))) : Option (((List (Int × (Int × Unit))) × (Bool × Unit)) × Unit) :=
  (l8).bind fun xq5 =>
  (zz41 big xq5.1).bind fun rq6 =>
  L18 reached10 [] rq6.1 (rq6.1.length : Int) (0 : Int)
def zz43_s (L7 : Y1 → (List ((Int × (Int × Unit)) × Bool)) → (List (Int × (Int × Unit))) → Int → Option (((List (Int × (Int × Unit))) × (Bool × Unit)) × Unit)) (p_0 : Y2) (x_1 : Int) (y_2 : Int) : Option (((List (Int × (Int × Unit))) × (Bool × Unit)) × Unit) :=
  (zz36 p_0).bind fun rq1 =>
  cond (!rq1.1.2.1)
  (some (([], false, ()), (())))
  ((zz40 rq1.1.1 x_1 y_2).bind fun rq2 =>
  cond (!rq2.1)
  (some (([], false, ()), (())))
  (L7 rq1.1.1 (mput (.pair I (.pair I .unit)) .bool [] (x_1, (y_2, ())) true) [(x_1, (y_2, ()))] (0 : Int)))
def zz43_l10 (N : Nat) (k : Y1 → (List ((Int × (Int × Unit)) × Bool)) → (List (Int × (Int × Unit))) → Int → Option (((List (Int × (Int × Unit))) × (Bool × Unit)) × Unit)) : Nat → Y1 → (List ((Int × (Int × Unit)) × Bool)) → (List (Int × (Int × Unit))) → Int → (List (Int × (Int × Unit))) → Int → Int → Option (((List (Int × (Int × Unit))) × (Bool × Unit)) × Unit)
  | 0, _, _, _, _, _, _, _ => none
  | m + 1, l8, reached10, line11, i12, t52, t53, t54 => zz43_b10 (zz43_l10 N k m) k l8 reached10 line11 i12 t52 t53 t54
def zz43_F10 (N : Nat) (rec : Y1 → (List ((Int × (Int × Unit)) × Bool)) → (List (Int × (Int × Unit))) → Int → Option (((List (Int × (Int × Unit))) × (Bool × Unit)) × Unit)) (k : Y1 → (List ((Int × (Int × Unit)) × Bool)) → Option (((List (Int × (Int × Unit))) × (Bool × Unit)) × Unit)) (l8 : Y1) (reached10 : (List ((Int × (Int × Unit)) × Bool))) (line11 : (List (Int × (Int × Unit)))) (i12 : Int) (t52 : (List (Int × (Int × Unit)))) (t53 : Int) (t54 : Int) : Option (((List (Int × (Int × Unit))) × (Bool × Unit)) × Unit) := zz43_l10 N (zz43_a10 rec) N l8 reached10 line11 i12 t52 t53 t54
def zz43_l7 (N : Nat) (k : Y1 → (List ((Int × (Int × Unit)) × Bool)) → Option (((List (Int × (Int × Unit))) × (Bool × Unit)) × Unit)) : Nat → Y1 → (List ((Int × (Int × Unit)) × Bool)) → (List (Int × (Int × Unit))) → Int → Option (((List (Int × (Int × Unit))) × (Bool × Unit)) × Unit)
  | 0, _, _, _, _ => none
  | m + 1, l8, reached10, line11, i12 => zz43_b7 (zz43_F10 N (zz43_l7 N k m) k) k l8 reached10 line11 i12
def zz43_l18 (N : Nat) (k : (List (Int × (Int × Unit))) → Option (((List (Int × (Int × Unit))) × (Bool × Unit)) × Unit)) : Nat → (List ((Int × (Int × Unit)) × Bool)) → (List (Int × (Int × Unit))) → (List (Int × (Int × Unit))) → Int → Int → Option (((List (Int × (Int × Unit))) × (Bool × Unit)) × Unit)
  | 0, _, _, _, _, _ => none
  | m + 1, reached10, list15, t92, t93, t94 => zz43_b18 (zz43_l18 N k m) k reached10 list15 t92 t93 t94
def zz43_F18 (N : Nat) (reached10 : (List ((Int × (Int × Unit)) × Bool))) (list15 : (List (Int × (Int × Unit)))) (t92 : (List (Int × (Int × Unit)))) (t93 : Int) (t94 : Int) : Option (((List (Int × (Int × Unit))) × (Bool × Unit)) × Unit) := zz43_l18 N (zz43_a18) N reached10 list15 t92 t93 t94
def zz43_F7 (N : Nat) (l8 : Y1) (reached10 : (List ((Int × (Int × Unit)) × Bool))) (line11 : (List (Int × (Int × Unit)))) (i12 : Int) : Option (((List (Int × (Int × Unit))) × (Bool × Unit)) × Unit) := zz43_l7 N (zz43_a7 (zz43_F18 N)) N l8 reached10 line11 i12
def zz43 (N : Nat) (p_0 : Y2) (x_1 : Int) (y_2 : Int) : Option (((List (Int × (Int × Unit))) × (Bool × Unit)) × Unit) := zz43_s (zz43_F7 N) p_0 x_1 y_2
def S_zz43 : Sig := { a := (.pair (.pair (.sl (.sl I)) .unit) (.pair I (.pair I .unit))), md := [0, 0, 0], mf := [], m := .unit, r := (.tup (.pair (.sl (.pair I (.pair I .unit))) (.pair .bool .unit))), rf := (.p (.o .i) .i), f := fun x => zz43 big x.1 x.2.1 x.2.2.1 }
def A_zz43 : Cfg := mkCfg tab [(49, S_zz36), (50, S_zz40), (51, S_zz41), (52, S_zz42)] [(14, [.drop, .drop, .drop, .drop, .drop, .drop, .drop, .drop, .as (.opt (.pair (.sl (.sl .bool)) (.pair (.sl (.sl I)) (.pair (.sl (.sl I)) .unit)))) .i, .drop, .as (.map (.pair I (.pair I .unit)) .bool) (.o .i), .as (.sl (.pair I (.pair I .unit))) (.o .i), .as I .i]), (20, [.drop, .drop, .drop, .drop, .drop, .drop, .drop, .drop, .as (.opt (.pair (.sl (.sl .bool)) (.pair (.sl (.sl I)) (.pair (.sl (.sl I)) .unit)))) .i, .drop, .as (.map (.pair I (.pair I .unit)) .bool) (.o .i), .as (.sl (.pair I (.pair I .unit))) (.o .i), .as I .i, .drop, .drop, .drop, .drop, .drop, .drop, .drop, .drop, .drop, .drop, .drop, .drop, .drop, .drop, .drop, .drop, .drop, .drop, .drop, .drop, .drop, .drop, .drop, .drop, .drop, .drop, .drop, .drop, .drop, .drop, .drop, .drop, .drop, .drop, .drop, .drop, .drop, .drop, .drop, .as (.sl (.pair I (.pair I .unit))) (.o .i), .as I .i, .as I .i]), (33, [.drop, .drop, .drop, .drop, .drop, .drop, .drop, .drop, .as (.opt (.pair (.sl (.sl .bool)) (.pair (.sl (.sl I)) (.pair (.sl (.sl I)) .unit)))) .i, .drop, .as (.map (.pair I (.pair I .unit)) .bool) (.o .i)]), (36, [.drop, .drop, .drop, .drop, .drop, .drop, .drop, .drop, .drop, .drop, .as (.map (.pair I (.pair I .unit)) .bool) (.o .i), .drop, .drop, .drop, .drop, .as (.sl (.pair I (.pair I .unit))) (.o .i), .drop, .drop, .drop, .drop, .drop, .drop, .drop, .drop, .drop, .drop, .drop, .drop, .drop, .drop, .drop, .drop, .drop, .drop, .drop, .drop, .drop, .drop, .drop, .drop, .drop, .drop, .drop, .drop, .drop, .drop, .drop, .drop, .drop, .drop, .drop, .drop, .drop, .drop, .drop, .drop, .drop, .drop, .drop, .drop, .drop, .drop, .drop, .drop, .drop, .drop, .drop, .drop, .drop, .drop, .drop, .drop, .drop, .drop, .drop, .drop, .drop, .drop, .drop, .drop, .drop, .drop, .drop, .drop, .drop, .drop, .drop, .drop, .drop, .drop, .drop, .drop, .as (.sl (.pair I (.pair I .unit))) (.o .i), .as I .i, .as I .i]), (17, [.drop, .drop, .drop, .drop, .drop, .drop, .drop, .drop, .as (.opt (.pair (.sl (.sl .bool)) (.pair (.sl (.sl I)) (.pair (.sl (.sl I)) .unit)))) .i, .drop, .as (.map (.pair I (.pair I .unit)) .bool) (.o .i), .as (.sl (.pair I (.pair I .unit))) (.o .i), .as I .i]), (47, [.drop, .drop, .drop, .drop, .drop, .drop, .drop, .drop, .drop, .drop, .drop, .drop, .drop, .drop, .drop, .as (.sl (.pair I (.pair I .unit))) (.o .i)])]
noncomputable def zz43_R7 (N n : Nat) (K : Ex → St → Option (((List (Int × (Int × Unit))) × (Bool × Unit)) × Unit)) (l8 : Y1) (reached10 : (List ((Int × (Int × Unit)) × Bool))) (line11 : (List (Int × (Int × Unit)))) (i12 : Int) : Option (((List (Int × (Int × Unit))) × (Bool × Unit)) × Unit) := iter ((A_zz43).shape 14) (run (A_zz43) N (codeAt Try.f21 [1, 1, 1, 1, 1, 0, 1, 0, 0])) n ([.u, .u, .u, .u, .u, .u, .u, .u, .val (.opt (.pair (.sl (.sl .bool)) (.pair (.sl (.sl I)) (.pair (.sl (.sl I)) .unit)))) .i l8, .u, .val (.map (.pair I (.pair I .unit)) .bool) (.o .i) reached10, .val (.sl (.pair I (.pair I .unit))) (.o .i) line11, .val I .i i12] ++ List.replicate 94 .u) K
noncomputable def zz43_R10 (N n : Nat) (K : Ex → St → Option (((List (Int × (Int × Unit))) × (Bool × Unit)) × Unit)) (l8 : Y1) (reached10 : (List ((Int × (Int × Unit)) × Bool))) (line11 : (List (Int × (Int × Unit)))) (i12 : Int) (t52 : (List (Int × (Int × Unit)))) (t53 : Int) (t54 : Int) : Option (((List (Int × (Int × Unit))) × (Bool × Unit)) × Unit) := iter ((A_zz43).shape 20) (run (A_zz43) N (codeAt Try.f21 [1, 1, 1, 1, 1, 0, 1, 0, 0, 1, 0, 0, 1, 0, 0])) n ([.u, .u, .u, .u, .u, .u, .u, .u, .val (.opt (.pair (.sl (.sl .bool)) (.pair (.sl (.sl I)) (.pair (.sl (.sl I)) .unit)))) .i l8, .u, .val (.map (.pair I (.pair I .unit)) .bool) (.o .i) reached10, .val (.sl (.pair I (.pair I .unit))) (.o .i) line11, .val I .i i12, .u, .u, .u, .u, .u, .u, .u, .u, .u, .u, .u, .u, .u, .u, .u, .u, .u, .u, .u, .u, .u, .u, .u, .u, .u, .u, .u, .u, .u, .u, .u, .u, .u, .u, .u, .u, .u, .u, .u, .val (.sl (.pair I (.pair I .unit))) (.o .i) t52, .val I .i t53, .val I .i t54] ++ List.replicate 52 .u) K
noncomputable def zz43_R18 (N n : Nat) (K : Ex → St → Option (((List (Int × (Int × Unit))) × (Bool × Unit)) × Unit)) (reached10 : (List ((Int × (Int × Unit)) × Bool))) (list15 : (List (Int × (Int × Unit)))) (t92 : (List (Int × (Int × Unit)))) (t93 : Int) (t94 : Int) : Option (((List (Int × (Int × Unit))) × (Bool × Unit)) × Unit) := iter ((A_zz43).shape 36) (run (A_zz43) N (codeAt Try.f21 [1, 1, 1, 1, 1, 1, 1, 0, 1, 0, 0])) n ([.u, .u, .u, .u, .u, .u, .u, .u, .u, .u, .val (.map (.pair I (.pair I .unit)) .bool) (.o .i) reached10, .u, .u, .u, .u, .val (.sl (.pair I (.pair I .unit))) (.o .i) list15, .u, .u, .u, .u, .u, .u, .u, .u, .u, .u, .u, .u, .u, .u, .u, .u, .u, .u, .u, .u, .u, .u, .u, .u, .u, .u, .u, .u, .u, .u, .u, .u, .u, .u, .u, .u, .u, .u, .u, .u, .u, .u, .u, .u, .u, .u, .u, .u, .u, .u, .u, .u, .u, .u, .u, .u, .u, .u, .u, .u, .u, .u, .u, .u, .u, .u, .u, .u, .u, .u, .u, .u, .u, .u, .u, .u, .val (.sl (.pair I (.pair I .unit))) (.o .i) t92, .val I .i t93, .val I .i t94] ++ List.replicate 12 .u) K
noncomputable abbrev zz43_z : Ex → St → Option (((List (Int × (Int × Unit))) × (Bool × Unit)) × Unit) := finish (A_zz43) S_zz43 Try.f21.results.toList
noncomputable abbrev zz43_X7 (kX : St → Option (((List (Int × (Int × Unit))) × (Bool × Unit)) × Unit)) : Y1 → (List ((Int × (Int × Unit)) × Bool)) → Option (((List (Int × (Int × Unit))) × (Bool × Unit)) × Unit) := fun (l8 : Y1) (reached10 : (List ((Int × (Int × Unit)) × Bool))) => kX ([.u, .u, .u, .u, .u, .u, .u, .u, .val (.opt (.pair (.sl (.sl .bool)) (.pair (.sl (.sl I)) (.pair (.sl (.sl I)) .unit)))) .i l8, .u, .val (.map (.pair I (.pair I .unit)) .bool) (.o .i) reached10] ++ List.replicate 96 .u)
noncomputable abbrev zz43_E7 (kX : St → Option (((List (Int × (Int × Unit))) × (Bool × Unit)) × Unit)) (kO : Nat → St → Option (((List (Int × (Int × Unit))) × (Bool × Unit)) × Unit)) : Ex → St → Option (((List (Int × (Int × Unit))) × (Bool × Unit)) × Unit) := exK zz43_z 0 ((A_zz43).shape 33) kX kO
noncomputable abbrev zz43_X10 (kX : St → Option (((List (Int × (Int × Unit))) × (Bool × Unit)) × Unit)) : Y1 → (List ((Int × (Int × Unit)) × Bool)) → (List (Int × (Int × Unit))) → Int → Option (((List (Int × (Int × Unit))) × (Bool × Unit)) × Unit) := fun (l8 : Y1) (reached10 : (List ((Int × (Int × Unit)) × Bool))) (line11 : (List (Int × (Int × Unit)))) (i12 : Int) => kX ([.u, .u, .u, .u, .u, .u, .u, .u, .val (.opt (.pair (.sl (.sl .bool)) (.pair (.sl (.sl I)) (.pair (.sl (.sl I)) .unit)))) .i l8, .u, .val (.map (.pair I (.pair I .unit)) .bool) (.o .i) reached10, .val (.sl (.pair I (.pair I .unit))) (.o .i) line11, .val I .i i12] ++ List.replicate 94 .u)
noncomputable abbrev zz43_E10 (kX : St → Option (((List (Int × (Int × Unit))) × (Bool × Unit)) × Unit)) (kO : Nat → St → Option (((List (Int × (Int × Unit))) × (Bool × Unit)) × Unit)) : Ex → St → Option (((List (Int × (Int × Unit))) × (Bool × Unit)) × Unit) := exK zz43_z 2 ((A_zz43).shape 17) kX kO
noncomputable abbrev zz43_X18 (kX : St → Option (((List (Int × (Int × Unit))) × (Bool × Unit)) × Unit)) : (List (Int × (Int × Unit))) → Option (((List (Int × (Int × Unit))) × (Bool × Unit)) × Unit) := fun (list15 : (List (Int × (Int × Unit)))) => kX ([.u, .u, .u, .u, .u, .u, .u, .u, .u, .u, .u, .u, .u, .u, .u, .val (.sl (.pair I (.pair I .unit))) (.o .i) list15] ++ List.replicate 91 .u)
noncomputable abbrev zz43_E18 (kX : St → Option (((List (Int × (Int × Unit))) × (Bool × Unit)) × Unit)) (kO : Nat → St → Option (((List (Int × (Int × Unit))) × (Bool × Unit)) × Unit)) : Ex → St → Option (((List (Int × (Int × Unit))) × (Bool × Unit)) × Unit) := exK zz43_z 4 ((A_zz43).shape 47) kX kO
theorem zz43_step10 (N : Nat) (m : Nat) (kX : St → Option (((List (Int × (Int × Unit))) × (Bool × Unit)) × Unit)) (kO : Nat → St → Option (((List (Int × (Int × Unit))) × (Bool × Unit)) × Unit)) (l8 : Y1) (reached10 : (List ((Int × (Int × Unit)) × Bool))) (line11 : (List (Int × (Int × Unit)))) (i12 : Int) (t52 : (List (Int × (Int × Unit)))) (t53 : Int) (t54 : Int) : zz43_R10 N (m + 1) (zz43_E10 kX kO) l8 reached10 line11 i12 t52 t53 t54 = zz43_b10 (zz43_R10 N m (zz43_E10 kX kO)) (zz43_X10 kX) l8 reached10 line11 i12 t52 t53 t54 := by kernel_rfl
theorem zz43_iter10 (N : Nat) (kX : St → Option (((List (Int × (Int × Unit))) × (Bool × Unit)) × Unit)) (kO : Nat → St → Option (((List (Int × (Int × Unit))) × (Bool × Unit)) × Unit)) : ∀ (n : Nat) (l8 : Y1) (reached10 : (List ((Int × (Int × Unit)) × Bool))) (line11 : (List (Int × (Int × Unit)))) (i12 : Int) (t52 : (List (Int × (Int × Unit)))) (t53 : Int) (t54 : Int), zz43_R10 N n (zz43_E10 kX kO) l8 reached10 line11 i12 t52 t53 t54 = zz43_l10 N (zz43_X10 kX) n l8 reached10 line11 i12 t52 t53 t54
  | 0, _, _, _, _, _, _, _ => rfl
  | m + 1, l8, reached10, line11, i12, t52, t53, t54 => by
    have hrec : zz43_R10 N m (zz43_E10 kX kO) = (zz43_l10 N (zz43_X10 kX) m) := (funext fun l8 => (funext fun reached10 => (funext fun line11 => (funext fun i12 => (funext fun t52 => (funext fun t53 => (funext fun t54 => zz43_iter10 N kX kO m l8 reached10 line11 i12 t52 t53 t54)))))))
    refine (zz43_step10 N m kX kO l8 reached10 line11 i12 t52 t53 t54).trans ?_
    rw [hrec]
    rfl
noncomputable abbrev zz43_K10 (N : Nat) (m : Nat) (kX : St → Option (((List (Int × (Int × Unit))) × (Bool × Unit)) × Unit)) (kO : Nat → St → Option (((List (Int × (Int × Unit))) × (Bool × Unit)) × Unit)) : Ex → St → Option (((List (Int × (Int × Unit))) × (Bool × Unit)) × Unit) := (blockK 2 (blockK 1 (seqK ((A_zz43).shape 17) (run (A_zz43) N (codeAt Try.f21 [1, 1, 1, 1, 1, 0, 1, 0, 0, 1, 1])) (iterK ((A_zz43).shape 14) (run (A_zz43) N (codeAt Try.f21 [1, 1, 1, 1, 1, 0, 1, 0, 0])) m (zz43_E7 kX kO)))))
noncomputable abbrev zz43_k10 (N : Nat) (m : Nat) (kX : St → Option (((List (Int × (Int × Unit))) × (Bool × Unit)) × Unit)) (kO : Nat → St → Option (((List (Int × (Int × Unit))) × (Bool × Unit)) × Unit)) : St → Option (((List (Int × (Int × Unit))) × (Bool × Unit)) × Unit) := fun st' => run (A_zz43) N (codeAt Try.f21 [1, 1, 1, 1, 1, 0, 1, 0, 0, 1, 1]) st' (iterK ((A_zz43).shape 14) (run (A_zz43) N (codeAt Try.f21 [1, 1, 1, 1, 1, 0, 1, 0, 0])) m (zz43_E7 kX kO))
theorem zz43_after10 (N : Nat) (m : Nat) (kX : St → Option (((List (Int × (Int × Unit))) × (Bool × Unit)) × Unit)) (kO : Nat → St → Option (((List (Int × (Int × Unit))) × (Bool × Unit)) × Unit)) (l8 : Y1) (reached10 : (List ((Int × (Int × Unit)) × Bool))) (line11 : (List (Int × (Int × Unit)))) (i12 : Int) : zz43_X10 (zz43_k10 N m kX kO) l8 reached10 line11 i12 = zz43_a10 (zz43_R7 N m (zz43_E7 kX kO)) l8 reached10 line11 i12 := by kernel_rfl
theorem zz43_in10 (N : Nat) (m : Nat) (kX : St → Option (((List (Int × (Int × Unit))) × (Bool × Unit)) × Unit)) (kO : Nat → St → Option (((List (Int × (Int × Unit))) × (Bool × Unit)) × Unit)) (recF : Y1 → (List ((Int × (Int × Unit)) × Bool)) → (List (Int × (Int × Unit))) → Int → Option (((List (Int × (Int × Unit))) × (Bool × Unit)) × Unit)) (hrec : zz43_R7 N m (zz43_E7 kX kO) = recF) (l8 : Y1) (reached10 : (List ((Int × (Int × Unit)) × Bool))) (line11 : (List (Int × (Int × Unit)))) (i12 : Int) (t52 : (List (Int × (Int × Unit)))) (t53 : Int) (t54 : Int) : zz43_R10 N N (zz43_K10 N m kX kO) l8 reached10 line11 i12 t52 t53 t54 = zz43_F10 N recF (zz43_X7 kX) l8 reached10 line11 i12 t52 t53 t54 :=
  have h : zz43_X10 (zz43_k10 N m kX kO) = (zz43_a10 recF) := (funext fun l8 => (funext fun reached10 => (funext fun line11 => (funext fun i12 => (zz43_after10 N m kX kO l8 reached10 line11 i12).trans (by rw [hrec])))))
  ((iter_ex (fun st => by kernel_rfl) (fun st => by kernel_rfl)).trans (zz43_iter10 N (zz43_k10 N m kX kO) (fun j st => (zz43_K10 N m kX kO) (.exit j) st) N l8 reached10 line11 i12 t52 t53 t54)).trans (congrArg (fun k => zz43_l10 N k N l8 reached10 line11 i12 t52 t53 t54) h)
theorem zz43_step7 (N : Nat) (m : Nat) (kX : St → Option (((List (Int × (Int × Unit))) × (Bool × Unit)) × Unit)) (kO : Nat → St → Option (((List (Int × (Int × Unit))) × (Bool × Unit)) × Unit)) (l8 : Y1) (reached10 : (List ((Int × (Int × Unit)) × Bool))) (line11 : (List (Int × (Int × Unit)))) (i12 : Int) : zz43_R7 N (m + 1) (zz43_E7 kX kO) l8 reached10 line11 i12 = zz43_b7 (zz43_R10 N N (zz43_K10 N m kX kO)) (zz43_X7 kX) l8 reached10 line11 i12 := by kernel_rfl
theorem zz43_iter7 (N : Nat) (kX : St → Option (((List (Int × (Int × Unit))) × (Bool × Unit)) × Unit)) (kO : Nat → St → Option (((List (Int × (Int × Unit))) × (Bool × Unit)) × Unit)) : ∀ (n : Nat) (l8 : Y1) (reached10 : (List ((Int × (Int × Unit)) × Bool))) (line11 : (List (Int × (Int × Unit)))) (i12 : Int), zz43_R7 N n (zz43_E7 kX kO) l8 reached10 line11 i12 = zz43_l7 N (zz43_X7 kX) n l8 reached10 line11 i12
  | 0, _, _, _, _ => rfl
  | m + 1, l8, reached10, line11, i12 => by
    have hrec : zz43_R7 N m (zz43_E7 kX kO) = (zz43_l7 N (zz43_X7 kX) m) := (funext fun l8 => (funext fun reached10 => (funext fun line11 => (funext fun i12 => zz43_iter7 N kX kO m l8 reached10 line11 i12))))
    refine (zz43_step7 N m kX kO l8 reached10 line11 i12).trans ?_
    rw [(funext fun l8 => (funext fun reached10 => (funext fun line11 => (funext fun i12 => (funext fun t52 => (funext fun t53 => (funext fun t54 => zz43_in10 N m kX kO (zz43_l7 N (zz43_X7 kX) m) hrec l8 reached10 line11 i12 t52 t53 t54)))))))]
    rfl
noncomputable abbrev zz43_K7 (N : Nat) : Ex → St → Option (((List (Int × (Int × Unit))) × (Bool × Unit)) × Unit) := (blockK 0 (seqK ((A_zz43).shape 33) (run (A_zz43) N (codeAt Try.f21 [1, 1, 1, 1, 1, 1])) zz43_z))
theorem zz43_step18 (N : Nat) (m : Nat) (kX : St → Option (((List (Int × (Int × Unit))) × (Bool × Unit)) × Unit)) (kO : Nat → St → Option (((List (Int × (Int × Unit))) × (Bool × Unit)) × Unit)) (reached10 : (List ((Int × (Int × Unit)) × Bool))) (list15 : (List (Int × (Int × Unit)))) (t92 : (List (Int × (Int × Unit)))) (t93 : Int) (t94 : Int) : zz43_R18 N (m + 1) (zz43_E18 kX kO) reached10 list15 t92 t93 t94 = zz43_b18 (zz43_R18 N m (zz43_E18 kX kO)) (zz43_X18 kX) reached10 list15 t92 t93 t94 := by kernel_rfl
theorem zz43_iter18 (N : Nat) (kX : St → Option (((List (Int × (Int × Unit))) × (Bool × Unit)) × Unit)) (kO : Nat → St → Option (((List (Int × (Int × Unit))) × (Bool × Unit)) × Unit)) : ∀ (n : Nat) (reached10 : (List ((Int × (Int × Unit)) × Bool))) (list15 : (List (Int × (Int × Unit)))) (t92 : (List (Int × (Int × Unit)))) (t93 : Int) (t94 : Int), zz43_R18 N n (zz43_E18 kX kO) reached10 list15 t92 t93 t94 = zz43_l18 N (zz43_X18 kX) n reached10 list15 t92 t93 t94
  | 0, _, _, _, _, _ => rfl
  | m + 1, reached10, list15, t92, t93, t94 => by
    have hrec : zz43_R18 N m (zz43_E18 kX kO) = (zz43_l18 N (zz43_X18 kX) m) := (funext fun reached10 => (funext fun list15 => (funext fun t92 => (funext fun t93 => (funext fun t94 => zz43_iter18 N kX kO m reached10 list15 t92 t93 t94)))))
    refine (zz43_step18 N m kX kO reached10 list15 t92 t93 t94).trans ?_
    rw [hrec]
    rfl
noncomputable abbrev zz43_K18 (N : Nat) : Ex → St → Option (((List (Int × (Int × Unit))) × (Bool × Unit)) × Unit) := (blockK 4 (seqK ((A_zz43).shape 47) (run (A_zz43) N (codeAt Try.f21 [1, 1, 1, 1, 1, 1, 1, 1])) zz43_z))
noncomputable abbrev zz43_k18 (N : Nat) : St → Option (((List (Int × (Int × Unit))) × (Bool × Unit)) × Unit) := fun st' => run (A_zz43) N (codeAt Try.f21 [1, 1, 1, 1, 1, 1, 1, 1]) st' zz43_z
theorem zz43_after18 (N : Nat) (list15 : (List (Int × (Int × Unit)))) : zz43_X18 (zz43_k18 N) list15 = zz43_a18 list15 := by kernel_rfl
theorem zz43_in18 (N : Nat) (reached10 : (List ((Int × (Int × Unit)) × Bool))) (list15 : (List (Int × (Int × Unit)))) (t92 : (List (Int × (Int × Unit)))) (t93 : Int) (t94 : Int) : zz43_R18 N N (zz43_K18 N) reached10 list15 t92 t93 t94 = zz43_F18 N reached10 list15 t92 t93 t94 :=
  have h : zz43_X18 (zz43_k18 N) = (zz43_a18) := (funext fun list15 => zz43_after18 N list15)
  ((iter_ex (fun st => by kernel_rfl) (fun st => by kernel_rfl)).trans (zz43_iter18 N (zz43_k18 N) (fun j st => (zz43_K18 N) (.exit j) st) N reached10 list15 t92 t93 t94)).trans (congrArg (fun k => zz43_l18 N k N reached10 list15 t92 t93 t94) h)
noncomputable abbrev zz43_k7 (N : Nat) : St → Option (((List (Int × (Int × Unit))) × (Bool × Unit)) × Unit) := fun st' => run (A_zz43) N (codeAt Try.f21 [1, 1, 1, 1, 1, 1]) st' zz43_z
theorem zz43_after7 (N : Nat) (l8 : Y1) (reached10 : (List ((Int × (Int × Unit)) × Bool))) : zz43_X7 (zz43_k7 N) l8 reached10 = zz43_a7 (zz43_R18 N N (zz43_K18 N)) l8 reached10 := by kernel_rfl
theorem zz43_in7 (N : Nat) (l8 : Y1) (reached10 : (List ((Int × (Int × Unit)) × Bool))) (line11 : (List (Int × (Int × Unit)))) (i12 : Int) : zz43_R7 N N (zz43_K7 N) l8 reached10 line11 i12 = zz43_F7 N l8 reached10 line11 i12 :=
  have h : zz43_X7 (zz43_k7 N) = (zz43_a7 (zz43_F18 N)) := (funext fun l8 => (funext fun reached10 => (zz43_after7 N l8 reached10).trans (by rw [(funext fun reached10 => (funext fun list15 => (funext fun t92 => (funext fun t93 => (funext fun t94 => zz43_in18 N reached10 list15 t92 t93 t94)))))])))
  ((iter_ex (fun st => by kernel_rfl) (fun st => by kernel_rfl)).trans (zz43_iter7 N (zz43_k7 N) (fun j st => (zz43_K7 N) (.exit j) st) N l8 reached10 line11 i12)).trans (congrArg (fun k => zz43_l7 N k N l8 reached10 line11 i12) h)
theorem run0_zz43 (N : Nat) (x : (S_zz43).a.den) : runF (A_zz43) N Try.f21 S_zz43 x = (zz43_s (zz43_R7 N N (zz43_K7 N)) x.1 x.2.1 x.2.2.1) := by kernel_rfl
theorem run_zz43 (N : Nat) (x : (S_zz43).a.den) : runF (A_zz43) N Try.f21 S_zz43 x = zz43 N x.1 x.2.1 x.2.2.1 := by
  refine (run0_zz43 N x).trans ?_
  rw [(funext fun l8 => (funext fun reached10 => (funext fun line11 => (funext fun i12 => zz43_in7 N l8 reached10 line11 i12))))]
  rfl
theorem fn_zz43 : FnOk Try.prog 21 := ⟨_, Try.func21, by kernel_rfl, by kernel_rfl⟩
theorem good_zz43 : Gx.Good Try.prog 21 S_zz43 := good_of_run Try.func21 (of_decide_eq_true (by kernel_rfl)) fun x r h => ⟨A_zz43, big, mkCfg_ok tabOk, mkCfg_sigs (show SigsOk Try.prog [(49, S_zz36), (50, S_zz40), (51, S_zz41), (52, S_zz42)] from ⟨⟨fn_zz36, good_zz36⟩, ⟨fn_zz40, good_zz40⟩, ⟨fn_zz41, good_zz41⟩, ⟨fn_zz42, good_zz42⟩, trivial⟩), (run_zz43 big x).trans h⟩

/-! zz44 -/
def zz44_b2 (rec : (Int × (Int × Unit)) → (Int × (Int × Unit)) → Int → Option (Bool × Unit)) (k : Option (Bool × Unit)) (a2 : (Int × (Int × Unit))) (b3 : (Int × (Int × Unit))) (i5 : Int) : Option (Bool × Unit) :=
  cond (decide (i5 < (2 : Int)))
  (cond (decide (i5 = (0 : Int)))
  (cond (decide (i5 = (0 : Int)))
  (cond (decide (a2.1 ≠ b3.1))
  (some (false, (())))
  (rec a2 b3 (IntKind.i64.wrap (i5 + (1 : Int)))))
  (cond (decide (i5 = (1 : Int)))
  (cond (decide (a2.1 ≠ b3.2.1))
  (some (false, (())))
  (rec a2 b3 (IntKind.i64.wrap (i5 + (1 : Int)))))
  (none)))
  (cond (decide (i5 = (1 : Int)))
  (cond (decide (i5 = (0 : Int)))
  (cond (decide (a2.2.1 ≠ b3.1))
  (some (false, (())))
  (rec a2 b3 (IntKind.i64.wrap (i5 + (1 : Int)))))
  (cond (decide (i5 = (1 : Int)))
  (cond (decide (a2.2.1 ≠ b3.2.1))
  (some (false, (())))
  (rec a2 b3 (IntKind.i64.wrap (i5 + (1 : Int)))))
  (none)))
  (none)))
  (k)
def zz44_a2 : Option (Bool × Unit) :=
  some (true, (()))
def zz44_s (L2 : (Int × (Int × Unit)) → (Int × (Int × Unit)) → Int → Option (Bool × Unit)) (a_0 : (Int × (Int × Unit))) (b_1 : (Int × (Int × Unit))) : Option (Bool × Unit) :=
  L2 a_0 b_1 (0 : Int)
def zz44_l2 (N : Nat) (k : Option (Bool × Unit)) : Nat → (Int × (Int × Unit)) → (Int × (Int × Unit)) → Int → Option (Bool × Unit)
  | 0, _, _, _ => none
  | m + 1, a2, b3, i5 => zz44_b2 (zz44_l2 N k m) k a2 b3 i5
def zz44_F2 (N : Nat) (a2 : (Int × (Int × Unit))) (b3 : (Int × (Int × Unit))) (i5 : Int) : Option (Bool × Unit) := zz44_l2 N (zz44_a2) N a2 b3 i5
def zz44 (N : Nat) (a_0 : (Int × (Int × Unit))) (b_1 : (Int × (Int × Unit))) : Option (Bool × Unit) := zz44_s (zz44_F2 N) a_0 b_1
def S_zz44 : Sig := { a := (.pair (.pair I (.pair I .unit)) (.pair (.pair I (.pair I .unit)) .unit)), md := [0, 0], mf := [], m := .unit, r := .bool, rf := .i, f := fun x => zz44 big x.1 x.2.1 }
def A_zz44 : Cfg := mkCfg tab [] [(4, [.drop, .drop, .as (.ptr (.pair I (.pair I .unit))) (.o .i), .as (.ptr (.pair I (.pair I .unit))) (.o .i), .drop, .as I .i]), (13, [])]
noncomputable def zz44_R2 (N n : Nat) (K : Ex → St → Option (Bool × Unit)) (a2 : (Int × (Int × Unit))) (b3 : (Int × (Int × Unit))) (i5 : Int) : Option (Bool × Unit) := iter ((A_zz44).shape 4) (run (A_zz44) N (codeAt Try.f53 [1, 0, 1, 0, 0])) n ([.u, .u, .val (.ptr (.pair I (.pair I .unit))) (.o .i) a2, .val (.ptr (.pair I (.pair I .unit))) (.o .i) b3, .u, .val I .i i5] ++ List.replicate 11 .u) K
noncomputable abbrev zz44_z : Ex → St → Option (Bool × Unit) := finish (A_zz44) S_zz44 Try.f53.results.toList
noncomputable abbrev zz44_X2 (kX : St → Option (Bool × Unit)) : Option (Bool × Unit) := kX ([] ++ List.replicate 17 .u)
noncomputable abbrev zz44_E2 (kX : St → Option (Bool × Unit)) (kO : Nat → St → Option (Bool × Unit)) : Ex → St → Option (Bool × Unit) := exK zz44_z 0 ((A_zz44).shape 13) kX kO
theorem zz44_step2 (N : Nat) (m : Nat) (kX : St → Option (Bool × Unit)) (kO : Nat → St → Option (Bool × Unit)) (a2 : (Int × (Int × Unit))) (b3 : (Int × (Int × Unit))) (i5 : Int) : zz44_R2 N (m + 1) (zz44_E2 kX kO) a2 b3 i5 = zz44_b2 (zz44_R2 N m (zz44_E2 kX kO)) (zz44_X2 kX) a2 b3 i5 := by kernel_rfl
theorem zz44_iter2 (N : Nat) (kX : St → Option (Bool × Unit)) (kO : Nat → St → Option (Bool × Unit)) : ∀ (n : Nat) (a2 : (Int × (Int × Unit))) (b3 : (Int × (Int × Unit))) (i5 : Int), zz44_R2 N n (zz44_E2 kX kO) a2 b3 i5 = zz44_l2 N (zz44_X2 kX) n a2 b3 i5
  | 0, _, _, _ => rfl
  | m + 1, a2, b3, i5 => by
    have hrec : zz44_R2 N m (zz44_E2 kX kO) = (zz44_l2 N (zz44_X2 kX) m) := (funext fun a2 => (funext fun b3 => (funext fun i5 => zz44_iter2 N kX kO m a2 b3 i5)))
    refine (zz44_step2 N m kX kO a2 b3 i5).trans ?_
    rw [hrec]
    rfl
noncomputable abbrev zz44_K2 (N : Nat) : Ex → St → Option (Bool × Unit) := (blockK 0 (seqK ((A_zz44).shape 13) (run (A_zz44) N (codeAt Try.f53 [1, 1])) zz44_z))
noncomputable abbrev zz44_k2 (N : Nat) : St → Option (Bool × Unit) := fun st' => run (A_zz44) N (codeAt Try.f53 [1, 1]) st' zz44_z
theorem zz44_after2 (N : Nat) : zz44_X2 (zz44_k2 N) = zz44_a2 := by kernel_rfl
theorem zz44_in2 (N : Nat) (a2 : (Int × (Int × Unit))) (b3 : (Int × (Int × Unit))) (i5 : Int) : zz44_R2 N N (zz44_K2 N) a2 b3 i5 = zz44_F2 N a2 b3 i5 :=
  have h : zz44_X2 (zz44_k2 N) = (zz44_a2) := zz44_after2 N
  ((iter_ex (fun st => by kernel_rfl) (fun st => by kernel_rfl)).trans (zz44_iter2 N (zz44_k2 N) (fun j st => (zz44_K2 N) (.exit j) st) N a2 b3 i5)).trans (congrArg (fun k => zz44_l2 N k N a2 b3 i5) h)
theorem run0_zz44 (N : Nat) (x : (S_zz44).a.den) : runF (A_zz44) N Try.f53 S_zz44 x = (zz44_s (zz44_R2 N N (zz44_K2 N)) x.1 x.2.1) := by kernel_rfl
theorem run_zz44 (N : Nat) (x : (S_zz44).a.den) : runF (A_zz44) N Try.f53 S_zz44 x = zz44 N x.1 x.2.1 := by
  refine (run0_zz44 N x).trans ?_
  rw [(funext fun a2 => (funext fun b3 => (funext fun i5 => zz44_in2 N a2 b3 i5)))]
  rfl
theorem fn_zz44 : FnOk Try.prog 53 := ⟨_, Try.func53, by kernel_rfl, by kernel_rfl⟩
theorem good_zz44 : Gx.Good Try.prog 53 S_zz44 := good_of_run Try.func53 (of_decide_eq_true (by kernel_rfl)) fun x r h => ⟨A_zz44, big, mkCfg_ok tabOk, mkCfg_sigs (show SigsOk Try.prog [] from trivial), (run_zz44 big x).trans h⟩

/-! zz45 -/
def zz45_b4 (rec : (List (Int × (Int × Unit))) → (List (Int × (Int × Unit))) → Int → Option (Bool × Unit)) (k : Option (Bool × Unit)) (a0 : (List (Int × (Int × Unit)))) (b1 : (List (Int × (Int × Unit)))) (i5 : Int) : Option (Bool × Unit) :=
  cond (decide (i5 < (a0.length : Int)))
  ((atI a0 i5).bind fun xq1 =>
  (atI b1 i5).bind fun xq2 =>
  (zz44 big xq1 xq2).bind fun rq3 =>
  cond (!rq3.1)
  (some (false, (())))
  (rec a0 b1 (IntKind.i64.wrap (i5 + (1 : Int)))))
  (k)
def zz45_a4 : Option (Bool × Unit) :=
  some (true, (()))
def zz45_s (L4 : (List (Int × (Int × Unit))) → (List (Int × (Int × Unit))) → Int → Option (Bool × Unit)) (a_0 : (List (Int × (Int × Unit)))) (b_1 : (List (Int × (Int × Unit)))) : Option (Bool × Unit) :=
  cond (decide ((a_0.length : Int) ≠ (b_1.length : Int)))
  (some (false, (())))
  (L4 a_0 b_1 (0 : Int))
def zz45_l4 (N : Nat) (k : Option (Bool × Unit)) : Nat → (List (Int × (Int × Unit))) → (List (Int × (Int × Unit))) → Int → Option (Bool × Unit)
  | 0, _, _, _ => none
  | m + 1, a0, b1, i5 => zz45_b4 (zz45_l4 N k m) k a0 b1 i5
def zz45_F4 (N : Nat) (a0 : (List (Int × (Int × Unit)))) (b1 : (List (Int × (Int × Unit)))) (i5 : Int) : Option (Bool × Unit) := zz45_l4 N (zz45_a4) N a0 b1 i5
def zz45 (N : Nat) (a_0 : (List (Int × (Int × Unit)))) (b_1 : (List (Int × (Int × Unit)))) : Option (Bool × Unit) := zz45_s (zz45_F4 N) a_0 b_1
def S_zz45 : Sig := { a := (.pair (.sl (.pair I (.pair I .unit))) (.pair (.sl (.pair I (.pair I .unit))) .unit)), md := [0, 0], mf := [], m := .unit, r := .bool, rf := .i, f := fun x => zz45 big x.1 x.2.1 }
def A_zz45 : Cfg := mkCfg tab [(53, S_zz44)] [(8, [.as (.sl (.pair I (.pair I .unit))) .i, .as (.sl (.pair I (.pair I .unit))) .i, .drop, .drop, .drop, .as I .i]), (17, [])]
noncomputable def zz45_R4 (N n : Nat) (K : Ex → St → Option (Bool × Unit)) (a0 : (List (Int × (Int × Unit)))) (b1 : (List (Int × (Int × Unit)))) (i5 : Int) : Option (Bool × Unit) := iter ((A_zz45).shape 8) (run (A_zz45) N (codeAt Try.f22 [1, 1, 0, 1, 0, 0])) n ([.val (.sl (.pair I (.pair I .unit))) .i a0, .val (.sl (.pair I (.pair I .unit))) .i b1, .u, .u, .u, .val I .i i5] ++ List.replicate 21 .u) K
noncomputable abbrev zz45_z : Ex → St → Option (Bool × Unit) := finish (A_zz45) S_zz45 Try.f22.results.toList
noncomputable abbrev zz45_X4 (kX : St → Option (Bool × Unit)) : Option (Bool × Unit) := kX ([] ++ List.replicate 27 .u)
noncomputable abbrev zz45_E4 (kX : St → Option (Bool × Unit)) (kO : Nat → St → Option (Bool × Unit)) : Ex → St → Option (Bool × Unit) := exK zz45_z 0 ((A_zz45).shape 17) kX kO
theorem zz45_step4 (N : Nat) (m : Nat) (kX : St → Option (Bool × Unit)) (kO : Nat → St → Option (Bool × Unit)) (a0 : (List (Int × (Int × Unit)))) (b1 : (List (Int × (Int × Unit)))) (i5 : Int) : zz45_R4 N (m + 1) (zz45_E4 kX kO) a0 b1 i5 = zz45_b4 (zz45_R4 N m (zz45_E4 kX kO)) (zz45_X4 kX) a0 b1 i5 := by kernel_rfl
theorem zz45_iter4 (N : Nat) (kX : St → Option (Bool × Unit)) (kO : Nat → St → Option (Bool × Unit)) : ∀ (n : Nat) (a0 : (List (Int × (Int × Unit)))) (b1 : (List (Int × (Int × Unit)))) (i5 : Int), zz45_R4 N n (zz45_E4 kX kO) a0 b1 i5 = zz45_l4 N (zz45_X4 kX) n a0 b1 i5
  | 0, _, _, _ => rfl
  | m + 1, a0, b1, i5 => by
    have hrec : zz45_R4 N m (zz45_E4 kX kO) = (zz45_l4 N (zz45_X4 kX) m) := (funext fun a0 => (funext fun b1 => (funext fun i5 => zz45_iter4 N kX kO m a0 b1 i5)))
    refine (zz45_step4 N m kX kO a0 b1 i5).trans ?_
    rw [hrec]
    rfl
noncomputable abbrev zz45_K4 (N : Nat) : Ex → St → Option (Bool × Unit) := (blockK 0 (seqK ((A_zz45).shape 17) (run (A_zz45) N (codeAt Try.f22 [1, 1, 1])) zz45_z))
noncomputable abbrev zz45_k4 (N : Nat) : St → Option (Bool × Unit) := fun st' => run (A_zz45) N (codeAt Try.f22 [1, 1, 1]) st' zz45_z
theorem zz45_after4 (N : Nat) : zz45_X4 (zz45_k4 N) = zz45_a4 := by kernel_rfl
theorem zz45_in4 (N : Nat) (a0 : (List (Int × (Int × Unit)))) (b1 : (List (Int × (Int × Unit)))) (i5 : Int) : zz45_R4 N N (zz45_K4 N) a0 b1 i5 = zz45_F4 N a0 b1 i5 :=
  have h : zz45_X4 (zz45_k4 N) = (zz45_a4) := zz45_after4 N
  ((iter_ex (fun st => by kernel_rfl) (fun st => by kernel_rfl)).trans (zz45_iter4 N (zz45_k4 N) (fun j st => (zz45_K4 N) (.exit j) st) N a0 b1 i5)).trans (congrArg (fun k => zz45_l4 N k N a0 b1 i5) h)
theorem run0_zz45 (N : Nat) (x : (S_zz45).a.den) : runF (A_zz45) N Try.f22 S_zz45 x = (zz45_s (zz45_R4 N N (zz45_K4 N)) x.1 x.2.1) := by kernel_rfl
theorem run_zz45 (N : Nat) (x : (S_zz45).a.den) : runF (A_zz45) N Try.f22 S_zz45 x = zz45 N x.1 x.2.1 := by
  refine (run0_zz45 N x).trans ?_
  rw [(funext fun a0 => (funext fun b1 => (funext fun i5 => zz45_in4 N a0 b1 i5)))]
  rfl
theorem fn_zz45 : FnOk Try.prog 22 := ⟨_, Try.func22, by kernel_rfl, by kernel_rfl⟩
theorem good_zz45 : Gx.Good Try.prog 22 S_zz45 := good_of_run Try.func22 (of_decide_eq_true (by kernel_rfl)) fun x r h => ⟨A_zz45, big, mkCfg_ok tabOk, mkCfg_sigs (show SigsOk Try.prog [(53, S_zz44)] from ⟨⟨fn_zz44, good_zz44⟩, trivial⟩), (run_zz45 big x).trans h⟩

/-! zz46 -/
def zz46_b4 (rec : Y4 → Y4 → Int → Option (Bool × Unit)) (k : Option (Bool × Unit)) (a0 : Y4) (b1 : Y4) (i5 : Int) : Option (Bool × Unit) :=
  cond (decide (i5 < (a0.length : Int)))
  ((atI a0 i5).bind fun xq1 =>
  (atI b1 i5).bind fun xq2 =>
  cond (decide (xq1 ≠ xq2))
  (some (false, (())))
  (rec a0 b1 (IntKind.i64.wrap (i5 + (1 : Int)))))
  (k)
def zz46_a4 : Option (Bool × Unit) :=
  some (true, (()))
def zz46_s (L4 : Y4 → Y4 → Int → Option (Bool × Unit)) (a_0 : Y4) (b_1 : Y4) : Option (Bool × Unit) :=
  cond (decide ((a_0.length : Int) ≠ (b_1.length : Int)))
  (some (false, (())))
  (L4 a_0 b_1 (0 : Int))
def zz46_l4 (N : Nat) (k : Option (Bool × Unit)) : Nat → Y4 → Y4 → Int → Option (Bool × Unit)
  | 0, _, _, _ => none
  | m + 1, a0, b1, i5 => zz46_b4 (zz46_l4 N k m) k a0 b1 i5
def zz46_F4 (N : Nat) (a0 : Y4) (b1 : Y4) (i5 : Int) : Option (Bool × Unit) := zz46_l4 N (zz46_a4) N a0 b1 i5
def zz46 (N : Nat) (a_0 : Y4) (b_1 : Y4) : Option (Bool × Unit) := zz46_s (zz46_F4 N) a_0 b_1
def S_zz46 : Sig := { a := (.pair (.sl I) (.pair (.sl I) .unit)), md := [0, 0], mf := [], m := .unit, r := .bool, rf := .i, f := fun x => zz46 big x.1 x.2.1 }
def A_zz46 : Cfg := mkCfg tab [] [(8, [.as (.sl I) .i, .as (.sl I) .i, .drop, .drop, .drop, .as I .i]), (17, [])]
noncomputable def zz46_R4 (N n : Nat) (K : Ex → St → Option (Bool × Unit)) (a0 : Y4) (b1 : Y4) (i5 : Int) : Option (Bool × Unit) := iter ((A_zz46).shape 8) (run (A_zz46) N (codeAt Try.f11 [1, 1, 0, 1, 0, 0])) n ([.val (.sl I) .i a0, .val (.sl I) .i b1, .u, .u, .u, .val I .i i5] ++ List.replicate 20 .u) K
noncomputable abbrev zz46_z : Ex → St → Option (Bool × Unit) := finish (A_zz46) S_zz46 Try.f11.results.toList
noncomputable abbrev zz46_X4 (kX : St → Option (Bool × Unit)) : Option (Bool × Unit) := kX ([] ++ List.replicate 26 .u)
noncomputable abbrev zz46_E4 (kX : St → Option (Bool × Unit)) (kO : Nat → St → Option (Bool × Unit)) : Ex → St → Option (Bool × Unit) := exK zz46_z 0 ((A_zz46).shape 17) kX kO
theorem zz46_step4 (N : Nat) (m : Nat) (kX : St → Option (Bool × Unit)) (kO : Nat → St → Option (Bool × Unit)) (a0 : Y4) (b1 : Y4) (i5 : Int) : zz46_R4 N (m + 1) (zz46_E4 kX kO) a0 b1 i5 = zz46_b4 (zz46_R4 N m (zz46_E4 kX kO)) (zz46_X4 kX) a0 b1 i5 := by kernel_rfl
theorem zz46_iter4 (N : Nat) (kX : St → Option (Bool × Unit)) (kO : Nat → St → Option (Bool × Unit)) : ∀ (n : Nat) (a0 : Y4) (b1 : Y4) (i5 : Int), zz46_R4 N n (zz46_E4 kX kO) a0 b1 i5 = zz46_l4 N (zz46_X4 kX) n a0 b1 i5
  | 0, _, _, _ => rfl
  | m + 1, a0, b1, i5 => by
    have hrec : zz46_R4 N m (zz46_E4 kX kO) = (zz46_l4 N (zz46_X4 kX) m) := (funext fun a0 => (funext fun b1 => (funext fun i5 => zz46_iter4 N kX kO m a0 b1 i5)))
    refine (zz46_step4 N m kX kO a0 b1 i5).trans ?_
    rw [hrec]
    rfl
noncomputable abbrev zz46_K4 (N : Nat) : Ex → St → Option (Bool × Unit) := (blockK 0 (seqK ((A_zz46).shape 17) (run (A_zz46) N (codeAt Try.f11 [1, 1, 1])) zz46_z))
noncomputable abbrev zz46_k4 (N : Nat) : St → Option (Bool × Unit) := fun st' => run (A_zz46) N (codeAt Try.f11 [1, 1, 1]) st' zz46_z
theorem zz46_after4 (N : Nat) : zz46_X4 (zz46_k4 N) = zz46_a4 := by kernel_rfl
theorem zz46_in4 (N : Nat) (a0 : Y4) (b1 : Y4) (i5 : Int) : zz46_R4 N N (zz46_K4 N) a0 b1 i5 = zz46_F4 N a0 b1 i5 :=
  have h : zz46_X4 (zz46_k4 N) = (zz46_a4) := zz46_after4 N
  ((iter_ex (fun st => by kernel_rfl) (fun st => by kernel_rfl)).trans (zz46_iter4 N (zz46_k4 N) (fun j st => (zz46_K4 N) (.exit j) st) N a0 b1 i5)).trans (congrArg (fun k => zz46_l4 N k N a0 b1 i5) h)
theorem run0_zz46 (N : Nat) (x : (S_zz46).a.den) : runF (A_zz46) N Try.f11 S_zz46 x = (zz46_s (zz46_R4 N N (zz46_K4 N)) x.1 x.2.1) := by kernel_rfl
theorem run_zz46 (N : Nat) (x : (S_zz46).a.den) : runF (A_zz46) N Try.f11 S_zz46 x = zz46 N x.1 x.2.1 := by
  refine (run0_zz46 N x).trans ?_
  rw [(funext fun a0 => (funext fun b1 => (funext fun i5 => zz46_in4 N a0 b1 i5)))]
  rfl
theorem fn_zz46 : FnOk Try.prog 11 := ⟨_, Try.func11, by kernel_rfl, by kernel_rfl⟩
theorem good_zz46 : Gx.Good Try.prog 11 S_zz46 := good_of_run Try.func11 (of_decide_eq_true (by kernel_rfl)) fun x r h => ⟨A_zz46, big, mkCfg_ok tabOk, mkCfg_sigs (show SigsOk Try.prog [] from trivial), (run_zz46 big x).trans h⟩

/-! zz47 -/
def zz47_b4 (rec : Y3 → Y3 → Int → Option (Bool × Unit)) (k : Option (Bool × Unit)) (a0 : Y3) (b1 : Y3) (i5 : Int) : Option (Bool × Unit) :=
  cond (decide (i5 < (a0.length : Int)))
  ((atI a0 i5).bind fun xq1 =>
  (atI b1 i5).bind fun xq2 =>
  (zz46 big xq1 xq2).bind fun rq3 =>
  cond (!rq3.1)
  (some (false, (())))
  (rec a0 b1 (IntKind.i64.wrap (i5 + (1 : Int)))))
  (k)
def zz47_a4 : Option (Bool × Unit) :=
  some (true, (()))
def zz47_s (L4 : Y3 → Y3 → Int → Option (Bool × Unit)) (a_0 : Y3) (b_1 : Y3) : Option (Bool × Unit) :=
  cond (decide ((a_0.length : Int) ≠ (b_1.length : Int)))
  (some (false, (())))
  (L4 a_0 b_1 (0 : Int))
def zz47_l4 (N : Nat) (k : Option (Bool × Unit)) : Nat → Y3 → Y3 → Int → Option (Bool × Unit)
  | 0, _, _, _ => none
  | m + 1, a0, b1, i5 => zz47_b4 (zz47_l4 N k m) k a0 b1 i5
def zz47_F4 (N : Nat) (a0 : Y3) (b1 : Y3) (i5 : Int) : Option (Bool × Unit) := zz47_l4 N (zz47_a4) N a0 b1 i5
def zz47 (N : Nat) (a_0 : Y3) (b_1 : Y3) : Option (Bool × Unit) := zz47_s (zz47_F4 N) a_0 b_1
def S_zz47 : Sig := { a := (.pair (.sl (.sl I)) (.pair (.sl (.sl I)) .unit)), md := [0, 0], mf := [], m := .unit, r := .bool, rf := .i, f := fun x => zz47 big x.1 x.2.1 }
def A_zz47 : Cfg := mkCfg tab [(11, S_zz46)] [(8, [.as (.sl (.sl I)) .i, .as (.sl (.sl I)) .i, .drop, .drop, .drop, .as I .i]), (17, [])]
noncomputable def zz47_R4 (N n : Nat) (K : Ex → St → Option (Bool × Unit)) (a0 : Y3) (b1 : Y3) (i5 : Int) : Option (Bool × Unit) := iter ((A_zz47).shape 8) (run (A_zz47) N (codeAt Try.f54 [1, 1, 0, 1, 0, 0])) n ([.val (.sl (.sl I)) .i a0, .val (.sl (.sl I)) .i b1, .u, .u, .u, .val I .i i5] ++ List.replicate 21 .u) K
noncomputable abbrev zz47_z : Ex → St → Option (Bool × Unit) := finish (A_zz47) S_zz47 Try.f54.results.toList
noncomputable abbrev zz47_X4 (kX : St → Option (Bool × Unit)) : Option (Bool × Unit) := kX ([] ++ List.replicate 27 .u)
noncomputable abbrev zz47_E4 (kX : St → Option (Bool × Unit)) (kO : Nat → St → Option (Bool × Unit)) : Ex → St → Option (Bool × Unit) := exK zz47_z 0 ((A_zz47).shape 17) kX kO
theorem zz47_step4 (N : Nat) (m : Nat) (kX : St → Option (Bool × Unit)) (kO : Nat → St → Option (Bool × Unit)) (a0 : Y3) (b1 : Y3) (i5 : Int) : zz47_R4 N (m + 1) (zz47_E4 kX kO) a0 b1 i5 = zz47_b4 (zz47_R4 N m (zz47_E4 kX kO)) (zz47_X4 kX) a0 b1 i5 := by kernel_rfl
theorem zz47_iter4 (N : Nat) (kX : St → Option (Bool × Unit)) (kO : Nat → St → Option (Bool × Unit)) : ∀ (n : Nat) (a0 : Y3) (b1 : Y3) (i5 : Int), zz47_R4 N n (zz47_E4 kX kO) a0 b1 i5 = zz47_l4 N (zz47_X4 kX) n a0 b1 i5
  | 0, _, _, _ => rfl
  | m + 1, a0, b1, i5 => by
    have hrec : zz47_R4 N m (zz47_E4 kX kO) = (zz47_l4 N (zz47_X4 kX) m) := (funext fun a0 => (funext fun b1 => (funext fun i5 => zz47_iter4 N kX kO m a0 b1 i5)))
    refine (zz47_step4 N m kX kO a0 b1 i5).trans ?_
    rw [hrec]
    rfl
noncomputable abbrev zz47_K4 (N : Nat) : Ex → St → Option (Bool × Unit) := (blockK 0 (seqK ((A_zz47).shape 17) (run (A_zz47) N (codeAt Try.f54 [1, 1, 1])) zz47_z))
noncomputable abbrev zz47_k4 (N : Nat) : St → Option (Bool × Unit) := fun st' => run (A_zz47) N (codeAt Try.f54 [1, 1, 1]) st' zz47_z
theorem zz47_after4 (N : Nat) : zz47_X4 (zz47_k4 N) = zz47_a4 := by kernel_rfl
theorem zz47_in4 (N : Nat) (a0 : Y3) (b1 : Y3) (i5 : Int) : zz47_R4 N N (zz47_K4 N) a0 b1 i5 = zz47_F4 N a0 b1 i5 :=
  have h : zz47_X4 (zz47_k4 N) = (zz47_a4) := zz47_after4 N
  ((iter_ex (fun st => by kernel_rfl) (fun st => by kernel_rfl)).trans (zz47_iter4 N (zz47_k4 N) (fun j st => (zz47_K4 N) (.exit j) st) N a0 b1 i5)).trans (congrArg (fun k => zz47_l4 N k N a0 b1 i5) h)
theorem run0_zz47 (N : Nat) (x : (S_zz47).a.den) : runF (A_zz47) N Try.f54 S_zz47 x = (zz47_s (zz47_R4 N N (zz47_K4 N)) x.1 x.2.1) := by kernel_rfl
theorem run_zz47 (N : Nat) (x : (S_zz47).a.den) : runF (A_zz47) N Try.f54 S_zz47 x = zz47 N x.1 x.2.1 := by
  refine (run0_zz47 N x).trans ?_
  rw [(funext fun a0 => (funext fun b1 => (funext fun i5 => zz47_in4 N a0 b1 i5)))]
  rfl
theorem fn_zz47 : FnOk Try.prog 54 := ⟨_, Try.func54, by kernel_rfl, by kernel_rfl⟩
theorem good_zz47 : Gx.Good Try.prog 54 S_zz47 := good_of_run Try.func54 (of_decide_eq_true (by kernel_rfl)) fun x r h => ⟨A_zz47, big, mkCfg_ok tabOk, mkCfg_sigs (show SigsOk Try.prog [(11, S_zz46)] from ⟨⟨fn_zz46, good_zz46⟩, trivial⟩), (run_zz47 big x).trans h⟩

/-! zz48 -/
def zz48_s (a_0 : Y2) (b_1 : Y2) : Option (Bool × Unit) :=
  (zz47 big a_0.1 b_1.1).bind fun rq1 =>
  cond (!rq1.1)
  (some (false, (())))
  (some (true, (())))
def zz48 (a_0 : Y2) (b_1 : Y2) : Option (Bool × Unit) := zz48_s a_0 b_1
def S_zz48 : Sig := { a := (.pair (.pair (.sl (.sl I)) .unit) (.pair (.pair (.sl (.sl I)) .unit) .unit)), md := [0, 0], mf := [], m := .unit, r := .bool, rf := .i, f := fun x => zz48 x.1 x.2.1 }
def A_zz48 : Cfg := mkCfg tab [(54, S_zz47)] []
theorem run_zz48 (N : Nat) (x : (S_zz48).a.den) : runF (A_zz48) N Try.f23 S_zz48 x = zz48 x.1 x.2.1 := by kernel_rfl
theorem fn_zz48 : FnOk Try.prog 23 := ⟨_, Try.func23, by kernel_rfl, by kernel_rfl⟩
theorem good_zz48 : Gx.Good Try.prog 23 S_zz48 := good_of_run Try.func23 (of_decide_eq_true (by kernel_rfl)) fun x r h => ⟨A_zz48, big, mkCfg_ok tabOk, mkCfg_sigs (show SigsOk Try.prog [(54, S_zz47)] from ⟨⟨fn_zz47, good_zz47⟩, trivial⟩), (run_zz48 big x).trans h⟩

/-! zz49 -/
def zz49_b2 (rec : Y4 → Int → Int → Option Y6) (k : Y4 → Int → Option Y6) (a0 : Y4) (k1 : Int) (i5 : Int) : Option Y6 :=
  cond (decide (i5 < (a0.length : Int)))
  ((atI a0 i5).bind fun _ =>
  (a0[i5.toNat]?).bind fun xq1 =>
  rec (a0.set i5.toNat k1) (IntKind.i64.wrap (k1 + (1 : Int))) (IntKind.i64.wrap (i5 + (1 : Int))))
  (k a0 k1)
def zz49_a2 (a0 : Y4) (k1 : Int) : Option Y6 :=
  some (k1, (a0, ()))
def zz49_s (L2 : Y4 → Int → Int → Option Y6) (a_0 : Y4) (k_1 : Int) : Option Y6 :=
  L2 a_0 k_1 (0 : Int)
def zz49_l2 (N : Nat) (k : Y4 → Int → Option Y6) : Nat → Y4 → Int → Int → Option Y6
  | 0, _, _, _ => none
  | m + 1, a0, k1, i5 => zz49_b2 (zz49_l2 N k m) k a0 k1 i5
def zz49_F2 (N : Nat) (a0 : Y4) (k1 : Int) (i5 : Int) : Option Y6 := zz49_l2 N (zz49_a2) N a0 k1 i5
def zz49 (N : Nat) (a_0 : Y4) (k_1 : Int) : Option Y6 := zz49_s (zz49_F2 N) a_0 k_1
def S_zz49 : Sig := { a := (.pair (.sl I) (.pair I .unit)), md := [1, 0], mf := [(.o .i)], m := (.pair (.sl I) .unit), r := I, rf := .i, f := fun x => zz49 big x.1 x.2.1 }
def A_zz49 : Cfg := mkCfg tab [] [(4, [.as (.sl I) (.o .i), .as I .i, .drop, .drop, .drop, .as I .i]), (13, [.as (.sl I) (.o .i), .as I .i])]
noncomputable def zz49_R2 (N n : Nat) (K : Ex → St → Option Y6) (a0 : Y4) (k1 : Int) (i5 : Int) : Option Y6 := iter ((A_zz49).shape 4) (run (A_zz49) N (codeAt Try.f16 [1, 0, 1, 0, 0])) n ([.val (.sl I) (.o .i) a0, .val I .i k1, .u, .u, .u, .val I .i i5] ++ List.replicate 13 .u) K
noncomputable abbrev zz49_z : Ex → St → Option Y6 := finish (A_zz49) S_zz49 Try.f16.results.toList
noncomputable abbrev zz49_X2 (kX : St → Option Y6) : Y4 → Int → Option Y6 := fun (a0 : Y4) (k1 : Int) => kX ([.val (.sl I) (.o .i) a0, .val I .i k1] ++ List.replicate 17 .u)
noncomputable abbrev zz49_E2 (kX : St → Option Y6) (kO : Nat → St → Option Y6) : Ex → St → Option Y6 := exK zz49_z 0 ((A_zz49).shape 13) kX kO
theorem zz49_step2 (N : Nat) (m : Nat) (kX : St → Option Y6) (kO : Nat → St → Option Y6) (a0 : Y4) (k1 : Int) (i5 : Int) : zz49_R2 N (m + 1) (zz49_E2 kX kO) a0 k1 i5 = zz49_b2 (zz49_R2 N m (zz49_E2 kX kO)) (zz49_X2 kX) a0 k1 i5 := by kernel_rfl
theorem zz49_iter2 (N : Nat) (kX : St → Option Y6) (kO : Nat → St → Option Y6) : ∀ (n : Nat) (a0 : Y4) (k1 : Int) (i5 : Int), zz49_R2 N n (zz49_E2 kX kO) a0 k1 i5 = zz49_l2 N (zz49_X2 kX) n a0 k1 i5
  | 0, _, _, _ => rfl
  | m + 1, a0, k1, i5 => by
    have hrec : zz49_R2 N m (zz49_E2 kX kO) = (zz49_l2 N (zz49_X2 kX) m) := (funext fun a0 => (funext fun k1 => (funext fun i5 => zz49_iter2 N kX kO m a0 k1 i5)))
    refine (zz49_step2 N m kX kO a0 k1 i5).trans ?_
    rw [hrec]
    rfl
noncomputable abbrev zz49_K2 (N : Nat) : Ex → St → Option Y6 := (blockK 0 (seqK ((A_zz49).shape 13) (run (A_zz49) N (codeAt Try.f16 [1, 1])) zz49_z))
noncomputable abbrev zz49_k2 (N : Nat) : St → Option Y6 := fun st' => run (A_zz49) N (codeAt Try.f16 [1, 1]) st' zz49_z
theorem zz49_after2 (N : Nat) (a0 : Y4) (k1 : Int) : zz49_X2 (zz49_k2 N) a0 k1 = zz49_a2 a0 k1 := by kernel_rfl
theorem zz49_in2 (N : Nat) (a0 : Y4) (k1 : Int) (i5 : Int) : zz49_R2 N N (zz49_K2 N) a0 k1 i5 = zz49_F2 N a0 k1 i5 :=
  have h : zz49_X2 (zz49_k2 N) = (zz49_a2) := (funext fun a0 => (funext fun k1 => zz49_after2 N a0 k1))
  ((iter_ex (fun st => by kernel_rfl) (fun st => by kernel_rfl)).trans (zz49_iter2 N (zz49_k2 N) (fun j st => (zz49_K2 N) (.exit j) st) N a0 k1 i5)).trans (congrArg (fun k => zz49_l2 N k N a0 k1 i5) h)
theorem run0_zz49 (N : Nat) (x : (S_zz49).a.den) : runF (A_zz49) N Try.f16 S_zz49 x = (zz49_s (zz49_R2 N N (zz49_K2 N)) x.1 x.2.1) := by kernel_rfl
theorem run_zz49 (N : Nat) (x : (S_zz49).a.den) : runF (A_zz49) N Try.f16 S_zz49 x = zz49 N x.1 x.2.1 := by
  refine (run0_zz49 N x).trans ?_
  rw [(funext fun a0 => (funext fun k1 => (funext fun i5 => zz49_in2 N a0 k1 i5)))]
  rfl
theorem fn_zz49 : FnOk Try.prog 16 := ⟨_, Try.func16, by kernel_rfl, by kernel_rfl⟩
theorem good_zz49 : Gx.Good Try.prog 16 S_zz49 := good_of_run Try.func16 (of_decide_eq_true (by kernel_rfl)) fun x r h => ⟨A_zz49, big, mkCfg_ok tabOk, mkCfg_sigs (show SigsOk Try.prog [] from trivial), (run_zz49 big x).trans h⟩

/-! zz50 -/
def zz50_b2 (rec : Y3 → Int → Int → Option (Int × Y2)) (k : Y3 → Int → Option (Int × Y2)) (a0 : Y3) (k1 : Int) (i5 : Int) : Option (Int × Y2) :=
  cond (decide (i5 < (a0.length : Int)))
  ((atI a0 i5).bind fun _ =>
  (a0[i5.toNat]?).bind fun xq1 =>
  (a0[i5.toNat]?).bind fun xq2 =>
  (zz49 big xq2 k1).bind fun rq3 =>
  (a0[i5.toNat]?).bind fun xq4 =>
  (a0[i5.toNat]?).bind fun xq5 =>
  rec (a0.set i5.toNat rq3.2.1) rq3.1 (IntKind.i64.wrap (i5 + (1 : Int))))
  (k a0 k1)
def zz50_a2 (a0 : Y3) (k1 : Int) : Option (Int × Y2) :=
  some (k1, (a0, ()))
def zz50_s (L2 : Y3 → Int → Int → Option (Int × Y2)) (a_0 : Y3) (k_1 : Int) : Option (Int × Y2) :=
  L2 a_0 k_1 (0 : Int)
def zz50_l2 (N : Nat) (k : Y3 → Int → Option (Int × Y2)) : Nat → Y3 → Int → Int → Option (Int × Y2)
  | 0, _, _, _ => none
  | m + 1, a0, k1, i5 => zz50_b2 (zz50_l2 N k m) k a0 k1 i5
def zz50_F2 (N : Nat) (a0 : Y3) (k1 : Int) (i5 : Int) : Option (Int × Y2) := zz50_l2 N (zz50_a2) N a0 k1 i5
def zz50 (N : Nat) (a_0 : Y3) (k_1 : Int) : Option (Int × Y2) := zz50_s (zz50_F2 N) a_0 k_1
def S_zz50 : Sig := { a := (.pair (.sl (.sl I)) (.pair I .unit)), md := [1, 0], mf := [(.o (.o .i))], m := (.pair (.sl (.sl I)) .unit), r := I, rf := .i, f := fun x => zz50 big x.1 x.2.1 }
def A_zz50 : Cfg := mkCfg tab [(16, S_zz49)] [(4, [.as (.sl (.sl I)) (.o (.o .i)), .as I .i, .drop, .drop, .drop, .as I .i]), (11, [.as (.sl (.sl I)) (.o (.o .i)), .as I .i])]
noncomputable def zz50_R2 (N n : Nat) (K : Ex → St → Option (Int × Y2)) (a0 : Y3) (k1 : Int) (i5 : Int) : Option (Int × Y2) := iter ((A_zz50).shape 4) (run (A_zz50) N (codeAt Try.f55 [1, 0, 1, 0, 0])) n ([.val (.sl (.sl I)) (.o (.o .i)) a0, .val I .i k1, .u, .u, .u, .val I .i i5] ++ List.replicate 13 .u) K
noncomputable abbrev zz50_z : Ex → St → Option (Int × Y2) := finish (A_zz50) S_zz50 Try.f55.results.toList
noncomputable abbrev zz50_X2 (kX : St → Option (Int × Y2)) : Y3 → Int → Option (Int × Y2) := fun (a0 : Y3) (k1 : Int) => kX ([.val (.sl (.sl I)) (.o (.o .i)) a0, .val I .i k1] ++ List.replicate 17 .u)
noncomputable abbrev zz50_E2 (kX : St → Option (Int × Y2)) (kO : Nat → St → Option (Int × Y2)) : Ex → St → Option (Int × Y2) := exK zz50_z 0 ((A_zz50).shape 11) kX kO
theorem zz50_step2 (N : Nat) (m : Nat) (kX : St → Option (Int × Y2)) (kO : Nat → St → Option (Int × Y2)) (a0 : Y3) (k1 : Int) (i5 : Int) : zz50_R2 N (m + 1) (zz50_E2 kX kO) a0 k1 i5 = zz50_b2 (zz50_R2 N m (zz50_E2 kX kO)) (zz50_X2 kX) a0 k1 i5 := by kernel_rfl
theorem zz50_iter2 (N : Nat) (kX : St → Option (Int × Y2)) (kO : Nat → St → Option (Int × Y2)) : ∀ (n : Nat) (a0 : Y3) (k1 : Int) (i5 : Int), zz50_R2 N n (zz50_E2 kX kO) a0 k1 i5 = zz50_l2 N (zz50_X2 kX) n a0 k1 i5
  | 0, _, _, _ => rfl
  | m + 1, a0, k1, i5 => by
    have hrec : zz50_R2 N m (zz50_E2 kX kO) = (zz50_l2 N (zz50_X2 kX) m) := (funext fun a0 => (funext fun k1 => (funext fun i5 => zz50_iter2 N kX kO m a0 k1 i5)))
    refine (zz50_step2 N m kX kO a0 k1 i5).trans ?_
    rw [hrec]
    rfl
noncomputable abbrev zz50_K2 (N : Nat) : Ex → St → Option (Int × Y2) := (blockK 0 (seqK ((A_zz50).shape 11) (run (A_zz50) N (codeAt Try.f55 [1, 1])) zz50_z))
noncomputable abbrev zz50_k2 (N : Nat) : St → Option (Int × Y2) := fun st' => run (A_zz50) N (codeAt Try.f55 [1, 1]) st' zz50_z
theorem zz50_after2 (N : Nat) (a0 : Y3) (k1 : Int) : zz50_X2 (zz50_k2 N) a0 k1 = zz50_a2 a0 k1 := by kernel_rfl
theorem zz50_in2 (N : Nat) (a0 : Y3) (k1 : Int) (i5 : Int) : zz50_R2 N N (zz50_K2 N) a0 k1 i5 = zz50_F2 N a0 k1 i5 :=
  have h : zz50_X2 (zz50_k2 N) = (zz50_a2) := (funext fun a0 => (funext fun k1 => zz50_after2 N a0 k1))
  ((iter_ex (fun st => by kernel_rfl) (fun st => by kernel_rfl)).trans (zz50_iter2 N (zz50_k2 N) (fun j st => (zz50_K2 N) (.exit j) st) N a0 k1 i5)).trans (congrArg (fun k => zz50_l2 N k N a0 k1 i5) h)
theorem run0_zz50 (N : Nat) (x : (S_zz50).a.den) : runF (A_zz50) N Try.f55 S_zz50 x = (zz50_s (zz50_R2 N N (zz50_K2 N)) x.1 x.2.1) := by kernel_rfl
theorem run_zz50 (N : Nat) (x : (S_zz50).a.den) : runF (A_zz50) N Try.f55 S_zz50 x = zz50 N x.1 x.2.1 := by
  refine (run0_zz50 N x).trans ?_
  rw [(funext fun a0 => (funext fun k1 => (funext fun i5 => zz50_in2 N a0 k1 i5)))]
  rfl
theorem fn_zz50 : FnOk Try.prog 55 := ⟨_, Try.func55, by kernel_rfl, by kernel_rfl⟩
theorem good_zz50 : Gx.Good Try.prog 55 S_zz50 := good_of_run Try.func55 (of_decide_eq_true (by kernel_rfl)) fun x r h => ⟨A_zz50, big, mkCfg_ok tabOk, mkCfg_sigs (show SigsOk Try.prog [(16, S_zz49)] from ⟨⟨fn_zz49, good_zz49⟩, trivial⟩), (run_zz50 big x).trans h⟩

/-! zz51 -/
def zz51 (a_0 : Y2) (k_1 : Int) : Option (Int × (Y2 × Unit)) := (zz50 big a_0.1 k_1).bind fun r => some (r.1, ((r.2.1, ()), ()))
def S_zz51 : Sig := { a := (.pair (.pair (.sl (.sl I)) .unit) (.pair I .unit)), md := [1, 0], mf := [(.p (.o (.o .i)) .i)], m := (.pair (.pair (.sl (.sl I)) .unit) .unit), r := I, rf := .i, f := fun x => zz51 x.1 x.2.1 }
theorem fn_zz51 : FnOk Try.prog 24 := ⟨_, Try.func24, by kernel_rfl, by kernel_rfl⟩
theorem good_zz51 : Gx.Good Try.prog 24 S_zz51   := good_bx1 (A := mkCfg tab [] []) (T := 38) (TS := 31) (mkCfg_ok tabOk) Try.func24 (by kernel_rfl) (by kernel_rfl) fn_zz50 (by kernel_rfl) (by kernel_rfl) good_zz50

/-! zz52 -/
def zz52_b5 (rec : (List (Int × (Int × Unit))) → Int → Int → Int → Option (Int × ((List (Int × (Int × Unit))) × Unit))) (k : (List (Int × (Int × Unit))) → Int → Int → Option (Int × ((List (Int × (Int × Unit))) × Unit))) (a0 : (List (Int × (Int × Unit)))) (k1 : Int) (i5 : Int) (j6 : Int) : Option (Int × ((List (Int × (Int × Unit))) × Unit)) :=
  cond (decide (j6 < (2 : Int)))
  ((atI a0 i5).bind fun _ =>
  cond (decide (j6 = (0 : Int)))
  ((a0[i5.toNat]?).bind fun xq1 =>
  (a0[i5.toNat]?).bind fun xq2 =>
  rec (a0.set i5.toNat (k1, xq2.2)) (IntKind.i64.wrap (k1 + (1 : Int))) i5 (IntKind.i64.wrap (j6 + (1 : Int))))
  (cond (decide (j6 = (1 : Int)))
  ((a0[i5.toNat]?).bind fun xq3 =>
  (a0[i5.toNat]?).bind fun xq4 =>
  rec (a0.set i5.toNat (xq4.1, (k1, xq4.2.2))) (IntKind.i64.wrap (k1 + (1 : Int))) i5 (IntKind.i64.wrap (j6 + (1 : Int))))
  (none)))
  (k a0 k1 i5)
def zz52_a5 (rec : (List (Int × (Int × Unit))) → Int → Int → Option (Int × ((List (Int × (Int × Unit))) × Unit))) (a0 : (List (Int × (Int × Unit)))) (k1 : Int) (i5 : Int) : Option (Int × ((List (Int × (Int × Unit))) × Unit)) :=
  rec a0 k1 (IntKind.i64.wrap (i5 + (1 : Int)))
def zz52_b2 (L5 : (List (Int × (Int × Unit))) → Int → Int → Int → Option (Int × ((List (Int × (Int × Unit))) × Unit))) (k : (List (Int × (Int × Unit))) → Int → Option (Int × ((List (Int × (Int × Unit))) × Unit))) (a0 : (List (Int × (Int × Unit)))) (k1 : Int) (i5 : Int) : Option (Int × ((List (Int × (Int × Unit))) × Unit)) :=
  cond (decide (i5 < (a0.length : Int)))
  (L5 a0 k1 i5 (0 : Int))
  (k a0 k1)
def zz52_a2 (a0 : (List (Int × (Int × Unit)))) (k1 : Int) : Option (Int × ((List (Int × (Int × Unit))) × Unit)) :=
  some (k1, (a0, ()))
def zz52_s (L2 : (List (Int × (Int × Unit))) → Int → Int → Option (Int × ((List (Int × (Int × Unit))) × Unit))) (a_0 : (List (Int × (Int × Unit)))) (k_1 : Int) : Option (Int × ((List (Int × (Int × Unit))) × Unit)) :=
  L2 a_0 k_1 (0 : Int)
def zz52_l5 (N : Nat) (k : (List (Int × (Int × Unit))) → Int → Int → Option (Int × ((List (Int × (Int × Unit))) × Unit))) : Nat → (List (Int × (Int × Unit))) → Int → Int → Int → Option (Int × ((List (Int × (Int × Unit))) × Unit))
  | 0, _, _, _, _ => none
  | m + 1, a0, k1, i5, j6 => zz52_b5 (zz52_l5 N k m) k a0 k1 i5 j6
def zz52_F5 (N : Nat) (rec : (List (Int × (Int × Unit))) → Int → Int → Option (Int × ((List (Int × (Int × Unit))) × Unit))) (k : (List (Int × (Int × Unit))) → Int → Option (Int × ((List (Int × (Int × Unit))) × Unit))) (a0 : (List (Int × (Int × Unit)))) (k1 : Int) (i5 : Int) (j6 : Int) : Option (Int × ((List (Int × (Int × Unit))) × Unit)) := zz52_l5 N (zz52_a5 rec) N a0 k1 i5 j6
def zz52_l2 (N : Nat) (k : (List (Int × (Int × Unit))) → Int → Option (Int × ((List (Int × (Int × Unit))) × Unit))) : Nat → (List (Int × (Int × Unit))) → Int → Int → Option (Int × ((List (Int × (Int × Unit))) × Unit))
  | 0, _, _, _ => none
  | m + 1, a0, k1, i5 => zz52_b2 (zz52_F5 N (zz52_l2 N k m) k) k a0 k1 i5
def zz52_F2 (N : Nat) (a0 : (List (Int × (Int × Unit)))) (k1 : Int) (i5 : Int) : Option (Int × ((List (Int × (Int × Unit))) × Unit)) := zz52_l2 N (zz52_a2) N a0 k1 i5
def zz52 (N : Nat) (a_0 : (List (Int × (Int × Unit)))) (k_1 : Int) : Option (Int × ((List (Int × (Int × Unit))) × Unit)) := zz52_s (zz52_F2 N) a_0 k_1
def S_zz52 : Sig := { a := (.pair (.sl (.pair I (.pair I .unit))) (.pair I .unit)), md := [1, 0], mf := [(.o .i)], m := (.pair (.sl (.pair I (.pair I .unit))) .unit), r := I, rf := .i, f := fun x => zz52 big x.1 x.2.1 }
def A_zz52 : Cfg := mkCfg tab [] [(4, [.as (.sl (.pair I (.pair I .unit))) (.o .i), .as I .i, .drop, .drop, .drop, .as I .i]), (10, [.as (.sl (.pair I (.pair I .unit))) (.o .i), .as I .i, .drop, .drop, .drop, .as I .i, .as I .i]), (19, [.as (.sl (.pair I (.pair I .unit))) (.o .i), .as I .i]), (7, [.as (.sl (.pair I (.pair I .unit))) (.o .i), .as I .i, .drop, .drop, .drop, .as I .i])]
noncomputable def zz52_R2 (N n : Nat) (K : Ex → St → Option (Int × ((List (Int × (Int × Unit))) × Unit))) (a0 : (List (Int × (Int × Unit)))) (k1 : Int) (i5 : Int) : Option (Int × ((List (Int × (Int × Unit))) × Unit)) := iter ((A_zz52).shape 4) (run (A_zz52) N (codeAt Try.f25 [1, 0, 1, 0, 0])) n ([.val (.sl (.pair I (.pair I .unit))) (.o .i) a0, .val I .i k1, .u, .u, .u, .val I .i i5] ++ List.replicate 20 .u) K
noncomputable def zz52_R5 (N n : Nat) (K : Ex → St → Option (Int × ((List (Int × (Int × Unit))) × Unit))) (a0 : (List (Int × (Int × Unit)))) (k1 : Int) (i5 : Int) (j6 : Int) : Option (Int × ((List (Int × (Int × Unit))) × Unit)) := iter ((A_zz52).shape 10) (run (A_zz52) N (codeAt Try.f25 [1, 0, 1, 0, 0, 1, 0, 0, 1, 0, 0])) n ([.val (.sl (.pair I (.pair I .unit))) (.o .i) a0, .val I .i k1, .u, .u, .u, .val I .i i5, .val I .i j6] ++ List.replicate 19 .u) K
noncomputable abbrev zz52_z : Ex → St → Option (Int × ((List (Int × (Int × Unit))) × Unit)) := finish (A_zz52) S_zz52 Try.f25.results.toList
noncomputable abbrev zz52_X2 (kX : St → Option (Int × ((List (Int × (Int × Unit))) × Unit))) : (List (Int × (Int × Unit))) → Int → Option (Int × ((List (Int × (Int × Unit))) × Unit)) := fun (a0 : (List (Int × (Int × Unit)))) (k1 : Int) => kX ([.val (.sl (.pair I (.pair I .unit))) (.o .i) a0, .val I .i k1] ++ List.replicate 24 .u)
noncomputable abbrev zz52_E2 (kX : St → Option (Int × ((List (Int × (Int × Unit))) × Unit))) (kO : Nat → St → Option (Int × ((List (Int × (Int × Unit))) × Unit))) : Ex → St → Option (Int × ((List (Int × (Int × Unit))) × Unit)) := exK zz52_z 0 ((A_zz52).shape 19) kX kO
noncomputable abbrev zz52_X5 (kX : St → Option (Int × ((List (Int × (Int × Unit))) × Unit))) : (List (Int × (Int × Unit))) → Int → Int → Option (Int × ((List (Int × (Int × Unit))) × Unit)) := fun (a0 : (List (Int × (Int × Unit)))) (k1 : Int) (i5 : Int) => kX ([.val (.sl (.pair I (.pair I .unit))) (.o .i) a0, .val I .i k1, .u, .u, .u, .val I .i i5] ++ List.replicate 20 .u)
noncomputable abbrev zz52_E5 (kX : St → Option (Int × ((List (Int × (Int × Unit))) × Unit))) (kO : Nat → St → Option (Int × ((List (Int × (Int × Unit))) × Unit))) : Ex → St → Option (Int × ((List (Int × (Int × Unit))) × Unit)) := exK zz52_z 2 ((A_zz52).shape 7) kX kO
theorem zz52_step5 (N : Nat) (m : Nat) (kX : St → Option (Int × ((List (Int × (Int × Unit))) × Unit))) (kO : Nat → St → Option (Int × ((List (Int × (Int × Unit))) × Unit))) (a0 : (List (Int × (Int × Unit)))) (k1 : Int) (i5 : Int) (j6 : Int) : zz52_R5 N (m + 1) (zz52_E5 kX kO) a0 k1 i5 j6 = zz52_b5 (zz52_R5 N m (zz52_E5 kX kO)) (zz52_X5 kX) a0 k1 i5 j6 := by kernel_rfl
theorem zz52_iter5 (N : Nat) (kX : St → Option (Int × ((List (Int × (Int × Unit))) × Unit))) (kO : Nat → St → Option (Int × ((List (Int × (Int × Unit))) × Unit))) : ∀ (n : Nat) (a0 : (List (Int × (Int × Unit)))) (k1 : Int) (i5 : Int) (j6 : Int), zz52_R5 N n (zz52_E5 kX kO) a0 k1 i5 j6 = zz52_l5 N (zz52_X5 kX) n a0 k1 i5 j6
  | 0, _, _, _, _ => rfl
  | m + 1, a0, k1, i5, j6 => by
    have hrec : zz52_R5 N m (zz52_E5 kX kO) = (zz52_l5 N (zz52_X5 kX) m) := (funext fun a0 => (funext fun k1 => (funext fun i5 => (funext fun j6 => zz52_iter5 N kX kO m a0 k1 i5 j6))))
    refine (zz52_step5 N m kX kO a0 k1 i5 j6).trans ?_
    rw [hrec]
    rfl
noncomputable abbrev zz52_K5 (N : Nat) (m : Nat) (kX : St → Option (Int × ((List (Int × (Int × Unit))) × Unit))) (kO : Nat → St → Option (Int × ((List (Int × (Int × Unit))) × Unit))) : Ex → St → Option (Int × ((List (Int × (Int × Unit))) × Unit)) := (blockK 2 (blockK 1 (seqK ((A_zz52).shape 7) (run (A_zz52) N (codeAt Try.f25 [1, 0, 1, 0, 0, 1, 1])) (iterK ((A_zz52).shape 4) (run (A_zz52) N (codeAt Try.f25 [1, 0, 1, 0, 0])) m (zz52_E2 kX kO)))))
noncomputable abbrev zz52_k5 (N : Nat) (m : Nat) (kX : St → Option (Int × ((List (Int × (Int × Unit))) × Unit))) (kO : Nat → St → Option (Int × ((List (Int × (Int × Unit))) × Unit))) : St → Option (Int × ((List (Int × (Int × Unit))) × Unit)) := fun st' => run (A_zz52) N (codeAt Try.f25 [1, 0, 1, 0, 0, 1, 1]) st' (iterK ((A_zz52).shape 4) (run (A_zz52) N (codeAt Try.f25 [1, 0, 1, 0, 0])) m (zz52_E2 kX kO))
theorem zz52_after5 (N : Nat) (m : Nat) (kX : St → Option (Int × ((List (Int × (Int × Unit))) × Unit))) (kO : Nat → St → Option (Int × ((List (Int × (Int × Unit))) × Unit))) (a0 : (List (Int × (Int × Unit)))) (k1 : Int) (i5 : Int) : zz52_X5 (zz52_k5 N m kX kO) a0 k1 i5 = zz52_a5 (zz52_R2 N m (zz52_E2 kX kO)) a0 k1 i5 := by kernel_rfl
theorem zz52_in5 (N : Nat) (m : Nat) (kX : St → Option (Int × ((List (Int × (Int × Unit))) × Unit))) (kO : Nat → St → Option (Int × ((List (Int × (Int × Unit))) × Unit))) (recF : (List (Int × (Int × Unit))) → Int → Int → Option (Int × ((List (Int × (Int × Unit))) × Unit))) (hrec : zz52_R2 N m (zz52_E2 kX kO) = recF) (a0 : (List (Int × (Int × Unit)))) (k1 : Int) (i5 : Int) (j6 : Int) : zz52_R5 N N (zz52_K5 N m kX kO) a0 k1 i5 j6 = zz52_F5 N recF (zz52_X2 kX) a0 k1 i5 j6 :=
  have h : zz52_X5 (zz52_k5 N m kX kO) = (zz52_a5 recF) := (funext fun a0 => (funext fun k1 => (funext fun i5 => (zz52_after5 N m kX kO a0 k1 i5).trans (by rw [hrec]))))
  ((iter_ex (fun st => by kernel_rfl) (fun st => by kernel_rfl)).trans (zz52_iter5 N (zz52_k5 N m kX kO) (fun j st => (zz52_K5 N m kX kO) (.exit j) st) N a0 k1 i5 j6)).trans (congrArg (fun k => zz52_l5 N k N a0 k1 i5 j6) h)
theorem zz52_step2 (N : Nat) (m : Nat) (kX : St → Option (Int × ((List (Int × (Int × Unit))) × Unit))) (kO : Nat → St → Option (Int × ((List (Int × (Int × Unit))) × Unit))) (a0 : (List (Int × (Int × Unit)))) (k1 : Int) (i5 : Int) : zz52_R2 N (m + 1) (zz52_E2 kX kO) a0 k1 i5 = zz52_b2 (zz52_R5 N N (zz52_K5 N m kX kO)) (zz52_X2 kX) a0 k1 i5 := by kernel_rfl
theorem zz52_iter2 (N : Nat) (kX : St → Option (Int × ((List (Int × (Int × Unit))) × Unit))) (kO : Nat → St → Option (Int × ((List (Int × (Int × Unit))) × Unit))) : ∀ (n : Nat) (a0 : (List (Int × (Int × Unit)))) (k1 : Int) (i5 : Int), zz52_R2 N n (zz52_E2 kX kO) a0 k1 i5 = zz52_l2 N (zz52_X2 kX) n a0 k1 i5
  | 0, _, _, _ => rfl
  | m + 1, a0, k1, i5 => by
    have hrec : zz52_R2 N m (zz52_E2 kX kO) = (zz52_l2 N (zz52_X2 kX) m) := (funext fun a0 => (funext fun k1 => (funext fun i5 => zz52_iter2 N kX kO m a0 k1 i5)))
    refine (zz52_step2 N m kX kO a0 k1 i5).trans ?_
    rw [(funext fun a0 => (funext fun k1 => (funext fun i5 => (funext fun j6 => zz52_in5 N m kX kO (zz52_l2 N (zz52_X2 kX) m) hrec a0 k1 i5 j6))))]
    rfl
noncomputable abbrev zz52_K2 (N : Nat) : Ex → St → Option (Int × ((List (Int × (Int × Unit))) × Unit)) := (blockK 0 (seqK ((A_zz52).shape 19) (run (A_zz52) N (codeAt Try.f25 [1, 1])) zz52_z))
noncomputable abbrev zz52_k2 (N : Nat) : St → Option (Int × ((List (Int × (Int × Unit))) × Unit)) := fun st' => run (A_zz52) N (codeAt Try.f25 [1, 1]) st' zz52_z
theorem zz52_after2 (N : Nat) (a0 : (List (Int × (Int × Unit)))) (k1 : Int) : zz52_X2 (zz52_k2 N) a0 k1 = zz52_a2 a0 k1 := by kernel_rfl
theorem zz52_in2 (N : Nat) (a0 : (List (Int × (Int × Unit)))) (k1 : Int) (i5 : Int) : zz52_R2 N N (zz52_K2 N) a0 k1 i5 = zz52_F2 N a0 k1 i5 :=
  have h : zz52_X2 (zz52_k2 N) = (zz52_a2) := (funext fun a0 => (funext fun k1 => zz52_after2 N a0 k1))
  ((iter_ex (fun st => by kernel_rfl) (fun st => by kernel_rfl)).trans (zz52_iter2 N (zz52_k2 N) (fun j st => (zz52_K2 N) (.exit j) st) N a0 k1 i5)).trans (congrArg (fun k => zz52_l2 N k N a0 k1 i5) h)
theorem run0_zz52 (N : Nat) (x : (S_zz52).a.den) : runF (A_zz52) N Try.f25 S_zz52 x = (zz52_s (zz52_R2 N N (zz52_K2 N)) x.1 x.2.1) := by kernel_rfl
theorem run_zz52 (N : Nat) (x : (S_zz52).a.den) : runF (A_zz52) N Try.f25 S_zz52 x = zz52 N x.1 x.2.1 := by
  refine (run0_zz52 N x).trans ?_
  rw [(funext fun a0 => (funext fun k1 => (funext fun i5 => zz52_in2 N a0 k1 i5)))]
  rfl
theorem fn_zz52 : FnOk Try.prog 25 := ⟨_, Try.func25, by kernel_rfl, by kernel_rfl⟩
theorem good_zz52 : Gx.Good Try.prog 25 S_zz52 := good_of_run Try.func25 (of_decide_eq_true (by kernel_rfl)) fun x r h => ⟨A_zz52, big, mkCfg_ok tabOk, mkCfg_sigs (show SigsOk Try.prog [] from trivial), (run_zz52 big x).trans h⟩

/-! zz53 -/
def zz53_b5 (rec : (List (Int × (Int × Unit))) → Int → Int → Int → Option (Int × Unit)) (k : (List (Int × (Int × Unit))) → Int → Int → Option (Int × Unit)) (a0 : (List (Int × (Int × Unit)))) (k1 : Int) (i5 : Int) (j6 : Int) : Option (Int × Unit) :=
  cond (decide (j6 < (2 : Int)))
  ((atI a0 i5).bind fun xq1 =>
  cond (decide (j6 = (0 : Int)))
  (cond (decide (xq1.1 ≠ k1))
  (some ((-1 : Int), (())))
  (rec a0 (IntKind.i64.wrap (k1 + (1 : Int))) i5 (IntKind.i64.wrap (j6 + (1 : Int)))))
  (cond (decide (j6 = (1 : Int)))
  (cond (decide (xq1.2.1 ≠ k1))
  (some ((-1 : Int), (())))
  (rec a0 (IntKind.i64.wrap (k1 + (1 : Int))) i5 (IntKind.i64.wrap (j6 + (1 : Int)))))
  (none)))
  (k a0 k1 i5)
def zz53_a5 (rec : (List (Int × (Int × Unit))) → Int → Int → Option (Int × Unit)) (a0 : (List (Int × (Int × Unit)))) (k1 : Int) (i5 : Int) : Option (Int × Unit) :=
  rec a0 k1 (IntKind.i64.wrap (i5 + (1 : Int)))
def zz53_b2 (L5 : (List (Int × (Int × Unit))) → Int → Int → Int → Option (Int × Unit)) (k : Int → Option (Int × Unit)) (a0 : (List (Int × (Int × Unit)))) (k1 : Int) (i5 : Int) : Option (Int × Unit) :=
  cond (decide (i5 < (a0.length : Int)))
  (L5 a0 k1 i5 (0 : Int))
  (k k1)
def zz53_a2 (k1 : Int) : Option (Int × Unit) :=
  some (k1, (()))
def zz53_s (L2 : (List (Int × (Int × Unit))) → Int → Int → Option (Int × Unit)) (a_0 : (List (Int × (Int × Unit)))) (k_1 : Int) : Option (Int × Unit) :=
  L2 a_0 k_1 (0 : Int)
def zz53_l5 (N : Nat) (k : (List (Int × (Int × Unit))) → Int → Int → Option (Int × Unit)) : Nat → (List (Int × (Int × Unit))) → Int → Int → Int → Option (Int × Unit)
  | 0, _, _, _, _ => none
  | m + 1, a0, k1, i5, j6 => zz53_b5 (zz53_l5 N k m) k a0 k1 i5 j6
def zz53_F5 (N : Nat) (rec : (List (Int × (Int × Unit))) → Int → Int → Option (Int × Unit)) (k : Int → Option (Int × Unit)) (a0 : (List (Int × (Int × Unit)))) (k1 : Int) (i5 : Int) (j6 : Int) : Option (Int × Unit) := zz53_l5 N (zz53_a5 rec) N a0 k1 i5 j6
def zz53_l2 (N : Nat) (k : Int → Option (Int × Unit)) : Nat → (List (Int × (Int × Unit))) → Int → Int → Option (Int × Unit)
  | 0, _, _, _ => none
  | m + 1, a0, k1, i5 => zz53_b2 (zz53_F5 N (zz53_l2 N k m) k) k a0 k1 i5
def zz53_F2 (N : Nat) (a0 : (List (Int × (Int × Unit)))) (k1 : Int) (i5 : Int) : Option (Int × Unit) := zz53_l2 N (zz53_a2) N a0 k1 i5
def zz53 (N : Nat) (a_0 : (List (Int × (Int × Unit)))) (k_1 : Int) : Option (Int × Unit) := zz53_s (zz53_F2 N) a_0 k_1
def S_zz53 : Sig := { a := (.pair (.sl (.pair I (.pair I .unit))) (.pair I .unit)), md := [0, 0], mf := [], m := .unit, r := I, rf := .i, f := fun x => zz53 big x.1 x.2.1 }
def A_zz53 : Cfg := mkCfg tab [] [(4, [.as (.sl (.pair I (.pair I .unit))) .i, .as I .i, .drop, .drop, .drop, .as I .i]), (10, [.as (.sl (.pair I (.pair I .unit))) .i, .as I .i, .drop, .drop, .drop, .as I .i, .as I .i]), (21, [.drop, .as I .i]), (7, [.as (.sl (.pair I (.pair I .unit))) .i, .as I .i, .drop, .drop, .drop, .as I .i])]
noncomputable def zz53_R2 (N n : Nat) (K : Ex → St → Option (Int × Unit)) (a0 : (List (Int × (Int × Unit)))) (k1 : Int) (i5 : Int) : Option (Int × Unit) := iter ((A_zz53).shape 4) (run (A_zz53) N (codeAt Try.f26 [1, 0, 1, 0, 0])) n ([.val (.sl (.pair I (.pair I .unit))) .i a0, .val I .i k1, .u, .u, .u, .val I .i i5] ++ List.replicate 22 .u) K
noncomputable def zz53_R5 (N n : Nat) (K : Ex → St → Option (Int × Unit)) (a0 : (List (Int × (Int × Unit)))) (k1 : Int) (i5 : Int) (j6 : Int) : Option (Int × Unit) := iter ((A_zz53).shape 10) (run (A_zz53) N (codeAt Try.f26 [1, 0, 1, 0, 0, 1, 0, 0, 1, 0, 0])) n ([.val (.sl (.pair I (.pair I .unit))) .i a0, .val I .i k1, .u, .u, .u, .val I .i i5, .val I .i j6] ++ List.replicate 21 .u) K
noncomputable abbrev zz53_z : Ex → St → Option (Int × Unit) := finish (A_zz53) S_zz53 Try.f26.results.toList
noncomputable abbrev zz53_X2 (kX : St → Option (Int × Unit)) : Int → Option (Int × Unit) := fun (k1 : Int) => kX ([.u, .val I .i k1] ++ List.replicate 26 .u)
noncomputable abbrev zz53_E2 (kX : St → Option (Int × Unit)) (kO : Nat → St → Option (Int × Unit)) : Ex → St → Option (Int × Unit) := exK zz53_z 0 ((A_zz53).shape 21) kX kO
noncomputable abbrev zz53_X5 (kX : St → Option (Int × Unit)) : (List (Int × (Int × Unit))) → Int → Int → Option (Int × Unit) := fun (a0 : (List (Int × (Int × Unit)))) (k1 : Int) (i5 : Int) => kX ([.val (.sl (.pair I (.pair I .unit))) .i a0, .val I .i k1, .u, .u, .u, .val I .i i5] ++ List.replicate 22 .u)
noncomputable abbrev zz53_E5 (kX : St → Option (Int × Unit)) (kO : Nat → St → Option (Int × Unit)) : Ex → St → Option (Int × Unit) := exK zz53_z 2 ((A_zz53).shape 7) kX kO
theorem zz53_step5 (N : Nat) (m : Nat) (kX : St → Option (Int × Unit)) (kO : Nat → St → Option (Int × Unit)) (a0 : (List (Int × (Int × Unit)))) (k1 : Int) (i5 : Int) (j6 : Int) : zz53_R5 N (m + 1) (zz53_E5 kX kO) a0 k1 i5 j6 = zz53_b5 (zz53_R5 N m (zz53_E5 kX kO)) (zz53_X5 kX) a0 k1 i5 j6 := by kernel_rfl
theorem zz53_iter5 (N : Nat) (kX : St → Option (Int × Unit)) (kO : Nat → St → Option (Int × Unit)) : ∀ (n : Nat) (a0 : (List (Int × (Int × Unit)))) (k1 : Int) (i5 : Int) (j6 : Int), zz53_R5 N n (zz53_E5 kX kO) a0 k1 i5 j6 = zz53_l5 N (zz53_X5 kX) n a0 k1 i5 j6
  | 0, _, _, _, _ => rfl
  | m + 1, a0, k1, i5, j6 => by
    have hrec : zz53_R5 N m (zz53_E5 kX kO) = (zz53_l5 N (zz53_X5 kX) m) := (funext fun a0 => (funext fun k1 => (funext fun i5 => (funext fun j6 => zz53_iter5 N kX kO m a0 k1 i5 j6))))
    refine (zz53_step5 N m kX kO a0 k1 i5 j6).trans ?_
    rw [hrec]
    rfl
noncomputable abbrev zz53_K5 (N : Nat) (m : Nat) (kX : St → Option (Int × Unit)) (kO : Nat → St → Option (Int × Unit)) : Ex → St → Option (Int × Unit) := (blockK 2 (blockK 1 (seqK ((A_zz53).shape 7) (run (A_zz53) N (codeAt Try.f26 [1, 0, 1, 0, 0, 1, 1])) (iterK ((A_zz53).shape 4) (run (A_zz53) N (codeAt Try.f26 [1, 0, 1, 0, 0])) m (zz53_E2 kX kO)))))
noncomputable abbrev zz53_k5 (N : Nat) (m : Nat) (kX : St → Option (Int × Unit)) (kO : Nat → St → Option (Int × Unit)) : St → Option (Int × Unit) := fun st' => run (A_zz53) N (codeAt Try.f26 [1, 0, 1, 0, 0, 1, 1]) st' (iterK ((A_zz53).shape 4) (run (A_zz53) N (codeAt Try.f26 [1, 0, 1, 0, 0])) m (zz53_E2 kX kO))
theorem zz53_after5 (N : Nat) (m : Nat) (kX : St → Option (Int × Unit)) (kO : Nat → St → Option (Int × Unit)) (a0 : (List (Int × (Int × Unit)))) (k1 : Int) (i5 : Int) : zz53_X5 (zz53_k5 N m kX kO) a0 k1 i5 = zz53_a5 (zz53_R2 N m (zz53_E2 kX kO)) a0 k1 i5 := by kernel_rfl
theorem zz53_in5 (N : Nat) (m : Nat) (kX : St → Option (Int × Unit)) (kO : Nat → St → Option (Int × Unit)) (recF : (List (Int × (Int × Unit))) → Int → Int → Option (Int × Unit)) (hrec : zz53_R2 N m (zz53_E2 kX kO) = recF) (a0 : (List (Int × (Int × Unit)))) (k1 : Int) (i5 : Int) (j6 : Int) : zz53_R5 N N (zz53_K5 N m kX kO) a0 k1 i5 j6 = zz53_F5 N recF (zz53_X2 kX) a0 k1 i5 j6 :=
  have h : zz53_X5 (zz53_k5 N m kX kO) = (zz53_a5 recF) := (funext fun a0 => (funext fun k1 => (funext fun i5 => (zz53_after5 N m kX kO a0 k1 i5).trans (by rw [hrec]))))
  ((iter_ex (fun st => by kernel_rfl) (fun st => by kernel_rfl)).trans (zz53_iter5 N (zz53_k5 N m kX kO) (fun j st => (zz53_K5 N m kX kO) (.exit j) st) N a0 k1 i5 j6)).trans (congrArg (fun k => zz53_l5 N k N a0 k1 i5 j6) h)
theorem zz53_step2 (N : Nat) (m : Nat) (kX : St → Option (Int × Unit)) (kO : Nat → St → Option (Int × Unit)) (a0 : (List (Int × (Int × Unit)))) (k1 : Int) (i5 : Int) : zz53_R2 N (m + 1) (zz53_E2 kX kO) a0 k1 i5 = zz53_b2 (zz53_R5 N N (zz53_K5 N m kX kO)) (zz53_X2 kX) a0 k1 i5 := by kernel_rfl
theorem zz53_iter2 (N : Nat) (kX : St → Option (Int × Unit)) (kO : Nat → St → Option (Int × Unit)) : ∀ (n : Nat) (a0 : (List (Int × (Int × Unit)))) (k1 : Int) (i5 : Int), zz53_R2 N n (zz53_E2 kX kO) a0 k1 i5 = zz53_l2 N (zz53_X2 kX) n a0 k1 i5
  | 0, _, _, _ => rfl
  | m + 1, a0, k1, i5 => by
    have hrec : zz53_R2 N m (zz53_E2 kX kO) = (zz53_l2 N (zz53_X2 kX) m) := (funext fun a0 => (funext fun k1 => (funext fun i5 => zz53_iter2 N kX kO m a0 k1 i5)))
    refine (zz53_step2 N m kX kO a0 k1 i5).trans ?_
    rw [(funext fun a0 => (funext fun k1 => (funext fun i5 => (funext fun j6 => zz53_in5 N m kX kO (zz53_l2 N (zz53_X2 kX) m) hrec a0 k1 i5 j6))))]
    rfl
noncomputable abbrev zz53_K2 (N : Nat) : Ex → St → Option (Int × Unit) := (blockK 0 (seqK ((A_zz53).shape 21) (run (A_zz53) N (codeAt Try.f26 [1, 1])) zz53_z))
noncomputable abbrev zz53_k2 (N : Nat) : St → Option (Int × Unit) := fun st' => run (A_zz53) N (codeAt Try.f26 [1, 1]) st' zz53_z
theorem zz53_after2 (N : Nat) (k1 : Int) : zz53_X2 (zz53_k2 N) k1 = zz53_a2 k1 := by kernel_rfl
theorem zz53_in2 (N : Nat) (a0 : (List (Int × (Int × Unit)))) (k1 : Int) (i5 : Int) : zz53_R2 N N (zz53_K2 N) a0 k1 i5 = zz53_F2 N a0 k1 i5 :=
  have h : zz53_X2 (zz53_k2 N) = (zz53_a2) := (funext fun k1 => zz53_after2 N k1)
  ((iter_ex (fun st => by kernel_rfl) (fun st => by kernel_rfl)).trans (zz53_iter2 N (zz53_k2 N) (fun j st => (zz53_K2 N) (.exit j) st) N a0 k1 i5)).trans (congrArg (fun k => zz53_l2 N k N a0 k1 i5) h)
theorem run0_zz53 (N : Nat) (x : (S_zz53).a.den) : runF (A_zz53) N Try.f26 S_zz53 x = (zz53_s (zz53_R2 N N (zz53_K2 N)) x.1 x.2.1) := by kernel_rfl
theorem run_zz53 (N : Nat) (x : (S_zz53).a.den) : runF (A_zz53) N Try.f26 S_zz53 x = zz53 N x.1 x.2.1 := by
  refine (run0_zz53 N x).trans ?_
  rw [(funext fun a0 => (funext fun k1 => (funext fun i5 => zz53_in2 N a0 k1 i5)))]
  rfl
theorem fn_zz53 : FnOk Try.prog 26 := ⟨_, Try.func26, by kernel_rfl, by kernel_rfl⟩
theorem good_zz53 : Gx.Good Try.prog 26 S_zz53 := good_of_run Try.func26 (of_decide_eq_true (by kernel_rfl)) fun x r h => ⟨A_zz53, big, mkCfg_ok tabOk, mkCfg_sigs (show SigsOk Try.prog [] from trivial), (run_zz53 big x).trans h⟩

/-! laws_FnExactProjectiveTo -/
def laws_FnExactProjectiveTo_s (aP_0 : Y2) (aX_1 : Int) (aY_2 : Int) : Option (Bool × Unit) :=
  (zz2 aP_0 (1048576 : Int)).bind fun rq1 =>
  cond (decide (rq1.1 < (0 : Int)))
  (some (true, (())))
  ((zz5 aP_0).bind fun rq2 =>
  (zz24 big rq2.1 aX_1 aY_2).bind fun rq3 =>
  (zz5 aP_0).bind fun rq4 =>
  (zz43 big rq4.1 aX_1 aY_2).bind fun rq5 =>
  (zz45 big rq5.1.1 rq3.1.1).bind fun rq6 =>
  cond (!rq6.1)
  (some (false, (())))
  (cond (((((), rq5.1.2).2).1) != ((((), rq3.1.2).2).1))
  (some (false, (())))
  ((zz5 aP_0).bind fun rq7 =>
  (zz48 rq4.1 rq7.1).bind fun rq8 =>
  cond (!rq8.1)
  (some (false, (())))
  ((zz51 rq4.1 (1 : Int)).bind fun rq9 =>
  cond (decide (rq9.1 < (0 : Int)))
  (some (false, (())))
  ((zz45 big rq5.1.1 rq3.1.1).bind fun rq10 =>
  cond (!rq10.1)
  (some (false, (())))
  (cond (((((), rq5.1.2).2).1) != ((((), rq3.1.2).2).1))
  (some (false, (())))
  ((zz52 big rq5.1.1 (1 : Int)).bind fun rq11 =>
  (zz53 big rq11.2.1 (1 : Int)).bind fun rq12 =>
  cond (decide (rq12.1 < (0 : Int)))
  (some (false, (())))
  (cond (decide (rq12.1 ≠ rq11.1))
  (some (false, (())))
  ((zz5 aP_0).bind fun rq13 =>
  (zz43 big rq13.1 aX_1 aY_2).bind fun rq14 =>
  (zz45 big rq14.1.1 rq3.1.1).bind fun rq15 =>
  cond (!rq15.1)
  (some (false, (())))
  (cond (((((), rq14.1.2).2).1) != ((((), rq3.1.2).2).1))
  (some (false, (())))
  ((zz53 big rq11.2.1 (1 : Int)).bind fun rq16 =>
  cond (decide (rq16.1 < (0 : Int)))
  (some (false, (())))
  (cond (decide (rq16.1 ≠ rq11.1))
  (some (false, (())))
  (some (true, (())))))))))))))))
def laws_FnExactProjectiveTo (aP_0 : Y2) (aX_1 : Int) (aY_2 : Int) : Option (Bool × Unit) := laws_FnExactProjectiveTo_s aP_0 aX_1 aY_2
def S_laws_FnExactProjectiveTo : Sig := { a := (.pair (.pair (.sl (.sl I)) .unit) (.pair I (.pair I .unit))), md := [0, 0, 0], mf := [], m := .unit, r := .bool, rf := .i, f := fun x => laws_FnExactProjectiveTo x.1 x.2.1 x.2.2.1 }
def A_laws_FnExactProjectiveTo : Cfg := mkCfg tab [(18, S_zz2), (20, S_zz5), (19, S_zz24), (21, S_zz43), (22, S_zz45), (23, S_zz48), (24, S_zz51), (25, S_zz52), (26, S_zz53)] []
theorem run_laws_FnExactProjectiveTo (N : Nat) (x : (S_laws_FnExactProjectiveTo).a.den) : runF (A_laws_FnExactProjectiveTo) N Try.f6 S_laws_FnExactProjectiveTo x = laws_FnExactProjectiveTo x.1 x.2.1 x.2.2.1 := by kernel_rfl
theorem fn_laws_FnExactProjectiveTo : FnOk Try.prog 6 := ⟨_, Try.func6, by kernel_rfl, by kernel_rfl⟩
theorem good_laws_FnExactProjectiveTo : Gx.Good Try.prog 6 S_laws_FnExactProjectiveTo := good_of_run Try.func6 (of_decide_eq_true (by kernel_rfl)) fun x r h => ⟨A_laws_FnExactProjectiveTo, big, mkCfg_ok tabOk, mkCfg_sigs (show SigsOk Try.prog [(18, S_zz2), (20, S_zz5), (19, S_zz24), (21, S_zz43), (22, S_zz45), (23, S_zz48), (24, S_zz51), (25, S_zz52), (26, S_zz53)] from ⟨⟨fn_zz2, good_zz2⟩, ⟨fn_zz5, good_zz5⟩, ⟨fn_zz24, good_zz24⟩, ⟨fn_zz43, good_zz43⟩, ⟨fn_zz45, good_zz45⟩, ⟨fn_zz48, good_zz48⟩, ⟨fn_zz51, good_zz51⟩, ⟨fn_zz52, good_zz52⟩, ⟨fn_zz53, good_zz53⟩, trivial⟩), (run_laws_FnExactProjectiveTo big x).trans h⟩
end Go.Proofs.Ytiklgbjlggcejaa
